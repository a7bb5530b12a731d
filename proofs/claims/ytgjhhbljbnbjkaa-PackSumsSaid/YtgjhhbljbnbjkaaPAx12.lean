-- Laid by a program of this work over the seat's translation.
import Derived.Test.YtgjhhbljbnbjkaaPAx0
import Derived.Test.YtgjhhbljbnbjkaaPAx2
import Derived.Test.YtgjhhbljbnbjkaaPAx10
import Derived.Test.YtgjhhbljbnbjkaaPAx11
namespace Go.Proofs.Ytgjhhbljbnbjkaa.PA
open Go.RowKit Go.Proofs.YtgjhhbljbnbjkaaW.PrintWords Go.Proofs.YtgjhhbljbnbjkaaW.PrintLast Go.Proofs.YtgjhhbljbnbjkaaW.PrintMore
attribute [local go_sem] max2_int min2_int max_two min_two max_three min_three max_four min_four   -- for this text's walks alone
set_option linter.unusedVariables false
set_option linter.unusedSimpArgs false

/-! ### cisternref03_Encode: function 28 (by hand) -/
theorem u64_div (x : Int) (h0 : 0 ≤ x) (h1 : x < 18446744073709551616) : IntKind.u64.wrap (Int.tdiv x 256) = x / 256 := by
  rw [Int.tdiv_eq_ediv_of_nonneg h0]
  simp only [IntKind.wrap, IntKind.signed, IntKind.bits]
  simp
  omega
theorem little_tells (n : Nat) (hn : (n : Int) ≤ 1000) : ∀ (d k : Nat) (x : Int) (acc : List Int) (i : Int), 0 ≤ x → x < 18446744073709551616 → 0 ≤ i → i + d = n → d < k → acc.length + d ≤ 100000 →
    cisternref03_little.l0 k x n acc i = some (strOfNums (acc ++ leB x d)) := by
  intro d
  induction d with
  | zero =>
    intro k x acc i h0 h1 hi hd hk ha
    obtain ⟨k, rfl⟩ : ∃ m, k = m + 1 := ⟨k - 1, by omega⟩
    simp only [cisternref03_little.l0]
    rw [if_neg (by omega)]
    simp [leB]
  | succ d ih =>
    intro k x acc i h0 h1 hi hd hk ha
    obtain ⟨k, rfl⟩ : ∃ m, k = m + 1 := ⟨k - 1, by omega⟩
    simp only [cisternref03_little.l0]
    rw [if_pos (by omega), if_pos (by omega), u64_div x h0 h1, show wrap64 (i + 1) = i + 1 by unfold wrap64; omega]
    rw [ih k (x / 256) (acc ++ [x % 256]) (i + 1) (by omega) (by omega) (by omega) (by omega) (by omega) (by simp; omega)]
    simp [leB]
theorem little_val (x : Int) (n : Nat) (h0 : 0 ≤ x) (h1 : x < 18446744073709551616) (hn : n ≤ 8) : cisternref03_little.f 10 x n = some (strOfNums (leB x n)) := by
  rw [cisternref03_little.f, little_tells n (by omega) n 10 x [] 0 h0 h1 (by omega) (by omega) (by omega) (by simp; omega)]
  simp
theorem little_len (n : Nat) (h : n ≤ 50000) : cisternref03_little.f 10 (IntKind.u64.wrap (n : Int)) 2 = some (strOfNums (leB (n : Int) 2)) := by
  rw [u64_id _ (by omega) (by omega)]
  exact little_val (n : Int) 2 (by omega) (by omega) (by omega)

def cisternref03_Encode.f (l0 : List (S46)) : Option ByteArray := if encOk l0 = true then some (strOfNums (encL l0)) else none
set_option maxHeartbeats 4000000 in
set_option maxRecDepth 100000 in
theorem cisternref03_Encode.calls (A0 : Option Addr) (c0 : Nat) (l0 : List (S46)) (r : ByteArray) (w : World) (hr0 : Kd.C k46 w A0 l0.length l0) (hc0 : l0.length ≤ c0) (h : cisternref03_Encode.f l0 = some r) :
    Calls Try.prog 28 #[.slice A0 l0.length c0] w fun e w' => e = .returned (.string r) ∧ Below w.heap.size w w' := by
  unfold cisternref03_Encode.f at h
  by_cases hok : encOk l0 = true
  · rw [if_pos hok] at h
    have Hr := Aside0.mk (Option.some.inj h)
    have HR := Aside0.mk hr0
    have HC := Aside0.mk hc0
    have HK := Aside0.mk hok
    have hlen : l0.length ≤ 4000 := (encOk_iff hok).1
    clear h hr0 hc0 hok
    go_enter Try.func28, Try.ntmps28
    go_wp2
    go_loopw [3, 4] (fun v3 v w' => ∃ i : Int, 0 ≤ i ∧ i ≤ l0.length ∧ v = .int .i64 i ∧ Aside0 (Kd.R (Kd.int .u8) 5 w' w.heap.size (fun _ => True) v3 (encL (l0.take i.toNat))) ∧ Aside0 (Below w.heap.size w w')) (fun _ v _ => (l0.length - intOf v).toNat)
    case atStart => exact ⟨0, by omega, by omega, rfl, ⟨by simpa [encL] using Kd.R_nil _ _ _ _ _⟩, ⟨Below.refl _ _⟩⟩
    case round =>
      obtain ⟨i, hi0, hi1, rfl, HO, HB⟩ := hrel
      by_cases hlt : i < l0.length
      · obtain ⟨ad, e, hx0, hx1, hx2⟩ := at_T46 (Kd.C_below HR.out HB.out) i hi0 hlt
        subst e
        cases hk : ((rd_T46 l0 i).f0 == 1)
        · obtain ⟨ad2, e2, hy0, hy1, hy2⟩ := at_T46 HR.out i hi0 hlt
          cases e2
          have hbl : (ad.add (i.toNat * 3)).block < w.heap.size := World.block_lt_of_cell? w _ hy0
          have Y1 := Aside0.mk hy2
          clear hy0 hy1 hy2
          have HL := Aside0.mk (encL_take_len HK.out i.toNat)
          have hz : (rd_T46 l0 i).f2.size ≤ 50000 := ((encOk_iff HK.out).2 _ (rd_mem hi0 hlt)).resolve_left (by simpa using hk)
          have LV := Aside0.mk (little_len (rd_T46 l0 i).f2.size hz)
          have HE := Aside0.mk (encL_take l0 i hi0 hlt)
          have HI : Aside0 (encI (rd_T46 l0 i) = 2 :: (leB ((rd_T46 l0 i).f2.size : Int) 2 ++ bytesOf (rd_T46 l0 i).f2)) := ⟨by rw [encI, if_neg (by simpa using hk)]⟩
          have HZ := Aside0.mk hz
          go_wp2_with fail
          go_region_held3 (fun w' => w'.cell? ⟨(ad.add (i.toNat * 3)).block, (ad.add (i.toNat * 3)).off + 2, none⟩ = some (.string (rd_T46 l0 i).f2))
            (first | go_keep | (exact (HB1.out.cell (p := ⟨_, _, none⟩) hbl).trans Y1.out) | (exact (HB2.out.cell (p := ⟨_, _, none⟩) hbl).trans Y1.out) | (exact (HB3.out.cell (p := ⟨_, _, none⟩) hbl).trans Y1.out) | (exact (HB4.out.cell (p := ⟨_, _, none⟩) hbl).trans Y1.out) | fail)
            (first
              | (refine Kd.R_append_rows_step (Kd.int .u8) (w0 := w) w.heap.size (by rfl) (.tmp 28) (.tmp 29) 24 5 (.int .u8 0) 1 (by rfl) Try.underlying24 info5 (by rfl) (by decide) (by omega) _ (encL (l0.take i.toNat)) [2] _ _ _ (fun _ => True) (fun _ => False) (by rfl) (by rfl) ?hO ?hC (fun _ _ h => h) (fun _ h => h.elim) (fun _ _ => trivial) ?hB ?hS ?hL ?_; (case hO => (exact Kd.R_drew (Kd.R_alloc HO.out _))); (case hC => exact Kd.C_drew (lit_new wr 2 5 _ rfl)); (case hB => exact (below_alloc HB.out _).drew); (case hS => exact ((below_alloc HB.out _).drew).size); (case hL => have := HL.out; simp; omega); intro v1 w1 hR hB hg hat; have HO1 := Aside0.mk hR; have HB1 := Aside0.mk hB; clear hR hB hat hg)
              | (go_at_call 26; refine (cisternref03_little.calls 10 _ _ _ _ LV.out).mono ?_; rintro e w2 ⟨rfl, hb2⟩; have HO2 := Aside0.mk (Kd.R_below HO1.out hb2); have HB2 := Aside0.mk (HB1.out.trans (hb2.mono HB1.out.size)); clear hb2)
              | (refine R_append_str_step (w0 := w) w.heap.size (by rfl) (.tmp 30) (.tmp 38) 24 9 5 (by rfl) Try.underlying24 Try.underlying9 info5 _ (encL (l0.take i.toNat) ++ [2]) (strOfNums (leB ((rd_T46 l0 i).f2.size : Int) 2)) (by rfl) (by rfl) HO2.out HB2.out HB2.out.size ?hL ?_; (case hL => have := HL.out; simp [size_strOfNums, leB_length]; omega); intro v3 w3 hR hB hg; have HO3 := Aside0.mk hR; have HB3 := Aside0.mk hB; clear hR hB hg)
              | (refine R_append_str_step (w0 := w) w.heap.size (by rfl) (.tmp 39) (.tmp 44) 24 9 5 (by rfl) Try.underlying24 Try.underlying9 info5 _ (encL (l0.take i.toNat) ++ [2] ++ bytesOf (strOfNums (leB ((rd_T46 l0 i).f2.size : Int) 2))) (rd_T46 l0 i).f2 (by rfl) (by rfl) HO3.out HB3.out HB3.out.size ?hL ?_; (case hL => have := HL.out; have := HZ.out; simp [size_strOfNums, leB_length, bytesOf_length]; omega); intro v4 w4 hR hB hg; have HO4 := Aside0.mk hR; have HB4 := Aside0.mk hB; clear hR hB hg)
              | fail)
          go_wp2
          go_roundw
          case rel => exact ⟨i + 1, by omega, by omega, by first | rfl | go_num, ⟨by rw [HE.out, HI.out]; have h := HO4.out; rw [bytesOf_strOfNums _ (leB_byte _ _)] at h; simpa using h⟩, HB4⟩
          case measure => simp [intOf]; omega
        · obtain ⟨ad2, e2, hy0, hy1, hy2⟩ := at_T46 HR.out i hi0 hlt
          cases e2
          have hbl : (ad.add (i.toNat * 3)).block < w.heap.size := World.block_lt_of_cell? w _ hy0
          have Y1 := Aside0.mk hy1
          clear hy0 hy1 hy2
          have HL := Aside0.mk (encL_take_len HK.out i.toNat)
          have hu := u64_range (rd_T46 l0 i).f1
          have LV := Aside0.mk (little_val (IntKind.u64.wrap (rd_T46 l0 i).f1) 8 hu.1 hu.2 (by omega))
          have HE := Aside0.mk (encL_take l0 i hi0 hlt)
          have HI : Aside0 (encI (rd_T46 l0 i) = 1 :: leB (IntKind.u64.wrap (rd_T46 l0 i).f1) 8) := ⟨by simp only [encI, beq_iff_eq.1 hk, if_true]⟩
          clear hu
          go_wp2_with fail
          go_region_held3 (fun w' => w'.cell? ⟨(ad.add (i.toNat * 3)).block, (ad.add (i.toNat * 3)).off + 1, none⟩ = some (.int .i64 (rd_T46 l0 i).f1))
            (first | go_keep | (exact (HB1.out.cell (p := ⟨_, _, none⟩) hbl).trans Y1.out) | (exact (HB2.out.cell (p := ⟨_, _, none⟩) hbl).trans Y1.out) | (exact (HB3.out.cell (p := ⟨_, _, none⟩) hbl).trans Y1.out) | fail)
            (first
              | (refine Kd.R_append_rows_step (Kd.int .u8) (w0 := w) w.heap.size (by rfl) (.tmp 17) (.tmp 18) 24 5 (.int .u8 0) 1 (by rfl) Try.underlying24 info5 (by rfl) (by decide) (by omega) _ (encL (l0.take i.toNat)) [1] _ _ _ (fun _ => True) (fun _ => False) (by rfl) (by rfl) ?hO ?hC (fun _ _ h => h) (fun _ h => h.elim) (fun _ _ => trivial) ?hB ?hS ?hL ?_; (case hO => (exact Kd.R_drew (Kd.R_alloc HO.out _))); (case hC => exact Kd.C_drew (lit_new wr 1 5 _ rfl)); (case hB => exact (below_alloc HB.out _).drew); (case hS => exact ((below_alloc HB.out _).drew).size); (case hL => have := HL.out; simp; omega); intro v1 w1 hR hB hg hat; have HO1 := Aside0.mk hR; have HB1 := Aside0.mk hB; clear hR hB hat hg)
              | (go_at_call 26; refine (cisternref03_little.calls 10 _ _ _ _ LV.out).mono ?_; rintro e w2 ⟨rfl, hb2⟩; have HO2 := Aside0.mk (Kd.R_below HO1.out hb2); have HB2 := Aside0.mk (HB1.out.trans (hb2.mono HB1.out.size)); clear hb2)
              | (refine R_append_str_step (w0 := w) w.heap.size (by rfl) (.tmp 19) (.tmp 26) 24 9 5 (by rfl) Try.underlying24 Try.underlying9 info5 _ (encL (l0.take i.toNat) ++ [1]) (strOfNums (leB (IntKind.u64.wrap (rd_T46 l0 i).f1) 8)) (by rfl) (by rfl) HO2.out HB2.out HB2.out.size ?hL ?_; (case hL => have := HL.out; simp [size_strOfNums, leB_length]; omega); intro v3 w3 hR hB hg; have HO3 := Aside0.mk hR; have HB3 := Aside0.mk hB; clear hR hB hg)
              | fail)
          go_wp2
          go_roundw
          case rel => exact ⟨i + 1, by omega, by omega, by first | rfl | go_num, ⟨by rw [HE.out, HI.out]; have h := HO3.out; rw [bytesOf_strOfNums _ (leB_byte _ _)] at h; simpa using h⟩, HB3⟩
          case measure => simp [intOf]; omega
      · have hcv := own_string (P := Try.prog) Try.underlying24 Try.underlying5 Try.underlying9 (Kd.own_of_R HO.out)
        have HT : Aside0 (l0.take i.toNat = l0) := ⟨List.take_of_length_le (by omega)⟩
        go_wp2
        go_ret
        exact ⟨by rw [← Hr.out]; simp only [HT.out]; rfl, HB.out⟩
  · rw [if_neg hok] at h
    cases h


/-! ### cisternref03_DocEncode: function 17 -/
def cisternref03_DocEncode.f (k : Nat) (l0 : List (S46)) : Option (ByteArray × Int) := (cisternref03_Check.f k l0).bind fun t154 => (if t154 = 0 then ((cisternref03_Encode.f l0).bind fun t155 => (some (t155, 0))) else (some ((⟨#[]⟩ : ByteArray), t154)))
theorem cisternref03_DocEncode.mono : ∀ a0 k, LeO (cisternref03_DocEncode.f k a0) (cisternref03_DocEncode.f (k + 1) a0) := by
  intro a0 k
  unfold cisternref03_DocEncode.f
  repeat' first
      | (with_reducible exact cisternref03_Check.mono _ _)
      | (with_reducible exact LeO.refl _)
      | (with_reducible exact LeO.none _)
      | (with_reducible refine LeO.ite ?_ ?_)
      | (with_reducible refine LeO.bind ?_ (fun _ => ?_))
      | exact cisternref03_Check.mono _ _
      | exact LeO.none _
      | refine LeO.ite ?_ ?_
      | refine LeO.bind ?_ (fun _ => ?_)
set_option maxHeartbeats 8000000 in
set_option maxRecDepth 100000 in
theorem cisternref03_DocEncode.calls (k : Nat) (A0 : Option Addr) (c0 : Nat) (l0 : List (S46)) (r1 : ByteArray) (r2 : Int) (w : World) (hr0 : Kd.C k46 w A0 l0.length l0) (hc0 : l0.length ≤ c0) (h : cisternref03_DocEncode.f k l0 = some (r1, r2)) :
    Calls Try.prog 17 #[.slice A0 l0.length c0] w fun e w' => e = .returned (.tuple #[.string r1, .int .i64 r2]) ∧ Below w.heap.size w w' := by
  have HR0 := Aside0.mk hr0
  have HC0 := Aside0.mk hc0
  clear hr0 hc0
  have HB := Aside0.mk (Below.refl w.heap.size w)
  have H : ((cisternref03_Check.f k l0).bind fun t154 => (if t154 = 0 then ((cisternref03_Encode.f l0).bind fun t155 => (some (t155, 0))) else (some ((⟨#[]⟩ : ByteArray), t154)))) = some (r1, r2) := h
  clear h
  replace H := Option.bind_eq_some_iff.mp H
  obtain ⟨t154, A20, H⟩ := H
  replace H : (if t154 = 0 then ((cisternref03_Encode.f l0).bind fun t155 => (some (t155, 0))) else (some ((⟨#[]⟩ : ByteArray), t154))) = some (r1, r2) := H
  have A2 := Aside0.mk A20
  clear A20
  by_cases c3 : t154 = 0
  · rw [if_pos c3] at H
    have c3b0 : (t154 == 0) = true := beq_iff_eq.mpr c3
    have c3b1 : (t154 != 0) = false := bne_eq_false_iff_eq.mpr c3
    clear c3
    replace H := Option.bind_eq_some_iff.mp H
    obtain ⟨t155, A40, H⟩ := H
    replace H : (some (t155, 0)) = some (r1, r2) := H
    have A4 := Aside0.mk A40
    clear A40
    simp only [Option.some.injEq, Prod.mk.injEq] at H
    obtain ⟨rfl, rfl⟩ := H
    go_enter Try.func17, Try.ntmps17
    go_wp2_with (first | ((with_reducible refine gate_callee (f := 27) rfl ?_); refine goesL_ (some 6) rfl rfl Try.func27 (by kernel_rfl) rfl #[.slice A0 l0.length c0] rfl (by (try simp only [List.map_toArray, List.map_cons, List.map_nil]); first | done | rfl | (simp only [List.length_drop, List.length_take]; rfl)) ?_; (with_reducible refine (cisternref03_Check.calls k _ _ l0 t154 _ ?side1 ?side2 A2.out).mono ?_); (case side1 => repeat (first | exact HR0.out | (with_reducible refine Kd.C_alloc ?_ _) | (with_reducible refine Kd.C_drewN ?_ _) | (with_reducible refine Kd.C_drew ?_))); (case side2 => exact HC0.out); rintro e w' ⟨rfl, ⟨nd, rfl⟩⟩; refine ⟨_, rfl, ?_⟩) | ((with_reducible refine gate_callee (f := 28) rfl ?_); refine goesL_ (some 11) rfl rfl Try.func28 (by kernel_rfl) rfl #[.slice A0 l0.length c0] rfl (by (try simp only [List.map_toArray, List.map_cons, List.map_nil]); first | done | rfl | (simp only [List.length_drop, List.length_take]; rfl)) ?_; (with_reducible refine (cisternref03_Encode.calls _ _ l0 t155 _ ?side1 ?side2 A4.out).mono ?_); (case side1 => repeat (first | exact HR0.out | (with_reducible refine Kd.C_alloc ?_ _) | (with_reducible refine Kd.C_drewN ?_ _) | (with_reducible refine Kd.C_drew ?_))); (case side2 => exact HC0.out); rintro e w5 ⟨rfl, hb⟩; refine ⟨_, rfl, ?_⟩; have n0_ := Aside0.mk (below_step (by repeat (first | (with_reducible first | exact HB.out | apply below_alloc | apply pw_below_drewN | apply below_drew1) | exact HB.out)) hb); clear HB; have HB := n0_; clear n0_; (try clear hb); (try clear hb2); (try clear hk); (try clear hi)))
    go_ret2
    exact ⟨by first | rfl | (simp [errW_none, errW_some] <;> rfl) | (simp [*, errW_none, errW_some] <;> rfl), by repeat (first | (with_reducible first | exact HB.out | apply below_alloc | apply pw_below_drewN | apply below_drew1) | exact HB.out)⟩
  · rw [if_neg c3] at H
    have c3b0 : (t154 == 0) = false := beq_eq_false_iff_ne.mpr c3
    have c3b1 : (t154 != 0) = true := bne_iff_ne.mpr c3
    simp only [Option.some.injEq, Prod.mk.injEq] at H
    obtain ⟨rfl, rfl⟩ := H
    go_enter Try.func17, Try.ntmps17
    go_wp2_with (first | ((with_reducible refine gate_callee (f := 27) rfl ?_); refine goesL_ (some 6) rfl rfl Try.func27 (by kernel_rfl) rfl #[.slice A0 l0.length c0] rfl (by (try simp only [List.map_toArray, List.map_cons, List.map_nil]); first | done | rfl | (simp only [List.length_drop, List.length_take]; rfl)) ?_; (with_reducible refine (cisternref03_Check.calls k _ _ l0 t154 _ ?side1 ?side2 A2.out).mono ?_); (case side1 => repeat (first | exact HR0.out | (with_reducible refine Kd.C_alloc ?_ _) | (with_reducible refine Kd.C_drewN ?_ _) | (with_reducible refine Kd.C_drew ?_))); (case side2 => exact HC0.out); rintro e w' ⟨rfl, ⟨nd, rfl⟩⟩; refine ⟨_, rfl, ?_⟩))
    go_ret2
    exact ⟨by first | rfl | (simp [errW_none, errW_some] <;> rfl) | (simp [*, errW_none, errW_some] <;> rfl), by repeat (first | (with_reducible first | exact HB.out | apply below_alloc | apply pw_below_drewN | apply below_drew1) | exact HB.out)⟩

end Go.Proofs.Ytgjhhbljbnbjkaa.PA
