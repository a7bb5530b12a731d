/- Texts of this claim: contracts of the functions that the statement reaches, and plain laws of what they compute. -/
import Derived.Test.YtmkkeccmjejfnaaDoorQDecodes3
set_option linter.unusedVariables false
set_option linter.unusedSimpArgs false
namespace Go.Proofs.YtmkkeccmjejfnaaDoor.PA
section

open Go.RowKit Go.Proofs.YtmkkeccmjejfnaaDoorW.PrintWords Go.Proofs.YtmkkeccmjejfnaaDoorW.PrintLast Go.Proofs.YtmkkeccmjejfnaaDoorW.PrintMore
attribute [local go_sem] pr_leq pr_geq pr_gtr max2_int min2_int max_two min_two max_three min_three max_four min_four
set_option linter.unusedVariables false
set_option linter.unusedSimpArgs false
def logOf (k : Nat) (t : ByteArray) : List Int → Option (Int × Int × Int × Int × Int × Int × Int × ByteArray × Int)
  | [n0, n1, n2, n3, n4, n5, n6] => (record_Log_right.f k n0 n1 n2 n3 n4 n5 n6 t).bind fun b => if b = true then some (n0, n1, n2, n3, n4, n5, n6, t, 0) else some (0, 0, 0, 0, 0, 0, 0, (⟨#[]⟩ : ByteArray), 2)
  | _ => none
def record_DecodeLog.f (k : Nat) (l0 : List Int) : Option (Int × Int × Int × Int × Int × Int × Int × ByteArray × Int) :=
  (record_open.f k l0 2 7 true).bind fun o => if o.2.2 = 0 then logOf k o.2.1 o.1 else some (0, 0, 0, 0, 0, 0, 0, (⟨#[]⟩ : ByteArray), o.2.2)
theorem logOf_some {k : Nat} {t : ByteArray} {l : List Int} {r : Int × Int × Int × Int × Int × Int × Int × ByteArray × Int} (h : logOf k t l = some r) : ∃ n0 n1 n2 n3 n4 n5 n6 b, l = [n0, n1, n2, n3, n4, n5, n6] ∧ record_Log_right.f k n0 n1 n2 n3 n4 n5 n6 t = some b ∧ (if b = true then (n0, n1, n2, n3, n4, n5, n6, t, 0) else (0, 0, 0, 0, 0, 0, 0, (⟨#[]⟩ : ByteArray), 2)) = r := by
  unfold logOf at h
  split at h
  · rename_i n0 n1 n2 n3 n4 n5 n6
    cases hb : record_Log_right.f k n0 n1 n2 n3 n4 n5 n6 t with
    | none => rw [hb] at h; cases h
    | some b =>
      rw [hb, Option.bind_some] at h
      refine ⟨n0, n1, n2, n3, n4, n5, n6, b, rfl, hb, ?_⟩
      split at h
      · rename_i hh; rw [if_pos hh]; exact Option.some.inj h
      · rename_i hh; rw [if_neg hh]; exact Option.some.inj h
  · cases h
theorem seven_at {w : World} {A : Option Addr} {n0 n1 n2 n3 n4 n5 n6 : Int} (h : Kd.C (Kd.int .i64) w A 7 [n0, n1, n2, n3, n4, n5, n6]) : ∃ ad, A = some ad ∧ w.cell? ad = some (.int .i64 n0) ∧ w.cell? ⟨ad.block, ad.off + 1, none⟩ = some (.int .i64 n1) ∧ w.cell? ⟨ad.block, ad.off + 2, none⟩ = some (.int .i64 n2) ∧ w.cell? ⟨ad.block, ad.off + 3, none⟩ = some (.int .i64 n3) ∧ w.cell? ⟨ad.block, ad.off + 4, none⟩ = some (.int .i64 n4) ∧ w.cell? ⟨ad.block, ad.off + 5, none⟩ = some (.int .i64 n5) ∧ w.cell? ⟨ad.block, ad.off + 6, none⟩ = some (.int .i64 n6) := by
  obtain ⟨ad, e, h0⟩ := Kd.at_int h 0 (by omega) (by omega)

  obtain ⟨ad1, e1, h1⟩ := Kd.at_int h 1 (by omega) (by omega)
  rw [e] at e1
  cases e1
  obtain ⟨ad2, e2, h2⟩ := Kd.at_int h 2 (by omega) (by omega)
  rw [e] at e2
  cases e2
  obtain ⟨ad3, e3, h3⟩ := Kd.at_int h 3 (by omega) (by omega)
  rw [e] at e3
  cases e3
  obtain ⟨ad4, e4, h4⟩ := Kd.at_int h 4 (by omega) (by omega)
  rw [e] at e4
  cases e4
  obtain ⟨ad5, e5, h5⟩ := Kd.at_int h 5 (by omega) (by omega)
  rw [e] at e5
  cases e5
  obtain ⟨ad6, e6, h6⟩ := Kd.at_int h 6 (by omega) (by omega)
  rw [e] at e6
  cases e6
  have z : ∀ j : Nat, j ≠ 0 → ad.add ((j : Int)).toNat = ⟨ad.block, ad.off + j, none⟩ → True := fun _ _ _ => trivial
  have a0 : ad.add (0 : Int).toNat = ad := by unfold Addr.add; simp
  rw [a0] at h0
  refine ⟨ad, e, h0, ?_, ?_, ?_, ?_, ?_, ?_⟩
  · have a : ad.add (1 : Int).toNat = ⟨ad.block, ad.off + 1, none⟩ := by unfold Addr.add; simp
    rw [a] at h1; exact h1
  · have a : ad.add (2 : Int).toNat = ⟨ad.block, ad.off + 2, none⟩ := by unfold Addr.add; simp
    rw [a] at h2; exact h2
  · have a : ad.add (3 : Int).toNat = ⟨ad.block, ad.off + 3, none⟩ := by unfold Addr.add; simp
    rw [a] at h3; exact h3
  · have a : ad.add (4 : Int).toNat = ⟨ad.block, ad.off + 4, none⟩ := by unfold Addr.add; simp
    rw [a] at h4; exact h4
  · have a : ad.add (5 : Int).toNat = ⟨ad.block, ad.off + 5, none⟩ := by unfold Addr.add; simp
    rw [a] at h5; exact h5
  · have a : ad.add (6 : Int).toNat = ⟨ad.block, ad.off + 6, none⟩ := by unfold Addr.add; simp
    rw [a] at h6; exact h6
theorem put8 {W : World} {g : Nat} {t : TypeId} {c0 c1 c2 c3 c4 c5 c6 c7 v0 v1 v2 v3 v4 v5 v6 v7 : Value} (h : W.heap[g]? = some (.cells #[c0, c1, c2, c3, c4, c5, c6, c7] t (0, 0))) : ((((((((W.setCell ⟨g, 0, none⟩ v0).setCell ⟨g, 1, none⟩ v1).setCell ⟨g, 2, none⟩ v2).setCell ⟨g, 3, none⟩ v3).setCell ⟨g, 4, none⟩ v4).setCell ⟨g, 5, none⟩ v5).setCell ⟨g, 6, none⟩ v6).setCell ⟨g, 7, none⟩ v7).heap[g]? = some (.cells #[v0, v1, v2, v3, v4, v5, v6, v7] t (0, 0)) := by
  have h0 := heap_setCell_same _ g 0 _ t v0 h
  have h1 := heap_setCell_same _ g 1 _ t v1 h0
  have h2 := heap_setCell_same _ g 2 _ t v2 h1
  have h3 := heap_setCell_same _ g 3 _ t v3 h2
  have h4 := heap_setCell_same _ g 4 _ t v4 h3
  have h5 := heap_setCell_same _ g 5 _ t v5 h4
  have h6 := heap_setCell_same _ g 6 _ t v6 h5
  have h7 := heap_setCell_same _ g 7 _ t v7 h6
  rw [h7]
  simp only [List.setIfInBounds_toArray, List.set_cons_zero, List.set_cons_succ]
theorem below8 {B : Nat} {w W : World} {g : Nat} {v0 v1 v2 v3 v4 v5 v6 v7 : Value} (hg : B ≤ g) (h : Below B w W) : Below B w ((((((((W.setCell ⟨g, 0, none⟩ v0).setCell ⟨g, 1, none⟩ v1).setCell ⟨g, 2, none⟩ v2).setCell ⟨g, 3, none⟩ v3).setCell ⟨g, 4, none⟩ v4).setCell ⟨g, 5, none⟩ v5).setCell ⟨g, 6, none⟩ v6).setCell ⟨g, 7, none⟩ v7) :=
  ((((((((((((((((h).setCell hg _)).setCell hg _)).setCell hg _)).setCell hg _)).setCell hg _)).setCell hg _)).setCell hg _)).setCell hg _)
theorem box8 {W : World} {g : Nat} {t : TypeId} {c0 c1 c2 c3 c4 c5 c6 c7 : Value} (h : W.heap[g]? = some (.cells #[c0, c1, c2, c3, c4, c5, c6, c7] t (0, 0))) : (W.cell? ⟨g, 0, none⟩ = some c0 ∧ W.frozen? ⟨g, 0, none⟩ = false) ∧ (W.cell? ⟨g, 1, none⟩ = some c1 ∧ W.frozen? ⟨g, 1, none⟩ = false) ∧ (W.cell? ⟨g, 2, none⟩ = some c2 ∧ W.frozen? ⟨g, 2, none⟩ = false) ∧ (W.cell? ⟨g, 3, none⟩ = some c3 ∧ W.frozen? ⟨g, 3, none⟩ = false) ∧ (W.cell? ⟨g, 4, none⟩ = some c4 ∧ W.frozen? ⟨g, 4, none⟩ = false) ∧ (W.cell? ⟨g, 5, none⟩ = some c5 ∧ W.frozen? ⟨g, 5, none⟩ = false) ∧ (W.cell? ⟨g, 6, none⟩ = some c6 ∧ W.frozen? ⟨g, 6, none⟩ = false) ∧ (W.cell? ⟨g, 7, none⟩ = some c7 ∧ W.frozen? ⟨g, 7, none⟩ = false) := ⟨⟨(blk_cell h 0).trans rfl, blk_frozen h 0⟩, ⟨(blk_cell h 1).trans rfl, blk_frozen h 1⟩, ⟨(blk_cell h 2).trans rfl, blk_frozen h 2⟩, ⟨(blk_cell h 3).trans rfl, blk_frozen h 3⟩, ⟨(blk_cell h 4).trans rfl, blk_frozen h 4⟩, ⟨(blk_cell h 5).trans rfl, blk_frozen h 5⟩, ⟨(blk_cell h 6).trans rfl, blk_frozen h 6⟩, ⟨(blk_cell h 7).trans rfl, blk_frozen h 7⟩⟩
set_option maxHeartbeats 4000000 in
set_option maxRecDepth 100000 in
theorem record_DecodeLog.calls (k : Nat) (A0 : Option Addr) (c0 : Nat) (l0 : List Int) (r1 : Int) (r2 : Int) (r3 : Int) (r4 : Int) (r5 : Int) (r6 : Int) (r7 : Int) (r8 : ByteArray) (r9 : Int) (w : World) (hr0 : Kd.C (Kd.int .u8) w A0 l0.length l0) (hc0 : l0.length ≤ c0) (h : record_DecodeLog.f k l0 = some (r1, r2, r3, r4, r5, r6, r7, r8, r9)) :
    Calls Tryd.prog 21 #[.slice A0 l0.length c0] w fun e w' => e = .returned (.tuple #[.agg #[.int .i64 r1, .int .i64 r2, .int .i64 r3, .int .i64 r4, .int .i64 r5, .int .i64 r6, .int .i64 r7, .string r8], .int .i64 r9]) ∧ Below w.heap.size w w' := by
  have HR := Aside0.mk hr0
  have HC := Aside0.mk hc0
  clear hr0 hc0
  unfold record_DecodeLog.f at h
  cases ho : record_open.f k l0 2 7 true with
  | none => rw [ho] at h; cases h
  | some o =>
    obtain ⟨n, t, e⟩ := o
    rw [ho, Option.bind_some] at h
    have HO := Aside0.mk ho
    clear ho
    by_cases he : e = 0
    · rw [if_pos he] at h
      subst he
      obtain ⟨n0, n1, n2, n3, n4, n5, n6, b, rfl, hb, hr⟩ := logOf_some h
      have HRT := Aside0.mk hr
      have HL := Aside0.mk hb
      clear h hb hr
      go_enter Tryd.func21, Tryd.ntmps21
      go_wp2_with fail
      refine (record_open.calls k A0 c0 l0 2 7 true _ _ _ _ (Kd.C_below HR.out (below_alloc (Below.refl _ _) _)) HC.out HO.out).mono ?_
      rintro e wo ⟨v, rfl, hR, hB⟩
      obtain ⟨An, cn, rfl, hcn, hCn⟩ := Kd.R_reads hR
      obtain ⟨ad, rfl, k0, k1, k2, k3, k4, k5, k6⟩ := seven_at hCn
      have BK := Aside0.mk ((hB.block w.heap.size (by simp)).trans (heap_alloc_new w (.cells #[.int .i64 0, .int .i64 0, .int .i64 0, .int .i64 0, .int .i64 0, .int .i64 0, .int .i64 0, .string ⟨#[]⟩] 25)))
      have BO := Aside0.mk ((below_alloc (Below.refl w.heap.size w) _).trans (hB.mono (by simp)))
      have SZ : w.heap.size < wo.heap.size := by have := hB.size; simp at this; omega
      clear hR hB hcn hCn
      go_wp2_with fail
      go_region_held (fun w' => w'.cell? ad = some (.int .i64 n0) ∧ w'.cell? ⟨ad.block, ad.off + 1, none⟩ = some (.int .i64 n1) ∧ w'.cell? ⟨ad.block, ad.off + 2, none⟩ = some (.int .i64 n2) ∧ w'.cell? ⟨ad.block, ad.off + 3, none⟩ = some (.int .i64 n3) ∧ w'.cell? ⟨ad.block, ad.off + 4, none⟩ = some (.int .i64 n4) ∧ w'.cell? ⟨ad.block, ad.off + 5, none⟩ = some (.int .i64 n5) ∧ w'.cell? ⟨ad.block, ad.off + 6, none⟩ = some (.int .i64 n6)) (first | go_keep | fail) (fail)
      go_wp2_with fail
      refine (record_Log_right.calls k n0 n1 n2 n3 n4 n5 n6 t b _ HL.out).mono ?_
      rintro e wr ⟨rfl, hB⟩
      have B1 := Aside0.mk ((below_drew (below_alloc (Below.refl wo.heap.size wo) _)).trans (hB.mono (by simp)))
      have BKr := Aside0.mk ((B1.out.block w.heap.size SZ).trans BK.out)
      have XKr := Aside0.mk ((hB.block wo.heap.size (by simp)).trans (heap_alloc_new wo (.cells #[.int .i64 n0, .int .i64 n1, .int .i64 n2, .int .i64 n3, .int .i64 n4, .int .i64 n5, .int .i64 n6, .string t] 25)))
      have BR := Aside0.mk (BO.out.trans (B1.out.mono BO.out.size))
      clear hB
      have hr := HRT.out
      cases b with
      | true =>
        rw [if_pos rfl] at hr
        simp only [Prod.mk.injEq] at hr
        obtain ⟨rfl, rfl, rfl, rfl, rfl, rfl, rfl, rfl, rfl⟩ := hr
        obtain ⟨⟨b0, f0⟩, ⟨b1, f1⟩, ⟨b2, f2⟩, ⟨b3, f3⟩, ⟨b4, f4⟩, ⟨b5, f5⟩, ⟨b6, f6⟩, ⟨b7, f7⟩⟩ := box8 BKr.out
        obtain ⟨⟨x0, _⟩, ⟨x1, _⟩, ⟨x2, _⟩, ⟨x3, _⟩, ⟨x4, _⟩, ⟨x5, _⟩, ⟨x6, _⟩, ⟨x7, _⟩⟩ := box8 XKr.out
        go_wp2_with fail
        refine bodyPost_ret (results_ct rfl _ _ w.heap.size 25 _ (0, 0) _ rfl (put8 BKr.out) Tryd.underlying25 rfl (by kernel_rfl)) rfl ?_
        exact ⟨rfl, below8 (Nat.le_refl _) BR.out⟩
      | false =>
        rw [if_neg (by decide)] at hr
        simp only [Prod.mk.injEq] at hr
        obtain ⟨rfl, rfl, rfl, rfl, rfl, rfl, rfl, rfl, rfl⟩ := hr
        obtain ⟨⟨b0, f0⟩, ⟨b1, f1⟩, ⟨b2, f2⟩, ⟨b3, f3⟩, ⟨b4, f4⟩, ⟨b5, f5⟩, ⟨b6, f6⟩, ⟨b7, f7⟩⟩ := box8 BKr.out
        go_wp2_with fail
        refine bodyPost_ret (results_ct rfl _ _ w.heap.size 25 _ (0, 0) _ rfl (put8 BKr.out) Tryd.underlying25 rfl (by kernel_rfl)) rfl ?_
        exact ⟨rfl, below8 (Nat.le_refl _) BR.out⟩
    · rw [if_neg he] at h
      have h := Option.some.inj h
      simp only [Prod.mk.injEq] at h
      obtain ⟨rfl, rfl, rfl, rfl, rfl, rfl, rfl, rfl, rfl⟩ := h
      have d1 : (e != 0) = true := by simp [he]
      clear he
      go_enter Tryd.func21, Tryd.ntmps21
      go_wp2_with fail
      refine (record_open.calls k A0 c0 l0 2 7 true _ _ _ _ (Kd.C_below HR.out (below_alloc (Below.refl _ _) _)) HC.out HO.out).mono ?_
      rintro e' wo ⟨v, rfl, hR, hB⟩
      have BK := Aside0.mk ((hB.block w.heap.size (by simp)).trans (heap_alloc_new w (.cells #[.int .i64 0, .int .i64 0, .int .i64 0, .int .i64 0, .int .i64 0, .int .i64 0, .int .i64 0, .string ⟨#[]⟩] 25)))
      have BO := Aside0.mk ((below_alloc (Below.refl w.heap.size w) _).trans (hB.mono (by simp)))
      clear hR hB
      obtain ⟨⟨b0, f0⟩, ⟨b1, f1⟩, ⟨b2, f2⟩, ⟨b3, f3⟩, ⟨b4, f4⟩, ⟨b5, f5⟩, ⟨b6, f6⟩, ⟨b7, f7⟩⟩ := box8 BK.out
      go_wp2_with fail
      refine bodyPost_ret (results_ct rfl _ _ w.heap.size 25 _ (0, 0) _ rfl (put8 BK.out) Tryd.underlying25 rfl (by kernel_rfl)) rfl ?_
      exact ⟨rfl, below8 (Nat.le_refl _) BO.out⟩
def record_DecodeHome.f (k : Nat) (l0 : List Int) : Option (Int × ByteArray × Int) := (record_open.f k l0 3 1 true).bind fun bt354 => (if bt354.2.2 = 0 then (if 0 < (bt354.1.length : Int) then ((record_Home_right.f (rd bt354.1 0) bt354.2.1).bind fun t361 => (if t361 = true then (some (rd bt354.1 0, bt354.2.1, 0)) else (some (0, (⟨#[]⟩ : ByteArray), 2)))) else (none)) else (some (0, (⟨#[]⟩ : ByteArray), bt354.2.2)))
set_option maxHeartbeats 8000000 in
set_option maxRecDepth 100000 in
theorem record_DecodeHome.calls (k : Nat) (A0 : Option Addr) (c0 : Nat) (l0 : List Int) (r1 : Int) (r2 : ByteArray) (r3 : Int) (w : World) (hr0 : Kd.C (Kd.int .u8) w A0 l0.length l0) (hc0 : l0.length ≤ c0) (h : record_DecodeHome.f k l0 = some (r1, r2, r3)) :
    Calls Tryd.prog 22 #[.slice A0 l0.length c0] w fun e w' => e = .returned (.tuple #[.agg #[.int .i64 r1, .string r2], .int .i64 r3]) ∧ Below w.heap.size w w' := by
  have hu27 := Tryd.underlying27
  have HR0 := Aside0.mk hr0
  have HC0 := Aside0.mk hc0
  clear hr0 hc0
  have HB := Aside0.mk (Below.refl w.heap.size w)
  have H : ((record_open.f k l0 3 1 true).bind fun bt354 => (if bt354.2.2 = 0 then (if 0 < (bt354.1.length : Int) then ((record_Home_right.f (rd bt354.1 0) bt354.2.1).bind fun t361 => (if t361 = true then (some (rd bt354.1 0, bt354.2.1, 0)) else (some (0, (⟨#[]⟩ : ByteArray), 2)))) else (none)) else (some (0, (⟨#[]⟩ : ByteArray), bt354.2.2)))) = some (r1, r2, r3) := h
  clear h
  replace H := Option.bind_eq_some_iff.mp H
  obtain ⟨⟨t354, t355, t356⟩, A20, H⟩ := H
  replace H : (if t356 = 0 then (if 0 < (t354.length : Int) then ((record_Home_right.f (rd t354 0) t355).bind fun t361 => (if t361 = true then (some (rd t354 0, t355, 0)) else (some (0, (⟨#[]⟩ : ByteArray), 2)))) else (none)) else (some (0, (⟨#[]⟩ : ByteArray), t356))) = some (r1, r2, r3) := H
  have A2 := Aside0.mk A20
  clear A20
  by_cases c3 : t356 = 0
  · rw [if_pos c3] at H
    have c3b0 : (t356 == 0) = true := beq_iff_eq.mpr c3
    have c3b1 : (t356 != 0) = false := bne_eq_false_iff_eq.mpr c3
    clear c3
    by_cases c4 : 0 < (t354.length : Int)
    · rw [if_pos c4] at H
      have c4b0 : decide (0 < (t354.length : Int)) = true := decide_eq_true c4
      have c4b1 : decide (0 < t354.length) = true := decide_eq_true (by omega)
      clear c4
      replace H := Option.bind_eq_some_iff.mp H
      obtain ⟨t361, A50, H⟩ := H
      replace H : (if t361 = true then (some (rd t354 0, t355, 0)) else (some (0, (⟨#[]⟩ : ByteArray), 2))) = some (r1, r2, r3) := H
      have A5 := Aside0.mk A50
      clear A50
      by_cases c6 : t361 = true
      · subst c6
        have H1 : (some (rd t354 0, t355, 0)) = some (r1, r2, r3) := by rw [if_pos rfl] at H; exact H
        clear H
        have H := H1
        clear H1
        simp only [Option.some.injEq, Prod.mk.injEq] at H
        obtain ⟨rfl, rfl, rfl⟩ := H
        go_enter Tryd.func22, Tryd.ntmps22
        go_wp2_with (first | ((with_reducible refine gate_dst (N := 2) rfl ?_); refine box_event ?hg (N := 2) ?hd (cs := #[.int .i64 0, .string (⟨#[]⟩ : ByteArray)]) (t := 27) ?hr ?_; (case hd => rfl); (case hg => rfl); (case hr => first | (go_simp; done) | (go_simp; rfl)); intro gb353 hg w7 hbox hb; have n0_ := Aside0.mk (below_step (by repeat (first | (with_reducible first | exact HB.out | apply below_alloc | apply pw_below_drewN | apply below_drew1) | exact HB.out)) hb); have n1_ := Aside0.mk (hbox); have n2_ := Aside0.mk ((by rw [hg]; exact (below_size (by repeat (first | (with_reducible first | exact HB.out | apply below_alloc | apply pw_below_drewN | apply below_drew1) | exact HB.out))) : w.heap.size ≤ gb353)); have n3_ := Aside0.mk ((by rw [hg]; exact (below_size (by repeat (first | (with_reducible first | exact HB.out | apply below_alloc | apply pw_below_drewN | apply below_drew1) | exact HB.out))) : w.heap.size ≤ gb353)); clear HB; have HB := n0_; have BK353 := n1_; have GW353 := n2_; have GE353 := n3_; clear n0_ n1_ n2_ n3_; clear hb hbox hg) | ((with_reducible refine gate_callee (f := 36) rfl ?_); refine goesL_ (some 10) rfl rfl Tryd.func36 (by kernel_rfl) rfl #[.slice A0 l0.length c0, .int .i64 3, .int .i64 1, .bool true] rfl (by (try simp only [List.map_toArray, List.map_cons, List.map_nil]); first | done | rfl | (simp only [List.length_drop, List.length_take]; rfl)) ?_; (with_reducible refine (record_open.calls k _ _ l0 3 1 true t354 t355 t356 _ ?side1 ?side2 A2.out).mono ?_); (case side1 => repeat (first | exact (Kd.C_below HR0.out HB.out) | (with_reducible refine Kd.C_alloc ?_ _) | (with_reducible refine Kd.C_drewN ?_ _) | (with_reducible refine Kd.C_drew ?_))); (case side2 => exact HC0.out); rintro e w8 ⟨v357, rfl, ho0, hb⟩; refine ⟨_, rfl, ?_⟩; have n0_ := Aside0.mk (Kd.R_lower ho0 (below_size (by repeat (first | (with_reducible first | exact HB.out | apply below_alloc | apply pw_below_drewN | apply below_drew1 | refine below_set ?_ GE353.out) | exact HB.out)))); have n1_ := Aside0.mk (blk_below (g := gb353) (o := .cells #[.int .i64 0, .string (⟨#[]⟩ : ByteArray)] 27 (0, 0)) (by (with_reducible repeat (first | refine blk_drewN ?_ _ | refine blk_drew ?_ | refine blk_alloc ?_ _)); exact BK353.out) hb); have n2_ := Aside0.mk (below_step (by repeat (first | (with_reducible first | exact HB.out | apply below_alloc | apply pw_below_drewN | apply below_drew1 | refine below_set ?_ GE353.out) | exact HB.out)) hb); clear BK353; clear HB; have HO358 := n0_; have BK353 := n1_; have HB := n2_; clear n0_ n1_ n2_; (try clear hb); (try clear hb2); (try clear hk); (try clear hi); (try clear ho0); obtain ⟨Ao9, co9, eo9⟩ := Kd.R_slice HO358.out; subst eo9; have p359 : 0 ≤ (0 : Int) := (by omega); have q359 : 0 < (t354.length : Int) := of_decide_eq_true (by first | (with_reducible assumption) | assumption); obtain ⟨ad359, e359, hx359_0⟩ := Kd.at_int (Kd.R_reads' HO358.out).2.2 0 p359 q359; cases e359; have qi359 : (0 < t354.length) = True := eq_true (by omega); (try rw [show ((0 : Int)).toNat = 0 from rfl] at hx359_0); (try rw [Addr.add_zero'] at hx359_0); replace p359 := eq_true p359; replace q359 := eq_true q359) | ((with_reducible refine gate_dst (N := 7) rfl ?_); refine box_event ?hg (N := 7) ?hd (cs := #[.int .i64 0, .string (⟨#[]⟩ : ByteArray)]) (t := 27) ?hr ?_; (case hd => rfl); (case hg => rfl); (case hr => first | (go_simp; done) | (go_simp; rfl)); intro gb360 hg w10 hbox hb; have n0_ := Aside0.mk (Kd.R_below (by (with_reducible repeat (first | apply Kd.R_alloc | apply Kd.R_drewN | apply Kd.R_drew)); exact HO358.out) hb); have n1_ := Aside0.mk (blk_below (g := gb353) (o := .cells #[.int .i64 0, .string (⟨#[]⟩ : ByteArray)] 27 (0, 0)) (by (with_reducible repeat (first | refine blk_drewN ?_ _ | refine blk_drew ?_ | refine blk_alloc ?_ _)); exact BK353.out) hb); have n2_ := Aside0.mk (below_step (by repeat (first | (with_reducible first | exact HB.out | apply below_alloc | apply pw_below_drewN | apply below_drew1 | refine below_set ?_ GE353.out) | exact HB.out)) hb); have n3_ := Aside0.mk (hbox); have n4_ := Aside0.mk ((by rw [hg]; exact (below_size (by repeat (first | (with_reducible first | exact HB.out | apply below_alloc | apply pw_below_drewN | apply below_drew1 | refine below_set ?_ GE353.out) | exact HB.out))) : w.heap.size ≤ gb360)); have n5_ := Aside0.mk ((by rw [hg]; exact (below_size (by repeat (first | (with_reducible first | exact HB.out | apply below_alloc | apply pw_below_drewN | apply below_drew1 | refine below_set ?_ GE353.out) | exact HB.out))) : w.heap.size ≤ gb360)); have n6_ := Aside0.mk ((by rw [hg]; exact Nat.ne_of_lt (blk_lt (g := gb353) (o := .cells #[.int .i64 0, .string (⟨#[]⟩ : ByteArray)] 27 (0, 0)) (by (with_reducible repeat (first | refine blk_drewN ?_ _ | refine blk_drew ?_ | refine blk_alloc ?_ _)); exact BK353.out)) : gb353 ≠ gb360)); have n7_ := Aside0.mk ((by rw [hg]; exact Nat.ne_of_gt (blk_lt (g := gb353) (o := .cells #[.int .i64 0, .string (⟨#[]⟩ : ByteArray)] 27 (0, 0)) (by (with_reducible repeat (first | refine blk_drewN ?_ _ | refine blk_drew ?_ | refine blk_alloc ?_ _)); exact BK353.out)) : gb360 ≠ gb353)); clear HO358; clear BK353; clear HB; have HO358 := n0_; have BK353 := n1_; have HB := n2_; have BK360 := n3_; have GW360 := n4_; have GE360 := n5_; have NB353_360 := n6_; have NB360_353 := n7_; clear n0_ n1_ n2_ n3_ n4_ n5_ n6_ n7_; clear hb hbox hg; have hnb11 := NB360_353.out; have hnc11 := NB353_360.out; have hcz12_0 : w10.cell? ⟨gb360, 0, none⟩ = some (.int .i64 0) := (blk_cell BK360.out 0).trans rfl; have hcz12_1 : w10.cell? ⟨gb360, 1, none⟩ = some (.string (⟨#[]⟩ : ByteArray)) := (blk_cell BK360.out 1).trans rfl; have hfz12_0 := blk_frozen BK360.out 0; have hfz12_1 := blk_frozen BK360.out 1) | ((with_reducible refine gate_callee (f := 35) rfl ?_); refine goesL_ (some 24) rfl rfl Tryd.func35 (by kernel_rfl) rfl #[.agg #[.int .i64 (rd t354 0), .string t355]] rfl (by (try simp only [List.map_toArray, List.map_cons, List.map_nil]); first | done | rfl | (simp only [List.length_drop, List.length_take]; rfl)) ?_; (with_reducible refine (record_Home_right.calls (rd t354 0) t355 true _ A5.out).mono ?_); rintro e w13 ⟨rfl, hb⟩; refine ⟨_, rfl, ?_⟩; have n0_ := Aside0.mk (Kd.R_below (by (with_reducible repeat (first | apply Kd.R_alloc | apply Kd.R_drewN | apply Kd.R_drew)); exact (Kd.R_mono (Kd.R_far (p := ⟨gb360, 1, none⟩) (Kd.R_far (p := ⟨gb360, 0, none⟩) (Kd.R_types HO358.out BK360.out (by decide)) (fun _ hk => hk.2) (.int .i64 (rd t354 0))) (fun _ hk => hk.2) (.string t355)) (fun _ h_ => h_.1))) hb); have n1_ := Aside0.mk (blk_below (g := gb353) (o := .cells #[.int .i64 0, .string (⟨#[]⟩ : ByteArray)] 27 (0, 0)) (by (with_reducible repeat (first | refine blk_drewN ?_ _ | refine blk_drew ?_ | refine blk_alloc ?_ _)); refine blk_far ?_ NB353_360.out _; (with_reducible repeat (first | refine blk_drewN ?_ _ | refine blk_drew ?_ | refine blk_alloc ?_ _)); refine blk_far ?_ NB353_360.out _; (with_reducible repeat (first | refine blk_drewN ?_ _ | refine blk_drew ?_ | refine blk_alloc ?_ _)); exact BK353.out) hb); have n2_ := Aside0.mk (blk_below (g := gb360) (o := .cells #[.int .i64 (rd t354 0), .string t355] 27 (0, 0)) (by (with_reducible repeat (first | refine blk_drewN ?_ _ | refine blk_drew ?_ | refine blk_alloc ?_ _)); refine blk_put (cs := #[.int .i64 (rd t354 0), .string (⟨#[]⟩ : ByteArray)]) ?_ 1 _ rfl; (with_reducible repeat (first | refine blk_drewN ?_ _ | refine blk_drew ?_ | refine blk_alloc ?_ _)); refine blk_put (cs := #[.int .i64 0, .string (⟨#[]⟩ : ByteArray)]) ?_ 0 _ rfl; (with_reducible repeat (first | refine blk_drewN ?_ _ | refine blk_drew ?_ | refine blk_alloc ?_ _)); exact BK360.out) hb); have n3_ := Aside0.mk (below_step (by repeat (first | (with_reducible first | exact HB.out | apply below_alloc | apply pw_below_drewN | apply below_drew1 | refine below_set ?_ GE353.out | refine below_set ?_ GE360.out) | exact HB.out)) hb); clear HO358; clear BK353; clear BK360; clear HB; have HO358 := n0_; have BK353 := n1_; have BK360 := n2_; have HB := n3_; clear n0_ n1_ n2_ n3_; (try clear hb); (try clear hb2); (try clear hk); (try clear hi); have hcz14_0 : w13.cell? ⟨gb360, 0, none⟩ = some (.int .i64 (rd t354 0)) := (blk_cell BK360.out 0).trans rfl; have hcz14_1 : w13.cell? ⟨gb360, 1, none⟩ = some (.string t355) := (blk_cell BK360.out 1).trans rfl; have hfz14_0 := blk_frozen BK360.out 0; have hfz14_1 := blk_frozen BK360.out 1; have hcz15_0 : w13.cell? ⟨gb353, 0, none⟩ = some (.int .i64 0) := (blk_cell BK353.out 0).trans rfl; have hcz15_1 : w13.cell? ⟨gb353, 1, none⟩ = some (.string (⟨#[]⟩ : ByteArray)) := (blk_cell BK353.out 1).trans rfl; have hfz15_0 := blk_frozen BK353.out 0; have hfz15_1 := blk_frozen BK353.out 1))
        refine bodyPost_ret (results_ct rfl _ _ gb353 27 #[.int .i64 (rd t354 0), .string t355] (0, 0) _ rfl (by (with_reducible repeat (first | refine blk_drewN ?_ _ | refine blk_drew ?_ | refine blk_alloc ?_ _)); refine blk_put (cs := #[.int .i64 (rd t354 0), .string (⟨#[]⟩ : ByteArray)]) ?_ 1 _ rfl; (with_reducible repeat (first | refine blk_drewN ?_ _ | refine blk_drew ?_ | refine blk_alloc ?_ _)); refine blk_put (cs := #[.int .i64 0, .string (⟨#[]⟩ : ByteArray)]) ?_ 0 _ rfl; (with_reducible repeat (first | refine blk_drewN ?_ _ | refine blk_drew ?_ | refine blk_alloc ?_ _)); exact BK353.out) Tryd.underlying27 rfl (by kernel_rfl)) rfl ?_
        exact ⟨by first | rfl | (simp [errW_none, errW_some] <;> rfl) | (simp [*, errW_none, errW_some] <;> rfl), by repeat (first | (with_reducible first | exact HB.out | apply below_alloc | apply pw_below_drewN | apply below_drew1 | refine below_set ?_ GE353.out | refine below_set ?_ GE360.out) | exact HB.out)⟩
      · replace c6 := Bool.eq_false_iff.mpr c6
        subst c6
        have H1 : (some (0, (⟨#[]⟩ : ByteArray), 2)) = some (r1, r2, r3) := by rw [if_neg (show ¬ (false = true) by decide)] at H; exact H
        clear H
        have H := H1
        clear H1
        simp only [Option.some.injEq, Prod.mk.injEq] at H
        obtain ⟨rfl, rfl, rfl⟩ := H
        go_enter Tryd.func22, Tryd.ntmps22
        go_wp2_with (first | ((with_reducible refine gate_dst (N := 2) rfl ?_); refine box_event ?hg (N := 2) ?hd (cs := #[.int .i64 0, .string (⟨#[]⟩ : ByteArray)]) (t := 27) ?hr ?_; (case hd => rfl); (case hg => rfl); (case hr => first | (go_simp; done) | (go_simp; rfl)); intro gb353 hg w16 hbox hb; have n0_ := Aside0.mk (below_step (by repeat (first | (with_reducible first | exact HB.out | apply below_alloc | apply pw_below_drewN | apply below_drew1) | exact HB.out)) hb); have n1_ := Aside0.mk (hbox); have n2_ := Aside0.mk ((by rw [hg]; exact (below_size (by repeat (first | (with_reducible first | exact HB.out | apply below_alloc | apply pw_below_drewN | apply below_drew1) | exact HB.out))) : w.heap.size ≤ gb353)); have n3_ := Aside0.mk ((by rw [hg]; exact (below_size (by repeat (first | (with_reducible first | exact HB.out | apply below_alloc | apply pw_below_drewN | apply below_drew1) | exact HB.out))) : w.heap.size ≤ gb353)); clear HB; have HB := n0_; have BK353 := n1_; have GW353 := n2_; have GE353 := n3_; clear n0_ n1_ n2_ n3_; clear hb hbox hg) | ((with_reducible refine gate_callee (f := 36) rfl ?_); refine goesL_ (some 10) rfl rfl Tryd.func36 (by kernel_rfl) rfl #[.slice A0 l0.length c0, .int .i64 3, .int .i64 1, .bool true] rfl (by (try simp only [List.map_toArray, List.map_cons, List.map_nil]); first | done | rfl | (simp only [List.length_drop, List.length_take]; rfl)) ?_; (with_reducible refine (record_open.calls k _ _ l0 3 1 true t354 t355 t356 _ ?side1 ?side2 A2.out).mono ?_); (case side1 => repeat (first | exact (Kd.C_below HR0.out HB.out) | (with_reducible refine Kd.C_alloc ?_ _) | (with_reducible refine Kd.C_drewN ?_ _) | (with_reducible refine Kd.C_drew ?_))); (case side2 => exact HC0.out); rintro e w17 ⟨v357, rfl, ho0, hb⟩; refine ⟨_, rfl, ?_⟩; have n0_ := Aside0.mk (Kd.R_lower ho0 (below_size (by repeat (first | (with_reducible first | exact HB.out | apply below_alloc | apply pw_below_drewN | apply below_drew1 | refine below_set ?_ GE353.out) | exact HB.out)))); have n1_ := Aside0.mk (blk_below (g := gb353) (o := .cells #[.int .i64 0, .string (⟨#[]⟩ : ByteArray)] 27 (0, 0)) (by (with_reducible repeat (first | refine blk_drewN ?_ _ | refine blk_drew ?_ | refine blk_alloc ?_ _)); exact BK353.out) hb); have n2_ := Aside0.mk (below_step (by repeat (first | (with_reducible first | exact HB.out | apply below_alloc | apply pw_below_drewN | apply below_drew1 | refine below_set ?_ GE353.out) | exact HB.out)) hb); clear BK353; clear HB; have HO358 := n0_; have BK353 := n1_; have HB := n2_; clear n0_ n1_ n2_; (try clear hb); (try clear hb2); (try clear hk); (try clear hi); (try clear ho0); obtain ⟨Ao18, co18, eo18⟩ := Kd.R_slice HO358.out; subst eo18; have p359 : 0 ≤ (0 : Int) := (by omega); have q359 : 0 < (t354.length : Int) := of_decide_eq_true (by first | (with_reducible assumption) | assumption); obtain ⟨ad359, e359, hx359_0⟩ := Kd.at_int (Kd.R_reads' HO358.out).2.2 0 p359 q359; cases e359; have qi359 : (0 < t354.length) = True := eq_true (by omega); (try rw [show ((0 : Int)).toNat = 0 from rfl] at hx359_0); (try rw [Addr.add_zero'] at hx359_0); replace p359 := eq_true p359; replace q359 := eq_true q359) | ((with_reducible refine gate_dst (N := 7) rfl ?_); refine box_event ?hg (N := 7) ?hd (cs := #[.int .i64 0, .string (⟨#[]⟩ : ByteArray)]) (t := 27) ?hr ?_; (case hd => rfl); (case hg => rfl); (case hr => first | (go_simp; done) | (go_simp; rfl)); intro gb360 hg w19 hbox hb; have n0_ := Aside0.mk (Kd.R_below (by (with_reducible repeat (first | apply Kd.R_alloc | apply Kd.R_drewN | apply Kd.R_drew)); exact HO358.out) hb); have n1_ := Aside0.mk (blk_below (g := gb353) (o := .cells #[.int .i64 0, .string (⟨#[]⟩ : ByteArray)] 27 (0, 0)) (by (with_reducible repeat (first | refine blk_drewN ?_ _ | refine blk_drew ?_ | refine blk_alloc ?_ _)); exact BK353.out) hb); have n2_ := Aside0.mk (below_step (by repeat (first | (with_reducible first | exact HB.out | apply below_alloc | apply pw_below_drewN | apply below_drew1 | refine below_set ?_ GE353.out) | exact HB.out)) hb); have n3_ := Aside0.mk (hbox); have n4_ := Aside0.mk ((by rw [hg]; exact (below_size (by repeat (first | (with_reducible first | exact HB.out | apply below_alloc | apply pw_below_drewN | apply below_drew1 | refine below_set ?_ GE353.out) | exact HB.out))) : w.heap.size ≤ gb360)); have n5_ := Aside0.mk ((by rw [hg]; exact (below_size (by repeat (first | (with_reducible first | exact HB.out | apply below_alloc | apply pw_below_drewN | apply below_drew1 | refine below_set ?_ GE353.out) | exact HB.out))) : w.heap.size ≤ gb360)); have n6_ := Aside0.mk ((by rw [hg]; exact Nat.ne_of_lt (blk_lt (g := gb353) (o := .cells #[.int .i64 0, .string (⟨#[]⟩ : ByteArray)] 27 (0, 0)) (by (with_reducible repeat (first | refine blk_drewN ?_ _ | refine blk_drew ?_ | refine blk_alloc ?_ _)); exact BK353.out)) : gb353 ≠ gb360)); have n7_ := Aside0.mk ((by rw [hg]; exact Nat.ne_of_gt (blk_lt (g := gb353) (o := .cells #[.int .i64 0, .string (⟨#[]⟩ : ByteArray)] 27 (0, 0)) (by (with_reducible repeat (first | refine blk_drewN ?_ _ | refine blk_drew ?_ | refine blk_alloc ?_ _)); exact BK353.out)) : gb360 ≠ gb353)); clear HO358; clear BK353; clear HB; have HO358 := n0_; have BK353 := n1_; have HB := n2_; have BK360 := n3_; have GW360 := n4_; have GE360 := n5_; have NB353_360 := n6_; have NB360_353 := n7_; clear n0_ n1_ n2_ n3_ n4_ n5_ n6_ n7_; clear hb hbox hg; have hnb20 := NB360_353.out; have hnc20 := NB353_360.out; have hcz21_0 : w19.cell? ⟨gb360, 0, none⟩ = some (.int .i64 0) := (blk_cell BK360.out 0).trans rfl; have hcz21_1 : w19.cell? ⟨gb360, 1, none⟩ = some (.string (⟨#[]⟩ : ByteArray)) := (blk_cell BK360.out 1).trans rfl; have hfz21_0 := blk_frozen BK360.out 0; have hfz21_1 := blk_frozen BK360.out 1) | ((with_reducible refine gate_callee (f := 35) rfl ?_); refine goesL_ (some 24) rfl rfl Tryd.func35 (by kernel_rfl) rfl #[.agg #[.int .i64 (rd t354 0), .string t355]] rfl (by (try simp only [List.map_toArray, List.map_cons, List.map_nil]); first | done | rfl | (simp only [List.length_drop, List.length_take]; rfl)) ?_; (with_reducible refine (record_Home_right.calls (rd t354 0) t355 false _ A5.out).mono ?_); rintro e w22 ⟨rfl, hb⟩; refine ⟨_, rfl, ?_⟩; have n0_ := Aside0.mk (Kd.R_below (by (with_reducible repeat (first | apply Kd.R_alloc | apply Kd.R_drewN | apply Kd.R_drew)); exact (Kd.R_mono (Kd.R_far (p := ⟨gb360, 1, none⟩) (Kd.R_far (p := ⟨gb360, 0, none⟩) (Kd.R_types HO358.out BK360.out (by decide)) (fun _ hk => hk.2) (.int .i64 (rd t354 0))) (fun _ hk => hk.2) (.string t355)) (fun _ h_ => h_.1))) hb); have n1_ := Aside0.mk (blk_below (g := gb353) (o := .cells #[.int .i64 0, .string (⟨#[]⟩ : ByteArray)] 27 (0, 0)) (by (with_reducible repeat (first | refine blk_drewN ?_ _ | refine blk_drew ?_ | refine blk_alloc ?_ _)); refine blk_far ?_ NB353_360.out _; (with_reducible repeat (first | refine blk_drewN ?_ _ | refine blk_drew ?_ | refine blk_alloc ?_ _)); refine blk_far ?_ NB353_360.out _; (with_reducible repeat (first | refine blk_drewN ?_ _ | refine blk_drew ?_ | refine blk_alloc ?_ _)); exact BK353.out) hb); have n2_ := Aside0.mk (blk_below (g := gb360) (o := .cells #[.int .i64 (rd t354 0), .string t355] 27 (0, 0)) (by (with_reducible repeat (first | refine blk_drewN ?_ _ | refine blk_drew ?_ | refine blk_alloc ?_ _)); refine blk_put (cs := #[.int .i64 (rd t354 0), .string (⟨#[]⟩ : ByteArray)]) ?_ 1 _ rfl; (with_reducible repeat (first | refine blk_drewN ?_ _ | refine blk_drew ?_ | refine blk_alloc ?_ _)); refine blk_put (cs := #[.int .i64 0, .string (⟨#[]⟩ : ByteArray)]) ?_ 0 _ rfl; (with_reducible repeat (first | refine blk_drewN ?_ _ | refine blk_drew ?_ | refine blk_alloc ?_ _)); exact BK360.out) hb); have n3_ := Aside0.mk (below_step (by repeat (first | (with_reducible first | exact HB.out | apply below_alloc | apply pw_below_drewN | apply below_drew1 | refine below_set ?_ GE353.out | refine below_set ?_ GE360.out) | exact HB.out)) hb); clear HO358; clear BK353; clear BK360; clear HB; have HO358 := n0_; have BK353 := n1_; have BK360 := n2_; have HB := n3_; clear n0_ n1_ n2_ n3_; (try clear hb); (try clear hb2); (try clear hk); (try clear hi); have hcz23_0 : w22.cell? ⟨gb353, 0, none⟩ = some (.int .i64 0) := (blk_cell BK353.out 0).trans rfl; have hcz23_1 : w22.cell? ⟨gb353, 1, none⟩ = some (.string (⟨#[]⟩ : ByteArray)) := (blk_cell BK353.out 1).trans rfl; have hfz23_0 := blk_frozen BK353.out 0; have hfz23_1 := blk_frozen BK353.out 1))
        refine bodyPost_ret (results_ct rfl _ _ gb353 27 #[.int .i64 0, .string (⟨#[]⟩ : ByteArray)] (0, 0) _ rfl (by (with_reducible repeat (first | refine blk_drewN ?_ _ | refine blk_drew ?_ | refine blk_alloc ?_ _)); refine blk_put (cs := #[.int .i64 0, .string (⟨#[]⟩ : ByteArray)]) ?_ 1 _ rfl; (with_reducible repeat (first | refine blk_drewN ?_ _ | refine blk_drew ?_ | refine blk_alloc ?_ _)); refine blk_put (cs := #[.int .i64 0, .string (⟨#[]⟩ : ByteArray)]) ?_ 0 _ rfl; (with_reducible repeat (first | refine blk_drewN ?_ _ | refine blk_drew ?_ | refine blk_alloc ?_ _)); exact BK353.out) Tryd.underlying27 rfl (by kernel_rfl)) rfl ?_
        exact ⟨by first | rfl | (simp [errW_none, errW_some] <;> rfl) | (simp [*, errW_none, errW_some] <;> rfl), by repeat (first | (with_reducible first | exact HB.out | apply below_alloc | apply pw_below_drewN | apply below_drew1 | refine below_set ?_ GE353.out | refine below_set ?_ GE360.out) | exact HB.out)⟩
    · rw [if_neg c4] at H
      exact absurd H (by simp)
  · rw [if_neg c3] at H
    have c3b0 : (t356 == 0) = false := beq_eq_false_iff_ne.mpr c3
    have c3b1 : (t356 != 0) = true := bne_iff_ne.mpr c3
    simp only [Option.some.injEq, Prod.mk.injEq] at H
    obtain ⟨rfl, rfl, rfl⟩ := H
    go_enter Tryd.func22, Tryd.ntmps22
    go_wp2_with (first | ((with_reducible refine gate_dst (N := 2) rfl ?_); refine box_event ?hg (N := 2) ?hd (cs := #[.int .i64 0, .string (⟨#[]⟩ : ByteArray)]) (t := 27) ?hr ?_; (case hd => rfl); (case hg => rfl); (case hr => first | (go_simp; done) | (go_simp; rfl)); intro gb353 hg w24 hbox hb; have n0_ := Aside0.mk (below_step (by repeat (first | (with_reducible first | exact HB.out | apply below_alloc | apply pw_below_drewN | apply below_drew1) | exact HB.out)) hb); have n1_ := Aside0.mk (hbox); have n2_ := Aside0.mk ((by rw [hg]; exact (below_size (by repeat (first | (with_reducible first | exact HB.out | apply below_alloc | apply pw_below_drewN | apply below_drew1) | exact HB.out))) : w.heap.size ≤ gb353)); have n3_ := Aside0.mk ((by rw [hg]; exact (below_size (by repeat (first | (with_reducible first | exact HB.out | apply below_alloc | apply pw_below_drewN | apply below_drew1) | exact HB.out))) : w.heap.size ≤ gb353)); clear HB; have HB := n0_; have BK353 := n1_; have GW353 := n2_; have GE353 := n3_; clear n0_ n1_ n2_ n3_; clear hb hbox hg) | ((with_reducible refine gate_callee (f := 36) rfl ?_); refine goesL_ (some 10) rfl rfl Tryd.func36 (by kernel_rfl) rfl #[.slice A0 l0.length c0, .int .i64 3, .int .i64 1, .bool true] rfl (by (try simp only [List.map_toArray, List.map_cons, List.map_nil]); first | done | rfl | (simp only [List.length_drop, List.length_take]; rfl)) ?_; (with_reducible refine (record_open.calls k _ _ l0 3 1 true t354 t355 t356 _ ?side1 ?side2 A2.out).mono ?_); (case side1 => repeat (first | exact (Kd.C_below HR0.out HB.out) | (with_reducible refine Kd.C_alloc ?_ _) | (with_reducible refine Kd.C_drewN ?_ _) | (with_reducible refine Kd.C_drew ?_))); (case side2 => exact HC0.out); rintro e w25 ⟨v357, rfl, ho0, hb⟩; refine ⟨_, rfl, ?_⟩; have n0_ := Aside0.mk (Kd.R_lower ho0 (below_size (by repeat (first | (with_reducible first | exact HB.out | apply below_alloc | apply pw_below_drewN | apply below_drew1 | refine below_set ?_ GE353.out) | exact HB.out)))); have n1_ := Aside0.mk (blk_below (g := gb353) (o := .cells #[.int .i64 0, .string (⟨#[]⟩ : ByteArray)] 27 (0, 0)) (by (with_reducible repeat (first | refine blk_drewN ?_ _ | refine blk_drew ?_ | refine blk_alloc ?_ _)); exact BK353.out) hb); have n2_ := Aside0.mk (below_step (by repeat (first | (with_reducible first | exact HB.out | apply below_alloc | apply pw_below_drewN | apply below_drew1 | refine below_set ?_ GE353.out) | exact HB.out)) hb); clear BK353; clear HB; have HO358 := n0_; have BK353 := n1_; have HB := n2_; clear n0_ n1_ n2_; (try clear hb); (try clear hb2); (try clear hk); (try clear hi); (try clear ho0); have hcz26_0 : w25.cell? ⟨gb353, 0, none⟩ = some (.int .i64 0) := (blk_cell BK353.out 0).trans rfl; have hcz26_1 : w25.cell? ⟨gb353, 1, none⟩ = some (.string (⟨#[]⟩ : ByteArray)) := (blk_cell BK353.out 1).trans rfl; have hfz26_0 := blk_frozen BK353.out 0; have hfz26_1 := blk_frozen BK353.out 1))
    refine bodyPost_ret (results_ct rfl _ _ gb353 27 #[.int .i64 0, .string (⟨#[]⟩ : ByteArray)] (0, 0) _ rfl (by (with_reducible repeat (first | refine blk_drewN ?_ _ | refine blk_drew ?_ | refine blk_alloc ?_ _)); refine blk_put (cs := #[.int .i64 0, .string (⟨#[]⟩ : ByteArray)]) ?_ 1 _ rfl; (with_reducible repeat (first | refine blk_drewN ?_ _ | refine blk_drew ?_ | refine blk_alloc ?_ _)); refine blk_put (cs := #[.int .i64 0, .string (⟨#[]⟩ : ByteArray)]) ?_ 0 _ rfl; (with_reducible repeat (first | refine blk_drewN ?_ _ | refine blk_drew ?_ | refine blk_alloc ?_ _)); exact BK353.out) Tryd.underlying27 rfl (by kernel_rfl)) rfl ?_
    exact ⟨by first | rfl | (simp [errW_none, errW_some] <;> rfl) | (simp [*, errW_none, errW_some] <;> rfl), by repeat (first | (with_reducible first | exact HB.out | apply below_alloc | apply pw_below_drewN | apply below_drew1 | refine below_set ?_ GE353.out) | exact HB.out)⟩
end
end Go.Proofs.YtmkkeccmjejfnaaDoor.PA
namespace Go.Proofs.YtmkkeccmjejfnaaDoor.PA
section

open Go.RowKit Go.Proofs.YtmkkeccmjejfnaaDoorW.PrintWords Go.Proofs.YtmkkeccmjejfnaaDoorW.PrintLast Go.Proofs.YtmkkeccmjejfnaaDoorW.PrintMore
set_option linter.unusedVariables false
set_option linter.unusedSimpArgs false
section
open Go.ChangeShapes Go.WideShapes Go.Deep
variable {H : Type} {enc : TypeId × Value → H} {P : Program} {w : World} {base : Nat} {spare : Nat → Bool} {held : Bool}
theorem ra_addr (a : Addr) (m i : Nat) : (a.add m).add i = a.add (m + i) := Go.Deep.add_add a m i
theorem open_rows {α : Type} [Inhabited α] (k : Kd α) (Wf : α → Prop) {t e : TypeId} {fuel : Nat} {A : Option Addr} {len cap : Nat} {x : DataW H × List MemPlace} (ht : P.underlying t = some (.slice e)) (hce : P.cellsOf e = k.sz)
    (He : ∀ n cs y, DataW.trod enc P w base spare held n e cs = some y → ∃ v, k.K w v cs ∧ Wf v)
    (h : DataW.trod enc P w base spare held fuel t [.slice A len cap] = some x) : ∃ l : List α, l.length = len ∧ k.C w A len l ∧ len ≤ cap ∧ ∀ v ∈ l, Wf v := by
  rcases open_slice ht h with ⟨hcs, _⟩ | ⟨a, l, c, m, n, D, Pl, hcs, _, hl, hm, hmm, _, hx⟩
  · simp at hcs
    obtain ⟨rfl, rfl, rfl⟩ := hcs
    exact ⟨[], rfl, ⟨rfl, by omega, fun h0 => absurd h0 (by omega)⟩, Nat.le_refl _, by simp⟩
  · simp at hcs
    obtain ⟨rfl, rfl, rfl⟩ := hcs
    have hlm : len ≤ m := by rw [hmm]; split <;> omega
    obtain ⟨f, hf⟩ := choose_lt (α := α) (n := len) (p := fun i v => ∃ cs, w.cells? base (a.add (i * k.sz)) k.sz = some cs ∧ k.K w v cs ∧ Wf v) (fun i hi => by
      obtain ⟨cs', h1, h2⟩ := hx i (by omega)
      rw [hce] at h1
      obtain ⟨v, h3, h4⟩ := He _ _ _ h2
      exact ⟨v, cs', h1, h3, h4⟩)
    refine ⟨(List.range len).map f, by simp, ⟨by simp, by simp only [maxLen] at hm; omega, fun _ => ⟨a, rfl, fun j p hj => ?_⟩⟩, hl, fun v hv => ?_⟩
    · have hjl : j < len := by
        rcases Nat.lt_or_ge j len with h' | h'
        · exact h'
        · rw [List.getElem?_eq_none (by simpa using h')] at hj; cases hj
      simp [hjl] at hj
      subst hj
      obtain ⟨cs, h1, h2, _⟩ := hf j hjl
      obtain ⟨_, h3, h4⟩ := World.cells?_some h1
      refine ⟨cs, h3, h2, fun i u hu => ?_⟩
      have hi : i < k.sz := by rw [← h3]; exact (List.getElem?_eq_some_iff.1 hu).1
      rw [← ra_addr, h4 i hi, hu]
    · simp only [List.mem_map, List.mem_range] at hv
      obtain ⟨j, hj, rfl⟩ := hv
      exact (hf j hj).choose_spec.2.2
theorem open_rows_sized {ts : List TypeId} {ds : List (DataW H)} {ps : List MemPlace} {d : DataW H} {j : Nat} {t e : TypeId} {A : Option Addr} {len cap : Nat}
    (hsz : (DataW.weightsEach P ts ds).all (· ≤ reachBytes) = true) (htj : ts[j]? = some t) (hdj : ds[j]? = some d) (ht : P.underlying t = some (.slice e)) {B : Nat} (hB : P.bytesOf e = B)
    (h : DataW.Trod enc P w base spare held t (.slice A len cap) d ps) : len * B ≤ 140737488351232 := by
  obtain ⟨fuel, hf⟩ := h
  rcases open_slice ht hf with ⟨hcs, _⟩ | ⟨a, l, c, m, n, D, Pl, hcs, _, hl, hm, hmm, hx, _⟩
  · simp [Value.cells] at hcs
    obtain ⟨rfl, rfl, rfl⟩ := hcs
    simp
  · simp [Value.cells] at hcs
    obtain ⟨rfl, rfl, rfl⟩ := hcs
    obtain ⟨hx, _⟩ := Prod.mk.inj hx
    subst hx
    have z := sized_slice hsz htj hdj ht
    rw [hB] at z
    have hle : len ≤ m := by rw [hmm]; split <;> omega
    simp only [List.length_map, List.length_range] at z
    have h3 : len ≤ len + (m - len) := by omega
    exact Nat.le_trans (Nat.mul_le_mul_right _ h3) z
end
theorem toList_data (a : ByteArray) : a.toList = a.data.toList := by
  have key : ∀ (d i : Nat) (r : List UInt8), i + d = a.size → ByteArray.toList.loop a i r = r.reverse ++ a.data.toList.drop i := by
    intro d
    induction d with
    | zero =>
      intro i r h
      unfold ByteArray.toList.loop
      rw [if_neg (by omega), List.drop_eq_nil_of_le (by simp; show a.size ≤ i; omega), List.append_nil]
    | succ d ih =>
      intro i r h
      have hi : i < a.data.toList.length := by simp; show i < a.size; omega
      unfold ByteArray.toList.loop
      rw [if_pos (by omega), ih (i + 1) _ (by omega), List.drop_eq_getElem_cons hi]
      have : a.get! i = a.data.toList[i] := by
        cases a with
        | mk bs =>
          simp at hi
          show bs[i]! = _
          rw [getElem!_pos bs i hi]
          simp
      simp [this]
  have := key a.size 0 [] (by omega)
  simpa [ByteArray.toList] using this
theorem toList_inj' {a b : ByteArray} : a.toList = b.toList ↔ a = b := by
  rw [toList_data, toList_data]
  constructor
  · intro h; exact ByteArray.ext (Array.toList_inj.1 h)
  · rintro rfl; rfl
theorem strOfNums_append (a b : List Int) : strOfNums a ++ strOfNums b = strOfNums (a ++ b) := by
  apply ByteArray.ext
  simp [strOfNums]
theorem strOfNums_inj {a b : List Int} (ha : byteL a) (hb : byteL b) (h : strOfNums a = strOfNums b) : a = b := by
  rw [← bytesOf_strOfNums a ha, ← bytesOf_strOfNums b hb, h]
theorem strOfNums_bytesOf (s : ByteArray) : strOfNums (bytesOf s) = s := by
  apply ByteArray.ext
  simp only [strOfNums, bytesOf, List.map_map]
  have : ∀ l : List UInt8, l.map ((fun n : Int => UInt8.ofNat n.toNat) ∘ fun b : UInt8 => ((b.toNat : Nat) : Int)) = l := by
    intro l
    conv => rhs; rw [← List.map_id l]
    refine List.map_congr_left (fun b _ => ?_)
    simp
  rw [this]
theorem bytesOf_byteL (s : ByteArray) : byteL (bytesOf s) := by
  intro b hb
  simp only [bytesOf, List.mem_map] at hb
  obtain ⟨x, _, rfl⟩ := hb
  have := x.toNat_lt
  omega
theorem byteL_append {a b : List Int} (ha : byteL a) (hb : byteL b) : byteL (a ++ b) := by
  intro x hx
  rcases List.mem_append.1 hx with h | h
  · exact ha x h
  · exact hb x h
theorem byteL_leB (x : Int) (n : Nat) : byteL (leB x n) := leB_byte x n
theorem byteL_cons {b : Int} {l : List Int} (h : byteL (b :: l)) : 0 ≤ b ∧ b ≤ 255 ∧ byteL l := ⟨(h b (by simp)).1, (h b (by simp)).2, fun x hx => h x (by simp [hx])⟩
theorem byteL_mk {b : Int} {l : List Int} (h0 : 0 ≤ b) (h1 : b ≤ 255) (h : byteL l) : byteL (b :: l) := by
  intro x hx
  rcases List.mem_cons.1 hx with rfl | hx
  · exact ⟨h0, h1⟩
  · exact h x hx
theorem encI_byteL (x : S77) : byteL (encI x) := by
  unfold encI
  split
  · exact byteL_mk (by omega) (by omega) (byteL_leB _ _)
  · exact byteL_mk (by omega) (by omega) (byteL_append (byteL_leB _ _) (bytesOf_byteL _))
theorem encL_byteL (l : List S77) : byteL (encL l) := by
  intro b hb
  simp only [encL, List.mem_flatMap] at hb
  obtain ⟨x, _, hx⟩ := hb
  exact encI_byteL x b hx
theorem encL_append (l m : List S77) : encL (l ++ m) = encL l ++ encL m := by simp [encL]
theorem encL_cons (x : S77) (l : List S77) : encL (x :: l) = encI x ++ encL l := by simp [encL]
theorem checkV_iff (l : List S77) : pack_checkV l = 0 ↔ l.length ≤ 4000 ∧ ∀ x ∈ l, okB x = true ∧ longB x = false := by
  unfold pack_checkV
  constructor
  · intro h
    by_cases h1 : 4000 < (l.length : Int)
    · rw [if_pos h1] at h; cases h
    rw [if_neg h1] at h
    by_cases h2 : l.any longB = true
    · rw [if_pos h2] at h; cases h
    rw [if_neg h2] at h
    by_cases h3 : l.all okB = true
    · refine ⟨by omega, fun x hx => ⟨List.all_eq_true.1 h3 x hx, ?_⟩⟩
      cases hh : longB x
      · rfl
      · exact absurd (List.any_eq_true.2 ⟨x, hx, hh⟩) h2
    · rw [if_neg h3] at h; cases h
  · rintro ⟨h1, h2⟩
    rw [if_neg (by omega), if_neg (by simp only [List.any_eq_true, not_exists, not_and]; intro x hx; simp [(h2 x hx).2]), if_pos (by simp only [List.all_eq_true]; exact fun x hx => (h2 x hx).1)]
theorem encode_some (l : List S77) : pack_Encode.f l = some (if pack_checkV l = 0 then encL l else [], pack_checkV l) := rfl
def decL : Nat → List S77 → List Int → List S77 × Int
  | 0, acc, _ => (acc, 0)
  | n + 1, acc, b =>
    match b with
    | [] => (acc, 0)
    | c :: r =>
      if c = 1 ∧ 8 ≤ r.length then
        (if (acc ++ [(⟨1, wrap64 (getV (r.take 8)), ⟨#[]⟩⟩ : S77)]).length > 4000 then ([], 2) else decL n (acc ++ [(⟨1, wrap64 (getV (r.take 8)), ⟨#[]⟩⟩ : S77)]) (r.drop 8))
      else if c = 2 ∧ 2 ≤ r.length then
        (if getV (r.take 2) > 50000 ∨ getV (r.take 2) > (r.length : Int) - 2 then ([], 2)
         else if (acc ++ [(⟨2, 0, strOfNums ((r.drop 2).take (getV (r.take 2)).toNat)⟩ : S77)]).length > 4000 then ([], 2)
         else decL n (acc ++ [(⟨2, 0, strOfNums ((r.drop 2).take (getV (r.take 2)).toNat)⟩ : S77)]) (r.drop (2 + (getV (r.take 2)).toNat)))
      else ([], 2)
theorem get_val' (l : List Int) (hl : byteL l) (h8 : l.length ≤ 8) (k : Nat) (hk : 9 ≤ k) : pack_get.f k l = some (getV l) := by
  have h := get_tells l hl h8 l.length k 0 (by omega) (by omega)
  simpa [pack_get.f, getV] using h
theorem getV2 (l : List Int) (hl : byteL l) (h : l.length = 2) : 0 ≤ getV l ∧ getV l ≤ 65535 := by
  have := getV_range l hl
  rw [h] at this
  omega
theorem w64_small (x : Int) (h0 : 0 ≤ x) (h1 : x ≤ 9223372036854775807) : wrap64 x = x := by unfold wrap64; omega
theorem decode_tells : ∀ (n : Nat) (b : List Int) (acc : List S77) (k : Nat), byteL b → b.length ≤ n → b.length ≤ 140737488351232 → acc.length ≤ 4000 → 4 * n + 20 ≤ k → pack_Decode.l0 k b acc = some (decL (n + 1) acc b) := by
  intro n
  induction n with
  | zero =>
    intro b acc k hb hn hl ha hk
    obtain rfl : b = [] := List.eq_nil_of_length_eq_zero (by omega)
    obtain ⟨k, rfl⟩ : ∃ m, k = m + 1 := ⟨k - 1, by omega⟩
    simp [pack_Decode.l0, decL]
  | succ n ih =>
    intro b acc k hb hn hl ha hk
    obtain ⟨k, rfl⟩ : ∃ m, k = m + 4 := ⟨k - 4, by omega⟩
    match b, hb, hn, hl with
    | [], _, _, _ => simp [pack_Decode.l0, decL]
    | c :: r, hb, hn, hl =>
      obtain ⟨hc0, hc1, hr⟩ := byteL_cons hb
      have hrl : r.length ≤ n := by simpa using hn
      have hrl2 : r.length ≤ 140737488351231 := by simp only [List.length_cons] at hl; omega
      have hrd : rd (c :: r) 0 = c := by simp [rd]
      have hd1 : (c :: r).drop 1 = r := rfl
      rw [show k + 4 = (k + 3) + 1 by omega]
      simp only [pack_Decode.l0]
      rw [if_pos (by simp only [List.length_cons]; omega), if_pos (by simp only [List.length_cons]; omega), if_pos (by simp only [List.length_cons]; omega), hrd, hd1]
      simp only [Option.bind_some]
      rw [decL]
      by_cases h1 : c = 1 ∧ 8 ≤ r.length
      · rw [if_pos h1, if_pos h1.1, show k + 3 = (k + 2) + 1 by omega]
        simp only [pack_Decode.j1]
        rw [if_pos (by simpa using (by omega : (8 : Int) ≤ r.length)), if_pos (by omega), get_val' _ (byteL_take hr 8) (by simp; omega) _ (by omega)]
        simp only [Option.bind_some]
        rw [if_pos (by omega)]
        by_cases h4 : (acc ++ [(⟨1, wrap64 (getV (r.take 8)), ⟨#[]⟩⟩ : S77)]).length > 4000
        · rw [if_pos (by omega), if_pos h4]
        · rw [if_neg (by omega), if_neg h4]
          exact ih _ _ _ (byteL_drop hr 8) (by simp; omega) (by simp; omega) (by omega) (by omega)
      · rw [if_neg h1]
        have e1 : (if c = 1 then pack_Decode.j1 (k + 3) acc c r (decide ((r.length : Int) ≥ 8)) else pack_Decode.j1 (k + 3) acc c r false) = pack_Decode.j1 (k + 3) acc c r false := by
          by_cases hc : c = 1
          · rw [if_pos hc]
            congr 1
            simp only [decide_eq_false_iff_not]
            have : ¬ 8 ≤ r.length := fun h => h1 ⟨hc, h⟩
            omega
          · rw [if_neg hc]
        rw [e1, show k + 3 = (k + 2) + 1 by omega]
        simp only [pack_Decode.j1]
        rw [if_neg (by simp)]
        by_cases h2 : c = 2 ∧ 2 ≤ r.length
        · have hg := getV2 (r.take 2) (byteL_take hr 2) (by rw [List.length_take]; omega)
          rw [if_pos h2, if_pos h2.1, show k + 2 = (k + 1) + 1 by omega]
          simp only [pack_Decode.j2]
          rw [if_pos (by simpa using (by omega : (2 : Int) ≤ r.length)), if_pos (by omega), get_val' _ (byteL_take hr 2) (by simp; omega) _ (by omega)]
          simp only [Option.bind_some]
          rw [w64_small _ hg.1 (by omega), w64_small ((r.length : Int) - 2) (by omega) (by omega)]
          generalize hgv : getV (r.take 2) = v at *
          by_cases h5 : v > 50000 ∨ v > (r.length : Int) - 2
          · rw [if_pos h5]
            by_cases h6 : v > 50000
            · rw [if_pos h6]; simp [pack_Decode.j3]
            · rw [if_neg h6, show decide (v > (r.length : Int) - 2) = true by simpa using h5.resolve_left h6]; simp [pack_Decode.j3]
          · rw [if_neg h5, if_neg (by omega), show decide (v > (r.length : Int) - 2) = false by simp; omega]
            simp only [pack_Decode.j3]
            rw [if_neg (by simp), w64_small (2 + v) (by omega) (by omega), if_pos (by omega), if_pos (by omega), if_pos (by omega)]
            simp only [Option.bind_some]
            have et : (2 + v).toNat = 2 + v.toNat := by omega
            rw [if_pos (by omega), et, List.drop_take, show 2 + v.toNat - 2 = v.toNat by omega]
            by_cases h4 : (acc ++ [(⟨2, 0, strOfNums ((r.drop 2).take v.toNat)⟩ : S77)]).length > 4000
            · rw [if_pos (by omega), if_pos h4]
            · rw [if_neg (by omega), if_neg h4]
              exact ih _ _ _ (byteL_drop hr _) (by simp; omega) (by simp; omega) (by omega) (by omega)
        · rw [if_neg h2]
          have e2 : (if c = 2 then pack_Decode.j2 (k + 2) acc r (decide ((r.length : Int) ≥ 2)) else pack_Decode.j2 (k + 2) acc r false) = pack_Decode.j2 (k + 2) acc r false := by
            by_cases hc : c = 2
            · rw [if_pos hc]
              congr 1
              simp only [decide_eq_false_iff_not]
              have : ¬ 2 ≤ r.length := fun h => h2 ⟨hc, h⟩
              omega
            · rw [if_neg hc]
          rw [e2]
          simp [pack_Decode.j2]
def decF (b : List Int) : List S77 × Int := decL (b.length + 1) [] b
theorem decode_val (b : List Int) (hb : byteL b) (hl : b.length ≤ 140737488351232) (k : Nat) (hk : 4 * b.length + 20 ≤ k) : pack_Decode.f k b = some (decF b) :=
  decode_tells b.length b [] k hb (Nat.le_refl _) hl (by simp) hk
def wfI (x : S77) : Prop := (Lit.int .i64 x.f1).wf = true
theorem wf_i64 {x : Int} (h : (Lit.int .i64 x).wf = true) : -9223372036854775808 ≤ x ∧ x ≤ 9223372036854775807 := by
  simpa [Lit.wf, IntKind.min, IntKind.max, IntKind.signed, IntKind.bits] using h
theorem i64_u64 (x : Int) (h0 : -9223372036854775808 ≤ x) (h1 : x ≤ 9223372036854775807) : wrap64 (IntKind.u64.wrap x) = x := by
  have : IntKind.u64.wrap x = x % 18446744073709551616 := by simp [IntKind.wrap, IntKind.signed, IntKind.bits]
  rw [this]; unfold wrap64; omega
theorem dec_enc : ∀ (l : List S77) (acc : List S77) (n : Nat), (∀ x ∈ l, okB x = true ∧ longB x = false ∧ wfI x) → acc.length + l.length ≤ 4000 → (encL l).length < n → decL n acc (encL l) = (acc ++ l, 0) := by
  intro l
  induction l with
  | nil =>
    intro acc n _ _ hn
    obtain ⟨n, rfl⟩ : ∃ m, n = m + 1 := ⟨n - 1, by omega⟩
    simp [encL, decL]
  | cons x l ih =>
    intro acc n h ha hn
    obtain ⟨n, rfl⟩ : ∃ m, n = m + 1 := ⟨n - 1, by omega⟩
    obtain ⟨h1, h2, h3⟩ := h x (by simp)
    have hrest := fun y (hy : y ∈ l) => h y (by simp [hy])
    have hw := wf_i64 h3
    have hur := u64_range x.f1
    simp only [List.length_cons] at ha
    rw [encL_cons] at hn ⊢
    by_cases k1 : x.f0 = 1
    · have e : encI x = 1 :: leB (IntKind.u64.wrap x.f1) 8 := by rw [encI, if_pos k1]
      have hx : x = ⟨1, x.f1, ⟨#[]⟩⟩ := by
        have hs : x.f2 = ⟨#[]⟩ := by
          rw [okB_1 k1] at h1
          exact toList_inj'.1 (by simpa using h1)
        obtain ⟨a, b, c⟩ := x
        simp only at k1 hs
        subst k1 hs
        rfl
      rw [e] at hn ⊢
      simp only [List.cons_append]
      rw [decL, if_pos ⟨rfl, by simp [leB_length]⟩]
      rw [List.take_append_of_le_length (by rw [leB_length]; omega), List.take_of_length_le (by rw [leB_length]; omega), getV_leB _ 8 hur.1 (by simpa using hur.2), i64_u64 _ hw.1 hw.2]
      rw [List.drop_append_of_le_length (by rw [leB_length]; omega), List.drop_eq_nil_of_le (by rw [leB_length]; omega), List.nil_append, ← hx]
      rw [if_neg (by simp; omega), ih _ _ hrest (by simp; omega) (by simp [leB_length] at hn; omega)]
      simp
    · have k2 := kind_ok h1 k1
      have e : encI x = 2 :: (leB (x.f2.size : Int) 2 ++ bytesOf x.f2) := by rw [encI, if_neg k1]
      have hz : x.f2.size ≤ 50000 := by
        simp only [longB, k2, Bool.and_eq_false_iff, decide_eq_false_iff_not] at h2
        rcases h2 with h2 | h2
        · cases h2
        · omega
      have hx : x = ⟨2, 0, x.f2⟩ := by
        rw [okB_2 k2] at h1
        obtain ⟨a, b, c⟩ := x
        simp only [beq_iff_eq] at k2 h1
        subst k2 h1
        rfl
      rw [e] at hn ⊢
      simp only [List.cons_append]
      have t2 : (leB (x.f2.size : Int) 2 ++ bytesOf x.f2 ++ encL l).take 2 = leB (x.f2.size : Int) 2 := by
        rw [List.append_assoc, List.take_append_of_le_length (by rw [leB_length]; omega), List.take_of_length_le (by rw [leB_length]; omega)]
      have d2 : (leB (x.f2.size : Int) 2 ++ bytesOf x.f2 ++ encL l).drop 2 = bytesOf x.f2 ++ encL l := by
        rw [List.append_assoc, List.drop_append_of_le_length (by rw [leB_length]; omega), List.drop_eq_nil_of_le (by rw [leB_length]; omega), List.nil_append]
      have gv : getV (leB (x.f2.size : Int) 2) = (x.f2.size : Int) := getV_leB _ 2 (by omega) (by omega)
      rw [decL, if_neg (by simp), if_pos ⟨rfl, by simp only [List.length_append, leB_length]; omega⟩, t2, gv, if_neg (by simp [leB_length, bytesOf_length]; omega), d2, Int.toNat_natCast]
      rw [List.take_append_of_le_length (by rw [bytesOf_length]; omega), List.take_of_length_le (by rw [bytesOf_length]; omega), strOfNums_bytesOf, ← hx]
      have d3 : (leB (x.f2.size : Int) 2 ++ bytesOf x.f2 ++ encL l).drop (2 + x.f2.size) = encL l := by
        rw [← List.drop_drop, d2, List.drop_append_of_le_length (by rw [bytesOf_length]; omega), List.drop_eq_nil_of_le (by rw [bytesOf_length]; omega), List.nil_append]
      rw [if_neg (by simp; omega), d3, ih _ _ hrest (by simp; omega) (by simp [leB_length] at hn; omega)]
      simp
theorem u64_i64 (x : Int) (h0 : 0 ≤ x) (h1 : x < 18446744073709551616) : IntKind.u64.wrap (wrap64 x) = x := by
  have : ∀ y, IntKind.u64.wrap y = y % 18446744073709551616 := fun y => by simp [IntKind.wrap, IntKind.signed, IntKind.bits]
  rw [this]; unfold wrap64; omega
theorem wfI_wrap (v : Int) (a : Int) (s : ByteArray) : wfI ⟨a, wrap64 v, s⟩ := by
  unfold wfI Lit.wf
  simp [IntKind.min, IntKind.max, IntKind.signed, IntKind.bits]
  unfold wrap64
  omega
theorem enc_dec : ∀ (n : Nat) (acc : List S77) (b : List Int), byteL b → b.length < n → acc.length ≤ 4000 →
    decL n acc b = ([], 2) ∨ ∃ m, decL n acc b = (acc ++ m, 0) ∧ encL m = b ∧ (∀ x ∈ m, okB x = true ∧ longB x = false ∧ wfI x) ∧ acc.length + m.length ≤ 4000 := by
  intro n
  induction n with
  | zero => intro acc b _ h; omega
  | succ n ih =>
    intro acc b hb hn ha
    match b, hb, hn with
    | [], _, _ => exact .inr ⟨[], by simp [decL], by simp [encL], by simp, by simpa using ha⟩
    | c :: r, hb, hn =>
      obtain ⟨hc0, hc1, hr⟩ := byteL_cons hb
      have hrl : r.length < n := by simpa using hn
      rw [decL]
      by_cases h1 : c = 1 ∧ 8 ≤ r.length
      · rw [if_pos h1]
        by_cases h4 : (acc ++ [(⟨1, wrap64 (getV (r.take 8)), ⟨#[]⟩⟩ : S77)]).length > 4000
        · rw [if_pos h4]; exact .inl rfl
        · rw [if_neg h4]
          rcases ih (acc ++ [(⟨1, wrap64 (getV (r.take 8)), ⟨#[]⟩⟩ : S77)]) (r.drop 8) (byteL_drop hr 8) (by simp; omega) (by omega) with h | ⟨m, hm, he, hw, hl⟩
          · exact .inl h
          · refine .inr ⟨⟨1, wrap64 (getV (r.take 8)), ⟨#[]⟩⟩ :: m, by rw [hm]; simp, ?_, ?_, by simp at hl ⊢; omega⟩
            · have hlen : (r.take 8).length = 8 := by rw [List.length_take]; omega
              have hg := getV_range (r.take 8) (byteL_take hr 8)
              rw [hlen] at hg
              rw [encL_cons, he, encI, if_pos rfl, u64_i64 _ hg.1 (by simpa using hg.2)]
              have h8 := leB_getV (r.take 8) (byteL_take hr 8)
              rw [hlen] at h8
              rw [h8, h1.1]
              simp
            · intro x hx
              rcases List.mem_cons.1 hx with rfl | hx
              · exact ⟨by simp [okB, toList_data], by simp [longB], wfI_wrap _ _ _⟩
              · exact hw x hx
      · rw [if_neg h1]
        by_cases h2 : c = 2 ∧ 2 ≤ r.length
        · rw [if_pos h2]
          have hlen : (r.take 2).length = 2 := by rw [List.length_take]; omega
          have hg := getV2 (r.take 2) (byteL_take hr 2) hlen
          have h8 := leB_getV (r.take 2) (byteL_take hr 2)
          rw [hlen] at h8
          generalize hgv : getV (r.take 2) = v at *
          by_cases h5 : v > 50000 ∨ v > (r.length : Int) - 2
          · rw [if_pos h5]; exact .inl rfl
          · rw [if_neg h5]
            by_cases h4 : (acc ++ [(⟨2, 0, strOfNums ((r.drop 2).take v.toNat)⟩ : S77)]).length > 4000
            · rw [if_pos h4]; exact .inl rfl
            · rw [if_neg h4]
              rcases ih (acc ++ [(⟨2, 0, strOfNums ((r.drop 2).take v.toNat)⟩ : S77)]) (r.drop (2 + v.toNat)) (byteL_drop hr _) (by simp; omega) (by omega) with h | ⟨m, hm, he, hw, hl⟩
              · exact .inl h
              · have hsz : (strOfNums ((r.drop 2).take v.toNat)).size = v.toNat := by rw [size_strOfNums]; simp; omega
                refine .inr ⟨⟨2, 0, strOfNums ((r.drop 2).take v.toNat)⟩ :: m, by rw [hm]; simp, ?_, ?_, by simp at hl ⊢; omega⟩
                · rw [encL_cons, he, encI, if_neg (by simp)]
                  simp only [hsz]
                  rw [show ((v.toNat : Nat) : Int) = v by omega, h8, bytesOf_strOfNums _ (byteL_take (byteL_drop hr 2) _), h2.1]
                  simp only [List.cons_append]
                  congr 1
                  rw [List.append_assoc, ← List.drop_drop, List.take_append_drop, List.take_append_drop]
                · intro x hx
                  rcases List.mem_cons.1 hx with rfl | hx
                  · refine ⟨by simp [okB], ?_, by show (Lit.int .i64 0).wf = true; decide⟩
                    simp only [longB, hsz, Bool.and_eq_false_iff, decide_eq_false_iff_not]
                    right; omega
                  · exact hw x hx
        · rw [if_neg h2]; exact .inl rfl
theorem decF_enc (l : List S77) (hc : pack_checkV l = 0) (hw : ∀ x ∈ l, wfI x) : decF (encL l) = (l, 0) := by
  obtain ⟨h1, h2⟩ := (checkV_iff l).1 hc
  have := dec_enc l [] ((encL l).length + 1) (fun x hx => ⟨(h2 x hx).1, (h2 x hx).2, hw x hx⟩) (by simpa using h1) (by omega)
  simpa [decF] using this
theorem decF_tells (b : List Int) (hb : byteL b) : decF b = ([], 2) ∨ ∃ m, decF b = (m, 0) ∧ encL m = b ∧ pack_checkV m = 0 ∧ ∀ x ∈ m, wfI x := by
  rcases enc_dec (b.length + 1) [] b hb (by omega) (by simp) with h | ⟨m, h1, h2, h3, h4⟩
  · exact .inl h
  · exact .inr ⟨m, by simpa [decF] using h1, h2, (checkV_iff m).2 ⟨by simpa using h4, fun x hx => ⟨(h3 x hx).1, (h3 x hx).2.1⟩⟩, fun x hx => (h3 x hx).2.2⟩
def sealL (l : List Int) : List Int := l ++ leB (crcV l) 4
theorem sealL_length (l : List Int) : (sealL l).length = l.length + 4 := by simp [sealL, leB_length]
theorem sealL_byteL {l : List Int} (h : byteL l) : byteL (sealL l) := byteL_append h (byteL_leB _ _)
theorem seal_val (l : List Int) (hl : byteL l) (hm : l.length ≤ 140737488351232) : pack_Seal.f (10 * l.length + 20) l = some (sealL l) := by
  have hcr := crcV_range l hl
  have h1 : pack_Crc.f (10 * l.length + 20) l = some (crcV l) := by
    have h := crc_tells l hl (by omega) l.length (10 * l.length + 20) 0 4294967295 (by decide) (by omega) (by omega)
    simpa [pack_Crc.f, crcV] using h
  have h2 : pack_put.f (10 * l.length + 20) l (crcV l) 4 = some (l ++ leB (crcV l) 4) := by
    rw [pack_put.f]
    exact put_tells 4 (by omega) 4 (10 * l.length + 20) (crcV l) l 0 (by omega) (by omega) (by omega) (by omega)
  unfold pack_Seal.f
  rw [bytes_Clone.f, if_pos (by omega), h1]
  simp only [Option.bind_some]
  rw [u64_id _ hcr.1 (by omega), h2]
  rfl
theorem bytesOf_extract (s : ByteArray) (i j : Nat) : bytesOf (s.extract i j) = ((bytesOf s).take j).drop i := by
  simp only [bytesOf, ByteArray.data_extract, Array.toList_extract]
  simp [List.map_drop, List.map_take, List.extract_eq_take_drop, List.drop_take]
def mirV (x : Nat) : Nat → Nat
  | 0 => 0
  | n + 1 => 2 * mirV x n + (x / 2 ^ n) % 2
theorem mirV_bit (x n i : Nat) : (mirV x n).testBit i = (decide (i < n) && x.testBit (n - 1 - i)) := by
  induction n generalizing i with
  | zero => simp [mirV]
  | succ n ih =>
    rw [mirV]
    cases i with
    | zero =>
      rw [Nat.testBit_zero]
      have : x.testBit n = decide ((x / 2 ^ n) % 2 = 1) := by rw [Nat.testBit_eq_decide_div_mod_eq]
      simp only [Nat.add_sub_cancel, Nat.sub_zero, this]
      rw [show (2 * mirV x n + x / 2 ^ n % 2) % 2 = x / 2 ^ n % 2 by omega]
      simp
    | succ i =>
      rw [Nat.testBit_add_one, show (2 * mirV x n + x / 2 ^ n % 2) / 2 = mirV x n by omega, ih]
      have e : n + 1 - 1 - (i + 1) = n - 1 - i := by omega
      rw [e]
      simp
theorem mirV_lt (x n : Nat) : mirV x n < 2 ^ n := by
  induction n with
  | zero => simp [mirV]
  | succ n ih => rw [mirV, Nat.pow_succ]; omega
theorem mirV_xor (a b n : Nat) : mirV (a ^^^ b) n = mirV a n ^^^ mirV b n := by
  apply Nat.eq_of_testBit_eq
  intro i
  rw [Nat.testBit_xor, mirV_bit, mirV_bit, mirV_bit, Nat.testBit_xor]
  cases decide (i < n) <;> simp
theorem mirV_mirV (x n : Nat) (h : x < 2 ^ n) : mirV (mirV x n) n = x := by
  apply Nat.eq_of_testBit_eq
  intro i
  rw [mirV_bit, mirV_bit]
  by_cases hi : i < n
  · simp only [hi, decide_true, Bool.true_and]
    rw [show n - 1 - (n - 1 - i) = i by omega]
    simp
    omega
  · simp only [hi, decide_false, Bool.false_and]
    symm
    exact Nat.testBit_lt_two_pow (Nat.lt_of_lt_of_le h (Nat.pow_le_pow_right (by decide) (by omega)))
theorem mirV_byte (b : Nat) (h : b < 256) : mirV b 32 = mirV b 8 * 16777216 := by
  apply Nat.eq_of_testBit_eq
  intro i
  rw [show 16777216 = 2 ^ 24 from rfl, Nat.mul_comm, Nat.testBit_two_pow_mul, mirV_bit, mirV_bit]
  by_cases h1 : 24 ≤ i
  · by_cases h2 : i < 32
    · simp only [h1, h2, show i - 24 < 8 by omega, decide_true, Bool.true_and]
      rw [show 8 - 1 - (i - 24) = 32 - 1 - i by omega]
    · simp only [h2, show ¬ i - 24 < 8 by omega, decide_false, Bool.false_and, Bool.and_false]
  · have : b.testBit (32 - 1 - i) = false := Nat.testBit_lt_two_pow (Nat.lt_of_lt_of_le h (by rw [show 256 = 2 ^ 8 from rfl]; exact Nat.pow_le_pow_right (by decide) (by omega)))
    simp [h1, this]
def refBit (r : Nat) : Nat := if r * 2 / 4294967296 = 0 then r * 2 else (r * 2) ^^^ 4374732215
theorem mirV_half (s : Nat) (h : s < 4294967296) : mirV (s / 2) 32 = (mirV s 32 * 2) % 4294967296 := by
  apply Nat.eq_of_testBit_eq
  intro i
  rw [show 4294967296 = 2 ^ 32 from rfl, Nat.testBit_mod_two_pow, mirV_bit]
  by_cases hi : i < 32
  · simp only [hi, decide_true, Bool.true_and]
    cases i with
    | zero =>
      have : (s / 2).testBit 31 = false := Nat.testBit_lt_two_pow (by omega)
      rw [this]
      simp [Nat.testBit_zero]
    | succ i =>
      rw [Nat.testBit_add_one, Nat.mul_div_cancel _ (by decide), mirV_bit, ← Nat.testBit_add_one]
      simp only [show i < 32 by omega, decide_true, Bool.true_and]
      rw [show 32 - 1 - (i + 1) + 1 = 32 - 1 - i by omega]
  · simp [hi]
theorem mirV_odd (s : Nat) : mirV s 32 / 2147483648 = s % 2 := by
  have h := mirV_bit s 32 31
  have hl := mirV_lt s 32
  rw [Nat.testBit_eq_decide_div_mod_eq, show 32 - 1 - 31 = 0 by rfl, Nat.testBit_zero] at h
  have h2 : mirV s 32 / 2 ^ 31 < 2 := by omega
  have h3 : 2 ^ 31 = 2147483648 := rfl
  rw [h3] at h h2
  simp at h
  omega
theorem mir_step (s : Nat) (h : s < 4294967296) : mirV (crcBit s) 32 = refBit (mirV s 32) := by
  have h1 := mirV_half s h
  have h2 := mirV_odd s
  have h3 := mirV_lt s 32
  unfold crcBit refBit
  by_cases ho : s % 2 = 1
  · rw [if_pos ho, if_neg (by omega), mirV_xor, h1, show mirV 3988292384 32 = 79764919 by decide +kernel]
    have e : mirV s 32 * 2 = (mirV s 32 * 2) % 4294967296 ^^^ 4294967296 := by
      have hm : (mirV s 32 * 2) % 4294967296 < 2 ^ 32 := Nat.mod_lt _ (by decide)
      rw [Nat.xor_comm]
      have := Nat.two_pow_add_eq_or_of_lt hm 1
      rw [show 2 ^ 32 * 1 = 4294967296 by rfl] at this
      have hx : 4294967296 ^^^ (mirV s 32 * 2) % 4294967296 = 4294967296 ||| (mirV s 32 * 2) % 4294967296 := by
        apply Nat.eq_of_testBit_eq
        intro i
        rw [Nat.testBit_xor, Nat.testBit_or, show 4294967296 = 2 ^ 32 from rfl, Nat.testBit_mod_two_pow, Nat.testBit_two_pow]
        by_cases hi : i < 32
        · have : ¬ 32 = i := by omega
          simp [hi, this]
        · simp [hi]
      rw [hx, ← this]
      omega
    conv => rhs; rw [e]
    rw [Nat.xor_assoc, show 4294967296 ^^^ 4374732215 = 79764919 by decide +kernel]
  · rw [if_neg ho, if_pos (by omega), h1]
    omega
theorem mirror_tells (x : Nat) (hx : x < 18446744073709551616) (n : Nat) (hn : n ≤ 32) : ∀ (d k i : Nat), i + d = n → d < k → cisternref03_mirror.l0 k (x : Int) (n : Int) ((mirV x i : Nat) : Int) (i : Int) = some ((mirV x n : Nat) : Int) := by
  intro d
  induction d with
  | zero =>
    intro k i hd hk
    obtain ⟨k, rfl⟩ : ∃ m, k = m + 1 := ⟨k - 1, by omega⟩
    obtain rfl : i = n := by omega
    simp only [cisternref03_mirror.l0]
    rw [if_neg (by omega)]
  | succ d ih =>
    intro k i hd hk
    obtain ⟨k, rfl⟩ : ∃ m, k = m + 1 := ⟨k - 1, by omega⟩
    have hml := mirV_lt x i
    have hp : 2 ^ i ≤ 2 ^ 31 := Nat.pow_le_pow_right (by decide) (by omega)
    have hsh : shr .u64 (x : Int) (i : Int) = ((x / 2 ^ i : Nat) : Int) := by
      unfold shr
      rw [Int.toNat_natCast, Nat.min_eq_left (by show i ≤ 64; omega)]
      simp
    have hxi : x / 2 ^ i < 18446744073709551616 := Nat.lt_of_le_of_lt (Nat.div_le_self _ _) hx
    have hand : Go.bits .and .u64 ((x / 2 ^ i : Nat) : Int) 1 = ((x / 2 ^ i % 2 : Nat) : Int) := by
      have h := (bits_nat .u64 64 (by decide) (fun n h0 h1 => u64_id n h0 (by simpa using h1)) (x / 2 ^ i) 1 hxi (by decide)).1
      rw [Nat.and_one_is_mod] at h
      simpa using h
    simp only [cisternref03_mirror.l0]
    rw [if_pos (by omega), if_pos (by omega), hsh, hand, u64_id (((mirV x i : Nat) : Int) * 2) (by omega) (by omega), u64_id _ (by omega) (by omega), show wrap64 ((i : Int) + 1) = ((i + 1 : Nat) : Int) by unfold wrap64; omega]
    have e : ((mirV x i : Nat) : Int) * 2 + ((x / 2 ^ i % 2 : Nat) : Int) = ((mirV x (i + 1) : Nat) : Int) := by
      rw [mirV]; omega
    rw [e]
    exact ih k (i + 1) (by omega) (by omega)
theorem mirror_val (x : Nat) (hx : x < 18446744073709551616) (n k : Nat) (hn : n ≤ 32) (hk : n < k) : cisternref03_mirror.f k (x : Int) (n : Int) = some ((mirV x n : Nat) : Int) :=
  mirror_tells x hx n hn n k 0 (by omega) hk
def refBits : Nat → Nat → Nat
  | 0, r => r
  | n + 1, r => refBits n (refBit r)
theorem refBit_lt {r : Nat} (h : r < 4294967296) : refBit r < 4294967296 := by
  have := mir_step (mirV r 32) (mirV_lt r 32)
  rw [mirV_mirV r 32 h] at this
  rw [← this]
  exact mirV_lt _ 32
theorem refBits_mir (n s : Nat) (h : s < 4294967296) : refBits n (mirV s 32) = mirV (crcBits n s) 32 := by
  induction n generalizing s with
  | zero => rfl
  | succ n ih => rw [refBits, ← mir_step s h, ih _ (crcBit_lt h), crcBits_succ]
theorem refcrc1_tells (s : ByteArray) (i : Nat) : ∀ (d k j : Nat) (r : Nat), r < 4294967296 → j + d = 8 → d < k → ∀ z, cisternref03_Crc.l0 (k - 1 - d) s ((refBits d r : Nat) : Int) (wrap64 ((i : Int) + 1)) = some z → cisternref03_Crc.l1 k s (r : Int) (i : Int) (j : Int) = some z := by
  intro d
  induction d with
  | zero =>
    intro k j r hr hd hk z hz
    obtain ⟨k, rfl⟩ : ∃ m, k = m + 1 := ⟨k - 1, by omega⟩
    simp only [cisternref03_Crc.l1]
    rw [if_neg (by omega)]
    exact hz
  | succ d ih =>
    intro k j r hr hd hk z hz
    obtain ⟨k, rfl⟩ : ∃ m, k = m + 1 := ⟨k - 1, by omega⟩
    have hz2 := ih k (j + 1) (refBit r) (refBit_lt hr) (by omega) (by omega) z (by rw [show k - 1 - d = k + 1 - 1 - (d + 1) by omega]; exact hz)
    simp only [cisternref03_Crc.l1]
    rw [if_pos (by omega), u64_id ((r : Int) * 2) (by omega) (by omega), show wrap64 ((j : Int) + 1) = ((j + 1 : Nat) : Int) by unfold wrap64; omega]
    unfold refBit at hz2
    by_cases h : r * 2 / 4294967296 = 0
    · rw [if_pos h] at hz2
      rw [if_pos (by omega), show (r : Int) * 2 = ((r * 2 : Nat) : Int) by omega]
      exact hz2
    · rw [if_neg h] at hz2
      rw [if_neg (by omega), show (r : Int) * 2 = ((r * 2 : Nat) : Int) by omega, show (4374732215 : Int) = ((4374732215 : Nat) : Int) from rfl, xor_u64 _ _ (by omega) (by omega)]
      exact hz2
theorem refcrc_tells (s : ByteArray) (hm : s.size ≤ 9223372036854775807) : ∀ (d k i : Nat) (x : Nat), x < 4294967296 → i + d = s.size → 10 * d + 40 < k → cisternref03_Crc.l0 k s ((mirV x 32 : Nat) : Int) (i : Int) = some ((crcL x ((bytesOf s).drop i) ^^^ 4294967295 : Nat) : Int) := by
  have hb := bytesOf_byteL s
  have hlen := bytesOf_length s
  intro d
  induction d with
  | zero =>
    intro k i x hx hd hk
    obtain ⟨k, rfl⟩ : ∃ m, k = m + 1 := ⟨k - 1, by omega⟩
    have hxx := Nat.xor_lt_two_pow (n := 32) hx (show 4294967295 < 2 ^ 32 by decide)
    have hl := mirV_lt x 32
    simp only [cisternref03_Crc.l0]
    rw [if_neg (by omega), List.drop_eq_nil_of_le (by omega), crcL_nil, show (4294967295 : Int) = ((4294967295 : Nat) : Int) from rfl, xor_u64 _ _ (by omega) (by decide)]
    have e : mirV x 32 ^^^ 4294967295 = mirV (x ^^^ 4294967295) 32 := by rw [mirV_xor, show mirV 4294967295 32 = 4294967295 by decide +kernel]
    have := mirror_val (mirV (x ^^^ 4294967295) 32) (by have := mirV_lt (x ^^^ 4294967295) 32; omega) 32 k (by omega) (by omega)
    rw [e, show (32 : Int) = ((32 : Nat) : Int) from rfl, this, mirV_mirV _ 32 hxx]
    simp only [Option.bind_some]
    congr 1
    unfold wrap64
    omega
  | succ d ih =>
    intro k i x hx hd hk
    obtain ⟨k, rfl⟩ : ∃ m, k = m + 1 := ⟨k - 1, by omega⟩
    have hi : i < (bytesOf s).length := by omega
    obtain ⟨e, b0, b1⟩ := rd_nat (bytesOf s) hb i hi
    have hbt : bt s (i : Int) = (((bytesOf s)[i].toNat : Nat) : Int) := by rw [← rd_bytesOf, e]; omega
    generalize hv : (bytesOf s)[i].toNat = v at hbt
    have hv2 : v < 256 := by omega
    have hmb := mirV_lt v 8
    simp only [cisternref03_Crc.l0]
    rw [if_pos (by omega), if_pos (by omega), hbt, u64_id _ (by omega) (by omega), show (8 : Int) = ((8 : Nat) : Int) from rfl, mirror_val v (by omega) 8 k (by omega) (by omega)]
    simp only [Option.bind_some]
    have hl := mirV_lt x 32
    have hxv : x ^^^ v < 4294967296 := Nat.xor_lt_two_pow (n := 32) hx (by omega)
    rw [u64_id (((mirV v 8 : Nat) : Int) * 16777216) (by omega) (by omega), show ((mirV v 8 : Nat) : Int) * 16777216 = ((mirV v 8 * 16777216 : Nat) : Int) by omega, ← mirV_byte v hv2, xor_u64 _ _ (by omega) (by have := mirV_lt v 32; omega), ← mirV_xor]
    refine refcrc1_tells s i 8 k 0 _ (mirV_lt _ 32) rfl (by omega) _ ?_
    rw [refBits_mir 8 _ hxv, show wrap64 ((i : Int) + 1) = ((i + 1 : Nat) : Int) by unfold wrap64; omega]
    rw [ih (k - 1 - 8) (i + 1) _ (crcBits_lt hxv) (by omega) (by omega)]
    rw [List.drop_eq_getElem_cons hi, crcL_cons, ← hv]
    rfl
theorem refcrc_val (s : ByteArray) (hm : s.size ≤ 9223372036854775807) (k : Nat) (hk : 10 * s.size + 50 ≤ k) : cisternref03_Crc.f k s = some (crcV (bytesOf s)) := by
  have h := refcrc_tells s hm s.size k 0 4294967295 (by decide) (by omega) (by omega)
  rw [show mirV 4294967295 32 = 4294967295 by decide +kernel] at h
  simpa [cisternref03_Crc.f, crcV] using h
theorem refseal_val (s : ByteArray) (hm : s.size ≤ 140737488351232) (k : Nat) (hk : 10 * s.size + 50 ≤ k) : cisternref03_Seal.f k s = some (strOfNums (sealL (bytesOf s))) := by
  have hcr := crcV_range (bytesOf s) (bytesOf_byteL s)
  unfold cisternref03_Seal.f
  rw [refcrc_val s (by omega) k hk]
  simp only [Option.bind_some]
  rw [u64_id _ hcr.1 (by omega), cisternref03_little.f, show (4 : Int) = ((4 : Nat) : Int) from rfl, little_tells 4 (by omega) 4 k _ [] 0 hcr.1 (by omega) (by omega) (by omega) (by omega) (by simp)]
  simp only [Option.bind_some, List.nil_append]
  rw [if_pos (by rw [size_strOfNums]; simp [leB_length]; omega), sealL]
  have h1 := strOfNums_append (bytesOf s) (leB (crcV (bytesOf s)) 4)
  rw [strOfNums_bytesOf] at h1
  rw [h1]
theorem sealL_take (l : List Int) : (sealL l).take l.length = l := by simp [sealL]
theorem sealL_drop (l : List Int) : (sealL l).drop l.length = leB (crcV l) 4 := by simp [sealL]
theorem openL_seal (l : List Int) (hl : byteL l) : openL (sealL l) = (l, 0) := by
  have hcr := crcV_range l hl
  unfold openL
  rw [sealL_length, if_neg (by omega), show l.length + 4 - 4 = l.length by omega, sealL_take, sealL_drop, getV_leB _ 4 hcr.1 (by omega), if_pos rfl]
theorem docopen_val (s : ByteArray) (hm : s.size ≤ 140737488351232) (k : Nat) (hk : 10 * s.size + 50 ≤ k) : cisternref03_DocOpen.f k s = some (strOfNums (openL (bytesOf s)).1, (openL (bytesOf s)).2) := by
  have hlen := bytesOf_length s
  have hb := bytesOf_byteL s
  unfold cisternref03_DocOpen.f openL
  by_cases h4 : s.size < 4
  · rw [if_pos (by omega), if_pos (by omega)]; rfl
  · rw [if_neg (by omega), show wrap64 ((s.size : Int) - 4) = ((s.size - 4 : Nat) : Int) by unfold wrap64; omega, if_pos (by omega), if_pos (by omega), Int.toNat_natCast, if_neg (show ¬ (bytesOf s).length < 4 by omega)]
    have ht : s.extract 0 (s.size - 4) = strOfNums ((bytesOf s).take ((bytesOf s).length - 4)) := by
      have h := bytesOf_extract s 0 (s.size - 4)
      rw [List.drop_zero] at h
      rw [hlen, ← h, strOfNums_bytesOf]
    rw [ht]
    generalize htl : (bytesOf s).take ((bytesOf s).length - 4) = t
    have htb : byteL t := by rw [← htl]; intro b h; exact hb b (List.mem_of_mem_take h)
    have htlen : t.length = s.size - 4 := by rw [← htl]; simp; omega
    rw [refseal_val _ (by rw [size_strOfNums]; omega) k (by rw [size_strOfNums]; omega), bytesOf_strOfNums t htb]
    simp only [Option.bind_some]
    have hcr := crcV_range t htb
    have key : (strOfNums (sealL t)).toList = s.toList ↔ getV ((bytesOf s).drop ((bytesOf s).length - 4)) = crcV t := by
      rw [toList_inj']
      constructor
      · intro h
        have h2 : bytesOf s = sealL t := by rw [← h, bytesOf_strOfNums _ (sealL_byteL htb)]
        rw [h2, sealL_length, show t.length + 4 - 4 = t.length by omega, sealL_drop, getV_leB _ 4 hcr.1 (by omega)]
      · intro h
        have h2 : leB (crcV t) 4 = (bytesOf s).drop ((bytesOf s).length - 4) := by
          rw [← h]
          have := leB_getV ((bytesOf s).drop ((bytesOf s).length - 4)) (fun b h => hb b (List.mem_of_mem_drop h))
          rw [List.length_drop, show (bytesOf s).length - ((bytesOf s).length - 4) = 4 by omega] at this
          exact this
        rw [sealL, h2, ← htl, List.take_append_drop, strOfNums_bytesOf]
    by_cases hk : getV ((bytesOf s).drop ((bytesOf s).length - 4)) = crcV t
    · rw [if_pos (key.2 hk), if_pos hk]
    · rw [if_neg (fun h => hk (key.1 h)), if_neg hk]; rfl
theorem number_tells (s : ByteArray) (h8 : s.size ≤ 8) : ∀ (d k : Nat), d ≤ s.size → d < k → cisternref03_number.l0 k s (getV ((bytesOf s).drop d)) ((d : Int) - 1) = some (getV (bytesOf s)) := by
  have hb := bytesOf_byteL s
  have hlen := bytesOf_length s
  intro d
  induction d with
  | zero =>
    intro k _ hk
    obtain ⟨k, rfl⟩ : ∃ m, k = m + 1 := ⟨k - 1, by omega⟩
    simp only [cisternref03_number.l0]
    rw [if_neg (by omega)]
    simp
  | succ d ih =>
    intro k hd hk
    obtain ⟨k, rfl⟩ : ∃ m, k = m + 1 := ⟨k - 1, by omega⟩
    simp only [cisternref03_number.l0]
    rw [show (((d + 1 : Nat) : Int) - 1) = (d : Int) by omega, if_pos (by omega), if_pos (by omega), if_pos (by omega), ← rd_bytesOf]
    have hdl : d < (bytesOf s).length := by omega
    obtain ⟨e, b0, b1⟩ := rd_nat (bytesOf s) hb d hdl
    have hg := getV_range ((bytesOf s).drop (d + 1)) (byteL_drop hb _)
    have hp : (256 : Int) ^ ((bytesOf s).drop (d + 1)).length ≤ 256 ^ 7 := by
      have h1 : ((bytesOf s).drop (d + 1)).length ≤ 7 := by simp; omega
      have h2 := Nat.pow_le_pow_right (show 0 < 256 by decide) h1
      have e1 : (256 : Int) ^ ((bytesOf s).drop (d + 1)).length = ((256 ^ ((bytesOf s).drop (d + 1)).length : Nat) : Int) := by rw [Int.natCast_pow]; rfl
      have e2 : (256 : Int) ^ 7 = ((256 ^ 7 : Nat) : Int) := by decide
      rw [e1, e2]
      exact Int.ofNat_le.2 h2
    have hd2 : (bytesOf s).drop d = (bytesOf s)[d] :: (bytesOf s).drop (d + 1) := List.drop_eq_getElem_cons hdl
    have hv : getV ((bytesOf s).drop d) = (bytesOf s)[d] + 256 * getV ((bytesOf s).drop (d + 1)) := by rw [hd2, getV]
    have q1 := u64_id (getV ((bytesOf s).drop (d + 1)) * 256) (by omega) (by omega)
    have q2 := u64_id ((bytesOf s)[d]) b0 (by omega)
    have q3 := u64_id (getV ((bytesOf s).drop (d + 1)) * 256 + (bytesOf s)[d]) (by omega) (by omega)
    rw [e, q1, q2, q3, show wrap64 ((d : Int) - 1) = (d : Int) - 1 by unfold wrap64; omega]
    rw [show getV ((bytesOf s).drop (d + 1)) * 256 + (bytesOf s)[d] = getV ((bytesOf s).drop d) by omega]
    exact ih k (by omega) (by omega)
theorem number_val (s : ByteArray) (h8 : s.size ≤ 8) (k : Nat) (hk : 9 ≤ k) : cisternref03_number.f k s = some (getV (bytesOf s)) := by
  have h := number_tells s h8 s.size k (Nat.le_refl _) (by omega)
  rw [List.drop_eq_nil_of_le (by rw [bytesOf_length]; omega)] at h
  rw [cisternref03_number.f, show wrap64 ((s.size : Int) - 1) = (s.size : Int) - 1 by unfold wrap64; omega]
  exact h
theorem docdecode_tells : ∀ (n : Nat) (s : ByteArray) (acc : List S77) (k : Nat), s.size ≤ n → s.size ≤ 140737488351232 → acc.length ≤ 4000 → 4 * n + 20 ≤ k → cisternref03_DocDecode.l0 k s acc = some (decL (n + 1) acc (bytesOf s)) := by
  intro n
  induction n with
  | zero =>
    intro s acc k hn hl ha hk
    have hb0 : bytesOf s = [] := List.eq_nil_of_length_eq_zero (by rw [bytesOf_length]; omega)
    obtain ⟨k, rfl⟩ : ∃ m, k = m + 1 := ⟨k - 1, by omega⟩
    simp only [cisternref03_DocDecode.l0]
    rw [if_neg (by omega), hb0, decL]
  | succ n ih =>
    intro s acc k hn hl ha hk
    obtain ⟨k, rfl⟩ : ∃ m, k = m + 4 := ⟨k - 4, by omega⟩
    have hlen := bytesOf_length s
    have hb := bytesOf_byteL s
    have hex := bytesOf_extract s
    have hrd0 := rd_bytesOf s 0
    have hsz : ∀ i j, (s.extract i j).size = min j s.size - i := fun i j => by simp
    match hbs : bytesOf s with
    | [] =>
      rw [hbs] at hlen
      rw [show k + 4 = (k + 3) + 1 by omega]
      simp only [cisternref03_DocDecode.l0]
      rw [if_neg (by simp at hlen; omega), decL]
    | c :: r =>
      rw [hbs] at hlen hb hex hrd0
      obtain ⟨hc0, hc1, hr⟩ := byteL_cons hb
      simp only [List.length_cons] at hlen
      have hrd : bt s 0 = c := by rw [← hrd0]; simp [rd]
      rw [show k + 4 = (k + 3) + 1 by omega]
      simp only [cisternref03_DocDecode.l0]
      rw [if_pos (by omega), if_pos (by omega), hrd, decL]
      by_cases h1 : c = 1 ∧ 8 ≤ r.length
      · rw [if_pos h1, if_pos h1.1, show k + 3 = (k + 2) + 1 by omega]
        have e1 : bytesOf (s.extract 1 9) = r.take 8 := by rw [hex]; simp
        have e2 : bytesOf (s.extract 9 s.size) = r.drop 8 := by rw [hex]; simp [List.drop_take]; rw [List.take_of_length_le (by simp; omega)]
        simp only [cisternref03_DocDecode.j1]
        rw [if_pos (by simpa using (by omega : (9 : Int) ≤ s.size)), if_pos (by omega), if_pos (by omega), number_val _ (by rw [hsz]; omega) _ (by omega), e1]
        simp only [Option.bind_some]
        rw [if_pos (by omega)]
        by_cases h4 : (acc ++ [(⟨1, wrap64 (getV (r.take 8)), ⟨#[]⟩⟩ : S77)]).length > 4000
        · rw [if_pos (by omega), if_pos h4]
        · rw [if_neg (by omega), if_neg h4, ← e2]
          exact ih _ _ _ (by rw [hsz]; omega) (by rw [hsz]; omega) (by omega) (by omega)
      · rw [if_neg h1]
        have e1 : (if c = 1 then cisternref03_DocDecode.j1 (k + 3) s acc (decide ((s.size : Int) ≥ 9)) else cisternref03_DocDecode.j1 (k + 3) s acc false) = cisternref03_DocDecode.j1 (k + 3) s acc false := by
          by_cases hc : c = 1
          · rw [if_pos hc]
            congr 1
            simp only [decide_eq_false_iff_not]
            have : ¬ 8 ≤ r.length := fun h => h1 ⟨hc, h⟩
            omega
          · rw [if_neg hc]
        rw [e1, show k + 3 = (k + 2) + 1 by omega]
        simp only [cisternref03_DocDecode.j1]
        rw [if_neg (by simp), if_pos (by omega), hrd]
        by_cases h2 : c = 2 ∧ 2 ≤ r.length
        · have e2 : bytesOf (s.extract 1 3) = r.take 2 := by rw [hex]; simp
          have hg := getV2 (r.take 2) (byteL_take hr 2) (by rw [List.length_take]; omega)
          rw [if_pos h2, if_pos h2.1, show k + 2 = (k + 1) + 1 by omega]
          simp only [cisternref03_DocDecode.j2]
          rw [if_pos (by simpa using (by omega : (3 : Int) ≤ s.size)), if_pos (by omega), if_pos (by omega), number_val _ (by rw [hsz]; omega) _ (by omega), e2]
          simp only [Option.bind_some]
          rw [w64_small _ hg.1 (by omega), w64_small ((s.size : Int) - 3) (by omega) (by omega)]
          generalize hgv : getV (r.take 2) = v at *
          by_cases h5 : v > 50000 ∨ v > (r.length : Int) - 2
          · rw [if_pos h5]
            by_cases h6 : v > 50000
            · rw [if_pos h6]; simp [cisternref03_DocDecode.j3]
            · rw [if_neg h6, show decide (v > (s.size : Int) - 3) = true by have := h5.resolve_left h6; simp; omega]; simp [cisternref03_DocDecode.j3]
          · rw [if_neg h5, if_neg (by omega), show decide (v > (s.size : Int) - 3) = false by simp; omega]
            have et : (3 + v).toNat = 3 + v.toNat := by omega
            have e3 : s.extract 3 (3 + v.toNat) = strOfNums ((r.drop 2).take v.toNat) := by
              rw [← strOfNums_bytesOf (s.extract 3 (3 + v.toNat)), hex]
              congr 1
              rw [show 3 + v.toNat = (2 + v.toNat) + 1 by omega, List.take_succ_cons, List.drop_succ_cons, List.drop_take]
              congr 1
              omega
            have e4 : bytesOf (s.extract (3 + v.toNat) s.size) = r.drop (2 + v.toNat) := by
              rw [hex, List.take_of_length_le (by simp; omega), show 3 + v.toNat = (2 + v.toNat) + 1 by omega, List.drop_succ_cons]
            simp only [cisternref03_DocDecode.j3]
            rw [if_neg (by simp), w64_small (3 + v) (by omega) (by omega), if_pos (by omega), if_pos (by omega), if_pos (by omega)]
            simp only [Option.bind_some]
            rw [if_pos (by omega), et, e3]
            by_cases h4 : (acc ++ [(⟨2, 0, strOfNums ((r.drop 2).take v.toNat)⟩ : S77)]).length > 4000
            · rw [if_pos (by omega), if_pos h4]
            · rw [if_neg (by omega), if_neg h4, ← e4]
              exact ih _ _ _ (by rw [hsz]; omega) (by rw [hsz]; omega) (by omega) (by omega)
        · rw [if_neg h2]
          have e2 : (if c = 2 then cisternref03_DocDecode.j2 (k + 2) s acc (decide ((s.size : Int) ≥ 3)) else cisternref03_DocDecode.j2 (k + 2) s acc false) = cisternref03_DocDecode.j2 (k + 2) s acc false := by
            by_cases hc : c = 2
            · rw [if_pos hc]
              congr 1
              simp only [decide_eq_false_iff_not]
              have : ¬ 2 ≤ r.length := fun h => h2 ⟨hc, h⟩
              omega
            · rw [if_neg hc]
          rw [e2]
          simp [cisternref03_DocDecode.j2]
theorem docdecode_val (s : ByteArray) (hl : s.size ≤ 140737488351232) (k : Nat) (hk : 4 * s.size + 20 ≤ k) : cisternref03_DocDecode.f k s = some (decF (bytesOf s)) := by
  have h := docdecode_tells s.size s [] k (Nat.le_refl _) hl (by simp) hk
  rw [cisternref03_DocDecode.f, h, decF, bytesOf_length]
theorem strOfNums_nil : strOfNums [] = ⟨#[]⟩ := rfl
theorem wf_u8 {l : List Int} (h : ∀ v ∈ l, (Lit.int .u8 v).wf = true) : byteL l := by
  intro b hb
  have := h b hb
  simpa [Lit.wf, IntKind.min, IntKind.max, IntKind.signed, IntKind.bits] using this
theorem someB_cons (x : Int) (t : List Int) : someB (x :: t) = (x != 0 || someB t) := rfl
theorem unf_tells (s : ByteArray) (n : Nat) (hs : s.size ≤ 60000) (hn : 2 + n ≤ s.size) : ∀ (d k i : Nat), i + d = s.size → d < k → 2 + n ≤ i →
    cisternref03_DocUnframe.l0 k s (n : Int) (i : Int) = some (if someB ((bytesOf s).drop i) = true then ((⟨#[]⟩ : ByteArray), 2) else (s.extract 2 (2 + n), 0)) := by
  have hlen := bytesOf_length s
  intro d
  induction d with
  | zero =>
    intro k i hi hk h2
    obtain ⟨k, rfl⟩ : ∃ m, k = m + 1 := ⟨k - 1, by omega⟩
    have w1 : wrap64 (2 + (n : Int)) = 2 + (n : Int) := by unfold wrap64; omega
    simp only [cisternref03_DocUnframe.l0]
    rw [if_neg (by omega), w1, if_pos (by omega), if_pos (by omega), List.drop_eq_nil_of_le (by omega)]
    have e : (2 + (n : Int)).toNat = 2 + n := by omega
    rw [e]
    rfl
  | succ d ih =>
    intro k i hi hk h2
    obtain ⟨k, rfl⟩ : ∃ m, k = m + 1 := ⟨k - 1, by omega⟩
    have hil : i < (bytesOf s).length := by omega
    have hd2 : (bytesOf s).drop i = (bytesOf s)[i] :: (bytesOf s).drop (i + 1) := List.drop_eq_getElem_cons hil
    obtain ⟨e, b0, b1⟩ := rd_nat (bytesOf s) (bytesOf_byteL s) i hil
    simp only [cisternref03_DocUnframe.l0]
    rw [if_pos (by omega), if_pos (by omega), ← rd_bytesOf, e]
    by_cases hz : (bytesOf s)[i] = 0
    · rw [if_pos hz, show wrap64 ((i : Int) + 1) = ((i + 1 : Nat) : Int) by unfold wrap64; omega, ih k (i + 1) (by omega) (by omega) (by omega), hd2, hz]
      simp [someB]
    · rw [if_neg hz, if_pos (by rw [hd2, someB_cons]; simp [hz])]
theorem unframeL_short (l : List Int) (h : l.length < 2 ∨ 60000 < l.length) : unframeL l = ([], 2) := by unfold unframeL; rw [if_pos h]
theorem unframeL_n (l : List Int) (n : Nat) (h : ¬ (l.length < 2 ∨ 60000 < l.length)) (hn : getV (l.take 2) = (n : Int)) :
    unframeL l = if ((l.length : Int) - 2 < (n : Int)) ∨ someB (l.drop (2 + n)) = true then ([], 2) else ((l.drop 2).take n, 0) := by
  unfold unframeL
  rw [if_neg h, hn, Int.toNat_natCast]
theorem docunf_j (s : ByteArray) (n : Nat) (k : Nat) (hk : s.size + 11 ≤ k) (h1 : 2 ≤ s.size) (h2 : s.size ≤ 60000) (hn : getV ((bytesOf s).take 2) = (n : Int)) (h6 : n ≤ 65535) :
    cisternref03_DocUnframe.j0 (k + 1) s false = some (if (s.size : Int) - 2 < (n : Int) then ((⟨#[]⟩ : ByteArray), 2) else if someB ((bytesOf s).drop (2 + n)) = true then ((⟨#[]⟩ : ByteArray), 2) else (s.extract 2 (2 + n), 0)) := by
  have hlen := bytesOf_length s
  simp only [cisternref03_DocUnframe.j0]
  have e2 : bytesOf (s.extract 0 2) = (bytesOf s).take 2 := by rw [bytesOf_extract]; rfl
  have z2 : (s.extract 0 2).size = 2 := by rw [ByteArray.size_extract]; omega
  have w0 : wrap64 (n : Int) = (n : Int) := by unfold wrap64; omega
  have w1 : wrap64 (2 + (n : Int)) = ((2 + n : Nat) : Int) := by unfold wrap64; omega
  have w2 : wrap64 ((s.size : Int) - 2) = (s.size : Int) - 2 := by unfold wrap64; omega
  have p2 : (2 : Int) ≤ (s.size : Int) := by omega
  rw [if_neg (by decide), if_pos (by decide), if_pos p2, number_val _ (by omega) k (by omega), e2, hn]
  rw [Option.bind_some, w0, w1, w2]
  by_cases h3 : (s.size : Int) - 2 < (n : Int)
  · rw [if_pos h3, if_pos h3]
  · rw [if_neg h3, if_neg h3]
    exact unf_tells s n (by omega) (by omega) (s.size - (2 + n)) k (2 + n) (by omega) (by omega) (by omega)
theorem docunframe_val (s : ByteArray) (hm : s.size ≤ 140737488351232) (k : Nat) (hk : s.size + 12 ≤ k) : cisternref03_DocUnframe.f k s = some (strOfNums (unframeL (bytesOf s)).1, (unframeL (bytesOf s)).2) := by
  have hlen := bytesOf_length s
  obtain ⟨k, rfl⟩ : ∃ m, k = m + 1 := ⟨k - 1, by omega⟩
  unfold cisternref03_DocUnframe.f
  by_cases h1 : s.size < 2
  · rw [if_pos (by omega), unframeL_short _ (.inl (by omega))]
    simp only [cisternref03_DocUnframe.j0]
    simp [strOfNums_nil]
  · rw [if_neg (by omega)]
    by_cases h2 : 60000 < s.size
    · rw [unframeL_short _ (.inr (by omega)), show decide ((s.size : Int) > 60000) = true from decide_eq_true (by omega)]
      simp only [cisternref03_DocUnframe.j0]
      simp [strOfNums_nil]
    · rw [show decide ((s.size : Int) > 60000) = false from decide_eq_false (by omega)]
      have hb2 : byteL ((bytesOf s).take 2) := byteL_take (bytesOf_byteL s) 2
      have l2 : ((bytesOf s).take 2).length = 2 := by rw [List.length_take]; omega
      have hg := getV2 _ hb2 l2
      obtain ⟨n, hn⟩ : ∃ n : Nat, getV ((bytesOf s).take 2) = (n : Int) := ⟨(getV ((bytesOf s).take 2)).toNat, by omega⟩
      rw [docunf_j s n k (by omega) (by omega) (by omega) hn (by omega), unframeL_n _ n (by omega) hn, hlen]
      by_cases h3 : (s.size : Int) - 2 < (n : Int)
      · rw [if_pos h3, if_pos (.inl h3)]
        simp [strOfNums_nil]
      · rw [if_neg h3]
        by_cases h4 : someB ((bytesOf s).drop (2 + n)) = true
        · rw [if_pos h4, if_pos (.inr h4)]
          simp [strOfNums_nil]
        · rw [if_neg h4, if_neg (fun h => h.elim h3 h4)]
          have e : bytesOf (s.extract 2 (2 + n)) = ((bytesOf s).drop 2).take n := by
            rw [bytesOf_extract, List.drop_take]
            congr 1
            omega
          rw [← e, strOfNums_bytesOf]
theorem someB_zeros (n : Nat) : someB (List.replicate n 0) = false := by
  unfold someB
  simp
theorem frameL_length (l : List Int) (n : Nat) (h : 2 + l.length ≤ n) : (frameL l n).length = n := by simp [frameL]; omega
theorem frameL_byteL (l : List Int) (n : Nat) (h : 2 + l.length ≤ n) (hn : n ≤ 60000) (hl : byteL l) : byteL (frameL l n) := by
  refine byteL_mk (by omega) (by omega) (byteL_mk (by omega) (by omega) (byteL_append hl (fun b hb => ?_)))
  rw [List.eq_of_mem_replicate hb]
  omega
theorem unframe_frame (l : List Int) (n : Nat) (h : 2 + l.length ≤ n) (hn : n ≤ 60000) : unframeL (frameL l n) = (l, 0) := by
  have hl := frameL_length l n h
  unfold unframeL
  rw [hl, if_neg (by omega)]
  have h2 : (frameL l n).take 2 = [(l.length : Int) % 256, (l.length : Int) / 256] := rfl
  have hv : getV [(l.length : Int) % 256, (l.length : Int) / 256] = (l.length : Int) := by
    simp only [getV]
    omega
  have hd : (frameL l n).drop (2 + l.length) = List.replicate (n - 2 - l.length) 0 := by
    rw [Nat.add_comm]
    simp [frameL]
  have hd2 : ((frameL l n).drop 2).take l.length = l := by simp [frameL]
  rw [h2, hv, Int.toNat_natCast, hd, someB_zeros, if_neg (by simp; omega), hd2]
def OwnN (w : World) (b : Nat) (v : Value) (n : Nat) : Prop := ∃ ys : List Int, ys.length = n ∧ (Kd.int .u8).R 5 w b (fun _ => True) v ys
def KeptV (w w' : World) (v : Value) : Prop := w.heap.size ≤ w'.heap.size ∧ ∀ k, k < w.heap.size → some k ≠ v.ownBlock → w'.heap[k]? = w.heap[k]?
theorem KeptV.refl (w : World) (v : Value) : KeptV w w v := ⟨Nat.le_refl _, fun _ _ _ => rfl⟩
theorem OwnN.of {w : World} {b : Nat} {v : Value} {ys : List Int} (h : (Kd.int .u8).R 5 w b (fun _ => True) v ys) : ∃ A c, v = .slice A ys.length c ∧ OwnN w b (.slice A ys.length c) ys.length := by
  obtain ⟨A, c, rfl⟩ := Kd.R_slice h
  exact ⟨A, c, rfl, ys, rfl, h⟩
theorem OwnN.below {w w1 : World} {b : Nat} {v : Value} {n : Nat} (h : OwnN w b v n) (hb : Below w.heap.size w w1) : OwnN w1 b v n := by
  obtain ⟨ys, hl, hR⟩ := h
  exact ⟨ys, hl, Kd.R_below hR hb⟩
theorem OwnN.at_ {w : World} {b : Nat} {A : Option Addr} {n m c : Nat} (h : OwnN w b (.slice A n c) n) (i : Nat) (hi : i < n) :
    ∃ g, A = some ⟨g, 0, none⟩ ∧ Aside0 (b ≤ g) ∧ (∃ u, w.cell? ⟨g, i, none⟩ = some u) ∧ w.frozen? ⟨g, i, none⟩ = false ∧ Aside0 (∀ x, OwnN (w.setCell ⟨g, i, none⟩ (.int .u8 x)) b (.slice A n c) n) ∧ Aside0 (∀ w0 x, KeptV w0 w (.slice A n c) → KeptV w0 (w.setCell ⟨g, i, none⟩ x) (.slice A n c)) ∧ Aside0 (∀ B w0 x, B ≤ b → Below B w0 w → Below B w0 (w.setCell ⟨g, i, none⟩ x)) := by
  obtain ⟨ys, rfl, hR⟩ := h
  obtain ⟨inner, ho⟩ := Kd.R_own hR
  rcases ho.2 with ⟨hv, h0⟩ | ⟨g, cap, cur, hv, hg, _⟩
  · exfalso
    simp only [Value.slice.injEq] at hv
    omega
  · simp only [Value.slice.injEq] at hv
    obtain ⟨rfl, _, _⟩ := hv
    obtain ⟨k1, k2⟩ := Kd.R_cell (0 : Int) hR (i : Int) (by omega) (by omega)
    rw [Int.toNat_natCast] at k1 k2
    refine ⟨g, rfl, ⟨hg⟩, ⟨_, k1⟩, k2, ⟨fun x => ?_⟩, ⟨fun w0 x hk => ?_⟩, ⟨fun B w0 x hB hb => hb.setCell (by show B ≤ g; omega) x⟩⟩
    · have h := Kd.R_putn hR (i : Int) x
      rw [Int.toNat_natCast] at h
      exact ⟨_, List.length_set, h⟩
    · refine ⟨by simpa [World.setCell] using hk.1, fun k h1 h2 => ?_⟩
      rw [Below.heap_setCell w ⟨g, i, none⟩ x k (fun e => h2 (by rw [e]; rfl))]
      exact hk.2 k h1 h2
end
end Go.Proofs.YtmkkeccmjejfnaaDoor.PA
namespace Go.Proofs.YtmkkeccmjejfnaaDoor.PA
section

open Go.RowKit Go.Proofs.YtmkkeccmjejfnaaDoorW.PrintWords Go.Proofs.YtmkkeccmjejfnaaDoorW.PrintLast Go.Proofs.YtmkkeccmjejfnaaDoorW.PrintMore
set_option linter.unusedVariables false
set_option linter.unusedSimpArgs false
theorem toK {α : Type} {g : Nat → Option α} (h : ∀ k, LeO (g k) (g (k + 1))) {k k' : Nat} (hk : k ≤ k') {r : α} (hr : g k = some r) : g k' = some r := at_rounds h hk hr
def numI (ns : List Int) : List S77 := ns.map (fun n => ⟨1, n, ⟨#[]⟩⟩)
def textI : Option ByteArray → List S77
  | none => []
  | some t => [⟨2, 0, t⟩]
def recI (ns : List Int) (t : Option ByteArray) : List S77 := numI ns ++ textI t
def wf64 (x : Int) : Prop := -9223372036854775808 ≤ x ∧ x ≤ 9223372036854775807
theorem wf64_iff {x : Int} : (Lit.int .i64 x).wf = true ↔ wf64 x := by
  simp [Lit.wf, IntKind.min, IntKind.max, IntKind.signed, IntKind.bits, wf64]
theorem size_nil : (⟨#[]⟩ : ByteArray).size = 0 := rfl
def tsz (t : Option ByteArray) : Nat := (t.getD ⟨#[]⟩).size
theorem recI_check (ns : List Int) (t : Option ByteArray) (hn : ns.length ≤ 100) (ht : tsz t ≤ 160) : pack_checkV (recI ns t) = 0 := by
  refine (checkV_iff _).2 ⟨?_, fun x hx => ?_⟩
  · cases t <;> simp [recI, numI, textI] <;> omega
  · rcases List.mem_append.1 hx with hx | hx
    · obtain ⟨n, _, rfl⟩ := List.mem_map.1 hx
      exact ⟨by simp [okB, toList_data], by simp [longB]⟩
    · cases t with
      | none => simp [textI] at hx
      | some t =>
        rcases List.mem_singleton.1 hx with rfl
        refine ⟨by simp [okB], ?_⟩
        simp only [tsz, Option.getD_some] at ht
        simp [longB]
        omega
theorem recI_wf (ns : List Int) (t : Option ByteArray) (h : ∀ n ∈ ns, wf64 n) : ∀ x ∈ recI ns t, wfI x := by
  intro x hx
  rcases List.mem_append.1 hx with hx | hx
  · obtain ⟨n, hn, rfl⟩ := List.mem_map.1 hx
    exact wf64_iff.2 (h n hn)
  · cases t with
    | none => simp [textI] at hx
    | some t =>
      rcases List.mem_singleton.1 hx with rfl
      exact (by decide : (Lit.int .i64 0).wf = true)
theorem encI_num (n : Int) : (encI (⟨1, n, ⟨#[]⟩⟩ : S77)).length = 9 := by simp [encI, leB_length]
theorem recI_len (ns : List Int) (t : Option ByteArray) : (encL (recI ns t)).length ≤ 9 * ns.length + 3 + tsz t := by
  have h1 : (encL (numI ns)).length = 9 * ns.length := by
    induction ns with
    | nil => rfl
    | cons n ns ih =>
      rw [show numI (n :: ns) = ⟨1, n, ⟨#[]⟩⟩ :: numI ns from rfl, encL_cons, List.length_append, ih, encI_num, List.length_cons]
      omega
  rw [recI, encL_append, List.length_append, h1]
  cases t with
  | none => simp [textI, encL]; omega
  | some t => simp [textI, encL, encI, leB_length, bytesOf_length, tsz]; omega
def secL (l : List S77) : List Int := frameL (sealL (encL l)) 256
theorem secL_byteL (l : List S77) (h : (encL l).length ≤ 250) : byteL (secL l) := frameL_byteL _ _ (by rw [sealL_length]; omega) (by omega) (sealL_byteL (encL_byteL l))
theorem secL_length (l : List S77) (h : (encL l).length ≤ 250) : (secL l).length = 256 := frameL_length _ _ (by rw [sealL_length]; omega)
theorem sealK (l : List Int) (hl : byteL l) (hm : l.length ≤ 140737488351232) (k : Nat) (hk : 10 * l.length + 20 ≤ k) : pack_Seal.f k l = some (sealL l) := toK (pack_Seal.mono l) hk (seal_val l hl hm)
theorem sector_val (l : List S77) (hc : pack_checkV l = 0) (h : (encL l).length ≤ 250) (k : Nat) (hk : 3000 ≤ k) : record_sector.f k l = some (secL l, 0) := by
  have e1 : pack_Encode.f l = some (encL l, 0) := by rw [encode_some, if_pos hc, hc]
  have e2 := sealK (encL l) (encL_byteL l) (by omega) k (by omega)
  have e3 : pack_Frame.f (sealL (encL l)) 256 = some (frameL (sealL (encL l)) 256, 0) := by
    unfold pack_Frame.f frameV
    rw [sealL_length, if_pos (by omega), if_neg (by omega), if_neg (by omega)]
    rfl
  unfold record_sector.f
  rw [e1, Option.bind_some]
  rw [if_pos rfl, e2, Option.bind_some, e3]
  rfl
theorem wsuc (i : Nat) (h : i ≤ 9223372036854775806) : wrap64 ((i : Int) + 1) = ((i + 1 : Nat) : Int) := by unfold wrap64; omega
theorem rd_get (l : List Int) (i : Nat) (h : i < l.length) : rd l (i : Int) = l[i] := by
  unfold rd; rw [Int.toNat_natCast, List.getD_eq_getElem?_getD, List.getElem?_eq_getElem h, Option.getD_some]
theorem numbers_tells (ns : List Int) (hl : ns.length ≤ 1000) : ∀ (d k i : Nat), i + d = ns.length → d < k → record_numbers.l0 k (numI (ns.take i)) ns (ns.length : Int) (i : Int) = some (numI ns) := by
  intro d
  induction d with
  | zero =>
    intro k i hi hk
    obtain ⟨k, rfl⟩ : ∃ m, k = m + 1 := ⟨k - 1, by omega⟩
    simp only [record_numbers.l0]
    rw [if_neg (by omega), List.take_of_length_le (by omega)]
  | succ d ih =>
    intro k i hi hk
    obtain ⟨k, rfl⟩ : ∃ m, k = m + 1 := ⟨k - 1, by omega⟩
    have hil : i < ns.length := by omega
    simp only [record_numbers.l0]
    rw [if_pos (by omega), if_pos (by omega), if_pos (by omega), if_pos (by simp [numI]; omega), wsuc i (by omega), rd_get ns i hil]
    have e : numI (ns.take i) ++ [⟨1, ns[i], ⟨#[]⟩⟩] = numI (ns.take (i + 1)) := by
      rw [List.take_succ_eq_append_getElem hil]
      simp only [numI, List.map_append, List.map_cons, List.map_nil]
    rw [e]
    exact ih k (i + 1) (by omega) (by omega)
theorem numbers_val (ns : List Int) (hl : ns.length ≤ 1000) (k : Nat) (hk : ns.length < k) : record_numbers.f k ns = some (numI ns) := numbers_tells ns hl ns.length k 0 (by omega) hk
def natB (ns : List Int) : Bool := ns.all (fun n => decide (0 ≤ n))
theorem natural_tells (ns : List Int) (hl : ns.length ≤ 1000) : ∀ (d k i : Nat), i + d = ns.length → d < k → record_natural.l0 k ns (ns.length : Int) (i : Int) = some (natB (ns.drop i)) := by
  intro d
  induction d with
  | zero =>
    intro k i hi hk
    obtain ⟨k, rfl⟩ : ∃ m, k = m + 1 := ⟨k - 1, by omega⟩
    simp only [record_natural.l0]
    rw [if_neg (by omega), List.drop_eq_nil_of_le (by omega)]
    rfl
  | succ d ih =>
    intro k i hi hk
    obtain ⟨k, rfl⟩ : ∃ m, k = m + 1 := ⟨k - 1, by omega⟩
    have hil : i < ns.length := by omega
    have e : natB (ns.drop i) = (decide (0 ≤ ns[i]) && natB (ns.drop (i + 1))) := by rw [List.drop_eq_getElem_cons hil]; rfl
    simp only [record_natural.l0]
    rw [if_pos (by omega), if_pos (by omega), if_pos (by omega), rd_get ns i hil]
    by_cases h : ns[i] < 0
    · rw [if_pos h, e, decide_eq_false (by omega)]
      rfl
    · rw [if_neg h, wsuc i (by omega), ih k (i + 1) (by omega) (by omega), e, decide_eq_true (by omega), Bool.true_and]
theorem natural_val (ns : List Int) (hl : ns.length ≤ 1000) (k : Nat) (hk : ns.length < k) : record_natural.f k ns = some (natB ns) := natural_tells ns hl ns.length k 0 (by omega) hk
def logB (ns : List Int) (t : ByteArray) : Bool :=
  match ns with
  | [n0, _, _, _, _, _, n6] => n0 == 1 || (n0 == 2 && (n6 == 0 && t.toList == ([] : List UInt8)))
  | _ => false
theorem superR_val (a b c : Int) (k : Nat) (hk : 10 ≤ k) : record_Super_right.f k a b c = some (natB [a, b, c]) := by
  unfold record_Super_right.f
  rw [natural_val _ (by simp) k (by simp; omega)]
  rfl
theorem logR_val (n0 n1 n2 n3 n4 n5 n6 : Int) (t : ByteArray) (k : Nat) (hk : 20 ≤ k) : record_Log_right.f k n0 n1 n2 n3 n4 n5 n6 t = some (natB [n1, n2, n3, n4, n5, n6] && (decide (t.size ≤ 160) && logB [n0, n1, n2, n3, n4, n5, n6] t)) := by
  obtain ⟨k, rfl⟩ : ∃ m, k = m + 1 := ⟨k - 1, by omega⟩
  unfold record_Log_right.f
  rw [natural_val _ (by simp) _ (by simp; omega), Option.bind_some]
  cases hn : natB [n1, n2, n3, n4, n5, n6]
  · rw [if_neg (by decide)]
    simp [record_Log_right.j0]
  · rw [if_pos rfl, Bool.true_and]
    simp only [record_Log_right.j0]
    by_cases h1 : 160 < t.size
    · rw [decide_eq_true (show (t.size : Int) > 160 by omega), if_pos rfl, decide_eq_false (by omega)]
      rfl
    · rw [decide_eq_false (show ¬ (t.size : Int) > 160 by omega), if_neg (by decide), decide_eq_true (by omega), Bool.true_and]
      by_cases h2 : n0 = 2
      · rw [if_pos h2]
        by_cases h3 : n6 = 0
        · rw [if_pos h3]
          simp [logB, h2, h3]
        · rw [if_neg h3]
          simp [logB, h2, h3]
      · rw [if_neg h2]
        simp [logB, h2]
theorem homeR_val (p : Int) (t : ByteArray) : record_Home_right.f p t = some (decide (0 ≤ p) && decide (t.size ≤ 160)) := by
  unfold record_Home_right.f
  by_cases h : 0 ≤ p
  · rw [if_pos h, decide_eq_true h, Bool.true_and]
    congr 1
    exact decide_eq_decide.2 (by omega)
  · rw [if_neg h, decide_eq_false h]
    rfl
/-- What must be of a record of a kind. -/
def rightB (kind : Int) (ns : List Int) (t : ByteArray) : Bool :=
  natB ns && (decide (t.size ≤ 160) && (if kind = 1 then decide (ns.length = 3) && t.toList == ([] : List UInt8) else if kind = 2 then logB ns t else decide (ns.length = 1)))
def txt (kind : Int) (t : ByteArray) : Option ByteArray := if kind = 1 then none else some t
def encV (kind : Int) (ns : List Int) (t : ByteArray) : List Int × Int := if rightB kind ns t = true then (secL (recI (kind :: ns) (txt kind t)), 0) else ([], 2)
theorem encodeSuper_val (a b c : Int) (k : Nat) (hk : 3000 ≤ k) : record_EncodeSuper.f k a b c = some (encV 1 [a, b, c] ⟨#[]⟩) := by
  have hr : rightB 1 [a, b, c] ⟨#[]⟩ = natB [a, b, c] := by simp [rightB, toList_data, size_nil]
  unfold record_EncodeSuper.f encV
  rw [superR_val a b c k (by omega), Option.bind_some, hr]
  cases hn : natB [a, b, c]
  · rfl
  · rw [if_pos rfl, if_pos rfl, numbers_val _ (by simp) k (by simp; omega), Option.bind_some]
    have e : numI [1, a, b, c] = recI (1 :: [a, b, c]) (txt 1 ⟨#[]⟩) := by simp [recI, txt, textI]
    have hl := recI_len (1 :: [a, b, c]) (txt 1 ⟨#[]⟩)
    rw [e, sector_val _ (recI_check _ _ (by simp) (by simp [txt, tsz, size_nil])) (by simp [txt, tsz, size_nil] at hl ⊢; omega) k hk]
    rfl
end
end Go.Proofs.YtmkkeccmjejfnaaDoor.PA
namespace Go.Proofs.YtmkkeccmjejfnaaDoor.PA
section

open Go.RowKit Go.Proofs.YtmkkeccmjejfnaaDoorW.PrintWords Go.Proofs.YtmkkeccmjejfnaaDoorW.PrintLast Go.Proofs.YtmkkeccmjejfnaaDoorW.PrintMore
set_option linter.unusedVariables false
set_option linter.unusedSimpArgs false
def unsealV (u : List Int) : List S77 × Int := if (openL u).2 = 0 then decF (openL u).1 else ([], (openL u).2)
theorem openL_byteL {u : List Int} (h : byteL u) : byteL (openL u).1 := by
  unfold openL
  split
  · intro b hb; cases hb
  · split
    · exact byteL_take h _
    · intro b hb; cases hb
theorem openL_len (u : List Int) : (openL u).1.length ≤ u.length := by
  unfold openL
  split
  · simp
  · split
    · rw [List.length_take]; omega
    · simp
theorem unseal_val (u : List Int) (hb : byteL u) (hl : u.length ≤ 140737488351232) (k : Nat) (hk : 4 * u.length + 100 ≤ k) : record_unseal.f k u = some (unsealV u) := by
  have e1 : pack_Open.f u = some (openL u) := by rw [pack_Open.f, if_pos ⟨byteB_iff.2 hb, by omega⟩]
  have hlen := openL_len u
  unfold record_unseal.f unsealV
  rw [e1, Option.bind_some]
  by_cases h : (openL u).2 = 0
  · rw [if_pos h, if_pos h, decode_val _ (openL_byteL hb) (by omega) k (by omega)]
    rfl
  · rw [if_neg h, if_neg h]
theorem unframeL_byteL {b : List Int} (h : byteL b) : byteL (unframeL b).1 := by
  unfold unframeL
  split
  · intro b hb; cases hb
  · split
    · intro b hb; cases hb
    · exact byteL_take (byteL_drop h _) _
theorem unframeL_len (b : List Int) : (unframeL b).1.length ≤ 60000 := by
  unfold unframeL
  split
  · simp
  · split
    · simp
    · rw [List.length_take, List.length_drop]; omega
def openV (b : List Int) (kind : Int) (m : Nat) (tx : Bool) : List Int × ByteArray × Int :=
  if (unframeL b).2 = 0 then (if (unsealV (unframeL b).1).2 = 0 then itemsV b.length (unsealV (unframeL b).1).1 kind m tx else ([], ⟨#[]⟩, (unsealV (unframeL b).1).2)) else ([], ⟨#[]⟩, 2)
theorem open_val (b : List Int) (hb : byteL b) (hl : b.length ≤ 140737488351232) (kind : Int) (m : Nat) (hm : m ≤ 100) (tx : Bool) (k : Nat) (hk : 300000 ≤ k) : record_open.f k b kind (m : Int) tx = some (openV b kind m tx) := by
  have e1 : pack_Unframe.f b = some (unframeL b) := by unfold pack_Unframe.f; rw [if_pos ⟨byteB_iff.2 hb, by omega⟩]
  have hlen := unframeL_len b
  unfold record_open.f openV
  rw [if_pos (by omega), e1, Option.bind_some, Int.toNat_natCast]
  by_cases h : (unframeL b).2 = 0
  · rw [if_pos h, if_pos h, unseal_val _ (unframeL_byteL hb) (by omega) k (by omega), Option.bind_some]
    split <;> rfl
  · rw [if_neg h, if_neg h]
theorem recI_items (kind : Int) (ns : List Int) (t : Option ByteArray) : itemsV 256 (recI (kind :: ns) t) kind ns.length t.isSome = (ns, t.getD ⟨#[]⟩, 0) := by
  have hl : (recI (kind :: ns) t).length = 1 + ns.length + (if t.isSome = true then 1 else 0) := by
    cases t <;> simp [recI, numI, textI] <;> omega
  have hh : headB (rd_T77 (recI (kind :: ns) t) 0) kind = true := by
    have : rd_T77 (recI (kind :: ns) t) 0 = ⟨1, kind, ⟨#[]⟩⟩ := rfl
    rw [this]
    simp [headB, toList_data]
  have hmid : ((recI (kind :: ns) t).drop 1).take ns.length = numI ns := by
    have : (recI (kind :: ns) t).drop 1 = numI ns ++ textI t := rfl
    rw [this, List.take_append_of_le_length (by simp [numI]), List.take_of_length_le (by simp [numI])]
  have hall : (numI ns).all (fun x => x.f0 == 1) = true := by simp [numI]
  have hmap : (numI ns).map (·.f1) = ns := by simp [numI, Function.comp_def]
  unfold itemsV
  rw [if_neg (by rw [hl, hh]; simp), hmid, hall, hmap, if_neg (by decide)]
  cases t with
  | none => rfl
  | some t =>
    have hlast : rd_T77 (recI (kind :: ns) (some t)) ((ns.length : Int) + 1) = ⟨2, 0, t⟩ := by
      unfold rd_T77
      rw [show ((ns.length : Int) + 1).toNat = ns.length + 1 by omega, List.getD_eq_getElem?_getD]
      have : (recI (kind :: ns) (some t))[ns.length + 1]? = some ⟨2, 0, t⟩ := by
        rw [recI, List.getElem?_append_right (by simp [numI])]
        simp [numI, textI]
      rw [this]
      rfl
    rw [if_neg (by simp), hlast]
    rfl
theorem small_enc (kind : Int) (ns : List Int) (t : Option ByteArray) (hn : ns.length ≤ 7) (ht : tsz t ≤ 160) : (encL (recI (kind :: ns) t)).length ≤ 250 := by
  have := recI_len (kind :: ns) t
  simp at this
  omega
theorem unseal_enc (kind : Int) (ns : List Int) (t : Option ByteArray) (hn : ns.length ≤ 7) (ht : tsz t ≤ 160) (hw : ∀ n ∈ kind :: ns, wf64 n) :
    (unframeL (secL (recI (kind :: ns) t))) = (sealL (encL (recI (kind :: ns) t)), 0) ∧ unsealV (sealL (encL (recI (kind :: ns) t))) = (recI (kind :: ns) t, 0) := by
  have hs := small_enc kind ns t hn ht
  refine ⟨unframe_frame _ _ (by rw [sealL_length]; omega) (by omega), ?_⟩
  unfold unsealV
  rw [openL_seal _ (encL_byteL _), if_pos rfl]
  exact decF_enc _ (recI_check _ _ (by simp; omega) ht) (recI_wf _ _ hw)
theorem open_enc (kind : Int) (ns : List Int) (t : Option ByteArray) (hn : ns.length ≤ 7) (ht : tsz t ≤ 160) (hw : ∀ n ∈ kind :: ns, wf64 n) :
    openV (secL (recI (kind :: ns) t)) kind ns.length t.isSome = (ns, t.getD ⟨#[]⟩, 0) := by
  obtain ⟨h1, h2⟩ := unseal_enc kind ns t hn ht hw
  unfold openV
  rw [h1, if_pos rfl]
  simp only [h2]
  rw [if_pos trivial, secL_length _ (small_enc kind ns t hn ht)]
  exact recI_items kind ns t
theorem seal_open {u c : List Int} (hb : byteL u) (h : openL u = (c, 0)) : u = sealL c := by
  unfold openL at h
  split at h
  · simp at h
  · rename_i h4
    split at h
    · rename_i hg
      simp only [Prod.mk.injEq, and_true] at h
      have := leB_getV (u.drop (u.length - 4)) (byteL_drop hb _)
      rw [List.length_drop, show u.length - (u.length - 4) = 4 by omega] at this
      rw [← h, sealL, ← hg, this, List.take_append_drop]
    · simp at h
theorem someB_rep {l : List Int} (h : ¬ someB l = true) : l = List.replicate l.length 0 := by
  refine List.eq_replicate_iff.2 ⟨rfl, fun b hb => ?_⟩
  simp only [someB, List.any_eq_true, bne_iff_ne, not_exists, not_and, Decidable.not_not] at h
  exact h b hb
theorem frame_unframe {b u : List Int} (hb : byteL b) (h : unframeL b = (u, 0)) : b = frameL u b.length := by
  unfold unframeL at h
  split at h
  · simp at h
  · rename_i h1
    split at h
    · simp at h
    · rename_i h2
      have hl : 2 ≤ b.length ∧ b.length ≤ 60000 := by omega
      have l2 : (b.take 2).length = 2 := by rw [List.length_take]; omega
      have hg := getV2 _ (byteL_take hb 2) l2
      obtain ⟨n, hn⟩ : ∃ n : Nat, getV (b.take 2) = (n : Int) := ⟨(getV (b.take 2)).toNat, by omega⟩
      rw [hn, Int.toNat_natCast] at h h2
      simp only [Prod.mk.injEq, and_true] at h
      have hnl : 2 + n ≤ b.length := by
        rcases Nat.lt_or_ge b.length (2 + n) with h3 | h3
        · exact absurd (.inl (by omega)) h2
        · exact h3
      have hz : ¬ someB (b.drop (2 + n)) = true := fun h3 => h2 (.inr h3)
      have hul : u.length = n := by rw [← h, List.length_take, List.length_drop]; omega
      match b, l2, hl with
      | x :: y :: r, _, hl =>
        have hx := (byteL_cons hb)
        have hy := (byteL_cons hx.2.2)
        have hv : getV [x, y] = x + 256 * y := by simp [getV]
        have hn' : x + 256 * y = (n : Int) := by rw [← hv]; exact hn
        have e1 : (u.length : Int) % 256 = x := by rw [hul]; omega
        have e2 : (u.length : Int) / 256 = y := by rw [hul]; omega
        have e3 : r = u ++ r.drop n := by rw [← h]; exact (List.take_append_drop n r).symm
        have e4 : (x :: y :: r).drop (2 + n) = r.drop n := by rw [Nat.add_comm]; rfl
        rw [e4] at hz
        have e5 := someB_rep hz
        have e6 : (r.drop n).length = (x :: y :: r).length - 2 - u.length := by rw [List.length_drop, hul]; simp
        unfold frameL
        rw [e1, e2, ← e6, ← e5, ← e3]
theorem num_item {x : S77} (h : okB x = true) (h1 : x.f0 = 1) : x = ⟨1, x.f1, ⟨#[]⟩⟩ := by
  have h2 : x.f2 = ⟨#[]⟩ := by
    have : x.f2.toList = [] := by simpa [okB, h1] using h
    rw [show (⟨#[]⟩ : ByteArray) = ⟨#[]⟩ from rfl]
    exact toList_inj'.1 (by rw [this]; simp [toList_data])
  calc x = ⟨x.f0, x.f1, x.f2⟩ := rfl
    _ = _ := by rw [h1, h2]
theorem text_item {x : S77} (h : okB x = true) (h1 : x.f0 = 2) : x = ⟨2, 0, x.f2⟩ := by
  have h2 : x.f1 = 0 := by simpa [okB, h1] using h
  calc x = ⟨x.f0, x.f1, x.f2⟩ := rfl
    _ = _ := by rw [h1, h2]
theorem mid_num (l : List S77) (hok : ∀ x ∈ l, okB x = true) (h : l.all (fun x => x.f0 == 1) = true) : l = numI (l.map (·.f1)) := by
  induction l with
  | nil => rfl
  | cons x l ih =>
    simp only [List.all_cons, Bool.and_eq_true, beq_iff_eq] at h
    have hx := num_item (hok x (by simp)) h.1
    have hl := ih (fun y hy => hok y (by simp [hy])) h.2
    calc x :: l = ⟨1, x.f1, ⟨#[]⟩⟩ :: numI (l.map (·.f1)) := by rw [← hl, ← hx]
      _ = _ := rfl
theorem items_tells {n : Nat} {l : List S77} {kind : Int} {m : Nat} {tx : Bool} {ns : List Int} {t : ByteArray} (hok : ∀ x ∈ l, okB x = true) (h : itemsV n l kind m tx = (ns, t, 0)) :
    n = 256 ∧ l = recI (kind :: ns) (if tx = true then some t else none) ∧ ns.length = m ∧ (tx = false → t = ⟨#[]⟩) := by
  unfold itemsV at h
  by_cases h1 : n ≠ 256 ∨ l.length ≠ 1 + m + (if tx = true then 1 else 0) ∨ headB (rd_T77 l 0) kind = false
  · rw [if_pos h1] at h
    simp at h
  · rw [if_neg h1] at h
    by_cases h2 : ((l.drop 1).take m).all (fun x => x.f0 == 1) = false
    · rw [if_pos h2] at h
      simp at h
    · rw [if_neg h2] at h
      have g1 : n = 256 := by omega
      have g2 : l.length = 1 + m + (if tx = true then 1 else 0) := by omega
      have g3 : headB (rd_T77 l 0) kind = true := by
        cases hh : headB (rd_T77 l 0) kind
        · exact absurd (.inr (.inr hh)) h1
        · rfl
      have g4 : ((l.drop 1).take m).all (fun x => x.f0 == 1) = true := by
        cases hh : ((l.drop 1).take m).all (fun x => x.f0 == 1)
        · exact absurd hh h2
        · rfl
      match l, g2, g3, g4, hok, h with
      | [], g2, _, _, _, _ => exfalso; simp at g2; omega
      | x :: r, g2, g3, g4, hok, h =>
        have hx0 : rd_T77 (x :: r) 0 = x := rfl
        rw [hx0] at g3
        simp only [headB, Bool.and_eq_true, beq_iff_eq] at g3
        have hx : x = ⟨1, kind, ⟨#[]⟩⟩ := by
          have := num_item (hok x (by simp)) g3.1
          rw [g3.2.1] at this
          exact this
        have hrl : r.length = m + (if tx = true then 1 else 0) := by simp at g2; omega
        have hd : (x :: r).drop 1 = r := rfl
        rw [hd] at g4 h
        have hmid := mid_num (r.take m) (fun y hy => hok y (by simp [List.mem_of_mem_take hy])) g4
        refine ⟨g1, ?_⟩
        cases tx with
        | false =>
          rw [if_pos rfl] at h
          simp only [Prod.mk.injEq, and_true] at h
          obtain ⟨h3, h4⟩ := h
          have hrm : r.take m = r := List.take_of_length_le (by simp at hrl; omega)
          refine ⟨?_, by rw [← h3, List.length_map, hrm]; simpa using hrl, fun _ => h4.symm⟩
          rw [← h3]
          show x :: r = ⟨1, kind, ⟨#[]⟩⟩ :: (numI ((r.take m).map (·.f1)) ++ [])
          rw [← hmid, hrm, List.append_nil, ← hx]
        | true =>
          rw [if_neg (by decide)] at h
          split at h
          · rename_i h5
            simp only [Prod.mk.injEq, and_true] at h
            obtain ⟨h3, h4⟩ := h
            have hml : m < r.length := by simp at hrl; omega
            have hlast : rd_T77 (x :: r) ((m : Int) + 1) = r[m] := by
              unfold rd_T77
              rw [show ((m : Int) + 1).toNat = m + 1 by omega, List.getD_eq_getElem?_getD, List.getElem?_cons_succ, List.getElem?_eq_getElem hml]
              rfl
            rw [hlast] at h4 h5
            have hy := text_item (hok r[m] (by simp)) h5
            rw [h4] at hy
            have hr : r = r.take m ++ [r[m]] := by
              rw [← List.take_succ_eq_append_getElem hml, List.take_of_length_le (by simp at hrl; omega)]
            refine ⟨?_, by rw [← h3, List.length_map, List.length_take]; omega, fun h => by cases h⟩
            rw [← h3]
            show x :: r = ⟨1, kind, ⟨#[]⟩⟩ :: (numI ((r.take m).map (·.f1)) ++ [⟨2, 0, t⟩])
            rw [← hmid, ← hx, ← hy, ← hr]
          · simp at h
theorem open_tells {b : List Int} (hb : byteL b) {kind : Int} {m : Nat} {tx : Bool} {ns : List Int} {t : ByteArray} (h : openV b kind m tx = (ns, t, 0)) :
    b = secL (recI (kind :: ns) (if tx = true then some t else none)) ∧ unframeL b = (sealL (encL (recI (kind :: ns) (if tx = true then some t else none))), 0) ∧ unsealV (unframeL b).1 = (recI (kind :: ns) (if tx = true then some t else none), 0) ∧ ns.length = m ∧ (tx = false → t = ⟨#[]⟩) ∧ ∀ n ∈ kind :: ns, wf64 n := by
  unfold openV at h
  split at h
  · rename_i h1
    split at h
    · rename_i h2
      obtain ⟨u, hu⟩ : ∃ u, u = (unframeL b).1 := ⟨_, rfl⟩
      have hu2 : unframeL b = (u, 0) := by rw [hu, ← h1]
      rw [← hu] at h h2 ⊢
      have hub : byteL u := by rw [hu]; exact unframeL_byteL hb
      have h3 : (openL u).2 = 0 := by
        unfold unsealV at h2
        split at h2
        · assumption
        · exact h2
      have hc : openL u = ((openL u).1, 0) := by rw [← h3]
      have hs := seal_open hub hc
      have hv : unsealV u = decF (openL u).1 := by unfold unsealV; rw [if_pos h3]
      rcases decF_tells _ (openL_byteL hub) with h4 | ⟨l, h4, h5, h6, h7⟩
      · rw [hv, h4] at h2
        cases h2
      · rw [hv, h4] at h
        obtain ⟨_, hok⟩ := (checkV_iff l).1 h6
        obtain ⟨g1, g2, g3, g4⟩ := items_tells (fun x hx => (hok x hx).1) h
        refine ⟨?_, ?_, by rw [hv, h4, g2], g3, g4, fun n hn => ?_⟩
        · have hf := frame_unframe hb hu2
          rw [hf, g1, hs, ← h5, g2]
          rfl
        · rw [hu2, hs, ← h5, g2]
        · have : (⟨1, n, ⟨#[]⟩⟩ : S77) ∈ l := by
            rw [g2, recI]
            refine List.mem_append_left _ ?_
            exact List.mem_map.2 ⟨n, hn, rfl⟩
          exact wf64_iff.1 (h7 _ this)
    · simp only [Prod.mk.injEq] at h
      rename_i h2
      exact absurd h.2.2 h2
  · simp at h
theorem items_fail {n : Nat} {l : List S77} {kind : Int} {m : Nat} {tx : Bool} (h : (itemsV n l kind m tx).2.2 ≠ 0) : itemsV n l kind m tx = ([], ⟨#[]⟩, 2) := by
  unfold itemsV at h ⊢
  by_cases h1 : n ≠ 256 ∨ l.length ≠ 1 + m + (if tx = true then 1 else 0) ∨ headB (rd_T77 l 0) kind = false
  · rw [if_pos h1]
  · rw [if_neg h1] at h ⊢
    by_cases h2 : ((l.drop 1).take m).all (fun x => x.f0 == 1) = false
    · rw [if_pos h2]
    · rw [if_neg h2] at h ⊢
      by_cases h3 : tx = false
      · rw [if_pos h3] at h
        exact absurd rfl h
      · rw [if_neg h3] at h ⊢
        by_cases h4 : (rd_T77 l ((m : Int) + 1)).f0 = 2
        · rw [if_pos h4] at h
          exact absurd rfl h
        · rw [if_neg h4]
end
end Go.Proofs.YtmkkeccmjejfnaaDoor.PA
namespace Go.Proofs.YtmkkeccmjejfnaaDoor.PA
section

open Go.RowKit Go.Proofs.YtmkkeccmjejfnaaDoorW.PrintWords Go.Proofs.YtmkkeccmjejfnaaDoorW.PrintLast Go.Proofs.YtmkkeccmjejfnaaDoorW.PrintMore
set_option linter.unusedVariables false
set_option linter.unusedSimpArgs false
def cnt (kind : Int) : Nat := if kind = 1 then 3 else if kind = 2 then 7 else 1
def docV (b : List Int) (kind : Int) : Int × List Int × ByteArray × Int :=
  if (openV b kind (cnt kind) (decide (kind ≠ 1))).2.2 = 0 then
    (if rightB kind (openV b kind (cnt kind) (decide (kind ≠ 1))).1 (openV b kind (cnt kind) (decide (kind ≠ 1))).2.1 = true then (kind, (openV b kind (cnt kind) (decide (kind ≠ 1))).1, (openV b kind (cnt kind) (decide (kind ≠ 1))).2.1, 0) else (0, [], ⟨#[]⟩, 2))
  else (0, [], ⟨#[]⟩, (openV b kind (cnt kind) (decide (kind ≠ 1))).2.2)
theorem rightB_len {kind : Int} {ns : List Int} {t : ByteArray} (h : rightB kind ns t = true) : ns.length = cnt kind ∧ t.size ≤ 160 := by
  unfold rightB at h
  simp only [Bool.and_eq_true, decide_eq_true_eq] at h
  refine ⟨?_, h.2.1⟩
  have h2 := h.2.2
  unfold cnt
  by_cases k1 : kind = 1
  · rw [if_pos k1] at h2 ⊢
    simp only [Bool.and_eq_true, decide_eq_true_eq] at h2
    exact h2.1
  · rw [if_neg k1] at h2 ⊢
    by_cases k2 : kind = 2
    · rw [if_pos k2] at h2 ⊢
      unfold logB at h2
      split at h2
      · rfl
      · cases h2
    · rw [if_neg k2] at h2 ⊢
      simpa using h2
theorem rightB_one {ns : List Int} {t : ByteArray} (h : rightB 1 ns t = true) : t = ⟨#[]⟩ := by
  unfold rightB at h
  simp only [Bool.and_eq_true, decide_eq_true_eq, if_true, beq_iff_eq] at h
  exact toList_inj'.1 (by rw [h.2.2.2]; simp [toList_data])
theorem txt_some (kind : Int) (t : ByteArray) : (txt kind t).isSome = decide (kind ≠ 1) := by
  unfold txt
  by_cases k : kind = 1 <;> simp [k]
theorem txt_get {kind : Int} {ns : List Int} {t : ByteArray} (h : rightB kind ns t = true) : (txt kind t).getD ⟨#[]⟩ = t ∧ tsz (txt kind t) ≤ 160 := by
  have hs := (rightB_len h).2
  unfold txt
  by_cases k : kind = 1
  · subst k
    rw [if_pos rfl]
    exact ⟨(rightB_one h).symm, by simp [tsz, size_nil]⟩
  · rw [if_neg k]
    exact ⟨rfl, by simpa [tsz] using hs⟩
theorem cnt_le (kind : Int) : cnt kind ≤ 7 := by
  unfold cnt
  split
  · omega
  · split <;> omega
/-- What is encoded is decoded. -/
theorem doc_enc (kind : Int) (ns : List Int) (t : ByteArray) (h : rightB kind ns t = true) (hw : ∀ n ∈ kind :: ns, wf64 n) : docV (secL (recI (kind :: ns) (txt kind t))) kind = (kind, ns, t, 0) := by
  obtain ⟨hl, hs⟩ := rightB_len h
  obtain ⟨hg, ht⟩ := txt_get h
  have ho := open_enc kind ns (txt kind t) (by rw [hl]; exact cnt_le kind) ht hw
  rw [hl, txt_some, hg] at ho
  unfold docV
  rw [ho]
  simp only [h, if_true]
/-- What is decoded is encoded. -/
theorem doc_tells {b : List Int} (hb : byteL b) {kind : Int} {ns : List Int} {t : ByteArray} {k2 : Int} (h : docV b kind = (k2, ns, t, 0)) :
    k2 = kind ∧ rightB kind ns t = true ∧ b = secL (recI (kind :: ns) (txt kind t)) ∧ (∀ n ∈ kind :: ns, wf64 n) ∧ unframeL b = (sealL (encL (recI (kind :: ns) (txt kind t))), 0) ∧ unsealV (unframeL b).1 = (recI (kind :: ns) (txt kind t), 0) := by
  unfold docV at h
  split at h
  · rename_i h1
    split at h
    · rename_i h2
      simp only [Prod.mk.injEq, and_true] at h
      obtain ⟨h3, h4, h5⟩ := h
      rw [h4, h5] at h2
      have ho : openV b kind (cnt kind) (decide (kind ≠ 1)) = (ns, t, 0) := by rw [← h4, ← h5, ← h1]
      obtain ⟨g1, g2, g3, g4, g5, g6⟩ := open_tells hb ho
      have ht : (if decide (kind ≠ 1) = true then some t else none) = txt kind t := by
        unfold txt
        by_cases k : kind = 1 <;> simp [k]
      rw [ht] at g1 g2 g3
      exact ⟨h3.symm, h2, g1, g6, g2, g3⟩
    · simp at h
  · rename_i h1
    simp only [Prod.mk.injEq] at h
    exact absurd h.2.2.2 h1
theorem docV_form (b : List Int) (kind : Int) : (∃ ns t, docV b kind = (kind, ns, t, 0) ∧ rightB kind ns t = true ∧ openV b kind (cnt kind) (decide (kind ≠ 1)) = (ns, t, 0)) ∨ ∃ e, e ≠ 0 ∧ docV b kind = (0, [], ⟨#[]⟩, e) ∧ ((openV b kind (cnt kind) (decide (kind ≠ 1))).2.2 = e ∨ ((openV b kind (cnt kind) (decide (kind ≠ 1))).2.2 = 0 ∧ e = 2 ∧ rightB kind (openV b kind (cnt kind) (decide (kind ≠ 1))).1 (openV b kind (cnt kind) (decide (kind ≠ 1))).2.1 = false)) := by
  unfold docV
  by_cases h1 : (openV b kind (cnt kind) (decide (kind ≠ 1))).2.2 = 0
  · rw [if_pos h1]
    by_cases h2 : rightB kind (openV b kind (cnt kind) (decide (kind ≠ 1))).1 (openV b kind (cnt kind) (decide (kind ≠ 1))).2.1 = true
    · rw [if_pos h2]
      exact .inl ⟨_, _, rfl, h2, by rw [← h1]⟩
    · rw [if_neg h2]
      exact .inr ⟨2, by decide, rfl, .inr ⟨h1, rfl, by simpa using h2⟩⟩
  · rw [if_neg h1]
    exact .inr ⟨_, h1, rfl, .inl rfl⟩
theorem super_tells (b : List Int) (hb : byteL b) (hl : b.length ≤ 140737488351232) (k : Nat) (hk : 300000 ≤ k) :
    (∃ x y z, docV b 1 = (1, [x, y, z], ⟨#[]⟩, 0) ∧ record_DecodeSuper.f k b = some (x, y, z, 0)) ∨ (∃ e, e ≠ 0 ∧ docV b 1 = (0, [], ⟨#[]⟩, e) ∧ record_DecodeSuper.f k b = some (0, 0, 0, e)) := by
  have ho : record_open.f k b 1 3 false = some (openV b 1 (cnt 1) (decide ((1 : Int) ≠ 1))) := open_val b hb hl 1 3 (by omega) false k hk
  unfold record_DecodeSuper.f
  rw [ho, Option.bind_some]
  rcases docV_form b 1 with ⟨ns, t, h1, h2, h3⟩ | ⟨e, he, h1, h2⟩
  · have hn := (rightB_len h2).1
    have ht := rightB_one h2
    subst ht
    match ns, hn with
    | [x, y, z], _ =>
      refine .inl ⟨x, y, z, h1, ?_⟩
      rw [h3]
      have hr : natB [x, y, z] = true := by
        unfold rightB at h2
        simp only [Bool.and_eq_true] at h2
        exact h2.1
      simp only [if_true, List.length_cons, List.length_nil]
      rw [if_pos (by decide), if_pos (by decide), if_pos (by decide), superR_val _ _ _ k (by omega), Option.bind_some]
      have e1 : rd [x, y, z] 0 = x := rfl
      have e2 : rd [x, y, z] 1 = y := rfl
      have e3 : rd [x, y, z] 2 = z := rfl
      rw [e1, e2, e3, hr, if_pos rfl]
  · refine .inr ⟨e, he, h1, ?_⟩
    rcases h2 with h2 | ⟨h2, h3, h4⟩
    · rw [h2, if_neg he]
    · obtain ⟨ns, t, h5⟩ : ∃ ns t, openV b 1 (cnt 1) (decide ((1 : Int) ≠ 1)) = (ns, t, 0) := ⟨_, _, by rw [← h2]⟩
      obtain ⟨_, _, _, g4, g5, _⟩ := open_tells hb h5
      have ht := g5 (by decide)
      subst ht
      rw [h5] at h4 ⊢
      match ns, g4 with
      | [x, y, z], _ =>
        have hr : natB [x, y, z] = false := by
          cases hh : natB [x, y, z]
          · rfl
          · simp [rightB, hh, toList_data, size_nil] at h4
        simp only [if_true, List.length_cons, List.length_nil]
        rw [if_pos (by decide), if_pos (by decide), if_pos (by decide), superR_val _ _ _ k (by omega), Option.bind_some]
        have e1 : rd [x, y, z] 0 = x := rfl
        have e2 : rd [x, y, z] 1 = y := rfl
        have e3 : rd [x, y, z] 2 = z := rfl
        rw [e1, e2, e3, hr, if_neg (by decide), h3]
theorem logright (n0 n1 n2 n3 n4 n5 n6 : Int) (t : ByteArray) : rightB 2 [n0, n1, n2, n3, n4, n5, n6] t = (natB [n1, n2, n3, n4, n5, n6] && (decide (t.size ≤ 160) && logB [n0, n1, n2, n3, n4, n5, n6] t)) := by
  unfold rightB
  rw [if_neg (by decide), if_pos rfl]
  cases hl : logB [n0, n1, n2, n3, n4, n5, n6] t
  · simp
  · have h0 : 0 ≤ n0 := by
      simp only [logB, Bool.or_eq_true, Bool.and_eq_true, beq_iff_eq] at hl
      rcases hl with h | h
      · omega
      · omega
    have : natB [n0, n1, n2, n3, n4, n5, n6] = natB [n1, n2, n3, n4, n5, n6] := by
      simp [natB, h0]
    rw [this]
theorem log_tells (b : List Int) (hb : byteL b) (hl : b.length ≤ 140737488351232) (k : Nat) (hk : 300000 ≤ k) :
    (∃ n0 n1 n2 n3 n4 n5 n6 t, docV b 2 = (2, [n0, n1, n2, n3, n4, n5, n6], t, 0) ∧ record_DecodeLog.f k b = some (n0, n1, n2, n3, n4, n5, n6, t, 0)) ∨ (∃ e, e ≠ 0 ∧ docV b 2 = (0, [], ⟨#[]⟩, e) ∧ record_DecodeLog.f k b = some (0, 0, 0, 0, 0, 0, 0, ⟨#[]⟩, e)) := by
  have ho : record_open.f k b 2 7 true = some (openV b 2 (cnt 2) (decide ((2 : Int) ≠ 1))) := open_val b hb hl 2 7 (by omega) true k hk
  unfold record_DecodeLog.f
  rw [ho, Option.bind_some]
  rcases docV_form b 2 with ⟨ns, t, h1, h2, h3⟩ | ⟨e, he, h1, h2⟩
  · have hn := (rightB_len h2).1
    match ns, hn with
    | [n0, n1, n2, n3, n4, n5, n6], _ =>
      refine .inl ⟨n0, n1, n2, n3, n4, n5, n6, t, h1, ?_⟩
      rw [h3, if_pos rfl]
      show (record_Log_right.f k n0 n1 n2 n3 n4 n5 n6 t).bind _ = _
      rw [logR_val _ _ _ _ _ _ _ _ k (by omega), ← logright, h2, Option.bind_some, if_pos rfl]
  · refine .inr ⟨e, he, h1, ?_⟩
    rcases h2 with h2 | ⟨h2, h3, h4⟩
    · rw [h2, if_neg he]
    · obtain ⟨ns, t, h5⟩ : ∃ ns t, openV b 2 (cnt 2) (decide ((2 : Int) ≠ 1)) = (ns, t, 0) := ⟨_, _, by rw [← h2]⟩
      obtain ⟨_, _, _, g4, g5, _⟩ := open_tells hb h5
      rw [h5] at h4 ⊢
      match ns, g4 with
      | [n0, n1, n2, n3, n4, n5, n6], _ =>
        rw [if_pos rfl]
        show (record_Log_right.f k n0 n1 n2 n3 n4 n5 n6 t).bind _ = _
        rw [logR_val _ _ _ _ _ _ _ _ k (by omega), ← logright, h4, Option.bind_some, if_neg (by decide), h3]
theorem home_tells (b : List Int) (hb : byteL b) (hl : b.length ≤ 140737488351232) (k : Nat) (hk : 300000 ≤ k) :
    (∃ p t, docV b 3 = (3, [p], t, 0) ∧ record_DecodeHome.f k b = some (p, t, 0)) ∨ (∃ e, e ≠ 0 ∧ docV b 3 = (0, [], ⟨#[]⟩, e) ∧ record_DecodeHome.f k b = some (0, ⟨#[]⟩, e)) := by
  have ho : record_open.f k b 3 1 true = some (openV b 3 (cnt 3) (decide ((3 : Int) ≠ 1))) := open_val b hb hl 3 1 (by omega) true k hk
  have hr : ∀ p t, rightB 3 [p] t = (decide (0 ≤ p) && decide (t.size ≤ 160)) := fun p t => by simp [rightB, natB]
  unfold record_DecodeHome.f
  rw [ho, Option.bind_some]
  rcases docV_form b 3 with ⟨ns, t, h1, h2, h3⟩ | ⟨e, he, h1, h2⟩
  · have hn := (rightB_len h2).1
    match ns, hn with
    | [p], _ =>
      refine .inl ⟨p, t, h1, ?_⟩
      rw [h3, if_pos rfl, if_pos (by simp)]
      have e1 : rd [p] 0 = p := rfl
      simp only [e1]
      rw [homeR_val, ← hr, h2, Option.bind_some, if_pos rfl]
  · refine .inr ⟨e, he, h1, ?_⟩
    rcases h2 with h2 | ⟨h2, h3, h4⟩
    · rw [h2, if_neg he]
    · obtain ⟨ns, t, h5⟩ : ∃ ns t, openV b 3 (cnt 3) (decide ((3 : Int) ≠ 1)) = (ns, t, 0) := ⟨_, _, by rw [← h2]⟩
      obtain ⟨_, _, _, g4, g5, _⟩ := open_tells hb h5
      rw [h5] at h4 ⊢
      match ns, g4 with
      | [p], _ =>
        rw [if_pos rfl, if_pos (by simp)]
        have e1 : rd [p] 0 = p := rfl
        simp only [e1]
        rw [homeR_val, ← hr, h4, Option.bind_some, if_neg (by decide), h3]
theorem known_val (k : Nat) (hk : 300000 ≤ k) : cisternlaw07_known.f k = some true := by
  have hr : rightB 1 [3, 2, 7] ⟨#[]⟩ = true := by simp [rightB, natB, toList_data, size_nil]
  have hw : ∀ n ∈ (1 : Int) :: [3, 2, 7], wf64 n := by intro n hn; simp at hn; unfold wf64; omega
  have he := encodeSuper_val 3 2 7 k (by omega)
  have hv : encV 1 [3, 2, 7] ⟨#[]⟩ = (secL (recI (1 :: [3, 2, 7]) (txt 1 ⟨#[]⟩)), 0) := by unfold encV; rw [if_pos hr]
  obtain ⟨b, hbe⟩ : ∃ b, b = secL (recI (1 :: [3, 2, 7]) (txt 1 ⟨#[]⟩)) := ⟨_, rfl⟩
  have hsm := small_enc 1 [3, 2, 7] (txt 1 ⟨#[]⟩) (by simp) (txt_get hr).2
  have hb : byteL b := by rw [hbe]; exact secL_byteL _ hsm
  have hl : b.length = 256 := by rw [hbe]; exact secL_length _ hsm
  have hd : docV b 1 = (1, [3, 2, 7], ⟨#[]⟩, 0) := by rw [hbe]; exact doc_enc 1 _ _ hr hw
  rw [hv, ← hbe] at he
  unfold cisternlaw07_known.f
  rw [he, Option.bind_some]
  rcases super_tells b hb (by omega) k hk with ⟨x, y, z, h1, h2⟩ | ⟨e, h0, h1, _⟩
  · rw [hd] at h1
    simp only [Prod.mk.injEq, List.cons.injEq, and_true, true_and] at h1
    obtain ⟨rfl, rfl, rfl⟩ := h1
    rw [h2, Option.bind_some, if_pos rfl, if_pos rfl, if_pos (by rw [hl]; rfl)]
    rfl
  · rw [hd] at h1
    simp at h1
end
end Go.Proofs.YtmkkeccmjejfnaaDoor.PA
namespace Go.Proofs.YtmkkeccmjejfnaaDoor.PA
section

open Go.RowKit Go.Proofs.YtmkkeccmjejfnaaDoorW.PrintWords Go.Proofs.YtmkkeccmjejfnaaDoorW.PrintLast Go.Proofs.YtmkkeccmjejfnaaDoorW.PrintMore
set_option linter.unusedVariables false
set_option linter.unusedSimpArgs false
theorem refright_tells (kind : Int) (ns : List Int) (t : ByteArray) (h0 : 1 ≤ kind) (h3 : kind ≤ 3) (hlen : ns.length = cnt kind) (hs : t.size ≤ 160) : ∀ (d k i : Nat), i + d = ns.length → d < k →
    cisternref07_Right.l0 k (i : Int) kind ns t = some (natB (ns.drop i) && (if kind = 1 then t.toList == ([] : List UInt8) else if kind = 2 then logB ns t else true)) := by
  have hc := cnt_le kind
  intro d
  induction d with
  | zero =>
    intro k i hi hk
    obtain ⟨k, rfl⟩ : ∃ m, k = m + 1 := ⟨k - 1, by omega⟩
    simp only [cisternref07_Right.l0]
    rw [if_neg (by omega), List.drop_eq_nil_of_le (by omega), show natB [] = true from rfl, Bool.true_and]
    by_cases k1 : kind = 1
    · rw [if_pos k1, if_pos k1]
    · rw [if_neg k1, if_neg k1]
      by_cases k2 : kind = 2
      · rw [if_pos k2, if_pos k2]
        have hl7 : ns.length = 7 := by rw [hlen, k2]; rfl
        match ns, hl7 with
        | [n0, n1, n2, n3, n4, n5, n6], _ =>
          have e0 : rd [n0, n1, n2, n3, n4, n5, n6] 0 = n0 := rfl
          have e6 : rd [n0, n1, n2, n3, n4, n5, n6] 6 = n6 := rfl
          rw [e0, e6, if_pos (by simp)]
          by_cases g1 : n0 = 1
          · rw [if_pos g1]
            simp [logB, g1]
          · rw [if_neg g1]
            by_cases g2 : n0 = 2
            · rw [if_pos g2, if_pos (by simp)]
              by_cases g3 : n6 = 0
              · rw [if_pos g3]
                simp [logB, g2, g3]
              · rw [if_neg g3]
                simp [logB, g2, g3]
            · rw [if_neg g2]
              simp [logB, g1, g2]
      · rw [if_neg k2, if_neg k2]
  | succ d ih =>
    intro k i hi hk
    obtain ⟨k, rfl⟩ : ∃ m, k = m + 1 := ⟨k - 1, by omega⟩
    have hil : i < ns.length := by omega
    have e : natB (ns.drop i) = (decide (0 ≤ ns[i]) && natB (ns.drop (i + 1))) := by rw [List.drop_eq_getElem_cons hil]; rfl
    simp only [cisternref07_Right.l0]
    rw [if_pos (by omega), if_pos (by omega), rd_get ns i hil]
    by_cases h : ns[i] < 0
    · rw [if_pos h, e, decide_eq_false (by omega)]
      simp
    · rw [if_neg h, wsuc i (by omega), ih k (i + 1) (by omega) (by omega), e, decide_eq_true (by omega), Bool.true_and]
def refRightB (kind : Int) (ns : List Int) (t : ByteArray) : Bool := decide (1 ≤ kind ∧ kind ≤ 3) && rightB kind ns t
theorem count_val (kind : Int) (h0 : 1 ≤ kind) (h3 : kind ≤ 3) : cisternref07_count.f kind = some (cnt kind : Int) := by
  have : kind = 1 ∨ kind = 2 ∨ kind = 3 := by omega
  rcases this with rfl | rfl | rfl <;> rfl
theorem refright_val (kind : Int) (ns : List Int) (t : ByteArray) (k : Nat) (hk : 20 ≤ k) : cisternref07_Right.f k kind ns t = some (refRightB kind ns t) := by
  obtain ⟨k, rfl⟩ : ∃ m, k = m + 1 := ⟨k - 1, by omega⟩
  unfold cisternref07_Right.f refRightB
  by_cases h0 : kind < 1
  · rw [if_pos h0, decide_eq_false (by omega)]
    simp [cisternref07_Right.j0]
  · rw [if_neg h0]
    by_cases h3 : kind > 3
    · rw [if_pos h3, decide_eq_false (by omega)]
      simp [cisternref07_Right.j0]
    · rw [if_neg h3, count_val kind (by omega) (by omega), Option.bind_some, show decide (1 ≤ kind ∧ kind ≤ 3) = true from decide_eq_true ⟨by omega, by omega⟩, Bool.true_and]
      by_cases hl : ns.length = cnt kind
      · rw [if_pos (by omega)]
        simp only [cisternref07_Right.j0]
        by_cases hs : 160 < t.size
        · rw [decide_eq_true (show (t.size : Int) > 160 by omega), if_pos rfl]
          simp [rightB, show ¬ t.size ≤ 160 by omega]
        · rw [decide_eq_false (show ¬ (t.size : Int) > 160 by omega), if_neg (by decide), show (0 : Int) = ((0 : Nat) : Int) from rfl, refright_tells kind ns t (by omega) (by omega) hl (by omega) ns.length k 0 (by omega) (by have := cnt_le kind; omega)]
          rw [List.drop_zero]
          unfold rightB
          rw [decide_eq_true (show t.size ≤ 160 by omega), Bool.true_and]
          congr 2
          by_cases k1 : kind = 1
          · rw [if_pos k1, if_pos k1, decide_eq_true (by rw [hl, k1]; rfl), Bool.true_and]
          · rw [if_neg k1, if_neg k1]
            by_cases k2 : kind = 2
            · rw [if_pos k2, if_pos k2]
            · rw [if_neg k2, if_neg k2]
              symm
              exact decide_eq_true (by rw [hl]; unfold cnt; rw [if_neg k1, if_neg k2])
      · rw [if_neg (by omega)]
        simp only [cisternref07_Right.j0]
        rw [if_pos trivial]
        cases hh : rightB kind ns t
        · rfl
        · exact absurd (rightB_len hh).1 hl
theorem refencode_sec (l : List S77) (hc : pack_checkV l = 0) (h : (encL l).length ≤ 250) (k : Nat) (hk : 5000 ≤ k) :
    ((cisternref03_Encode.f l).bind fun t247 => ((cisternref03_Seal.f k t247).bind fun t248 => ((cisternref03_DocFrame.f t248 256).bind fun bt249 => (some bt249.1)))) = some (strOfNums (secL l)) := by
  have hb := encL_byteL l
  have e0 : cisternref03_Encode.f l = some (strOfNums (encL l)) := by unfold cisternref03_Encode.f; rw [if_pos (check_ok hc).1]
  rw [e0, Option.bind_some, refseal_val _ (by rw [size_strOfNums]; omega) k (by rw [size_strOfNums]; omega), bytesOf_strOfNums _ hb, Option.bind_some]
  have e3 : cisternref03_DocFrame.f (strOfNums (sealL (encL l))) 256 = some (strOfNums (secL l), 0) := by
    unfold cisternref03_DocFrame.f frameV
    rw [bytesOf_strOfNums _ (sealL_byteL hb), size_strOfNums, sealL_length, if_pos (by omega), if_neg (by omega), if_neg (by omega)]
    rfl
  rw [e3]
  rfl
theorem refenc_tells (kind : Int) (ns : List Int) (t : ByteArray) (hn : ns.length ≤ 7) (hs : tsz (txt kind t) ≤ 160) : ∀ (d k i : Nat), i + d = ns.length → d + 5000 < k →
    cisternref07_Encode.l0 k (numI (kind :: ns.take i)) (i : Int) kind ns t = some (strOfNums (secL (recI (kind :: ns) (txt kind t)))) := by
  have hsm := small_enc kind ns (txt kind t) hn hs
  have hck := recI_check (kind :: ns) (txt kind t) (by simp; omega) hs
  intro d
  induction d with
  | zero =>
    intro k i hi hk
    obtain ⟨k, rfl⟩ : ∃ m, k = m + 1 := ⟨k - 1, by omega⟩
    simp only [cisternref07_Encode.l0]
    rw [if_neg (by omega), List.take_of_length_le (by omega)]
    simp only [cisternref07_texted.f]
    rw [Option.bind_some]
    by_cases k1 : kind = 1
    · rw [if_neg (by simp [k1])]
      have e : numI (kind :: ns) = recI (kind :: ns) (txt kind t) := by simp [recI, txt, k1, textI]
      rw [e]
      exact refencode_sec _ hck hsm k (by omega)
    · rw [if_pos (by simp [k1]), if_pos (by simp [numI]; omega)]
      have e : numI (kind :: ns) ++ [⟨2, 0, t⟩] = recI (kind :: ns) (txt kind t) := by simp [recI, txt, k1, textI]
      rw [e]
      exact refencode_sec _ hck hsm k (by omega)
  | succ d ih =>
    intro k i hi hk
    obtain ⟨k, rfl⟩ : ∃ m, k = m + 1 := ⟨k - 1, by omega⟩
    have hil : i < ns.length := by omega
    simp only [cisternref07_Encode.l0]
    rw [if_pos (by omega), if_pos (by omega), if_pos (by simp [numI]; omega), wsuc i (by omega), rd_get ns i hil]
    have e : numI (kind :: ns.take i) ++ [⟨1, ns[i], ⟨#[]⟩⟩] = numI (kind :: ns.take (i + 1)) := by
      rw [List.take_succ_eq_append_getElem hil]
      simp only [numI, List.map_append, List.map_cons, List.map_nil, List.cons_append]
    rw [e]
    exact ih k (i + 1) (by omega) (by omega)
theorem refenc_val (kind : Int) (ns : List Int) (t : ByteArray) (h : rightB kind ns t = true) (k : Nat) (hk : 6000 ≤ k) : cisternref07_Encode.f k kind ns t = some (strOfNums (secL (recI (kind :: ns) (txt kind t)))) := by
  have hl := (rightB_len h).1
  have hc := cnt_le kind
  exact refenc_tells kind ns t (by omega) (txt_get h).2 ns.length k 0 (by omega) (by omega)
def foldN : List S77 → List Int → ByteArray → List Int × ByteArray
  | [], ns, t => (ns, t)
  | x :: l, ns, t => if x.f0 = 1 then foldN l (ns ++ [x.f1]) t else foldN l ns x.f2
theorem foldN_num (ms : List Int) : ∀ (l : List S77) (ns : List Int) (t : ByteArray), foldN (numI ms ++ l) ns t = foldN l (ns ++ ms) t := by
  induction ms with
  | nil => intro l ns t; simp [numI]
  | cons m ms ih =>
    intro l ns t
    show foldN (⟨1, m, ⟨#[]⟩⟩ :: (numI ms ++ l)) ns t = _
    rw [foldN, if_pos rfl, ih]
    simp
theorem foldN_rec (ns : List Int) (t : Option ByteArray) : foldN (numI ns ++ textI t) [] ⟨#[]⟩ = (ns, t.getD ⟨#[]⟩) := by
  rw [foldN_num]
  cases t with
  | none => simp [textI, foldN]
  | some t => simp [textI, foldN]
theorem rd77_get (l : List S77) (i : Nat) (h : i < l.length) : rd_T77 l (i : Int) = l[i] := by
  unfold rd_T77; rw [Int.toNat_natCast, List.getD_eq_getElem?_getD, List.getElem?_eq_getElem h]; rfl
def endV (b : List Int) (kind : Int) (k2 : Int) (ns : List Int) (t : ByteArray) : Int × List Int × ByteArray × Int :=
  if k2 = kind ∧ refRightB k2 ns t = true ∧ secL (recI (k2 :: ns) (txt k2 t)) = b then (k2, ns, t, 0) else (0, [], ⟨#[]⟩, 2)
theorem end_val (b : List Int) (hb : byteL b) (kind k2 : Int) (ns : List Int) (t : ByteArray) (k : Nat) (hk : 6000 ≤ k) :
    (if k2 = kind then ((cisternref07_Right.f k k2 ns t).bind fun t347 => (if t347 = true then ((cisternref07_Encode.f k k2 ns t).bind fun t348 => (if t348.toList = (strOfNums b).toList then (some (k2, ns, t, (0 : Int))) else (some ((0 : Int), ([] : List Int), (⟨#[]⟩ : ByteArray), (2 : Int))))) else (some (0, ([] : List Int), (⟨#[]⟩ : ByteArray), 2)))) else (some (0, ([] : List Int), (⟨#[]⟩ : ByteArray), 2))) = some (endV b kind k2 ns t) := by
  unfold endV
  by_cases h1 : k2 = kind
  · rw [if_pos h1, refright_val k2 ns t k (by omega), Option.bind_some]
    cases hr : refRightB k2 ns t
    · rw [if_neg (by decide), if_neg (by simp)]
    · have hr2 : rightB k2 ns t = true := by
        unfold refRightB at hr
        simp only [Bool.and_eq_true] at hr
        exact hr.2
      have hsm := small_enc k2 ns (txt k2 t) (by rw [(rightB_len hr2).1]; exact cnt_le k2) (txt_get hr2).2
      rw [if_pos rfl, refenc_val k2 ns t hr2 k hk, Option.bind_some]
      by_cases h2 : secL (recI (k2 :: ns) (txt k2 t)) = b
      · rw [if_pos (by rw [h2]), if_pos ⟨h1, rfl, h2⟩]
      · rw [if_neg (fun h => h2 (strOfNums_inj (secL_byteL _ hsm) hb (toList_inj'.1 h))), if_neg (fun h => h2 h.2.2)]
  · rw [if_neg h1, if_neg (fun h => h1 h.1)]
theorem fold_tells (b : List Int) (hb : byteL b) (kind k2 : Int) (l : List S77) (hl : l.length ≤ 4000) : ∀ (d k i : Nat) (ns : List Int) (t : ByteArray), i + d = l.length → 1 ≤ i → d + 6000 < k → ns.length ≤ i →
    cisternref07_DocDecode.l0 k (strOfNums b) kind l (i : Int) k2 ns t = some (endV b kind k2 (foldN (l.drop i) ns t).1 (foldN (l.drop i) ns t).2) := by
  intro d
  induction d with
  | zero =>
    intro k i ns t hi h1 hk hn
    obtain ⟨k, rfl⟩ : ∃ m, k = m + 1 := ⟨k - 1, by omega⟩
    simp only [cisternref07_DocDecode.l0]
    rw [if_neg (by omega), List.drop_eq_nil_of_le (by omega)]
    exact end_val b hb kind k2 ns t k (by omega)
  | succ d ih =>
    intro k i ns t hi h1 hk hn
    obtain ⟨k, rfl⟩ : ∃ m, k = m + 1 := ⟨k - 1, by omega⟩
    have hil : i < l.length := by omega
    simp only [cisternref07_DocDecode.l0]
    rw [if_pos (by omega), if_neg (by omega), if_pos (by omega), rd77_get l i hil, wsuc i (by omega), List.drop_eq_getElem_cons hil]
    by_cases g : l[i].f0 = 1
    · rw [if_pos g, if_pos (by omega), ih k (i + 1) _ t (by omega) (by omega) (by omega) (by simp; omega), foldN, if_pos g]
    · rw [if_neg g, ih k (i + 1) ns _ (by omega) (by omega) (by omega) (by omega), foldN, if_neg g]
theorem decF_le (c : List Int) (hc : byteL c) : (decF c).1.length ≤ 4000 := by
  rcases decF_tells c hc with h | ⟨m, h, _, h2, _⟩
  · rw [h]; simp
  · rw [h]; exact ((checkV_iff m).1 h2).1
theorem unsealV_le (u : List Int) (hb : byteL u) : (unsealV u).1.length ≤ 4000 := by
  unfold unsealV
  split
  · exact decF_le _ (openL_byteL hb)
  · simp
theorem refunpacked_val (u : List Int) (hb : byteL u) (hl : u.length ≤ 140737488351232) (k : Nat) (hk : 10 * u.length + 100 ≤ k) : cisternref07_unpacked.f k (strOfNums u) = some (unsealV u) := by
  have hlen := openL_len u
  unfold cisternref07_unpacked.f unsealV
  rw [docopen_val _ (by rw [size_strOfNums]; omega) k (by rw [size_strOfNums]; omega), bytesOf_strOfNums u hb, Option.bind_some]
  by_cases h : (openL u).2 = 0
  · rw [if_pos h, if_pos h]
    simp only
    rw [docdecode_val _ (by rw [size_strOfNums]; omega) k (by rw [size_strOfNums]; omega), bytesOf_strOfNums _ (openL_byteL hb)]
    rfl
  · rw [if_neg h, if_neg h]
end
end Go.Proofs.YtmkkeccmjejfnaaDoor.PA
namespace Go.Proofs.YtmkkeccmjejfnaaDoor.PA
section

open Go.RowKit Go.Proofs.YtmkkeccmjejfnaaDoorW.PrintWords Go.Proofs.YtmkkeccmjejfnaaDoorW.PrintLast Go.Proofs.YtmkkeccmjejfnaaDoorW.PrintMore
set_option linter.unusedVariables false
set_option linter.unusedSimpArgs false
theorem foldN_mem (p : Int → Prop) (l : List S77) (h : ∀ x ∈ l, p x.f1) : ∀ (ns : List Int) (t : ByteArray), (∀ n ∈ ns, p n) → ∀ n ∈ (foldN l ns t).1, p n := by
  induction l with
  | nil => intro ns t hn; simpa [foldN] using hn
  | cons x l ih =>
    intro ns t hn
    rw [foldN]
    split
    · refine ih (fun y hy => h y (by simp [hy])) _ _ (fun n hn2 => ?_)
      rcases List.mem_append.1 hn2 with h2 | h2
      · exact hn n h2
      · rw [List.mem_singleton.1 h2]; exact h x (by simp)
    · exact ih (fun y hy => h y (by simp [hy])) _ _ hn
theorem unsealV_wf {u : List Int} (hb : byteL u) : ∀ x ∈ (unsealV u).1, wfI x := by
  intro x hx
  unfold unsealV at hx
  split at hx
  · rcases decF_tells _ (openL_byteL hb) with h | ⟨m, h, _, _, h3⟩
    · rw [h] at hx; cases hx
    · rw [h] at hx; exact h3 x hx
  · cases hx
theorem docV_open {b : List Int} {kind : Int} (h1 : (unframeL b).2 = 0) (h2 : (unsealV (unframeL b).1).2 = 0) :
    (∃ ns t, docV b kind = (kind, ns, t, 0)) ∨ docV b kind = (0, [], ⟨#[]⟩, 2) := by
  have ho : openV b kind (cnt kind) (decide (kind ≠ 1)) = itemsV b.length (unsealV (unframeL b).1).1 kind (cnt kind) (decide (kind ≠ 1)) := by
    unfold openV
    rw [if_pos h1, if_pos h2]
  rcases docV_form b kind with ⟨ns, t, g, _⟩ | ⟨e, he, g, h⟩
  · exact .inl ⟨ns, t, g⟩
  · right
    rcases h with h | ⟨_, rfl, _⟩
    · rw [ho] at h
      have := items_fail (by rw [h]; exact he)
      rw [this] at h
      rw [g, ← h]
    · exact g
theorem endV_doc {b : List Int} (hb : byteL b) {kind : Int} (h0 : 1 ≤ kind) (h3 : kind ≤ 3) (h1 : (unframeL b).2 = 0) (h2 : (unsealV (unframeL b).1).2 = 0) (x : S77) (l : List S77) (hv : (unsealV (unframeL b).1).1 = x :: l) :
    endV b kind x.f1 (foldN l [] ⟨#[]⟩).1 (foldN l [] ⟨#[]⟩).2 = docV b kind := by
  have hub : byteL (unframeL b).1 := unframeL_byteL hb
  have hwf := unsealV_wf hub
  rw [hv] at hwf
  rcases docV_open (kind := kind) h1 h2 with ⟨ns, t, hd⟩ | hd
  · obtain ⟨_, g2, g3, g4, _, g6⟩ := doc_tells hb hd
    rw [g6] at hv
    have hv2 : (recI (kind :: ns) (txt kind t)) = x :: l := hv
    have hx : x = ⟨1, kind, ⟨#[]⟩⟩ := (List.cons.inj (show (⟨1, kind, ⟨#[]⟩⟩ : S77) :: (numI ns ++ textI (txt kind t)) = x :: l from hv2)).1.symm
    have hl : l = numI ns ++ textI (txt kind t) := (List.cons.inj (show (⟨1, kind, ⟨#[]⟩⟩ : S77) :: (numI ns ++ textI (txt kind t)) = x :: l from hv2)).2.symm
    have hf := foldN_rec ns (txt kind t)
    rw [← hl, (txt_get g2).1] at hf
    rw [hf, hx, hd]
    unfold endV
    have hr : refRightB kind ns t = true := by unfold refRightB; rw [decide_eq_true ⟨h0, h3⟩, Bool.true_and]; exact g2
    rw [if_pos ⟨rfl, hr, g3.symm⟩]
  · rw [hd]
    unfold endV
    rw [if_neg]
    rintro ⟨g1, g2, g3⟩
    have hr : rightB x.f1 (foldN l [] ⟨#[]⟩).1 (foldN l [] ⟨#[]⟩).2 = true := by
      unfold refRightB at g2
      simp only [Bool.and_eq_true] at g2
      exact g2.2
    have hw : ∀ n ∈ x.f1 :: (foldN l [] ⟨#[]⟩).1, wf64 n := by
      intro n hn
      rcases List.mem_cons.1 hn with rfl | hn
      · exact wf64_iff.1 (hwf x (by simp))
      · exact foldN_mem wf64 l (fun y hy => wf64_iff.1 (hwf y (by simp [hy]))) [] _ (fun n hn => by cases hn) n hn
    have := doc_enc _ _ _ hr hw
    rw [g3, g1, hd] at this
    simp only [Prod.mk.injEq] at this
    exact absurd this.2.2.2 (by decide)
theorem recdecode_val (b : List Int) (hb : byteL b) (hl : b.length ≤ 140737488351232) (kind : Int) (h0 : 1 ≤ kind) (h3 : kind ≤ 3) (k : Nat) (hk : b.length + 1000000 ≤ k) : cisternref07_DocDecode.f k (strOfNums b) kind = some (docV b kind) := by
  have hlen := unframeL_len b
  have hub := unframeL_byteL hb
  unfold cisternref07_DocDecode.f
  rw [docunframe_val _ (by rw [size_strOfNums]; omega) k (by rw [size_strOfNums]; omega), bytesOf_strOfNums b hb, Option.bind_some]
  by_cases h1 : (unframeL b).2 = 0
  · rw [if_pos h1, refunpacked_val _ hub (by omega) k (by omega), Option.bind_some]
    by_cases h2 : (unsealV (unframeL b).1).2 = 0
    · rw [if_pos h2]
      have hvl := unsealV_le _ hub
      cases hv : (unsealV (unframeL b).1).1 with
      | nil =>
        obtain ⟨k, rfl⟩ : ∃ m, k = m + 1 := ⟨k - 1, by omega⟩
        simp only [cisternref07_DocDecode.l0]
        rw [if_neg (by simp), if_neg (by omega)]
        rcases docV_open (kind := kind) h1 h2 with ⟨ns, t, hd⟩ | hd
        · obtain ⟨_, _, _, _, _, g6⟩ := doc_tells hb hd
          rw [g6] at hv
          exact absurd hv (by simp [recI, numI])
        · rw [hd]
      | cons x l =>
        have hvl2 : (x :: l).length ≤ 4000 := by rw [← hv]; exact hvl
        have he := endV_doc hb h0 h3 h1 h2 x l hv
        obtain ⟨k, rfl⟩ : ∃ m, k = m + 1 := ⟨k - 1, by omega⟩
        simp only [cisternref07_DocDecode.l0]
        rw [if_pos (by simp), if_pos trivial, if_pos (by simp)]
        have e0 : rd_T77 (x :: l) 0 = x := rfl
        have e1 : wrap64 (0 + 1) = ((1 : Nat) : Int) := by unfold wrap64; omega
        rw [e0, e1, fold_tells b hb kind x.f1 (x :: l) hvl2 l.length k 1 [] ⟨#[]⟩ (by simp; omega) (by omega) (by simp at hvl2; omega) (by simp)]
        exact congrArg some he
    · rw [if_neg h2]
      have ho : openV b kind (cnt kind) (decide (kind ≠ 1)) = ([], ⟨#[]⟩, (unsealV (unframeL b).1).2) := by
        unfold openV
        rw [if_pos h1, if_neg h2]
      unfold docV
      rw [ho, if_neg h2]
  · rw [if_neg h1]
    have ho : openV b kind (cnt kind) (decide (kind ≠ 1)) = ([], ⟨#[]⟩, 2) := by
      unfold openV
      rw [if_neg h1]
    unfold docV
    rw [ho]
    rfl
theorem recsame_tells (k1 k2 : Int) (ns : List Int) (t t2 : ByteArray) (hn : ns.length ≤ 1000) : ∀ (d k i : Nat), i + d = ns.length → d < k → cisternlaw07_same.l0 k (i : Int) k1 ns t k2 ns t2 = some true := by
  intro d
  induction d with
  | zero =>
    intro k i hi hk
    obtain ⟨k, rfl⟩ : ∃ m, k = m + 1 := ⟨k - 1, by omega⟩
    simp only [cisternlaw07_same.l0]
    rw [if_neg (by omega)]
  | succ d ih =>
    intro k i hi hk
    obtain ⟨k, rfl⟩ : ∃ m, k = m + 1 := ⟨k - 1, by omega⟩
    simp only [cisternlaw07_same.l0]
    rw [if_pos (by omega), if_pos (by omega), if_pos (by omega), if_pos trivial, wsuc i (by omega)]
    exact ih k (i + 1) (by omega) (by omega)
theorem recsame_val (kind : Int) (ns : List Int) (t : ByteArray) (hn : ns.length ≤ 1000) (k : Nat) (hk : ns.length + 2 ≤ k) : cisternlaw07_same.f k kind ns t kind ns t = some true := by
  obtain ⟨k, rfl⟩ : ∃ m, k = m + 1 := ⟨k - 1, by omega⟩
  unfold cisternlaw07_same.f
  rw [if_pos rfl, if_pos rfl, show ((ns.length : Int) != (ns.length : Int)) = false by simp]
  simp only [cisternlaw07_same.j0]
  rw [if_neg (by decide)]
  exact recsame_tells kind kind ns t t hn ns.length k 0 (by omega) (by omega)
end
end Go.Proofs.YtmkkeccmjejfnaaDoor.PA
