-- Laid by a program of this work over the seat's translation.
import Derived.Test.YtgjhhbljbnbjkaaDoorPAx0
import Derived.Test.YtgjhhbljbnbjkaaDoorPAx5
import Derived.Test.YtgjhhbljbnbjkaaDoorPAx6
import Derived.Test.YtgjhhbljbnbjkaaDoorPAx11
namespace Go.Proofs.YtgjhhbljbnbjkaaDoor.PA
open Go.RowKit Go.Proofs.YtgjhhbljbnbjkaaDoorW.PrintWords Go.Proofs.YtgjhhbljbnbjkaaDoorW.PrintLast Go.Proofs.YtgjhhbljbnbjkaaDoorW.PrintMore
attribute [local go_sem] max2_int min2_int max_two min_two max_three min_three max_four min_four   -- for this text's walks alone
set_option linter.unusedVariables false
set_option linter.unusedSimpArgs false

/-! ### pack_Unframe: function 10 (by hand) -/
/-! ### Cuts of a row of bytes, the new row under a name of its own -/
theorem cutD (A : Option Addr) (c : Nat) (l : List Int) (j : Int) (n : Nat) (hj : j = (n : Int)) (hn : n ≤ l.length) (hc : l.length ≤ c) :
    ∃ (d : List Int) (A' : Option Addr) (c' : Nat), Aside0 (d = l.drop n) ∧ (∀ W : World, (Instr.slice 22 (.slice A l.length c) (some (.int .i64 j)) none none).run Tryd.prog W = .ok (.slice A' d.length c') W) ∧
      Aside0 (∀ w : World, Kd.C (Kd.int .u8) w A l.length l → Kd.C (Kd.int .u8) w A' d.length d) ∧ Aside0 (d.length ≤ c') := by
  subst hj
  obtain ⟨i1, hi1, _, hsz1, _⟩ := info_parts info5
  obtain ⟨A', h1, h2, h3⟩ := print_drop_of (P := Tryd.prog) (Value.int .u8) 0 22 5 .i64 Tryd.underlying22 hi1 hsz1 A c l (n : Int) (by omega) (by omega) hc
  rw [Int.toNat_natCast] at h1 h2 h3
  exact ⟨_, A', _, ⟨rfl⟩, h1, ⟨fun w h => Kd.C_of_reads (h1 := fun _ => rfl) (h2 _ (Kd.reads_of_C (d := (0 : Int)) h))⟩, ⟨h3⟩⟩
theorem cutT (A : Option Addr) (c : Nat) (l : List Int) (j : Int) (n : Nat) (hj : j = (n : Int)) (hn : n ≤ l.length) (hc : l.length ≤ c) :
    ∃ (d : List Int), Aside0 (d = l.take n) ∧ (∀ W : World, (Instr.slice 22 (.slice A l.length c) none (some (.int .i64 j)) none).run Tryd.prog W = .ok (.slice A d.length c) W) ∧
      Aside0 (∀ w : World, Kd.C (Kd.int .u8) w A l.length l → Kd.C (Kd.int .u8) w A d.length d) ∧ Aside0 (d.length ≤ c) := by
  subst hj
  obtain ⟨i1, hi1, _, hsz1, _⟩ := info_parts info5
  obtain ⟨h1, h2, h3⟩ := print_take_of (P := Tryd.prog) (Value.int .u8) 0 22 5 .i64 Tryd.underlying22 hi1 hsz1 A c l (n : Int) (by omega) (by omega) hc
  rw [Int.toNat_natCast] at h1 h2 h3
  exact ⟨_, ⟨rfl⟩, h1, ⟨fun w h => Kd.C_of_reads (h1 := fun _ => rfl) (h2 _ (Kd.reads_of_C (d := (0 : Int)) h))⟩, ⟨h3⟩⟩
theorem cutM (A : Option Addr) (c : Nat) (l : List Int) (j k : Int) (n m : Nat) (hj : j = (n : Int)) (hk : k = (m : Int)) (hnm : n ≤ m) (hm : m ≤ l.length) (hc : l.length ≤ c) :
    ∃ (d : List Int) (A' : Option Addr) (c' : Nat), Aside0 (d = (l.take m).drop n) ∧ (∀ W : World, (Instr.slice 22 (.slice A l.length c) (some (.int .i64 j)) (some (.int .i64 k)) none).run Tryd.prog W = .ok (.slice A' d.length c') W) ∧
      Aside0 (∀ w : World, Kd.C (Kd.int .u8) w A l.length l → Kd.C (Kd.int .u8) w A' d.length d) ∧ Aside0 (d.length ≤ c') := by
  subst hj
  subst hk
  obtain ⟨i1, hi1, _, hsz1, _⟩ := info_parts info5
  obtain ⟨A', h1, h2, h3⟩ := print_mid_of (P := Tryd.prog) (Value.int .u8) 0 22 5 .i64 .i64 Tryd.underlying22 hi1 hsz1 A c l (n : Int) (m : Int) (by omega) (by omega) (by omega) hc
  rw [Int.toNat_natCast, Int.toNat_natCast] at h1 h2 h3
  exact ⟨_, A', _, ⟨rfl⟩, h1, ⟨fun w h => Kd.C_of_reads (h1 := fun _ => rfl) (h2 _ (Kd.reads_of_C (d := (0 : Int)) h))⟩, ⟨h3⟩⟩

/-! ### Unframe -/
def unframeL (l : List Int) : List Int × Int :=
  if l.length < 2 ∨ 60000 < l.length then ([], 2) else
  if ((l.length : Int) - 2 < getV (l.take 2)) ∨ someB (l.drop (2 + (getV (l.take 2)).toNat)) = true then ([], 2) else ((l.drop 2).take (getV (l.take 2)).toNat, 0)
def pack_Unframe.f (l0 : List Int) : Option (List Int × Int) := if byteB l0 = true ∧ l0.length ≤ 140737488355328 then some (unframeL l0) else none
set_option maxHeartbeats 2000000 in
set_option maxRecDepth 100000 in
theorem pack_Unframe.calls (A0 : Option Addr) (c0 : Nat) (l0 : List Int) (r1 : List Int) (r2 : Int) (w : World) (hr0 : Kd.C (Kd.int .u8) w A0 l0.length l0) (hc0 : l0.length ≤ c0) (h : pack_Unframe.f l0 = some (r1, r2)) :
    Calls Tryd.prog 10 #[.slice A0 l0.length c0] w fun e w' => ∃ v0_ : Value, e = .returned (.tuple #[v0_, .int .i64 r2]) ∧ Kd.R (Kd.int .u8) 5 w' w.heap.size (fun _ => True) v0_ r1 ∧ Below w.heap.size w w' := by
  unfold pack_Unframe.f at h
  split at h
  · rename_i hh
    obtain ⟨hb, hl⟩ := hh
    have h := Option.some.inj h
    have hby := byteB_iff.1 hb
    clear hb
    unfold unframeL at h
    by_cases h1 : l0.length < 2
    · rw [if_pos (.inl h1)] at h
      simp only [Prod.mk.injEq] at h
      obtain ⟨rfl, rfl⟩ := h
      have d1 : decide ((l0.length : Int) < 2) = true := decide_eq_true (by omega)
      clear hr0 hc0
      go_enter Tryd.func10, Tryd.ntmps10
      go_wp2_with fail
      go_ret2
      exact ⟨_, rfl, Kd.R_nil _ _ _ _ _, Below.refl _ _⟩
    have d1 : decide ((l0.length : Int) < 2) = false := decide_eq_false (by omega)
    by_cases h2 : 60000 < l0.length
    · rw [if_pos (.inr h2)] at h
      simp only [Prod.mk.injEq] at h
      obtain ⟨rfl, rfl⟩ := h
      have d2 : decide ((60000 : Int) < (l0.length : Int)) = true := decide_eq_true (by omega)
      clear hr0 hc0
      go_enter Tryd.func10, Tryd.ntmps10
      go_wp2_with fail
      go_ret2
      exact ⟨_, rfl, Kd.R_nil _ _ _ _ _, Below.refl _ _⟩
    have d2 : decide ((60000 : Int) < (l0.length : Int)) = false := decide_eq_false (by omega)
    rw [if_neg (by omega)] at h
    have HR := Aside0.mk hr0
    have HC := Aside0.mk hc0
    obtain ⟨t2, T2, hcut, TC, TL⟩ := cutT A0 c0 l0 2 2 rfl (by omega) hc0
    have hby2 : byteL t2 := by rw [T2.out]; exact byteL_take hby 2
    have hl2 : t2.length = 2 := by rw [T2.out, List.length_take]; omega
    have G := Aside0.mk (get_val t2 hby2 (by omega))
    have hg := getV_range t2 hby2
    rw [hl2] at hg
    rw [← T2.out] at h
    obtain ⟨n, hn⟩ : ∃ n : Nat, getV t2 = (n : Int) := ⟨(getV t2).toNat, by omega⟩
    rw [hn, Int.toNat_natCast] at h
    rw [hn] at G hg
    have hn6 : n ≤ 65535 := by omega
    have hw : IntKind.i64.wrap (n : Int) = (n : Int) := IntWalk.i64_in _ (by omega)
    have hlo : 2 ≤ l0.length := by omega
    have hhi : l0.length ≤ 60000 := by omega
    have HB := Aside0.mk hby
    clear hn hg hl2 hby2 hby hr0 hc0 h1 h2 hl
    by_cases h3 : (l0.length : Int) - 2 < (n : Int)
    · rw [if_pos (.inl h3)] at h
      simp only [Prod.mk.injEq] at h
      obtain ⟨rfl, rfl⟩ := h
      go_enter Tryd.func10, Tryd.ntmps10
      go_wp2_with fail
      refine (pack_get.calls 10 A0 c0 t2 _ w (TC.out _ HR.out) TL.out G.out).mono ?_
      rintro e w' ⟨rfl, hd⟩
      have HD := Aside0.mk hd.below
      clear hd
      go_wp2_with fail
      go_ret2
      exact ⟨_, rfl, Kd.R_nil _ _ _ _ _, HD.out⟩
    · have h4 : ¬ ((l0.length : Int) - 2 < (n : Int)) := h3
      have hnl : 2 + n ≤ l0.length := by omega
      obtain ⟨ld, Ad, cd, LD, hcd, DC, DL⟩ := cutD A0 c0 l0 (2 + (n : Int)) (2 + n) (by omega) hnl HC.out
      rw [← LD.out] at h
      have d4 : decide ((l0.length : Int) - 2 < (n : Int)) = false := decide_eq_false h3
      have DH : Aside0 (ld.length ≤ 140737488355328) := ⟨by rw [LD.out, List.length_drop]; omega⟩
      by_cases h5 : someB ld = true
      · rw [if_pos (.inr h5)] at h
        simp only [Prod.mk.injEq] at h
        obtain ⟨rfl, rfl⟩ := h
        have S5 := Aside0.mk h5
        clear h5 h4 h3
        go_enter Tryd.func10, Tryd.ntmps10
        go_wp2_with fail
        refine (pack_get.calls 10 A0 c0 t2 _ w (TC.out _ HR.out) TL.out G.out).mono ?_
        rintro e w1 ⟨rfl, hd⟩
        have HD := Aside0.mk hd.below
        clear hd
        go_wp2_with fail
        refine (trimW Ad cd ld w1 (DC.out _ (Kd.C_below HR.out HD.out)) DL.out DH.out).mono ?_
        rintro e w2 ⟨A', m, c', rfl, hm, hB⟩
        rw [S5.out] at hm
        have H2 := Aside0.mk (HD.out.trans (hB.mono HD.out.size))
        clear hB
        go_wp2_with fail
        go_ret2
        exact ⟨_, rfl, Kd.R_nil _ _ _ _ _, H2.out⟩
      · have h5' : someB ld = false := by simpa using h5
        rw [if_neg (by rw [h5']; simp; omega)] at h
        simp only [Prod.mk.injEq] at h
        obtain ⟨h6, rfl⟩ := h
        obtain ⟨lm, Am, cm, LM, hcm, MC, ML⟩ := cutM A0 c0 l0 2 (2 + (n : Int)) 2 (2 + n) rfl (by omega) (by omega) hnl HC.out
        have h7 : lm = r1 := by rw [LM.out, ← h6, List.drop_take]; congr 1; omega
        subst h7
        have MH : Aside0 (bytes_Clone.f lm = some lm) := ⟨by rw [bytes_Clone.f, if_pos]; rw [← h6, List.length_take]; omega⟩
        have S5 := Aside0.mk h5'
        clear h5 h5' h4 h3 h6
        go_enter Tryd.func10, Tryd.ntmps10
        go_wp2_with fail
        refine (pack_get.calls 10 A0 c0 t2 _ w (TC.out _ HR.out) TL.out G.out).mono ?_
        rintro e w1 ⟨rfl, hd⟩
        have HD := Aside0.mk hd.below
        clear hd
        go_wp2_with fail
        refine (trimW Ad cd ld w1 (DC.out _ (Kd.C_below HR.out HD.out)) DL.out DH.out).mono ?_
        rintro e w2 ⟨A', m, c', rfl, hm, hB⟩
        rw [S5.out] at hm
        have H2 := Aside0.mk (HD.out.trans (hB.mono HD.out.size))
        clear hB
        go_wp2_with fail
        refine (bytes_Clone.calls Am cm lm lm w2 (MC.out _ (Kd.C_below HR.out H2.out)) ML.out MH.out).mono ?_
        rintro e w3 ⟨v, rfl, hR, hB⟩
        have HR3 := Aside0.mk (Kd.R_lower hR H2.out.size)
        have H3 := Aside0.mk (H2.out.trans (hB.mono H2.out.size))
        clear hR hB
        go_wp2_with fail
        go_ret2
        exact ⟨_, rfl, HR3.out, H3.out⟩
  · cases h


end Go.Proofs.YtgjhhbljbnbjkaaDoor.PA
