-- Laid by a program of this work over the seat's translation.
import Derived.Test.YtgjhhbljbnbjkaaDoorPAx0
import Derived.Test.YtgjhhbljbnbjkaaDoorPAx10
namespace Go.Proofs.YtgjhhbljbnbjkaaDoor.PA
open Go.RowKit Go.Proofs.YtgjhhbljbnbjkaaDoorW.PrintWords Go.Proofs.YtgjhhbljbnbjkaaDoorW.PrintLast Go.Proofs.YtgjhhbljbnbjkaaDoorW.PrintMore
attribute [local go_sem] max2_int min2_int max_two min_two max_three min_three max_four min_four   -- for this text's walks alone
set_option linter.unusedVariables false
set_option linter.unusedSimpArgs false

/-! ### bytes_Trim: function 20 (by hand) -/
/-! ### bytes.Trim at noughts: how much is left -/
def someB (l : List Int) : Bool := l.any (fun x => x != 0)
def lenV : Value → Nat
  | .slice _ n _ => n
  | _ => 0
set_option maxHeartbeats 4000000 in
set_option maxRecDepth 100000 in
theorem trimLeftW (A0 : Option Addr) (c0 : Nat) (l0 : List Int) (w : World) (hr0 : Kd.C (Kd.int .u8) w A0 l0.length l0) (hc0 : l0.length ≤ c0) (hl : l0.length ≤ 140737488355328) :
    Calls Tryd.prog 24 #[.slice A0 l0.length c0, .int .u8 0] w fun e w' => ∃ A' m c', e = .returned (.slice A' m c') ∧ decide (0 < m) = someB l0 ∧ Below w.heap.size w w' := by
  have R0 := Aside0.mk hr0
  have C0 := Aside0.mk hc0
  have HL := Aside0.mk hl
  clear hr0 hc0 hl
  go_enter Tryd.func24, Tryd.ntmps24
  go_wp2_with fail
  go_loopw [0] (fun v0 w' => ∃ (xs : List Int) (A : Option Addr) (c : Nat), v0 = .slice A xs.length c ∧ Aside0 (xs.length ≤ c) ∧ Aside0 (Kd.C (Kd.int .u8) w' A xs.length xs) ∧ Aside0 (someB l0 = someB xs) ∧ Aside0 (xs.length ≤ l0.length) ∧ Aside0 (Below w.heap.size w w')) (fun v0 _ => lenV v0)
  case atStart => exact ⟨l0, A0, c0, rfl, C0, R0, ⟨rfl⟩, ⟨Nat.le_refl _⟩, ⟨Below.refl _ _⟩⟩
  case round =>
    obtain ⟨xs, A, c, rfl, XC, XR, XS, XL, XB⟩ := hrel
    match xs, XC, XR, XS, XL with
    | [], XC, XR, XS, XL =>
      go_wp2_with fail
      go_ret
      exact ⟨_, _, _, rfl, by rw [XS.out]; rfl, XB.out⟩
    | x :: t, XC, XR, XS, XL =>
      have p1 : (0 : Int) < ((x :: t).length : Int) := by rw [List.length_cons]; omega
      obtain ⟨i1, hi1, _, hsz1, _⟩ := info_parts info5
      obtain ⟨A1, hcut1, hA1, hC1⟩ := print_drop_of (P := Tryd.prog) (Value.int .u8) 0 22 5 .i64 Tryd.underlying22 hi1 hsz1 A c (x :: t) 1 (by omega) (by omega) XC.out
      obtain ⟨ad, e, hx⟩ := Kd.at_int XR.out 0 (by omega) (by omega)
      cases e
      have e0 : rd (x :: t) 0 = x := rfl
      have e1 : ad.add (0 : Int).toNat = ad := by unfold Addr.add; simp
      rw [e0, e1] at hx
      have HR1 := Aside0.mk (Kd.C_of_reads (h1 := fun _ => rfl) (hA1 _ (Kd.reads_of_C (d := (0 : Int)) XR.out)))
      have HC1 := Aside0.mk hC1
      obtain ⟨n, hn⟩ : ∃ n, n = (x :: t).length := ⟨_, rfl⟩
      have hN := Aside0.mk hn
      have hn1 : t.length + 1 = n := by rw [hn]; rfl
      have ht : ((x :: t).drop (1 : Int).toNat).length = t.length := rfl
      rw [ht] at hcut1
      rw [← hn] at hcut1 p1 ⊢
      clear hA1 hC1 hn ht e0 e1
      have d1 : decide (0 < (n : Int)) = true := decide_eq_true p1
      have d2 : ((n : Int) == 0) = false := beq_eq_false_iff_ne.2 (by omega)
      have N1 := Aside0.mk hn1
      by_cases h0 : x = 0
      · have b0 : (x == 0) = true := by rw [h0]; rfl
        have X0 := Aside0.mk h0
        clear h0
        clear hn1
        go_wp2_with fail
        refine ⟨⟨t, A1, c - 1, rfl, ⟨HC1.out⟩, ⟨HR1.out⟩, ⟨?_⟩, ⟨?_⟩, XB⟩, ?_⟩
        · rw [XS.out, X0.out]
          unfold someB
          simp
        · have := XL.out
          simp at this
          omega
        · show t.length < n
          have := N1.out
          omega
      · have b0 : (x == 0) = false := by simpa using h0
        have XE : Aside0 (someB l0 = true) := ⟨by rw [XS.out]; unfold someB; simp [h0]⟩
        clear h0 hn1
        go_wp2_with fail
        go_ret
        exact ⟨_, _, _, rfl, by rw [XE.out]; exact decide_eq_true (by have := N1.out; omega), XB.out⟩
def trimmed (l : List Int) (r : List Int) : Prop := r.length ≤ l.length ∧ someB r = someB l
theorem trimR_tells (l : List Int) (hl : l.length ≤ 140737488355328) : ∀ (n k : Nat), n ≤ l.length → n < k → ∃ r, bytes_trimRightByte.l0 k (l.take n) 0 = some r ∧ r.length ≤ n ∧ someB r = someB (l.take n) := by
  intro n
  induction n with
  | zero =>
    intro k _ hk
    obtain ⟨k, rfl⟩ : ∃ m, k = m + 1 := ⟨k - 1, by omega⟩
    simp only [bytes_trimRightByte.l0]
    rw [List.take_zero, if_neg (by simp)]
    exact ⟨[], rfl, Nat.le_refl _, rfl⟩
  | succ n ih =>
    intro k hn hk
    obtain ⟨k, rfl⟩ : ∃ m, k = m + 1 := ⟨k - 1, by omega⟩
    have hlen : (l.take (n + 1)).length = n + 1 := by simp; omega
    have hw : wrap64 (((l.take (n + 1)).length : Int) - 1) = (n : Int) := by rw [hlen]; unfold wrap64; omega
    have hr : rd (l.take (n + 1)) (n : Int) = l[n] := by
      unfold rd
      rw [Int.toNat_natCast, List.getD_eq_getElem?_getD, List.getElem?_eq_getElem (by omega), Option.getD_some, List.getElem_take]
    have ht : l.take (n + 1) = l.take n ++ [l[n]] := List.take_succ_eq_append_getElem (by omega)
    simp only [bytes_trimRightByte.l0]
    rw [hw, hr, if_pos (by omega), if_pos (by omega), if_pos (by omega)]
    by_cases h0 : l[n] = 0
    · rw [if_pos h0, if_pos (by omega), Int.toNat_natCast, List.take_take, Nat.min_eq_left (by omega)]
      obtain ⟨r, e, h1, h2⟩ := ih k (by omega) (by omega)
      refine ⟨r, e, by omega, ?_⟩
      rw [h2, ht, h0]
      simp [someB]
    · rw [if_neg h0]
      exact ⟨_, rfl, by omega, rfl⟩
theorem trimR_val (l : List Int) (hl : l.length ≤ 140737488355328) : ∃ r, bytes_trimRightByte.f (l.length + 1) l 0 = some r ∧ r.length ≤ l.length ∧ someB r = someB l := by
  have h := trimR_tells l hl l.length (l.length + 1) (Nat.le_refl _) (by omega)
  rw [List.take_length] at h
  exact h
set_option maxHeartbeats 4000000 in
set_option maxRecDepth 100000 in
theorem trimW (A0 : Option Addr) (c0 : Nat) (l0 : List Int) (w : World) (hr0 : Kd.C (Kd.int .u8) w A0 l0.length l0) (hc0 : l0.length ≤ c0) (hl : l0.length ≤ 140737488355328) :
    Calls Tryd.prog 20 #[.slice A0 l0.length c0, .string ⟨#[0]⟩] w fun e w' => ∃ A' m c', e = .returned (.slice A' m c') ∧ decide (0 < m) = someB l0 ∧ Below w.heap.size w w' := by
  by_cases h0 : l0.length = 0
  · obtain rfl := List.length_eq_zero_iff.1 h0
    clear h0
    go_enter Tryd.func20, Tryd.ntmps20
    go_wp2_with fail
    go_ret
    exact ⟨_, _, _, rfl, rfl, Below.refl _ _⟩
  · obtain ⟨r, e1, h1, h2⟩ := trimR_val l0 hl
    have TR := fun (W : World) (hb : Below w.heap.size w W) => Aside0.mk (bytes_trimRightByte.calls (l0.length + 1) (fun k => k < W.heap.size) A0 c0 l0 0 r W (Kd.V_mk hc0 (Kd.C_F (Kd.heap_int .u8) (Kd.C_below hr0 hb))) e1)
    have RL := Aside0.mk (Nat.le_trans h1 hl)
    have RS := Aside0.mk h2
    have d1 : ((l0.length : Int) == 0) = false := beq_eq_false_iff_ne.2 (by omega)
    clear e1 h1 h2 h0 hr0 hc0 hl
    go_enter Tryd.func20, Tryd.ntmps20
    go_wp2_with fail
    · have z0 : ((⟨#[0]⟩ : ByteArray)[0]'(by decide)) = (0 : UInt8) := rfl
      go_region_held (fun _ => True) (first | exact trivial | fail)
        (first
          | (go_at_call 25; refine (TR _ (Below.drew (Below.refl _ _))).out.mono ?_; rintro e w1 ⟨v, rfl, hV, hB⟩; obtain ⟨A1, c1, rfl⟩ := Kd.V_slice hV; obtain ⟨q1, q2, q3⟩ := Kd.V_reads' hV; have BB := Aside0.mk (Below.trans (Below.drew (Below.refl _ w)) (hB.mono (Nat.le_refl _))); have RC := Aside0.mk q3; have CC := Aside0.mk q2; clear q1 q2 q3 hV hB)
          | (go_at_call 24; refine (trimLeftW A1 c1 r _ RC.out CC.out RL.out).mono ?_; rintro e w2 ⟨A2, m, c2, rfl, hm, hB⟩; have BC := Aside0.mk (BB.out.trans (hB.mono BB.out.size)); have HM := Aside0.mk hm; clear hB hm)
          | fail)
      all_goals
        go_wp2
        go_ret
        exact ⟨_, _, _, rfl, by rw [HM.out, RS.out], BC.out⟩


end Go.Proofs.YtgjhhbljbnbjkaaDoor.PA
