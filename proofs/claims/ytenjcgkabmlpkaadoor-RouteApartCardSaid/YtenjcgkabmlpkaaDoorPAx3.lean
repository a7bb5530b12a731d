-- Laid by a program of this work over the seat's translation.
import Derived.Test.YtenjcgkabmlpkaaDoorPAx0
import Derived.Test.YtenjcgkabmlpkaaDoorPAx2
namespace Go.Proofs.YtenjcgkabmlpkaaDoor.PA
open Go.RowKit Go.Proofs.YtenjcgkabmlpkaaDoorW.PrintWords Go.Proofs.YtenjcgkabmlpkaaDoorW.PrintLast Go.Proofs.YtenjcgkabmlpkaaDoorW.PrintMore
attribute [local go_sem] max2_int min2_int max_two min_two max_three min_three max_four min_four   -- for this text's walks alone
set_option linter.unusedVariables false
set_option linter.unusedSimpArgs false

/-! ### route_right: function 24 (by hand) -/
theorem route_right1W (s : ByteArray) (w : World) : Calls Tryd.prog 34 #[.string s] w fun e w' => e = .returned (.bool (!nameB s)) ∧ Below w.heap.size w w' := by
  have hN := fun W => Aside0.mk (route_Name.calls s (nameB s) W rfl)
  go_enter Tryd.func34, Tryd.ntmps34
  go_wp2_with (first | (go_at_call 15; refine (hN _).out.mono ?_; rintro e w' ⟨rfl, hb⟩) | fail)
  go_ret
  exact ⟨rfl, hb⟩
set_option maxHeartbeats 4000000 in
set_option maxRecDepth 100000 in
theorem slices_IndexFunc_right (A0 : Option Addr) (c0 : Nat) (l0 : List ByteArray) (w : World) (hr0 : Kd.C Kd.string w A0 l0.length l0) (hc0 : l0.length ≤ c0) (hl : l0.length ≤ 9223372036854775807) :
    Calls Tryd.prog 44 #[.slice A0 l0.length c0, .func (.func 34) #[] #[]] w fun e w' => (∃ j : Int, e = .returned (.int .i64 j) ∧ decide (0 ≤ j) = l0.any (fun s => !nameB s)) ∧ Below w.heap.size w w' := by
  have R0 := Aside0.mk hr0
  have hN := fun s W => Aside0.mk (route_right1W s W)
  have HL := Aside0.mk hl
  clear hr0 hc0
  have eg : ∀ args w, (callFunc 34 args).run Tryd.prog w = .ok (.enter 34 args) w := enters_of Tryd.func34 (by kernel_rfl) rfl
  go_enter Tryd.func44, Tryd.ntmps44
  go_wp2_with fail
  go_loopw [8] (fun v8 w' => ∃ k : Nat, k ≤ l0.length ∧ v8 = .int .i64 (k : Int) ∧ Aside0 ((l0.take k).any (fun s => !nameB s) = false) ∧ Aside0 (Below w.heap.size w w')) (fun v8 _ => (l0.length - intOf v8).toNat)
  case atStart => exact ⟨0, by omega, rfl, ⟨by simp⟩, ⟨Below.refl _ _⟩⟩
  case round =>
    obtain ⟨k, hk, rfl, HA, HB⟩ := hrel
    by_cases h : k < l0.length
    · have p1 : (0 : Int) ≤ (k : Int) := by omega
      have q1 : (k : Int) < (l0.length : Int) := by omega
      obtain ⟨ad, e, hx⟩ := Kd.at_string (Kd.C_below R0.out HB.out) (k : Int) p1 q1
      cases e
      obtain ⟨x, hxx⟩ : ∃ x, x = rdOf ByteArray.empty l0 (k : Int) := ⟨_, rfl⟩
      have hg : l0[k] = x := by rw [hxx]; unfold rdOf; simp [List.getD_eq_getElem?_getD, h]
      rw [← hxx] at hx
      have HX := Aside0.mk hg
      clear hxx hg
      have HN := Aside0.mk (hN x)
      clear hN
      rw [Int.toNat_natCast] at hx
      have HK : Aside0 (l0.take (k + 1) = l0.take k ++ [x]) := ⟨by rw [List.take_succ_eq_append_getElem h, HX.out]⟩
      have HAn : Aside0 (nameB x = false → l0.any (fun s => !nameB s) = true) := ⟨fun hf => List.any_eq_true.2 ⟨x, by rw [← HX.out]; exact List.getElem_mem h, by rw [hf]; rfl⟩⟩
      clear HX
      cases hb : nameB x
      · rw [hb] at HN HAn
        go_wp2_with (first | (go_at_call 34; refine (HN.out _).out.mono ?_; rintro e w' ⟨rfl, hbb⟩) | fail)
        have BW := Aside0.mk (HB.out.trans (hbb.mono HB.out.size))
        clear hbb
        go_wp2
        go_ret
        exact ⟨⟨(k : Int), rfl, by rw [HAn.out (by first | trivial | rfl)]; simp⟩, BW.out⟩
      · rw [hb] at HN
        go_wp2_with (first | (go_at_call 34; refine (HN.out _).out.mono ?_; rintro e w' ⟨rfl, hbb⟩) | fail)
        have BW := Aside0.mk (HB.out.trans (hbb.mono HB.out.size))
        clear hbb
        go_wp2
        go_roundw
        case rel => exact ⟨k + 1, by omega, by first | rfl | go_num, ⟨by rw [HK.out, List.any_append, HA.out]; simp [hb]⟩, BW⟩
        case measure => simp [intOf]; omega
    · have hd : decide ((k : Int) < (l0.length : Int)) = false := decide_eq_false (by omega)
      have HE : Aside0 (l0.take k = l0) := ⟨List.take_of_length_le (by omega)⟩
      go_wp2
      go_ret
      exact ⟨⟨-1, rfl, by have := HA.out; rw [HE.out] at this; rw [this]; rfl⟩, HB.out⟩
theorem slices_ContainsFunc_right (A0 : Option Addr) (c0 : Nat) (l0 : List ByteArray) (w : World) (hr0 : Kd.C Kd.string w A0 l0.length l0) (hc0 : l0.length ≤ c0) (hl : l0.length ≤ 9223372036854775807) :
    Calls Tryd.prog 33 #[.slice A0 l0.length c0, .func (.func 34) #[] #[]] w fun e w' => e = .returned (.bool (l0.any (fun s => !nameB s))) ∧ Below w.heap.size w w' := by
  have hI := Aside0.mk (slices_IndexFunc_right A0 c0 l0 w hr0 hc0 hl)
  clear hr0 hc0 hl
  go_enter Tryd.func33, Tryd.ntmps33
  go_wp2_with (first | (go_at_call 44; refine hI.out.mono ?_; rintro e w' ⟨⟨j, rfl, hj⟩, hb⟩) | fail)
  go_ret
  exact ⟨by rw [← hj]; simp, hb⟩
def rightB (l : List ByteArray) : Bool := decide (l.length ≤ 10) && l.all nameB
theorem rightB_eq (l : List ByteArray) : rightB l = (decide (l.length ≤ 10) && !(l.any (fun s => !nameB s))) := by
  unfold rightB
  congr 1
  induction l with
  | nil => rfl
  | cons x l ih => simp [ih]
def route_right.f (l0 : List ByteArray) : Option Bool := some (rightB l0)
set_option maxHeartbeats 4000000 in
theorem route_right.calls (A0 : Option Addr) (c0 : Nat) (l0 : List ByteArray) (r : Bool) (w : World) (hr0 : Kd.C Kd.string w A0 l0.length l0) (hc0 : l0.length ≤ c0) (h : route_right.f l0 = some r) :
    Calls Tryd.prog 24 #[.slice A0 l0.length c0] w fun e w' => e = .returned (.bool r) ∧ Below w.heap.size w w' := by
  obtain rfl := Option.some.inj h
  clear h
  rw [rightB_eq]
  by_cases h : l0.length ≤ 10
  · have hI := Aside0.mk (slices_ContainsFunc_right A0 c0 l0 w hr0 hc0 (by omega))
    have hd : decide ((l0.length : Int) ≤ 10) = true := decide_eq_true (by omega)
    rw [decide_eq_true h]
    clear hr0 hc0
    go_enter Tryd.func24, Tryd.ntmps24
    go_wp2_with (first | (go_at_call 33; refine hI.out.mono ?_; rintro e w' ⟨rfl, hb⟩) | fail)
    go_ret
    exact ⟨by simp, hb⟩
  · have hd : decide ((l0.length : Int) ≤ 10) = false := decide_eq_false (by omega)
    rw [decide_eq_false h]
    clear hr0 hc0
    go_enter Tryd.func24, Tryd.ntmps24
    go_wp2_with fail
    go_ret
    exact ⟨by simp, Below.refl _ _⟩


end Go.Proofs.YtenjcgkabmlpkaaDoor.PA
