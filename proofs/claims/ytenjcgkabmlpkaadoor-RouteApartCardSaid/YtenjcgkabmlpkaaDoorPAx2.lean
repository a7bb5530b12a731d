-- Laid by a program of this work over the seat's translation.
import Derived.Test.YtenjcgkabmlpkaaDoorPAx0
namespace Go.Proofs.YtenjcgkabmlpkaaDoor.PA
open Go.RowKit Go.Proofs.YtenjcgkabmlpkaaDoorW.PrintWords Go.Proofs.YtenjcgkabmlpkaaDoorW.PrintLast Go.Proofs.YtenjcgkabmlpkaaDoorW.PrintMore
attribute [local go_sem] max2_int min2_int max_two min_two max_three min_three max_four min_four   -- for this text's walks alone
set_option linter.unusedVariables false
set_option linter.unusedSimpArgs false

/-! ### route_Name: function 15 (by hand) -/
/-! ### Names -/
def okc (b : UInt8) : Bool := decide (33 ≤ b.toNat) && decide (b.toNat ≤ 126) && !(decide (b.toNat = 47))
def nameB (s : ByteArray) : Bool := decide (1 ≤ s.size) && decide (s.size ≤ 16) && !(decide (s.data.toList = [46])) && !(decide (s.data.toList = [46, 46])) && s.data.toList.all okc
def oddP (r : Nat) : Bool := decide (r < 33) || decide (126 < r) || decide (r = 47)
theorem decodeN_high (n b0 b1 b2 b3 : Nat) (h : 128 ≤ b0) : 128 ≤ (Lib.decodeN n b0 b1 b2 b3).1 := by
  unfold Lib.decodeN
  repeat' split
  all_goals simp_all
  all_goals omega
theorem oddP_low (b : UInt8) (h : b.toNat < 128) : oddP b.toNat = !okc b := by
  unfold oddP okc
  by_cases h1 : b.toNat < 33 <;> by_cases h2 : 126 < b.toNat <;> by_cases h3 : b.toNat = 47 <;> simp [h1, h2, h3] <;> (try omega)
theorem oddP_high (r : Nat) (h : 128 ≤ r) : oddP r = true := by
  unfold oddP
  simp
  omega
theorem okc_high (b : UInt8) (h : 128 ≤ b.toNat) : okc b = false := by
  unfold okc
  simp
  omega
theorem idx_odd (s : ByteArray) : ∀ (f pos : Nat), s.size ≤ pos + f → (Lib.idxFuncFrom oddP true s f pos < 0 ↔ (s.data.toList.drop pos).all okc = true) := by
  have hsz : s.data.toList.length = s.size := by simp
  intro f
  induction f with
  | zero =>
    intro pos h
    rw [List.drop_eq_nil_of_le (by omega)]
    simp [Lib.idxFuncFrom]
  | succ f ih =>
    intro pos h
    unfold Lib.idxFuncFrom
    by_cases hp : pos < s.size
    · rw [if_pos hp, List.drop_eq_getElem_cons (by omega), List.all_cons]
      have hd := Lib.decode_N s pos
      rw [List.getD_eq_getElem?_getD, List.getElem?_eq_getElem (show pos < s.data.toList.length by omega), Option.getD_some] at hd
      generalize s.data.toList[pos] = b at hd ⊢
      have hb := UInt8.toNat_lt b
      by_cases h1 : b.toNat < 128
      · rw [Lib.decodeN_ascii _ _ _ _ _ h1] at hd
        rw [hd]
        simp only
        rw [oddP_low b h1]
        by_cases ho : okc b = true
        · rw [ho, if_neg (by simp), ih (pos + 1) (by omega)]
          simp
        · have : okc b = false := by simpa using ho
          rw [this, if_pos (by simp)]
          simp
      · rw [hd, if_pos (oddP_high _ (decodeN_high _ _ _ _ _ (by omega))), okc_high b (by omega)]
        simp
    · rw [if_neg hp, List.drop_eq_nil_of_le (by omega)]
      simp
theorem idx_name (s : ByteArray) : (decide (Lib.idxFunc oddP true s < 0)) = s.data.toList.all okc := by
  have h := idx_odd s s.size 0 (by omega)
  rw [List.drop_zero] at h
  unfold Lib.idxFunc
  by_cases h1 : s.data.toList.all okc = true
  · rw [h1, decide_eq_true (h.2 h1)]
  · have h2 : s.data.toList.all okc = false := by simpa using h1
    rw [h2, decide_eq_false (fun hh => h1 (h.1 hh))]
set_option maxHeartbeats 2000000 in
theorem route_Name_odd (w : World) : PredAt Tryd.prog 27 #[] encR oddP w := fun W r _ => by
  unfold FnGives
  by_cases h1 : r < 33 <;> by_cases h2 : 126 < r <;> by_cases h3 : r = 47
  all_goals
    first
      | (exfalso; omega)
      | (have z1 : ((r : Int) < 33) ↔ r < 33 := by omega
         have z2 : ((126 : Int) < (r : Int)) ↔ 126 < r := by omega
         have z3 : ((r : Int) == 47) = decide (r = 47) := by
           by_cases h : r = 47
           · subst h; rfl
           · rw [decide_eq_false h, beq_eq_false_iff_ne]; omega
         go_enter Tryd.func27, Tryd.ntmps27
         go_wp2
         all_goals first | (exfalso; omega) | (go_ret; exact ⟨by simp [oddP, h1, h2, h3], 0, rfl⟩))
theorem nameB_eq (a0 : ByteArray) : nameB a0 = (a0.toList != [] && decide (a0.size ≤ 16) && a0.toList != [46] && a0.toList != [46, 46] && a0.data.toList.all okc) := by
  unfold nameB
  rw [Lib.toList_data]
  have h1 : decide (1 ≤ a0.size) = (a0.data.toList != []) := by
    have hsz : a0.data.toList.length = a0.size := by simp
    cases h : a0.data.toList with
    | nil => rw [h] at hsz; simp at hsz; simp [← hsz]
    | cons x l => rw [h] at hsz; simp at hsz; simp [← hsz]
  have h2 : (!decide (a0.data.toList = [46])) = (a0.data.toList != [46]) := by
    by_cases h : a0.data.toList = [46] <;> simp [h]
  have h3 : (!decide (a0.data.toList = [46, 46])) = (a0.data.toList != [46, 46]) := by
    by_cases h : a0.data.toList = [46, 46] <;> simp [h]
  rw [h1, h2, h3]
def route_Name.f (a0 : ByteArray) : Option Bool := some (nameB a0)
set_option maxHeartbeats 4000000 in
set_option maxRecDepth 100000 in
theorem route_Name.calls (a0 : ByteArray) (r : Bool) (w : World) (h : route_Name.f a0 = some r) :
    Calls Tryd.prog 15 #[.string a0] w fun e w' => e = .returned (.bool r) ∧ Below w.heap.size w w' := by
  obtain rfl := Option.some.inj h
  have hC := fun W => Aside0.mk (Tryd.strings_IndexFunc 27 #[] (enters_of Tryd.func27 (by kernel_rfl) rfl) _ a0 W (route_Name_odd W))
  have hN := Aside0.mk (idx_name a0)
  clear h
  have hR : Aside0 (nameB a0 = (a0.toList != [] && decide (a0.size ≤ 16) && a0.toList != [46] && a0.toList != [46, 46] && a0.data.toList.all okc)) := ⟨nameB_eq a0⟩
  have tl : Aside0 (a0.toList = a0.data.toList) := ⟨Lib.toList_data a0⟩
  rw [hR.out]
  rw [← hN.out]
  clear hR
  by_cases c1 : a0.toList = ([] : List UInt8)
  · have c1b0 : (a0.toList == ([] : List UInt8)) = true := beq_iff_eq.mpr c1
    have c1b1 : (a0.toList != ([] : List UInt8)) = false := bne_eq_false_iff_eq.mpr c1
    clear c1
    rw [c1b1]
    go_enter Tryd.func15, Tryd.ntmps15
    go_wp2_with fail
    go_ret
    exact ⟨by simp, Below.refl _ _⟩
  have c1b0 : (a0.toList == ([] : List UInt8)) = false := beq_eq_false_iff_ne.mpr c1
  have c1b1 : (a0.toList != ([] : List UInt8)) = true := bne_iff_ne.mpr c1
  rw [c1b1]
  by_cases c2 : ¬ a0.size ≤ 16
  · have c2b0 : decide ((a0.size : Int) ≤ 16) = false := decide_eq_false (by omega)
    have c2b1 : decide (a0.size ≤ 16) = false := decide_eq_false c2
    clear c2
    rw [c2b1]
    go_enter Tryd.func15, Tryd.ntmps15
    go_wp2_with fail
    go_ret
    exact ⟨by simp, Below.refl _ _⟩
  have c2b0 : decide ((a0.size : Int) ≤ 16) = true := decide_eq_true (by omega)
  have c2b1 : decide (a0.size ≤ 16) = true := decide_eq_true (by omega)
  clear c2
  rw [c2b1]
  by_cases c3 : a0.toList = ([46] : List UInt8)
  · have c3b0 : (a0.toList == ([46] : List UInt8)) = true := beq_iff_eq.mpr c3
    have c3b1 : (a0.toList != ([46] : List UInt8)) = false := bne_eq_false_iff_eq.mpr c3
    clear c3
    rw [c3b1]
    go_enter Tryd.func15, Tryd.ntmps15
    go_wp2_with fail
    go_ret
    exact ⟨by simp, Below.refl _ _⟩
  have c3b0 : (a0.toList == ([46] : List UInt8)) = false := beq_eq_false_iff_ne.mpr c3
  have c3b1 : (a0.toList != ([46] : List UInt8)) = true := bne_iff_ne.mpr c3
  rw [c3b1]
  by_cases c4 : a0.toList = ([46, 46] : List UInt8)
  · have c4b0 : (a0.toList == ([46, 46] : List UInt8)) = true := beq_iff_eq.mpr c4
    have c4b1 : (a0.toList != ([46, 46] : List UInt8)) = false := bne_eq_false_iff_eq.mpr c4
    clear c4
    rw [c4b1]
    go_enter Tryd.func15, Tryd.ntmps15
    go_wp2_with fail
    go_ret
    exact ⟨by simp, Below.refl _ _⟩
  have c4b0 : (a0.toList == ([46, 46] : List UInt8)) = false := beq_eq_false_iff_ne.mpr c4
  have c4b1 : (a0.toList != ([46, 46] : List UInt8)) = true := bne_iff_ne.mpr c4
  rw [c4b1]
  clear c1 c3 c4
  go_enter Tryd.func15, Tryd.ntmps15
  go_wp2_with (first | (go_at_call 28; refine (hC _).out.mono ?_; rintro e w' ⟨rfl, hb⟩) | fail)
  go_ret
  exact ⟨by simp, hb⟩


end Go.Proofs.YtenjcgkabmlpkaaDoor.PA
