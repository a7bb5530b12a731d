import Derived.Test.YtgjhhbljbnbjkaaLrecords
namespace Go.Proofs.Ytgjhhbljbnbjkaa.PA
open Go.RowKit Go.Proofs.YtgjhhbljbnbjkaaW.PrintWords Go.Proofs.YtgjhhbljbnbjkaaW.PrintLast Go.Proofs.YtgjhhbljbnbjkaaW.PrintMore
set_option linter.unusedVariables false
set_option linter.unusedSimpArgs false
/-! ### Contracts without rounds -/
def encR (l : List S46) : List Int := if pack_checkV l = 0 then encL l else []
theorem encR_byteL (l : List S46) : byteL (encR l) := by
  unfold encR
  split
  · exact encL_byteL l
  · intro b hb; cases hb
theorem encR_len (l : List S46) : (encR l).length ≤ 200012000 := by
  unfold encR
  split
  · rename_i h
    have := encL_take_len (check_ok h).1 l.length
    rwa [List.take_length] at this
  · simp
theorem encW (A : Option Addr) (c : Nat) (l : List S46) (w : World) (hr : Kd.C k46 w A l.length l) (hc : l.length ≤ c) :
    Calls Try.prog 10 #[.slice A l.length c] w fun e w' => ∃ A' c', e = .returned (.tuple #[.slice A' (encR l).length c', .int .i64 (pack_checkV l)]) ∧ Aside0 (Kd.C (Kd.int .u8) w' A' (encR l).length (encR l)) ∧ Aside0 ((encR l).length ≤ c') ∧ Aside0 (Below w.heap.size w w') := by
  refine (pack_Encode.calls A c l _ _ w hr hc rfl).mono ?_
  rintro e w' ⟨v, rfl, hR, hB⟩
  obtain ⟨A', c', rfl, hl, hC⟩ := Kd.R_reads hR
  exact ⟨A', c', rfl, ⟨hC⟩, ⟨hl⟩, ⟨hB⟩⟩
theorem decW (A : Option Addr) (c : Nat) (b : List Int) (w : World) (hr : Kd.C (Kd.int .u8) w A b.length b) (hc : b.length ≤ c) (hb : byteL b) (hl : b.length ≤ 140737488351232) :
    Calls Try.prog 19 #[.slice A b.length c] w fun e w' => ∃ A' c', e = .returned (.tuple #[.slice A' (decF b).1.length c', .int .i64 (decF b).2]) ∧ Aside0 (Kd.C k46 w' A' (decF b).1.length (decF b).1) ∧ Aside0 ((decF b).1.length ≤ c') ∧ Aside0 (Below w.heap.size w w') := by
  refine (pack_Decode.calls _ (fun k => k < w.heap.size) A c b _ _ w (Kd.V_mk hc (Kd.C_F (Kd.heap_int .u8) hr)) (decode_val b hb hl _ (Nat.le_refl _))).mono ?_
  rintro e w' ⟨v, rfl, hR, hB⟩
  obtain ⟨A', c', rfl, hl, hC⟩ := Kd.R_reads hR
  exact ⟨A', c', rfl, ⟨hC⟩, ⟨hl⟩, ⟨hB⟩⟩
theorem S46_ext {x y : S46} (h0 : x.f0 = y.f0) (h1 : x.f1 = y.f1) (h2 : x.f2 = y.f2) : x = y := by
  cases x; cases y; simp_all
open Classical in
noncomputable def sameB (l m : List S46) : Bool := decide (l = m)
open Classical in
theorem same_tells (l m : List S46) (hlm : l.length = m.length) (hl : l.length ≤ 9223372036854775806) : ∀ (d k i : Nat), i + d = l.length → d < k → cisternref03_Same.l0 k l m (i : Int) = some (decide (l.drop i = m.drop i)) := by
  intro d
  induction d with
  | zero =>
    intro k i hd hk
    obtain ⟨k, rfl⟩ : ∃ m, k = m + 1 := ⟨k - 1, by omega⟩
    simp only [cisternref03_Same.l0]
    rw [if_neg (by omega), List.drop_eq_nil_of_le (by omega), List.drop_eq_nil_of_le (by omega)]
    simp
  | succ d ih =>
    intro k i hd hk
    obtain ⟨k, rfl⟩ : ∃ m, k = m + 1 := ⟨k - 1, by omega⟩
    simp only [cisternref03_Same.l0]
    rw [if_pos (by omega), if_pos (by omega), if_pos (by omega), rd_drop (show i < l.length by omega), rd_drop (show i < m.length by omega), show wrap64 ((i : Int) + 1) = ((i + 1 : Nat) : Int) by unfold wrap64; omega, ih k (i + 1) (by omega) (by omega)]
    generalize rd_T46 l (i : Int) = x
    generalize rd_T46 m (i : Int) = y
    by_cases hxy : x = y
    · subst hxy; simp
    · rw [if_pos]
      · simp [hxy]
      · by_cases h0 : x.f0 = y.f0
        · by_cases h1 : x.f1 = y.f1
          · have h2 : ¬ x.f2.toList = y.f2.toList := fun h => hxy (S46_ext h0 h1 (toList_inj'.1 h))
            simp [h2]
          · simp [h1]
        · simp [h0]
theorem sameW (A0 : Option Addr) (c0 : Nat) (l0 : List S46) (A1 : Option Addr) (c1 : Nat) (l1 : List S46) (w : World) (hr0 : Kd.C k46 w A0 l0.length l0) (hc0 : l0.length ≤ c0) (hr1 : Kd.C k46 w A1 l1.length l1) (hc1 : l1.length ≤ c1) (hl : l0.length ≤ 140737488351232) :
    Calls Try.prog 20 #[.slice A0 l0.length c0, .slice A1 l1.length c1] w fun e w' => e = .returned (.bool (sameB l0 l1)) ∧ Drawn0 w w' := by
  refine cisternref03_Same.calls (l0.length + 1) A0 c0 l0 A1 c1 l1 _ w hr0 hc0 hr1 hc1 ?_
  unfold cisternref03_Same.f
  by_cases h : l0.length = l1.length
  · rw [if_pos (by omega)]
    have := same_tells l0 l1 h (by omega) l0.length (l0.length + 1) 0 (by omega) (by omega)
    refine this.trans ?_
    unfold sameB
    simp
  · rw [if_neg (by omega)]
    have : sameB l0 l1 = false := by simp [sameB]; intro e; exact h (by rw [e])
    rw [this]
theorem sameB_self (l : List S46) : sameB l l = true := by simp [sameB]
theorem enc_inj {l m : List S46} (hl : pack_checkV l = 0) (hm : pack_checkV m = 0) (wl : ∀ x ∈ l, wfI x) (wm : ∀ x ∈ m, wfI x) (h : encL l = encL m) : l = m := by
  have h1 := decF_enc l hl wl
  rw [h, decF_enc m hm wm] at h1
  simpa using h1.symm
theorem inv_same {l m : List S46} (hl : pack_checkV l = 0) (hm : pack_checkV m = 0) (wl : ∀ x ∈ l, wfI x) (wm : ∀ x ∈ m, wfI x) : ((strOfNums (encR l)).toList == (strOfNums (encR m)).toList) = sameB l m := by
  simp only [encR, hl, hm, if_true]
  by_cases h : l = m
  · subst h; simp [sameB]
  · have h1 : ¬ (strOfNums (encL l)).toList = (strOfNums (encL m)).toList := fun e => h (enc_inj hl hm wl wm (strOfNums_inj (encL_byteL l) (encL_byteL m) (toList_inj'.1 e)))
    rw [beq_eq_false_iff_ne.2 h1]
    simp [sameB, h]
end Go.Proofs.Ytgjhhbljbnbjkaa.PA
