import Derived.Test.YtgjhhbljbnbjkaaPAx
import Derived.Deep.Slices
import Derived.SizedLaws
namespace Go.Proofs.Ytgjhhbljbnbjkaa.PA
open Go.RowKit Go.Proofs.YtgjhhbljbnbjkaaW.PrintWords Go.Proofs.YtgjhhbljbnbjkaaW.PrintLast Go.Proofs.YtgjhhbljbnbjkaaW.PrintMore
set_option linter.unusedVariables false
set_option linter.unusedSimpArgs false
/-! ### Arguments opened: a slice of whatever elements, by a kind -/
section
open Go.ChangeShapes Go.WideShapes Go.Deep
variable {H : Type} {enc : TypeId × Value → H} {P : Program} {w : World} {base : Nat} {spare : Nat → Bool} {held : Bool}
theorem ra_addr (a : Addr) (m i : Nat) : (a.add m).add i = a.add (m + i) := Go.Deep.add_add a m i
theorem open_rows {α : Type} [Inhabited α] (k : Kd α) (Wf : α → Prop) {t e : TypeId} {fuel : Nat} {A : Option Addr} {len cap : Nat} {x : DataW H × List MemPlace} (ht : P.underlying t = some (.slice e)) (hce : P.cellsOf e = k.sz)
    (He : ∀ n cs y, DataW.trod enc P w base spare held n e cs = some y → ∃ v, k.K w v cs ∧ Wf v)
    (h : DataW.trod enc P w base spare held fuel t [.slice A len cap] = some x) : ∃ l : List α, l.length = len ∧ k.C w A len l ∧ len ≤ cap ∧ ∀ v ∈ l, Wf v := by
  rcases open_slice ht h with ⟨hcs, _⟩ | ⟨a, l, c, m, n, D, Pl, hcs, _, hl, hm, hmm, _, hx⟩
  · simp at hcs
    obtain ⟨rfl, rfl, rfl⟩ := hcs
    exact ⟨[], rfl, ⟨rfl, by omega, fun h0 => absurd h0 (by omega)⟩, Nat.le_refl _, by simp⟩
  · simp at hcs
    obtain ⟨rfl, rfl, rfl⟩ := hcs
    have hlm : len ≤ m := by rw [hmm]; split <;> omega
    obtain ⟨f, hf⟩ := choose_lt (α := α) (n := len) (p := fun i v => ∃ cs, w.cells? base (a.add (i * k.sz)) k.sz = some cs ∧ k.K w v cs ∧ Wf v) (fun i hi => by
      obtain ⟨cs', h1, h2⟩ := hx i (by omega)
      rw [hce] at h1
      obtain ⟨v, h3, h4⟩ := He _ _ _ h2
      exact ⟨v, cs', h1, h3, h4⟩)
    refine ⟨(List.range len).map f, by simp, ⟨by simp, by simp only [maxLen] at hm; omega, fun _ => ⟨a, rfl, fun j p hj => ?_⟩⟩, hl, fun v hv => ?_⟩
    · have hjl : j < len := by
        rcases Nat.lt_or_ge j len with h' | h'
        · exact h'
        · rw [List.getElem?_eq_none (by simpa using h')] at hj; cases hj
      simp [hjl] at hj
      subst hj
      obtain ⟨cs, h1, h2, _⟩ := hf j hjl
      obtain ⟨_, h3, h4⟩ := World.cells?_some h1
      refine ⟨cs, h3, h2, fun i u hu => ?_⟩
      have hi : i < k.sz := by rw [← h3]; exact (List.getElem?_eq_some_iff.1 hu).1
      rw [← ra_addr, h4 i hi, hu]
    · simp only [List.mem_map, List.mem_range] at hv
      obtain ⟨j, hj, rfl⟩ := hv
      exact (hf j hj).choose_spec.2.2
theorem open_rows_sized {ts : List TypeId} {ds : List (DataW H)} {ps : List MemPlace} {d : DataW H} {j : Nat} {t e : TypeId} {A : Option Addr} {len cap : Nat}
    (hsz : (DataW.weightsEach P ts ds).all (· ≤ reachBytes) = true) (htj : ts[j]? = some t) (hdj : ds[j]? = some d) (ht : P.underlying t = some (.slice e)) {B : Nat} (hB : P.bytesOf e = B)
    (h : DataW.Trod enc P w base spare held t (.slice A len cap) d ps) : len * B ≤ 140737488351232 := by
  obtain ⟨fuel, hf⟩ := h
  rcases open_slice ht hf with ⟨hcs, _⟩ | ⟨a, l, c, m, n, D, Pl, hcs, _, hl, hm, hmm, hx, _⟩
  · simp [Value.cells] at hcs
    obtain ⟨rfl, rfl, rfl⟩ := hcs
    simp
  · simp [Value.cells] at hcs
    obtain ⟨rfl, rfl, rfl⟩ := hcs
    obtain ⟨hx, _⟩ := Prod.mk.inj hx
    subst hx
    have z := sized_slice hsz htj hdj ht
    rw [hB] at z
    have hle : len ≤ m := by rw [hmm]; split <;> omega
    simp only [List.length_map, List.length_range] at z
    have h3 : len ≤ len + (m - len) := by omega
    exact Nat.le_trans (Nat.mul_le_mul_right _ h3) z
end
theorem toList_data (a : ByteArray) : a.toList = a.data.toList := by
  have key : ∀ (d i : Nat) (r : List UInt8), i + d = a.size → ByteArray.toList.loop a i r = r.reverse ++ a.data.toList.drop i := by
    intro d
    induction d with
    | zero =>
      intro i r h
      unfold ByteArray.toList.loop
      rw [if_neg (by omega), List.drop_eq_nil_of_le (by simp; show a.size ≤ i; omega), List.append_nil]
    | succ d ih =>
      intro i r h
      have hi : i < a.data.toList.length := by simp; show i < a.size; omega
      unfold ByteArray.toList.loop
      rw [if_pos (by omega), ih (i + 1) _ (by omega), List.drop_eq_getElem_cons hi]
      have : a.get! i = a.data.toList[i] := by
        cases a with
        | mk bs =>
          simp at hi
          show bs[i]! = _
          rw [getElem!_pos bs i hi]
          simp
      simp [this]
  have := key a.size 0 [] (by omega)
  simpa [ByteArray.toList] using this
theorem toList_inj' {a b : ByteArray} : a.toList = b.toList ↔ a = b := by
  rw [toList_data, toList_data]
  constructor
  · intro h; exact ByteArray.ext (Array.toList_inj.1 h)
  · rintro rfl; rfl
/-! ### bytes and texts -/
theorem strOfNums_append (a b : List Int) : strOfNums a ++ strOfNums b = strOfNums (a ++ b) := by
  apply ByteArray.ext
  simp [strOfNums]
theorem strOfNums_inj {a b : List Int} (ha : byteL a) (hb : byteL b) (h : strOfNums a = strOfNums b) : a = b := by
  rw [← bytesOf_strOfNums a ha, ← bytesOf_strOfNums b hb, h]
theorem strOfNums_bytesOf (s : ByteArray) : strOfNums (bytesOf s) = s := by
  apply ByteArray.ext
  simp only [strOfNums, bytesOf, List.map_map]
  have : ∀ l : List UInt8, l.map ((fun n : Int => UInt8.ofNat n.toNat) ∘ fun b : UInt8 => ((b.toNat : Nat) : Int)) = l := by
    intro l
    conv => rhs; rw [← List.map_id l]
    refine List.map_congr_left (fun b _ => ?_)
    simp
  rw [this]
theorem bytesOf_byteL (s : ByteArray) : byteL (bytesOf s) := by
  intro b hb
  simp only [bytesOf, List.mem_map] at hb
  obtain ⟨x, _, rfl⟩ := hb
  have := x.toNat_lt
  omega
theorem byteL_append {a b : List Int} (ha : byteL a) (hb : byteL b) : byteL (a ++ b) := by
  intro x hx
  rcases List.mem_append.1 hx with h | h
  · exact ha x h
  · exact hb x h
theorem byteL_leB (x : Int) (n : Nat) : byteL (leB x n) := leB_byte x n
theorem byteL_cons {b : Int} {l : List Int} (h : byteL (b :: l)) : 0 ≤ b ∧ b ≤ 255 ∧ byteL l := ⟨(h b (by simp)).1, (h b (by simp)).2, fun x hx => h x (by simp [hx])⟩
theorem byteL_mk {b : Int} {l : List Int} (h0 : 0 ≤ b) (h1 : b ≤ 255) (h : byteL l) : byteL (b :: l) := by
  intro x hx
  rcases List.mem_cons.1 hx with rfl | hx
  · exact ⟨h0, h1⟩
  · exact h x hx
theorem encI_byteL (x : S46) : byteL (encI x) := by
  unfold encI
  split
  · exact byteL_mk (by omega) (by omega) (byteL_leB _ _)
  · exact byteL_mk (by omega) (by omega) (byteL_append (byteL_leB _ _) (bytesOf_byteL _))
theorem encL_byteL (l : List S46) : byteL (encL l) := by
  intro b hb
  simp only [encL, List.mem_flatMap] at hb
  obtain ⟨x, _, hx⟩ := hb
  exact encI_byteL x b hx
theorem encL_append (l m : List S46) : encL (l ++ m) = encL l ++ encL m := by simp [encL]
theorem encL_cons (x : S46) (l : List S46) : encL (x :: l) = encI x ++ encL l := by simp [encL]
/-! ### PackJoins -/
theorem checkV_iff (l : List S46) : pack_checkV l = 0 ↔ l.length ≤ 4000 ∧ ∀ x ∈ l, okB x = true ∧ longB x = false := by
  unfold pack_checkV
  constructor
  · intro h
    by_cases h1 : 4000 < (l.length : Int)
    · rw [if_pos h1] at h; cases h
    rw [if_neg h1] at h
    by_cases h2 : l.any longB = true
    · rw [if_pos h2] at h; cases h
    rw [if_neg h2] at h
    by_cases h3 : l.all okB = true
    · refine ⟨by omega, fun x hx => ⟨List.all_eq_true.1 h3 x hx, ?_⟩⟩
      cases hh : longB x
      · rfl
      · exact absurd (List.any_eq_true.2 ⟨x, hx, hh⟩) h2
    · rw [if_neg h3] at h; cases h
  · rintro ⟨h1, h2⟩
    rw [if_neg (by omega), if_neg (by simp only [List.any_eq_true, not_exists, not_and]; intro x hx; simp [(h2 x hx).2]), if_pos (by simp only [List.all_eq_true]; exact fun x hx => (h2 x hx).1)]
theorem encode_some (l : List S46) : pack_Encode.f l = some (if pack_checkV l = 0 then encL l else [], pack_checkV l) := rfl
theorem joins_pure (l0 l1 : List S46) (y0 : l0.length * 32 ≤ 140737488351232) (y1 : l1.length * 32 ≤ 140737488351232) : cisternlaw03_PackJoins.f l0 l1 = some true := by
  unfold cisternlaw03_PackJoins.f cisternlaw03_known.f
  simp only [encode_some, Option.bind_some, if_true]
  by_cases e0 : pack_checkV l0 = 0
  · by_cases e1 : pack_checkV l1 = 0
    · simp only [e0, e1, if_true]
      by_cases h : wrap64 ((l0.length : Int) + (l1.length : Int)) > 4000
      · rw [if_pos h]
      · rw [if_neg h]
        obtain ⟨a1, a2⟩ := (checkV_iff l0).1 e0
        obtain ⟨b1, b2⟩ := (checkV_iff l1).1 e1
        have hl : l0.length + l1.length ≤ 4000 := by unfold wrap64 at h; omega
        have e2 : pack_checkV (l0 ++ l1) = 0 := (checkV_iff _).2 ⟨by simpa using hl, fun x hx => (List.mem_append.1 hx).elim (a2 x) (b2 x)⟩
        have z0 := encL_take_len (check_ok e0).1 l0.length
        have z1 := encL_take_len (check_ok e1).1 l1.length
        rw [List.take_length] at z0 z1
        rw [if_pos (by simp; omega), List.nil_append, if_pos (by omega)]
        simp only [e2, if_true]
        rw [if_pos (by rw [size_strOfNums, size_strOfNums]; omega), encL_append, strOfNums_append]
        simp
    · simp only [e1, if_false, e0, if_true]
  · simp only [e0, if_false]
end Go.Proofs.Ytgjhhbljbnbjkaa.PA
