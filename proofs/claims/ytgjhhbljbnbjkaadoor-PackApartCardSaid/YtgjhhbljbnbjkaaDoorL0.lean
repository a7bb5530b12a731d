import Derived.Test.YtgjhhbljbnbjkaaDoorPAx
import Derived.Deep.Slices
import Derived.SizedLaws
import Derived.IntWalk
import Derived.ArgAppend
namespace Go.Proofs.YtgjhhbljbnbjkaaDoor.PA
open Go.RowKit Go.Proofs.YtgjhhbljbnbjkaaDoorW.PrintWords Go.Proofs.YtgjhhbljbnbjkaaDoorW.PrintLast Go.Proofs.YtgjhhbljbnbjkaaDoorW.PrintMore
set_option linter.unusedVariables false
set_option linter.unusedSimpArgs false
/-! ### Arguments opened: a slice of whatever elements, by a kind -/
section
open Go.ChangeShapes Go.WideShapes Go.Deep
variable {H : Type} {enc : TypeId × Value → H} {P : Program} {w : World} {base : Nat} {spare : Nat → Bool} {held : Bool}
theorem ra_addr (a : Addr) (m i : Nat) : (a.add m).add i = a.add (m + i) := Go.Deep.add_add a m i
theorem open_rows {α : Type} [Inhabited α] (k : Kd α) (Wf : α → Prop) {t e : TypeId} {fuel : Nat} {A : Option Addr} {len cap : Nat} {x : DataW H × List MemPlace} (ht : P.underlying t = some (.slice e)) (hce : P.cellsOf e = k.sz)
    (He : ∀ n cs y, DataW.trod enc P w base spare held n e cs = some y → ∃ v, k.K w v cs ∧ Wf v)
    (h : DataW.trod enc P w base spare held fuel t [.slice A len cap] = some x) : ∃ l : List α, l.length = len ∧ k.C w A len l ∧ len ≤ cap ∧ ∀ v ∈ l, Wf v := by
  rcases open_slice ht h with ⟨hcs, _⟩ | ⟨a, l, c, m, n, D, Pl, hcs, _, hl, hm, hmm, _, hx⟩
  · simp at hcs
    obtain ⟨rfl, rfl, rfl⟩ := hcs
    exact ⟨[], rfl, ⟨rfl, by omega, fun h0 => absurd h0 (by omega)⟩, Nat.le_refl _, by simp⟩
  · simp at hcs
    obtain ⟨rfl, rfl, rfl⟩ := hcs
    have hlm : len ≤ m := by rw [hmm]; split <;> omega
    obtain ⟨f, hf⟩ := choose_lt (α := α) (n := len) (p := fun i v => ∃ cs, w.cells? base (a.add (i * k.sz)) k.sz = some cs ∧ k.K w v cs ∧ Wf v) (fun i hi => by
      obtain ⟨cs', h1, h2⟩ := hx i (by omega)
      rw [hce] at h1
      obtain ⟨v, h3, h4⟩ := He _ _ _ h2
      exact ⟨v, cs', h1, h3, h4⟩)
    refine ⟨(List.range len).map f, by simp, ⟨by simp, by simp only [maxLen] at hm; omega, fun _ => ⟨a, rfl, fun j p hj => ?_⟩⟩, hl, fun v hv => ?_⟩
    · have hjl : j < len := by
        rcases Nat.lt_or_ge j len with h' | h'
        · exact h'
        · rw [List.getElem?_eq_none (by simpa using h')] at hj; cases hj
      simp [hjl] at hj
      subst hj
      obtain ⟨cs, h1, h2, _⟩ := hf j hjl
      obtain ⟨_, h3, h4⟩ := World.cells?_some h1
      refine ⟨cs, h3, h2, fun i u hu => ?_⟩
      have hi : i < k.sz := by rw [← h3]; exact (List.getElem?_eq_some_iff.1 hu).1
      rw [← ra_addr, h4 i hi, hu]
    · simp only [List.mem_map, List.mem_range] at hv
      obtain ⟨j, hj, rfl⟩ := hv
      exact (hf j hj).choose_spec.2.2
theorem open_rows_sized {ts : List TypeId} {ds : List (DataW H)} {ps : List MemPlace} {d : DataW H} {j : Nat} {t e : TypeId} {A : Option Addr} {len cap : Nat}
    (hsz : (DataW.weightsEach P ts ds).all (· ≤ reachBytes) = true) (htj : ts[j]? = some t) (hdj : ds[j]? = some d) (ht : P.underlying t = some (.slice e)) {B : Nat} (hB : P.bytesOf e = B)
    (h : DataW.Trod enc P w base spare held t (.slice A len cap) d ps) : len * B ≤ 140737488351232 := by
  obtain ⟨fuel, hf⟩ := h
  rcases open_slice ht hf with ⟨hcs, _⟩ | ⟨a, l, c, m, n, D, Pl, hcs, _, hl, hm, hmm, hx, _⟩
  · simp [Value.cells] at hcs
    obtain ⟨rfl, rfl, rfl⟩ := hcs
    simp
  · simp [Value.cells] at hcs
    obtain ⟨rfl, rfl, rfl⟩ := hcs
    obtain ⟨hx, _⟩ := Prod.mk.inj hx
    subst hx
    have z := sized_slice hsz htj hdj ht
    rw [hB] at z
    have hle : len ≤ m := by rw [hmm]; split <;> omega
    simp only [List.length_map, List.length_range] at z
    have h3 : len ≤ len + (m - len) := by omega
    exact Nat.le_trans (Nat.mul_le_mul_right _ h3) z
end
theorem toList_data (a : ByteArray) : a.toList = a.data.toList := by
  have key : ∀ (d i : Nat) (r : List UInt8), i + d = a.size → ByteArray.toList.loop a i r = r.reverse ++ a.data.toList.drop i := by
    intro d
    induction d with
    | zero =>
      intro i r h
      unfold ByteArray.toList.loop
      rw [if_neg (by omega), List.drop_eq_nil_of_le (by simp; show a.size ≤ i; omega), List.append_nil]
    | succ d ih =>
      intro i r h
      have hi : i < a.data.toList.length := by simp; show i < a.size; omega
      unfold ByteArray.toList.loop
      rw [if_pos (by omega), ih (i + 1) _ (by omega), List.drop_eq_getElem_cons hi]
      have : a.get! i = a.data.toList[i] := by
        cases a with
        | mk bs =>
          simp at hi
          show bs[i]! = _
          rw [getElem!_pos bs i hi]
          simp
      simp [this]
  have := key a.size 0 [] (by omega)
  simpa [ByteArray.toList] using this
theorem toList_inj' {a b : ByteArray} : a.toList = b.toList ↔ a = b := by
  rw [toList_data, toList_data]
  constructor
  · intro h; exact ByteArray.ext (Array.toList_inj.1 h)
  · rintro rfl; rfl
/-! ### bytes and texts -/
theorem strOfNums_append (a b : List Int) : strOfNums a ++ strOfNums b = strOfNums (a ++ b) := by
  apply ByteArray.ext
  simp [strOfNums]
theorem strOfNums_inj {a b : List Int} (ha : byteL a) (hb : byteL b) (h : strOfNums a = strOfNums b) : a = b := by
  rw [← bytesOf_strOfNums a ha, ← bytesOf_strOfNums b hb, h]
theorem strOfNums_bytesOf (s : ByteArray) : strOfNums (bytesOf s) = s := by
  apply ByteArray.ext
  simp only [strOfNums, bytesOf, List.map_map]
  have : ∀ l : List UInt8, l.map ((fun n : Int => UInt8.ofNat n.toNat) ∘ fun b : UInt8 => ((b.toNat : Nat) : Int)) = l := by
    intro l
    conv => rhs; rw [← List.map_id l]
    refine List.map_congr_left (fun b _ => ?_)
    simp
  rw [this]
theorem bytesOf_byteL (s : ByteArray) : byteL (bytesOf s) := by
  intro b hb
  simp only [bytesOf, List.mem_map] at hb
  obtain ⟨x, _, rfl⟩ := hb
  have := x.toNat_lt
  omega
theorem byteL_append {a b : List Int} (ha : byteL a) (hb : byteL b) : byteL (a ++ b) := by
  intro x hx
  rcases List.mem_append.1 hx with h | h
  · exact ha x h
  · exact hb x h
theorem byteL_leB (x : Int) (n : Nat) : byteL (leB x n) := leB_byte x n
theorem byteL_cons {b : Int} {l : List Int} (h : byteL (b :: l)) : 0 ≤ b ∧ b ≤ 255 ∧ byteL l := ⟨(h b (by simp)).1, (h b (by simp)).2, fun x hx => h x (by simp [hx])⟩
theorem byteL_mk {b : Int} {l : List Int} (h0 : 0 ≤ b) (h1 : b ≤ 255) (h : byteL l) : byteL (b :: l) := by
  intro x hx
  rcases List.mem_cons.1 hx with rfl | hx
  · exact ⟨h0, h1⟩
  · exact h x hx
theorem encI_byteL (x : S42) : byteL (encI x) := by
  unfold encI
  split
  · exact byteL_mk (by omega) (by omega) (byteL_leB _ _)
  · exact byteL_mk (by omega) (by omega) (byteL_append (byteL_leB _ _) (bytesOf_byteL _))
theorem encL_byteL (l : List S42) : byteL (encL l) := by
  intro b hb
  simp only [encL, List.mem_flatMap] at hb
  obtain ⟨x, _, hx⟩ := hb
  exact encI_byteL x b hx
theorem encL_append (l m : List S42) : encL (l ++ m) = encL l ++ encL m := by simp [encL]
theorem encL_cons (x : S42) (l : List S42) : encL (x :: l) = encI x ++ encL l := by simp [encL]
/-! ### PackJoins -/
theorem checkV_iff (l : List S42) : pack_checkV l = 0 ↔ l.length ≤ 4000 ∧ ∀ x ∈ l, okB x = true ∧ longB x = false := by
  unfold pack_checkV
  constructor
  · intro h
    by_cases h1 : 4000 < (l.length : Int)
    · rw [if_pos h1] at h; cases h
    rw [if_neg h1] at h
    by_cases h2 : l.any longB = true
    · rw [if_pos h2] at h; cases h
    rw [if_neg h2] at h
    by_cases h3 : l.all okB = true
    · refine ⟨by omega, fun x hx => ⟨List.all_eq_true.1 h3 x hx, ?_⟩⟩
      cases hh : longB x
      · rfl
      · exact absurd (List.any_eq_true.2 ⟨x, hx, hh⟩) h2
    · rw [if_neg h3] at h; cases h
  · rintro ⟨h1, h2⟩
    rw [if_neg (by omega), if_neg (by simp only [List.any_eq_true, not_exists, not_and]; intro x hx; simp [(h2 x hx).2]), if_pos (by simp only [List.all_eq_true]; exact fun x hx => (h2 x hx).1)]
theorem encode_some (l : List S42) : pack_Encode.f l = some (if pack_checkV l = 0 then encL l else [], pack_checkV l) := rfl
/-! ### The decoder on bytes -/
def decL : Nat → List S42 → List Int → List S42 × Int
  | 0, acc, _ => (acc, 0)
  | n + 1, acc, b =>
    match b with
    | [] => (acc, 0)
    | c :: r =>
      if c = 1 ∧ 8 ≤ r.length then
        (if (acc ++ [(⟨1, wrap64 (getV (r.take 8)), ⟨#[]⟩⟩ : S42)]).length > 4000 then ([], 2) else decL n (acc ++ [(⟨1, wrap64 (getV (r.take 8)), ⟨#[]⟩⟩ : S42)]) (r.drop 8))
      else if c = 2 ∧ 2 ≤ r.length then
        (if getV (r.take 2) > 50000 ∨ getV (r.take 2) > (r.length : Int) - 2 then ([], 2)
         else if (acc ++ [(⟨2, 0, strOfNums ((r.drop 2).take (getV (r.take 2)).toNat)⟩ : S42)]).length > 4000 then ([], 2)
         else decL n (acc ++ [(⟨2, 0, strOfNums ((r.drop 2).take (getV (r.take 2)).toNat)⟩ : S42)]) (r.drop (2 + (getV (r.take 2)).toNat)))
      else ([], 2)
theorem get_val' (l : List Int) (hl : byteL l) (h8 : l.length ≤ 8) (k : Nat) (hk : 9 ≤ k) : pack_get.f k l = some (getV l) := by
  have h := get_tells l hl h8 l.length k 0 (by omega) (by omega)
  simpa [pack_get.f, getV] using h
theorem getV2 (l : List Int) (hl : byteL l) (h : l.length = 2) : 0 ≤ getV l ∧ getV l ≤ 65535 := by
  have := getV_range l hl
  rw [h] at this
  omega
theorem w64_small (x : Int) (h0 : 0 ≤ x) (h1 : x ≤ 9223372036854775807) : wrap64 x = x := by unfold wrap64; omega
theorem decode_tells : ∀ (n : Nat) (b : List Int) (acc : List S42) (k : Nat), byteL b → b.length ≤ n → b.length ≤ 140737488351232 → acc.length ≤ 4000 → 4 * n + 20 ≤ k → pack_Decode.l0 k b acc = some (decL (n + 1) acc b) := by
  intro n
  induction n with
  | zero =>
    intro b acc k hb hn hl ha hk
    obtain rfl : b = [] := List.eq_nil_of_length_eq_zero (by omega)
    obtain ⟨k, rfl⟩ : ∃ m, k = m + 1 := ⟨k - 1, by omega⟩
    simp [pack_Decode.l0, decL]
  | succ n ih =>
    intro b acc k hb hn hl ha hk
    obtain ⟨k, rfl⟩ : ∃ m, k = m + 4 := ⟨k - 4, by omega⟩
    match b, hb, hn, hl with
    | [], _, _, _ => simp [pack_Decode.l0, decL]
    | c :: r, hb, hn, hl =>
      obtain ⟨hc0, hc1, hr⟩ := byteL_cons hb
      have hrl : r.length ≤ n := by simpa using hn
      have hrl2 : r.length ≤ 140737488351231 := by simp only [List.length_cons] at hl; omega
      have hrd : rd (c :: r) 0 = c := by simp [rd]
      have hd1 : (c :: r).drop 1 = r := rfl
      rw [show k + 4 = (k + 3) + 1 by omega]
      simp only [pack_Decode.l0]
      rw [if_pos (by simp only [List.length_cons]; omega), if_pos (by simp only [List.length_cons]; omega), if_pos (by simp only [List.length_cons]; omega), hrd, hd1]
      simp only [Option.bind_some]
      rw [decL]
      by_cases h1 : c = 1 ∧ 8 ≤ r.length
      · rw [if_pos h1, if_pos h1.1, show k + 3 = (k + 2) + 1 by omega]
        simp only [pack_Decode.j1]
        rw [if_pos (by simpa using (by omega : (8 : Int) ≤ r.length)), if_pos (by omega), get_val' _ (byteL_take hr 8) (by simp; omega) _ (by omega)]
        simp only [Option.bind_some]
        rw [if_pos (by omega)]
        by_cases h4 : (acc ++ [(⟨1, wrap64 (getV (r.take 8)), ⟨#[]⟩⟩ : S42)]).length > 4000
        · rw [if_pos (by omega), if_pos h4]
        · rw [if_neg (by omega), if_neg h4]
          exact ih _ _ _ (byteL_drop hr 8) (by simp; omega) (by simp; omega) (by omega) (by omega)
      · rw [if_neg h1]
        have e1 : (if c = 1 then pack_Decode.j1 (k + 3) acc c r (decide ((r.length : Int) ≥ 8)) else pack_Decode.j1 (k + 3) acc c r false) = pack_Decode.j1 (k + 3) acc c r false := by
          by_cases hc : c = 1
          · rw [if_pos hc]
            congr 1
            simp only [decide_eq_false_iff_not]
            have : ¬ 8 ≤ r.length := fun h => h1 ⟨hc, h⟩
            omega
          · rw [if_neg hc]
        rw [e1, show k + 3 = (k + 2) + 1 by omega]
        simp only [pack_Decode.j1]
        rw [if_neg (by simp)]
        by_cases h2 : c = 2 ∧ 2 ≤ r.length
        · have hg := getV2 (r.take 2) (byteL_take hr 2) (by rw [List.length_take]; omega)
          rw [if_pos h2, if_pos h2.1, show k + 2 = (k + 1) + 1 by omega]
          simp only [pack_Decode.j2]
          rw [if_pos (by simpa using (by omega : (2 : Int) ≤ r.length)), if_pos (by omega), get_val' _ (byteL_take hr 2) (by simp; omega) _ (by omega)]
          simp only [Option.bind_some]
          rw [w64_small _ hg.1 (by omega), w64_small ((r.length : Int) - 2) (by omega) (by omega)]
          generalize hgv : getV (r.take 2) = v at *
          by_cases h5 : v > 50000 ∨ v > (r.length : Int) - 2
          · rw [if_pos h5]
            by_cases h6 : v > 50000
            · rw [if_pos h6]; simp [pack_Decode.j3]
            · rw [if_neg h6, show decide (v > (r.length : Int) - 2) = true by simpa using h5.resolve_left h6]; simp [pack_Decode.j3]
          · rw [if_neg h5, if_neg (by omega), show decide (v > (r.length : Int) - 2) = false by simp; omega]
            simp only [pack_Decode.j3]
            rw [if_neg (by simp), w64_small (2 + v) (by omega) (by omega), if_pos (by omega), if_pos (by omega), if_pos (by omega)]
            simp only [Option.bind_some]
            have et : (2 + v).toNat = 2 + v.toNat := by omega
            rw [if_pos (by omega), et, List.drop_take, show 2 + v.toNat - 2 = v.toNat by omega]
            by_cases h4 : (acc ++ [(⟨2, 0, strOfNums ((r.drop 2).take v.toNat)⟩ : S42)]).length > 4000
            · rw [if_pos (by omega), if_pos h4]
            · rw [if_neg (by omega), if_neg h4]
              exact ih _ _ _ (byteL_drop hr _) (by simp; omega) (by simp; omega) (by omega) (by omega)
        · rw [if_neg h2]
          have e2 : (if c = 2 then pack_Decode.j2 (k + 2) acc r (decide ((r.length : Int) ≥ 2)) else pack_Decode.j2 (k + 2) acc r false) = pack_Decode.j2 (k + 2) acc r false := by
            by_cases hc : c = 2
            · rw [if_pos hc]
              congr 1
              simp only [decide_eq_false_iff_not]
              have : ¬ 2 ≤ r.length := fun h => h2 ⟨hc, h⟩
              omega
            · rw [if_neg hc]
          rw [e2]
          simp [pack_Decode.j2]
def decF (b : List Int) : List S42 × Int := decL (b.length + 1) [] b
theorem decode_val (b : List Int) (hb : byteL b) (hl : b.length ≤ 140737488351232) (k : Nat) (hk : 4 * b.length + 20 ≤ k) : pack_Decode.f k b = some (decF b) :=
  decode_tells b.length b [] k hb (Nat.le_refl _) hl (by simp) hk
/-! ### Encoding and decoding are each other's inverse -/
def wfI (x : S42) : Prop := (Lit.int .i64 x.f1).wf = true
theorem wf_i64 {x : Int} (h : (Lit.int .i64 x).wf = true) : -9223372036854775808 ≤ x ∧ x ≤ 9223372036854775807 := by
  simpa [Lit.wf, IntKind.min, IntKind.max, IntKind.signed, IntKind.bits] using h
theorem i64_u64 (x : Int) (h0 : -9223372036854775808 ≤ x) (h1 : x ≤ 9223372036854775807) : wrap64 (IntKind.u64.wrap x) = x := by
  have : IntKind.u64.wrap x = x % 18446744073709551616 := by simp [IntKind.wrap, IntKind.signed, IntKind.bits]
  rw [this]; unfold wrap64; omega
theorem dec_enc : ∀ (l : List S42) (acc : List S42) (n : Nat), (∀ x ∈ l, okB x = true ∧ longB x = false ∧ wfI x) → acc.length + l.length ≤ 4000 → (encL l).length < n → decL n acc (encL l) = (acc ++ l, 0) := by
  intro l
  induction l with
  | nil =>
    intro acc n _ _ hn
    obtain ⟨n, rfl⟩ : ∃ m, n = m + 1 := ⟨n - 1, by omega⟩
    simp [encL, decL]
  | cons x l ih =>
    intro acc n h ha hn
    obtain ⟨n, rfl⟩ : ∃ m, n = m + 1 := ⟨n - 1, by omega⟩
    obtain ⟨h1, h2, h3⟩ := h x (by simp)
    have hrest := fun y (hy : y ∈ l) => h y (by simp [hy])
    have hw := wf_i64 h3
    have hur := u64_range x.f1
    simp only [List.length_cons] at ha
    rw [encL_cons] at hn ⊢
    by_cases k1 : x.f0 = 1
    · have e : encI x = 1 :: leB (IntKind.u64.wrap x.f1) 8 := by rw [encI, if_pos k1]
      have hx : x = ⟨1, x.f1, ⟨#[]⟩⟩ := by
        have hs : x.f2 = ⟨#[]⟩ := by
          rw [okB_1 k1] at h1
          exact toList_inj'.1 (by simpa using h1)
        obtain ⟨a, b, c⟩ := x
        simp only at k1 hs
        subst k1 hs
        rfl
      rw [e] at hn ⊢
      simp only [List.cons_append]
      rw [decL, if_pos ⟨rfl, by simp [leB_length]⟩]
      rw [List.take_append_of_le_length (by rw [leB_length]; omega), List.take_of_length_le (by rw [leB_length]; omega), getV_leB _ 8 hur.1 (by simpa using hur.2), i64_u64 _ hw.1 hw.2]
      rw [List.drop_append_of_le_length (by rw [leB_length]; omega), List.drop_eq_nil_of_le (by rw [leB_length]; omega), List.nil_append, ← hx]
      rw [if_neg (by simp; omega), ih _ _ hrest (by simp; omega) (by simp [leB_length] at hn; omega)]
      simp
    · have k2 := kind_ok h1 k1
      have e : encI x = 2 :: (leB (x.f2.size : Int) 2 ++ bytesOf x.f2) := by rw [encI, if_neg k1]
      have hz : x.f2.size ≤ 50000 := by
        simp only [longB, k2, Bool.and_eq_false_iff, decide_eq_false_iff_not] at h2
        rcases h2 with h2 | h2
        · cases h2
        · omega
      have hx : x = ⟨2, 0, x.f2⟩ := by
        rw [okB_2 k2] at h1
        obtain ⟨a, b, c⟩ := x
        simp only [beq_iff_eq] at k2 h1
        subst k2 h1
        rfl
      rw [e] at hn ⊢
      simp only [List.cons_append]
      have t2 : (leB (x.f2.size : Int) 2 ++ bytesOf x.f2 ++ encL l).take 2 = leB (x.f2.size : Int) 2 := by
        rw [List.append_assoc, List.take_append_of_le_length (by rw [leB_length]; omega), List.take_of_length_le (by rw [leB_length]; omega)]
      have d2 : (leB (x.f2.size : Int) 2 ++ bytesOf x.f2 ++ encL l).drop 2 = bytesOf x.f2 ++ encL l := by
        rw [List.append_assoc, List.drop_append_of_le_length (by rw [leB_length]; omega), List.drop_eq_nil_of_le (by rw [leB_length]; omega), List.nil_append]
      have gv : getV (leB (x.f2.size : Int) 2) = (x.f2.size : Int) := getV_leB _ 2 (by omega) (by omega)
      rw [decL, if_neg (by simp), if_pos ⟨rfl, by simp only [List.length_append, leB_length]; omega⟩, t2, gv, if_neg (by simp [leB_length, bytesOf_length]; omega), d2, Int.toNat_natCast]
      rw [List.take_append_of_le_length (by rw [bytesOf_length]; omega), List.take_of_length_le (by rw [bytesOf_length]; omega), strOfNums_bytesOf, ← hx]
      have d3 : (leB (x.f2.size : Int) 2 ++ bytesOf x.f2 ++ encL l).drop (2 + x.f2.size) = encL l := by
        rw [← List.drop_drop, d2, List.drop_append_of_le_length (by rw [bytesOf_length]; omega), List.drop_eq_nil_of_le (by rw [bytesOf_length]; omega), List.nil_append]
      rw [if_neg (by simp; omega), d3, ih _ _ hrest (by simp; omega) (by simp [leB_length] at hn; omega)]
      simp
theorem u64_i64 (x : Int) (h0 : 0 ≤ x) (h1 : x < 18446744073709551616) : IntKind.u64.wrap (wrap64 x) = x := by
  have : ∀ y, IntKind.u64.wrap y = y % 18446744073709551616 := fun y => by simp [IntKind.wrap, IntKind.signed, IntKind.bits]
  rw [this]; unfold wrap64; omega
theorem wfI_wrap (v : Int) (a : Int) (s : ByteArray) : wfI ⟨a, wrap64 v, s⟩ := by
  unfold wfI Lit.wf
  simp [IntKind.min, IntKind.max, IntKind.signed, IntKind.bits]
  unfold wrap64
  omega
theorem enc_dec : ∀ (n : Nat) (acc : List S42) (b : List Int), byteL b → b.length < n → acc.length ≤ 4000 →
    decL n acc b = ([], 2) ∨ ∃ m, decL n acc b = (acc ++ m, 0) ∧ encL m = b ∧ (∀ x ∈ m, okB x = true ∧ longB x = false ∧ wfI x) ∧ acc.length + m.length ≤ 4000 := by
  intro n
  induction n with
  | zero => intro acc b _ h; omega
  | succ n ih =>
    intro acc b hb hn ha
    match b, hb, hn with
    | [], _, _ => exact .inr ⟨[], by simp [decL], by simp [encL], by simp, by simpa using ha⟩
    | c :: r, hb, hn =>
      obtain ⟨hc0, hc1, hr⟩ := byteL_cons hb
      have hrl : r.length < n := by simpa using hn
      rw [decL]
      by_cases h1 : c = 1 ∧ 8 ≤ r.length
      · rw [if_pos h1]
        by_cases h4 : (acc ++ [(⟨1, wrap64 (getV (r.take 8)), ⟨#[]⟩⟩ : S42)]).length > 4000
        · rw [if_pos h4]; exact .inl rfl
        · rw [if_neg h4]
          rcases ih (acc ++ [(⟨1, wrap64 (getV (r.take 8)), ⟨#[]⟩⟩ : S42)]) (r.drop 8) (byteL_drop hr 8) (by simp; omega) (by omega) with h | ⟨m, hm, he, hw, hl⟩
          · exact .inl h
          · refine .inr ⟨⟨1, wrap64 (getV (r.take 8)), ⟨#[]⟩⟩ :: m, by rw [hm]; simp, ?_, ?_, by simp at hl ⊢; omega⟩
            · have hlen : (r.take 8).length = 8 := by rw [List.length_take]; omega
              have hg := getV_range (r.take 8) (byteL_take hr 8)
              rw [hlen] at hg
              rw [encL_cons, he, encI, if_pos rfl, u64_i64 _ hg.1 (by simpa using hg.2)]
              have h8 := leB_getV (r.take 8) (byteL_take hr 8)
              rw [hlen] at h8
              rw [h8, h1.1]
              simp
            · intro x hx
              rcases List.mem_cons.1 hx with rfl | hx
              · exact ⟨by simp [okB, toList_data], by simp [longB], wfI_wrap _ _ _⟩
              · exact hw x hx
      · rw [if_neg h1]
        by_cases h2 : c = 2 ∧ 2 ≤ r.length
        · rw [if_pos h2]
          have hlen : (r.take 2).length = 2 := by rw [List.length_take]; omega
          have hg := getV2 (r.take 2) (byteL_take hr 2) hlen
          have h8 := leB_getV (r.take 2) (byteL_take hr 2)
          rw [hlen] at h8
          generalize hgv : getV (r.take 2) = v at *
          by_cases h5 : v > 50000 ∨ v > (r.length : Int) - 2
          · rw [if_pos h5]; exact .inl rfl
          · rw [if_neg h5]
            by_cases h4 : (acc ++ [(⟨2, 0, strOfNums ((r.drop 2).take v.toNat)⟩ : S42)]).length > 4000
            · rw [if_pos h4]; exact .inl rfl
            · rw [if_neg h4]
              rcases ih (acc ++ [(⟨2, 0, strOfNums ((r.drop 2).take v.toNat)⟩ : S42)]) (r.drop (2 + v.toNat)) (byteL_drop hr _) (by simp; omega) (by omega) with h | ⟨m, hm, he, hw, hl⟩
              · exact .inl h
              · have hsz : (strOfNums ((r.drop 2).take v.toNat)).size = v.toNat := by rw [size_strOfNums]; simp; omega
                refine .inr ⟨⟨2, 0, strOfNums ((r.drop 2).take v.toNat)⟩ :: m, by rw [hm]; simp, ?_, ?_, by simp at hl ⊢; omega⟩
                · rw [encL_cons, he, encI, if_neg (by simp)]
                  simp only [hsz]
                  rw [show ((v.toNat : Nat) : Int) = v by omega, h8, bytesOf_strOfNums _ (byteL_take (byteL_drop hr 2) _), h2.1]
                  simp only [List.cons_append]
                  congr 1
                  rw [List.append_assoc, ← List.drop_drop, List.take_append_drop, List.take_append_drop]
                · intro x hx
                  rcases List.mem_cons.1 hx with rfl | hx
                  · refine ⟨by simp [okB], ?_, by show (Lit.int .i64 0).wf = true; decide⟩
                    simp only [longB, hsz, Bool.and_eq_false_iff, decide_eq_false_iff_not]
                    right; omega
                  · exact hw x hx
        · rw [if_neg h2]; exact .inl rfl
theorem decF_enc (l : List S42) (hc : pack_checkV l = 0) (hw : ∀ x ∈ l, wfI x) : decF (encL l) = (l, 0) := by
  obtain ⟨h1, h2⟩ := (checkV_iff l).1 hc
  have := dec_enc l [] ((encL l).length + 1) (fun x hx => ⟨(h2 x hx).1, (h2 x hx).2, hw x hx⟩) (by simpa using h1) (by omega)
  simpa [decF] using this
theorem decF_tells (b : List Int) (hb : byteL b) : decF b = ([], 2) ∨ ∃ m, decF b = (m, 0) ∧ encL m = b ∧ pack_checkV m = 0 ∧ ∀ x ∈ m, wfI x := by
  rcases enc_dec (b.length + 1) [] b hb (by omega) (by simp) with h | ⟨m, h1, h2, h3, h4⟩
  · exact .inl h
  · exact .inr ⟨m, by simpa [decF] using h1, h2, (checkV_iff m).2 ⟨by simpa using h4, fun x hx => ⟨(h3 x hx).1, (h3 x hx).2.1⟩⟩, fun x hx => (h3 x hx).2.2⟩
/-! ### The checksum is linear, and loses nothing -/
theorem crcBit_xor (a b : Nat) : crcBit (a ^^^ b) = crcBit a ^^^ crcBit b := by
  have hm : (a ^^^ b) % 2 = (a % 2 + b % 2) % 2 := by
    have h : (a ^^^ b) % 2 = 1 ↔ ¬ (a % 2 = 1 ↔ b % 2 = 1) := Nat.xor_mod_two_eq_one
    by_cases h1 : a % 2 = 1
    · by_cases h2 : b % 2 = 1
      · have : ¬ (a ^^^ b) % 2 = 1 := fun e => (h.1 e) ⟨fun _ => h2, fun _ => h1⟩
        omega
      · have : (a ^^^ b) % 2 = 1 := h.2 (fun e => h2 (e.1 h1))
        omega
    · by_cases h2 : b % 2 = 1
      · have : (a ^^^ b) % 2 = 1 := h.2 (fun e => h1 (e.2 h2))
        omega
      · have : ¬ (a ^^^ b) % 2 = 1 := fun e => (h.1 e) ⟨fun e => absurd e h1, fun e => absurd e h2⟩
        omega
  have hd : (a ^^^ b) / 2 = a / 2 ^^^ b / 2 := by
    have := Nat.xor_div_two_pow (a := a) (b := b) (n := 1)
    simpa using this
  unfold crcBit
  by_cases h1 : a % 2 = 1
  · by_cases h2 : b % 2 = 1
    · rw [if_neg (by omega), if_pos h1, if_pos h2, hd]
      rw [Nat.xor_assoc, Nat.xor_comm 3988292384, Nat.xor_assoc (b / 2), Nat.xor_self, Nat.xor_zero]
    · rw [if_pos (by omega), if_pos h1, if_neg h2, hd, Nat.xor_assoc, Nat.xor_assoc, Nat.xor_comm (b / 2)]
  · by_cases h2 : b % 2 = 1
    · rw [if_pos (by omega), if_neg h1, if_pos h2, hd, Nat.xor_assoc]
    · rw [if_neg (by omega), if_neg h1, if_neg h2, hd]
theorem crcBits_xor (n a b : Nat) : crcBits n (a ^^^ b) = crcBits n a ^^^ crcBits n b := by
  induction n generalizing a b with
  | zero => rfl
  | succ n ih => rw [crcBits_succ, crcBit_xor, ih]; rfl
theorem crcBits_zero (n : Nat) : crcBits n 0 = 0 := by
  induction n with
  | zero => rfl
  | succ n ih => rw [crcBits_succ, show crcBit 0 = 0 from rfl, ih]
theorem crcBit_ne {s : Nat} (h : s < 4294967296) (h0 : s ≠ 0) : crcBit s ≠ 0 := by
  unfold crcBit
  split
  · intro e
    have : s / 2 = 3988292384 := by
      have h2 := congrArg (· ^^^ 3988292384) e
      simp only [Nat.xor_assoc, Nat.xor_self, Nat.xor_zero, Nat.zero_xor] at h2
      exact h2
    omega
  · omega
theorem crcBits_ne (n : Nat) {s : Nat} (h : s < 4294967296) (h0 : s ≠ 0) : crcBits n s ≠ 0 := by
  induction n generalizing s with
  | zero => exact h0
  | succ n ih => exact ih (crcBit_lt h) (crcBit_ne h h0)
theorem crcBits_even (n : Nat) (s : Nat) (h : s % 2 ^ n = 0) : crcBits n s = s / 2 ^ n := by
  induction n generalizing s with
  | zero => simp [crcBits]
  | succ n ih =>
    have h2 : s % 2 = 0 := by
      have : s % 2 = (s % 2 ^ (n + 1)) % 2 := by rw [Nat.mod_mod_of_dvd _ (by rw [Nat.pow_succ]; exact Nat.dvd_mul_left 2 _)]
      omega
    have e : crcBit s = s / 2 := by unfold crcBit; rw [if_neg (by omega)]
    rw [crcBits_succ, e, ih]
    · rw [Nat.div_div_eq_div_mul, Nat.pow_succ, Nat.mul_comm]
    · have hp : 2 ^ (n + 1) = 2 * 2 ^ n := by rw [Nat.pow_succ, Nat.mul_comm]
      have hdv : 2 * 2 ^ n ∣ s := by rw [← hp]; exact Nat.dvd_of_mod_eq_zero h
      obtain ⟨q, rfl⟩ := hdv
      rw [Nat.mul_assoc, Nat.mul_div_cancel_left _ (by omega), Nat.mul_mod_right]
def xorL : List Int → List Nat → List Int
  | a :: l, b :: m => ((a.toNat ^^^ b : Nat) : Int) :: xorL l m
  | l, _ => l
def natL (e : List Nat) : List Int := e.map (fun x : Nat => ((x : Nat) : Int))
theorem xorL_length (l : List Int) (e : List Nat) : (xorL l e).length = l.length := by
  induction l generalizing e with
  | nil => simp [xorL]
  | cons a l ih => cases e <;> simp [xorL, ih]
theorem crcByte_xor (s t : Nat) (a : Int) (b : Nat) : crcByte (s ^^^ t) ((a.toNat ^^^ b : Nat) : Int) = crcByte s a ^^^ crcByte t (b : Int) := by
  unfold crcByte
  rw [← crcBits_xor]
  congr 1
  rw [Int.toNat_natCast, Int.toNat_natCast, Nat.xor_assoc, Nat.xor_assoc, ← Nat.xor_assoc t, Nat.xor_comm t, Nat.xor_assoc]
theorem crcL_xor (l : List Int) : ∀ (e : List Nat) (s t : Nat), e.length = l.length → crcL (s ^^^ t) (xorL l e) = crcL s l ^^^ crcL t (natL e) := by
  induction l with
  | nil => intro e s t h; have : e = [] := List.eq_nil_of_length_eq_zero (by simpa using h); subst this; rfl
  | cons a l ih =>
    intro e s t h
    match e, h with
    | b :: e, h =>
      simp only [xorL, natL, List.map_cons, crcL_cons, crcByte_xor]
      exact ih e _ _ (by simpa using h)
theorem crcL_zeros (n : Nat) : crcL 0 (List.replicate n 0) = 0 := by
  induction n with
  | zero => rfl
  | succ n ih => rw [List.replicate_succ, crcL_cons, show crcByte 0 0 = 0 from crcBits_zero 8, ih]
theorem crcL_ne (l : List Int) (hl : ∀ b ∈ l, b = 0) {s : Nat} (h : s < 4294967296) (h0 : s ≠ 0) : crcL s l ≠ 0 := by
  induction l generalizing s with
  | nil => exact h0
  | cons b l ih =>
    have hb := hl b (by simp)
    subst hb
    rw [crcL_cons]
    have e : crcByte s 0 = crcBits 8 s := by unfold crcByte; simp
    rw [e]
    exact ih (fun c hc => hl c (by simp [hc])) (crcBits_lt h) (crcBits_ne 8 h h0)
theorem crcByte_low (s : Nat) : crcByte s ((s % 256 : Nat) : Int) = s / 256 := by
  unfold crcByte
  rw [Int.toNat_natCast]
  have e : s ^^^ s % 256 = 256 * (s / 256) := by
    apply Nat.eq_of_testBit_eq
    intro i
    rw [Nat.testBit_xor, show (256 : Nat) = 2 ^ 8 from rfl, Nat.testBit_mod_two_pow, Nat.testBit_two_pow_mul, Nat.testBit_div_two_pow]
    by_cases h : i < 8
    · simp [h]; omega
    · simp [h]
      have : 8 ≤ i := by omega
      simp [this]
  rw [e, crcBits_even 8 _ (by omega)]
  omega
theorem leB_nat (s n : Nat) : leB (s : Int) (n + 1) = ((s % 256 : Nat) : Int) :: leB ((s / 256 : Nat) : Int) n := by
  simp only [leB]
  congr 1
theorem crcL_self (n : Nat) : ∀ s : Nat, s < 256 ^ n → crcL s (leB (s : Int) n) = 0 := by
  induction n with
  | zero => intro s h; simp at h; subst h; rfl
  | succ n ih =>
    intro s h
    rw [leB_nat, crcL_cons, crcByte_low]
    exact ih _ (by rw [Nat.pow_succ] at h; omega)
theorem crcL_self4 (s : Nat) (h : s < 4294967296) : crcL s (leB (s : Int) 4) = 0 := crcL_self 4 s h
/-- The pattern of so many turned bits, byte by byte. -/
def patD (at_ : Nat) : Nat → Nat → Nat
  | 0, _ => 0
  | d + 1, i => patD at_ d i ^^^ (if (at_ + d) / 8 = i then 2 ^ ((at_ + d) % 8) else 0)
theorem patD_shift (p j d i : Nat) : patD (8 * p + j) d (p + i) = patD j d i := by
  induction d with
  | zero => rfl
  | succ d ih =>
    simp only [patD, ih]
    have e1 : (8 * p + j + d) / 8 = p + (j + d) / 8 := by omega
    have e2 : (8 * p + j + d) % 8 = (j + d) % 8 := by omega
    rw [e1, e2]
    by_cases h : (j + d) / 8 = i
    · rw [if_pos (by omega), if_pos h]
    · rw [if_neg (by omega), if_neg h]
theorem patD_low (at_ d i : Nat) (h : i < at_ / 8) : patD at_ d i = 0 := by
  induction d with
  | zero => rfl
  | succ d ih => rw [patD, ih, if_neg (by omega)]; rfl
theorem patD_high (at_ d i : Nat) (h : (at_ + d) / 8 < i) : patD at_ d i = 0 := by
  induction d with
  | zero => rfl
  | succ d ih => rw [patD, ih (by omega), if_neg (by omega)]; rfl
theorem patD_byte (at_ d i : Nat) : patD at_ d i < 256 := by
  induction d with
  | zero => show 0 < 256; decide
  | succ d ih =>
    rw [patD]
    refine Nat.xor_lt_two_pow (n := 8) ih ?_
    split
    · exact Nat.pow_lt_pow_right (by decide) (by omega)
    · decide
def patL (at_ d N : Nat) : List Nat := (List.range' 0 N).map (patD at_ d)
theorem small_pat : ∀ j, j < 8 → ∀ d, d < 4 → 1 ≤ d → patD j d 0 ≠ 0 ∧ crcByte 0 ((patD j d 0 : Nat) : Int) ≠ patD j d 1 := by decide +kernel
theorem natL_append (a b : List Nat) : natL (a ++ b) = natL a ++ natL b := by simp [natL]
theorem natL_zero (l : List Nat) (h : ∀ x ∈ l, x = 0) : ∀ b ∈ natL l, b = 0 := by
  intro b hb
  simp only [natL, List.mem_map] at hb
  obtain ⟨x, hx, rfl⟩ := hb
  rw [h x hx]; rfl
theorem crcL_zero_all (l : List Int) (h : ∀ b ∈ l, b = 0) : crcL 0 l = 0 := by
  have : l = List.replicate l.length 0 := List.eq_replicate_iff.2 ⟨rfl, h⟩
  rw [this]; exact crcL_zeros _
theorem pat_ne (at_ d N : Nat) (h1 : 1 ≤ d) (h3 : d ≤ 3) (hN : at_ + d ≤ 8 * N) : crcL 0 (natL (patL at_ d N)) ≠ 0 := by
  obtain ⟨p, j, hj, rfl⟩ : ∃ p j, j < 8 ∧ at_ = 8 * p + j := ⟨at_ / 8, at_ % 8, by omega, by omega⟩
  obtain ⟨r, rfl⟩ : ∃ r, N = p + (1 + r) := ⟨N - p - 1, by omega⟩
  obtain ⟨s0, s1⟩ := small_pat j hj d (by omega) h1
  have e0 : patD (8 * p + j) d p = patD j d 0 := patD_shift p j d 0
  have hb := patD_byte j d 0
  have hlt : crcByte 0 ((patD j d 0 : Nat) : Int) < 4294967296 := crcBits_lt (Nat.xor_lt_two_pow (n := 32) (by decide) (by simp; omega))
  have hne : crcByte 0 ((patD j d 0 : Nat) : Int) ≠ 0 := by
    unfold crcByte
    simp only [Int.toNat_natCast, Nat.zero_xor]
    exact crcBits_ne 8 (by omega) s0
  have hz : crcL 0 (natL ((List.range' 0 p).map (patD (8 * p + j) d))) = 0 := crcL_zero_all _ (natL_zero _ (fun x hx => by
    simp only [List.mem_map, List.mem_range'_1] at hx
    obtain ⟨i, hi, rfl⟩ := hx
    exact patD_low _ _ _ (by omega)))
  unfold patL
  rw [← List.range'_append_1, List.map_append, natL_append, crcL_append, hz, Nat.zero_add]
  rw [show 1 + r = r + 1 by omega, List.range'_succ, List.map_cons, natL, List.map_cons, crcL_cons, e0]
  cases r with
  | zero => simpa [crcL_nil] using hne
  | succ r =>
    rw [List.range'_succ, List.map_cons, List.map_cons, crcL_cons, patD_shift p j d 1]
    have hb1 := patD_byte j d 1
    refine crcL_ne _ ?_ (crcBits_lt (Nat.xor_lt_two_pow (n := 32) hlt (by simp; omega))) ?_
    · refine natL_zero _ (fun x hx => ?_)
      simp only [List.mem_map, List.mem_range'_1] at hx
      obtain ⟨i, hi, rfl⟩ := hx
      exact patD_high _ _ _ (by omega)
    · refine crcBits_ne 8 (Nat.xor_lt_two_pow (n := 32) hlt (by simp; omega)) ?_
      intro e
      apply s1
      have := congrArg (· ^^^ patD j d 1) e
      simpa [Nat.xor_assoc] using this
theorem xor_cat (a b x y : Nat) (ha : a < 256) (hb : b < 256) : (a + 256 * x) ^^^ (b + 256 * y) = (a ^^^ b) + 256 * (x ^^^ y) := by
  have hab : a ^^^ b < 256 := Nat.xor_lt_two_pow (n := 8) ha hb
  apply Nat.eq_of_testBit_eq
  intro i
  have t : ∀ c z, c < 256 → (c + 256 * z).testBit i = if i < 8 then c.testBit i else z.testBit (i - 8) := fun c z hc => by
    rw [Nat.add_comm]
    exact Nat.testBit_two_pow_mul_add z (i := 8) hc i
  rw [Nat.testBit_xor, t a x ha, t b y hb, t _ _ hab]
  split <;> simp [Nat.testBit_xor]
theorem getV_xor (l : List Int) : ∀ e : List Nat, e.length = l.length → byteL l → (∀ x ∈ e, x < 256) → getV (xorL l e) = (((getV l).toNat ^^^ (getV (natL e)).toNat : Nat) : Int) := by
  induction l with
  | nil => intro e h _ _; have : e = [] := List.eq_nil_of_length_eq_zero (by simpa using h); subst this; rfl
  | cons a l ih =>
    intro e h hb he
    match e, h, he with
    | b :: e, h, he =>
      obtain ⟨a0, a1, hl⟩ := byteL_cons hb
      have hbb := he b (by simp)
      have hee : ∀ x ∈ e, x < 256 := fun x hx => he x (by simp [hx])
      have hne : byteL (natL e) := by
        intro x hx
        simp only [natL, List.mem_map] at hx
        obtain ⟨y, hy, rfl⟩ := hx
        have := hee y hy
        omega
      have g1 := (getV_range l hl).1
      have g2 := (getV_range (natL e) hne).1
      have h2 := ih e (by simpa using h) hl hee
      simp only [xorL, natL, List.map_cons, getV]
      rw [h2]
      have e1 : (a + 256 * getV l).toNat = a.toNat + 256 * (getV l).toNat := by omega
      have e2 : ((b : Int) + 256 * getV (natL e)).toNat = b + 256 * (getV (natL e)).toNat := by omega
      show _ = (((a + 256 * getV l).toNat ^^^ ((b : Int) + 256 * getV (natL e)).toNat : Nat) : Int)
      rw [e1, e2, xor_cat _ _ _ _ (by omega) hbb]
      omega
def sealL (l : List Int) : List Int := l ++ leB (crcV l) 4
theorem xorL_append (a b : List Int) (e f : List Nat) (h : e.length = a.length) : xorL (a ++ b) (e ++ f) = xorL a e ++ xorL b f := by
  induction a generalizing e with
  | nil => have : e = [] := List.eq_nil_of_length_eq_zero (by simpa using h); subst this; rfl
  | cons x a ih =>
    match e, h with
    | y :: e, h => simp only [List.cons_append, xorL]; rw [ih e (by simpa using h)]
theorem turned_open (l : List Int) (hl : byteL l) (e : List Nat) (he : e.length = l.length + 4) (hb : ∀ x ∈ e, x < 256) (hne : crcL 0 (natL e) ≠ 0) : openL (xorL (sealL l) e) = ([], 16) := by
  obtain ⟨em, ec, rfl, hm, hc⟩ : ∃ em ec, e = em ++ ec ∧ em.length = l.length ∧ ec.length = 4 := ⟨e.take l.length, e.drop l.length, by simp, by simp; omega, by simp; omega⟩
  have hbm : ∀ x ∈ em, x < 256 := fun x hx => hb x (by simp [hx])
  have hbc : ∀ x ∈ ec, x < 256 := fun x hx => hb x (by simp [hx])
  have hcl : crcL 4294967295 l < 4294967296 := crcL_lt (by decide) hl
  have hcr := crcV_range l hl
  have hlen : (xorL (sealL l) (em ++ ec)).length = l.length + 4 := by rw [xorL_length]; simp [sealL, leB_length]
  have hxm : (xorL l em).length = l.length := xorL_length _ _
  rw [openL, if_neg (by omega), hlen, show l.length + 4 - 4 = l.length by omega, sealL, xorL_append _ _ _ _ hm]
  rw [List.drop_append_of_le_length (by omega), List.drop_eq_nil_of_le (by omega), List.nil_append, List.take_append_of_le_length (by omega), List.take_of_length_le (by omega)]
  rw [if_neg]
  intro h
  apply hne
  have hnc : byteL (natL ec) := by
    intro x hx
    simp only [natL, List.mem_map] at hx
    obtain ⟨y, hy, rfl⟩ := hx
    have := hbc y hy
    omega
  have hg := getV_range (natL ec) hnc
  rw [show (natL ec).length = 4 by simp [natL, hc]] at hg
  rw [getV_xor _ ec (by rw [leB_length, hc]) (byteL_leB _ _) hbc, getV_leB _ 4 hcr.1 (by omega)] at h
  have hx := crcL_xor l em 4294967295 0 hm
  rw [Nat.xor_zero] at hx
  unfold crcV at h
  rw [hx, Int.toNat_natCast] at h
  have h2 : ((crcL 4294967295 l ^^^ 4294967295) ^^^ (getV (natL ec)).toNat) = ((crcL 4294967295 l ^^^ crcL 0 (natL em)) ^^^ 4294967295) := by exact_mod_cast h
  have h3 : (getV (natL ec)).toNat = crcL 0 (natL em) := by
    have := congrArg (fun z => (crcL 4294967295 l ^^^ 4294967295) ^^^ z) h2
    simp only [← Nat.xor_assoc, Nat.xor_self, Nat.zero_xor] at this
    rw [this]
    rw [Nat.xor_assoc (crcL 4294967295 l), Nat.xor_comm 4294967295, ← Nat.xor_assoc (crcL 4294967295 l), Nat.xor_self, Nat.zero_xor, Nat.xor_comm 4294967295, Nat.xor_assoc, Nat.xor_self, Nat.xor_zero]
  have h4 : natL ec = leB ((crcL 0 (natL em) : Nat) : Int) 4 := by
    rw [← h3]
    have h5 := leB_getV (natL ec) hnc
    rw [show (natL ec).length = 4 by simp [natL, hc]] at h5
    rw [show (((getV (natL ec)).toNat : Nat) : Int) = getV (natL ec) by omega]
    exact h5.symm
  rw [natL_append, crcL_append, h4]
  refine crcL_self4 _ (crcL_lt (by decide) ?_)
  intro x hx
  simp only [natL, List.mem_map] at hx
  obtain ⟨y, hy, rfl⟩ := hx
  have := hbm y hy
  omega
theorem sealL_length (l : List Int) : (sealL l).length = l.length + 4 := by simp [sealL, leB_length]
theorem sealL_byteL {l : List Int} (h : byteL l) : byteL (sealL l) := byteL_append h (byteL_leB _ _)
theorem seal_val (l : List Int) (hl : byteL l) (hm : l.length ≤ 140737488351232) : pack_Seal.f (10 * l.length + 20) l = some (sealL l) := by
  have hcr := crcV_range l hl
  have h1 : pack_Crc.f (10 * l.length + 20) l = some (crcV l) := by
    have h := crc_tells l hl (by omega) l.length (10 * l.length + 20) 0 4294967295 (by decide) (by omega) (by omega)
    simpa [pack_Crc.f, crcV] using h
  have h2 : pack_put.f (10 * l.length + 20) l (crcV l) 4 = some (l ++ leB (crcV l) 4) := by
    rw [pack_put.f]
    exact put_tells 4 (by omega) 4 (10 * l.length + 20) (crcV l) l 0 (by omega) (by omega) (by omega) (by omega)
  unfold pack_Seal.f
  rw [bytes_Clone.f, if_pos (by omega), h1]
  simp only [Option.bind_some]
  rw [u64_id _ hcr.1 (by omega), h2]
  rfl
theorem sealW (A : Option Addr) (c : Nat) (l : List Int) (w : World) (hr : Kd.C (Kd.int .u8) w A l.length l) (hc : l.length ≤ c) (hb : byteL l) (hl : l.length ≤ 140737488351232) :
    Calls Tryd.prog 11 #[.slice A l.length c] w fun e w' => ∃ g c', e = .returned (.slice (some ⟨g, 0, none⟩) (sealL l).length c') ∧ Aside0 (Kd.R (Kd.int .u8) 5 w' w.heap.size (fun _ => True) (.slice (some ⟨g, 0, none⟩) (sealL l).length c') (sealL l)) ∧ Aside0 (Below w.heap.size w w') := by
  refine (pack_Seal.calls _ A c l _ w hr hc (seal_val l hb hl)).mono ?_
  rintro e w' ⟨v, rfl, hR, hB⟩
  obtain ⟨inner, ho⟩ := Kd.R_own hR
  rcases ho.2 with ⟨rfl, h0⟩ | ⟨g, cap, cur, rfl, _⟩
  · exfalso
    rw [sealL_length] at h0
    omega
  · exact ⟨g, cap, rfl, ⟨hR⟩, ⟨hB⟩⟩
theorem openW (A : Option Addr) (c : Nat) (b : List Int) (w : World) (hr : Kd.C (Kd.int .u8) w A b.length b) (hc : b.length ≤ c) (hb : byteL b) (hl : b.length ≤ 140737488355328) :
    Calls Tryd.prog 12 #[.slice A b.length c] w fun e w' => ∃ A' c', e = .returned (.tuple #[.slice A' (openL b).1.length c', .int .i64 (openL b).2]) ∧ Aside0 (Kd.C (Kd.int .u8) w' A' (openL b).1.length (openL b).1) ∧ Aside0 ((openL b).1.length ≤ c') ∧ Aside0 (Below w.heap.size w w') := by
  refine (pack_Open.calls A c b _ _ w hr hc (by rw [pack_Open.f, if_pos ⟨byteB_iff.2 hb, hl⟩])).mono ?_
  rintro e w' ⟨v, rfl, hR, hB⟩
  obtain ⟨A', c', rfl, hl, hC⟩ := Kd.R_reads hR
  exact ⟨A', c', rfl, ⟨hC⟩, ⟨hl⟩, ⟨hB⟩⟩
theorem sealL_take (l : List Int) : (sealL l).take l.length = l := by simp [sealL]
theorem sealL_drop (l : List Int) : (sealL l).drop l.length = leB (crcV l) 4 := by simp [sealL]
theorem openL_seal (l : List Int) (hl : byteL l) : openL (sealL l) = (l, 0) := by
  have hcr := crcV_range l hl
  unfold openL
  rw [sealL_length, if_neg (by omega), show l.length + 4 - 4 = l.length by omega, sealL_take, sealL_drop, getV_leB _ 4 hcr.1 (by omega), if_pos rfl]
/-! ### The reference's decoder -/
theorem bytesOf_extract (s : ByteArray) (i j : Nat) : bytesOf (s.extract i j) = ((bytesOf s).take j).drop i := by
  simp only [bytesOf, ByteArray.data_extract, Array.toList_extract]
  simp [List.map_drop, List.map_take, List.extract_eq_take_drop, List.drop_take]
theorem number_tells (s : ByteArray) (h8 : s.size ≤ 8) : ∀ (d k : Nat), d ≤ s.size → d < k → cisternref03_number.l0 k s (getV ((bytesOf s).drop d)) ((d : Int) - 1) = some (getV (bytesOf s)) := by
  have hb := bytesOf_byteL s
  have hlen := bytesOf_length s
  intro d
  induction d with
  | zero =>
    intro k _ hk
    obtain ⟨k, rfl⟩ : ∃ m, k = m + 1 := ⟨k - 1, by omega⟩
    simp only [cisternref03_number.l0]
    rw [if_neg (by omega)]
    simp
  | succ d ih =>
    intro k hd hk
    obtain ⟨k, rfl⟩ : ∃ m, k = m + 1 := ⟨k - 1, by omega⟩
    simp only [cisternref03_number.l0]
    rw [show (((d + 1 : Nat) : Int) - 1) = (d : Int) by omega, if_pos (by omega), if_pos (by omega), if_pos (by omega), ← rd_bytesOf]
    have hdl : d < (bytesOf s).length := by omega
    obtain ⟨e, b0, b1⟩ := rd_nat (bytesOf s) hb d hdl
    have hg := getV_range ((bytesOf s).drop (d + 1)) (byteL_drop hb _)
    have hp : (256 : Int) ^ ((bytesOf s).drop (d + 1)).length ≤ 256 ^ 7 := by
      have h1 : ((bytesOf s).drop (d + 1)).length ≤ 7 := by simp; omega
      have h2 := Nat.pow_le_pow_right (show 0 < 256 by decide) h1
      have e1 : (256 : Int) ^ ((bytesOf s).drop (d + 1)).length = ((256 ^ ((bytesOf s).drop (d + 1)).length : Nat) : Int) := by rw [Int.natCast_pow]; rfl
      have e2 : (256 : Int) ^ 7 = ((256 ^ 7 : Nat) : Int) := by decide
      rw [e1, e2]
      exact Int.ofNat_le.2 h2
    have hd2 : (bytesOf s).drop d = (bytesOf s)[d] :: (bytesOf s).drop (d + 1) := List.drop_eq_getElem_cons hdl
    have hv : getV ((bytesOf s).drop d) = (bytesOf s)[d] + 256 * getV ((bytesOf s).drop (d + 1)) := by rw [hd2, getV]
    have q1 := u64_id (getV ((bytesOf s).drop (d + 1)) * 256) (by omega) (by omega)
    have q2 := u64_id ((bytesOf s)[d]) b0 (by omega)
    have q3 := u64_id (getV ((bytesOf s).drop (d + 1)) * 256 + (bytesOf s)[d]) (by omega) (by omega)
    rw [e, q1, q2, q3, show wrap64 ((d : Int) - 1) = (d : Int) - 1 by unfold wrap64; omega]
    rw [show getV ((bytesOf s).drop (d + 1)) * 256 + (bytesOf s)[d] = getV ((bytesOf s).drop d) by omega]
    exact ih k (by omega) (by omega)
theorem number_val (s : ByteArray) (h8 : s.size ≤ 8) (k : Nat) (hk : 9 ≤ k) : cisternref03_number.f k s = some (getV (bytesOf s)) := by
  have h := number_tells s h8 s.size k (Nat.le_refl _) (by omega)
  rw [List.drop_eq_nil_of_le (by rw [bytesOf_length]; omega)] at h
  rw [cisternref03_number.f, show wrap64 ((s.size : Int) - 1) = (s.size : Int) - 1 by unfold wrap64; omega]
  exact h
theorem rd_drop {l : List S42} {i : Nat} (h : i < l.length) : l.drop i = rd_T42 l (i : Int) :: l.drop (i + 1) := by
  rw [List.drop_eq_getElem_cons h]
  simp [rd_T42, List.getD_eq_getElem?_getD, List.getElem?_eq_getElem h]
theorem strOfNums_nil : strOfNums [] = ⟨#[]⟩ := rfl
theorem wf_u8 {l : List Int} (h : ∀ v ∈ l, (Lit.int .u8 v).wf = true) : byteL l := by
  intro b hb
  have := h b hb
  simpa [Lit.wf, IntKind.min, IntKind.max, IntKind.signed, IntKind.bits] using this
/-! ### Contracts without rounds -/
def encR (l : List S42) : List Int := if pack_checkV l = 0 then encL l else []
theorem encR_byteL (l : List S42) : byteL (encR l) := by
  unfold encR
  split
  · exact encL_byteL l
  · intro b hb; cases hb
theorem encR_len (l : List S42) : (encR l).length ≤ 200012000 := by
  unfold encR
  split
  · rename_i h
    have := encL_take_len (check_ok h).1 l.length
    rwa [List.take_length] at this
  · simp
theorem encW (A : Option Addr) (c : Nat) (l : List S42) (w : World) (hr : Kd.C k42 w A l.length l) (hc : l.length ≤ c) :
    Calls Tryd.prog 15 #[.slice A l.length c] w fun e w' => ∃ A' c', e = .returned (.tuple #[.slice A' (encR l).length c', .int .i64 (pack_checkV l)]) ∧ Aside0 (Kd.C (Kd.int .u8) w' A' (encR l).length (encR l)) ∧ Aside0 ((encR l).length ≤ c') ∧ Aside0 (Below w.heap.size w w') := by
  refine (pack_Encode.calls A c l _ _ w hr hc rfl).mono ?_
  rintro e w' ⟨v, rfl, hR, hB⟩
  obtain ⟨A', c', rfl, hl, hC⟩ := Kd.R_reads hR
  exact ⟨A', c', rfl, ⟨hC⟩, ⟨hl⟩, ⟨hB⟩⟩
theorem decW (A : Option Addr) (c : Nat) (b : List Int) (w : World) (hr : Kd.C (Kd.int .u8) w A b.length b) (hc : b.length ≤ c) (hb : byteL b) (hl : b.length ≤ 140737488351232) :
    Calls Tryd.prog 14 #[.slice A b.length c] w fun e w' => ∃ A' c', e = .returned (.tuple #[.slice A' (decF b).1.length c', .int .i64 (decF b).2]) ∧ Aside0 (Kd.C k42 w' A' (decF b).1.length (decF b).1) ∧ Aside0 ((decF b).1.length ≤ c') ∧ Aside0 (Below w.heap.size w w') := by
  refine (pack_Decode.calls _ (fun k => k < w.heap.size) A c b _ _ w (Kd.V_mk hc (Kd.C_F (Kd.heap_int .u8) hr)) (decode_val b hb hl _ (Nat.le_refl _))).mono ?_
  rintro e w' ⟨v, rfl, hR, hB⟩
  obtain ⟨A', c', rfl, hl, hC⟩ := Kd.R_reads hR
  exact ⟨A', c', rfl, ⟨hC⟩, ⟨hl⟩, ⟨hB⟩⟩
theorem S46_ext {x y : S42} (h0 : x.f0 = y.f0) (h1 : x.f1 = y.f1) (h2 : x.f2 = y.f2) : x = y := by
  cases x; cases y; simp_all
open Classical in
noncomputable def sameB (l m : List S42) : Bool := decide (l = m)
open Classical in
theorem same_tells (l m : List S42) (hlm : l.length = m.length) (hl : l.length ≤ 9223372036854775806) : ∀ (d k i : Nat), i + d = l.length → d < k → cisternref03_Same.l0 k l m (i : Int) = some (decide (l.drop i = m.drop i)) := by
  intro d
  induction d with
  | zero =>
    intro k i hd hk
    obtain ⟨k, rfl⟩ : ∃ m, k = m + 1 := ⟨k - 1, by omega⟩
    simp only [cisternref03_Same.l0]
    rw [if_neg (by omega), List.drop_eq_nil_of_le (by omega), List.drop_eq_nil_of_le (by omega)]
    simp
  | succ d ih =>
    intro k i hd hk
    obtain ⟨k, rfl⟩ : ∃ m, k = m + 1 := ⟨k - 1, by omega⟩
    simp only [cisternref03_Same.l0]
    rw [if_pos (by omega), if_pos (by omega), if_pos (by omega), rd_drop (show i < l.length by omega), rd_drop (show i < m.length by omega), show wrap64 ((i : Int) + 1) = ((i + 1 : Nat) : Int) by unfold wrap64; omega, ih k (i + 1) (by omega) (by omega)]
    generalize rd_T42 l (i : Int) = x
    generalize rd_T42 m (i : Int) = y
    by_cases hxy : x = y
    · subst hxy; simp
    · rw [if_pos]
      · simp [hxy]
      · by_cases h0 : x.f0 = y.f0
        · by_cases h1 : x.f1 = y.f1
          · have h2 : ¬ x.f2.toList = y.f2.toList := fun h => hxy (S46_ext h0 h1 (toList_inj'.1 h))
            simp [h2]
          · simp [h1]
        · simp [h0]
theorem sameW (A0 : Option Addr) (c0 : Nat) (l0 : List S42) (A1 : Option Addr) (c1 : Nat) (l1 : List S42) (w : World) (hr0 : Kd.C k42 w A0 l0.length l0) (hc0 : l0.length ≤ c0) (hr1 : Kd.C k42 w A1 l1.length l1) (hc1 : l1.length ≤ c1) (hl : l0.length ≤ 140737488351232) :
    Calls Tryd.prog 16 #[.slice A0 l0.length c0, .slice A1 l1.length c1] w fun e w' => e = .returned (.bool (sameB l0 l1)) ∧ Drawn0 w w' := by
  refine cisternref03_Same.calls (l0.length + 1) A0 c0 l0 A1 c1 l1 _ w hr0 hc0 hr1 hc1 ?_
  unfold cisternref03_Same.f
  by_cases h : l0.length = l1.length
  · rw [if_pos (by omega)]
    have := same_tells l0 l1 h (by omega) l0.length (l0.length + 1) 0 (by omega) (by omega)
    refine this.trans ?_
    unfold sameB
    simp
  · rw [if_neg (by omega)]
    have : sameB l0 l1 = false := by simp [sameB]; intro e; exact h (by rw [e])
    rw [this]
theorem sameB_self (l : List S42) : sameB l l = true := by simp [sameB]
end Go.Proofs.YtgjhhbljbnbjkaaDoor.PA
