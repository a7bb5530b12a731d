import Derived.Test.YtenjcgkabmlpkaaDoorPAx
import Derived.Lib.SplitLaws
import Derived.Lib.IndexLaws
namespace Go.Proofs.YtenjcgkabmlpkaaDoor.PA
open Go.RowKit Go.Proofs.YtenjcgkabmlpkaaDoorW.PrintWords Go.Proofs.YtenjcgkabmlpkaaDoorW.PrintLast Go.Proofs.YtenjcgkabmlpkaaDoorW.PrintMore
set_option linter.unusedVariables false
set_option linter.unusedSimpArgs false
/-! ### Splitting -/
abbrev LL (s : ByteArray) : List UInt8 := s.data.toList
theorem LL_inj {a b : ByteArray} (h : LL a = LL b) : a = b := ByteArray.ext (Array.toList_inj.1 h)
theorem LL_len (a : ByteArray) : (LL a).length = a.size := by simp [LL]
theorem LL_append (a b : ByteArray) : LL (a ++ b) = LL a ++ LL b := by simp [LL]
theorem LL_extract (s : ByteArray) (i j : Nat) : LL (s.extract i j) = ((LL s).take j).drop i := by
  simp only [LL, ByteArray.data_extract, Array.toList_extract]
  simp [List.extract_eq_take_drop, List.drop_take]
theorem mapLL_inj : ∀ {a b : List ByteArray}, a.map LL = b.map LL → a = b
  | [], [], _ => rfl
  | [], _ :: _, h => by simp at h
  | _ :: _, [], h => by simp at h
  | x :: a, y :: b, h => by
    simp only [List.map_cons, List.cons.injEq] at h
    rw [LL_inj h.1, mapLL_inj h.2]
theorem splitL_ne (c : UInt8) : ∀ l, splitL c l ≠ []
  | [] => by simp [splitL]
  | b :: l => by
    unfold splitL
    split
    · simp
    · split <;> simp
theorem splitL_no (c : UInt8) : ∀ (n : List UInt8), c ∉ n → splitL c n = [n]
  | [], _ => rfl
  | b :: l, h => by
    have h1 : ¬ b = c := fun e => h (by simp [e])
    have h2 : c ∉ l := fun e => h (by simp [e])
    rw [splitL, if_neg h1, splitL_no c l h2]
theorem splitL_hit (c : UInt8) (b : List UInt8) : ∀ (a : List UInt8), c ∉ a → splitL c (a ++ c :: b) = a :: splitL c b
  | [], _ => by simp [splitL]
  | x :: a, h => by
    have h1 : ¬ x = c := fun e => h (by simp [e])
    have h2 : c ∉ a := fun e => h (by simp [e])
    rw [List.cons_append, splitL, if_neg h1, splitL_hit c b a h2]
theorem indexByte_no (c : UInt8) : ∀ (l : List UInt8), c ∉ l → Lib.indexByte l c = -1
  | [], _ => rfl
  | b :: l, h => by
    have h1 : ¬ b = c := fun e => h (by simp [e])
    have h2 : c ∉ l := fun e => h (by simp [e])
    simp [Lib.indexByte, h1, indexByte_no c l h2]
theorem indexByte_hit (c : UInt8) (b : List UInt8) : ∀ (a : List UInt8), c ∉ a → Lib.indexByte (a ++ c :: b) c = (a.length : Int)
  | [], _ => by simp [Lib.indexByte]
  | x :: a, h => by
    have h1 : ¬ x = c := fun e => h (by simp [e])
    have h2 : c ∉ a := fun e => h (by simp [e])
    have ih := indexByte_hit c b a h2
    rw [List.cons_append, Lib.indexByte, ih]
    simp [h1]
    try omega
theorem splitK_L (c : UInt8) : ∀ (k : Nat) (l : List UInt8), l.count c = k → Lib.splitK [c] 0 k l = splitL c l := by
  intro k
  induction k with
  | zero =>
    intro l h
    rw [Lib.splitK, splitL_no c l (List.count_eq_zero.1 h)]
  | succ k ih =>
    intro l h
    have hm : c ∈ l := List.count_pos_iff.1 (by omega)
    obtain ⟨a, b, rfl, ha⟩ := List.eq_append_cons_of_mem hm
    have hc : b.count c = k := by
      rw [List.count_append, List.count_cons_self, List.count_eq_zero.2 ha] at h
      omega
    rw [Lib.splitK, Lib.index_one, indexByte_hit c b a ha, splitL_hit c b a ha, if_neg (by simp)]
    have e1 : (a ++ c :: b).take (((a.length : Int)).toNat + 0) = a := by simp
    have e2 : (a ++ c :: b).drop (((a.length : Int)).toNat + [c].length) = b := by
      rw [Int.toNat_natCast, List.length_singleton, List.drop_append]
      simp
    rw [e1, e2, ih b hc]
theorem splitS_data (s : ByteArray) : (splitS s).map LL = splitL 47 (LL s) := by
  have h := Lib.splitB_data ⟨#[47]⟩ 0 (Lib.countB s ⟨#[47]⟩) s
  have e : Lib.countB s ⟨#[47]⟩ = (LL s).count 47 := by unfold Lib.countB; exact Lib.count_one _ _
  refine h.trans ?_
  exact splitK_L 47 _ _ e.symm
theorem splitS_no (s : ByteArray) (h : 47 ∉ LL s) : splitS s = [s] := mapLL_inj (by rw [splitS_data, splitL_no _ _ h]; rfl)
theorem splitS_hit (s : ByteArray) (a b : List UInt8) (e : LL s = a ++ 47 :: b) (h : 47 ∉ a) : splitS s = s.extract 0 a.length :: splitS (s.extract (a.length + 1) s.size) := by
  apply mapLL_inj
  rw [splitS_data, List.map_cons, splitS_data, LL_extract, LL_extract, e, splitL_hit _ _ _ h]
  have hl := LL_len s
  rw [e] at hl
  congr 1
  · simp
  · rw [List.take_of_length_le (by omega), List.drop_append]
    have e0 : List.drop (a.length + 1) a = [] := List.drop_eq_nil_of_le (by omega)
    rw [e0]
    simp
theorem okc_no : okc 47 = false := by decide
theorem name_noslash {n : ByteArray} (h : nameB n = true) : 47 ∉ LL n := by
  intro hm
  unfold nameB at h
  simp only [Bool.and_eq_true] at h
  have := List.all_eq_true.1 h.2 47 hm
  rw [okc_no] at this
  cases this
theorem name_len {n : ByteArray} (h : nameB n = true) : 1 ≤ n.size ∧ n.size ≤ 16 := by
  unfold nameB at h
  simp only [Bool.and_eq_true, decide_eq_true_eq] at h
  exact ⟨h.1.1.1.1, h.1.1.1.2⟩
/-! ### Joining -/
def joinL (nl : List (List UInt8)) : List UInt8 := nl.flatMap (fun n => 47 :: n)
theorem joinL_nil : joinL [] = [] := rfl
theorem joinL_cons (n : List UInt8) (m : List (List UInt8)) : joinL (n :: m) = 47 :: (n ++ joinL m) := by simp [joinL]
theorem joinL_append (a b : List (List UInt8)) : joinL (a ++ b) = joinL a ++ joinL b := by simp [joinL]
theorem splitL_join : ∀ (m : List (List UInt8)) (n : List UInt8), (∀ x ∈ n :: m, 47 ∉ x) → splitL 47 (n ++ joinL m) = n :: m
  | [], n, h => by rw [joinL_nil, List.append_nil, splitL_no 47 n (h n (by simp))]
  | x :: m, n, h => by
    rw [joinL_cons, splitL_hit 47 _ n (h n (by simp)), splitL_join m x (fun y hy => h y (by simp [hy]))]
theorem joinL_split : ∀ (k : Nat) (l : List UInt8), l.length ≤ k → joinL (splitL 47 l) = 47 :: l := by
  intro k
  induction k with
  | zero =>
    intro l h
    have : l = [] := List.length_eq_zero_iff.1 (by omega)
    subst this
    rfl
  | succ k ih =>
    intro l h
    by_cases hm : 47 ∈ l
    · obtain ⟨a, b, rfl, ha⟩ := List.eq_append_cons_of_mem hm
      rw [splitL_hit 47 b a ha, joinL_cons, ih b (by simp at h; omega)]
    · rw [splitL_no 47 l hm, joinL_cons, joinL_nil, List.append_nil]
def joinB (nl : List ByteArray) : ByteArray := ⟨(joinL (nl.map LL)).toArray⟩
theorem LL_mk (l : List UInt8) : LL ⟨l.toArray⟩ = l := by simp [LL]
theorem LL_joinB (nl : List ByteArray) : LL (joinB nl) = joinL (nl.map LL) := LL_mk _
theorem joinL_len (nl : List ByteArray) (h : nl.all nameB = true) : (joinL (nl.map LL)).length ≤ 17 * nl.length := by
  induction nl with
  | nil => simp [joinL]
  | cons n m ih =>
    simp only [List.all_cons, Bool.and_eq_true] at h
    have := ih h.2
    have h2 := (name_len h.1).2
    rw [List.map_cons, joinL_cons, List.length_cons, List.length_append, LL_len, List.length_cons]
    omega
def tl (s : ByteArray) : ByteArray := s.extract 1 s.size
theorem LL_tl (s : ByteArray) : LL (tl s) = (LL s).tail := by
  unfold tl
  rw [LL_extract, List.take_of_length_le (by rw [LL_len]; exact Nat.le_refl _)]
  simp
def parseV (s : ByteArray) : List ByteArray × Int :=
  if LL s = [47] then ([], 0) else if (LL s).head? = some 47 then (if rightB (splitS (tl s)) = true then (splitS (tl s), 0) else ([], 6)) else ([], 6)
theorem head_cons {s : ByteArray} (h : (LL s).head? = some 47) : LL s = 47 :: LL (tl s) := by
  rw [LL_tl]
  cases hs : LL s with
  | nil => rw [hs] at h; cases h
  | cons x t => rw [hs] at h; simp only [List.head?_cons, Option.some.injEq] at h; subst h; rfl
theorem join_split (s : ByteArray) (h : (LL s).head? = some 47) : joinB (splitS (tl s)) = s := by
  apply LL_inj
  rw [LL_joinB, splitS_data, joinL_split _ _ (Nat.le_refl _), ← head_cons h]
theorem splitS_ne (s : ByteArray) : splitS s ≠ [] := by
  intro h
  have := splitS_data s
  rw [h] at this
  exact splitL_ne 47 _ this.symm
theorem all_noslash {nl : List ByteArray} (h : nl.all nameB = true) : ∀ x ∈ nl.map LL, 47 ∉ x := by
  intro x hx
  obtain ⟨n, hn, rfl⟩ := List.mem_map.1 hx
  exact name_noslash (List.all_eq_true.1 h n hn)
theorem split_join {nl : List ByteArray} (h0 : nl ≠ []) (h : nl.all nameB = true) : splitS (tl (joinB nl)) = nl := by
  apply mapLL_inj
  rw [splitS_data, LL_tl, LL_joinB]
  cases nl with
  | nil => exact absurd rfl h0
  | cons n m =>
    rw [List.map_cons, joinL_cons, List.tail_cons]
    exact splitL_join _ _ (all_noslash h)
/-- A path that is in form: its names. -/
theorem parse_join {nl : List ByteArray} (h0 : nl ≠ []) (h : rightB nl = true) : parseV (joinB nl) = (nl, 0) := by
  have ha : nl.all nameB = true := by unfold rightB at h; simp only [Bool.and_eq_true] at h; exact h.2
  unfold parseV
  rw [split_join h0 ha, h]
  cases nl with
  | nil => exact absurd rfl h0
  | cons n m =>
    have h1 : 1 ≤ n.size := by simp only [List.all_cons, Bool.and_eq_true] at ha; exact (name_len ha.1).1
    have e : LL (joinB (n :: m)) = 47 :: (LL n ++ joinL (m.map LL)) := by rw [LL_joinB, List.map_cons, joinL_cons]
    rw [e]
    have h2 := LL_len n
    rw [if_neg (by
      intro hh
      simp only [List.cons.injEq, true_and, List.append_eq_nil_iff] at hh
      rw [hh.1] at h2
      simp at h2
      omega), if_pos (by rfl), if_pos rfl]
theorem parse_ok {s : ByteArray} {nl : List ByteArray} {e : Int} (h : parseV s = (nl, e)) (he : e = 0) : (LL s = [47] ∧ nl = []) ∨ (nl ≠ [] ∧ rightB nl = true ∧ s = joinB nl) := by
  subst he
  unfold parseV at h
  split at h
  · rename_i h1
    simp only [Prod.mk.injEq, and_true] at h
    exact .inl ⟨h1, h.symm⟩
  · split at h
    · rename_i h2
      split at h
      · rename_i h3
        simp only [Prod.mk.injEq, and_true] at h
        subst h
        exact .inr ⟨splitS_ne _, h3, (join_split s h2).symm⟩
      · simp at h
    · simp at h
theorem parse_err {s : ByteArray} (h : (parseV s).2 ≠ 0) : parseV s = ([], 6) := by
  unfold parseV at h ⊢
  split
  · rename_i h1; rw [if_pos h1] at h; exact absurd rfl h
  · rename_i h1
    rw [if_neg h1] at h
    split
    · rename_i h2
      rw [if_pos h2] at h
      split
      · rename_i h3; rw [if_pos h3] at h; exact absurd rfl h
      · rfl
    · rfl
theorem parse_two (s : ByteArray) : ((parseV s).2 = 0) ∨ ((parseV s).2 = 6 ∧ (parseV s).1 = []) := by
  by_cases h : (parseV s).2 = 0
  · exact .inl h
  · rw [parse_err h]; exact .inr ⟨rfl, rfl⟩
/-! ### Values -/
theorem toL (s : ByteArray) : s.toList = LL s := Lib.toList_data s
theorem bt_LL (s : ByteArray) (j : Nat) (h : j < s.size) : bt s (j : Int) = (((LL s)[j]'(by rw [LL_len]; exact h)).toNat : Int) := by
  unfold bt
  simp only [Int.toNat_natCast]
  rw [dif_pos h]
  rfl
theorem name_tells (s : ByteArray) (hm : s.size ≤ 16) : ∀ (d k i : Nat), i + d = s.size → d < k → cisternref13_Name.l0 k s (i : Int) = some (((LL s).drop i).all okc) := by
  have hl := LL_len s
  intro d
  induction d with
  | zero =>
    intro k i hd hk
    obtain ⟨k, rfl⟩ : ∃ m, k = m + 1 := ⟨k - 1, by omega⟩
    simp only [cisternref13_Name.l0]
    rw [if_neg (by omega), List.drop_eq_nil_of_le (by omega)]
    rfl
  | succ d ih =>
    intro k i hd hk
    obtain ⟨k, rfl⟩ : ∃ m, k = m + 1 := ⟨k - 1, by omega⟩
    have hi : i < (LL s).length := by omega
    simp only [cisternref13_Name.l0]
    rw [if_pos (by omega), if_pos (by omega), bt_LL s i (by omega), List.drop_eq_getElem_cons hi, List.all_cons, show wrap64 ((i : Int) + 1) = ((i + 1 : Nat) : Int) by unfold wrap64; omega, ih k (i + 1) (by omega) (by omega)]
    generalize (LL s)[i] = b
    have hb := UInt8.toNat_lt b
    unfold okc
    by_cases h1 : b.toNat < 33
    · rw [if_pos (by omega), decide_eq_false (by omega)]; rfl
    · rw [if_neg (by omega), decide_eq_true (show 33 ≤ b.toNat by omega)]
      by_cases h2 : 126 < b.toNat
      · rw [if_pos (by omega), decide_eq_false (show ¬ b.toNat ≤ 126 by omega)]; rfl
      · rw [if_neg (by omega), decide_eq_true (show b.toNat ≤ 126 by omega)]
        by_cases h3 : b.toNat = 47
        · rw [if_pos (by omega), decide_eq_true h3]; rfl
        · rw [if_neg (by omega), decide_eq_false h3]; rfl
theorem name_val (s : ByteArray) (k : Nat) (hk : 20 ≤ k) : cisternref13_Name.f k s = some (nameB s) := by
  have hl := LL_len s
  obtain ⟨k, rfl⟩ : ∃ m, k = m + 1 := ⟨k - 1, by omega⟩
  rw [nameB_eq]
  unfold cisternref13_Name.f
  by_cases h1 : s.toList = []
  · rw [if_pos h1, h1, cisternref13_Name.j0, if_pos rfl]; rfl
  · rw [if_neg h1, bne_iff_ne.2 h1]
    by_cases h2 : s.size ≤ 16
    · rw [if_neg (by omega), decide_eq_true h2]
      by_cases h3 : s.toList = [46]
      · rw [if_pos h3, cisternref13_Name.j0, if_pos rfl, h3]; rfl
      · rw [if_neg h3, bne_iff_ne.2 h3, cisternref13_Name.j0]
        by_cases h4 : s.toList = [46, 46]
        · rw [h4, if_pos (by rfl)]; rfl
        · rw [if_neg (by simpa using h4), bne_iff_ne.2 h4]
          have := name_tells s h2 s.size k 0 (by omega) (by omega)
          simpa using this
    · rw [if_pos (by omega), cisternref13_Name.j0, if_pos rfl, decide_eq_false h2]; rfl
theorem cut_val (s : ByteArray) : strings_CutPrefix.f s ⟨#[47]⟩ = some (if (LL s).head? = some 47 then (tl s, true) else (s, false)) := by
  have hl := LL_len s
  have hs1 : (⟨#[47]⟩ : ByteArray).size = 1 := rfl
  unfold strings_CutPrefix.f stringslite_CutPrefix.f stringslite_HasPrefix.f
  rw [hs1]
  by_cases h : s.size ≥ 1
  · rw [if_pos (by omega), if_pos (by omega), if_pos (by omega)]
    simp only [Option.bind_some]
    have e : ((s.extract 0 ((1 : Nat) : Int).toNat).toList == (⟨#[47]⟩ : ByteArray).toList) = decide ((LL s).head? = some 47) := by
      rw [toL, toL, LL_extract]
      cases hh : LL s with
      | nil => rw [hh] at hl; simp at hl; omega
      | cons x t =>
        simp only [Int.toNat_natCast, List.take_succ_cons, List.take_zero, List.drop_zero, List.head?_cons, Option.some.injEq]
        by_cases hx : x = 47
        · subst hx; rfl
        · rw [decide_eq_false hx, beq_eq_false_iff_ne]
          intro hq
          simp [LL] at hq
          exact hx hq
    rw [e]
    by_cases hh : (LL s).head? = some 47
    · rw [decide_eq_true hh, if_pos rfl, if_pos (by omega), if_pos (by omega), if_pos hh]
      rfl
    · rw [decide_eq_false hh, if_neg (by simp), if_neg hh]
      rfl
  · have e0 : LL s = [] := List.length_eq_zero_iff.1 (by omega)
    rw [if_neg (by omega), e0]
    simp
theorem right_size {s : ByteArray} (h : (LL s).head? = some 47) (hr : rightB (splitS (tl s)) = true) : s.size ≤ 170 := by
  have h1 := join_split s h
  unfold rightB at hr
  simp only [Bool.and_eq_true, decide_eq_true_eq] at hr
  have h2 := joinL_len _ hr.2
  rw [← LL_joinB, h1, LL_len] at h2
  omega
theorem tl_size (s : ByteArray) (h : (LL s).head? = some 47) : (tl s).size + 1 = s.size := by
  have h1 := head_cons h
  have h2 := LL_len s
  have h3 := LL_len (tl s)
  rw [h1] at h2
  simp at h2
  omega
theorem parse_val (s : ByteArray) (k : Nat) (hk : 1 ≤ k) : route_Parse.f k s = some (parseV s) := by
  obtain ⟨k, rfl⟩ : ∃ m, k = m + 1 := ⟨k - 1, by omega⟩
  unfold route_Parse.f parseV
  rw [toL, cut_val]
  by_cases h1 : LL s = [47]
  · rw [if_pos h1, if_pos h1]
  · rw [if_neg h1, if_neg h1]
    simp only [Option.bind_some]
    by_cases h2 : (LL s).head? = some 47
    · rw [if_pos h2, if_pos h2, if_pos rfl, route_Parse.j0]
      have hz := tl_size s h2
      by_cases h3 : s.size ≤ 200
      · rw [decide_eq_false (by omega), if_neg (by simp)]
        have e : strings_Split.f (tl s) ⟨#[47]⟩ = some (splitS (tl s)) := by
          rw [strings_Split.f, if_pos ⟨by rw [toL], by omega⟩]
        simp only
        rw [e]
        simp only [Option.bind_some, route_right.f]
        split <;> rfl
      · rw [decide_eq_true (by omega), if_pos rfl, if_neg]
        intro hr
        have := right_size h2 hr
        omega
    · rw [if_neg h2, if_neg h2, if_neg (by simp), route_Parse.j0, if_pos rfl]
/-! ### The document's parser -/
theorem scan_tells (x : ByteArray) (acc : List ByteArray) (hacc : acc.length < 8796093022208) (hm : x.size ≤ 9223372036854775806) (e : Nat) (he : e ≤ x.size) (hend : e = x.size ∨ bt x (e : Int) = 47) : ∀ (d k i : Nat), i + d = e → 1 ≤ i → (∀ j, i ≤ j → j < e → bt x (j : Int) ≠ 47) → 20 + d < k → ∀ z,
    (if nameB (x.extract 1 e) = true then cisternref13_DocParse.l0 (k - 1 - d) (x.extract e x.size) (acc ++ [x.extract 1 e]) else some ([], 6)) = some z →
    cisternref13_DocParse.l1 k x acc (i : Int) = some z := by
  intro d
  induction d with
  | zero =>
    intro k i hd hi hj hk z hz
    obtain ⟨k, rfl⟩ : ∃ m, k = m + 1 := ⟨k - 1, by omega⟩
    obtain rfl : i = e := by omega
    simp only [cisternref13_DocParse.l1, Int.toNat_natCast]
    have hn := name_val (x.extract 1 i) k (by omega)
    rcases hend with h | h
    · rw [if_neg (by omega), if_pos (by omega), if_pos (by omega), hn]
      simp only [Option.bind_some]
      by_cases hb : nameB (x.extract 1 i) = true
      · rw [if_pos hb] at hz
        rw [if_pos hb, if_pos hacc, if_pos (by omega)]
        exact hz
      · rw [if_neg hb] at hz
        rw [if_neg hb]
        exact hz
    · by_cases h2 : i < x.size
      · rw [if_pos (by omega), if_pos (by omega), if_pos h, if_pos (by omega), if_pos (by omega), hn]
        simp only [Option.bind_some]
        by_cases hb : nameB (x.extract 1 i) = true
        · rw [if_pos hb] at hz
          rw [if_pos hb, if_pos hacc]
          exact hz
        · rw [if_neg hb] at hz
          rw [if_neg hb]
          exact hz
      · rw [if_neg (by omega), if_pos (by omega), if_pos (by omega), hn]
        simp only [Option.bind_some]
        by_cases hb : nameB (x.extract 1 i) = true
        · rw [if_pos hb] at hz
          rw [if_pos hb, if_pos hacc, if_pos (by omega)]
          exact hz
        · rw [if_neg hb] at hz
          rw [if_neg hb]
          exact hz
  | succ d ih =>
    intro k i hd hi hj hk z hz
    obtain ⟨k, rfl⟩ : ∃ m, k = m + 1 := ⟨k - 1, by omega⟩
    simp only [cisternref13_DocParse.l1]
    rw [if_pos (by omega), if_pos (by omega), if_neg (hj i (Nat.le_refl _) (by omega)), show wrap64 ((i : Int) + 1) = ((i + 1 : Nat) : Int) by unfold wrap64; omega]
    exact ih k (i + 1) (by omega) (by omega) (fun j h1 h2 => hj j (by omega) h2) (by omega) z (by rw [show k - 1 - d = k + 1 - 1 - (d + 1) by omega]; exact hz)
def goOn (acc nl : List ByteArray) : List ByteArray × Int := if acc.length + nl.length ≤ 10 ∧ nl.all nameB = true then (acc ++ nl, 0) else ([], 6)
theorem goOn_step (acc m : List ByteArray) (y : ByteArray) (hb : nameB y = true) : goOn (acc ++ [y]) m = goOn acc (y :: m) := by
  unfold goOn
  rw [List.all_cons, hb, Bool.true_and, List.length_append, List.length_cons, List.length_cons, List.length_nil, List.append_assoc]
  have e : acc.length + (0 + 1) + m.length = acc.length + (m.length + 1) := by omega
  rw [e]
  rfl
theorem goOn_bad (acc m : List ByteArray) (y : ByteArray) (hb : ¬ nameB y = true) : goOn acc (y :: m) = ([], 6) := by
  unfold goOn
  rw [if_neg]
  rintro ⟨_, h2⟩
  rw [List.all_cons] at h2
  simp only [Bool.and_eq_true] at h2
  exact hb h2.1
theorem u47 (b : UInt8) : (b.toNat : Int) = 47 ↔ b = 47 := by
  constructor
  · intro h
    apply UInt8.toNat_inj.1
    show b.toNat = 47
    omega
  · rintro rfl; rfl
theorem docparse_tells : ∀ (n : Nat) (x : ByteArray) (acc : List ByteArray) (k : Nat), x.size ≤ n → x.size ≤ 140737488351233 → acc.length ≤ 10 → 3 * x.size + 40 ≤ k → (LL x).head? = some 47 →
    cisternref13_DocParse.l0 k x acc = some (goOn acc (splitS (tl x))) := by
  intro n
  induction n with
  | zero =>
    intro x acc k hx _ _ _ hh
    have := tl_size x hh
    omega
  | succ n ih =>
    intro x acc k hx hm hacc hk hh
    obtain ⟨k, rfl⟩ : ∃ m, k = m + 2 := ⟨k - 2, by omega⟩
    have hxt := head_cons hh
    have hz := tl_size x hh
    have hl := LL_len x
    have hlt := LL_len (tl x)
    have b0 : bt x ((0 : Nat) : Int) = 47 := by
      rw [bt_LL x 0 (by omega)]
      simp [hxt]
    have hne : ¬ x.toList = [] := by rw [toL, hxt]; simp
    simp only [cisternref13_DocParse.l0]
    rw [if_neg hne, if_pos (by omega), if_pos (by exact b0), cisternref13_DocParse.j1]
    by_cases h10 : acc.length = 10
    · rw [if_pos (by simp [h10]), goOn, if_neg]
      rintro ⟨h1, _⟩
      have : (splitS (tl x)).length ≠ 0 := fun h => splitS_ne (tl x) (List.length_eq_zero_iff.1 h)
      omega
    · rw [if_neg (by simp; omega)]
      have ex1 : ∀ i, LL (x.extract 1 (1 + i)) = (LL (tl x)).take i := by
        intro i
        rw [LL_extract, hxt, show 1 + i = i + 1 by omega, List.take_succ_cons]
        rfl
      by_cases hm47 : 47 ∈ LL (tl x)
      · obtain ⟨a, b, hab, ha⟩ := List.eq_append_cons_of_mem hm47
        have hla : a.length + 1 + b.length = (tl x).size := by rw [← hlt, hab]; simp; omega
        have e1 : x.extract 1 (1 + a.length) = (tl x).extract 0 a.length := by
          apply LL_inj
          rw [ex1, LL_extract, List.drop_zero]
        have hxe : LL (x.extract (1 + a.length) x.size) = 47 :: b := by
          rw [LL_extract, List.take_of_length_le (by omega), hxt, hab, show 1 + a.length = a.length + 1 by omega, List.drop_succ_cons, List.drop_append]
          simp
        have hhe : (LL (x.extract (1 + a.length) x.size)).head? = some 47 := by rw [hxe]; rfl
        have hsz2 : (x.extract (1 + a.length) x.size).size = b.length + 1 := by rw [← LL_len, hxe]; rfl
        have htl : tl (x.extract (1 + a.length) x.size) = (tl x).extract (a.length + 1) (tl x).size := by
          apply LL_inj
          rw [LL_tl, hxe, LL_extract, List.take_of_length_le (by omega), hab, List.drop_append]
          have e0 : List.drop (a.length + 1) a = [] := List.drop_eq_nil_of_le (by omega)
          rw [e0]
          simp
        have hsp := splitS_hit (tl x) a b hab ha
        rw [hsp, ← htl, ← e1]
        refine scan_tells x acc (by omega) (by omega) (1 + a.length) (by omega) (.inr ?_) a.length k 1 rfl (Nat.le_refl _) ?_ (by omega) _ ?_
        · rw [bt_LL x (1 + a.length) (by omega), u47]
          simp only [hxt, hab, show 1 + a.length = a.length + 1 by omega, List.getElem_cons_succ]
          simp
        · intro j h1 h2 h3
          obtain ⟨j, rfl⟩ : ∃ m, j = m + 1 := ⟨j - 1, by omega⟩
          rw [bt_LL x (j + 1) (by omega), u47] at h3
          simp only [hxt, hab, List.getElem_cons_succ] at h3
          rw [List.getElem_append_left (by omega)] at h3
          exact ha (h3 ▸ List.getElem_mem _)
        · by_cases hb : nameB (x.extract 1 (1 + a.length)) = true
          · rw [if_pos hb, ih (x.extract (1 + a.length) x.size) (acc ++ [x.extract 1 (1 + a.length)]) (k - 1 - a.length) (by omega) (by omega) (by rw [List.length_append]; show acc.length + 1 ≤ 10; omega) (by omega) hhe, goOn_step _ _ _ hb]
          · rw [if_neg hb, goOn_bad _ _ _ hb]
      · have e1 : x.extract 1 x.size = tl x := rfl
        have hxe : LL (x.extract x.size x.size) = [] := by
          rw [LL_extract, List.take_of_length_le (by omega)]
          exact List.drop_eq_nil_of_le (by omega)
        rw [splitS_no _ hm47]
        refine scan_tells x acc (by omega) (by omega) x.size (Nat.le_refl _) (.inl rfl) (x.size - 1) k 1 (by omega) (Nat.le_refl _) ?_ (by omega) _ ?_
        · intro j h1 h2 h3
          obtain ⟨j, rfl⟩ : ∃ m, j = m + 1 := ⟨j - 1, by omega⟩
          rw [bt_LL x (j + 1) (by omega), u47] at h3
          simp only [hxt, List.getElem_cons_succ] at h3
          exact hm47 (h3 ▸ List.getElem_mem _)
        · rw [e1]
          by_cases hb : nameB (tl x) = true
          · obtain ⟨q, hq⟩ : ∃ q, k - 1 - (x.size - 1) = q + 1 := ⟨k - 1 - (x.size - 1) - 1, by omega⟩
            rw [if_pos hb, hq, cisternref13_DocParse.l0, if_pos (by rw [toL, hxe]), if_neg (by simp; omega), goOn, if_pos ⟨by simp; omega, by simp [hb]⟩]
          · rw [if_neg hb, goOn, if_neg]
            rintro ⟨_, h2⟩
            exact hb (by simpa using h2)
theorem docparse_val (s : ByteArray) (hs : s.size ≤ 140737488351233) (k : Nat) (hk : 3 * s.size + 40 ≤ k) : cisternref13_DocParse.f k s = some (parseV s) := by
  unfold cisternref13_DocParse.f parseV
  rw [toL]
  by_cases h1 : LL s = [47]
  · rw [if_pos h1, if_pos h1]
  · rw [if_neg h1, if_neg h1]
    by_cases h2 : (LL s).head? = some 47
    · rw [docparse_tells s.size s [] k (Nat.le_refl _) hs (by simp) hk h2, if_pos h2]
      unfold goOn rightB
      by_cases h3 : (splitS (tl s)).length ≤ 10 ∧ (splitS (tl s)).all nameB = true
      · rw [if_pos ⟨by simpa using h3.1, h3.2⟩, if_pos (by rw [decide_eq_true h3.1, h3.2]; rfl)]
        rfl
      · rw [if_neg (by rintro ⟨a, b⟩; exact h3 ⟨by simpa using a, b⟩), if_neg (by simp only [Bool.and_eq_true, decide_eq_true_eq]; exact h3)]
    · rw [if_neg h2]
      obtain ⟨k, rfl⟩ : ∃ m, k = m + 2 := ⟨k - 2, by omega⟩
      have hl := LL_len s
      simp only [cisternref13_DocParse.l0]
      by_cases h3 : s.toList = []
      · rw [if_pos h3, if_pos (by simp)]
      · rw [if_neg h3]
        have hp : 0 < s.size := by
          rw [toL] at h3
          have := List.length_pos_iff.2 h3
          omega
        rw [if_pos (by omega), if_neg, cisternref13_DocParse.j1, if_pos rfl]
        have := bt_LL s 0 hp
        intro h4
        have h5 : bt s ((0 : Nat) : Int) = 47 := h4
        rw [this, u47] at h5
        apply h2
        rw [List.head?_eq_getElem?, List.getElem?_eq_getElem (by omega), h5]
/-! ### The rest of the functions -/
theorem rdOf_get (l : List ByteArray) (i : Nat) (h : i < l.length) : rdOf ByteArray.empty l (i : Int) = l[i] := by
  unfold rdOf
  simp [List.getD_eq_getElem?_getD, h]
theorem toList_iff (a b : ByteArray) : a.toList = b.toList ↔ a = b := by
  rw [toL, toL]
  exact ⟨LL_inj, fun h => by rw [h]⟩
theorem same_tells (l m : List ByteArray) (hlm : l.length = m.length) (hl : l.length ≤ 9223372036854775806) : ∀ (d k i : Nat), i + d = l.length → d < k → cisternref13_Same.l0 k l m (i : Int) = some (decide (l.drop i = m.drop i)) := by
  intro d
  induction d with
  | zero =>
    intro k i hd hk
    obtain ⟨k, rfl⟩ : ∃ m, k = m + 1 := ⟨k - 1, by omega⟩
    simp only [cisternref13_Same.l0]
    rw [if_neg (by omega), List.drop_eq_nil_of_le (by omega), List.drop_eq_nil_of_le (by omega)]
    simp
  | succ d ih =>
    intro k i hd hk
    obtain ⟨k, rfl⟩ : ∃ m, k = m + 1 := ⟨k - 1, by omega⟩
    have h1 : i < l.length := by omega
    have h2 : i < m.length := by omega
    simp only [cisternref13_Same.l0]
    rw [if_pos (by omega), if_pos (by omega), if_pos (by omega), rdOf_get l i h1, rdOf_get m i h2, show wrap64 ((i : Int) + 1) = ((i + 1 : Nat) : Int) by unfold wrap64; omega, ih k (i + 1) (by omega) (by omega)]
    have key : (l.drop i = m.drop i) ↔ (l[i] = m[i] ∧ l.drop (i + 1) = m.drop (i + 1)) := by rw [List.drop_eq_getElem_cons h1, List.drop_eq_getElem_cons h2, List.cons.injEq]
    by_cases hxy : l[i] = m[i]
    · rw [if_pos (by rw [hxy])]
      congr 1
      exact decide_eq_decide.2 (by rw [key]; exact ⟨fun h => ⟨hxy, h⟩, fun h => h.2⟩)
    · rw [if_neg (fun h => hxy ((toList_iff _ _).1 h)), decide_eq_false (fun h => hxy (key.1 h).1)]
theorem same_val (l m : List ByteArray) (hl : l.length ≤ 9223372036854775806) (k : Nat) (hk : l.length < k) : cisternref13_Same.f k l m = some (decide (l = m)) := by
  unfold cisternref13_Same.f
  by_cases h : l.length = m.length
  · rw [if_pos (by omega)]
    exact same_tells l m h hl l.length k 0 (by omega) hk
  · rw [if_neg (by omega), decide_eq_false (fun e => h (by rw [e]))]
theorem equal_tells (l m : List ByteArray) (hlm : l.length = m.length) (hl : l.length ≤ 9223372036854775806) : ∀ (d k i : Nat), i + d = l.length → d < k → slices_Equal_string_string.l0 k l m (l.length : Int) (i : Int) = some (decide (l.drop i = m.drop i)) := by
  intro d
  induction d with
  | zero =>
    intro k i hd hk
    obtain ⟨k, rfl⟩ : ∃ m, k = m + 1 := ⟨k - 1, by omega⟩
    simp only [slices_Equal_string_string.l0]
    rw [if_neg (by omega), List.drop_eq_nil_of_le (by omega), List.drop_eq_nil_of_le (by omega)]
    simp
  | succ d ih =>
    intro k i hd hk
    obtain ⟨k, rfl⟩ : ∃ m, k = m + 1 := ⟨k - 1, by omega⟩
    have h1 : i < l.length := by omega
    have h2 : i < m.length := by omega
    simp only [slices_Equal_string_string.l0]
    rw [if_pos (by omega), if_pos (by omega), if_pos (by omega), if_pos (by omega), rdOf_get l i h1, rdOf_get m i h2, show wrap64 ((i : Int) + 1) = ((i + 1 : Nat) : Int) by unfold wrap64; omega, ih k (i + 1) (by omega) (by omega)]
    have key : (l.drop i = m.drop i) ↔ (l[i] = m[i] ∧ l.drop (i + 1) = m.drop (i + 1)) := by rw [List.drop_eq_getElem_cons h1, List.drop_eq_getElem_cons h2, List.cons.injEq]
    by_cases hxy : l[i] = m[i]
    · rw [if_pos (by rw [hxy])]
      congr 1
      exact decide_eq_decide.2 (by rw [key]; exact ⟨fun h => ⟨hxy, h⟩, fun h => h.2⟩)
    · rw [if_neg (fun h => hxy ((toList_iff _ _).1 h)), decide_eq_false (fun h => hxy (key.1 h).1)]
theorem equal_val (l m : List ByteArray) (hl : l.length ≤ 9223372036854775806) (k : Nat) (hk : l.length < k) : slices_Equal_string_string.f k l m = some (decide (l = m)) := by
  unfold slices_Equal_string_string.f
  by_cases h : l.length = m.length
  · rw [if_pos (by omega)]
    exact equal_tells l m h hl l.length k 0 (by omega) hk
  · rw [if_neg (by omega), decide_eq_false (fun e => h (by rw [e]))]
/-- The path of names. -/
def pathB (nl : List ByteArray) : ByteArray := if nl = [] then ⟨#[47]⟩ else joinB nl
theorem rightB_nil : rightB [] = true := by decide
theorem parse_path {nl : List ByteArray} (h : rightB nl = true) : parseV (pathB nl) = (nl, 0) := by
  unfold pathB
  by_cases h0 : nl = []
  · subst h0
    rw [if_pos rfl]
    unfold parseV
    rw [if_pos (by rfl)]
  · rw [if_neg h0, parse_join h0 h]
theorem path_of {s : ByteArray} (h : (parseV s).2 = 0) : rightB (parseV s).1 = true ∧ s = pathB (parseV s).1 := by
  rcases parse_ok (s := s) (nl := (parseV s).1) (e := (parseV s).2) rfl h with ⟨h1, h2⟩ | ⟨h1, h2, h3⟩
  · rw [h2]
    exact ⟨rightB_nil, LL_inj (by rw [h1]; rfl)⟩
  · refine ⟨h2, ?_⟩
    unfold pathB
    rw [if_neg h1]
    exact h3
theorem right_all {nl : List ByteArray} (h : rightB nl = true) : nl.length ≤ 10 ∧ nl.all nameB = true := by
  unfold rightB at h
  simpa using h
theorem right_prefix {m r : List ByteArray} (h : rightB (m ++ r) = true) : rightB m = true := by
  have := right_all h
  unfold rightB
  rw [List.all_append] at this
  simp at this ⊢
  exact ⟨by omega, this.2.1⟩
theorem path_size {nl : List ByteArray} (h : rightB nl = true) : (pathB nl).size ≤ 171 := by
  have ha := right_all h
  unfold pathB
  split
  · decide
  · have := joinL_len nl ha.2
    rw [← LL_joinB, LL_len] at this
    omega
theorem join_tells (l : List ByteArray) (h : rightB l = true) : ∀ (d k i : Nat) (acc : ByteArray), i + d = l.length → d < k → acc.size ≤ 17 * i → LL acc = joinL ((l.take i).map LL) → cisternref13_Join.l0 k l acc (i : Int) = some (joinB l) := by
  have ha := right_all h
  intro d
  induction d with
  | zero =>
    intro k i acc hd hk hs hacc
    obtain ⟨k, rfl⟩ : ∃ m, k = m + 1 := ⟨k - 1, by omega⟩
    simp only [cisternref13_Join.l0]
    rw [if_neg (by omega)]
    congr 1
    apply LL_inj
    rw [hacc, List.take_of_length_le (by omega), LL_joinB]
  | succ d ih =>
    intro k i acc hd hk hs hacc
    obtain ⟨k, rfl⟩ : ∃ m, k = m + 1 := ⟨k - 1, by omega⟩
    have hi : i < l.length := by omega
    have hn := name_len (List.all_eq_true.1 ha.2 l[i] (List.getElem_mem hi))
    simp only [cisternref13_Join.l0]
    have hz : (acc ++ (⟨#[47]⟩ : ByteArray)).size = acc.size + 1 := by rw [← LL_len, LL_append, List.length_append, LL_len]; rfl
    rw [if_pos (by omega), if_pos (by omega), if_pos (by omega), rdOf_get l i hi, hz, if_pos (by omega), show wrap64 ((i : Int) + 1) = ((i + 1 : Nat) : Int) by unfold wrap64; omega]
    refine ih k (i + 1) _ (by omega) (by omega) ?_ ?_
    · have z2 : ((acc ++ (⟨#[47]⟩ : ByteArray)) ++ l[i]).size = (acc ++ (⟨#[47]⟩ : ByteArray)).size + l[i].size := by rw [← LL_len, LL_append (acc ++ _), List.length_append, LL_len, LL_len]
      omega
    · rw [LL_append, LL_append, hacc, List.take_succ_eq_append_getElem hi, List.map_append, joinL_append]
      simp [joinL, LL]
theorem refjoin_val (l : List ByteArray) (h : rightB l = true) (k : Nat) (hk : 20 ≤ k) : cisternref13_Join.f k l = some (pathB l) := by
  have ha := right_all h
  unfold cisternref13_Join.f pathB
  by_cases h0 : l = []
  · subst h0; rfl
  · have : l.length ≠ 0 := fun e => h0 (List.length_eq_zero_iff.1 e)
    rw [if_neg (by omega), if_neg h0]
    exact join_tells l h l.length k 0 _ (by omega) (by omega) (by decide) rfl
theorem joinS_eq : ∀ (l : List ByteArray), l ≠ [] → 47 :: Lib.join (l.map LL) [47] = joinL (l.map LL)
  | [], h => absurd rfl h
  | [x], _ => by rw [List.map_cons, List.map_nil, Lib.join_one, joinL_cons, joinL_nil, List.append_nil]
  | x :: y :: r, _ => by
    have ih := joinS_eq (y :: r) (by simp)
    rw [List.map_cons, joinL_cons, ← ih]
    simp [Lib.join, List.intercalate]
theorem rjoin_val (l : List ByteArray) : route_Join.f l = some (if rightB l = true then (pathB l, 0) else (⟨#[]⟩, 6)) := by
  unfold route_Join.f route_right.f
  simp only [Option.bind_some]
  by_cases h : rightB l = true
  · rw [if_pos h, if_pos h]
    have ha := right_all h
    by_cases h0 : l = []
    · subst h0
      have e : strings_Join.f [] ⟨#[47]⟩ = some ⟨#[]⟩ := by
        unfold strings_Join.f
        rw [if_pos (by decide)]
        rfl
      rw [e]
      rfl
    · have hj := joinS_eq l h0
      have hlen := joinL_len l ha.2
      rw [← hj] at hlen
      have hLj : LL (joinS l ⟨#[47]⟩) = Lib.join (l.map LL) [47] := LL_mk _
      have hsz : (joinS l ⟨#[47]⟩).size + 1 ≤ 17 * l.length := by
        rw [← LL_len, hLj]
        simpa using hlen
      have e : strings_Join.f l ⟨#[47]⟩ = some (joinS l ⟨#[47]⟩) := by
        unfold strings_Join.f
        rw [if_pos ⟨by omega, by omega⟩]
      rw [e]
      simp only [Option.bind_some]
      rw [if_pos (by omega)]
      have : (⟨#[47]⟩ : ByteArray) ++ joinS l ⟨#[47]⟩ = pathB l := by
        unfold pathB
        rw [if_neg h0]
        apply LL_inj
        rw [LL_append, LL_joinB, hLj, ← hj]
        rfl
      rw [this]
  · rw [if_neg h, if_neg h]
/-! ### Parents -/
theorem last_tells (s : ByteArray) (e : Nat) (he : bt s (e : Int) = 47) (hes : e < s.size) (hm : s.size ≤ 9223372036854775806) : ∀ (d k : Nat), e + d < s.size → d < k → (∀ j, e < j → j ≤ e + d → bt s (j : Int) ≠ 47) → bytealg_LastIndexByteString.l0 k s 47 ((e + d : Nat) : Int) = some (e : Int) := by
  intro d
  induction d with
  | zero =>
    intro k hd hk hj
    obtain ⟨k, rfl⟩ : ∃ m, k = m + 1 := ⟨k - 1, by omega⟩
    simp only [bytealg_LastIndexByteString.l0]
    rw [if_pos (by omega), if_pos (by omega), if_pos (by omega), if_pos (by simpa using he)]
    rfl
  | succ d ih =>
    intro k hd hk hj
    obtain ⟨k, rfl⟩ : ∃ m, k = m + 1 := ⟨k - 1, by omega⟩
    simp only [bytealg_LastIndexByteString.l0]
    rw [if_pos (by omega), if_pos (by omega), if_pos (by omega), if_neg (hj (e + (d + 1)) (by omega) (Nat.le_refl _)), show wrap64 (((e + (d + 1) : Nat) : Int) - 1) = ((e + d : Nat) : Int) by unfold wrap64; omega]
    exact ih k (by omega) (by omega) (fun j h1 h2 => hj j h1 (by omega))
theorem last_val (m : List ByteArray) (x : ByteArray) (h : rightB (m ++ [x]) = true) (k : Nat) (hk : 200 ≤ k) : strings_LastIndexByte.f k (joinB (m ++ [x])) 47 = some (((joinB m).size : Nat) : Int) := by
  have ha := right_all h
  have hx : nameB x = true := by rw [List.all_append] at ha; simp at ha; exact ha.2.2
  have hno := name_noslash hx
  have e : LL (joinB (m ++ [x])) = LL (joinB m) ++ 47 :: LL x := by
    rw [LL_joinB, List.map_append, joinL_append, LL_joinB]
    simp [joinL, LL]
  have hl := LL_len (joinB (m ++ [x]))
  have hlm := LL_len (joinB m)
  have hlx := LL_len x
  have hsz : (joinB (m ++ [x])).size = (joinB m).size + 1 + x.size := by rw [← hl, e]; simp [hlm, hlx]; omega
  have hx16 := (name_len hx).2
  have hj : (joinB m).size ≤ 170 := by
    have h1 := joinL_len m (right_all (right_prefix h)).2
    have h2 := right_all (right_prefix h)
    rw [← LL_joinB, LL_len] at h1
    omega
  unfold strings_LastIndexByte.f bytealg_LastIndexByteString.f
  have hb : bt (joinB (m ++ [x])) (((joinB m).size : Nat) : Int) = 47 := by
    rw [bt_LL _ _ (by omega), u47]
    simp only [e]
    rw [List.getElem_append_right (by omega)]
    simp [hlm]
  have ht := last_tells (joinB (m ++ [x])) (joinB m).size hb (by omega) (by omega) x.size k (by omega) (by omega) (by
    intro j h1 h2 h3
    rw [bt_LL _ _ (by omega), u47] at h3
    simp only [e] at h3
    rw [List.getElem_append_right (by omega)] at h3
    obtain ⟨i, hi⟩ : ∃ i, j - (LL (joinB m)).length = i + 1 := ⟨j - (LL (joinB m)).length - 1, by omega⟩
    simp only [hi, List.getElem_cons_succ] at h3
    exact hno (h3 ▸ List.getElem_mem _))
  rw [show wrap64 (((joinB (m ++ [x])).size : Int) - 1) = (((joinB m).size + x.size : Nat) : Int) by unfold wrap64; omega, ht]
  rfl
theorem joinB_snoc_ne (m : List ByteArray) (x : ByteArray) : pathB (m ++ [x]) = joinB (m ++ [x]) := by
  unfold pathB
  rw [if_neg (by simp)]
theorem joinB_nil : (joinB []).size = 0 := by decide
theorem extract_prefix (m : List ByteArray) (x : ByteArray) : (joinB (m ++ [x])).extract 0 (joinB m).size = joinB m := by
  apply LL_inj
  have e : LL (joinB (m ++ [x])) = LL (joinB m) ++ 47 :: LL x := by
    rw [LL_joinB, List.map_append, joinL_append, LL_joinB]
    simp [joinL, LL]
  rw [LL_extract, e, List.drop_zero]
  have hlm := LL_len (joinB m)
  rw [← hlm, List.take_left]
theorem extract_last (m : List ByteArray) (x : ByteArray) : (joinB (m ++ [x])).extract ((joinB m).size + 1) (joinB (m ++ [x])).size = x := by
  apply LL_inj
  have e : LL (joinB (m ++ [x])) = LL (joinB m) ++ 47 :: LL x := by
    rw [LL_joinB, List.map_append, joinL_append, LL_joinB]
    simp [joinL, LL]
  have hlm := LL_len (joinB m)
  rw [LL_extract, List.take_of_length_le (by rw [LL_len]; exact Nat.le_refl _), e, List.drop_append, List.drop_eq_nil_of_le (by omega)]
  rw [show (joinB m).size + 1 - (LL (joinB m)).length = 1 by omega]
  rfl
theorem extract_one (x : ByteArray) : (joinB [x]).extract 0 1 = ⟨#[47]⟩ := by
  apply LL_inj
  rw [LL_extract, LL_joinB, List.map_cons, joinL_cons]
  simp
def parentV (nl : List ByteArray) (e : Int) : ByteArray × ByteArray × Int := if e = 0 ∧ nl ≠ [] then (pathB nl.dropLast, nl.getLastD ByteArray.empty, 0) else (⟨#[]⟩, ⟨#[]⟩, 6)
theorem parentV_snoc (m : List ByteArray) (x : ByteArray) : parentV (m ++ [x]) 0 = (pathB m, x, 0) := by
  unfold parentV
  rw [if_pos ⟨rfl, by simp⟩, List.dropLast_concat]
  simp
theorem snoc_of {nl : List ByteArray} (h : nl ≠ []) : ∃ m x, nl = m ++ [x] := ⟨nl.dropLast, nl.getLast h, (List.dropLast_concat_getLast h).symm⟩
theorem parent_val (s : ByteArray) (k : Nat) (hk : 200 ≤ k) : route_Parent.f k s = some (parentV (parseV s).1 (parseV s).2) := by
  unfold route_Parent.f
  rw [parse_val s k (by omega)]
  simp only [Option.bind_some]
  by_cases he : (parseV s).2 = 0
  · obtain ⟨hr, hp⟩ := path_of he
    rw [if_pos he, he]
    by_cases h0 : (parseV s).1 = []
    · rw [if_pos (by rw [h0]; rfl), parentV, if_neg (by rintro ⟨_, h⟩; exact h h0)]
    · obtain ⟨m, x, hmx⟩ := snoc_of h0
      rw [hmx] at hr hp ⊢
      rw [joinB_snoc_ne] at hp
      rw [if_neg (by simp; omega), parentV_snoc]
      rw [hp, last_val m x hr k hk]
      simp only [Option.bind_some]
      have hsz : (joinB (m ++ [x])).size = (joinB m).size + 1 + x.size := by
        have e : LL (joinB (m ++ [x])) = LL (joinB m) ++ 47 :: LL x := by
          rw [LL_joinB, List.map_append, joinL_append, LL_joinB]
          simp [joinL, LL]
        rw [← LL_len, e, List.length_append, List.length_cons, LL_len, LL_len]
        omega
      have hj : (joinB m).size ≤ 170 := by
        have h1 := joinL_len m (right_all (right_prefix hr)).2
        have h2 := right_all (right_prefix hr)
        rw [← LL_joinB, LL_len] at h1
        omega
      have hw : wrap64 (((joinB m).size : Int) + 1) = (((joinB m).size + 1 : Nat) : Int) := by unfold wrap64; omega
      rw [hw]
      by_cases hm : m = []
      · subst hm
        have hmx1 : mx (((joinB []).size : Nat) : Int) 1 = ((1 : Nat) : Int) := by unfold mx; rw [joinB_nil]; rfl
        rw [hmx1, if_pos (by omega), if_pos (by omega), if_pos (by omega), if_pos (by omega), Int.toNat_natCast, Int.toNat_natCast, extract_last]
        simp only [List.nil_append]
        rw [extract_one]
        rfl
      · have hge : 1 ≤ (joinB m).size := by
          cases m with
          | nil => exact absurd rfl hm
          | cons y r => rw [← LL_len, LL_joinB, List.map_cons, joinL_cons]; simp
        have hmx1 : mx (((joinB m).size : Nat) : Int) 1 = (((joinB m).size : Nat) : Int) := by unfold mx; rw [if_neg (by omega)]
        rw [hmx1, if_pos (by omega), if_pos (by omega), if_pos (by omega), if_pos (by omega), Int.toNat_natCast, Int.toNat_natCast, extract_last, extract_prefix]
        unfold pathB
        rw [if_neg hm]
  · rw [if_neg he, parentV, if_neg (by rintro ⟨h, _⟩; exact he h)]
theorem docparent_val (s : ByteArray) (hs : s.size ≤ 140737488351233) (k : Nat) (hk : 3 * s.size + 40 ≤ k) : cisternref13_DocParent.f k s = some (parentV (parseV s).1 (parseV s).2) := by
  unfold cisternref13_DocParent.f
  rw [docparse_val s hs k hk]
  simp only [Option.bind_some]
  by_cases he : (parseV s).2 = 0
  · obtain ⟨hr, hp⟩ := path_of he
    rw [if_pos he, he]
    by_cases h0 : (parseV s).1 = []
    · rw [if_pos (by rw [h0]; rfl), parentV, if_neg (by rintro ⟨_, h⟩; exact h h0)]
    · obtain ⟨m, x, hmx⟩ := snoc_of h0
      rw [hmx] at hr hp ⊢
      have hlen := (right_all hr).1
      rw [if_neg (by simp; omega), parentV_snoc]
      have hw : wrap64 (((m ++ [x]).length : Int) - 1) = ((m.length : Nat) : Int) := by simp at hlen ⊢; unfold wrap64; omega
      rw [hw, if_pos (by omega), if_pos (by simp; omega), Int.toNat_natCast, List.take_left, refjoin_val m (right_prefix hr) k (by omega)]
      simp only [Option.bind_some]
      rw [if_pos (by simp; omega), rdOf_get (m ++ [x]) m.length (by simp)]
      simp
  · rw [if_neg he, parentV, if_neg (by rintro ⟨h, _⟩; exact he h)]
def underV (a b : ByteArray) : Bool × Int := if (parseV a).2 = 0 then (if (parseV b).2 = 0 then (decide ((parseV b).1.length < (parseV a).1.length ∧ (parseV a).1.take (parseV b).1.length = (parseV b).1), 0) else (false, 6)) else (false, 6)
theorem err6 {s : ByteArray} (h : ¬ (parseV s).2 = 0) : (parseV s).2 = 6 := by rw [parse_err h]
theorem under_val (a b : ByteArray) (k : Nat) (hk : 20 ≤ k) : route_Under.f k a b = some (underV a b) := by
  unfold route_Under.f underV
  rw [parse_val a k (by omega), parse_val b k (by omega)]
  simp only [Option.bind_some]
  by_cases ha : (parseV a).2 = 0
  · rw [if_pos ha, if_pos ha]
    by_cases hb : (parseV b).2 = 0
    · rw [if_pos hb, if_pos hb]
      have h1 := (right_all (path_of ha).1).1
      have h2 := (right_all (path_of hb).1).1
      by_cases hl : (parseV b).1.length < (parseV a).1.length
      · rw [if_pos (by omega), if_pos (by omega), if_pos (by omega), Int.toNat_natCast, equal_val _ _ (by simp; omega) k (by simp; omega)]
        simp only [Option.bind_some, hl, true_and]
      · rw [if_neg (by omega), decide_eq_false (by rintro ⟨h, _⟩; exact hl h)]
    · rw [if_neg hb, if_neg hb, err6 hb]
  · rw [if_neg ha, if_neg ha, err6 ha]
/-! ### Under, and what is known -/
theorem docunder_tells (l m : List ByteArray) (hlm : m.length < l.length) (hl : l.length ≤ 1000) : ∀ (d k i : Nat), i + d = m.length → d < k → cisternref13_DocUnder.l0 k l m (i : Int) = some (decide ((l.take m.length).drop i = m.drop i), 0) := by
  intro d
  induction d with
  | zero =>
    intro k i hd hk
    obtain ⟨k, rfl⟩ : ∃ m, k = m + 1 := ⟨k - 1, by omega⟩
    simp only [cisternref13_DocUnder.l0]
    rw [if_neg (by omega), List.drop_eq_nil_of_le (by simp; omega), List.drop_eq_nil_of_le (by omega)]
    rfl
  | succ d ih =>
    intro k i hd hk
    obtain ⟨k, rfl⟩ : ∃ m, k = m + 1 := ⟨k - 1, by omega⟩
    have h0 : i < l.length := by omega
    have h1 : i < (l.take m.length).length := by simp; omega
    have h2 : i < m.length := by omega
    simp only [cisternref13_DocUnder.l0]
    rw [if_pos (by omega), if_pos (by omega), if_pos (by omega), rdOf_get l i h0, rdOf_get m i h2, show wrap64 ((i : Int) + 1) = ((i + 1 : Nat) : Int) by unfold wrap64; omega, ih k (i + 1) (by omega) (by omega)]
    have key : ((l.take m.length).drop i = m.drop i) ↔ (l[i] = m[i] ∧ (l.take m.length).drop (i + 1) = m.drop (i + 1)) := by
      rw [List.drop_eq_getElem_cons h1, List.drop_eq_getElem_cons h2, List.cons.injEq, List.getElem_take]
    by_cases hxy : l[i] = m[i]
    · rw [if_pos (by rw [hxy])]
      congr 2
      exact decide_eq_decide.2 (by rw [key]; exact ⟨fun h => ⟨hxy, h⟩, fun h => h.2⟩)
    · rw [if_neg (fun h => hxy ((toList_iff _ _).1 h)), decide_eq_false (fun h => hxy (key.1 h).1)]
theorem docunder_val (a b : ByteArray) (ha0 : a.size ≤ 140737488351233) (hb0 : b.size ≤ 140737488351233) (k : Nat) (hk : 3 * a.size + 3 * b.size + 40 ≤ k) : cisternref13_DocUnder.f k a b = some (underV a b) := by
  obtain ⟨k, rfl⟩ : ∃ m, k = m + 1 := ⟨k - 1, by omega⟩
  unfold cisternref13_DocUnder.f underV
  rw [docparse_val a ha0 _ (by omega), docparse_val b hb0 _ (by omega)]
  simp only [Option.bind_some, cisternref13_DocUnder.j0]
  by_cases ha : (parseV a).2 = 0
  · rw [if_pos ha, if_pos ha]
    by_cases hb : (parseV b).2 = 0
    · rw [if_neg (by simp [hb]), if_pos hb]
      have h1 := (right_all (path_of ha).1).1
      have h2 := (right_all (path_of hb).1).1
      by_cases hl : (parseV b).1.length < (parseV a).1.length
      · have := docunder_tells _ _ hl (by omega) (parseV b).1.length k 0 (by omega) (by omega)
        rw [if_neg (by omega)]
        simp only [hl, true_and]
        simpa using this
      · rw [if_pos (by omega), decide_eq_false (by rintro ⟨h, _⟩; exact hl h)]
    · rw [if_pos (by simp [hb]), if_neg hb]
  · rw [if_neg ha, if_neg ha, if_pos trivial]
theorem known_val (k : Nat) (hk : 20 ≤ k) : cisternlaw13_known.f k = some true := by
  unfold cisternlaw13_known.f
  have e1 : parseV ⟨#[47, 97, 47, 98]⟩ = ([⟨#[97]⟩, ⟨#[98]⟩], 0) := by
    have h := parse_path (nl := [⟨#[97]⟩, ⟨#[98]⟩]) (by decide)
    have e : pathB [⟨#[97]⟩, ⟨#[98]⟩] = ⟨#[47, 97, 47, 98]⟩ := by decide
    rwa [e] at h
  have e2 : parseV ⟨#[97]⟩ = ([], 6) := by
    unfold parseV
    rw [if_neg (by decide), if_neg (by decide)]
  rw [parse_val _ k (by omega), parse_val _ k (by omega), e1, e2]
  simp only [Option.bind_some]
  rw [if_pos trivial, if_pos trivial, same_val _ _ (by decide) k (by show 2 < k; omega)]
  simp
/-! ### The laws -/
theorem paths_pure : cisternlaw13_RoutePaths.Pure := by
  intro a0 h0
  refine ⟨3 * a0.size + 300, ?_⟩
  unfold cisternlaw13_RoutePaths.f
  rw [known_val _ (by omega), docparse_val a0 (by omega) _ (by omega), parse_val a0 _ (by omega), docparent_val a0 (by omega) _ (by omega), parent_val a0 _ (by omega), name_val a0 _ (by omega)]
  have hlen : (parseV a0).1.length ≤ 10 := by
    rcases parse_two a0 with h | ⟨_, h⟩
    · exact (right_all (path_of h).1).1
    · rw [h]; simp
  simp only [Option.bind_some, route_Name.f, if_true, beq_self_eq_true]
  rw [same_val _ _ (by omega) _ (by omega)]
  simp
theorem under_two (a b : ByteArray) : (underV a b).2 = 0 ↔ ((parseV a).2 = 0 ∧ (parseV b).2 = 0) := by
  unfold underV
  by_cases ha : (parseV a).2 = 0 <;> by_cases hb : (parseV b).2 = 0 <;> simp [ha, hb]
theorem under_err (a b : ByteArray) (h : ¬ (underV a b).2 = 0) : (underV a b).2 = 6 := by
  unfold underV at h ⊢
  by_cases ha : (parseV a).2 = 0 <;> by_cases hb : (parseV b).2 = 0 <;> simp [ha, hb] at h ⊢
theorem under_true (a b : ByteArray) : (underV a b).1 = true ↔ ((parseV a).2 = 0 ∧ (parseV b).2 = 0 ∧ (parseV b).1.length < (parseV a).1.length ∧ (parseV a).1.take (parseV b).1.length = (parseV b).1) := by
  unfold underV
  by_cases ha : (parseV a).2 = 0 <;> by_cases hb : (parseV b).2 = 0 <;> simp [ha, hb]
theorem under_sym (a b : ByteArray) : (underV a b).2 = (underV b a).2 := by
  by_cases h : (underV a b).2 = 0
  · rw [h, ((under_two b a).2 ⟨((under_two a b).1 h).2, ((under_two a b).1 h).1⟩)]
  · have h' : ¬ (underV b a).2 = 0 := fun e => h ((under_two a b).2 ⟨((under_two b a).1 e).2, ((under_two b a).1 e).1⟩)
    rw [under_err a b h, under_err b a h']
theorem under_pure : cisternlaw13_RouteUnder.Pure := by
  intro a b c _ _ _
  refine ⟨300, ?_⟩
  unfold cisternlaw13_RouteUnder.f
  rw [known_val _ (by omega), under_val a b _ (by omega), under_val b a _ (by omega), under_val b c _ (by omega), under_val a c _ (by omega), under_val a a _ (by omega)]
  simp only [Option.bind_some, if_true]
  have hs : ((underV a b).2 == (underV b a).2) = true := by rw [under_sym]; simp
  rw [hs]
  have haa : ¬ (underV a a).1 = true := by rw [under_true]; rintro ⟨_, _, h, _⟩; omega
  by_cases hab : (underV a b).1 = true
  · by_cases hba : (underV b a).1 = true
    · have h1 := (under_true a b).1 hab
      have h2 := (under_true b a).1 hba
      omega
    · by_cases hbc : (underV b c).1 = true
      · have h1 := (under_true a b).1 hab
        have h2 := (under_true b c).1 hbc
        have h3 : (underV a c).1 = true := by
          rw [under_true]
          refine ⟨h1.1, h2.2.1, by omega, ?_⟩
          have := h2.2.2.2
          rw [← h1.2.2.2, List.take_take, Nat.min_eq_left (by omega)] at this
          exact this
        simp [haa, hab, hba, hbc, h3]
      · simp [haa, hab, hba, hbc]
  · simp [haa, hab]
theorem docjoin_tells (l : List ByteArray) (hl : l.length ≤ 10) : ∀ (d k i : Nat), i + d = l.length → d + 20 < k → (∀ n ∈ l.take i, nameB n = true) → cisternref13_DocJoin.l0 k l (i : Int) = some (if rightB l = true then (pathB l, 0) else (⟨#[]⟩, 6)) := by
  intro d
  induction d with
  | zero =>
    intro k i hd hk hn
    obtain ⟨k, rfl⟩ : ∃ m, k = m + 1 := ⟨k - 1, by omega⟩
    rw [List.take_of_length_le (by omega)] at hn
    have hr : rightB l = true := by unfold rightB; rw [decide_eq_true hl, List.all_eq_true.2 hn]; rfl
    simp only [cisternref13_DocJoin.l0]
    rw [if_neg (by omega), refjoin_val l hr k (by omega), if_pos hr]
    rfl
  | succ d ih =>
    intro k i hd hk hn
    obtain ⟨k, rfl⟩ : ∃ m, k = m + 1 := ⟨k - 1, by omega⟩
    have hi : i < l.length := by omega
    simp only [cisternref13_DocJoin.l0]
    rw [if_pos (by omega), if_pos (by omega), rdOf_get l i hi, name_val _ k (by omega), show wrap64 ((i : Int) + 1) = ((i + 1 : Nat) : Int) by unfold wrap64; omega]
    simp only [Option.bind_some]
    by_cases h : nameB l[i] = true
    · rw [if_pos h]
      refine ih k (i + 1) (by omega) (by omega) ?_
      intro n hm
      rw [List.take_succ_eq_append_getElem hi, List.mem_append] at hm
      rcases hm with hm | hm
      · exact hn n hm
      · simp at hm; rw [hm]; exact h
    · rw [if_neg h, if_neg]
      intro hr
      exact h (List.all_eq_true.1 (right_all hr).2 _ (List.getElem_mem hi))
theorem docjoin_val (l : List ByteArray) (k : Nat) (hk : 50 ≤ k) : cisternref13_DocJoin.f k l = some (if rightB l = true then (pathB l, 0) else (⟨#[]⟩, 6)) := by
  unfold cisternref13_DocJoin.f
  by_cases h : l.length ≤ 10
  · rw [if_neg (by omega)]
    exact docjoin_tells l h l.length k 0 (by omega) (by omega) (by simp)
  · rw [if_pos (by omega), if_neg (fun hr => h (right_all hr).1)]
theorem joins_pure (l : List ByteArray) (a b : ByteArray) (ha : a.size ≤ 140737488351232) (hb : b.size ≤ 140737488351232) : cisternlaw13_RouteJoins.f (3 * a.size + 3 * b.size + 300) l a b = some true := by
  unfold cisternlaw13_RouteJoins.f
  rw [known_val _ (by omega), docjoin_val l _ (by omega), rjoin_val l, docunder_val a b (by omega) (by omega) _ (by omega), under_val a b _ (by omega)]
  simp
theorem path_one (s : ByteArray) : pathB [s] = (⟨#[47]⟩ : ByteArray) ++ s := by
  apply LL_inj
  unfold pathB
  rw [if_neg (by simp), LL_joinB, LL_append, List.map_cons, List.map_nil, joinL_cons, joinL_nil, List.append_nil]
  rfl
theorem right_one (s : ByteArray) : rightB [s] = nameB s := by
  unfold rightB
  simp
theorem names_pure : cisternlaw13_RouteNames.Pure := by
  intro s hs
  refine ⟨300, ?_⟩
  unfold cisternlaw13_RouteNames.f
  rw [known_val _ (by omega), rjoin_val [s], parse_val _ _ (by omega), right_one]
  simp only [Option.bind_some, route_Name.f, if_true]
  rw [if_pos (by omega), ← path_one]
  cases hn : nameB s
  · simp only [Bool.false_eq_true, if_false, if_true]
    rw [if_pos (by rw [toL])]
    by_cases h0 : s.toList = []
    · rw [if_pos h0]
    · rw [if_neg h0]
      by_cases he : (parseV (pathB [s])).2 = 0
      · rw [if_pos he]
        have hr := (path_of he).1
        have hlen := (right_all hr).1
        rw [same_val _ _ (by omega) _ (by omega)]
        simp only [Option.bind_some]
        have : (parseV (pathB [s])).1 ≠ [s] := by
          intro e
          rw [e, right_one, hn] at hr
          cases hr
        rw [decide_eq_false this]
        rfl
      · rw [if_neg he]
  · have hp := parse_path (nl := [s]) (by rw [right_one]; exact hn)
    have h16 := (name_len hn).2
    rw [hp]
    simp only [if_true]
    rw [same_val _ _ (by simp) _ (by simp)]
    simp
    omega
theorem parents_tells (nl : List ByteArray) (h : rightB nl = true) : ∀ (i k : Nat), i ≤ nl.length → i + 250 < k → cisternlaw13_RouteParents.l0 k (pathB nl) nl (pathB (nl.take i)) ((i : Int) - 1) = some true := by
  intro i
  induction i with
  | zero =>
    intro k hi hk
    obtain ⟨k, rfl⟩ : ∃ m, k = m + 1 := ⟨k - 1, by omega⟩
    simp only [cisternlaw13_RouteParents.l0]
    rw [if_neg (by omega), List.take_zero, toL]
    rfl
  | succ i ih =>
    intro k hi hk
    obtain ⟨k, rfl⟩ : ∃ m, k = m + 1 := ⟨k - 1, by omega⟩
    have hil : i < nl.length := by omega
    have hsp : nl.take (i + 1) = nl.take i ++ [nl[i]] := List.take_succ_eq_append_getElem hil
    have hlen := (right_all h).1
    have hr1 : rightB (nl.take (i + 1)) = true := right_prefix (r := nl.drop (i + 1)) (by rw [List.take_append_drop]; exact h)
    have hr0 : rightB (nl.take i) = true := right_prefix (r := nl.drop i) (by rw [List.take_append_drop]; exact h)
    have hu : underV (pathB nl) (pathB (nl.take i)) = (true, 0) := by
      unfold underV
      rw [parse_path h, parse_path hr0]
      simp only [if_true]
      rw [decide_eq_true]
      refine ⟨by simp; omega, by simp [List.length_take, Nat.min_eq_left (Nat.le_of_lt hil)]⟩
    have hpar : route_Parent.f k (pathB (nl.take (i + 1))) = some (pathB (nl.take i), nl[i], 0) := by
      rw [parent_val _ k (by omega), parse_path hr1, hsp, parentV_snoc]
    simp only [cisternlaw13_RouteParents.l0]
    rw [if_pos (by omega), hpar]
    simp only [Option.bind_some]
    rw [under_val _ _ k (by omega), hu]
    simp only [Option.bind_some, if_true]
    rw [show ((i + 1 : Nat) : Int) - 1 = (i : Int) by omega, if_pos (by omega), if_pos (by omega), rdOf_get nl i hil, if_pos (by rfl), show wrap64 ((i : Int) - 1) = (i : Int) - 1 by unfold wrap64; omega]
    exact ih k (by omega) (by omega)
theorem parents_pure : cisternlaw13_RouteParents.Pure := by
  intro s hs
  refine ⟨400, ?_⟩
  unfold cisternlaw13_RouteParents.f
  rw [known_val _ (by omega), parse_val _ _ (by omega)]
  simp only [Option.bind_some, if_true]
  by_cases he : (parseV s).2 = 0
  · obtain ⟨hr, hp⟩ := path_of he
    have hlen := (right_all hr).1
    rw [if_pos he]
    have ht := parents_tells _ hr (parseV s).1.length 400 (Nat.le_refl _) (by omega)
    rw [List.take_length, ← hp] at ht
    rw [show wrap64 (((parseV s).1.length : Int) - 1) = ((parseV s).1.length : Int) - 1 by unfold wrap64; omega]
    exact ht
  · rw [if_neg he, parent_val s _ (by omega), parentV, if_neg (by rintro ⟨h, _⟩; exact he h)]
    rfl
theorem inverse_j0 (s : ByteArray) (k : Nat) (hk : 300 ≤ k) : cisternlaw13_RouteInverse.j0 k s = some true := by
  obtain ⟨k, rfl⟩ : ∃ m, k = m + 2 := ⟨k - 2, by omega⟩
  simp only [cisternlaw13_RouteInverse.j0]
  rw [parse_val s _ (by omega)]
  simp only [Option.bind_some]
  by_cases he : (parseV s).2 = 0
  · obtain ⟨hr, hp⟩ := path_of he
    have hlen := (right_all hr).1
    rw [if_pos he, rjoin_val, if_pos hr]
    simp only [Option.bind_some, if_true]
    have hb : ((pathB (parseV s).1).toList != s.toList) = false := by rw [← hp]; simp
    rw [hb]
    simp only [cisternlaw13_RouteInverse.j1]
    rw [if_neg (by simp), parent_val s _ (by omega), he]
    simp only [Option.bind_some]
    by_cases h0 : (parseV s).1 = []
    · rw [h0] at hp ⊢
      have hpv : parentV [] 0 = (⟨#[]⟩, ⟨#[]⟩, 6) := by unfold parentV; simp
      rw [hpv]
      simp only
      rw [if_pos (by rfl), if_pos trivial, hp, toL]
      rfl
    · obtain ⟨m, x, hmx⟩ := snoc_of h0
      have hnz : ¬ ((parseV s).1.length : Int) = 0 := by
        have : (parseV s).1.length ≠ 0 := fun e => h0 (List.length_eq_zero_iff.1 e)
        omega
      rw [if_neg hnz, hmx, parentV_snoc]
      rw [hmx] at hr hp hlen
      have hrm := right_prefix hr
      have hx : nameB x = true := by
        have := (right_all hr).2
        rw [List.all_append] at this
        simp at this
        exact this.2
      have hu : underV s (pathB m) = (true, 0) := by
        unfold underV
        rw [hp, parse_path hr, parse_path hrm]
        simp
      simp only
      rw [under_val _ _ _ (by omega), hu, parse_val _ _ (by omega), parse_path hrm]
      simp only [Option.bind_some, List.nil_append]
      have hml : m.length ≤ 9 := by simp at hlen; omega
      rw [if_pos (by simp; omega), if_pos (by omega), rjoin_val, if_pos hr]
      simp only [Option.bind_some, if_true]
      rw [← hp, if_pos rfl, route_Name.f, hx]
      rfl
  · rw [if_neg he, parse_err he]
    rfl
theorem inverse_pure (s : ByteArray) (l : List ByteArray) : cisternlaw13_RouteInverse.f 400 s l = some true := by
  unfold cisternlaw13_RouteInverse.f
  rw [known_val _ (by omega), rjoin_val]
  simp only [Option.bind_some, if_true]
  by_cases hr : rightB l = true
  · have hlen := (right_all hr).1
    rw [if_pos hr, parse_val _ _ (by omega), parse_path hr]
    simp only [Option.bind_some, if_true]
    rw [same_val _ _ (by omega) _ (by omega)]
    simp only [decide_true, Option.bind_some, if_true]
    exact inverse_j0 s 400 (by omega)
  · rw [if_neg hr]
    simp only
    rw [if_neg (by decide)]
    exact inverse_j0 s 400 (by omega)
theorem cisternlaw13_RouteJoins.walk (A0 : Option Addr) (c0 : Nat) (l0 : List ByteArray) (a1 a2 : ByteArray) (w : World) (hr0 : Kd.C Kd.string w A0 l0.length l0) (hc0 : l0.length ≤ c0) (y0 : l0.length * 16 ≤ 140737488351232) (w0 : ∀ v ∈ l0, v.size ≤ maxLen) (w1 : a1.size ≤ 140737488351232) (w2 : a2.size ≤ 140737488351232) :
    Calls Tryd.prog 8 #[.slice A0 l0.length c0, .string a1, .string a2] w fun e w' => e = .returned (.bool true) ∧ Below w.heap.size w w' :=
  cisternlaw13_RouteJoins.calls _ A0 c0 l0 a1 a2 true w hr0 hc0 (joins_pure l0 a1 a2 w1 w2)
theorem cisternlaw13_RouteInverse.walk (a0 : ByteArray) (A1 : Option Addr) (c1 : Nat) (l1 : List ByteArray) (w : World) (w0 : a0.size ≤ 140737488351232) (hr1 : Kd.C Kd.string w A1 l1.length l1) (hc1 : l1.length ≤ c1) (y1 : l1.length * 16 ≤ 140737488351232) (w1 : ∀ v ∈ l1, v.size ≤ maxLen) :
    Calls Tryd.prog 9 #[.string a0, .slice A1 l1.length c1] w fun e w' => e = .returned (.bool true) ∧ Below w.heap.size w w' :=
  cisternlaw13_RouteInverse.calls _ a0 A1 c1 l1 true w hr1 hc1 (inverse_pure a0 l1)
end Go.Proofs.YtenjcgkabmlpkaaDoor.PA
