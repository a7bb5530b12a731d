import Derived.Test.YtgjhhbljbnbjkaaLdecode
namespace Go.Proofs.Ytgjhhbljbnbjkaa.PA
open Go.RowKit Go.Proofs.YtgjhhbljbnbjkaaW.PrintWords Go.Proofs.YtgjhhbljbnbjkaaW.PrintLast Go.Proofs.YtgjhhbljbnbjkaaW.PrintMore
set_option linter.unusedVariables false
set_option linter.unusedSimpArgs false
/-! ### The reference's decoder -/
theorem bytesOf_extract (s : ByteArray) (i j : Nat) : bytesOf (s.extract i j) = ((bytesOf s).take j).drop i := by
  simp only [bytesOf, ByteArray.data_extract, Array.toList_extract]
  simp [List.map_drop, List.map_take, List.extract_eq_take_drop, List.drop_take]
theorem number_tells (s : ByteArray) (h8 : s.size ≤ 8) : ∀ (d k : Nat), d ≤ s.size → d < k → cisternref03_number.l0 k s (getV ((bytesOf s).drop d)) ((d : Int) - 1) = some (getV (bytesOf s)) := by
  have hb := bytesOf_byteL s
  have hlen := bytesOf_length s
  intro d
  induction d with
  | zero =>
    intro k _ hk
    obtain ⟨k, rfl⟩ : ∃ m, k = m + 1 := ⟨k - 1, by omega⟩
    simp only [cisternref03_number.l0]
    rw [if_neg (by omega)]
    simp
  | succ d ih =>
    intro k hd hk
    obtain ⟨k, rfl⟩ : ∃ m, k = m + 1 := ⟨k - 1, by omega⟩
    simp only [cisternref03_number.l0]
    rw [show (((d + 1 : Nat) : Int) - 1) = (d : Int) by omega, if_pos (by omega), if_pos (by omega), if_pos (by omega), ← rd_bytesOf]
    have hdl : d < (bytesOf s).length := by omega
    obtain ⟨e, b0, b1⟩ := rd_nat (bytesOf s) hb d hdl
    have hg := getV_range ((bytesOf s).drop (d + 1)) (byteL_drop hb _)
    have hp : (256 : Int) ^ ((bytesOf s).drop (d + 1)).length ≤ 256 ^ 7 := by
      have h1 : ((bytesOf s).drop (d + 1)).length ≤ 7 := by simp; omega
      have h2 := Nat.pow_le_pow_right (show 0 < 256 by decide) h1
      have e1 : (256 : Int) ^ ((bytesOf s).drop (d + 1)).length = ((256 ^ ((bytesOf s).drop (d + 1)).length : Nat) : Int) := by rw [Int.natCast_pow]; rfl
      have e2 : (256 : Int) ^ 7 = ((256 ^ 7 : Nat) : Int) := by decide
      rw [e1, e2]
      exact Int.ofNat_le.2 h2
    have hd2 : (bytesOf s).drop d = (bytesOf s)[d] :: (bytesOf s).drop (d + 1) := List.drop_eq_getElem_cons hdl
    have hv : getV ((bytesOf s).drop d) = (bytesOf s)[d] + 256 * getV ((bytesOf s).drop (d + 1)) := by rw [hd2, getV]
    have q1 := u64_id (getV ((bytesOf s).drop (d + 1)) * 256) (by omega) (by omega)
    have q2 := u64_id ((bytesOf s)[d]) b0 (by omega)
    have q3 := u64_id (getV ((bytesOf s).drop (d + 1)) * 256 + (bytesOf s)[d]) (by omega) (by omega)
    rw [e, q1, q2, q3, show wrap64 ((d : Int) - 1) = (d : Int) - 1 by unfold wrap64; omega]
    rw [show getV ((bytesOf s).drop (d + 1)) * 256 + (bytesOf s)[d] = getV ((bytesOf s).drop d) by omega]
    exact ih k (by omega) (by omega)
theorem number_val (s : ByteArray) (h8 : s.size ≤ 8) (k : Nat) (hk : 9 ≤ k) : cisternref03_number.f k s = some (getV (bytesOf s)) := by
  have h := number_tells s h8 s.size k (Nat.le_refl _) (by omega)
  rw [List.drop_eq_nil_of_le (by rw [bytesOf_length]; omega)] at h
  rw [cisternref03_number.f, show wrap64 ((s.size : Int) - 1) = (s.size : Int) - 1 by unfold wrap64; omega]
  exact h
theorem docdecode_tells : ∀ (n : Nat) (s : ByteArray) (acc : List S46) (k : Nat), s.size ≤ n → s.size ≤ 140737488351232 → acc.length ≤ 4000 → 4 * n + 20 ≤ k → cisternref03_DocDecode.l0 k s acc = some (decL (n + 1) acc (bytesOf s)) := by
  intro n
  induction n with
  | zero =>
    intro s acc k hn hl ha hk
    have hb0 : bytesOf s = [] := List.eq_nil_of_length_eq_zero (by rw [bytesOf_length]; omega)
    obtain ⟨k, rfl⟩ : ∃ m, k = m + 1 := ⟨k - 1, by omega⟩
    simp only [cisternref03_DocDecode.l0]
    rw [if_neg (by omega), hb0, decL]
  | succ n ih =>
    intro s acc k hn hl ha hk
    obtain ⟨k, rfl⟩ : ∃ m, k = m + 4 := ⟨k - 4, by omega⟩
    have hlen := bytesOf_length s
    have hb := bytesOf_byteL s
    have hex := bytesOf_extract s
    have hrd0 := rd_bytesOf s 0
    have hsz : ∀ i j, (s.extract i j).size = min j s.size - i := fun i j => by simp
    match hbs : bytesOf s with
    | [] =>
      rw [hbs] at hlen
      rw [show k + 4 = (k + 3) + 1 by omega]
      simp only [cisternref03_DocDecode.l0]
      rw [if_neg (by simp at hlen; omega), decL]
    | c :: r =>
      rw [hbs] at hlen hb hex hrd0
      obtain ⟨hc0, hc1, hr⟩ := byteL_cons hb
      simp only [List.length_cons] at hlen
      have hrd : bt s 0 = c := by rw [← hrd0]; simp [rd]
      rw [show k + 4 = (k + 3) + 1 by omega]
      simp only [cisternref03_DocDecode.l0]
      rw [if_pos (by omega), if_pos (by omega), hrd, decL]
      by_cases h1 : c = 1 ∧ 8 ≤ r.length
      · rw [if_pos h1, if_pos h1.1, show k + 3 = (k + 2) + 1 by omega]
        have e1 : bytesOf (s.extract 1 9) = r.take 8 := by rw [hex]; simp
        have e2 : bytesOf (s.extract 9 s.size) = r.drop 8 := by rw [hex]; simp [List.drop_take]; rw [List.take_of_length_le (by simp; omega)]
        simp only [cisternref03_DocDecode.j1]
        rw [if_pos (by simpa using (by omega : (9 : Int) ≤ s.size)), if_pos (by omega), if_pos (by omega), number_val _ (by rw [hsz]; omega) _ (by omega), e1]
        simp only [Option.bind_some]
        rw [if_pos (by omega)]
        by_cases h4 : (acc ++ [(⟨1, wrap64 (getV (r.take 8)), ⟨#[]⟩⟩ : S46)]).length > 4000
        · rw [if_pos (by omega), if_pos h4]
        · rw [if_neg (by omega), if_neg h4, ← e2]
          exact ih _ _ _ (by rw [hsz]; omega) (by rw [hsz]; omega) (by omega) (by omega)
      · rw [if_neg h1]
        have e1 : (if c = 1 then cisternref03_DocDecode.j1 (k + 3) s acc (decide ((s.size : Int) ≥ 9)) else cisternref03_DocDecode.j1 (k + 3) s acc false) = cisternref03_DocDecode.j1 (k + 3) s acc false := by
          by_cases hc : c = 1
          · rw [if_pos hc]
            congr 1
            simp only [decide_eq_false_iff_not]
            have : ¬ 8 ≤ r.length := fun h => h1 ⟨hc, h⟩
            omega
          · rw [if_neg hc]
        rw [e1, show k + 3 = (k + 2) + 1 by omega]
        simp only [cisternref03_DocDecode.j1]
        rw [if_neg (by simp), if_pos (by omega), hrd]
        by_cases h2 : c = 2 ∧ 2 ≤ r.length
        · have e2 : bytesOf (s.extract 1 3) = r.take 2 := by rw [hex]; simp
          have hg := getV2 (r.take 2) (byteL_take hr 2) (by rw [List.length_take]; omega)
          rw [if_pos h2, if_pos h2.1, show k + 2 = (k + 1) + 1 by omega]
          simp only [cisternref03_DocDecode.j2]
          rw [if_pos (by simpa using (by omega : (3 : Int) ≤ s.size)), if_pos (by omega), if_pos (by omega), number_val _ (by rw [hsz]; omega) _ (by omega), e2]
          simp only [Option.bind_some]
          rw [w64_small _ hg.1 (by omega), w64_small ((s.size : Int) - 3) (by omega) (by omega)]
          generalize hgv : getV (r.take 2) = v at *
          by_cases h5 : v > 50000 ∨ v > (r.length : Int) - 2
          · rw [if_pos h5]
            by_cases h6 : v > 50000
            · rw [if_pos h6]; simp [cisternref03_DocDecode.j3]
            · rw [if_neg h6, show decide (v > (s.size : Int) - 3) = true by have := h5.resolve_left h6; simp; omega]; simp [cisternref03_DocDecode.j3]
          · rw [if_neg h5, if_neg (by omega), show decide (v > (s.size : Int) - 3) = false by simp; omega]
            have et : (3 + v).toNat = 3 + v.toNat := by omega
            have e3 : s.extract 3 (3 + v.toNat) = strOfNums ((r.drop 2).take v.toNat) := by
              rw [← strOfNums_bytesOf (s.extract 3 (3 + v.toNat)), hex]
              congr 1
              rw [show 3 + v.toNat = (2 + v.toNat) + 1 by omega, List.take_succ_cons, List.drop_succ_cons, List.drop_take]
              congr 1
              omega
            have e4 : bytesOf (s.extract (3 + v.toNat) s.size) = r.drop (2 + v.toNat) := by
              rw [hex, List.take_of_length_le (by simp; omega), show 3 + v.toNat = (2 + v.toNat) + 1 by omega, List.drop_succ_cons]
            simp only [cisternref03_DocDecode.j3]
            rw [if_neg (by simp), w64_small (3 + v) (by omega) (by omega), if_pos (by omega), if_pos (by omega), if_pos (by omega)]
            simp only [Option.bind_some]
            rw [if_pos (by omega), et, e3]
            by_cases h4 : (acc ++ [(⟨2, 0, strOfNums ((r.drop 2).take v.toNat)⟩ : S46)]).length > 4000
            · rw [if_pos (by omega), if_pos h4]
            · rw [if_neg (by omega), if_neg h4, ← e4]
              exact ih _ _ _ (by rw [hsz]; omega) (by rw [hsz]; omega) (by omega) (by omega)
        · rw [if_neg h2]
          have e2 : (if c = 2 then cisternref03_DocDecode.j2 (k + 2) s acc (decide ((s.size : Int) ≥ 3)) else cisternref03_DocDecode.j2 (k + 2) s acc false) = cisternref03_DocDecode.j2 (k + 2) s acc false := by
            by_cases hc : c = 2
            · rw [if_pos hc]
              congr 1
              simp only [decide_eq_false_iff_not]
              have : ¬ 2 ≤ r.length := fun h => h2 ⟨hc, h⟩
              omega
            · rw [if_neg hc]
          rw [e2]
          simp [cisternref03_DocDecode.j2]
theorem docdecode_val (s : ByteArray) (hl : s.size ≤ 140737488351232) (k : Nat) (hk : 4 * s.size + 20 ≤ k) : cisternref03_DocDecode.f k s = some (decF (bytesOf s)) := by
  have h := docdecode_tells s.size s [] k (Nat.le_refl _) hl (by simp) hk
  rw [cisternref03_DocDecode.f, h, decF, bytesOf_length]
theorem rd_drop {l : List S46} {i : Nat} (h : i < l.length) : l.drop i = rd_T46 l (i : Int) :: l.drop (i + 1) := by
  rw [List.drop_eq_getElem_cons h]
  simp [rd_T46, List.getD_eq_getElem?_getD, List.getElem?_eq_getElem h]
theorem refcheck1 (l : List S46) (hl : l.length ≤ 4000) : ∀ (d k i : Nat), i + d = l.length → d < k → cisternref03_Check.l1 k l (i : Int) = some (if (l.drop i).all okB then 0 else 2) := by
  intro d
  induction d with
  | zero =>
    intro k i hd hk
    obtain ⟨k, rfl⟩ : ∃ m, k = m + 1 := ⟨k - 1, by omega⟩
    simp only [cisternref03_Check.l1]
    rw [if_neg (by omega), List.drop_eq_nil_of_le (by omega)]
    rfl
  | succ d ih =>
    intro k i hd hk
    obtain ⟨k, rfl⟩ : ∃ m, k = m + 1 := ⟨k - 1, by omega⟩
    have hi := ih k (i + 1) (by omega) (by omega)
    simp only [cisternref03_Check.l1]
    rw [if_pos (by omega), if_pos (by omega), rd_drop (show i < l.length by omega), show wrap64 ((i : Int) + 1) = ((i + 1 : Nat) : Int) by unfold wrap64; omega, hi, List.all_cons]
    generalize rd_T46 l (i : Int) = x
    by_cases k1 : x.f0 = 1
    · rw [if_pos k1, okB_1 k1]
      by_cases hs : x.f2.toList = []
      · rw [if_pos hs, if_neg (by omega), hs]; simp
      · rw [if_neg hs]
        have : x.f2.toList.isEmpty = false := by simpa using hs
        simp [this]
    · rw [if_neg k1]
      by_cases k2 : x.f0 = 2
      · rw [if_pos k2, okB_2 k2]
        by_cases hn : x.f1 = 0
        · rw [if_pos hn, hn]; simp
        · rw [if_neg hn]
          have : (x.f1 == 0) = false := by simpa using hn
          simp [this]
      · rw [if_neg k2, okB_3 k1 k2]; simp
theorem refcheck0 (l : List S46) (hl : l.length ≤ 4000) : ∀ (d k i : Nat), i + d = l.length → d + l.length + 1 < k → cisternref03_Check.l0 k l (i : Int) = some (if (l.drop i).any longB then 14 else if l.all okB then 0 else 2) := by
  intro d
  induction d with
  | zero =>
    intro k i hd hk
    obtain ⟨k, rfl⟩ : ∃ m, k = m + 1 := ⟨k - 1, by omega⟩
    have h := refcheck1 l hl l.length k 0 (by omega) (by omega)
    simp only [cisternref03_Check.l0]
    rw [if_neg (by omega), List.drop_eq_nil_of_le (show l.length ≤ i by omega)]
    simpa using h
  | succ d ih =>
    intro k i hd hk
    obtain ⟨k, rfl⟩ : ∃ m, k = m + 1 := ⟨k - 1, by omega⟩
    have hi := ih k (i + 1) (by omega) (by omega)
    simp only [cisternref03_Check.l0]
    rw [if_pos (by omega), if_pos (by omega), rd_drop (show i < l.length by omega), show wrap64 ((i : Int) + 1) = ((i + 1 : Nat) : Int) by unfold wrap64; omega, hi, List.any_cons]
    generalize rd_T46 l (i : Int) = x
    by_cases k2 : x.f0 = 2
    · rw [if_pos k2]
      by_cases hz : (x.f2.size : Int) > 50000
      · rw [if_pos hz]; simp [longB, k2]; omega
      · have : longB x = false := by simp only [longB, Bool.and_eq_false_iff, decide_eq_false_iff_not]; right; omega
        rw [if_neg hz, this]; simp
    · have : longB x = false := by simp [longB, k2]
      rw [if_neg k2, this]; simp
theorem refcheck_val (l : List S46) (k : Nat) (hk : 10000 ≤ k) : cisternref03_Check.f k l = some (pack_checkV l) := by
  unfold cisternref03_Check.f pack_checkV
  by_cases h : (l.length : Int) > 4000
  · rw [if_pos h, if_pos h]
  · rw [if_neg h, if_neg h]
    have := refcheck0 l (by omega) l.length k 0 (by omega) (by omega)
    simpa using this
theorem docencode_val (l : List S46) (k : Nat) (hk : 10000 ≤ k) : cisternref03_DocEncode.f k l = some (if pack_checkV l = 0 then strOfNums (encL l) else ⟨#[]⟩, pack_checkV l) := by
  unfold cisternref03_DocEncode.f
  rw [refcheck_val l k hk]
  simp only [Option.bind_some]
  by_cases h : pack_checkV l = 0
  · rw [if_pos h, if_pos h, cisternref03_Encode.f, if_pos (check_ok h).1, h]; rfl
  · rw [if_neg h, if_neg h]
theorem same_refl (l : List S46) (hl : l.length ≤ 9223372036854775806) : ∀ (d k i : Nat), i + d = l.length → d < k → cisternref03_Same.l0 k l l (i : Int) = some true := by
  intro d
  induction d with
  | zero =>
    intro k i hd hk
    obtain ⟨k, rfl⟩ : ∃ m, k = m + 1 := ⟨k - 1, by omega⟩
    simp only [cisternref03_Same.l0]
    rw [if_neg (by omega)]
  | succ d ih =>
    intro k i hd hk
    obtain ⟨k, rfl⟩ : ∃ m, k = m + 1 := ⟨k - 1, by omega⟩
    simp only [cisternref03_Same.l0]
    rw [if_pos (by omega), if_pos (by omega), if_pos (by omega), if_neg (by simp), show wrap64 ((i : Int) + 1) = ((i + 1 : Nat) : Int) by unfold wrap64; omega]
    exact ih k (i + 1) (by omega) (by omega)
theorem same_self (l : List S46) (hl : l.length ≤ 9223372036854775806) (k : Nat) (hk : l.length < k) : cisternref03_Same.f k l l = some true := by
  rw [cisternref03_Same.f, if_pos rfl]
  exact same_refl l hl l.length k 0 (by omega) hk
theorem decF_len (b : List Int) (hb : byteL b) : (decF b).1.length ≤ 4000 := by
  rcases decF_tells b hb with h | ⟨m, h, _, hc, _⟩
  · rw [h]; simp
  · rw [h]; exact ((checkV_iff m).1 hc).1
theorem strOfNums_nil : strOfNums [] = ⟨#[]⟩ := rfl
theorem records_pure (l : List S46) (b : List Int) (hb : byteL b) (hl : b.length ≤ 140737488351232) : cisternlaw03_PackRecords.f (4 * b.length + 20000) l b = some true := by
  unfold cisternlaw03_PackRecords.f cisternlaw03_known.f
  rw [docencode_val l _ (by omega), docdecode_val _ (by rw [size_strOfNums]; exact hl) _ (by rw [size_strOfNums]; omega), decode_val b hb hl _ (by omega), bytesOf_strOfNums b hb]
  simp only [encode_some, Option.bind_some, if_true]
  have e : (if pack_checkV l = 0 then strOfNums (encL l) else (⟨#[]⟩ : ByteArray)) = strOfNums (if pack_checkV l = 0 then encL l else []) := by split <;> rfl
  rw [e, if_pos rfl, same_self _ (by have := decF_len b hb; omega) _ (by have := decF_len b hb; omega)]
  simp
theorem wf_u8 {l : List Int} (h : ∀ v ∈ l, (Lit.int .u8 v).wf = true) : byteL l := by
  intro b hb
  have := h b hb
  simpa [Lit.wf, IntKind.min, IntKind.max, IntKind.signed, IntKind.bits] using this
theorem cisternlaw03_PackRecords.walk (A0 : Option Addr) (c0 : Nat) (l0 : List S46) (A1 : Option Addr) (c1 : Nat) (l1 : List Int) (w : World) (hr0 : Kd.C k46 w A0 l0.length l0) (hc0 : l0.length ≤ c0) (y0 : l0.length * 32 ≤ 140737488351232) (w0 : ∀ v ∈ l0, ((Lit.int .i64 v.f0).wf = true) ∧ ((Lit.int .i64 v.f1).wf = true) ∧ (v.f2.size ≤ maxLen))
    (hr1 : Kd.C (Kd.int .u8) w A1 l1.length l1) (hc1 : l1.length ≤ c1) (y1 : l1.length * 1 ≤ 140737488351232) (w1 : ∀ v ∈ l1, (Lit.int .u8 v).wf = true) :
    Calls Try.prog 6 #[.slice A0 l0.length c0, .slice A1 l1.length c1] w fun e w' => e = .returned (.bool true) ∧ Below w.heap.size w w' :=
  cisternlaw03_PackRecords.calls _ A0 c0 l0 A1 c1 l1 true w hr0 hc0 hr1 hc1 (records_pure l0 l1 (wf_u8 w1) (by omega))
end Go.Proofs.Ytgjhhbljbnbjkaa.PA
