import Derived.Test.YtgjhhbljbnbjkaaDoorL0
import Derived.Deep.Slices
import Derived.SizedLaws
import Derived.IntWalk
import Derived.ArgAppend
namespace Go.Proofs.YtgjhhbljbnbjkaaDoor.PA
open Go.RowKit Go.Proofs.YtgjhhbljbnbjkaaDoorW.PrintWords Go.Proofs.YtgjhhbljbnbjkaaDoorW.PrintLast Go.Proofs.YtgjhhbljbnbjkaaDoorW.PrintMore
set_option linter.unusedVariables false
set_option linter.unusedSimpArgs false
/-! ### The document's unframing; PackFrames -/
theorem someB_cons (x : Int) (t : List Int) : someB (x :: t) = (x != 0 || someB t) := rfl
theorem unf_tells (s : ByteArray) (n : Nat) (hs : s.size ≤ 60000) (hn : 2 + n ≤ s.size) : ∀ (d k i : Nat), i + d = s.size → d < k → 2 + n ≤ i →
    cisternref03_DocUnframe.l0 k s (n : Int) (i : Int) = some (if someB ((bytesOf s).drop i) = true then ((⟨#[]⟩ : ByteArray), 2) else (s.extract 2 (2 + n), 0)) := by
  have hlen := bytesOf_length s
  intro d
  induction d with
  | zero =>
    intro k i hi hk h2
    obtain ⟨k, rfl⟩ : ∃ m, k = m + 1 := ⟨k - 1, by omega⟩
    have w1 : wrap64 (2 + (n : Int)) = 2 + (n : Int) := by unfold wrap64; omega
    simp only [cisternref03_DocUnframe.l0]
    rw [if_neg (by omega), w1, if_pos (by omega), if_pos (by omega), List.drop_eq_nil_of_le (by omega)]
    have e : (2 + (n : Int)).toNat = 2 + n := by omega
    rw [e]
    rfl
  | succ d ih =>
    intro k i hi hk h2
    obtain ⟨k, rfl⟩ : ∃ m, k = m + 1 := ⟨k - 1, by omega⟩
    have hil : i < (bytesOf s).length := by omega
    have hd2 : (bytesOf s).drop i = (bytesOf s)[i] :: (bytesOf s).drop (i + 1) := List.drop_eq_getElem_cons hil
    obtain ⟨e, b0, b1⟩ := rd_nat (bytesOf s) (bytesOf_byteL s) i hil
    simp only [cisternref03_DocUnframe.l0]
    rw [if_pos (by omega), if_pos (by omega), ← rd_bytesOf, e]
    by_cases hz : (bytesOf s)[i] = 0
    · rw [if_pos hz, show wrap64 ((i : Int) + 1) = ((i + 1 : Nat) : Int) by unfold wrap64; omega, ih k (i + 1) (by omega) (by omega) (by omega), hd2, hz]
      simp [someB]
    · rw [if_neg hz, if_pos (by rw [hd2, someB_cons]; simp [hz])]
theorem unframeL_short (l : List Int) (h : l.length < 2 ∨ 60000 < l.length) : unframeL l = ([], 2) := by unfold unframeL; rw [if_pos h]
theorem unframeL_n (l : List Int) (n : Nat) (h : ¬ (l.length < 2 ∨ 60000 < l.length)) (hn : getV (l.take 2) = (n : Int)) :
    unframeL l = if ((l.length : Int) - 2 < (n : Int)) ∨ someB (l.drop (2 + n)) = true then ([], 2) else ((l.drop 2).take n, 0) := by
  unfold unframeL
  rw [if_neg h, hn, Int.toNat_natCast]
theorem docunf_j (s : ByteArray) (n : Nat) (k : Nat) (hk : s.size + 11 ≤ k) (h1 : 2 ≤ s.size) (h2 : s.size ≤ 60000) (hn : getV ((bytesOf s).take 2) = (n : Int)) (h6 : n ≤ 65535) :
    cisternref03_DocUnframe.j0 (k + 1) s false = some (if (s.size : Int) - 2 < (n : Int) then ((⟨#[]⟩ : ByteArray), 2) else if someB ((bytesOf s).drop (2 + n)) = true then ((⟨#[]⟩ : ByteArray), 2) else (s.extract 2 (2 + n), 0)) := by
  have hlen := bytesOf_length s
  simp only [cisternref03_DocUnframe.j0]
  have e2 : bytesOf (s.extract 0 2) = (bytesOf s).take 2 := by rw [bytesOf_extract]; rfl
  have z2 : (s.extract 0 2).size = 2 := by rw [ByteArray.size_extract]; omega
  have w0 : wrap64 (n : Int) = (n : Int) := by unfold wrap64; omega
  have w1 : wrap64 (2 + (n : Int)) = ((2 + n : Nat) : Int) := by unfold wrap64; omega
  have w2 : wrap64 ((s.size : Int) - 2) = (s.size : Int) - 2 := by unfold wrap64; omega
  have p2 : (2 : Int) ≤ (s.size : Int) := by omega
  rw [if_neg (by decide), if_pos (by decide), if_pos p2, number_val _ (by omega) k (by omega), e2, hn]
  rw [Option.bind_some, w0, w1, w2]
  by_cases h3 : (s.size : Int) - 2 < (n : Int)
  · rw [if_pos h3, if_pos h3]
  · rw [if_neg h3, if_neg h3]
    exact unf_tells s n (by omega) (by omega) (s.size - (2 + n)) k (2 + n) (by omega) (by omega) (by omega)
theorem docunframe_val (s : ByteArray) (hm : s.size ≤ 140737488351232) (k : Nat) (hk : s.size + 12 ≤ k) : cisternref03_DocUnframe.f k s = some (strOfNums (unframeL (bytesOf s)).1, (unframeL (bytesOf s)).2) := by
  have hlen := bytesOf_length s
  obtain ⟨k, rfl⟩ : ∃ m, k = m + 1 := ⟨k - 1, by omega⟩
  unfold cisternref03_DocUnframe.f
  by_cases h1 : s.size < 2
  · rw [if_pos (by omega), unframeL_short _ (.inl (by omega))]
    simp only [cisternref03_DocUnframe.j0]
    simp [strOfNums_nil]
  · rw [if_neg (by omega)]
    by_cases h2 : 60000 < s.size
    · rw [unframeL_short _ (.inr (by omega)), show decide ((s.size : Int) > 60000) = true from decide_eq_true (by omega)]
      simp only [cisternref03_DocUnframe.j0]
      simp [strOfNums_nil]
    · rw [show decide ((s.size : Int) > 60000) = false from decide_eq_false (by omega)]
      have hb2 : byteL ((bytesOf s).take 2) := byteL_take (bytesOf_byteL s) 2
      have l2 : ((bytesOf s).take 2).length = 2 := by rw [List.length_take]; omega
      have hg := getV2 _ hb2 l2
      obtain ⟨n, hn⟩ : ∃ n : Nat, getV ((bytesOf s).take 2) = (n : Int) := ⟨(getV ((bytesOf s).take 2)).toNat, by omega⟩
      rw [docunf_j s n k (by omega) (by omega) (by omega) hn (by omega), unframeL_n _ n (by omega) hn, hlen]
      by_cases h3 : (s.size : Int) - 2 < (n : Int)
      · rw [if_pos h3, if_pos (.inl h3)]
        simp [strOfNums_nil]
      · rw [if_neg h3]
        by_cases h4 : someB ((bytesOf s).drop (2 + n)) = true
        · rw [if_pos h4, if_pos (.inr h4)]
          simp [strOfNums_nil]
        · rw [if_neg h4, if_neg (fun h => h.elim h3 h4)]
          have e : bytesOf (s.extract 2 (2 + n)) = ((bytesOf s).drop 2).take n := by
            rw [bytesOf_extract, List.drop_take]
            congr 1
            omega
          rw [← e, strOfNums_bytesOf]
theorem someB_zeros (n : Nat) : someB (List.replicate n 0) = false := by
  unfold someB
  simp
theorem frameL_length (l : List Int) (n : Nat) (h : 2 + l.length ≤ n) : (frameL l n).length = n := by simp [frameL]; omega
theorem frameL_byteL (l : List Int) (n : Nat) (h : 2 + l.length ≤ n) (hn : n ≤ 60000) (hl : byteL l) : byteL (frameL l n) := by
  refine byteL_mk (by omega) (by omega) (byteL_mk (by omega) (by omega) (byteL_append hl (fun b hb => ?_)))
  rw [List.eq_of_mem_replicate hb]
  omega
theorem unframe_frame (l : List Int) (n : Nat) (h : 2 + l.length ≤ n) (hn : n ≤ 60000) : unframeL (frameL l n) = (l, 0) := by
  have hl := frameL_length l n h
  unfold unframeL
  rw [hl, if_neg (by omega)]
  have h2 : (frameL l n).take 2 = [(l.length : Int) % 256, (l.length : Int) / 256] := rfl
  have hv : getV [(l.length : Int) % 256, (l.length : Int) / 256] = (l.length : Int) := by
    simp only [getV]
    omega
  have hd : (frameL l n).drop (2 + l.length) = List.replicate (n - 2 - l.length) 0 := by
    rw [Nat.add_comm]
    simp [frameL]
  have hd2 : ((frameL l n).drop 2).take l.length = l := by simp [frameL]
  rw [h2, hv, Int.toNat_natCast, hd, someB_zeros, if_neg (by simp; omega), hd2]
theorem beq_toList (a : ByteArray) : (a.toList == a.toList) = true := by simp
theorem frames_pure (l : List Int) (x : Int) (hl : l.length ≤ 140737488351232) (hb : byteL l) (h0 : -9223372036854775808 ≤ x) (h1 : x ≤ 9223372036854775807) : cisternlaw03_PackFrames.f (l.length + 30) l x = some true := by
  have e := bytesOf_strOfNums l hb
  have sz := size_strOfNums l
  have hB := byteB_iff.2 hb
  have v1 : cisternref03_DocFrame.f (strOfNums l) x = some (strOfNums (frameV l x).1, (frameV l x).2) := by
    unfold cisternref03_DocFrame.f
    rw [if_pos ⟨by omega, h0, h1⟩, e]
  have v2 : pack_Frame.f l x = some (frameV l x) := by
    unfold pack_Frame.f
    rw [if_pos ⟨by omega, h0, h1⟩]
  have v3 := docunframe_val (strOfNums l) (by omega) (l.length + 30) (by omega)
  have v4 : pack_Unframe.f l = some (unframeL l) := by
    unfold pack_Unframe.f
    rw [if_pos ⟨hB, by omega⟩]
  rw [e] at v3
  unfold cisternlaw03_PackFrames.f
  rw [v1, v2, v3, v4]
  simp only [cisternlaw03_known.f, Option.bind_some, if_true]
  rw [show (bne (unframeL l).2 (unframeL l).2) = false by simp]
  obtain ⟨k, hk⟩ : ∃ k, l.length + 30 = k + 1 := ⟨_, rfl⟩
  rw [hk]
  simp only [cisternlaw03_PackFrames.j0]
  rw [if_neg (by decide)]
  by_cases hf : (frameV l x).2 = 0
  · have hv : 2 + l.length ≤ x.toNat ∧ x.toNat ≤ 60000 ∧ (frameV l x).1 = frameL l x.toNat := by
      unfold frameV at hf ⊢
      split at hf
      · cases hf
      · rename_i q1
        split at hf
        · cases hf
        · rename_i q2
          rw [if_neg q1, if_neg q2]
          exact ⟨by omega, by omega, rfl⟩
    obtain ⟨hv1, hv2, hv3⟩ := hv
    have v5 : pack_Unframe.f (frameL l x.toNat) = some (l, 0) := by
      unfold pack_Unframe.f
      rw [if_pos ⟨byteB_iff.2 (frameL_byteL l _ hv1 hv2 hb), by rw [frameL_length l _ hv1]; omega⟩, unframe_frame l _ hv1 hv2]
    simp [hf, hv3, v5]
  · simp [hf]
theorem packFrames_pure : cisternlaw03_PackFrames.Pure := fun l x _ h hb hx => by
  have hx' := wf_i64 hx
  exact ⟨_, frames_pure l x (by omega) (wf_u8 hb) hx'.1 hx'.2⟩
theorem cisternlaw03_PackFrames.walk2 (A0 : Option Addr) (c0 : Nat) (l0 : List Int) (a1 : Int) (w : World) (hr0 : Kd.C (Kd.int .u8) w A0 l0.length l0) (hc0 : l0.length ≤ c0) (y0 : l0.length * 1 ≤ 140737488351232) (w0 : ∀ v ∈ l0, (Lit.int .u8 v).wf = true) (w1 : (Lit.int .i64 a1).wf = true) :
    Calls Tryd.prog 3 #[.slice A0 l0.length c0, .int .i64 a1] w fun e w' => e = .returned (.bool true) ∧ Below w.heap.size w w' :=
  cisternlaw03_PackFrames.calls (l0.length + 30) A0 c0 l0 a1 true w hr0 hc0 (frames_pure l0 a1 (by omega) (wf_u8 w0) (wf_i64 w1).1 (wf_i64 w1).2)
end Go.Proofs.YtgjhhbljbnbjkaaDoor.PA
