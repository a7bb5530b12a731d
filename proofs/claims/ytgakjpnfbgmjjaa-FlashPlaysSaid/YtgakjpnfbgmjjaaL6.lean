import Derived.Test.YtgakjpnfbgmjjaaL5
import Derived.RangeFuncBox
import Derived.RangeFuncLeaves
import Derived.RangeFuncNested
import Derived.RangeFuncBound
import Derived.RangeFuncCalls
import Derived.Shelf.Abstract
import Derived.WalkKit
import Derived.OwnWalkIn
import Derived.TacticsInMore
import Derived.LoopNIn
import Derived.LoopIn
import Derived.Deep.Slices
import Derived.SizedLaws
import Derived.IntWalk
import Derived.ArgAppend
namespace Go.Proofs.Ytgakjpnfbgmjjaa.PA
open Go.RowKit Go.Proofs.YtgakjpnfbgmjjaaW.PrintWords Go.Proofs.YtgakjpnfbgmjjaaW.PrintLast Go.Proofs.YtgakjpnfbgmjjaaW.PrintMore
set_option linter.unusedVariables false
set_option linter.unusedSimpArgs false
/-! ### A sector's bytes -/
theorem bytes_l0 (x0 : Int) (L : Nat) (hL : L ≤ 600) : ∀ (d : Nat) (x5 : List Int) (i k : Nat), x5.length = L → i ≤ L → L - i = d → d < k → ∃ l, cisternlaw01_bytes.l0 k x0 x5 (i : Int) = some l ∧ l.length = L
  | 0, x5, i, k, h5, hi, hd, hk => by
    obtain ⟨k, rfl⟩ : ∃ m, k = m + 1 := ⟨k - 1, by omega⟩
    obtain rfl : i = L := by omega
    rw [cisternlaw01_bytes.l0]
    rw [if_neg (by rw [h5]; omega)]
    by_cases h : (x5.length : Int) > 1
    · rw [if_pos h, if_pos (by omega), if_pos (by omega)]
      exact ⟨_, rfl, by simp [h5]⟩
    · rw [if_neg h]
      exact ⟨_, rfl, h5⟩
  | d + 1, x5, i, k, h5, hi, hd, hk => by
    obtain ⟨k, rfl⟩ : ∃ m, k = m + 1 := ⟨k - 1, by omega⟩
    rw [cisternlaw01_bytes.l0]
    rw [if_pos (by rw [h5]; omega), if_pos (by omega)]
    have : wrap64 ((i : Int) + 1) = ((i + 1 : Nat) : Int) := by unfold wrap64; omega
    rw [this]
    exact bytes_l0 x0 L hL d _ (i + 1) k (by simp [h5]) (by omega) (by omega) (by omega)
def bytesN (a : Int) : Nat := (mx (mn (wrap64 (256 + a)) 600) 0).toNat
def bytesL (x a : Int) : List Int := (cisternlaw01_bytes.f 1000 x a).getD []
theorem bytesN_le (a : Int) : bytesN a ≤ 600 := by unfold bytesN mx mn; split <;> split <;> omega
theorem bytes_val (x a : Int) : cisternlaw01_bytes.f 1000 x a = some (bytesL x a) ∧ (bytesL x a).length = bytesN a := by
  have hn := bytesN_le a
  have h0 : 0 ≤ mx (mn (wrap64 (256 + a)) 600) 0 := by unfold mx; split <;> omega
  obtain ⟨l, h1, h2⟩ := bytes_l0 x (bytesN a) hn (bytesN a) (List.replicate (bytesN a) 0) 0 1000 (by simp) (Nat.zero_le _) (by omega) (by omega)
  have h3 : cisternlaw01_bytes.f 1000 x a = some l := by
    unfold cisternlaw01_bytes.f
    rw [if_pos h0, if_pos (by show bytesN a ≤ _; omega)]
    exact h1
  have h4 : bytesL x a = l := by unfold bytesL; rw [h3]; rfl
  rw [h4]
  exact ⟨h3, h2⟩
theorem bytesN_zero : bytesN 0 = 256 := by kernel_rfl
theorem bytesL_len (x : Int) : (bytesL x 0).length = 256 := by rw [(bytes_val x 0).2, bytesN_zero]
theorem byteBlk_of_R {W : World} {b : Nat} {ok : Nat → Prop} {v : Value} {l : List Int} (h : (Kd.int .u8).R 5 W b ok v l) (h0 : 0 < l.length) : ByteBlk W (fun k => b ≤ k) v l := by
  have hR := h
  obtain ⟨inner, ho⟩ := Kd.R_own h
  rcases ho.2 with ⟨hv, h1⟩ | ⟨g, cap, cur, rfl, hg, hh, hc, hm, _⟩
  · omega
  · refine ⟨g, cap, cur, rfl, ⟨hc, by simp only [maxLen] at hm; omega⟩, hg, hh, fun i hi => ?_⟩
    have k1 := (Kd.R_cell (0 : Int) hR (i : Int) (by omega) (by omega)).1
    rw [Int.toNat_natCast, blk_cell hh] at k1
    rw [k1]
    congr 2
    simp [rdOf, hi]
theorem bytes_calls (x a : Int) (W : World) :
    Calls Try.prog 13 #[.int .i64 x, .int .i64 a] W fun e W' => ∃ A c, e = .returned (.slice A (bytesN a) c) ∧ (0 < bytesN a → ByteBlk W' (fun k => W.heap.size ≤ k) (.slice A (bytesN a) c) (bytesL x a)) ∧ Below W.heap.size W W' := by
  refine (cisternlaw01_bytes.calls 1000 x a _ W (bytes_val x a).1).mono ?_
  rintro e w ⟨v, rfl, hR, hB⟩
  obtain ⟨A, c, rfl⟩ := Kd.R_slice hR
  rw [(bytes_val x a).2] at hR ⊢
  exact ⟨A, c, rfl, fun h0 => byteBlk_of_R hR (by rw [(bytes_val x a).2]; exact h0), hB⟩
/-! ### States in form -/
theorem FSt.Ok.new {n : Nat} (h : n ≤ 4096) : (FSt.new n).Ok := ⟨by simp [FSt.new, h], by simp [FSt.new], by simp [FSt.new]⟩
theorem FSt.Ok.spent {S : FSt} (h : S.Ok) : S.spent.Ok := ⟨h.n, h.b, h.w⟩
theorem FSt.Ok.last {S : FSt} (h : S.Ok) (p : Int × List Int) (hp : p.2.length = 256) : (S.last p).Ok := by
  refine ⟨by simp [FSt.last, h.n], fun s hs l hl => ?_, fun q hq => ?_⟩
  · rcases List.mem_or_eq_of_mem_set hs with h1 | rfl
    · exact h.b s h1 l hl
    · simp only [Option.some.injEq] at hl
      rw [← hl]; exact hp
  · simpa [FSt.last] using h.w q hq
theorem FSt.Ok.lasts {S : FSt} (h : S.Ok) (l : List (Int × List Int)) (hl : ∀ q ∈ l, q.2.length = 256) : (S.lasts l).Ok := by
  unfold FSt.lasts
  induction l generalizing S with
  | nil => exact h
  | cons p l ih => rw [List.foldl_cons]; exact ih (h.last p (hl p (by simp))) (fun q hq => hl q (by simp [hq]))
theorem FSt.Ok.nowaits {S : FSt} (h : S.Ok) (o a : Bool) (l : Int) : ({ S with waits := [], off := o, armed := a, left := l } : FSt).Ok := ⟨h.n, h.b, by simp⟩
theorem FSt.Ok.flush {S : FSt} (h : S.Ok) : S.flush.1.Ok := by
  unfold FSt.flush
  split
  · exact h.spent
  · exact (h.spent.lasts S.waits (fun q hq => (h.w q hq).2.2)).nowaits _ _ _
theorem FSt.isIn_iff {S : FSt} {p : Int} : S.isIn p = true ↔ 0 ≤ p ∧ p < S.secs.length := by unfold FSt.isIn; simp
theorem FSt.Ok.write {S : FSt} (h : S.Ok) (p : Int) (b : List Int) : (S.write p b).1.Ok := by
  unfold FSt.write
  split
  · rename_i hc
    rw [Bool.and_eq_true, beq_iff_eq, FSt.isIn_iff] at hc
    split
    · exact h.spent
    · refine ⟨h.n, h.b, fun q hq => ?_⟩
      rcases List.mem_append.1 hq with h1 | h1
      · exact h.w q h1
      · simp only [List.mem_singleton] at h1
        subst h1
        exact ⟨hc.1.1, hc.1.2, hc.2⟩
  · exact h
theorem FSt.Ok.picks {S : FSt} (h : S.Ok) (ks : List Int) : ∀ i, i ≤ S.waits.length → (S.picks ks i).Ok
  | 0, _ => h
  | i + 1, hi => by
    have ih := FSt.Ok.picks h ks i (by omega)
    rw [FSt.picks]
    have hq : (S.waits[i]?.getD (0, [])).2.length = 256 := by
      rw [List.getElem?_eq_getElem (by omega)]
      exact (h.w _ (List.getElem_mem (by omega))).2.2
    unfold FSt.picked
    split
    · exact ih.last _ hq
    · split
      · refine ⟨by simp [ih.n], fun s hs l hl => ?_, fun q hq => by simpa using ih.w q hq⟩
        rcases List.mem_or_eq_of_mem_set hs with h1 | rfl
        · exact ih.b s h1 l hl
        · by_cases hlt : (S.waits[i]?.getD (0, [])).1.toNat < (S.picks ks i).secs.length
          · rw [List.getElem?_eq_getElem hlt] at hl
            exact ih.b _ (List.getElem_mem hlt) l hl
          · rw [List.getElem?_eq_none (by omega)] at hl
            cases hl
      · exact ih
theorem FSt.Ok.crash {S : FSt} (h : S.Ok) (ks : List Int) : (S.crash ks).Ok := (h.picks ks _ (Nat.min_le_left _ _)).nowaits _ _ _
theorem FSt.Ok.arm {S : FSt} (h : S.Ok) (n : Int) : (S.arm n).Ok := ⟨h.n, h.b, h.w⟩
/-! ### A device that has power -/
theorem FSt.write_on {S : FSt} (hs : S.stops = false) {p : Int} {b : List Int} (hp : S.isIn p = true) (hb : b.length = 256) : S.write p b = ({ S.spent with waits := S.waits ++ [(p, b)] }, 0) := by
  unfold FSt.write
  rw [if_pos (by rw [hp, hb]; rfl), hs]
  rfl
theorem FSt.write_bad {S : FSt} {p : Int} {b : List Int} (h : S.isIn p = false ∨ b.length ≠ 256) : S.write p b = (S, 1) := by
  unfold FSt.write
  rw [if_neg]
  intro hc
  rw [Bool.and_eq_true, beq_iff_eq] at hc
  rcases h with h | h
  · rw [h] at hc; exact absurd hc.1 (by decide)
  · exact h hc.2
end Go.Proofs.Ytgakjpnfbgmjjaa.PA
