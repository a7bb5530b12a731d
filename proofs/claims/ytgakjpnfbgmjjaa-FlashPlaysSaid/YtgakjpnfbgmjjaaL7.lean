import Derived.Test.YtgakjpnfbgmjjaaL6
import Derived.RangeFuncBox
import Derived.RangeFuncLeaves
import Derived.RangeFuncNested
import Derived.RangeFuncBound
import Derived.RangeFuncCalls
import Derived.Shelf.Abstract
import Derived.WalkKit
import Derived.OwnWalkIn
import Derived.TacticsInMore
import Derived.LoopNIn
import Derived.LoopIn
import Derived.Deep.Slices
import Derived.SizedLaws
import Derived.IntWalk
import Derived.ArgAppend
namespace Go.Proofs.Ytgakjpnfbgmjjaa.PA
open Go.RowKit Go.Proofs.YtgakjpnfbgmjjaaW.PrintWords Go.Proofs.YtgakjpnfbgmjjaaW.PrintLast Go.Proofs.YtgakjpnfbgmjjaaW.PrintMore
set_option linter.unusedVariables false
set_option linter.unusedSimpArgs false
/-! ### The device in memory of the law's own -/
structure DevB (W : World) (B : Nat) (g : Nat) (S : FSt) : Prop where
  dev : Dev W (fun k => B ≤ k) g S
  ok : S.Ok
  n : S.waits.length ≤ 1000000
  b : B ≤ W.heap.size
theorem DevB.fr {W : World} {B g : Nat} {S : FSt} (h : DevB W B g S) : ∀ k, W.heap.size ≤ k → B ≤ k := fun k hk => Nat.le_trans h.b hk
theorem DevB.below {W W' : World} {B g : Nat} {S : FSt} (h : DevB W B g S) (hb : Below W.heap.size W W') : DevB W' B g S := ⟨h.dev.below hb, h.ok, h.n, Nat.le_trans h.b hb.size⟩
theorem devB_new (m : Nat) (h1 : 1 ≤ m) (h2 : m ≤ 4096) (W : World) (n : Int) (hn : n = (m : Int)) :
    Calls Try.prog 11 #[.int .i64 n] W fun e W' => ∃ g, e = .returned (.tuple #[.pointer (some ⟨g, 0, none⟩), .int .i64 0]) ∧ DevB W' W.heap.size g (.new m) ∧ Below W.heap.size W W' := by
  subst hn
  exact (dev_new m h1 h2 W).mono fun e W' ⟨he, hd, hb⟩ => ⟨_, he, ⟨hd, .new h2, by simp [FSt.new], hb.size⟩, hb⟩
theorem devB_write {W : World} {B g : Nat} {S : FSt} (h : DevB W B g S) (hw : S.waits.length ≤ 999999) (p : Int) (A : Option Addr) (n c : Nat) (l : List Int) (hl : n = l.length) (hb : l.length = 256 → ByteBlk W (fun _ => True) (.slice A n c) l) :
    Calls Try.prog 12 #[.pointer (some ⟨g, 0, none⟩), .int .i64 p, .slice A n c] W fun e W' => e = .returned (.int .i64 (S.write p l).2) ∧ DevB W' B g (S.write p l).1 ∧ Below B W W' :=
  (dev_write h.dev h.ok h.n h.fr p A n c l hl hb).mono fun e W' ⟨he, hd, hc⟩ => ⟨he, ⟨hd, h.ok.write p l, by
    unfold FSt.write
    split
    · split
      · exact h.n
      · simp only [List.length_append, List.length_singleton]; omega
    · exact h.n, Nat.le_trans h.b hc.size⟩, hc.below h.b (fun _ hk => hk)⟩
theorem devB_flush {W : World} {B g : Nat} {S : FSt} (h : DevB W B g S) :
    Calls Try.prog 14 #[.pointer (some ⟨g, 0, none⟩)] W fun e W' => e = .returned (.int .i64 S.flush.2) ∧ DevB W' B g S.flush.1 ∧ Below B W W' :=
  (dev_flush h.dev h.ok h.n h.fr).mono fun e W' ⟨he, hd, hc⟩ => ⟨he, ⟨hd, h.ok.flush, by
    unfold FSt.flush
    split
    · exact h.n
    · simp, Nat.le_trans h.b hc.size⟩, hc.below h.b (fun _ hk => hk)⟩
theorem devB_crash {W : World} {B g : Nat} {S : FSt} (h : DevB W B g S) (v : Value) (ks : List Int) (hp : IntBlk W v ks) :
    Calls Try.prog 18 #[.pointer (some ⟨g, 0, none⟩), v] W fun e W' => e = .returned (.tuple #[]) ∧ DevB W' B g (S.crash ks) ∧ Below B W W' :=
  (dev_crash h.dev h.ok h.n h.fr v ks hp).mono fun e W' ⟨he, hd, hc⟩ => ⟨he, ⟨hd, h.ok.crash ks, by simp [FSt.crash], Nat.le_trans h.b hc.size⟩, hc.below h.b (fun _ hk => hk)⟩
theorem devB_read {W : World} {B g : Nat} {S : FSt} (h : DevB W B g S) (p : Int) (r : List Int × Int) (hr : S.read p = r) :
    Calls Try.prog 15 #[.pointer (some ⟨g, 0, none⟩), .int .i64 p] W fun e W' => ∃ A c, e = .returned (.tuple #[.slice A r.1.length c, .int .i64 r.2]) ∧ (∀ w', Below W'.heap.size W' w' → ∀ c, (convert 30 9 (.slice A r.1.length c)).run Try.prog w' = .ok (.string (strOfNums r.1)) w') ∧ DevB W' B g S ∧ Below W.heap.size W W' := by
  subst hr
  refine (dev_read h.dev h.ok h.n p).mono fun e W' ⟨v, he, hv, hb⟩ => ?_
  rcases hv with ⟨h1, rfl⟩ | ⟨h1, h2⟩
  · refine ⟨none, 0, by rw [he, h1]; rfl, fun w' hb' c => ?_, h.below hb, hb⟩
    rw [h1]
    exact Kd.C_string (P := Try.prog) Try.underlying30 Try.underlying5 Try.underlying9 ⟨rfl, by simp, fun h => absurd h (by simp)⟩
  · obtain ⟨q, c, rfl, -, -, -, hC⟩ := h2.reads
    exact ⟨_, c, he, fun w' hb' c => Kd.C_string (P := Try.prog) Try.underlying30 Try.underlying5 Try.underlying9 (Kd.C_below hC hb'), h.below hb, hb⟩
theorem devB_size {W : World} {B g : Nat} {S : FSt} (h : DevB W B g S) (n : Nat) (hn : S.secs.length = n) :
    Calls Try.prog 16 #[.pointer (some ⟨g, 0, none⟩)] W fun e W' => e = .returned (.int .i64 (n : Int)) ∧ W' = W := by
  subst hn
  obtain ⟨gs, vw, hd⟩ := h.dev
  exact dev_size hd
theorem devB_pending {W : World} {B g : Nat} {S : FSt} (h : DevB W B g S) (n : Nat) (hn : S.waits.length = n) :
    Calls Try.prog 19 #[.pointer (some ⟨g, 0, none⟩)] W fun e W' => e = .returned (.int .i64 (n : Int)) ∧ W' = W := by
  subst hn
  obtain ⟨gs, vw, hd⟩ := h.dev
  exact dev_pending hd
theorem devB_arm {W : World} {B g : Nat} {S : FSt} (h : DevB W B g S) (n : Int) :
    Calls Try.prog 17 #[.pointer (some ⟨g, 0, none⟩), .int .i64 n] W fun e W' => e = .returned (.tuple #[]) ∧ DevB W' B g (S.arm n) ∧ Below B W W' := by
  obtain ⟨gs, vw, hd⟩ := h.dev
  exact (dev_arm hd n).mono fun e W' ⟨he, hd', ho⟩ => ⟨he, ⟨⟨_, _, hd'⟩, h.ok.arm n, h.n, by rw [ho.size]; exact h.b⟩, (ho.chg hd.fg).below h.b (fun _ hk => hk)⟩
/-! ### What is read behind each call -/
theorem FSt.new_read (m : Nat) (p : Int) : (FSt.new m).read p = if (FSt.new m).isIn p then (noughts, 0) else ([], 1) := by
  unfold FSt.read
  split
  · rename_i h
    rw [FSt.isIn_iff] at h
    have hp : p.toNat < m := by
      have := h.2
      simp [FSt.new] at this
      omega
    have : (FSt.new m).secs[p.toNat]? = some (none, false) := by simp [FSt.new, hp]
    rw [this]
    rfl
  · rfl
theorem FSt.new_isIn (m : Nat) (p : Int) : (FSt.new m).isIn p = (decide (0 ≤ p) && decide (p < (m : Int))) := by unfold FSt.isIn FSt.new; simp
theorem FSt.read_write {S : FSt} (hs : S.stops = false) {q : Int} {b : List Int} (hq : S.isIn q = true) (hb : b.length = 256) (p : Int) : (S.write q b).1.read p = if p = q then (b, 0) else S.read p := by
  have ho : S.off = false := by unfold FSt.stops at hs; simp at hs; exact hs.1
  have ho' : S.spent.off = false := by unfold FSt.spent; exact hs
  rw [FSt.write_on hs hq hb]
  obtain ⟨T, hT⟩ : ∃ T : FSt, T = { S.spent with waits := S.waits ++ [(q, b)] } := ⟨_, rfl⟩
  have e1 : T.isIn p = S.isIn p := by rw [hT]; rfl
  have e2 : T.off = false := by rw [hT]; exact ho'
  have e3 : T.waits = S.waits ++ [(q, b)] := by rw [hT]
  have e4 : T.secs = S.secs := by rw [hT]; rfl
  rw [← hT]
  show T.read p = _
  unfold FSt.read FSt.found
  rw [e1, e2, e3, e4, ho, List.reverse_append, List.reverse_singleton, List.singleton_append, List.find?_cons]
  by_cases hpq : p = q
  · subst hpq
    rw [if_pos hq, if_pos rfl]
    simp
  · have : (q == p) = false := beq_eq_false_iff_ne.2 (fun e => hpq e.symm)
    rw [if_neg hpq, this]
theorem lasts_get (l : List (Int × List Int)) (k : Nat) : ∀ (S : FSt), (∀ q ∈ l, 0 ≤ q.1) → k < S.secs.length → (S.lasts l).secs[k]? = match l.reverse.find? (fun q => q.1 == (k : Int)) with | some q => some (some q.2, false) | none => S.secs[k]? := by
  induction l with
  | nil => intro S _ _; rfl
  | cons p l ih =>
    intro S hl hk
    have h1 : (S.lasts (p :: l)) = (S.last p).lasts l := rfl
    rw [h1, ih (S.last p) (fun q hq => hl q (by simp [hq])) (by simpa [FSt.last] using hk), List.reverse_cons, List.find?_append]
    cases hf : l.reverse.find? (fun q => q.1 == (k : Int)) with
    | some q => rfl
    | none =>
      have h0 := hl p (by simp)
      by_cases hp : p.1 = (k : Int)
      · have : (p.1 == (k : Int)) = true := by simpa using hp
        simp only [Option.none_or, List.find?_cons, this]
        unfold FSt.last
        have e : p.1.toNat = k := by omega
        rw [e, List.getElem?_set_self hk]
      · have : (p.1 == (k : Int)) = false := beq_eq_false_iff_ne.2 hp
        simp only [Option.none_or, List.find?_cons, this, List.find?_nil]
        unfold FSt.last
        rw [List.getElem?_set_ne (by omega)]
theorem FSt.read_flush {S : FSt} (hk : S.Ok) (hs : S.stops = false) (p : Int) : S.flush.1.read p = S.read p := by
  have ho : S.off = false := by unfold FSt.stops at hs; simp at hs; exact hs.1
  have hf : S.flush.1 = { S.spent.lasts S.waits with waits := [] } := by unfold FSt.flush; rw [hs]; rfl
  have hlen : (S.spent.lasts S.waits).secs.length = S.secs.length := by rw [FSt.lasts_len]; rfl
  have hoff : (S.spent.lasts S.waits).off = false := by
    have : ∀ (l : List (Int × List Int)) (T : FSt), (T.lasts l).off = T.off := by
      intro l
      induction l with
      | nil => intro T; rfl
      | cons p l ih => intro T; exact (ih (T.last p)).trans rfl
    rw [this]
    exact hs
  rw [hf]
  unfold FSt.read FSt.found FSt.isIn
  simp only [hlen, hoff, ho, List.reverse_nil, List.find?_nil, Bool.and_eq_true, decide_eq_true_eq]
  by_cases hp : 0 ≤ p ∧ p < S.secs.length
  · rw [if_pos hp, if_pos hp]
    obtain ⟨k, rfl⟩ : ∃ k : Nat, p = (k : Int) := ⟨p.toNat, by omega⟩
    rw [Int.toNat_natCast, lasts_get S.waits k S.spent (fun q hq => (hk.w q hq).1) (by show k < S.secs.length; omega)]
    cases S.waits.reverse.find? (fun q => q.1 == (k : Int)) with
    | some q => rfl
    | none => rfl
  · rw [if_neg hp, if_neg hp]
theorem FSt.flush_on {S : FSt} (hs : S.stops = false) : S.flush.2 = 0 := by unfold FSt.flush; rw [hs]; rfl
end Go.Proofs.Ytgakjpnfbgmjjaa.PA
