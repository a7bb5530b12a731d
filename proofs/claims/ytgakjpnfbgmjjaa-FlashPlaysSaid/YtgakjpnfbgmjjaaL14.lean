import Derived.Test.YtgakjpnfbgmjjaaL12
import Derived.RangeFuncBox
import Derived.RangeFuncLeaves
import Derived.RangeFuncNested
import Derived.RangeFuncBound
import Derived.RangeFuncCalls
import Derived.Shelf.Abstract
import Derived.WalkKit
import Derived.OwnWalkIn
import Derived.TacticsInMore
import Derived.LoopNIn
import Derived.LoopIn
import Derived.Deep.Slices
import Derived.SizedLaws
import Derived.IntWalk
import Derived.ArgAppend
namespace Go.Proofs.Ytgakjpnfbgmjjaa.PA
open Go.RowKit Go.Proofs.YtgakjpnfbgmjjaaW.PrintWords Go.Proofs.YtgakjpnfbgmjjaaW.PrintLast Go.Proofs.YtgakjpnfbgmjjaaW.PrintMore
set_option linter.unusedVariables false
set_option linter.unusedSimpArgs false
/-! ### struct type 44: a call of a script -/
structure S44 where
  f0 : Int
  f1 : Int
  f2 : Int
  f3 : Int
  f4 : (List Int)
def z44 : S44 := ⟨(0 : Int), (0 : Int), (0 : Int), (0 : Int), ([] : List Int)⟩
def k44 : Kd S44 := Kd.iso (Kd.pair (Kd.int .i64) (Kd.pair (Kd.int .i64) (Kd.pair (Kd.int .i64) (Kd.pair (Kd.int .i64) (Kd.slice 3 (Kd.int .i64)))))) (fun x : S44 => (x.f0, x.f1, x.f2, x.f3, x.f4))
theorem k44_open {w : World} {x : S44} {cs : List Value} (h : k44.K w x cs) : ∃ A4 c4, cs = [.int .i64 x.f0, .int .i64 x.f1, .int .i64 x.f2, .int .i64 x.f3, .slice A4 x.f4.length c4] ∧ x.f4.length ≤ c4 ∧ (Kd.int .i64).C w A4 x.f4.length x.f4 := by
  obtain ⟨_, _, rfl, rfl, ⟨_, _, rfl, rfl, ⟨_, _, rfl, rfl, ⟨_, _, rfl, rfl, ⟨A4, c4, rfl, l4, g4⟩⟩⟩⟩⟩ := h
  exact ⟨A4, c4, rfl, l4, g4⟩
def rd_T44 (xs : List S44) (i : Int) : S44 := xs.getD i.toNat z44
theorem at_T44 {w : World} {A : Option Addr} {n : Nat} {xs : List S44} (h : Kd.C k44 w A n xs) (i : Int) (h0 : 0 ≤ i) (h1 : i < n) : ∃ ad A4 c4, A = some ad ∧ w.cell? (ad.add (i.toNat * 5)) = some (.int .i64 (rd_T44 xs i).f0) ∧ w.cell? ⟨(ad.add (i.toNat * 5)).block, (ad.add (i.toNat * 5)).off + 1, none⟩ = some (.int .i64 (rd_T44 xs i).f1) ∧ w.cell? ⟨(ad.add (i.toNat * 5)).block, (ad.add (i.toNat * 5)).off + 2, none⟩ = some (.int .i64 (rd_T44 xs i).f2) ∧ w.cell? ⟨(ad.add (i.toNat * 5)).block, (ad.add (i.toNat * 5)).off + 3, none⟩ = some (.int .i64 (rd_T44 xs i).f3) ∧ w.cell? ⟨(ad.add (i.toNat * 5)).block, (ad.add (i.toNat * 5)).off + 4, none⟩ = some (.slice A4 (rd_T44 xs i).f4.length c4) ∧ (rd_T44 xs i).f4.length ≤ c4 ∧ (Kd.int .i64).C w A4 (rd_T44 xs i).f4.length (rd_T44 xs i).f4 := by
  obtain ⟨ad, c, e, _, hK, hc0⟩ := Kd.C_get h z44 i h0 h1
  have hc : ∀ j u, c[j]? = some u → w.cell? (ad.add (i.toNat * 5 + j)) = some u := hc0
  obtain ⟨A4, c4, rfl, l4, g4⟩ := k44_open hK
  exact ⟨ad, A4, c4, e, hc 0 _ rfl, by rw [← add_field _ _ 1 (by omega)]; exact hc 1 _ rfl, by rw [← add_field _ _ 2 (by omega)]; exact hc 2 _ rfl, by rw [← add_field _ _ 3 (by omega)]; exact hc 3 _ rfl, by rw [← add_field _ _ 4 (by omega)]; exact hc 4 _ rfl, l4, g4⟩
/-! ### FlashLasts: values -/
theorem modm (n : Int) (m : Nat) (hm : 0 < m) (hm2 : m ≤ 1000000) : ∃ k : Nat, k < m ∧ wrap64 ((IntKind.u64.wrap n).tmod (m : Int)) = (k : Int) := by
  have e : IntKind.u64.wrap n = n % 18446744073709551616 := by simp [IntKind.wrap, IntKind.signed, IntKind.bits]
  have h0 : 0 ≤ n % 18446744073709551616 := by omega
  rw [e, Int.tmod_eq_emod_of_nonneg h0]
  generalize n % 18446744073709551616 = q at h0
  have h1 := Int.emod_nonneg q (show (m : Int) ≠ 0 by omega)
  have h2 := Int.emod_lt_of_pos q (show (0 : Int) < m by omega)
  refine ⟨(q % (m : Int)).toNat, by omega, ?_⟩
  unfold wrap64
  omega
theorem bytes_zero : bytesL 0 0 = noughts := by kernel_rfl
theorem pickI_three (x : Int) : pickI x = 0 ∨ pickI x = 1 ∨ pickI x = 2 := by
  unfold pickI wrap64
  have h1 := Int.tmod_lt_of_pos x (show (0 : Int) < 3 by decide)
  have h2 := Int.lt_tmod_of_pos x (show (0 : Int) < 3 by decide)
  generalize x.tmod 3 = y at h1 h2
  have : 0 ≤ (y + 3 + 9223372036854775808) % 18446744073709551616 - 9223372036854775808 := by omega
  rw [Int.tmod_eq_emod_of_nonneg this]
  omega
theorem pickAt_three (ks : List Int) (i : Nat) : pickAt ks i = 0 ∨ pickAt ks i = 1 ∨ pickAt ks i = 2 := by
  unfold pickAt
  split
  · exact pickI_three _
  · exact .inl rfl
theorem lasts_crash (S : FSt) (h : S.On 8) (hw : S.waits = []) (b : List Int) (ks : List Int) (j : Nat) (hj : j < 8) :
    (({ S with waits := [((3 : Int), b)] } : FSt).crash ks).read (j : Int) = if j = 3 ∧ pickAt ks 0 = 1 then (b, 0) else if j = 3 ∧ pickAt ks 0 = 2 then ([], 3) else S.read (j : Int) := by
  have hS : S.read (j : Int) = if (S.secs[j]?.getD (none, false)).2 then ([], 3) else ((S.secs[j]?.getD (none, false)).1.getD noughts, 0) := by
    unfold FSt.read FSt.found
    rw [if_pos (FSt.isIn_iff.2 ⟨by omega, by rw [h.n]; omega⟩), h.off, hw, Int.toNat_natCast]
    rfl
  have hgen : ∀ secs : List (Option (List Int) × Bool), secs.length = 8 → ({ S with secs := secs, waits := [], off := false, armed := false } : FSt).read (j : Int) = if (secs[j]?.getD (none, false)).2 then ([], 3) else ((secs[j]?.getD (none, false)).1.getD noughts, 0) := fun secs hs => by
    unfold FSt.read FSt.found
    rw [if_pos (FSt.isIn_iff.2 ⟨by omega, by show (j : Int) < (secs.length : Int); rw [hs]; omega⟩), Int.toNat_natCast]
    rfl
  have hn := h.n
  cases ks with
  | nil =>
    have e : (({ S with waits := [((3 : Int), b)] } : FSt).crash []) = ({ S with secs := S.secs, waits := [], off := false, armed := false } : FSt) := rfl
    rw [e, hgen _ h.n, ← hS, if_neg (by rintro ⟨_, h⟩; exact absurd h (by decide)), if_neg (by rintro ⟨_, h⟩; exact absurd h (by decide))]
  | cons k ks =>
    have hp : pickAt (k :: ks) 0 = pickI k := by unfold pickAt; rw [if_pos (by simp)]; rfl
    have e : (({ S with waits := [((3 : Int), b)] } : FSt).crash (k :: ks)) = ({ ({ S with waits := [((3 : Int), b)] } : FSt).picked ((3 : Int), b) (pickI k) with waits := [], off := false, armed := false } : FSt) := by
      unfold FSt.crash
      have : min ({ S with waits := [((3 : Int), b)] } : FSt).waits.length (k :: ks).length = 1 := by simp
      rw [this]
      rfl
    rw [e, hp]
    unfold FSt.picked
    rcases pickI_three k with hk | hk | hk
    · rw [hk, if_neg (by decide), if_neg (by decide)]
      have := hgen S.secs h.n
      rw [if_neg (by rintro ⟨_, h⟩; exact absurd h (by decide)), if_neg (by rintro ⟨_, h⟩; exact absurd h (by decide)), hS]
      exact this
    · rw [hk, if_pos rfl]
      have := hgen (S.secs.set 3 (some b, false)) (by simp [h.n])
      by_cases h3 : j = 3
      · subst h3
        rw [if_pos ⟨rfl, rfl⟩]
        refine this.trans ?_
        rw [List.getElem?_set_self (by omega)]
        rfl
      · rw [if_neg (fun h => h3 h.1), if_neg (fun h => h3 h.1), hS]
        refine this.trans ?_
        rw [List.getElem?_set_ne (fun h => h3 h.symm)]
    · rw [hk, if_neg (by decide), if_pos rfl]
      have := hgen (S.secs.set 3 ((S.secs[3]?.getD (none, false)).1, true)) (by simp [h.n])
      by_cases h3 : j = 3
      · subst h3
        rw [if_neg (by rintro ⟨_, h⟩; exact absurd h (by decide)), if_pos ⟨rfl, rfl⟩]
        refine this.trans ?_
        rw [List.getElem?_set_self (by omega)]
        rfl
      · rw [if_neg (fun h => h3 h.1), if_neg (fun h => h3 h.1), hS]
        refine this.trans ?_
        rw [List.getElem?_set_ne (fun h => h3 h.symm)]
/-! ### The device beside one block of the law's own -/
structure DevX (W : World) (B x g : Nat) (S : FSt) : Prop where
  dev : Dev W (fun k => B ≤ k ∧ k ≠ x) g S
  ok : S.Ok
  n : S.waits.length ≤ 1000000
  b : B ≤ W.heap.size
  x : x < W.heap.size
theorem DevX.fr {W : World} {B x g : Nat} {S : FSt} (h : DevX W B x g S) : ∀ k, W.heap.size ≤ k → B ≤ k ∧ k ≠ x := fun k hk => ⟨Nat.le_trans h.b hk, by have := h.x; omega⟩
theorem DevX.below {W W' : World} {B x g : Nat} {S : FSt} (h : DevX W B x g S) (hb : Below W.heap.size W W') : DevX W' B x g S := ⟨h.dev.below hb, h.ok, h.n, Nat.le_trans h.b hb.size, Nat.lt_of_lt_of_le h.x hb.size⟩
theorem DevB.toX {W : World} {B g : Nat} {S : FSt} (h : DevB W B g S) (o : Obj) : DevX (W.alloc o) B W.heap.size g S := by
  obtain ⟨gs, vw, hd⟩ := h.dev
  exact ⟨⟨gs, vw, hd.move (fun k _ hl => Below.heap_alloc _ _ _ hl) (fun k hk hl => ⟨hk, by omega⟩)⟩, h.ok, h.n, by rw [World.size_alloc]; have := h.b; omega, by rw [World.size_alloc]; omega⟩
theorem DevX.put {W : World} {B x g : Nat} {S : FSt} (h : DevX W B x g S) (i : Nat) (u : Value) : DevX (W.setCell ⟨x, i, none⟩ u) B x g S := by
  obtain ⟨gs, vw, hd⟩ := h.dev
  have hs : (W.setCell ⟨x, i, none⟩ u).heap.size = W.heap.size := by simp [World.setCell]
  exact ⟨⟨gs, vw, hd.move (fun k hk _ => Below.heap_setCell W ⟨x, i, none⟩ u k hk.2) (fun _ h _ => h)⟩, h.ok, h.n, by rw [hs]; exact h.b, by rw [hs]; exact h.x⟩
theorem devX_write {W : World} {B x g : Nat} {S : FSt} (h : DevX W B x g S) (hw : S.waits.length ≤ 999999) (p : Int) (A : Option Addr) (n c : Nat) (l : List Int) (hl : n = l.length) (hb : l.length = 256 → ByteBlk W (fun _ => True) (.slice A n c) l) :
    Calls Try.prog 12 #[.pointer (some ⟨g, 0, none⟩), .int .i64 p, .slice A n c] W fun e W' => e = .returned (.int .i64 (S.write p l).2) ∧ DevX W' B x g (S.write p l).1 ∧ Below B W W' ∧ W'.heap[x]? = W.heap[x]? :=
  (dev_write h.dev h.ok h.n h.fr p A n c l hl hb).mono fun e W' ⟨he, hd, hc⟩ => ⟨he, ⟨hd, h.ok.write p l, by
    unfold FSt.write
    split
    · split
      · exact h.n
      · simp only [List.length_append, List.length_singleton]; omega
    · exact h.n, Nat.le_trans h.b hc.size, Nat.lt_of_lt_of_le h.x hc.size⟩, hc.below h.b (fun _ hk => hk.1), hc.block x h.x (fun hk => hk.2 rfl)⟩
theorem devX_flush {W : World} {B x g : Nat} {S : FSt} (h : DevX W B x g S) :
    Calls Try.prog 14 #[.pointer (some ⟨g, 0, none⟩)] W fun e W' => e = .returned (.int .i64 S.flush.2) ∧ DevX W' B x g S.flush.1 ∧ Below B W W' ∧ W'.heap[x]? = W.heap[x]? :=
  (dev_flush h.dev h.ok h.n h.fr).mono fun e W' ⟨he, hd, hc⟩ => ⟨he, ⟨hd, h.ok.flush, by
    unfold FSt.flush
    split
    · exact h.n
    · simp, Nat.le_trans h.b hc.size, Nat.lt_of_lt_of_le h.x hc.size⟩, hc.below h.b (fun _ hk => hk.1), hc.block x h.x (fun hk => hk.2 rfl)⟩
theorem devX_crash {W : World} {B x g : Nat} {S : FSt} (h : DevX W B x g S) (v : Value) (ks : List Int) (hp : IntBlk W v ks) :
    Calls Try.prog 18 #[.pointer (some ⟨g, 0, none⟩), v] W fun e W' => e = .returned (.tuple #[]) ∧ DevX W' B x g (S.crash ks) ∧ Below B W W' ∧ W'.heap[x]? = W.heap[x]? :=
  (dev_crash h.dev h.ok h.n h.fr v ks hp).mono fun e W' ⟨he, hd, hc⟩ => ⟨he, ⟨hd, h.ok.crash ks, by simp [FSt.crash], Nat.le_trans h.b hc.size, Nat.lt_of_lt_of_le h.x hc.size⟩, hc.below h.b (fun _ hk => hk.1), hc.block x h.x (fun hk => hk.2 rfl)⟩
theorem devX_read {W : World} {B x g : Nat} {S : FSt} (h : DevX W B x g S) (p : Int) (r : List Int × Int) (hr : S.read p = r) :
    Calls Try.prog 15 #[.pointer (some ⟨g, 0, none⟩), .int .i64 p] W fun e W' => ∃ A c, e = .returned (.tuple #[.slice A r.1.length c, .int .i64 r.2]) ∧ (∀ w', Below W'.heap.size W' w' → ∀ c, (convert 30 9 (.slice A r.1.length c)).run Try.prog w' = .ok (.string (strOfNums r.1)) w') ∧ DevX W' B x g S ∧ Below W.heap.size W W' := by
  subst hr
  refine (dev_read h.dev h.ok h.n p).mono fun e W' ⟨v, he, hv, hb⟩ => ?_
  rcases hv with ⟨h1, rfl⟩ | ⟨h1, h2⟩
  · refine ⟨none, 0, by rw [he, h1]; rfl, fun w' hb' c => ?_, h.below hb, hb⟩
    rw [h1]
    exact Kd.C_string (P := Try.prog) Try.underlying30 Try.underlying5 Try.underlying9 ⟨rfl, by simp, fun h => absurd h (by simp)⟩
  · obtain ⟨q, c, rfl, -, -, -, hC⟩ := h2.reads
    exact ⟨_, c, he, fun w' hb' c => Kd.C_string (P := Try.prog) Try.underlying30 Try.underlying5 Try.underlying9 (Kd.C_below hC hb'), h.below hb, hb⟩
theorem devX_pending {W : World} {B x g : Nat} {S : FSt} (h : DevX W B x g S) (n : Nat) (hn : S.waits.length = n) :
    Calls Try.prog 19 #[.pointer (some ⟨g, 0, none⟩)] W fun e W' => e = .returned (.int .i64 (n : Int)) ∧ W' = W := by
  subst hn
  obtain ⟨gs, vw, hd⟩ := h.dev
  exact dev_pending hd
def IntRow (L : List Int) : Array Value := (L.map (fun x => Value.int .i64 x)).toArray
theorem IntRow.set (L : List Int) (a : Nat) (x : Int) : (IntRow L).setIfInBounds a (.int .i64 x) = IntRow (L.set a x) := by simp [IntRow, List.map_set]
theorem IntRow.get (L : List Int) (a : Nat) (h : a < L.length) : (IntRow L)[a]? = some (.int .i64 L[a]) := by simp [IntRow, h]
end Go.Proofs.Ytgakjpnfbgmjjaa.PA
