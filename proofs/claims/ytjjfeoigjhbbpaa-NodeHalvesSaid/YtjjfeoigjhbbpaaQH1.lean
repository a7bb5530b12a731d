/- Texts of this claim: contracts of the functions that the statement reaches, and plain laws of what they compute. -/
import Derived.Test.YtjjfeoigjhbbpaaQH0
import Derived.Shelf.Strings.Builder2
import Derived.Shelf.Strings.Repeat
import Derived.Test.YtjjfeoigjhbbpaaProg
import Derived.Below
import Derived.Deep.Draws
import Derived.Deep.AppendLies
import Derived.Maps.AppendAt
import Derived.OwnWalk
import Derived.Laws.BytesArg
import Derived.Laws.MakeOwn
import Derived.Laws.OwnMore
import Derived.Deep.OwnRows
import Derived.Tactics
import Derived.Lib.ConvBytes
import Derived.Laws.Slices
import Derived.WalkKit
import Derived.KernelRfl
import Derived.RowKit3
import Derived.Deep.LoopGhost
import Derived.Deep.QuietTactic
import Derived.BigQuiet
import Derived.WideLaws
import Derived.Deep.DeepCutAuto
import Derived.Deep.CutBlock
import Derived.Deep.RegionHeld3
import Derived.Laws.Rows
import Derived.Lib.AppendStr
import Derived.ArgAppend
import Derived.Laws.IdiomCopy
import Derived.OrdersHeld
import Derived.Laws.BitsLemmas
import Derived.RowKit
import Derived.Lib.SliceRun
import Derived.Lib.SlBytesConst
import Derived.Lib.Builder
import Derived.Lib.UnsafeStr
import Derived.Laws.Externs
import Derived.Lib.Strings
import Derived.Lib.Walk
import Derived.Lib.AppendZerosOnto
import Derived.Lib.Overlaps
import Derived.OpenShut
import Derived.ShutString
import Derived.ChangeOld
import Derived.SizedLaws
import Derived.Deep.Slices
import Derived.Deep.Strs
import Derived.Test.YtjjfeoigjhbbpaaRows
import Derived.ProofKit
import Derived.Lib.SmallJoins
set_option linter.unusedVariables false
set_option linter.unusedSimpArgs false
namespace Go.Proofs.Ytjjfeoigjhbbpaa.PA
section

open Go.RowKit Go.Proofs.YtjjfeoigjhbbpaaW.PrintWords Go.Proofs.YtjjfeoigjhbbpaaW.PrintLast Go.Proofs.YtjjfeoigjhbbpaaW.PrintMore
attribute [local go_sem] max2_int min2_int max_two min_two max_three min_three max_four min_four
set_option linter.unusedVariables false
set_option linter.unusedSimpArgs false
theorem bytes_leq : ∀ a b : List UInt8, (Op.bytesLess a b || a == b) = !(Op.bytesLess b a)
  | [], [] => rfl
  | [], _ :: _ => rfl
  | _ :: _, [] => rfl
  | x :: a, y :: b => by
    have ih := bytes_leq a b
    simp only [Op.bytesLess]
    rcases Nat.lt_trichotomy x.toNat y.toNat with h | h | h
    · have h1 : x < y := UInt8.lt_iff_toNat_lt.2 h
      have h2 : ¬ y < x := fun h' => by have := UInt8.lt_iff_toNat_lt.1 h'; omega
      have h3 : (y == x) = false := beq_eq_false_iff_ne.2 (fun e => by rw [e] at h; omega)
      simp [h1, h2, h3]
    · obtain rfl : x = y := UInt8.toNat_inj.1 h
      have h1 : ¬ x < x := fun h' => by have := UInt8.lt_iff_toNat_lt.1 h'; omega
      simp [h1, ← ih]
    · have h1 : y < x := UInt8.lt_iff_toNat_lt.2 h
      have h2 : ¬ x < y := fun h' => by have := UInt8.lt_iff_toNat_lt.1 h'; omega
      have h3 : (x == y) = false := beq_eq_false_iff_ne.2 (fun e => by rw [e] at h; omega)
      simp [h1, h2, h3]
theorem pr_leq (t : TypeId) (a b : ByteArray) : binOp .leq t (.string a) (.string b) = pure (.bool (!(Op.bytesLess b.toList a.toList))) := by
  rw [← bytes_leq]; simp [binOp, Op.stringOp]
theorem pr_geq (t : TypeId) (a b : ByteArray) : binOp .geq t (.string a) (.string b) = pure (.bool (!(Op.bytesLess a.toList b.toList))) := by simp [binOp, Op.stringOp]
theorem pr_gtr (t : TypeId) (a b : ByteArray) : binOp .gtr t (.string a) (.string b) = pure (.bool (Op.bytesLess b.toList a.toList)) := by
  have h2 : Op.bytesLess b.toList a.toList = !(Op.bytesLess a.toList b.toList || a.toList == b.toList) := by rw [bytes_leq]; simp
  rw [h2]; simp [binOp, Op.stringOp]
def errW : Option Int → Value
  | none => .nilIface
  | some c => .iface 0 (.int .i64 c)
theorem errW_none : errW none = .nilIface := rfl
theorem errW_some (c : Int) : errW (some c) = .iface 0 (.int .i64 c) := rfl
theorem info3 : (Try.prog.info? 3).map (fun i => (i.zero, i.size, i.bytes)) = some (some (.int .i64 0), 1, 8) := by kernel_rfl
theorem info9 : (Try.prog.info? 9).map (fun i => (i.zero, i.size, i.bytes)) = some (some (.string ⟨#[]⟩), 1, 16) := by kernel_rfl
theorem info48 : (Try.prog.info? 48).map (fun i => (i.zero, i.size, i.bytes)) = some (some (.agg #[(.string ⟨#[]⟩), (.string ⟨#[]⟩)]), 2, 32) := by kernel_rfl
-- the values' own types
structure S48 where
  f0 : ByteArray
  f1 : ByteArray
def z48 : S48 := ⟨(⟨#[]⟩ : ByteArray), (⟨#[]⟩ : ByteArray)⟩
def k48 : Kd S48 := Kd.iso (Kd.pair Kd.string Kd.string) (fun x : S48 => (x.f0, x.f1))
theorem k48_open {w : World} {x : S48} {cs : List Value} (h : k48.K w x cs) : cs = [.string x.f0, .string x.f1] := by
  obtain ⟨_, _, rfl, rfl, rfl⟩ := h
  exact rfl
theorem k48_mkM (w : World) (base : Nat) (ok : Nat → Prop) (x : S48)  : k48.M w base ok x [.string x.f0, .string x.f1] := ⟨[.string x.f0], [.string x.f1], rfl, rfl, rfl⟩
def rd_T48 (xs : List S48) (i : Int) : S48 := xs.getD i.toNat z48
theorem at_T48 {w : World} {A : Option Addr} {n : Nat} {xs : List S48} (h : Kd.C k48 w A n xs) (i : Int) (h0 : 0 ≤ i) (h1 : i < n) : ∃ ad , A = some ad ∧ w.cell? (ad.add (i.toNat * 2)) = some (.string (rd_T48 xs i).f0) ∧ w.cell? ⟨(ad.add (i.toNat * 2)).block, (ad.add (i.toNat * 2)).off + 1, none⟩ = some (.string (rd_T48 xs i).f1) := by
  obtain ⟨ad, c, e, _, hK, hc0⟩ := Kd.C_get h z48 i h0 h1
  have hc : ∀ j u, c[j]? = some u → w.cell? (ad.add (i.toNat * 2 + j)) = some u := hc0
  obtain rfl := k48_open hK
  exact ⟨ad, e, hc 0 _ rfl, by rw [← add_field _ _ 1 (by omega)]; exact hc 1 _ rfl⟩
def rd_L3 (xs : List (List S48)) (i : Int) : (List S48) := xs.getD i.toNat ([] : List S48)
theorem at_L3 {w : World} {A : Option Addr} {n : Nat} {xs : List (List S48)} (h : Kd.C (Kd.slice 48 k48) w A n xs) (i : Int) (h0 : 0 ≤ i) (h1 : i < n) : ∃ ad A0 c0, A = some ad ∧ w.cell? (ad.add i.toNat) = some (.slice A0 (rd_L3 xs i).length c0) ∧ (rd_L3 xs i).length ≤ c0 ∧ k48.C w A0 (rd_L3 xs i).length (rd_L3 xs i) := by
  obtain ⟨ad, c, e, _, hK, hc0⟩ := Kd.C_get h ([] : List S48) i h0 h1
  have hc : ∀ j u, c[j]? = some u → w.cell? (ad.add (i.toNat * 1 + j)) = some u := hc0
  obtain ⟨A0, c0, rfl, l0, g0⟩ := hK
  exact ⟨ad, A0, c0, e, by have hq := hc 0 _ rfl; rwa [Nat.mul_one, Nat.add_zero] at hq, l0, g0⟩
def rd_L4 (xs : List (List ByteArray)) (i : Int) : (List ByteArray) := xs.getD i.toNat ([] : List ByteArray)
theorem at_L4 {w : World} {A : Option Addr} {n : Nat} {xs : List (List ByteArray)} (h : Kd.C (Kd.slice 9 Kd.string) w A n xs) (i : Int) (h0 : 0 ≤ i) (h1 : i < n) : ∃ ad A0 c0, A = some ad ∧ w.cell? (ad.add i.toNat) = some (.slice A0 (rd_L4 xs i).length c0) ∧ (rd_L4 xs i).length ≤ c0 ∧ Kd.string.C w A0 (rd_L4 xs i).length (rd_L4 xs i) := by
  obtain ⟨ad, c, e, _, hK, hc0⟩ := Kd.C_get h ([] : List ByteArray) i h0 h1
  have hc : ∀ j u, c[j]? = some u → w.cell? (ad.add (i.toNat * 1 + j)) = some u := hc0
  obtain ⟨A0, c0, rfl, l0, g0⟩ := hK
  exact ⟨ad, A0, c0, e, by have hq := hc 0 _ rfl; rwa [Nat.mul_one, Nat.add_zero] at hq, l0, g0⟩
def rd_L6 (xs : List (List Int)) (i : Int) : (List Int) := xs.getD i.toNat ([] : List Int)
theorem at_L6 {w : World} {A : Option Addr} {n : Nat} {xs : List (List Int)} (h : Kd.C (Kd.slice 3 (Kd.int .i64)) w A n xs) (i : Int) (h0 : 0 ≤ i) (h1 : i < n) : ∃ ad A0 c0, A = some ad ∧ w.cell? (ad.add i.toNat) = some (.slice A0 (rd_L6 xs i).length c0) ∧ (rd_L6 xs i).length ≤ c0 ∧ (Kd.int .i64).C w A0 (rd_L6 xs i).length (rd_L6 xs i) := by
  obtain ⟨ad, c, e, _, hK, hc0⟩ := Kd.C_get h ([] : List Int) i h0 h1
  have hc : ∀ j u, c[j]? = some u → w.cell? (ad.add (i.toNat * 1 + j)) = some u := hc0
  obtain ⟨A0, c0, rfl, l0, g0⟩ := hK
  exact ⟨ad, A0, c0, e, by have hq := hc 0 _ rfl; rwa [Nat.mul_one, Nat.add_zero] at hq, l0, g0⟩
structure S26 where
  f0 : Bool
  f1 : (List S48)
  f2 : (List ByteArray)
  f3 : (List Int)
def z26 : S26 := ⟨false, ([] : List S48), ([] : List ByteArray), ([] : List Int)⟩
def k26 : Kd S26 := Kd.iso (Kd.pair Kd.bool (Kd.pair (Kd.slice 48 k48) (Kd.pair (Kd.slice 9 Kd.string) (Kd.slice 3 (Kd.int .i64))))) (fun x : S26 => (x.f0, x.f1, x.f2, x.f3))
theorem k26_open {w : World} {x : S26} {cs : List Value} (h : k26.K w x cs) : ∃ A1 c1 A2 c2 A3 c3, cs = [.bool x.f0, .slice A1 x.f1.length c1, .slice A2 x.f2.length c2, .slice A3 x.f3.length c3] ∧ x.f1.length ≤ c1 ∧ k48.C w A1 x.f1.length x.f1 ∧ x.f2.length ≤ c2 ∧ Kd.string.C w A2 x.f2.length x.f2 ∧ x.f3.length ≤ c3 ∧ (Kd.int .i64).C w A3 x.f3.length x.f3 := by
  obtain ⟨_, _, rfl, rfl, ⟨_, _, rfl, ⟨A1, c1, rfl, l1, g1⟩, ⟨_, _, rfl, ⟨A2, c2, rfl, l2, g2⟩, ⟨A3, c3, rfl, l3, g3⟩⟩⟩⟩ := h
  exact ⟨A1, c1, A2, c2, A3, c3, rfl, l1, g1, l2, g2, l3, g3⟩
end
end Go.Proofs.Ytjjfeoigjhbbpaa.PA
namespace Go.Proofs.Ytjjfeoigjhbbpaa.PA
section

open Go.RowKit Go.Proofs.YtjjfeoigjhbbpaaW.PrintWords Go.Proofs.YtjjfeoigjhbbpaaW.PrintLast Go.Proofs.YtjjfeoigjhbbpaaW.PrintMore
attribute [local go_sem] pr_leq pr_geq pr_gtr max2_int min2_int max_two min_two max_three min_three max_four min_four
set_option linter.unusedVariables false
set_option linter.unusedSimpArgs false
/-- A state of type 89 at block g of W; what its slices lead to came in by w0. -/
def IsS89 (w0 W : World) (g : Nat) (f0 : ByteArray) (f1 : Bool) : Prop := W.heap[g]? = some (.cells #[.string f0, .bool f1] 89 (0, 0)) ∧ w0.heap.size ≤ g
theorem IsS89.grown {w0 W : World} {g : Nat} {f0 : ByteArray} {f1 : Bool} {W1 : World} {row : Option Nat} (h : IsS89 w0 W g f0 f1) (hw : W.grownBy W1 row) (hne : some g ≠ row) : IsS89 w0 W1 g f0 f1 := by
  obtain ⟨hb, hg⟩ := h
  exact ⟨blk_grown hb hw hne, hg⟩
theorem IsS89.kept {w0 W : World} {g : Nat} {f0 : ByteArray} {f1 : Bool} {W1 : World} {S : Nat → Prop} (h : IsS89 w0 W g f0 f1) (hk : Kept W W1 S) (hne : ¬ S g) : IsS89 w0 W1 g f0 f1 := by
  obtain ⟨hb, hg⟩ := h
  exact ⟨blk_kept hb hk hne, hg⟩
theorem IsS89.below {w0 W : World} {g : Nat} {f0 : ByteArray} {f1 : Bool} {W1 : World} (h : IsS89 w0 W g f0 f1) (hw : Below W.heap.size W W1) : IsS89 w0 W1 g f0 f1 := h.grown (grown_of_below hw none) (by simp)
theorem IsS89.alloc {w0 W : World} {g : Nat} {f0 : ByteArray} {f1 : Bool} (h : IsS89 w0 W g f0 f1) (o : Obj) : IsS89 w0 (W.alloc o) g f0 f1 := h.below (below_alloc (Below.refl _ _) o)
theorem IsS89.drewN {w0 W : World} {g : Nat} {f0 : ByteArray} {f1 : Bool} (h : IsS89 w0 W g f0 f1) (m : Nat) : IsS89 w0 (W.drewN m) g f0 f1 := h
theorem IsS89.drew {w0 W : World} {g : Nat} {f0 : ByteArray} {f1 : Bool} (h : IsS89 w0 W g f0 f1) : IsS89 w0 W.drew g f0 f1 := h
theorem IsS89.at_ {w0 W : World} {g : Nat} {f0 : ByteArray} {f1 : Bool} {w' : World} {m : Nat} (hq : W.drewN m = w') (h : IsS89 w0 W g f0 f1) : IsS89 w0 w' g f0 f1 := by subst hq; exact IsS89.drewN h m
theorem IsS89.apart {w0 W : World} {g : Nat} {f0 : ByteArray} {f1 : Bool} {α : Type} {d : Kd α} {e : Nat} {base : Nat} {ok : Nat → Prop} {v : Value} {xs : List α} (h : IsS89 w0 W g f0 f1) (ho : d.R e W base ok v xs) (ht : ∀ q, q ∈ e :: d.E → q ≠ 89) : d.R e W base (fun k => ok k ∧ k ≠ g) v xs := by
  obtain ⟨hb, hg⟩ := h
  exact Kd.R_types ho hb ht
theorem IsS89.own_ne {w0 W : World} {g : Nat} {f0 : ByteArray} {f1 : Bool} {α : Type} {d : Kd α} {e : Nat} {base : Nat} {ok : Nat → Prop} {v : Value} {xs : List α} (h : IsS89 w0 W g f0 f1) (ho : d.R e W base ok v xs) (ht : e ≠ 89) : some g ≠ v.ownBlock := by
  obtain ⟨hb, hg⟩ := h
  exact Kd.R_ne ho hb ht
theorem IsS89.lt {w0 W : World} {g : Nat} {f0 : ByteArray} {f1 : Bool} (h : IsS89 w0 W g f0 f1) : g < W.heap.size := by
  obtain ⟨hb, hg⟩ := h
  exact blk_lt hb
theorem IsS89.new (w0 W : World) (f0 : ByteArray) (f1 : Bool) (hB : Below w0.heap.size w0 W) : IsS89 w0 (W.alloc (.cells #[.string f0, .bool f1] 89)) W.heap.size f0 f1 := ⟨by simpa using heap_alloc_new W _, hB.size⟩
end
end Go.Proofs.Ytjjfeoigjhbbpaa.PA
namespace Go.Proofs.Ytjjfeoigjhbbpaa.PA
section

open Go.RowKit Go.Proofs.YtjjfeoigjhbbpaaW.PrintWords Go.Proofs.YtjjfeoigjhbbpaaW.PrintLast Go.Proofs.YtjjfeoigjhbbpaaW.PrintMore
attribute [local go_sem] pr_leq pr_geq pr_gtr max2_int min2_int max_two min_two max_three min_three max_four min_four
set_option linter.unusedVariables false
set_option linter.unusedSimpArgs false
def node_isKey.f (a0 : ByteArray) : Option (Bool) := if a0.toList = ([] : List UInt8) then (some false) else (some (decide ((a0.size : Int) ≤ 32)))
set_option maxHeartbeats 8000000 in
set_option maxRecDepth 100000 in
theorem node_isKey.calls (a0 : ByteArray) (r : Bool) (w : World) (h : node_isKey.f a0 = some r) :
    Calls Try.prog 45 #[.string a0] w fun e w' => e = .returned (.bool r) ∧ Drawn0 w w' := by
  have H : (if a0.toList = ([] : List UInt8) then (some false) else (some (decide ((a0.size : Int) ≤ 32)))) = some r := h
  clear h
  by_cases c2 : a0.toList = ([] : List UInt8)
  · rw [if_pos c2] at H
    have c2b0 : (a0.toList == ([] : List UInt8)) = true := beq_iff_eq.mpr c2
    have c2b1 : (a0.toList != ([] : List UInt8)) = false := bne_eq_false_iff_eq.mpr c2
    clear c2
    obtain rfl := Option.some.inj H
    go_enter Try.func45, Try.ntmps45
    go_wp2
    go_ret
    exact ⟨by first | rfl | (simp; done) | (simp [*]; done), by repeat (first | exact Drawn0.refl _ | apply Drawn0.step)⟩
  · rw [if_neg c2] at H
    have c2b0 : (a0.toList == ([] : List UInt8)) = false := beq_eq_false_iff_ne.mpr c2
    have c2b1 : (a0.toList != ([] : List UInt8)) = true := bne_iff_ne.mpr c2
    obtain rfl := Option.some.inj H
    go_enter Try.func45, Try.ntmps45
    go_wp2
    go_ret
    exact ⟨by first | rfl | (simp; done) | (simp [*]; done), by repeat (first | exact Drawn0.refl _ | apply Drawn0.step)⟩
def node_keyOf.f (a0_0 : ByteArray) (a0_1 : ByteArray) : Option (ByteArray) := some a0_0
set_option maxHeartbeats 8000000 in
set_option maxRecDepth 100000 in
theorem node_keyOf.calls (a0_0 : ByteArray) (a0_1 : ByteArray) (r : ByteArray) (w : World) (h : node_keyOf.f a0_0 a0_1 = some r) :
    Calls Try.prog 62 #[.agg #[.string a0_0, .string a0_1]] w fun e w' => e = .returned (.string r) ∧ Below w.heap.size w w' := by
  have hu48 := Try.underlying48
  have HB := Aside0.mk (Below.refl w.heap.size w)
  have H : (some a0_0) = some r := h
  clear h
  obtain rfl := Option.some.inj H
  go_enter Try.func62, Try.ntmps62
  go_wp2_with (first | ((with_reducible refine gate_dst (N := 1) rfl ?_); refine box_event ?hg (N := 1) ?hd (cs := #[.string a0_0, .string a0_1]) (t := 48) ?hr ?_; (case hd => rfl); (case hg => rfl); (case hr => first | (go_simp; done) | (go_simp; rfl)); intro gb101 hg w2 hbox hb; have n0_ := Aside0.mk (below_step (by repeat (first | (with_reducible first | exact HB.out | apply below_alloc | apply pw_below_drewN | apply below_drew1) | exact HB.out)) hb); have n1_ := Aside0.mk (hbox); have n2_ := Aside0.mk ((by rw [hg]; exact (below_size (by repeat (first | (with_reducible first | exact HB.out | apply below_alloc | apply pw_below_drewN | apply below_drew1) | exact HB.out))) : w.heap.size ≤ gb101)); have n3_ := Aside0.mk ((by rw [hg]; exact (below_size (by repeat (first | (with_reducible first | exact HB.out | apply below_alloc | apply pw_below_drewN | apply below_drew1) | exact HB.out))) : w.heap.size ≤ gb101)); clear HB; have HB := n0_; have BK101 := n1_; have GW101 := n2_; have GE101 := n3_; clear n0_ n1_ n2_ n3_; clear hb hbox hg; have hcz3_0 : w2.cell? ⟨gb101, 0, none⟩ = some (.string a0_0) := (blk_cell BK101.out 0).trans rfl; have hcz3_1 : w2.cell? ⟨gb101, 1, none⟩ = some (.string a0_1) := (blk_cell BK101.out 1).trans rfl; have hfz3_0 := blk_frozen BK101.out 0; have hfz3_1 := blk_frozen BK101.out 1))
  go_ret
  exact ⟨by first | rfl | (simp [errW_none, errW_some] <;> rfl) | (simp [*, errW_none, errW_some] <;> rfl), by repeat (first | (with_reducible first | exact HB.out | apply below_alloc | apply pw_below_drewN | apply below_drew1 | refine below_set ?_ GE101.out) | exact HB.out)⟩
def node_itself.f (a0 : ByteArray) : Option (ByteArray) := some a0
set_option maxHeartbeats 8000000 in
set_option maxRecDepth 100000 in
theorem node_itself.calls (a0 : ByteArray) (r : ByteArray) (w : World) (h : node_itself.f a0 = some r) :
    Calls Try.prog 68 #[.string a0] w fun e w' => e = .returned (.string r) ∧ Drawn0 w w' := by
  have H : (some a0) = some r := h
  clear h
  obtain rfl := Option.some.inj H
  go_enter Try.func68, Try.ntmps68
  go_wp2
  go_ret
  exact ⟨by first | rfl | (simp; done) | (simp [*]; done), by repeat (first | exact Drawn0.refl _ | apply Drawn0.step)⟩
end
end Go.Proofs.Ytjjfeoigjhbbpaa.PA
namespace Go.Proofs.Ytjjfeoigjhbbpaa.PA
section

open Go.RowKit Go.Proofs.YtjjfeoigjhbbpaaW.PrintWords Go.Proofs.YtjjfeoigjhbbpaaW.PrintLast Go.Proofs.YtjjfeoigjhbbpaaW.PrintMore
attribute [local go_sem] pr_leq pr_geq pr_gtr max2_int min2_int max_two min_two max_three min_three max_four min_four
set_option linter.unusedVariables false
set_option linter.unusedSimpArgs false
def keyB (s : ByteArray) : Bool := if s.toList = ([] : List UInt8) then false else decide ((s.size : Int) ≤ 32)
theorem isKey_val (s : ByteArray) : node_isKey.f s = some (keyB s) := by unfold node_isKey.f keyB; split <;> rfl
def badP (x : S48) : Bool := !(keyB x.f0) || decide ((48 : Int) < (x.f1.size : Int))
def badS (s : ByteArray) : Bool := !(keyB s)
def badI (k : Int) : Bool := decide (k < 1) || decide (65535 < k)
def risesB (l : List ByteArray) : Bool := (List.range (l.length - 1)).all fun j => Op.bytesLess (l.getD j ByteArray.empty).toList (l.getD (j + 1) ByteArray.empty).toList
theorem rises_true {l : List ByteArray} (h : ∀ j, j + 1 < l.length → Op.bytesLess (l.getD j ByteArray.empty).toList (l.getD (j + 1) ByteArray.empty).toList = true) : risesB l = true := by
  unfold risesB
  rw [List.all_eq_true]
  intro j hj
  rw [List.mem_range] at hj
  exact h j (by omega)
theorem rises_false {l : List ByteArray} (j : Nat) (hj : j + 1 < l.length) (h : Op.bytesLess (l.getD j ByteArray.empty).toList (l.getD (j + 1) ByteArray.empty).toList = false) : risesB l = false := by
  cases hb : risesB l with
  | false => rfl
  | true =>
    unfold risesB at hb
    rw [List.all_eq_true] at hb
    have := hb j (List.mem_range.2 (by omega))
    rw [h] at this
    cases this
def leafV (lf : Bool) (P : List S48) (K : List ByteArray) (D : List Int) : Bool := lf && decide (K.length + D.length = 0) && decide (P.length ≤ 255) && !(P.any badP) && risesB (P.map (·.f0))
def innerV (lf : Bool) (P : List S48) (K : List ByteArray) (D : List Int) : Bool := !lf && decide (P.length = 0) && decide (1 ≤ D.length) && decide (D.length ≤ 255) && decide (K.length + 1 = D.length) && !(K.any badS) && !(D.any badI) && risesB K
set_option maxHeartbeats 1000000 in
theorem leaf1W (x : S48) (w : World) : Calls Try.prog 59 #[.agg #[.string x.f0, .string x.f1]] w fun e w' => e = .returned (.bool (badP x)) ∧ Below w.heap.size w w' := by
  obtain ⟨a, b⟩ := x
  have hN := Aside0.mk (fun W => node_isKey.calls a (keyB a) W (isKey_val a))
  have HB := Aside0.mk (below_alloc (Below.refl w.heap.size w) (.cells #[.string a, .string b] 48))
  unfold badP
  obtain ⟨k, hk⟩ : ∃ k, k = keyB a := ⟨_, rfl⟩
  rw [← hk] at hN ⊢
  clear hk
  have hbx := heap_alloc_new w (.cells #[.string a, .string b] 48)
  have b0 := (blk_cell hbx 0).trans rfl
  have b1 := (blk_cell hbx 1).trans rfl
  clear hbx
  cases k
  · go_enter Try.func59, Try.ntmps59
    go_wp2_with fail
    refine (hN.out _).mono ?_
    rintro e w' ⟨rfl, hd⟩
    have BW := Aside0.mk (HB.out.trans (hd.below.mono HB.out.size))
    clear hd
    go_wp2
    go_ret
    exact ⟨by simp, BW.out⟩
  · go_enter Try.func59, Try.ntmps59
    go_wp2_with fail
    refine (hN.out _).mono ?_
    rintro e w' ⟨rfl, hd⟩
    have BW := Aside0.mk (HB.out.trans (hd.below.mono HB.out.size))
    have c1 : w'.cell? ⟨w.heap.size, 1, none⟩ = some (.string b) := (hd.below.cell (p := ⟨w.heap.size, 1, none⟩) (by simp)).trans b1
    clear hd b0 b1
    go_wp2
    go_ret
    exact ⟨by simp, BW.out⟩
set_option maxHeartbeats 4000000 in
set_option maxRecDepth 100000 in
theorem leafP_index (A0 : Option Addr) (c0 : Nat) (l0 : List S48) (w : World) (hr0 : Kd.C k48 w A0 l0.length l0) (hl : l0.length ≤ 9223372036854775807) :
    Calls Try.prog 82 #[.slice A0 l0.length c0, .func (.func 59) #[] #[]] w fun e w' => (∃ j : Int, e = .returned (.int .i64 j) ∧ decide (0 ≤ j) = l0.any badP) ∧ Below w.heap.size w w' := by
  have R0 := Aside0.mk hr0
  have hN := Aside0.mk (fun s W => leaf1W s W)
  have HL := Aside0.mk hl
  clear hr0
  go_enter Try.func82, Try.ntmps82
  go_wp2_with fail
  go_loopw [8] (fun v8 w' => ∃ k : Nat, k ≤ l0.length ∧ v8 = .int .i64 (k : Int) ∧ Aside0 ((l0.take k).any badP = false) ∧ Aside0 (Below w.heap.size w w')) (fun v8 _ => (l0.length - intOf v8).toNat)
  case atStart => exact ⟨0, by omega, rfl, ⟨by simp⟩, ⟨Below.refl _ _⟩⟩
  case round =>
    obtain ⟨k, hk, rfl, HA, HB⟩ := hrel
    by_cases h : k < l0.length
    · have p1 : (0 : Int) ≤ (k : Int) := by omega
      have q1 : (k : Int) < (l0.length : Int) := by omega
      obtain ⟨ad, rfl, hx0, hx1⟩ := at_T48 (Kd.C_below R0.out HB.out) (k : Int) p1 q1
      obtain ⟨x, hxx⟩ : ∃ x, x = rd_T48 l0 (k : Int) := ⟨_, rfl⟩
      have hg : l0[k] = x := by rw [hxx]; unfold rd_T48; simp [List.getD_eq_getElem?_getD, h]
      rw [← hxx] at hx0 hx1
      have HX := Aside0.mk hg
      clear hxx hg
      rw [Int.toNat_natCast] at hx0 hx1
      have HK : Aside0 (l0.take (k + 1) = l0.take k ++ [x]) := ⟨by rw [List.take_succ_eq_append_getElem h, HX.out]⟩
      have HAn : Aside0 (badP x = true → l0.any badP = true) := ⟨fun hf => List.any_eq_true.2 ⟨x, by rw [← HX.out]; exact List.getElem_mem h, hf⟩⟩
      clear HX
      have HN := Aside0.mk (hN.out x)
      obtain ⟨b, hb⟩ : ∃ b, b = badP x := ⟨_, rfl⟩
      rw [← hb] at HN HAn
      have Hb := Aside0.mk hb
      clear hb
      have d1 : decide (k < l0.length) = true := decide_eq_true h
      have d1' : decide ((k : Int) < (l0.length : Int)) = true := decide_eq_true q1
      cases b
      · go_wp2_with (first | (go_at_call 59; refine (HN.out _).mono ?_; rintro e w' ⟨rfl, hbb⟩) | fail)
        have BW := Aside0.mk (HB.out.trans (hbb.mono HB.out.size))
        clear hbb
        go_wp2
        go_roundw
        case rel => exact ⟨k + 1, by omega, by first | rfl | go_num, ⟨by rw [HK.out, List.any_append, HA.out]; simp [← Hb.out]⟩, BW⟩
        case measure => simp [intOf]; omega
      · go_wp2_with (first | (go_at_call 59; refine (HN.out _).mono ?_; rintro e w' ⟨rfl, hbb⟩) | fail)
        have BW := Aside0.mk (HB.out.trans (hbb.mono HB.out.size))
        clear hbb
        go_wp2
        go_ret
        exact ⟨⟨(k : Int), rfl, by rw [HAn.out (by first | trivial | rfl)]; simp⟩, BW.out⟩
    · have hd : decide ((k : Int) < (l0.length : Int)) = false := decide_eq_false (by omega)
      have hd' : decide (k < l0.length) = false := decide_eq_false (by omega)
      have HE : Aside0 (l0.take k = l0) := ⟨List.take_of_length_le (by omega)⟩
      go_wp2
      go_ret
      exact ⟨⟨-1, rfl, by have := HA.out; rw [HE.out] at this; rw [this]; rfl⟩, HB.out⟩
theorem leafP_contains (A0 : Option Addr) (c0 : Nat) (l0 : List S48) (w : World) (hr0 : Kd.C k48 w A0 l0.length l0) (hl : l0.length ≤ 9223372036854775807) :
    Calls Try.prog 60 #[.slice A0 l0.length c0, .func (.func 59) #[] #[]] w fun e w' => e = .returned (.bool (l0.any badP)) ∧ Below w.heap.size w w' := by
  have hI := Aside0.mk (leafP_index A0 c0 l0 w hr0 hl)
  clear hr0 hl
  go_enter Try.func60, Try.ntmps60
  go_wp2_with (first | (go_at_call 82; refine hI.out.mono ?_; rintro e w' ⟨⟨j, rfl, hj⟩, hb⟩) | fail)
  go_ret
  exact ⟨by rw [← hj]; simp, hb⟩
theorem inner1W (s : ByteArray) (w : World) : Calls Try.prog 63 #[.string s] w fun e w' => e = .returned (.bool (badS s)) ∧ Below w.heap.size w w' := by
  have hN := Aside0.mk (fun W => node_isKey.calls s (keyB s) W (isKey_val s))
  unfold badS
  go_enter Try.func63, Try.ntmps63
  go_wp2_with (first | (go_at_call 45; refine (hN.out _).mono ?_; rintro e w' ⟨rfl, hd⟩) | fail)
  go_ret
  exact ⟨rfl, hd.below⟩
theorem inner2W (s : Int) (w : World) : Calls Try.prog 64 #[.int .i64 s] w fun e w' => e = .returned (.bool (badI s)) ∧ Below w.heap.size w w' := by
  unfold badI
  by_cases h : s < 1
  · have d1 : decide (s < 1) = true := decide_eq_true h
    go_enter Try.func64, Try.ntmps64
    go_wp2
    go_ret
    exact ⟨by simp [d1], Below.refl _ _⟩
  · have d1 : decide (s < 1) = false := decide_eq_false h
    go_enter Try.func64, Try.ntmps64
    go_wp2
    go_ret
    exact ⟨by simp [d1], Below.refl _ _⟩
set_option maxHeartbeats 4000000 in
set_option maxRecDepth 100000 in
theorem innS_index (A0 : Option Addr) (c0 : Nat) (l0 : List ByteArray) (w : World) (hr0 : Kd.C Kd.string w A0 l0.length l0) (hl : l0.length ≤ 9223372036854775807) :
    Calls Try.prog 83 #[.slice A0 l0.length c0, .func (.func 63) #[] #[]] w fun e w' => (∃ j : Int, e = .returned (.int .i64 j) ∧ decide (0 ≤ j) = l0.any badS) ∧ Below w.heap.size w w' := by
  have R0 := Aside0.mk hr0
  have hN := Aside0.mk (fun s W => inner1W s W)
  have HL := Aside0.mk hl
  clear hr0
  go_enter Try.func83, Try.ntmps83
  go_wp2_with fail
  go_loopw [8] (fun v8 w' => ∃ k : Nat, k ≤ l0.length ∧ v8 = .int .i64 (k : Int) ∧ Aside0 ((l0.take k).any badS = false) ∧ Aside0 (Below w.heap.size w w')) (fun v8 _ => (l0.length - intOf v8).toNat)
  case atStart => exact ⟨0, by omega, rfl, ⟨by simp⟩, ⟨Below.refl _ _⟩⟩
  case round =>
    obtain ⟨k, hk, rfl, HA, HB⟩ := hrel
    by_cases h : k < l0.length
    · have p1 : (0 : Int) ≤ (k : Int) := by omega
      have q1 : (k : Int) < (l0.length : Int) := by omega
      obtain ⟨ad, e, hx⟩ := Kd.at_string (Kd.C_below R0.out HB.out) (k : Int) p1 q1
      cases e
      obtain ⟨x, hxx⟩ : ∃ x, x = rdOf ByteArray.empty l0 (k : Int) := ⟨_, rfl⟩
      have hg : l0[k] = x := by rw [hxx]; simp [rdOf, rd, List.getD_eq_getElem?_getD, h]
      rw [← hxx] at hx
      have HX := Aside0.mk hg
      clear hxx hg
      rw [Int.toNat_natCast] at hx
      have HK : Aside0 (l0.take (k + 1) = l0.take k ++ [x]) := ⟨by rw [List.take_succ_eq_append_getElem h, HX.out]⟩
      have HAn : Aside0 (badS x = true → l0.any badS = true) := ⟨fun hf => List.any_eq_true.2 ⟨x, by rw [← HX.out]; exact List.getElem_mem h, hf⟩⟩
      clear HX
      have HN := Aside0.mk (hN.out x)
      obtain ⟨b, hb⟩ : ∃ b, b = badS x := ⟨_, rfl⟩
      rw [← hb] at HN HAn
      have Hb := Aside0.mk hb
      clear hb
      have d1 : decide (k < l0.length) = true := decide_eq_true h
      have d1' : decide ((k : Int) < (l0.length : Int)) = true := decide_eq_true q1
      cases b
      · go_wp2_with (first | (go_at_call 63; refine (HN.out _).mono ?_; rintro e w' ⟨rfl, hbb⟩) | fail)
        have BW := Aside0.mk (HB.out.trans (hbb.mono HB.out.size))
        clear hbb
        go_wp2
        go_roundw
        case rel => exact ⟨k + 1, by omega, by first | rfl | go_num, ⟨by rw [HK.out, List.any_append, HA.out]; simp [← Hb.out]⟩, BW⟩
        case measure => simp [intOf]; omega
      · go_wp2_with (first | (go_at_call 63; refine (HN.out _).mono ?_; rintro e w' ⟨rfl, hbb⟩) | fail)
        have BW := Aside0.mk (HB.out.trans (hbb.mono HB.out.size))
        clear hbb
        go_wp2
        go_ret
        exact ⟨⟨(k : Int), rfl, by rw [HAn.out (by first | trivial | rfl)]; simp⟩, BW.out⟩
    · have hd : decide ((k : Int) < (l0.length : Int)) = false := decide_eq_false (by omega)
      have hd' : decide (k < l0.length) = false := decide_eq_false (by omega)
      have HE : Aside0 (l0.take k = l0) := ⟨List.take_of_length_le (by omega)⟩
      go_wp2
      go_ret
      exact ⟨⟨-1, rfl, by have := HA.out; rw [HE.out] at this; rw [this]; rfl⟩, HB.out⟩
theorem innS_contains (A0 : Option Addr) (c0 : Nat) (l0 : List ByteArray) (w : World) (hr0 : Kd.C Kd.string w A0 l0.length l0) (hl : l0.length ≤ 9223372036854775807) :
    Calls Try.prog 65 #[.slice A0 l0.length c0, .func (.func 63) #[] #[]] w fun e w' => e = .returned (.bool (l0.any badS)) ∧ Below w.heap.size w w' := by
  have hI := Aside0.mk (innS_index A0 c0 l0 w hr0 hl)
  clear hr0 hl
  go_enter Try.func65, Try.ntmps65
  go_wp2_with (first | (go_at_call 83; refine hI.out.mono ?_; rintro e w' ⟨⟨j, rfl, hj⟩, hb⟩) | fail)
  go_ret
  exact ⟨by rw [← hj]; simp, hb⟩
set_option maxHeartbeats 4000000 in
set_option maxRecDepth 100000 in
theorem innI_index (A0 : Option Addr) (c0 : Nat) (l0 : List Int) (w : World) (hr0 : Kd.C (Kd.int .i64) w A0 l0.length l0) (hl : l0.length ≤ 9223372036854775807) :
    Calls Try.prog 84 #[.slice A0 l0.length c0, .func (.func 64) #[] #[]] w fun e w' => (∃ j : Int, e = .returned (.int .i64 j) ∧ decide (0 ≤ j) = l0.any badI) ∧ Below w.heap.size w w' := by
  have R0 := Aside0.mk hr0
  have hN := Aside0.mk (fun s W => inner2W s W)
  have HL := Aside0.mk hl
  clear hr0
  go_enter Try.func84, Try.ntmps84
  go_wp2_with fail
  go_loopw [8] (fun v8 w' => ∃ k : Nat, k ≤ l0.length ∧ v8 = .int .i64 (k : Int) ∧ Aside0 ((l0.take k).any badI = false) ∧ Aside0 (Below w.heap.size w w')) (fun v8 _ => (l0.length - intOf v8).toNat)
  case atStart => exact ⟨0, by omega, rfl, ⟨by simp⟩, ⟨Below.refl _ _⟩⟩
  case round =>
    obtain ⟨k, hk, rfl, HA, HB⟩ := hrel
    by_cases h : k < l0.length
    · have p1 : (0 : Int) ≤ (k : Int) := by omega
      have q1 : (k : Int) < (l0.length : Int) := by omega
      obtain ⟨ad, e, hx⟩ := Kd.at_int (Kd.C_below R0.out HB.out) (k : Int) p1 q1
      cases e
      obtain ⟨x, hxx⟩ : ∃ x, x = rd l0 (k : Int) := ⟨_, rfl⟩
      have hg : l0[k] = x := by rw [hxx]; simp [rdOf, rd, List.getD_eq_getElem?_getD, h]
      rw [← hxx] at hx
      have HX := Aside0.mk hg
      clear hxx hg
      rw [Int.toNat_natCast] at hx
      have HK : Aside0 (l0.take (k + 1) = l0.take k ++ [x]) := ⟨by rw [List.take_succ_eq_append_getElem h, HX.out]⟩
      have HAn : Aside0 (badI x = true → l0.any badI = true) := ⟨fun hf => List.any_eq_true.2 ⟨x, by rw [← HX.out]; exact List.getElem_mem h, hf⟩⟩
      clear HX
      have HN := Aside0.mk (hN.out x)
      obtain ⟨b, hb⟩ : ∃ b, b = badI x := ⟨_, rfl⟩
      rw [← hb] at HN HAn
      have Hb := Aside0.mk hb
      clear hb
      have d1 : decide (k < l0.length) = true := decide_eq_true h
      have d1' : decide ((k : Int) < (l0.length : Int)) = true := decide_eq_true q1
      cases b
      · go_wp2_with (first | (go_at_call 64; refine (HN.out _).mono ?_; rintro e w' ⟨rfl, hbb⟩) | fail)
        have BW := Aside0.mk (HB.out.trans (hbb.mono HB.out.size))
        clear hbb
        go_wp2
        go_roundw
        case rel => exact ⟨k + 1, by omega, by first | rfl | go_num, ⟨by rw [HK.out, List.any_append, HA.out]; simp [← Hb.out]⟩, BW⟩
        case measure => simp [intOf]; omega
      · go_wp2_with (first | (go_at_call 64; refine (HN.out _).mono ?_; rintro e w' ⟨rfl, hbb⟩) | fail)
        have BW := Aside0.mk (HB.out.trans (hbb.mono HB.out.size))
        clear hbb
        go_wp2
        go_ret
        exact ⟨⟨(k : Int), rfl, by rw [HAn.out (by first | trivial | rfl)]; simp⟩, BW.out⟩
    · have hd : decide ((k : Int) < (l0.length : Int)) = false := decide_eq_false (by omega)
      have hd' : decide (k < l0.length) = false := decide_eq_false (by omega)
      have HE : Aside0 (l0.take k = l0) := ⟨List.take_of_length_le (by omega)⟩
      go_wp2
      go_ret
      exact ⟨⟨-1, rfl, by have := HA.out; rw [HE.out] at this; rw [this]; rfl⟩, HB.out⟩
theorem innI_contains (A0 : Option Addr) (c0 : Nat) (l0 : List Int) (w : World) (hr0 : Kd.C (Kd.int .i64) w A0 l0.length l0) (hl : l0.length ≤ 9223372036854775807) :
    Calls Try.prog 66 #[.slice A0 l0.length c0, .func (.func 64) #[] #[]] w fun e w' => e = .returned (.bool (l0.any badI)) ∧ Below w.heap.size w w' := by
  have hI := Aside0.mk (innI_index A0 c0 l0 w hr0 hl)
  clear hr0 hl
  go_enter Try.func66, Try.ntmps66
  go_wp2_with (first | (go_at_call 84; refine hI.out.mono ?_; rintro e w' ⟨⟨j, rfl, hj⟩, hb⟩) | fail)
  go_ret
  exact ⟨by rw [← hj]; simp, hb⟩
theorem keyOfW (a b : ByteArray) (w : World) : Calls Try.prog 62 #[.agg #[.string a, .string b]] w fun e w' => e = .returned (.string a) ∧ Below w.heap.size w w' := node_keyOf.calls a b a w rfl
theorem nd_cell {w w1 : World} (hb : Below w.heap.size w w1) {p : Addr} {u : Value} (h : w.cell? p = some u) : w1.cell? p = some u := by
  have hl : p.block < w.heap.size := by
    rcases Nat.lt_or_ge p.block w.heap.size with h' | h'
    · exact h'
    · exfalso
      unfold World.cell? at h
      rw [Array.getElem?_eq_none h'] at h
      simp at h
  rw [hb.cell (p := p) hl]
  exact h
set_option maxHeartbeats 4000000 in
set_option maxRecDepth 100000 in
theorem risingP (A0 : Option Addr) (c0 : Nat) (l0 : List S48) (w : World) (hr0 : Kd.C k48 w A0 l0.length l0) (hl : l0.length ≤ 9223372036854775806) :
    Calls Try.prog 61 #[.slice A0 l0.length c0, .func (.func 62) #[] #[]] w fun e w' => e = .returned (.bool (risesB (l0.map (·.f0)))) ∧ Below w.heap.size w w' := by
  have R0 := Aside0.mk hr0
  clear hr0
  go_enter Try.func61, Try.ntmps61
  go_wp2_with fail
  go_loopw [5] (fun v w' => ∃ k : Nat, 1 ≤ k ∧ (k ≤ l0.length ∨ k = 1) ∧ v = .int .i64 (k : Int) ∧ Aside0 (∀ j, j + 1 < k → Op.bytesLess ((l0.map (·.f0)).getD j ByteArray.empty).toList ((l0.map (·.f0)).getD (j + 1) ByteArray.empty).toList = true) ∧ Aside0 (Below w.heap.size w w')) (fun v _ => (l0.length - intOf v).toNat)
  case atStart => exact ⟨1, by omega, by omega, rfl, ⟨fun j hj => by omega⟩, ⟨Below.refl _ _⟩⟩
  case round =>
    obtain ⟨k, hk1, hk, rfl, HA, HB⟩ := hrel
    by_cases h : k < l0.length
    · have d1 : decide (k < l0.length) = true := decide_eq_true h
      have d1' : decide ((k : Int) < (l0.length : Int)) = true := decide_eq_true (by omega)
      obtain ⟨m, rfl⟩ : ∃ m, k = m + 1 := ⟨k - 1, by omega⟩
      have e1 : wrap64 (((m + 1 : Nat) : Int) - 1) = (m : Int) := by unfold wrap64; omega
      have p1 : (0 : Int) ≤ (m : Int) := by omega
      have q1 : (m : Int) < (l0.length : Int) := by omega
      have p2 : (0 : Int) ≤ ((m + 1 : Nat) : Int) := by omega
      have q2 : ((m + 1 : Nat) : Int) < (l0.length : Int) := by omega
      have e1b : wrap64 ((m : Int) + 1 - 1) = (m : Int) := by unfold wrap64; omega
      have e1c : wrap64 (m : Int) = (m : Int) := by unfold wrap64; omega
      have e1d : IntKind.i64.wrap (m : Int) = (m : Int) := by rw [IntKind.wrap_i64]; omega
      have p2b : (0 : Int) ≤ (m : Int) + 1 := by omega
      have q2b : (m : Int) + 1 < (l0.length : Int) := by omega
      have e2b : ((m : Int) + 1).toNat = m + 1 := by omega
      obtain ⟨ad, rfl, hx0, hx1⟩ := at_T48 (Kd.C_below R0.out HB.out) (m : Int) p1 q1
      obtain ⟨ad', ha', hy0, hy1⟩ := at_T48 (Kd.C_below R0.out HB.out) ((m + 1 : Nat) : Int) p2 q2
      cases ha'
      rw [Int.toNat_natCast] at hx0 hx1 hy0 hy1
      obtain ⟨x, hxx⟩ : ∃ x, x = (rd_T48 l0 (m : Int)).f0 := ⟨_, rfl⟩
      obtain ⟨y, hyy⟩ : ∃ y, y = (rd_T48 l0 ((m + 1 : Nat) : Int)).f0 := ⟨_, rfl⟩
      obtain ⟨x2, hxx2⟩ : ∃ x, x = (rd_T48 l0 (m : Int)).f1 := ⟨_, rfl⟩
      obtain ⟨y2, hyy2⟩ : ∃ y, y = (rd_T48 l0 ((m + 1 : Nat) : Int)).f1 := ⟨_, rfl⟩
      rw [← hxx] at hx0
      rw [← hxx2] at hx1
      rw [← hyy] at hy0
      rw [← hyy2] at hy1
      clear hxx2 hyy2
      have HX : Aside0 ((l0.map (·.f0)).getD m ByteArray.empty = x ∧ (l0.map (·.f0)).getD (m + 1) ByteArray.empty = y) := ⟨by rw [hxx, hyy]; constructor <;> simp [rd_T48, rdOf, List.getD_eq_getElem?_getD, h, show m < l0.length by omega]⟩
      clear hxx hyy
      obtain ⟨b, hb⟩ : ∃ b, b = Op.bytesLess x.toList y.toList := ⟨_, rfl⟩
      have Hb := Aside0.mk hb
      have hb' : Op.bytesLess x.toList y.toList = b := hb.symm
      clear hb
      have HM : Aside0 ((l0.length - intOf (.int .i64 ((m + 1 + 1 : Nat) : Int))).toNat < (l0.length - intOf (.int .i64 ((m + 1 : Nat) : Int))).toNat) := ⟨by simp [intOf]; omega⟩
      have HW : Aside0 (wrap64 (((m + 1 : Nat) : Int) + 1) = ((m + 1 + 1 : Nat) : Int)) := ⟨by unfold wrap64; omega⟩
      have hw2 := HW.out
      have MK : Aside0 (∀ w1, Below wr.heap.size wr w1 → (Below wr.heap.size wr w1 ∧ w1.cell? (ad.add (m * 2)) = some (.string x) ∧ w1.cell? ⟨(ad.add (m * 2)).block, (ad.add (m * 2)).off + 1, none⟩ = some (.string x2) ∧ w1.cell? (ad.add ((m + 1) * 2)) = some (.string y) ∧ w1.cell? ⟨(ad.add ((m + 1) * 2)).block, (ad.add ((m + 1) * 2)).off + 1, none⟩ = some (.string y2))) := ⟨fun w1 hb => ⟨hb, nd_cell hb hx0, nd_cell hb hx1, nd_cell hb hy0, nd_cell hb hy1⟩⟩
      have FIN : Aside0 (∀ w1, Below wr.heap.size wr w1 → Below w.heap.size w w1) := ⟨fun w1 hb => HB.out.trans (hb.mono HB.out.size)⟩
      cases b
      · have RF : Aside0 (risesB (l0.map (·.f0)) = false) := ⟨rises_false m (by simpa using h) (by rw [HX.out.1, HX.out.2]; exact Hb.out.symm)⟩
        clear HA hk
        clear hx0 hx1 hy0 hy1
        go_wp2_with fail
        refine wp_region_held_drew (S := fun w1 => (Below wr.heap.size wr w1 ∧ w1.cell? (ad.add (m * 2)) = some (.string x) ∧ w1.cell? ⟨(ad.add (m * 2)).block, (ad.add (m * 2)).off + 1, none⟩ = some (.string x2) ∧ w1.cell? (ad.add ((m + 1) * 2)) = some (.string y) ∧ w1.cell? ⟨(ad.add ((m + 1) * 2)).block, (ad.add ((m + 1) * 2)).off + 1, none⟩ = some (.string y2))) (by kernel_rfl) ?_ (fun hHeld => ?_)
        · try dsimp only
          first | exact MK.out _ (Below.drew (Below.refl _ _)) | exact MK.out _ SB1.out | assumption
        refine wpAnyH_take (i := 0) (oi := _) (v := _) rfl (by kernel_rfl) (by kernel_rfl) (by kernel_rfl) (fun _ _ _ h => h) (Or.inl ⟨by rfl, by (intro w hSw; (try dsimp only at hSw); go_simp; try with_reducible rfl)⟩) hHeld ?_
        simp only [Act.put, List.getElem_toArray, List.getElem_cons_zero, List.getElem_cons_succ, List.setIfInBounds_toArray, List.set_cons_zero, List.set_cons_succ]
        refine wpAnyH_take (i := 1) (oi := _) (v := _) rfl (by kernel_rfl) (by kernel_rfl) (by kernel_rfl) (fun _ _ _ h => h) (Or.inl ⟨by rfl, by (intro w hSw; (try dsimp only at hSw); go_simp; try with_reducible rfl)⟩) hHeld ?_
        simp only [Act.put, List.getElem_toArray, List.getElem_cons_zero, List.getElem_cons_succ, List.setIfInBounds_toArray, List.set_cons_zero, List.set_cons_succ]
        refine wpAnyH_take (i := 2) (oi := _) (v := _) rfl (by kernel_rfl) (by kernel_rfl) (by kernel_rfl) (fun _ _ _ h => h) (Or.inl ⟨by rfl, by (intro w hSw; (try dsimp only at hSw); go_simp; try with_reducible rfl)⟩) hHeld ?_
        simp only [Act.put, List.getElem_toArray, List.getElem_cons_zero, List.getElem_cons_succ, List.setIfInBounds_toArray, List.set_cons_zero, List.set_cons_succ]
        refine wpAnyH_take (i := 3) (oi := _) (v := _) rfl (by kernel_rfl) (by kernel_rfl) (by kernel_rfl) (fun _ _ _ h => h) (Or.inl ⟨by rfl, by (intro w hSw; (try dsimp only at hSw); go_simp; try with_reducible rfl)⟩) hHeld ?_
        simp only [Act.put, List.getElem_toArray, List.getElem_cons_zero, List.getElem_cons_succ, List.setIfInBounds_toArray, List.set_cons_zero, List.set_cons_succ]
        refine wpAnyH_take (i := 4) (oi := _) (v := _) rfl (by kernel_rfl) (by kernel_rfl) (by kernel_rfl) (fun _ _ _ h => h) (Or.inl ⟨by rfl, by (intro w hSw; (try dsimp only at hSw); go_simp; try with_reducible rfl)⟩) hHeld ?_
        simp only [Act.put, List.getElem_toArray, List.getElem_cons_zero, List.getElem_cons_succ, List.setIfInBounds_toArray, List.set_cons_zero, List.set_cons_succ]
        refine wpAnyH_take (i := 5) (oi := _) (v := _) rfl (by kernel_rfl) (by kernel_rfl) (by kernel_rfl) (fun _ _ _ h => h) (Or.inl ⟨by rfl, by (intro w hSw; (try dsimp only at hSw); go_simp; try with_reducible rfl)⟩) hHeld ?_
        simp only [Act.put, List.getElem_toArray, List.getElem_cons_zero, List.getElem_cons_succ, List.setIfInBounds_toArray, List.set_cons_zero, List.set_cons_succ]
        refine wpAnyH_take (i := 7) (oi := _) (v := _) rfl (by kernel_rfl) (by kernel_rfl) (by kernel_rfl) (fun _ _ _ h => h) (Or.inl ⟨by rfl, by (intro w hSw; (try dsimp only at hSw); go_simp; try with_reducible rfl)⟩) hHeld ?_
        simp only [Act.put, List.getElem_toArray, List.getElem_cons_zero, List.getElem_cons_succ, List.setIfInBounds_toArray, List.set_cons_zero, List.set_cons_succ]
        refine wpAnyH_take (i := 8) (oi := _) (v := _) rfl (by kernel_rfl) (by kernel_rfl) (by kernel_rfl) (fun _ _ _ h => h) (Or.inl ⟨by rfl, by (intro w hSw; (try dsimp only at hSw); go_simp; try with_reducible rfl)⟩) hHeld ?_
        simp only [Act.put, List.getElem_toArray, List.getElem_cons_zero, List.getElem_cons_succ, List.setIfInBounds_toArray, List.set_cons_zero, List.set_cons_succ]
        refine wpAnyH_take (i := 9) (oi := _) (v := _) rfl (by kernel_rfl) (by kernel_rfl) (by kernel_rfl) (fun _ _ _ h => h) (Or.inl ⟨by rfl, by (intro w hSw; (try dsimp only at hSw); go_simp; try with_reducible rfl)⟩) hHeld ?_
        simp only [Act.put, List.getElem_toArray, List.getElem_cons_zero, List.getElem_cons_succ, List.setIfInBounds_toArray, List.set_cons_zero, List.set_cons_succ]
        refine wpAnyH_take (i := 10) (oi := _) (v := _) rfl (by kernel_rfl) (by kernel_rfl) (by kernel_rfl) (fun _ _ _ h => h) (Or.inl ⟨by rfl, by (intro w hSw; (try dsimp only at hSw); go_simp; try with_reducible rfl)⟩) hHeld ?_
        simp only [Act.put, List.getElem_toArray, List.getElem_cons_zero, List.getElem_cons_succ, List.setIfInBounds_toArray, List.set_cons_zero, List.set_cons_succ]
        refine wpAnyH_take (i := 11) (oi := _) (v := _) rfl (by kernel_rfl) (by kernel_rfl) (by kernel_rfl) (fun _ _ _ h => h) (Or.inl ⟨by rfl, by (intro w hSw; (try dsimp only at hSw); go_simp; try with_reducible rfl)⟩) hHeld ?_
        simp only [Act.put, List.getElem_toArray, List.getElem_cons_zero, List.getElem_cons_succ, List.setIfInBounds_toArray, List.set_cons_zero, List.set_cons_succ]
        refine wpAnyH_ready (rs := [6]) (by kernel_rfl) (by simp) ?_
        refine AllReadyH.cons rfl (fun K hK => ?_) AllReadyH.nil
        go_simp
        refine (keyOfW _ _ _).mono ?_
        rintro e w6 ⟨rfl, hb6⟩
        have SB1 : Aside0 (Below wr.heap.size wr w6) := ⟨Below.trans hHeld.1 (hb6.mono hHeld.1.size)⟩
        clear hb6
        go_simp
        refine hK.out _ _ ?_ (fun hNew => ?_)
        · try dsimp only
          first | exact MK.out _ (Below.drew (Below.refl _ _)) | exact MK.out _ SB1.out | assumption
        clear hK K hHeld
        have hHeld := hNew
        clear hNew
        refine wpAnyH_ready (rs := [12]) (by kernel_rfl) (by simp) ?_
        refine AllReadyH.cons rfl (fun K hK => ?_) AllReadyH.nil
        go_simp
        refine (keyOfW _ _ _).mono ?_
        rintro e w6 ⟨rfl, hb6⟩
        have SB1 : Aside0 (Below wr.heap.size wr w6) := ⟨Below.trans hHeld.1 (hb6.mono hHeld.1.size)⟩
        clear hb6
        go_simp
        refine hK.out _ _ ?_ (fun hNew => ?_)
        · try dsimp only
          first | exact MK.out _ (Below.drew (Below.refl _ _)) | exact MK.out _ SB1.out | assumption
        clear hK K hHeld
        have hHeld := hNew
        clear hNew
        refine wpAnyH_take (i := 13) (oi := _) (v := _) rfl (by kernel_rfl) (by kernel_rfl) (by kernel_rfl) (fun _ _ _ h => h) (Or.inl ⟨by rfl, by (intro w hSw; (try dsimp only at hSw); go_simp; try with_reducible rfl)⟩) hHeld ?_
        simp only [Act.put, List.getElem_toArray, List.getElem_cons_zero, List.getElem_cons_succ, List.setIfInBounds_toArray, List.set_cons_zero, List.set_cons_succ]
        refine wpAnyH_done (by kernel_rfl) ?_ _
        go_wp2_with fail
        go_ret
        exact ⟨by rw [RF.out]; rfl, FIN.out _ hHeld.1⟩
      · have HA2 : Aside0 (∀ j, j + 1 < m + 1 + 1 → Op.bytesLess ((l0.map (·.f0)).getD j ByteArray.empty).toList ((l0.map (·.f0)).getD (j + 1) ByteArray.empty).toList = true) := ⟨fun j hj => by
          by_cases e : j = m
          · subst e
            rw [HX.out.1, HX.out.2]; exact Hb.out.symm
          · exact HA.out j (by omega)⟩
        clear HA hk
        clear hx0 hx1 hy0 hy1
        go_wp2_with fail
        refine wp_region_held_drew (S := fun w1 => (Below wr.heap.size wr w1 ∧ w1.cell? (ad.add (m * 2)) = some (.string x) ∧ w1.cell? ⟨(ad.add (m * 2)).block, (ad.add (m * 2)).off + 1, none⟩ = some (.string x2) ∧ w1.cell? (ad.add ((m + 1) * 2)) = some (.string y) ∧ w1.cell? ⟨(ad.add ((m + 1) * 2)).block, (ad.add ((m + 1) * 2)).off + 1, none⟩ = some (.string y2))) (by kernel_rfl) ?_ (fun hHeld => ?_)
        · try dsimp only
          first | exact MK.out _ (Below.drew (Below.refl _ _)) | exact MK.out _ SB1.out | assumption
        refine wpAnyH_take (i := 0) (oi := _) (v := _) rfl (by kernel_rfl) (by kernel_rfl) (by kernel_rfl) (fun _ _ _ h => h) (Or.inl ⟨by rfl, by (intro w hSw; (try dsimp only at hSw); go_simp; try with_reducible rfl)⟩) hHeld ?_
        simp only [Act.put, List.getElem_toArray, List.getElem_cons_zero, List.getElem_cons_succ, List.setIfInBounds_toArray, List.set_cons_zero, List.set_cons_succ]
        refine wpAnyH_take (i := 1) (oi := _) (v := _) rfl (by kernel_rfl) (by kernel_rfl) (by kernel_rfl) (fun _ _ _ h => h) (Or.inl ⟨by rfl, by (intro w hSw; (try dsimp only at hSw); go_simp; try with_reducible rfl)⟩) hHeld ?_
        simp only [Act.put, List.getElem_toArray, List.getElem_cons_zero, List.getElem_cons_succ, List.setIfInBounds_toArray, List.set_cons_zero, List.set_cons_succ]
        refine wpAnyH_take (i := 2) (oi := _) (v := _) rfl (by kernel_rfl) (by kernel_rfl) (by kernel_rfl) (fun _ _ _ h => h) (Or.inl ⟨by rfl, by (intro w hSw; (try dsimp only at hSw); go_simp; try with_reducible rfl)⟩) hHeld ?_
        simp only [Act.put, List.getElem_toArray, List.getElem_cons_zero, List.getElem_cons_succ, List.setIfInBounds_toArray, List.set_cons_zero, List.set_cons_succ]
        refine wpAnyH_take (i := 3) (oi := _) (v := _) rfl (by kernel_rfl) (by kernel_rfl) (by kernel_rfl) (fun _ _ _ h => h) (Or.inl ⟨by rfl, by (intro w hSw; (try dsimp only at hSw); go_simp; try with_reducible rfl)⟩) hHeld ?_
        simp only [Act.put, List.getElem_toArray, List.getElem_cons_zero, List.getElem_cons_succ, List.setIfInBounds_toArray, List.set_cons_zero, List.set_cons_succ]
        refine wpAnyH_take (i := 4) (oi := _) (v := _) rfl (by kernel_rfl) (by kernel_rfl) (by kernel_rfl) (fun _ _ _ h => h) (Or.inl ⟨by rfl, by (intro w hSw; (try dsimp only at hSw); go_simp; try with_reducible rfl)⟩) hHeld ?_
        simp only [Act.put, List.getElem_toArray, List.getElem_cons_zero, List.getElem_cons_succ, List.setIfInBounds_toArray, List.set_cons_zero, List.set_cons_succ]
        refine wpAnyH_take (i := 5) (oi := _) (v := _) rfl (by kernel_rfl) (by kernel_rfl) (by kernel_rfl) (fun _ _ _ h => h) (Or.inl ⟨by rfl, by (intro w hSw; (try dsimp only at hSw); go_simp; try with_reducible rfl)⟩) hHeld ?_
        simp only [Act.put, List.getElem_toArray, List.getElem_cons_zero, List.getElem_cons_succ, List.setIfInBounds_toArray, List.set_cons_zero, List.set_cons_succ]
        refine wpAnyH_take (i := 7) (oi := _) (v := _) rfl (by kernel_rfl) (by kernel_rfl) (by kernel_rfl) (fun _ _ _ h => h) (Or.inl ⟨by rfl, by (intro w hSw; (try dsimp only at hSw); go_simp; try with_reducible rfl)⟩) hHeld ?_
        simp only [Act.put, List.getElem_toArray, List.getElem_cons_zero, List.getElem_cons_succ, List.setIfInBounds_toArray, List.set_cons_zero, List.set_cons_succ]
        refine wpAnyH_take (i := 8) (oi := _) (v := _) rfl (by kernel_rfl) (by kernel_rfl) (by kernel_rfl) (fun _ _ _ h => h) (Or.inl ⟨by rfl, by (intro w hSw; (try dsimp only at hSw); go_simp; try with_reducible rfl)⟩) hHeld ?_
        simp only [Act.put, List.getElem_toArray, List.getElem_cons_zero, List.getElem_cons_succ, List.setIfInBounds_toArray, List.set_cons_zero, List.set_cons_succ]
        refine wpAnyH_take (i := 9) (oi := _) (v := _) rfl (by kernel_rfl) (by kernel_rfl) (by kernel_rfl) (fun _ _ _ h => h) (Or.inl ⟨by rfl, by (intro w hSw; (try dsimp only at hSw); go_simp; try with_reducible rfl)⟩) hHeld ?_
        simp only [Act.put, List.getElem_toArray, List.getElem_cons_zero, List.getElem_cons_succ, List.setIfInBounds_toArray, List.set_cons_zero, List.set_cons_succ]
        refine wpAnyH_take (i := 10) (oi := _) (v := _) rfl (by kernel_rfl) (by kernel_rfl) (by kernel_rfl) (fun _ _ _ h => h) (Or.inl ⟨by rfl, by (intro w hSw; (try dsimp only at hSw); go_simp; try with_reducible rfl)⟩) hHeld ?_
        simp only [Act.put, List.getElem_toArray, List.getElem_cons_zero, List.getElem_cons_succ, List.setIfInBounds_toArray, List.set_cons_zero, List.set_cons_succ]
        refine wpAnyH_take (i := 11) (oi := _) (v := _) rfl (by kernel_rfl) (by kernel_rfl) (by kernel_rfl) (fun _ _ _ h => h) (Or.inl ⟨by rfl, by (intro w hSw; (try dsimp only at hSw); go_simp; try with_reducible rfl)⟩) hHeld ?_
        simp only [Act.put, List.getElem_toArray, List.getElem_cons_zero, List.getElem_cons_succ, List.setIfInBounds_toArray, List.set_cons_zero, List.set_cons_succ]
        refine wpAnyH_ready (rs := [6]) (by kernel_rfl) (by simp) ?_
        refine AllReadyH.cons rfl (fun K hK => ?_) AllReadyH.nil
        go_simp
        refine (keyOfW _ _ _).mono ?_
        rintro e w6 ⟨rfl, hb6⟩
        have SB1 : Aside0 (Below wr.heap.size wr w6) := ⟨Below.trans hHeld.1 (hb6.mono hHeld.1.size)⟩
        clear hb6
        go_simp
        refine hK.out _ _ ?_ (fun hNew => ?_)
        · try dsimp only
          first | exact MK.out _ (Below.drew (Below.refl _ _)) | exact MK.out _ SB1.out | assumption
        clear hK K hHeld
        have hHeld := hNew
        clear hNew
        refine wpAnyH_ready (rs := [12]) (by kernel_rfl) (by simp) ?_
        refine AllReadyH.cons rfl (fun K hK => ?_) AllReadyH.nil
        go_simp
        refine (keyOfW _ _ _).mono ?_
        rintro e w6 ⟨rfl, hb6⟩
        have SB1 : Aside0 (Below wr.heap.size wr w6) := ⟨Below.trans hHeld.1 (hb6.mono hHeld.1.size)⟩
        clear hb6
        go_simp
        refine hK.out _ _ ?_ (fun hNew => ?_)
        · try dsimp only
          first | exact MK.out _ (Below.drew (Below.refl _ _)) | exact MK.out _ SB1.out | assumption
        clear hK K hHeld
        have hHeld := hNew
        clear hNew
        refine wpAnyH_take (i := 13) (oi := _) (v := _) rfl (by kernel_rfl) (by kernel_rfl) (by kernel_rfl) (fun _ _ _ h => h) (Or.inl ⟨by rfl, by (intro w hSw; (try dsimp only at hSw); go_simp; try with_reducible rfl)⟩) hHeld ?_
        simp only [Act.put, List.getElem_toArray, List.getElem_cons_zero, List.getElem_cons_succ, List.setIfInBounds_toArray, List.set_cons_zero, List.set_cons_succ]
        refine wpAnyH_done (by kernel_rfl) ?_ _
        have FB := Aside0.mk (FIN.out _ hHeld.1)
        clear hHeld
        go_wp2_with fail
        exact ⟨⟨m + 1 + 1, by omega, by omega, by first | rfl | (simp; done), HA2, FB⟩, HM.out⟩
    · have d1 : decide (k < l0.length) = false := decide_eq_false h
      have d1' : decide ((k : Int) < (l0.length : Int)) = false := decide_eq_false (by omega)
      go_wp2_with fail
      go_ret
      exact ⟨by rw [rises_true (fun j hj => HA.out j (by (try simp at hj); omega))]; rfl, HB.out⟩
theorem itselfW (a : ByteArray) (w : World) : Calls Try.prog 68 #[.string a] w fun e w' => e = .returned (.string a) ∧ Below w.heap.size w w' := (node_itself.calls a a w rfl).mono fun e w' ⟨he, hd⟩ => ⟨he, hd.below⟩
set_option maxHeartbeats 4000000 in
set_option maxRecDepth 100000 in
theorem risingS (A0 : Option Addr) (c0 : Nat) (l0 : List ByteArray) (w : World) (hr0 : Kd.C Kd.string w A0 l0.length l0) (hl : l0.length ≤ 9223372036854775806) :
    Calls Try.prog 67 #[.slice A0 l0.length c0, .func (.func 68) #[] #[]] w fun e w' => e = .returned (.bool (risesB l0)) ∧ Below w.heap.size w w' := by
  have R0 := Aside0.mk hr0
  clear hr0
  go_enter Try.func67, Try.ntmps67
  go_wp2_with fail
  go_loopw [5] (fun v w' => ∃ k : Nat, 1 ≤ k ∧ (k ≤ l0.length ∨ k = 1) ∧ v = .int .i64 (k : Int) ∧ Aside0 (∀ j, j + 1 < k → Op.bytesLess (l0.getD j ByteArray.empty).toList (l0.getD (j + 1) ByteArray.empty).toList = true) ∧ Aside0 (Below w.heap.size w w')) (fun v _ => (l0.length - intOf v).toNat)
  case atStart => exact ⟨1, by omega, by omega, rfl, ⟨fun j hj => by omega⟩, ⟨Below.refl _ _⟩⟩
  case round =>
    obtain ⟨k, hk1, hk, rfl, HA, HB⟩ := hrel
    by_cases h : k < l0.length
    · have d1 : decide (k < l0.length) = true := decide_eq_true h
      have d1' : decide ((k : Int) < (l0.length : Int)) = true := decide_eq_true (by omega)
      obtain ⟨m, rfl⟩ : ∃ m, k = m + 1 := ⟨k - 1, by omega⟩
      have e1 : wrap64 (((m + 1 : Nat) : Int) - 1) = (m : Int) := by unfold wrap64; omega
      have p1 : (0 : Int) ≤ (m : Int) := by omega
      have q1 : (m : Int) < (l0.length : Int) := by omega
      have p2 : (0 : Int) ≤ ((m + 1 : Nat) : Int) := by omega
      have q2 : ((m + 1 : Nat) : Int) < (l0.length : Int) := by omega
      have e1b : wrap64 ((m : Int) + 1 - 1) = (m : Int) := by unfold wrap64; omega
      have e1c : wrap64 (m : Int) = (m : Int) := by unfold wrap64; omega
      have e1d : IntKind.i64.wrap (m : Int) = (m : Int) := by rw [IntKind.wrap_i64]; omega
      have p2b : (0 : Int) ≤ (m : Int) + 1 := by omega
      have q2b : (m : Int) + 1 < (l0.length : Int) := by omega
      have e2b : ((m : Int) + 1).toNat = m + 1 := by omega
      obtain ⟨ad, e0, hx⟩ := Kd.at_string (Kd.C_below R0.out HB.out) (m : Int) p1 q1
      obtain ⟨ad', ha', hy⟩ := Kd.at_string (Kd.C_below R0.out HB.out) ((m + 1 : Nat) : Int) p2 q2
      cases e0
      cases ha'
      rw [Int.toNat_natCast] at hx hy
      obtain ⟨x, hxx⟩ : ∃ x, x = rdOf ByteArray.empty l0 (m : Int) := ⟨_, rfl⟩
      obtain ⟨y, hyy⟩ : ∃ y, y = rdOf ByteArray.empty l0 ((m + 1 : Nat) : Int) := ⟨_, rfl⟩
      rw [← hxx] at hx
      rw [← hyy] at hy
      have HX : Aside0 (l0.getD m ByteArray.empty = x ∧ l0.getD (m + 1) ByteArray.empty = y) := ⟨by rw [hxx, hyy]; constructor <;> simp [rd_T48, rdOf, List.getD_eq_getElem?_getD, h, show m < l0.length by omega]⟩
      clear hxx hyy
      obtain ⟨b, hb⟩ : ∃ b, b = Op.bytesLess x.toList y.toList := ⟨_, rfl⟩
      have Hb := Aside0.mk hb
      have hb' : Op.bytesLess x.toList y.toList = b := hb.symm
      clear hb
      have HM : Aside0 ((l0.length - intOf (.int .i64 ((m + 1 + 1 : Nat) : Int))).toNat < (l0.length - intOf (.int .i64 ((m + 1 : Nat) : Int))).toNat) := ⟨by simp [intOf]; omega⟩
      have HW : Aside0 (wrap64 (((m + 1 : Nat) : Int) + 1) = ((m + 1 + 1 : Nat) : Int)) := ⟨by unfold wrap64; omega⟩
      have hw2 := HW.out
      have MK : Aside0 (∀ w1, Below wr.heap.size wr w1 → (Below wr.heap.size wr w1 ∧ w1.cell? (ad.add m) = some (.string x) ∧ w1.cell? ⟨ad.block, ad.off + (m + 1), none⟩ = some (.string y))) := ⟨fun w1 hb => ⟨hb, nd_cell hb hx, nd_cell hb hy⟩⟩
      have FIN : Aside0 (∀ w1, Below wr.heap.size wr w1 → Below w.heap.size w w1) := ⟨fun w1 hb => HB.out.trans (hb.mono HB.out.size)⟩
      cases b
      · have RF : Aside0 (risesB l0 = false) := ⟨rises_false m (by simpa using h) (by rw [HX.out.1, HX.out.2]; exact Hb.out.symm)⟩
        clear HA hk
        clear hx hy
        go_wp2_with fail
        refine wp_region_held_drew (S := fun w1 => (Below wr.heap.size wr w1 ∧ w1.cell? (ad.add m) = some (.string x) ∧ w1.cell? ⟨ad.block, ad.off + (m + 1), none⟩ = some (.string y))) (by kernel_rfl) ?_ (fun hHeld => ?_)
        · try dsimp only
          first | exact MK.out _ (Below.drew (Below.refl _ _)) | exact MK.out _ SB1.out | assumption
        refine wpAnyH_take (i := 0) (oi := _) (v := _) rfl (by kernel_rfl) (by kernel_rfl) (by kernel_rfl) (fun _ _ _ h => h) (Or.inl ⟨by rfl, by (intro w hSw; (try dsimp only at hSw); go_simp; try with_reducible rfl)⟩) hHeld ?_
        simp only [Act.put, List.getElem_toArray, List.getElem_cons_zero, List.getElem_cons_succ, List.setIfInBounds_toArray, List.set_cons_zero, List.set_cons_succ]
        refine wpAnyH_take (i := 1) (oi := _) (v := _) rfl (by kernel_rfl) (by kernel_rfl) (by kernel_rfl) (fun _ _ _ h => h) (Or.inl ⟨by rfl, by (intro w hSw; (try dsimp only at hSw); go_simp; try with_reducible rfl)⟩) hHeld ?_
        simp only [Act.put, List.getElem_toArray, List.getElem_cons_zero, List.getElem_cons_succ, List.setIfInBounds_toArray, List.set_cons_zero, List.set_cons_succ]
        refine wpAnyH_take (i := 2) (oi := _) (v := _) rfl (by kernel_rfl) (by kernel_rfl) (by kernel_rfl) (fun _ _ _ h => h) (Or.inl ⟨by rfl, by (intro w hSw; (try dsimp only at hSw); go_simp; try with_reducible rfl)⟩) hHeld ?_
        simp only [Act.put, List.getElem_toArray, List.getElem_cons_zero, List.getElem_cons_succ, List.setIfInBounds_toArray, List.set_cons_zero, List.set_cons_succ]
        refine wpAnyH_take (i := 3) (oi := _) (v := _) rfl (by kernel_rfl) (by kernel_rfl) (by kernel_rfl) (fun _ _ _ h => h) (Or.inl ⟨by rfl, by (intro w hSw; (try dsimp only at hSw); go_simp; try with_reducible rfl)⟩) hHeld ?_
        simp only [Act.put, List.getElem_toArray, List.getElem_cons_zero, List.getElem_cons_succ, List.setIfInBounds_toArray, List.set_cons_zero, List.set_cons_succ]
        refine wpAnyH_take (i := 4) (oi := _) (v := _) rfl (by kernel_rfl) (by kernel_rfl) (by kernel_rfl) (fun _ _ _ h => h) (Or.inl ⟨by rfl, by (intro w hSw; (try dsimp only at hSw); go_simp; try with_reducible rfl)⟩) hHeld ?_
        simp only [Act.put, List.getElem_toArray, List.getElem_cons_zero, List.getElem_cons_succ, List.setIfInBounds_toArray, List.set_cons_zero, List.set_cons_succ]
        refine wpAnyH_take (i := 5) (oi := _) (v := _) rfl (by kernel_rfl) (by kernel_rfl) (by kernel_rfl) (fun _ _ _ h => h) (Or.inl ⟨by rfl, by (intro w hSw; (try dsimp only at hSw); go_simp; try with_reducible rfl)⟩) hHeld ?_
        simp only [Act.put, List.getElem_toArray, List.getElem_cons_zero, List.getElem_cons_succ, List.setIfInBounds_toArray, List.set_cons_zero, List.set_cons_succ]
        refine wpAnyH_take (i := 7) (oi := _) (v := _) rfl (by kernel_rfl) (by kernel_rfl) (by kernel_rfl) (fun _ _ _ h => h) (Or.inl ⟨by rfl, by (intro w hSw; (try dsimp only at hSw); go_simp; try with_reducible rfl)⟩) hHeld ?_
        simp only [Act.put, List.getElem_toArray, List.getElem_cons_zero, List.getElem_cons_succ, List.setIfInBounds_toArray, List.set_cons_zero, List.set_cons_succ]
        refine wpAnyH_take (i := 8) (oi := _) (v := _) rfl (by kernel_rfl) (by kernel_rfl) (by kernel_rfl) (fun _ _ _ h => h) (Or.inl ⟨by rfl, by (intro w hSw; (try dsimp only at hSw); go_simp; try with_reducible rfl)⟩) hHeld ?_
        simp only [Act.put, List.getElem_toArray, List.getElem_cons_zero, List.getElem_cons_succ, List.setIfInBounds_toArray, List.set_cons_zero, List.set_cons_succ]
        refine wpAnyH_take (i := 9) (oi := _) (v := _) rfl (by kernel_rfl) (by kernel_rfl) (by kernel_rfl) (fun _ _ _ h => h) (Or.inl ⟨by rfl, by (intro w hSw; (try dsimp only at hSw); go_simp; try with_reducible rfl)⟩) hHeld ?_
        simp only [Act.put, List.getElem_toArray, List.getElem_cons_zero, List.getElem_cons_succ, List.setIfInBounds_toArray, List.set_cons_zero, List.set_cons_succ]
        refine wpAnyH_take (i := 10) (oi := _) (v := _) rfl (by kernel_rfl) (by kernel_rfl) (by kernel_rfl) (fun _ _ _ h => h) (Or.inl ⟨by rfl, by (intro w hSw; (try dsimp only at hSw); go_simp; try with_reducible rfl)⟩) hHeld ?_
        simp only [Act.put, List.getElem_toArray, List.getElem_cons_zero, List.getElem_cons_succ, List.setIfInBounds_toArray, List.set_cons_zero, List.set_cons_succ]
        refine wpAnyH_take (i := 11) (oi := _) (v := _) rfl (by kernel_rfl) (by kernel_rfl) (by kernel_rfl) (fun _ _ _ h => h) (Or.inl ⟨by rfl, by (intro w hSw; (try dsimp only at hSw); go_simp; try with_reducible rfl)⟩) hHeld ?_
        simp only [Act.put, List.getElem_toArray, List.getElem_cons_zero, List.getElem_cons_succ, List.setIfInBounds_toArray, List.set_cons_zero, List.set_cons_succ]
        refine wpAnyH_ready (rs := [6]) (by kernel_rfl) (by simp) ?_
        refine AllReadyH.cons rfl (fun K hK => ?_) AllReadyH.nil
        go_simp
        refine (itselfW _ _).mono ?_
        rintro e w6 ⟨rfl, hb6⟩
        have SB1 : Aside0 (Below wr.heap.size wr w6) := ⟨Below.trans hHeld.1 (hb6.mono hHeld.1.size)⟩
        clear hb6
        go_simp
        refine hK.out _ _ ?_ (fun hNew => ?_)
        · try dsimp only
          first | exact MK.out _ (Below.drew (Below.refl _ _)) | exact MK.out _ SB1.out | assumption
        clear hK K hHeld
        have hHeld := hNew
        clear hNew
        refine wpAnyH_ready (rs := [12]) (by kernel_rfl) (by simp) ?_
        refine AllReadyH.cons rfl (fun K hK => ?_) AllReadyH.nil
        go_simp
        refine (itselfW _ _).mono ?_
        rintro e w6 ⟨rfl, hb6⟩
        have SB1 : Aside0 (Below wr.heap.size wr w6) := ⟨Below.trans hHeld.1 (hb6.mono hHeld.1.size)⟩
        clear hb6
        go_simp
        refine hK.out _ _ ?_ (fun hNew => ?_)
        · try dsimp only
          first | exact MK.out _ (Below.drew (Below.refl _ _)) | exact MK.out _ SB1.out | assumption
        clear hK K hHeld
        have hHeld := hNew
        clear hNew
        refine wpAnyH_take (i := 13) (oi := _) (v := _) rfl (by kernel_rfl) (by kernel_rfl) (by kernel_rfl) (fun _ _ _ h => h) (Or.inl ⟨by rfl, by (intro w hSw; (try dsimp only at hSw); go_simp; try with_reducible rfl)⟩) hHeld ?_
        simp only [Act.put, List.getElem_toArray, List.getElem_cons_zero, List.getElem_cons_succ, List.setIfInBounds_toArray, List.set_cons_zero, List.set_cons_succ]
        refine wpAnyH_done (by kernel_rfl) ?_ _
        go_wp2_with fail
        go_ret
        exact ⟨by rw [RF.out]; rfl, FIN.out _ hHeld.1⟩
      · have HA2 : Aside0 (∀ j, j + 1 < m + 1 + 1 → Op.bytesLess (l0.getD j ByteArray.empty).toList (l0.getD (j + 1) ByteArray.empty).toList = true) := ⟨fun j hj => by
          by_cases e : j = m
          · subst e
            rw [HX.out.1, HX.out.2]; exact Hb.out.symm
          · exact HA.out j (by omega)⟩
        clear HA hk
        clear hx hy
        go_wp2_with fail
        refine wp_region_held_drew (S := fun w1 => (Below wr.heap.size wr w1 ∧ w1.cell? (ad.add m) = some (.string x) ∧ w1.cell? ⟨ad.block, ad.off + (m + 1), none⟩ = some (.string y))) (by kernel_rfl) ?_ (fun hHeld => ?_)
        · try dsimp only
          first | exact MK.out _ (Below.drew (Below.refl _ _)) | exact MK.out _ SB1.out | assumption
        refine wpAnyH_take (i := 0) (oi := _) (v := _) rfl (by kernel_rfl) (by kernel_rfl) (by kernel_rfl) (fun _ _ _ h => h) (Or.inl ⟨by rfl, by (intro w hSw; (try dsimp only at hSw); go_simp; try with_reducible rfl)⟩) hHeld ?_
        simp only [Act.put, List.getElem_toArray, List.getElem_cons_zero, List.getElem_cons_succ, List.setIfInBounds_toArray, List.set_cons_zero, List.set_cons_succ]
        refine wpAnyH_take (i := 1) (oi := _) (v := _) rfl (by kernel_rfl) (by kernel_rfl) (by kernel_rfl) (fun _ _ _ h => h) (Or.inl ⟨by rfl, by (intro w hSw; (try dsimp only at hSw); go_simp; try with_reducible rfl)⟩) hHeld ?_
        simp only [Act.put, List.getElem_toArray, List.getElem_cons_zero, List.getElem_cons_succ, List.setIfInBounds_toArray, List.set_cons_zero, List.set_cons_succ]
        refine wpAnyH_take (i := 2) (oi := _) (v := _) rfl (by kernel_rfl) (by kernel_rfl) (by kernel_rfl) (fun _ _ _ h => h) (Or.inl ⟨by rfl, by (intro w hSw; (try dsimp only at hSw); go_simp; try with_reducible rfl)⟩) hHeld ?_
        simp only [Act.put, List.getElem_toArray, List.getElem_cons_zero, List.getElem_cons_succ, List.setIfInBounds_toArray, List.set_cons_zero, List.set_cons_succ]
        refine wpAnyH_take (i := 3) (oi := _) (v := _) rfl (by kernel_rfl) (by kernel_rfl) (by kernel_rfl) (fun _ _ _ h => h) (Or.inl ⟨by rfl, by (intro w hSw; (try dsimp only at hSw); go_simp; try with_reducible rfl)⟩) hHeld ?_
        simp only [Act.put, List.getElem_toArray, List.getElem_cons_zero, List.getElem_cons_succ, List.setIfInBounds_toArray, List.set_cons_zero, List.set_cons_succ]
        refine wpAnyH_take (i := 4) (oi := _) (v := _) rfl (by kernel_rfl) (by kernel_rfl) (by kernel_rfl) (fun _ _ _ h => h) (Or.inl ⟨by rfl, by (intro w hSw; (try dsimp only at hSw); go_simp; try with_reducible rfl)⟩) hHeld ?_
        simp only [Act.put, List.getElem_toArray, List.getElem_cons_zero, List.getElem_cons_succ, List.setIfInBounds_toArray, List.set_cons_zero, List.set_cons_succ]
        refine wpAnyH_take (i := 5) (oi := _) (v := _) rfl (by kernel_rfl) (by kernel_rfl) (by kernel_rfl) (fun _ _ _ h => h) (Or.inl ⟨by rfl, by (intro w hSw; (try dsimp only at hSw); go_simp; try with_reducible rfl)⟩) hHeld ?_
        simp only [Act.put, List.getElem_toArray, List.getElem_cons_zero, List.getElem_cons_succ, List.setIfInBounds_toArray, List.set_cons_zero, List.set_cons_succ]
        refine wpAnyH_take (i := 7) (oi := _) (v := _) rfl (by kernel_rfl) (by kernel_rfl) (by kernel_rfl) (fun _ _ _ h => h) (Or.inl ⟨by rfl, by (intro w hSw; (try dsimp only at hSw); go_simp; try with_reducible rfl)⟩) hHeld ?_
        simp only [Act.put, List.getElem_toArray, List.getElem_cons_zero, List.getElem_cons_succ, List.setIfInBounds_toArray, List.set_cons_zero, List.set_cons_succ]
        refine wpAnyH_take (i := 8) (oi := _) (v := _) rfl (by kernel_rfl) (by kernel_rfl) (by kernel_rfl) (fun _ _ _ h => h) (Or.inl ⟨by rfl, by (intro w hSw; (try dsimp only at hSw); go_simp; try with_reducible rfl)⟩) hHeld ?_
        simp only [Act.put, List.getElem_toArray, List.getElem_cons_zero, List.getElem_cons_succ, List.setIfInBounds_toArray, List.set_cons_zero, List.set_cons_succ]
        refine wpAnyH_take (i := 9) (oi := _) (v := _) rfl (by kernel_rfl) (by kernel_rfl) (by kernel_rfl) (fun _ _ _ h => h) (Or.inl ⟨by rfl, by (intro w hSw; (try dsimp only at hSw); go_simp; try with_reducible rfl)⟩) hHeld ?_
        simp only [Act.put, List.getElem_toArray, List.getElem_cons_zero, List.getElem_cons_succ, List.setIfInBounds_toArray, List.set_cons_zero, List.set_cons_succ]
        refine wpAnyH_take (i := 10) (oi := _) (v := _) rfl (by kernel_rfl) (by kernel_rfl) (by kernel_rfl) (fun _ _ _ h => h) (Or.inl ⟨by rfl, by (intro w hSw; (try dsimp only at hSw); go_simp; try with_reducible rfl)⟩) hHeld ?_
        simp only [Act.put, List.getElem_toArray, List.getElem_cons_zero, List.getElem_cons_succ, List.setIfInBounds_toArray, List.set_cons_zero, List.set_cons_succ]
        refine wpAnyH_take (i := 11) (oi := _) (v := _) rfl (by kernel_rfl) (by kernel_rfl) (by kernel_rfl) (fun _ _ _ h => h) (Or.inl ⟨by rfl, by (intro w hSw; (try dsimp only at hSw); go_simp; try with_reducible rfl)⟩) hHeld ?_
        simp only [Act.put, List.getElem_toArray, List.getElem_cons_zero, List.getElem_cons_succ, List.setIfInBounds_toArray, List.set_cons_zero, List.set_cons_succ]
        refine wpAnyH_ready (rs := [6]) (by kernel_rfl) (by simp) ?_
        refine AllReadyH.cons rfl (fun K hK => ?_) AllReadyH.nil
        go_simp
        refine (itselfW _ _).mono ?_
        rintro e w6 ⟨rfl, hb6⟩
        have SB1 : Aside0 (Below wr.heap.size wr w6) := ⟨Below.trans hHeld.1 (hb6.mono hHeld.1.size)⟩
        clear hb6
        go_simp
        refine hK.out _ _ ?_ (fun hNew => ?_)
        · try dsimp only
          first | exact MK.out _ (Below.drew (Below.refl _ _)) | exact MK.out _ SB1.out | assumption
        clear hK K hHeld
        have hHeld := hNew
        clear hNew
        refine wpAnyH_ready (rs := [12]) (by kernel_rfl) (by simp) ?_
        refine AllReadyH.cons rfl (fun K hK => ?_) AllReadyH.nil
        go_simp
        refine (itselfW _ _).mono ?_
        rintro e w6 ⟨rfl, hb6⟩
        have SB1 : Aside0 (Below wr.heap.size wr w6) := ⟨Below.trans hHeld.1 (hb6.mono hHeld.1.size)⟩
        clear hb6
        go_simp
        refine hK.out _ _ ?_ (fun hNew => ?_)
        · try dsimp only
          first | exact MK.out _ (Below.drew (Below.refl _ _)) | exact MK.out _ SB1.out | assumption
        clear hK K hHeld
        have hHeld := hNew
        clear hNew
        refine wpAnyH_take (i := 13) (oi := _) (v := _) rfl (by kernel_rfl) (by kernel_rfl) (by kernel_rfl) (fun _ _ _ h => h) (Or.inl ⟨by rfl, by (intro w hSw; (try dsimp only at hSw); go_simp; try with_reducible rfl)⟩) hHeld ?_
        simp only [Act.put, List.getElem_toArray, List.getElem_cons_zero, List.getElem_cons_succ, List.setIfInBounds_toArray, List.set_cons_zero, List.set_cons_succ]
        refine wpAnyH_done (by kernel_rfl) ?_ _
        have FB := Aside0.mk (FIN.out _ hHeld.1)
        clear hHeld
        go_wp2_with fail
        exact ⟨⟨m + 1 + 1, by omega, by omega, by first | rfl | (simp; done), HA2, FB⟩, HM.out⟩
    · have d1 : decide (k < l0.length) = false := decide_eq_false h
      have d1' : decide ((k : Int) < (l0.length : Int)) = false := decide_eq_false (by omega)
      go_wp2_with fail
      go_ret
      exact ⟨by rw [rises_true (fun j hj => HA.out j (by (try simp at hj); omega))]; rfl, HB.out⟩
def node_Node_leaf.f (a0_0 : Bool) (l0_1 : List S48) (l0_2 : List ByteArray) (l0_3 : List Int) : Option (Bool) := some (leafV a0_0 l0_1 l0_2 l0_3)
set_option maxHeartbeats 4000000 in
set_option maxRecDepth 100000 in
theorem node_Node_leaf.calls (a0_0 : Bool) (A0_1 : Option Addr) (c0_1 : Nat) (l0_1 : List S48) (A0_2 : Option Addr) (c0_2 : Nat) (l0_2 : List ByteArray) (A0_3 : Option Addr) (c0_3 : Nat) (l0_3 : List Int) (r : Bool) (w : World) (hr0_1 : Kd.C k48 w A0_1 l0_1.length l0_1) (hc0_1 : l0_1.length ≤ c0_1) (hr0_2 : Kd.C Kd.string w A0_2 l0_2.length l0_2) (hc0_2 : l0_2.length ≤ c0_2) (hr0_3 : Kd.C (Kd.int .i64) w A0_3 l0_3.length l0_3) (hc0_3 : l0_3.length ≤ c0_3) (h : node_Node_leaf.f a0_0 l0_1 l0_2 l0_3 = some r) :
    Calls Try.prog 39 #[.agg #[.bool a0_0, .slice A0_1 l0_1.length c0_1, .slice A0_2 l0_2.length c0_2, .slice A0_3 l0_3.length c0_3]] w fun e w' => e = .returned (.bool r) ∧ Below w.heap.size w w' := by
  obtain rfl := Option.some.inj h
  have L2 : l0_2.length ≤ 9223372036854775807 := hr0_2.2.1
  have L3 : l0_3.length ≤ 9223372036854775807 := hr0_3.2.1
  have R1 := Aside0.mk hr0_1
  clear h hr0_1 hc0_1 hr0_2 hc0_2 hr0_3 hc0_3
  unfold leafV
  cases a0_0
  · 
    have BX := Aside0.mk (heap_alloc_new w (.cells #[.bool false, .slice A0_1 l0_1.length c0_1, .slice A0_2 l0_2.length c0_2, .slice A0_3 l0_3.length c0_3] 31))
    have HB := Aside0.mk (below_alloc (Below.refl w.heap.size w) (.cells #[.bool false, .slice A0_1 l0_1.length c0_1, .slice A0_2 l0_2.length c0_2, .slice A0_3 l0_3.length c0_3] 31))
    have b0 : (w.alloc (.cells #[.bool false, .slice A0_1 l0_1.length c0_1, .slice A0_2 l0_2.length c0_2, .slice A0_3 l0_3.length c0_3] 31)).cell? ⟨w.heap.size, 0, none⟩ = some (.bool false) := blk_cell BX.out 0
    have b1 : (w.alloc (.cells #[.bool false, .slice A0_1 l0_1.length c0_1, .slice A0_2 l0_2.length c0_2, .slice A0_3 l0_3.length c0_3] 31)).cell? ⟨w.heap.size, 1, none⟩ = some (.slice A0_1 l0_1.length c0_1) := blk_cell BX.out 1
    have b2 : (w.alloc (.cells #[.bool false, .slice A0_1 l0_1.length c0_1, .slice A0_2 l0_2.length c0_2, .slice A0_3 l0_3.length c0_3] 31)).cell? ⟨w.heap.size, 2, none⟩ = some (.slice A0_2 l0_2.length c0_2) := blk_cell BX.out 2
    have b3 : (w.alloc (.cells #[.bool false, .slice A0_1 l0_1.length c0_1, .slice A0_2 l0_2.length c0_2, .slice A0_3 l0_3.length c0_3] 31)).cell? ⟨w.heap.size, 3, none⟩ = some (.slice A0_3 l0_3.length c0_3) := blk_cell BX.out 3
    go_enter Try.func39, Try.ntmps39
    go_wp2_with fail
    go_ret
    exact ⟨by simp, HB.out⟩
  · by_cases h0 : l0_2.length + l0_3.length = 0
    · by_cases h1 : l0_1.length ≤ 255
      · have g0 : (wrap64 ((l0_2.length : Int) + (l0_3.length : Int)) == 0) = true := beq_iff_eq.2 (by unfold wrap64; omega)
        have g1 : decide ((l0_1.length : Int) ≤ 255) = true := decide_eq_true (by omega)
        have e2 : decide (l0_2.length + l0_3.length = 0) = true := decide_eq_true h0
        have e3 : decide (l0_1.length ≤ 255) = true := decide_eq_true h1
        rw [e2, e3]
        have CN := Aside0.mk (fun W hw => leafP_contains A0_1 c0_1 l0_1 W (Kd.C_below R1.out hw) (by omega))
        have RN := Aside0.mk (fun W hw => risingP A0_1 c0_1 l0_1 W (Kd.C_below R1.out hw) (by omega))
        have BX := Aside0.mk (heap_alloc_new w (.cells #[.bool true, .slice A0_1 l0_1.length c0_1, .slice A0_2 l0_2.length c0_2, .slice A0_3 l0_3.length c0_3] 31))
        have HB := Aside0.mk (below_alloc (Below.refl w.heap.size w) (.cells #[.bool true, .slice A0_1 l0_1.length c0_1, .slice A0_2 l0_2.length c0_2, .slice A0_3 l0_3.length c0_3] 31))
        have b0 : (w.alloc (.cells #[.bool true, .slice A0_1 l0_1.length c0_1, .slice A0_2 l0_2.length c0_2, .slice A0_3 l0_3.length c0_3] 31)).cell? ⟨w.heap.size, 0, none⟩ = some (.bool true) := blk_cell BX.out 0
        have b1 : (w.alloc (.cells #[.bool true, .slice A0_1 l0_1.length c0_1, .slice A0_2 l0_2.length c0_2, .slice A0_3 l0_3.length c0_3] 31)).cell? ⟨w.heap.size, 1, none⟩ = some (.slice A0_1 l0_1.length c0_1) := blk_cell BX.out 1
        have b2 : (w.alloc (.cells #[.bool true, .slice A0_1 l0_1.length c0_1, .slice A0_2 l0_2.length c0_2, .slice A0_3 l0_3.length c0_3] 31)).cell? ⟨w.heap.size, 2, none⟩ = some (.slice A0_2 l0_2.length c0_2) := blk_cell BX.out 2
        have b3 : (w.alloc (.cells #[.bool true, .slice A0_1 l0_1.length c0_1, .slice A0_2 l0_2.length c0_2, .slice A0_3 l0_3.length c0_3] 31)).cell? ⟨w.heap.size, 3, none⟩ = some (.slice A0_3 l0_3.length c0_3) := blk_cell BX.out 3
        clear h0 h1 e2 e3
        obtain ⟨b, hb⟩ : ∃ b, b = l0_1.any badP := ⟨_, rfl⟩
        rw [← hb] at CN ⊢
        clear hb
        cases b
        · go_enter Try.func39, Try.ntmps39
          go_wp2_with fail
          refine (CN.out _ HB.out).mono ?_
          rintro e w1 ⟨rfl, hB⟩
          have B1 := Aside0.mk (HB.out.trans (hB.mono HB.out.size))
          have b1' : w1.cell? ⟨w.heap.size, 1, none⟩ = some (.slice A0_1 l0_1.length c0_1) := nd_cell hB b1
          clear b0 b1 b2 b3 hB
          go_wp2_with fail
          refine (RN.out _ B1.out).mono ?_
          rintro e w2 ⟨rfl, hB⟩
          have B2 := Aside0.mk (B1.out.trans (hB.mono B1.out.size))
          clear hB
          go_wp2_with fail
          go_ret
          exact ⟨by simp, B2.out⟩
        · go_enter Try.func39, Try.ntmps39
          go_wp2_with fail
          refine (CN.out _ HB.out).mono ?_
          rintro e w1 ⟨rfl, hB⟩
          have B1 := Aside0.mk (HB.out.trans (hB.mono HB.out.size))
          clear hB
          go_wp2_with fail
          go_ret
          exact ⟨by simp, B1.out⟩
      · have g0 : (wrap64 ((l0_2.length : Int) + (l0_3.length : Int)) == 0) = true := beq_iff_eq.2 (by unfold wrap64; omega)
        have g1 : decide ((l0_1.length : Int) ≤ 255) = false := decide_eq_false (by omega)
        have e2 : decide (l0_2.length + l0_3.length = 0) = true := decide_eq_true h0
        have e3 : decide (l0_1.length ≤ 255) = false := decide_eq_false h1
        rw [e2, e3]
        have BX := Aside0.mk (heap_alloc_new w (.cells #[.bool true, .slice A0_1 l0_1.length c0_1, .slice A0_2 l0_2.length c0_2, .slice A0_3 l0_3.length c0_3] 31))
        have HB := Aside0.mk (below_alloc (Below.refl w.heap.size w) (.cells #[.bool true, .slice A0_1 l0_1.length c0_1, .slice A0_2 l0_2.length c0_2, .slice A0_3 l0_3.length c0_3] 31))
        have b0 : (w.alloc (.cells #[.bool true, .slice A0_1 l0_1.length c0_1, .slice A0_2 l0_2.length c0_2, .slice A0_3 l0_3.length c0_3] 31)).cell? ⟨w.heap.size, 0, none⟩ = some (.bool true) := blk_cell BX.out 0
        have b1 : (w.alloc (.cells #[.bool true, .slice A0_1 l0_1.length c0_1, .slice A0_2 l0_2.length c0_2, .slice A0_3 l0_3.length c0_3] 31)).cell? ⟨w.heap.size, 1, none⟩ = some (.slice A0_1 l0_1.length c0_1) := blk_cell BX.out 1
        have b2 : (w.alloc (.cells #[.bool true, .slice A0_1 l0_1.length c0_1, .slice A0_2 l0_2.length c0_2, .slice A0_3 l0_3.length c0_3] 31)).cell? ⟨w.heap.size, 2, none⟩ = some (.slice A0_2 l0_2.length c0_2) := blk_cell BX.out 2
        have b3 : (w.alloc (.cells #[.bool true, .slice A0_1 l0_1.length c0_1, .slice A0_2 l0_2.length c0_2, .slice A0_3 l0_3.length c0_3] 31)).cell? ⟨w.heap.size, 3, none⟩ = some (.slice A0_3 l0_3.length c0_3) := blk_cell BX.out 3
        clear h0 h1
        go_enter Try.func39, Try.ntmps39
        go_wp2_with fail
        go_ret
        exact ⟨by simp, HB.out⟩
    · have g0 : (wrap64 ((l0_2.length : Int) + (l0_3.length : Int)) == 0) = false := beq_eq_false_iff_ne.2 (by
        have := L2; have := L3; unfold wrap64; omega)
      have e2 : decide (l0_2.length + l0_3.length = 0) = false := decide_eq_false h0
      rw [e2]
      have BX := Aside0.mk (heap_alloc_new w (.cells #[.bool true, .slice A0_1 l0_1.length c0_1, .slice A0_2 l0_2.length c0_2, .slice A0_3 l0_3.length c0_3] 31))
      have HB := Aside0.mk (below_alloc (Below.refl w.heap.size w) (.cells #[.bool true, .slice A0_1 l0_1.length c0_1, .slice A0_2 l0_2.length c0_2, .slice A0_3 l0_3.length c0_3] 31))
      have b0 : (w.alloc (.cells #[.bool true, .slice A0_1 l0_1.length c0_1, .slice A0_2 l0_2.length c0_2, .slice A0_3 l0_3.length c0_3] 31)).cell? ⟨w.heap.size, 0, none⟩ = some (.bool true) := blk_cell BX.out 0
      have b1 : (w.alloc (.cells #[.bool true, .slice A0_1 l0_1.length c0_1, .slice A0_2 l0_2.length c0_2, .slice A0_3 l0_3.length c0_3] 31)).cell? ⟨w.heap.size, 1, none⟩ = some (.slice A0_1 l0_1.length c0_1) := blk_cell BX.out 1
      have b2 : (w.alloc (.cells #[.bool true, .slice A0_1 l0_1.length c0_1, .slice A0_2 l0_2.length c0_2, .slice A0_3 l0_3.length c0_3] 31)).cell? ⟨w.heap.size, 2, none⟩ = some (.slice A0_2 l0_2.length c0_2) := blk_cell BX.out 2
      have b3 : (w.alloc (.cells #[.bool true, .slice A0_1 l0_1.length c0_1, .slice A0_2 l0_2.length c0_2, .slice A0_3 l0_3.length c0_3] 31)).cell? ⟨w.heap.size, 3, none⟩ = some (.slice A0_3 l0_3.length c0_3) := blk_cell BX.out 3
      clear h0
      go_enter Try.func39, Try.ntmps39
      go_wp2_with fail
      go_ret
      exact ⟨by simp, HB.out⟩
end
end Go.Proofs.Ytjjfeoigjhbbpaa.PA
namespace Go.Proofs.Ytjjfeoigjhbbpaa.PA
section

open Go.RowKit Go.Proofs.YtjjfeoigjhbbpaaW.PrintWords Go.Proofs.YtjjfeoigjhbbpaaW.PrintLast Go.Proofs.YtjjfeoigjhbbpaaW.PrintMore
attribute [local go_sem] pr_leq pr_geq pr_gtr max2_int min2_int max_two min_two max_three min_three max_four min_four
set_option linter.unusedVariables false
set_option linter.unusedSimpArgs false
def node_Node_inner.f (a0_0 : Bool) (l0_1 : List S48) (l0_2 : List ByteArray) (l0_3 : List Int) : Option (Bool) := some (innerV a0_0 l0_1 l0_2 l0_3)
set_option maxHeartbeats 4000000 in
set_option maxRecDepth 100000 in
theorem node_Node_inner.calls (a0_0 : Bool) (A0_1 : Option Addr) (c0_1 : Nat) (l0_1 : List S48) (A0_2 : Option Addr) (c0_2 : Nat) (l0_2 : List ByteArray) (A0_3 : Option Addr) (c0_3 : Nat) (l0_3 : List Int) (r : Bool) (w : World) (hr0_1 : Kd.C k48 w A0_1 l0_1.length l0_1) (hc0_1 : l0_1.length ≤ c0_1) (hr0_2 : Kd.C Kd.string w A0_2 l0_2.length l0_2) (hc0_2 : l0_2.length ≤ c0_2) (hr0_3 : Kd.C (Kd.int .i64) w A0_3 l0_3.length l0_3) (hc0_3 : l0_3.length ≤ c0_3) (h : node_Node_inner.f a0_0 l0_1 l0_2 l0_3 = some r) :
    Calls Try.prog 40 #[.agg #[.bool a0_0, .slice A0_1 l0_1.length c0_1, .slice A0_2 l0_2.length c0_2, .slice A0_3 l0_3.length c0_3]] w fun e w' => e = .returned (.bool r) ∧ Below w.heap.size w w' := by
  obtain rfl := Option.some.inj h
  have L1 : l0_1.length ≤ 9223372036854775807 := hr0_1.2.1
  have L2 : l0_2.length ≤ 9223372036854775807 := hr0_2.2.1
  have L3 : l0_3.length ≤ 9223372036854775807 := hr0_3.2.1
  have R2 := Aside0.mk hr0_2
  have R3 := Aside0.mk hr0_3
  clear h hr0_1 hc0_1 hr0_2 hc0_2 hr0_3 hc0_3
  unfold innerV
  cases a0_0
  · rw [Bool.not_false]
    by_cases h0 : l0_1.length = 0
    · have g0 : ((l0_1.length : Int) == 0) = true := beq_iff_eq.2 (by omega)
      have e0 : decide (l0_1.length = 0) = true := decide_eq_true h0
      rw [e0]
      clear e0
      by_cases h1 : 1 ≤ l0_3.length
      · have g1 : decide (1 ≤ (l0_3.length : Int)) = true := decide_eq_true (by omega)
        have e1 : decide (1 ≤ l0_3.length) = true := decide_eq_true h1
        rw [e1]
        clear e1
        by_cases h2 : l0_3.length ≤ 255
        · have g2 : decide ((l0_3.length : Int) ≤ 255) = true := decide_eq_true (by omega)
          have e2 : decide (l0_3.length ≤ 255) = true := decide_eq_true h2
          rw [e2]
          clear e2
          by_cases h3 : l0_2.length + 1 = l0_3.length
          · have g3 : ((l0_2.length : Int) == (l0_3.length : Int) - 1) = true := beq_iff_eq.2 (by omega)
            have e3 : decide (l0_2.length + 1 = l0_3.length) = true := decide_eq_true h3
            rw [e3]
            clear e3
            have CK := Aside0.mk (fun W hw => innS_contains A0_2 c0_2 l0_2 W (Kd.C_below R2.out hw) (by omega))
            have CD := Aside0.mk (fun W hw => innI_contains A0_3 c0_3 l0_3 W (Kd.C_below R3.out hw) (by omega))
            have RN := Aside0.mk (fun W hw => risingS A0_2 c0_2 l0_2 W (Kd.C_below R2.out hw) (by omega))
            have BX := Aside0.mk (heap_alloc_new w (.cells #[.bool false, .slice A0_1 l0_1.length c0_1, .slice A0_2 l0_2.length c0_2, .slice A0_3 l0_3.length c0_3] 31))
            have HB := Aside0.mk (below_alloc (Below.refl w.heap.size w) (.cells #[.bool false, .slice A0_1 l0_1.length c0_1, .slice A0_2 l0_2.length c0_2, .slice A0_3 l0_3.length c0_3] 31))
            have b0 : (w.alloc (.cells #[.bool false, .slice A0_1 l0_1.length c0_1, .slice A0_2 l0_2.length c0_2, .slice A0_3 l0_3.length c0_3] 31)).cell? ⟨w.heap.size, 0, none⟩ = some (.bool false) := blk_cell BX.out 0
            have b1 : (w.alloc (.cells #[.bool false, .slice A0_1 l0_1.length c0_1, .slice A0_2 l0_2.length c0_2, .slice A0_3 l0_3.length c0_3] 31)).cell? ⟨w.heap.size, 1, none⟩ = some (.slice A0_1 l0_1.length c0_1) := blk_cell BX.out 1
            have b2 : (w.alloc (.cells #[.bool false, .slice A0_1 l0_1.length c0_1, .slice A0_2 l0_2.length c0_2, .slice A0_3 l0_3.length c0_3] 31)).cell? ⟨w.heap.size, 2, none⟩ = some (.slice A0_2 l0_2.length c0_2) := blk_cell BX.out 2
            have b3 : (w.alloc (.cells #[.bool false, .slice A0_1 l0_1.length c0_1, .slice A0_2 l0_2.length c0_2, .slice A0_3 l0_3.length c0_3] 31)).cell? ⟨w.heap.size, 3, none⟩ = some (.slice A0_3 l0_3.length c0_3) := blk_cell BX.out 3
            clear h0 h1 h2 h3
            obtain ⟨b, hb⟩ : ∃ b, b = l0_2.any badS := ⟨_, rfl⟩
            rw [← hb] at CK ⊢
            clear hb
            obtain ⟨d, hd⟩ : ∃ d, d = l0_3.any badI := ⟨_, rfl⟩
            rw [← hd] at CD ⊢
            clear hd
            cases b
            · go_enter Try.func40, Try.ntmps40
              go_wp2_with fail
              refine (CK.out _ HB.out).mono ?_
              rintro e w1 ⟨rfl, hB⟩
              have B1 := Aside0.mk (HB.out.trans (hB.mono HB.out.size))
              have b2' : w1.cell? ⟨w.heap.size, 2, none⟩ = some (.slice A0_2 l0_2.length c0_2) := nd_cell hB b2
              have b3' : w1.cell? ⟨w.heap.size, 3, none⟩ = some (.slice A0_3 l0_3.length c0_3) := nd_cell hB b3
              clear b0 b1 b2 b3 hB
              cases d
              · go_wp2_with fail
                refine (CD.out _ B1.out).mono ?_
                rintro e w2 ⟨rfl, hB⟩
                have B2 := Aside0.mk (B1.out.trans (hB.mono B1.out.size))
                have b2'' : w2.cell? ⟨w.heap.size, 2, none⟩ = some (.slice A0_2 l0_2.length c0_2) := nd_cell hB b2'
                clear b2' b3' hB
                go_wp2_with fail
                refine (RN.out _ B2.out).mono ?_
                rintro e w3 ⟨rfl, hB⟩
                have B3 := Aside0.mk (B2.out.trans (hB.mono B2.out.size))
                clear hB
                go_wp2_with fail
                go_ret
                exact ⟨by simp, B3.out⟩
              · go_wp2_with fail
                refine (CD.out _ B1.out).mono ?_
                rintro e w2 ⟨rfl, hB⟩
                have B2 := Aside0.mk (B1.out.trans (hB.mono B1.out.size))
                clear b2' b3' hB
                go_wp2_with fail
                go_ret
                exact ⟨by simp, B2.out⟩
            · go_enter Try.func40, Try.ntmps40
              go_wp2_with fail
              refine (CK.out _ HB.out).mono ?_
              rintro e w1 ⟨rfl, hB⟩
              have B1 := Aside0.mk (HB.out.trans (hB.mono HB.out.size))
              clear b0 b1 b2 b3 hB
              go_wp2_with fail
              go_ret
              exact ⟨by simp, B1.out⟩
          · have g3 : ((l0_2.length : Int) == (l0_3.length : Int) - 1) = false := beq_eq_false_iff_ne.2 (by omega)
            have e3 : decide (l0_2.length + 1 = l0_3.length) = false := decide_eq_false h3
            rw [e3]
            have BX := Aside0.mk (heap_alloc_new w (.cells #[.bool false, .slice A0_1 l0_1.length c0_1, .slice A0_2 l0_2.length c0_2, .slice A0_3 l0_3.length c0_3] 31))
            have HB := Aside0.mk (below_alloc (Below.refl w.heap.size w) (.cells #[.bool false, .slice A0_1 l0_1.length c0_1, .slice A0_2 l0_2.length c0_2, .slice A0_3 l0_3.length c0_3] 31))
            have b0 : (w.alloc (.cells #[.bool false, .slice A0_1 l0_1.length c0_1, .slice A0_2 l0_2.length c0_2, .slice A0_3 l0_3.length c0_3] 31)).cell? ⟨w.heap.size, 0, none⟩ = some (.bool false) := blk_cell BX.out 0
            have b1 : (w.alloc (.cells #[.bool false, .slice A0_1 l0_1.length c0_1, .slice A0_2 l0_2.length c0_2, .slice A0_3 l0_3.length c0_3] 31)).cell? ⟨w.heap.size, 1, none⟩ = some (.slice A0_1 l0_1.length c0_1) := blk_cell BX.out 1
            have b2 : (w.alloc (.cells #[.bool false, .slice A0_1 l0_1.length c0_1, .slice A0_2 l0_2.length c0_2, .slice A0_3 l0_3.length c0_3] 31)).cell? ⟨w.heap.size, 2, none⟩ = some (.slice A0_2 l0_2.length c0_2) := blk_cell BX.out 2
            have b3 : (w.alloc (.cells #[.bool false, .slice A0_1 l0_1.length c0_1, .slice A0_2 l0_2.length c0_2, .slice A0_3 l0_3.length c0_3] 31)).cell? ⟨w.heap.size, 3, none⟩ = some (.slice A0_3 l0_3.length c0_3) := blk_cell BX.out 3
            clear h0 h1 h2 h3 e3
            go_enter Try.func40, Try.ntmps40
            go_wp2_with fail
            go_ret
            exact ⟨by simp, HB.out⟩
        · have g2 : decide ((l0_3.length : Int) ≤ 255) = false := decide_eq_false (by omega)
          have e2 : decide (l0_3.length ≤ 255) = false := decide_eq_false h2
          rw [e2]
          have BX := Aside0.mk (heap_alloc_new w (.cells #[.bool false, .slice A0_1 l0_1.length c0_1, .slice A0_2 l0_2.length c0_2, .slice A0_3 l0_3.length c0_3] 31))
          have HB := Aside0.mk (below_alloc (Below.refl w.heap.size w) (.cells #[.bool false, .slice A0_1 l0_1.length c0_1, .slice A0_2 l0_2.length c0_2, .slice A0_3 l0_3.length c0_3] 31))
          have b0 : (w.alloc (.cells #[.bool false, .slice A0_1 l0_1.length c0_1, .slice A0_2 l0_2.length c0_2, .slice A0_3 l0_3.length c0_3] 31)).cell? ⟨w.heap.size, 0, none⟩ = some (.bool false) := blk_cell BX.out 0
          have b1 : (w.alloc (.cells #[.bool false, .slice A0_1 l0_1.length c0_1, .slice A0_2 l0_2.length c0_2, .slice A0_3 l0_3.length c0_3] 31)).cell? ⟨w.heap.size, 1, none⟩ = some (.slice A0_1 l0_1.length c0_1) := blk_cell BX.out 1
          have b2 : (w.alloc (.cells #[.bool false, .slice A0_1 l0_1.length c0_1, .slice A0_2 l0_2.length c0_2, .slice A0_3 l0_3.length c0_3] 31)).cell? ⟨w.heap.size, 2, none⟩ = some (.slice A0_2 l0_2.length c0_2) := blk_cell BX.out 2
          have b3 : (w.alloc (.cells #[.bool false, .slice A0_1 l0_1.length c0_1, .slice A0_2 l0_2.length c0_2, .slice A0_3 l0_3.length c0_3] 31)).cell? ⟨w.heap.size, 3, none⟩ = some (.slice A0_3 l0_3.length c0_3) := blk_cell BX.out 3
          clear h0 h1 h2 e2
          go_enter Try.func40, Try.ntmps40
          go_wp2_with fail
          go_ret
          exact ⟨by simp, HB.out⟩
      · have g1 : decide (1 ≤ (l0_3.length : Int)) = false := decide_eq_false (by omega)
        have e1 : decide (1 ≤ l0_3.length) = false := decide_eq_false h1
        rw [e1]
        have BX := Aside0.mk (heap_alloc_new w (.cells #[.bool false, .slice A0_1 l0_1.length c0_1, .slice A0_2 l0_2.length c0_2, .slice A0_3 l0_3.length c0_3] 31))
        have HB := Aside0.mk (below_alloc (Below.refl w.heap.size w) (.cells #[.bool false, .slice A0_1 l0_1.length c0_1, .slice A0_2 l0_2.length c0_2, .slice A0_3 l0_3.length c0_3] 31))
        have b0 : (w.alloc (.cells #[.bool false, .slice A0_1 l0_1.length c0_1, .slice A0_2 l0_2.length c0_2, .slice A0_3 l0_3.length c0_3] 31)).cell? ⟨w.heap.size, 0, none⟩ = some (.bool false) := blk_cell BX.out 0
        have b1 : (w.alloc (.cells #[.bool false, .slice A0_1 l0_1.length c0_1, .slice A0_2 l0_2.length c0_2, .slice A0_3 l0_3.length c0_3] 31)).cell? ⟨w.heap.size, 1, none⟩ = some (.slice A0_1 l0_1.length c0_1) := blk_cell BX.out 1
        have b2 : (w.alloc (.cells #[.bool false, .slice A0_1 l0_1.length c0_1, .slice A0_2 l0_2.length c0_2, .slice A0_3 l0_3.length c0_3] 31)).cell? ⟨w.heap.size, 2, none⟩ = some (.slice A0_2 l0_2.length c0_2) := blk_cell BX.out 2
        have b3 : (w.alloc (.cells #[.bool false, .slice A0_1 l0_1.length c0_1, .slice A0_2 l0_2.length c0_2, .slice A0_3 l0_3.length c0_3] 31)).cell? ⟨w.heap.size, 3, none⟩ = some (.slice A0_3 l0_3.length c0_3) := blk_cell BX.out 3
        clear h0 h1 e1
        go_enter Try.func40, Try.ntmps40
        go_wp2_with fail
        go_ret
        exact ⟨by simp, HB.out⟩
    · have g0 : ((l0_1.length : Int) == 0) = false := beq_eq_false_iff_ne.2 (by omega)
      have e0 : decide (l0_1.length = 0) = false := decide_eq_false h0
      rw [e0]
      have BX := Aside0.mk (heap_alloc_new w (.cells #[.bool false, .slice A0_1 l0_1.length c0_1, .slice A0_2 l0_2.length c0_2, .slice A0_3 l0_3.length c0_3] 31))
      have HB := Aside0.mk (below_alloc (Below.refl w.heap.size w) (.cells #[.bool false, .slice A0_1 l0_1.length c0_1, .slice A0_2 l0_2.length c0_2, .slice A0_3 l0_3.length c0_3] 31))
      have b0 : (w.alloc (.cells #[.bool false, .slice A0_1 l0_1.length c0_1, .slice A0_2 l0_2.length c0_2, .slice A0_3 l0_3.length c0_3] 31)).cell? ⟨w.heap.size, 0, none⟩ = some (.bool false) := blk_cell BX.out 0
      have b1 : (w.alloc (.cells #[.bool false, .slice A0_1 l0_1.length c0_1, .slice A0_2 l0_2.length c0_2, .slice A0_3 l0_3.length c0_3] 31)).cell? ⟨w.heap.size, 1, none⟩ = some (.slice A0_1 l0_1.length c0_1) := blk_cell BX.out 1
      have b2 : (w.alloc (.cells #[.bool false, .slice A0_1 l0_1.length c0_1, .slice A0_2 l0_2.length c0_2, .slice A0_3 l0_3.length c0_3] 31)).cell? ⟨w.heap.size, 2, none⟩ = some (.slice A0_2 l0_2.length c0_2) := blk_cell BX.out 2
      have b3 : (w.alloc (.cells #[.bool false, .slice A0_1 l0_1.length c0_1, .slice A0_2 l0_2.length c0_2, .slice A0_3 l0_3.length c0_3] 31)).cell? ⟨w.heap.size, 3, none⟩ = some (.slice A0_3 l0_3.length c0_3) := blk_cell BX.out 3
      clear h0 e0
      go_enter Try.func40, Try.ntmps40
      go_wp2_with fail
      go_ret
      exact ⟨by simp, HB.out⟩
  · rw [Bool.not_true]
    have BX := Aside0.mk (heap_alloc_new w (.cells #[.bool true, .slice A0_1 l0_1.length c0_1, .slice A0_2 l0_2.length c0_2, .slice A0_3 l0_3.length c0_3] 31))
    have HB := Aside0.mk (below_alloc (Below.refl w.heap.size w) (.cells #[.bool true, .slice A0_1 l0_1.length c0_1, .slice A0_2 l0_2.length c0_2, .slice A0_3 l0_3.length c0_3] 31))
    have b0 : (w.alloc (.cells #[.bool true, .slice A0_1 l0_1.length c0_1, .slice A0_2 l0_2.length c0_2, .slice A0_3 l0_3.length c0_3] 31)).cell? ⟨w.heap.size, 0, none⟩ = some (.bool true) := blk_cell BX.out 0
    have b1 : (w.alloc (.cells #[.bool true, .slice A0_1 l0_1.length c0_1, .slice A0_2 l0_2.length c0_2, .slice A0_3 l0_3.length c0_3] 31)).cell? ⟨w.heap.size, 1, none⟩ = some (.slice A0_1 l0_1.length c0_1) := blk_cell BX.out 1
    have b2 : (w.alloc (.cells #[.bool true, .slice A0_1 l0_1.length c0_1, .slice A0_2 l0_2.length c0_2, .slice A0_3 l0_3.length c0_3] 31)).cell? ⟨w.heap.size, 2, none⟩ = some (.slice A0_2 l0_2.length c0_2) := blk_cell BX.out 2
    have b3 : (w.alloc (.cells #[.bool true, .slice A0_1 l0_1.length c0_1, .slice A0_2 l0_2.length c0_2, .slice A0_3 l0_3.length c0_3] 31)).cell? ⟨w.heap.size, 3, none⟩ = some (.slice A0_3 l0_3.length c0_3) := blk_cell BX.out 3
    go_enter Try.func40, Try.ntmps40
    go_wp2_with fail
    go_ret
    exact ⟨by simp, HB.out⟩
def node_Check.f (a0_0 : Bool) (l0_1 : List (S48)) (l0_2 : List ByteArray) (l0_3 : List Int) : Option (Int) := (node_Node_leaf.f a0_0 l0_1 l0_2 l0_3).bind fun t103 => (if t103 = true then (some 0) else ((node_Node_inner.f a0_0 l0_1 l0_2 l0_3).bind fun t104 => (if t104 = true then (some 0) else (some 2))))
set_option maxHeartbeats 8000000 in
set_option maxRecDepth 100000 in
theorem node_Check.calls (a0_0 : Bool) (A0_1 : Option Addr) (c0_1 : Nat) (l0_1 : List (S48)) (A0_2 : Option Addr) (c0_2 : Nat) (l0_2 : List ByteArray) (A0_3 : Option Addr) (c0_3 : Nat) (l0_3 : List Int) (r : Int) (w : World) (hr0_1 : Kd.C k48 w A0_1 l0_1.length l0_1) (hc0_1 : l0_1.length ≤ c0_1) (hr0_2 : Kd.C Kd.string w A0_2 l0_2.length l0_2) (hc0_2 : l0_2.length ≤ c0_2) (hr0_3 : Kd.C (Kd.int .i64) w A0_3 l0_3.length l0_3) (hc0_3 : l0_3.length ≤ c0_3) (h : node_Check.f a0_0 l0_1 l0_2 l0_3 = some r) :
    Calls Try.prog 15 #[.agg #[.bool a0_0, .slice A0_1 l0_1.length c0_1, .slice A0_2 l0_2.length c0_2, .slice A0_3 l0_3.length c0_3]] w fun e w' => e = .returned (.int .i64 r) ∧ Below w.heap.size w w' := by
  have hu31 := Try.underlying31
  have HR0_1 := Aside0.mk hr0_1
  have HC0_1 := Aside0.mk hc0_1
  clear hr0_1 hc0_1
  have HR0_2 := Aside0.mk hr0_2
  have HC0_2 := Aside0.mk hc0_2
  clear hr0_2 hc0_2
  have HR0_3 := Aside0.mk hr0_3
  have HC0_3 := Aside0.mk hc0_3
  clear hr0_3 hc0_3
  have HB := Aside0.mk (Below.refl w.heap.size w)
  have H : ((node_Node_leaf.f a0_0 l0_1 l0_2 l0_3).bind fun t103 => (if t103 = true then (some 0) else ((node_Node_inner.f a0_0 l0_1 l0_2 l0_3).bind fun t104 => (if t104 = true then (some 0) else (some 2))))) = some r := h
  clear h
  replace H := Option.bind_eq_some_iff.mp H
  obtain ⟨t103, A20, H⟩ := H
  replace H : (if t103 = true then (some 0) else ((node_Node_inner.f a0_0 l0_1 l0_2 l0_3).bind fun t104 => (if t104 = true then (some 0) else (some 2)))) = some r := H
  have A2 := Aside0.mk A20
  clear A20
  by_cases c3 : t103 = true
  · subst c3
    have H1 : (some 0) = some r := by rw [if_pos rfl] at H; exact H
    clear H
    have H := H1
    clear H1
    obtain rfl := Option.some.inj H
    go_enter Try.func15, Try.ntmps15
    go_wp2_with (first | ((with_reducible refine gate_dst (N := 1) rfl ?_); refine box_event ?hg (N := 1) ?hd (cs := #[.bool a0_0, .slice A0_1 l0_1.length c0_1, .slice A0_2 l0_2.length c0_2, .slice A0_3 l0_3.length c0_3]) (t := 31) ?hr ?_; (case hd => rfl); (case hg => rfl); (case hr => first | (go_simp; done) | (go_simp; rfl)); intro gb102 hg w4 hbox hb; have n0_ := Aside0.mk (below_step (by repeat (first | (with_reducible first | exact HB.out | apply below_alloc | apply pw_below_drewN | apply below_drew1) | exact HB.out)) hb); have n1_ := Aside0.mk (hbox); have n2_ := Aside0.mk ((by rw [hg]; exact (below_size (by repeat (first | (with_reducible first | exact HB.out | apply below_alloc | apply pw_below_drewN | apply below_drew1) | exact HB.out))) : w.heap.size ≤ gb102)); have n3_ := Aside0.mk ((by rw [hg]; exact (below_size (by repeat (first | (with_reducible first | exact HB.out | apply below_alloc | apply pw_below_drewN | apply below_drew1) | exact HB.out))) : w.heap.size ≤ gb102)); clear HB; have HB := n0_; have BK102 := n1_; have GW102 := n2_; have GE102 := n3_; clear n0_ n1_ n2_ n3_; clear hb hbox hg; have hcz5_0 : w4.cell? ⟨gb102, 0, none⟩ = some (.bool a0_0) := (blk_cell BK102.out 0).trans rfl; have hcz5_1 : w4.cell? ⟨gb102, 1, none⟩ = some (.slice A0_1 l0_1.length c0_1) := (blk_cell BK102.out 1).trans rfl; have hcz5_2 : w4.cell? ⟨gb102, 2, none⟩ = some (.slice A0_2 l0_2.length c0_2) := (blk_cell BK102.out 2).trans rfl; have hcz5_3 : w4.cell? ⟨gb102, 3, none⟩ = some (.slice A0_3 l0_3.length c0_3) := (blk_cell BK102.out 3).trans rfl; have hfz5_0 := blk_frozen BK102.out 0; have hfz5_1 := blk_frozen BK102.out 1; have hfz5_2 := blk_frozen BK102.out 2; have hfz5_3 := blk_frozen BK102.out 3) | ((with_reducible refine gate_callee (f := 39) rfl ?_); refine goesL_ (some 4) rfl rfl Try.func39 (by kernel_rfl) rfl #[.agg #[.bool a0_0, .slice A0_1 l0_1.length c0_1, .slice A0_2 l0_2.length c0_2, .slice A0_3 l0_3.length c0_3]] rfl (by (try simp only [List.map_toArray, List.map_cons, List.map_nil]); first | done | rfl | (simp only [List.length_drop, List.length_take]; rfl)) ?_; (with_reducible refine (node_Node_leaf.calls a0_0 _ _ l0_1 _ _ l0_2 _ _ l0_3 true _ ?side1 ?side2 ?side3 ?side4 ?side5 ?side6 A2.out).mono ?_); (case side1 => repeat (first | exact (Kd.C_below HR0_1.out HB.out) | (with_reducible refine Kd.C_alloc ?_ _) | (with_reducible refine Kd.C_drewN ?_ _) | (with_reducible refine Kd.C_drew ?_))); (case side2 => exact HC0_1.out); (case side3 => repeat (first | exact (Kd.C_below HR0_2.out HB.out) | (with_reducible refine Kd.C_alloc ?_ _) | (with_reducible refine Kd.C_drewN ?_ _) | (with_reducible refine Kd.C_drew ?_))); (case side4 => exact HC0_2.out); (case side5 => repeat (first | exact (Kd.C_below HR0_3.out HB.out) | (with_reducible refine Kd.C_alloc ?_ _) | (with_reducible refine Kd.C_drewN ?_ _) | (with_reducible refine Kd.C_drew ?_))); (case side6 => exact HC0_3.out); rintro e w6 ⟨rfl, hb⟩; refine ⟨_, rfl, ?_⟩; have n0_ := Aside0.mk (blk_below (g := gb102) (o := .cells #[.bool a0_0, .slice A0_1 l0_1.length c0_1, .slice A0_2 l0_2.length c0_2, .slice A0_3 l0_3.length c0_3] 31 (0, 0)) (by (with_reducible repeat (first | refine blk_drewN ?_ _ | refine blk_drew ?_ | refine blk_alloc ?_ _)); exact BK102.out) hb); have n1_ := Aside0.mk (below_step (by repeat (first | (with_reducible first | exact HB.out | apply below_alloc | apply pw_below_drewN | apply below_drew1 | refine below_set ?_ GE102.out) | exact HB.out)) hb); clear BK102; clear HB; have BK102 := n0_; have HB := n1_; clear n0_ n1_; (try clear hb); (try clear hb2); (try clear hk); (try clear hi)))
    go_ret
    exact ⟨by first | rfl | (simp [errW_none, errW_some] <;> rfl) | (simp [*, errW_none, errW_some] <;> rfl), by repeat (first | (with_reducible first | exact HB.out | apply below_alloc | apply pw_below_drewN | apply below_drew1 | refine below_set ?_ GE102.out) | exact HB.out)⟩
  · replace c3 := Bool.eq_false_iff.mpr c3
    subst c3
    have H1 : ((node_Node_inner.f a0_0 l0_1 l0_2 l0_3).bind fun t104 => (if t104 = true then (some 0) else (some 2))) = some r := by rw [if_neg (show ¬ (false = true) by decide)] at H; exact H
    clear H
    have H := H1
    clear H1
    replace H := Option.bind_eq_some_iff.mp H
    obtain ⟨t104, A70, H⟩ := H
    replace H : (if t104 = true then (some 0) else (some 2)) = some r := H
    have A7 := Aside0.mk A70
    clear A70
    by_cases c8 : t104 = true
    · subst c8
      have H1 : (some 0) = some r := by rw [if_pos rfl] at H; exact H
      clear H
      have H := H1
      clear H1
      obtain rfl := Option.some.inj H
      go_enter Try.func15, Try.ntmps15
      go_wp2_with (first | ((with_reducible refine gate_dst (N := 1) rfl ?_); refine box_event ?hg (N := 1) ?hd (cs := #[.bool a0_0, .slice A0_1 l0_1.length c0_1, .slice A0_2 l0_2.length c0_2, .slice A0_3 l0_3.length c0_3]) (t := 31) ?hr ?_; (case hd => rfl); (case hg => rfl); (case hr => first | (go_simp; done) | (go_simp; rfl)); intro gb102 hg w9 hbox hb; have n0_ := Aside0.mk (below_step (by repeat (first | (with_reducible first | exact HB.out | apply below_alloc | apply pw_below_drewN | apply below_drew1) | exact HB.out)) hb); have n1_ := Aside0.mk (hbox); have n2_ := Aside0.mk ((by rw [hg]; exact (below_size (by repeat (first | (with_reducible first | exact HB.out | apply below_alloc | apply pw_below_drewN | apply below_drew1) | exact HB.out))) : w.heap.size ≤ gb102)); have n3_ := Aside0.mk ((by rw [hg]; exact (below_size (by repeat (first | (with_reducible first | exact HB.out | apply below_alloc | apply pw_below_drewN | apply below_drew1) | exact HB.out))) : w.heap.size ≤ gb102)); clear HB; have HB := n0_; have BK102 := n1_; have GW102 := n2_; have GE102 := n3_; clear n0_ n1_ n2_ n3_; clear hb hbox hg; have hcz10_0 : w9.cell? ⟨gb102, 0, none⟩ = some (.bool a0_0) := (blk_cell BK102.out 0).trans rfl; have hcz10_1 : w9.cell? ⟨gb102, 1, none⟩ = some (.slice A0_1 l0_1.length c0_1) := (blk_cell BK102.out 1).trans rfl; have hcz10_2 : w9.cell? ⟨gb102, 2, none⟩ = some (.slice A0_2 l0_2.length c0_2) := (blk_cell BK102.out 2).trans rfl; have hcz10_3 : w9.cell? ⟨gb102, 3, none⟩ = some (.slice A0_3 l0_3.length c0_3) := (blk_cell BK102.out 3).trans rfl; have hfz10_0 := blk_frozen BK102.out 0; have hfz10_1 := blk_frozen BK102.out 1; have hfz10_2 := blk_frozen BK102.out 2; have hfz10_3 := blk_frozen BK102.out 3) | ((with_reducible refine gate_callee (f := 39) rfl ?_); refine goesL_ (some 4) rfl rfl Try.func39 (by kernel_rfl) rfl #[.agg #[.bool a0_0, .slice A0_1 l0_1.length c0_1, .slice A0_2 l0_2.length c0_2, .slice A0_3 l0_3.length c0_3]] rfl (by (try simp only [List.map_toArray, List.map_cons, List.map_nil]); first | done | rfl | (simp only [List.length_drop, List.length_take]; rfl)) ?_; (with_reducible refine (node_Node_leaf.calls a0_0 _ _ l0_1 _ _ l0_2 _ _ l0_3 false _ ?side1 ?side2 ?side3 ?side4 ?side5 ?side6 A2.out).mono ?_); (case side1 => repeat (first | exact (Kd.C_below HR0_1.out HB.out) | (with_reducible refine Kd.C_alloc ?_ _) | (with_reducible refine Kd.C_drewN ?_ _) | (with_reducible refine Kd.C_drew ?_))); (case side2 => exact HC0_1.out); (case side3 => repeat (first | exact (Kd.C_below HR0_2.out HB.out) | (with_reducible refine Kd.C_alloc ?_ _) | (with_reducible refine Kd.C_drewN ?_ _) | (with_reducible refine Kd.C_drew ?_))); (case side4 => exact HC0_2.out); (case side5 => repeat (first | exact (Kd.C_below HR0_3.out HB.out) | (with_reducible refine Kd.C_alloc ?_ _) | (with_reducible refine Kd.C_drewN ?_ _) | (with_reducible refine Kd.C_drew ?_))); (case side6 => exact HC0_3.out); rintro e w11 ⟨rfl, hb⟩; refine ⟨_, rfl, ?_⟩; have n0_ := Aside0.mk (blk_below (g := gb102) (o := .cells #[.bool a0_0, .slice A0_1 l0_1.length c0_1, .slice A0_2 l0_2.length c0_2, .slice A0_3 l0_3.length c0_3] 31 (0, 0)) (by (with_reducible repeat (first | refine blk_drewN ?_ _ | refine blk_drew ?_ | refine blk_alloc ?_ _)); exact BK102.out) hb); have n1_ := Aside0.mk (below_step (by repeat (first | (with_reducible first | exact HB.out | apply below_alloc | apply pw_below_drewN | apply below_drew1 | refine below_set ?_ GE102.out) | exact HB.out)) hb); clear BK102; clear HB; have BK102 := n0_; have HB := n1_; clear n0_ n1_; (try clear hb); (try clear hb2); (try clear hk); (try clear hi); have hcz12_0 : w11.cell? ⟨gb102, 0, none⟩ = some (.bool a0_0) := (blk_cell BK102.out 0).trans rfl; have hcz12_1 : w11.cell? ⟨gb102, 1, none⟩ = some (.slice A0_1 l0_1.length c0_1) := (blk_cell BK102.out 1).trans rfl; have hcz12_2 : w11.cell? ⟨gb102, 2, none⟩ = some (.slice A0_2 l0_2.length c0_2) := (blk_cell BK102.out 2).trans rfl; have hcz12_3 : w11.cell? ⟨gb102, 3, none⟩ = some (.slice A0_3 l0_3.length c0_3) := (blk_cell BK102.out 3).trans rfl; have hfz12_0 := blk_frozen BK102.out 0; have hfz12_1 := blk_frozen BK102.out 1; have hfz12_2 := blk_frozen BK102.out 2; have hfz12_3 := blk_frozen BK102.out 3) | (go_at_call 40; (with_reducible refine (node_Node_inner.calls a0_0 _ _ l0_1 _ _ l0_2 _ _ l0_3 true _ ?side1 ?side2 ?side3 ?side4 ?side5 ?side6 A7.out).mono ?_); (case side1 => repeat (first | exact (Kd.C_below HR0_1.out HB.out) | (with_reducible refine Kd.C_alloc ?_ _) | (with_reducible refine Kd.C_drewN ?_ _) | (with_reducible refine Kd.C_drew ?_))); (case side2 => exact HC0_1.out); (case side3 => repeat (first | exact (Kd.C_below HR0_2.out HB.out) | (with_reducible refine Kd.C_alloc ?_ _) | (with_reducible refine Kd.C_drewN ?_ _) | (with_reducible refine Kd.C_drew ?_))); (case side4 => exact HC0_2.out); (case side5 => repeat (first | exact (Kd.C_below HR0_3.out HB.out) | (with_reducible refine Kd.C_alloc ?_ _) | (with_reducible refine Kd.C_drewN ?_ _) | (with_reducible refine Kd.C_drew ?_))); (case side6 => exact HC0_3.out); rintro e w13 ⟨rfl, hb⟩; have n0_ := Aside0.mk (blk_below (g := gb102) (o := .cells #[.bool a0_0, .slice A0_1 l0_1.length c0_1, .slice A0_2 l0_2.length c0_2, .slice A0_3 l0_3.length c0_3] 31 (0, 0)) (by (with_reducible repeat (first | refine blk_drewN ?_ _ | refine blk_drew ?_ | refine blk_alloc ?_ _)); exact BK102.out) hb); have n1_ := Aside0.mk (below_step (by repeat (first | (with_reducible first | exact HB.out | apply below_alloc | apply pw_below_drewN | apply below_drew1 | refine below_set ?_ GE102.out) | exact HB.out)) hb); clear BK102; clear HB; have BK102 := n0_; have HB := n1_; clear n0_ n1_; (try clear hb); (try clear hb2); (try clear hk); (try clear hi)))
      go_ret
      exact ⟨by first | rfl | (simp [errW_none, errW_some] <;> rfl) | (simp [*, errW_none, errW_some] <;> rfl), by repeat (first | (with_reducible first | exact HB.out | apply below_alloc | apply pw_below_drewN | apply below_drew1 | refine below_set ?_ GE102.out) | exact HB.out)⟩
    · replace c8 := Bool.eq_false_iff.mpr c8
      subst c8
      have H1 : (some 2) = some r := by rw [if_neg (show ¬ (false = true) by decide)] at H; exact H
      clear H
      have H := H1
      clear H1
      obtain rfl := Option.some.inj H
      go_enter Try.func15, Try.ntmps15
      go_wp2_with (first | ((with_reducible refine gate_dst (N := 1) rfl ?_); refine box_event ?hg (N := 1) ?hd (cs := #[.bool a0_0, .slice A0_1 l0_1.length c0_1, .slice A0_2 l0_2.length c0_2, .slice A0_3 l0_3.length c0_3]) (t := 31) ?hr ?_; (case hd => rfl); (case hg => rfl); (case hr => first | (go_simp; done) | (go_simp; rfl)); intro gb102 hg w14 hbox hb; have n0_ := Aside0.mk (below_step (by repeat (first | (with_reducible first | exact HB.out | apply below_alloc | apply pw_below_drewN | apply below_drew1) | exact HB.out)) hb); have n1_ := Aside0.mk (hbox); have n2_ := Aside0.mk ((by rw [hg]; exact (below_size (by repeat (first | (with_reducible first | exact HB.out | apply below_alloc | apply pw_below_drewN | apply below_drew1) | exact HB.out))) : w.heap.size ≤ gb102)); have n3_ := Aside0.mk ((by rw [hg]; exact (below_size (by repeat (first | (with_reducible first | exact HB.out | apply below_alloc | apply pw_below_drewN | apply below_drew1) | exact HB.out))) : w.heap.size ≤ gb102)); clear HB; have HB := n0_; have BK102 := n1_; have GW102 := n2_; have GE102 := n3_; clear n0_ n1_ n2_ n3_; clear hb hbox hg; have hcz15_0 : w14.cell? ⟨gb102, 0, none⟩ = some (.bool a0_0) := (blk_cell BK102.out 0).trans rfl; have hcz15_1 : w14.cell? ⟨gb102, 1, none⟩ = some (.slice A0_1 l0_1.length c0_1) := (blk_cell BK102.out 1).trans rfl; have hcz15_2 : w14.cell? ⟨gb102, 2, none⟩ = some (.slice A0_2 l0_2.length c0_2) := (blk_cell BK102.out 2).trans rfl; have hcz15_3 : w14.cell? ⟨gb102, 3, none⟩ = some (.slice A0_3 l0_3.length c0_3) := (blk_cell BK102.out 3).trans rfl; have hfz15_0 := blk_frozen BK102.out 0; have hfz15_1 := blk_frozen BK102.out 1; have hfz15_2 := blk_frozen BK102.out 2; have hfz15_3 := blk_frozen BK102.out 3) | ((with_reducible refine gate_callee (f := 39) rfl ?_); refine goesL_ (some 4) rfl rfl Try.func39 (by kernel_rfl) rfl #[.agg #[.bool a0_0, .slice A0_1 l0_1.length c0_1, .slice A0_2 l0_2.length c0_2, .slice A0_3 l0_3.length c0_3]] rfl (by (try simp only [List.map_toArray, List.map_cons, List.map_nil]); first | done | rfl | (simp only [List.length_drop, List.length_take]; rfl)) ?_; (with_reducible refine (node_Node_leaf.calls a0_0 _ _ l0_1 _ _ l0_2 _ _ l0_3 false _ ?side1 ?side2 ?side3 ?side4 ?side5 ?side6 A2.out).mono ?_); (case side1 => repeat (first | exact (Kd.C_below HR0_1.out HB.out) | (with_reducible refine Kd.C_alloc ?_ _) | (with_reducible refine Kd.C_drewN ?_ _) | (with_reducible refine Kd.C_drew ?_))); (case side2 => exact HC0_1.out); (case side3 => repeat (first | exact (Kd.C_below HR0_2.out HB.out) | (with_reducible refine Kd.C_alloc ?_ _) | (with_reducible refine Kd.C_drewN ?_ _) | (with_reducible refine Kd.C_drew ?_))); (case side4 => exact HC0_2.out); (case side5 => repeat (first | exact (Kd.C_below HR0_3.out HB.out) | (with_reducible refine Kd.C_alloc ?_ _) | (with_reducible refine Kd.C_drewN ?_ _) | (with_reducible refine Kd.C_drew ?_))); (case side6 => exact HC0_3.out); rintro e w16 ⟨rfl, hb⟩; refine ⟨_, rfl, ?_⟩; have n0_ := Aside0.mk (blk_below (g := gb102) (o := .cells #[.bool a0_0, .slice A0_1 l0_1.length c0_1, .slice A0_2 l0_2.length c0_2, .slice A0_3 l0_3.length c0_3] 31 (0, 0)) (by (with_reducible repeat (first | refine blk_drewN ?_ _ | refine blk_drew ?_ | refine blk_alloc ?_ _)); exact BK102.out) hb); have n1_ := Aside0.mk (below_step (by repeat (first | (with_reducible first | exact HB.out | apply below_alloc | apply pw_below_drewN | apply below_drew1 | refine below_set ?_ GE102.out) | exact HB.out)) hb); clear BK102; clear HB; have BK102 := n0_; have HB := n1_; clear n0_ n1_; (try clear hb); (try clear hb2); (try clear hk); (try clear hi); have hcz17_0 : w16.cell? ⟨gb102, 0, none⟩ = some (.bool a0_0) := (blk_cell BK102.out 0).trans rfl; have hcz17_1 : w16.cell? ⟨gb102, 1, none⟩ = some (.slice A0_1 l0_1.length c0_1) := (blk_cell BK102.out 1).trans rfl; have hcz17_2 : w16.cell? ⟨gb102, 2, none⟩ = some (.slice A0_2 l0_2.length c0_2) := (blk_cell BK102.out 2).trans rfl; have hcz17_3 : w16.cell? ⟨gb102, 3, none⟩ = some (.slice A0_3 l0_3.length c0_3) := (blk_cell BK102.out 3).trans rfl; have hfz17_0 := blk_frozen BK102.out 0; have hfz17_1 := blk_frozen BK102.out 1; have hfz17_2 := blk_frozen BK102.out 2; have hfz17_3 := blk_frozen BK102.out 3) | (go_at_call 40; (with_reducible refine (node_Node_inner.calls a0_0 _ _ l0_1 _ _ l0_2 _ _ l0_3 false _ ?side1 ?side2 ?side3 ?side4 ?side5 ?side6 A7.out).mono ?_); (case side1 => repeat (first | exact (Kd.C_below HR0_1.out HB.out) | (with_reducible refine Kd.C_alloc ?_ _) | (with_reducible refine Kd.C_drewN ?_ _) | (with_reducible refine Kd.C_drew ?_))); (case side2 => exact HC0_1.out); (case side3 => repeat (first | exact (Kd.C_below HR0_2.out HB.out) | (with_reducible refine Kd.C_alloc ?_ _) | (with_reducible refine Kd.C_drewN ?_ _) | (with_reducible refine Kd.C_drew ?_))); (case side4 => exact HC0_2.out); (case side5 => repeat (first | exact (Kd.C_below HR0_3.out HB.out) | (with_reducible refine Kd.C_alloc ?_ _) | (with_reducible refine Kd.C_drewN ?_ _) | (with_reducible refine Kd.C_drew ?_))); (case side6 => exact HC0_3.out); rintro e w18 ⟨rfl, hb⟩; have n0_ := Aside0.mk (blk_below (g := gb102) (o := .cells #[.bool a0_0, .slice A0_1 l0_1.length c0_1, .slice A0_2 l0_2.length c0_2, .slice A0_3 l0_3.length c0_3] 31 (0, 0)) (by (with_reducible repeat (first | refine blk_drewN ?_ _ | refine blk_drew ?_ | refine blk_alloc ?_ _)); exact BK102.out) hb); have n1_ := Aside0.mk (below_step (by repeat (first | (with_reducible first | exact HB.out | apply below_alloc | apply pw_below_drewN | apply below_drew1 | refine below_set ?_ GE102.out) | exact HB.out)) hb); clear BK102; clear HB; have BK102 := n0_; have HB := n1_; clear n0_ n1_; (try clear hb); (try clear hb2); (try clear hk); (try clear hi)))
      go_ret
      exact ⟨by first | rfl | (simp [errW_none, errW_some] <;> rfl) | (simp [*, errW_none, errW_some] <;> rfl), by repeat (first | (with_reducible first | exact HB.out | apply below_alloc | apply pw_below_drewN | apply below_drew1 | refine below_set ?_ GE102.out) | exact HB.out)⟩
end
end Go.Proofs.Ytjjfeoigjhbbpaa.PA
namespace Go.Proofs.Ytjjfeoigjhbbpaa.PA
section

open Go.RowKit Go.Proofs.YtjjfeoigjhbbpaaW.PrintWords Go.Proofs.YtjjfeoigjhbbpaaW.PrintLast Go.Proofs.YtjjfeoigjhbbpaaW.PrintMore
attribute [local go_sem] pr_leq pr_geq pr_gtr max2_int min2_int max_two min_two max_three min_three max_four min_four
set_option linter.unusedVariables false
set_option linter.unusedSimpArgs false
def node_weight.l0 : Nat → Int → List (S48) → Int → Int → Option (Int)
  | 0, _, _, _, _ => none
  | k + 1, x3, x6, x7, x8 => if x8 < x7 then (if 0 ≤ x8 then (if x8 < (x6.length : Int) then (node_weight.l0 k (wrap64 (x3 + (wrap64 ((wrap64 (2 + (((rd_T48 x6 x8).f0).size : Int))) + (((rd_T48 x6 x8).f1).size : Int))))) x6 x7 (wrap64 (x8 + 1))) else (none)) else (none)) else (some x3)
def node_weight.f (k : Nat) (l0 : List (S48)) : Option (Int) := node_weight.l0 k 0 l0 (l0.length : Int) 0
set_option maxHeartbeats 8000000 in
set_option maxRecDepth 100000 in
theorem node_weight.calls (k : Nat) (A0 : Option Addr) (c0 : Nat) (l0 : List (S48)) (r : Int) (w : World) (hr0 : Kd.C k48 w A0 l0.length l0) (hc0 : l0.length ≤ c0) (h : node_weight.f k l0 = some r) :
    Calls Try.prog 41 #[.slice A0 l0.length c0] w fun e w' => e = .returned (.int .i64 r) ∧ Below w.heap.size w w' := by
  have hu48 := Try.underlying48
  have HR0 := Aside0.mk hr0
  have HC0 := Aside0.mk hc0
  clear hr0 hc0
  have HB := Aside0.mk (Below.refl w.heap.size w)
  have H : (node_weight.l0 k 0 l0 (l0.length : Int) 0) = some r := h
  clear h
  have H' := Aside0.mk H
  clear H
  go_enter Try.func41, Try.ntmps41
  go_wp2
  go_loopg [3, 8] k (fun kq v3 v8 w' => ∃ (x3_1 : Int) (x8_1 : Int), v3 = .int .i64 x3_1 ∧ v8 = .int .i64 x8_1 ∧ Aside0 (node_weight.l0 kq x3_1 l0 (l0.length : Int) x8_1 = some r) ∧ Aside0 (kq ≤ k) ∧ Aside0 (Below w.heap.size w w'))
  case atStart => exact ⟨(0), (0), (by first | rfl | (simp; done) | (simp [*]; done)), (by first | rfl | (simp; done) | (simp [*]; done)), H', ⟨Nat.le_refl _⟩, ⟨by repeat (first | (with_reducible first | exact HB.out | apply below_alloc | apply pw_below_drewN | apply below_drew1) | exact HB.out)⟩⟩
  case round =>
    clear H'
    obtain ⟨x3_1, x8_1, rfl, rfl, HA, HK1, HB⟩ := hrel
    cases gk with
    | zero => exact absurd HA.out (by simp [node_weight.l0])
    | succ k1 =>
      have H := HA.out
      clear HA
      simp only [node_weight.l0] at H
      by_cases c2 : x8_1 < (l0.length : Int)
      · rw [if_pos c2] at H
        have c2b0 : decide (x8_1 < (l0.length : Int)) = true := decide_eq_true c2
        clear c2
        by_cases c3 : 0 ≤ x8_1
        · rw [if_pos c3] at H
          have c3b0 : decide (0 ≤ x8_1) = true := decide_eq_true c3
          clear c3
          by_cases c4 : x8_1 < (l0.length : Int)
          · rw [if_pos c4] at H
            have c4b0 : decide (x8_1 < (l0.length : Int)) = true := decide_eq_true c4
            clear c4
            have H' := Aside0.mk H
            clear H
            have p105 : 0 ≤ (x8_1 : Int) := of_decide_eq_true (by first | (with_reducible assumption) | assumption)
            have q105 : x8_1 < (l0.length : Int) := of_decide_eq_true (by first | (with_reducible assumption) | assumption)
            obtain ⟨ad105, e105, hx105_0, hx105_1⟩ := at_T48 HR0.out x8_1 p105 q105
            cases e105
            replace hx105_0 := (HB.out.cell (World.block_lt_of_cell? w _ hx105_0)).trans hx105_0
            replace hx105_1 := (HB.out.cell (World.block_lt_of_cell? w _ hx105_1)).trans hx105_1
            replace p105 := eq_true p105
            replace q105 := eq_true q105
            go_wp2_with (first | ((with_reducible refine gate_dst (N := 5) rfl ?_); refine box_event ?hg (N := 5) ?hd (cs := #[.string (⟨#[]⟩ : ByteArray), .string (⟨#[]⟩ : ByteArray)]) (t := 48) ?hr ?_; (case hd => rfl); (case hg => rfl); (case hr => first | (go_simp; done) | (go_simp; rfl)); intro gb106 hg w5 hbox hb; have n0_ := Aside0.mk (below_step (by repeat (first | (with_reducible first | exact HB.out | apply below_alloc | apply pw_below_drewN | apply below_drew1) | exact HB.out)) hb); have n1_ := Aside0.mk (hbox); have n2_ := Aside0.mk ((by rw [hg]; exact (below_size (by repeat (first | (with_reducible first | exact HB.out | apply below_alloc | apply pw_below_drewN | apply below_drew1) | exact HB.out))) : w.heap.size ≤ gb106)); have n3_ := Aside0.mk ((by rw [hg]; exact (below_size (by repeat (first | (with_reducible first | exact HB.out | apply below_alloc | apply pw_below_drewN | apply below_drew1) | exact HB.out))) : w.heap.size ≤ gb106)); clear HB; have HB := n0_; have BK106 := n1_; have GW106 := n2_; have GE106 := n3_; clear n0_ n1_ n2_ n3_; clear hb hbox hg; have hcz6_0 : w5.cell? ⟨gb106, 0, none⟩ = some (.string (⟨#[]⟩ : ByteArray)) := (blk_cell BK106.out 0).trans rfl; have hcz6_1 : w5.cell? ⟨gb106, 1, none⟩ = some (.string (⟨#[]⟩ : ByteArray)) := (blk_cell BK106.out 1).trans rfl; have hfz6_0 := blk_frozen BK106.out 0; have hfz6_1 := blk_frozen BK106.out 1))
            go_roundg k1
            case measure => have := HK1.out; omega
            case rel => exact ⟨(wrap64 (x3_1 + (wrap64 ((wrap64 (2 + (((rd_T48 l0 x8_1).f0).size : Int))) + (((rd_T48 l0 x8_1).f1).size : Int))))), (wrap64 (x8_1 + 1)), (by first | rfl | (simp; done) | (simp [*]; done)), (by first | rfl | (simp; done) | (simp [*]; done)), H', ⟨by have := HK1.out; omega⟩, ⟨by repeat (first | (with_reducible first | exact HB.out | apply below_alloc | apply pw_below_drewN | apply below_drew1 | refine below_set ?_ GE106.out) | exact HB.out)⟩⟩
          · rw [if_neg c4] at H
            exact absurd H (by simp)
        · rw [if_neg c3] at H
          exact absurd H (by simp)
      · rw [if_neg c2] at H
        have c2b0 : decide (x8_1 < (l0.length : Int)) = false := decide_eq_false c2
        clear c2
        obtain rfl := Option.some.inj H
        go_wp2
        go_ret
        exact ⟨by first | rfl | (simp [errW_none, errW_some] <;> rfl) | (simp [*, errW_none, errW_some] <;> rfl), by repeat (first | (with_reducible first | exact HB.out | apply below_alloc | apply pw_below_drewN | apply below_drew1) | exact HB.out)⟩
def node_Size.l0 : Nat → Int → List ByteArray → Int → Int → Option (Int)
  | 0, _, _, _, _ => none
  | k + 1, x3, x18, x19, x20 => if x20 < x19 then (if 0 ≤ x20 then (if x20 < (x18.length : Int) then (node_Size.l0 k (wrap64 (x3 + (wrap64 (1 + ((rdOf ByteArray.empty x18 x20).size : Int))))) x18 x19 (wrap64 (x20 + 1))) else (none)) else (none)) else (some x3)
def node_Size.f (k : Nat) (a0_0 : Bool) (l0_1 : List (S48)) (l0_2 : List ByteArray) (l0_3 : List Int) : Option (Int) := if a0_0 = true then ((node_weight.f k l0_1).bind fun t108 => (some (wrap64 (2 + t108)))) else (node_Size.l0 k (wrap64 (2 + (wrap64 (2 * (l0_3.length : Int))))) l0_2 (l0_2.length : Int) 0)
set_option maxHeartbeats 8000000 in
set_option maxRecDepth 100000 in
theorem node_Size.calls (k : Nat) (a0_0 : Bool) (A0_1 : Option Addr) (c0_1 : Nat) (l0_1 : List (S48)) (A0_2 : Option Addr) (c0_2 : Nat) (l0_2 : List ByteArray) (A0_3 : Option Addr) (c0_3 : Nat) (l0_3 : List Int) (r : Int) (w : World) (hr0_1 : Kd.C k48 w A0_1 l0_1.length l0_1) (hc0_1 : l0_1.length ≤ c0_1) (hr0_2 : Kd.C Kd.string w A0_2 l0_2.length l0_2) (hc0_2 : l0_2.length ≤ c0_2) (hr0_3 : Kd.C (Kd.int .i64) w A0_3 l0_3.length l0_3) (hc0_3 : l0_3.length ≤ c0_3) (h : node_Size.f k a0_0 l0_1 l0_2 l0_3 = some r) :
    Calls Try.prog 16 #[.agg #[.bool a0_0, .slice A0_1 l0_1.length c0_1, .slice A0_2 l0_2.length c0_2, .slice A0_3 l0_3.length c0_3]] w fun e w' => e = .returned (.int .i64 r) ∧ Below w.heap.size w w' := by
  have hu31 := Try.underlying31
  have HR0_1 := Aside0.mk hr0_1
  have HC0_1 := Aside0.mk hc0_1
  clear hr0_1 hc0_1
  have HR0_2 := Aside0.mk hr0_2
  have HC0_2 := Aside0.mk hc0_2
  clear hr0_2 hc0_2
  have HR0_3 := Aside0.mk hr0_3
  have HC0_3 := Aside0.mk hc0_3
  clear hr0_3 hc0_3
  have HB := Aside0.mk (Below.refl w.heap.size w)
  have H : (if a0_0 = true then ((node_weight.f k l0_1).bind fun t108 => (some (wrap64 (2 + t108)))) else (node_Size.l0 k (wrap64 (2 + (wrap64 (2 * (l0_3.length : Int))))) l0_2 (l0_2.length : Int) 0)) = some r := h
  clear h
  by_cases c2 : a0_0 = true
  · subst c2
    have H1 : ((node_weight.f k l0_1).bind fun t108 => (some (wrap64 (2 + t108)))) = some r := by rw [if_pos rfl] at H; exact H
    clear H
    have H := H1
    clear H1
    replace H := Option.bind_eq_some_iff.mp H
    obtain ⟨t108, A30, H⟩ := H
    replace H : (some (wrap64 (2 + t108))) = some r := H
    have A3 := Aside0.mk A30
    clear A30
    obtain rfl := Option.some.inj H
    go_enter Try.func16, Try.ntmps16
    go_wp2_with (first | ((with_reducible refine gate_dst (N := 1) rfl ?_); refine box_event ?hg (N := 1) ?hd (cs := #[.bool true, .slice A0_1 l0_1.length c0_1, .slice A0_2 l0_2.length c0_2, .slice A0_3 l0_3.length c0_3]) (t := 31) ?hr ?_; (case hd => rfl); (case hg => rfl); (case hr => first | (go_simp; done) | (go_simp; rfl)); intro gb107 hg w4 hbox hb; have n0_ := Aside0.mk (below_step (by repeat (first | (with_reducible first | exact HB.out | apply below_alloc | apply pw_below_drewN | apply below_drew1) | exact HB.out)) hb); have n1_ := Aside0.mk (hbox); have n2_ := Aside0.mk ((by rw [hg]; exact (below_size (by repeat (first | (with_reducible first | exact HB.out | apply below_alloc | apply pw_below_drewN | apply below_drew1) | exact HB.out))) : w.heap.size ≤ gb107)); have n3_ := Aside0.mk ((by rw [hg]; exact (below_size (by repeat (first | (with_reducible first | exact HB.out | apply below_alloc | apply pw_below_drewN | apply below_drew1) | exact HB.out))) : w.heap.size ≤ gb107)); clear HB; have HB := n0_; have BK107 := n1_; have GW107 := n2_; have GE107 := n3_; clear n0_ n1_ n2_ n3_; clear hb hbox hg; have hcz5_0 : w4.cell? ⟨gb107, 0, none⟩ = some (.bool true) := (blk_cell BK107.out 0).trans rfl; have hcz5_1 : w4.cell? ⟨gb107, 1, none⟩ = some (.slice A0_1 l0_1.length c0_1) := (blk_cell BK107.out 1).trans rfl; have hcz5_2 : w4.cell? ⟨gb107, 2, none⟩ = some (.slice A0_2 l0_2.length c0_2) := (blk_cell BK107.out 2).trans rfl; have hcz5_3 : w4.cell? ⟨gb107, 3, none⟩ = some (.slice A0_3 l0_3.length c0_3) := (blk_cell BK107.out 3).trans rfl; have hfz5_0 := blk_frozen BK107.out 0; have hfz5_1 := blk_frozen BK107.out 1; have hfz5_2 := blk_frozen BK107.out 2; have hfz5_3 := blk_frozen BK107.out 3) | ((with_reducible refine gate_callee (f := 41) rfl ?_); refine goesL_ (some 10) rfl rfl Try.func41 (by kernel_rfl) rfl #[.slice A0_1 l0_1.length c0_1] rfl (by (try simp only [List.map_toArray, List.map_cons, List.map_nil]); first | done | rfl | (simp only [List.length_drop, List.length_take]; rfl)) ?_; (with_reducible refine (node_weight.calls k _ _ l0_1 t108 _ ?side1 ?side2 A3.out).mono ?_); (case side1 => repeat (first | exact (Kd.C_below HR0_1.out HB.out) | (with_reducible refine Kd.C_alloc ?_ _) | (with_reducible refine Kd.C_drewN ?_ _) | (with_reducible refine Kd.C_drew ?_))); (case side2 => exact HC0_1.out); rintro e w6 ⟨rfl, hb⟩; refine ⟨_, rfl, ?_⟩; have n0_ := Aside0.mk (blk_below (g := gb107) (o := .cells #[.bool true, .slice A0_1 l0_1.length c0_1, .slice A0_2 l0_2.length c0_2, .slice A0_3 l0_3.length c0_3] 31 (0, 0)) (by (with_reducible repeat (first | refine blk_drewN ?_ _ | refine blk_drew ?_ | refine blk_alloc ?_ _)); exact BK107.out) hb); have n1_ := Aside0.mk (below_step (by repeat (first | (with_reducible first | exact HB.out | apply below_alloc | apply pw_below_drewN | apply below_drew1 | refine below_set ?_ GE107.out) | exact HB.out)) hb); clear BK107; clear HB; have BK107 := n0_; have HB := n1_; clear n0_ n1_; (try clear hb); (try clear hb2); (try clear hk); (try clear hi)))
    go_ret
    exact ⟨by first | rfl | (simp [errW_none, errW_some] <;> rfl) | (simp [*, errW_none, errW_some] <;> rfl), by repeat (first | (with_reducible first | exact HB.out | apply below_alloc | apply pw_below_drewN | apply below_drew1 | refine below_set ?_ GE107.out) | exact HB.out)⟩
  · replace c2 := Bool.eq_false_iff.mpr c2
    subst c2
    have H1 : (node_Size.l0 k (wrap64 (2 + (wrap64 (2 * (l0_3.length : Int))))) l0_2 (l0_2.length : Int) 0) = some r := by rw [if_neg (show ¬ (false = true) by decide)] at H; exact H
    clear H
    have H := H1
    clear H1
    have H' := Aside0.mk H
    clear H
    go_enter Try.func16, Try.ntmps16
    go_wp2_with (first | ((with_reducible refine gate_dst (N := 1) rfl ?_); refine box_event ?hg (N := 1) ?hd (cs := #[.bool false, .slice A0_1 l0_1.length c0_1, .slice A0_2 l0_2.length c0_2, .slice A0_3 l0_3.length c0_3]) (t := 31) ?hr ?_; (case hd => rfl); (case hg => rfl); (case hr => first | (go_simp; done) | (go_simp; rfl)); intro gb107 hg w7 hbox hb; have n0_ := Aside0.mk (below_step (by repeat (first | (with_reducible first | exact HB.out | apply below_alloc | apply pw_below_drewN | apply below_drew1) | exact HB.out)) hb); have n1_ := Aside0.mk (hbox); have n2_ := Aside0.mk ((by rw [hg]; exact (below_size (by repeat (first | (with_reducible first | exact HB.out | apply below_alloc | apply pw_below_drewN | apply below_drew1) | exact HB.out))) : w.heap.size ≤ gb107)); have n3_ := Aside0.mk ((by rw [hg]; exact (below_size (by repeat (first | (with_reducible first | exact HB.out | apply below_alloc | apply pw_below_drewN | apply below_drew1) | exact HB.out))) : w.heap.size ≤ gb107)); clear HB; have HB := n0_; have BK107 := n1_; have GW107 := n2_; have GE107 := n3_; clear n0_ n1_ n2_ n3_; clear hb hbox hg; have hcz8_0 : w7.cell? ⟨gb107, 0, none⟩ = some (.bool false) := (blk_cell BK107.out 0).trans rfl; have hcz8_1 : w7.cell? ⟨gb107, 1, none⟩ = some (.slice A0_1 l0_1.length c0_1) := (blk_cell BK107.out 1).trans rfl; have hcz8_2 : w7.cell? ⟨gb107, 2, none⟩ = some (.slice A0_2 l0_2.length c0_2) := (blk_cell BK107.out 2).trans rfl; have hcz8_3 : w7.cell? ⟨gb107, 3, none⟩ = some (.slice A0_3 l0_3.length c0_3) := (blk_cell BK107.out 3).trans rfl; have hfz8_0 := blk_frozen BK107.out 0; have hfz8_1 := blk_frozen BK107.out 1; have hfz8_2 := blk_frozen BK107.out 2; have hfz8_3 := blk_frozen BK107.out 3))
    go_loopg [3, 20] k (fun kq v3 v20 w' => ∃ (x3_1 : Int) (x20_1 : Int), v3 = .int .i64 x3_1 ∧ v20 = .int .i64 x20_1 ∧ Aside0 (node_Size.l0 kq x3_1 l0_2 (l0_2.length : Int) x20_1 = some r) ∧ Aside0 (kq ≤ k) ∧ Aside0 (w'.heap[gb107]? = some (.cells #[.bool false, (.slice A0_1 l0_1.length c0_1), (.slice A0_2 l0_2.length c0_2), (.slice A0_3 l0_3.length c0_3)] 31 (0, 0))) ∧ Aside0 (Below w.heap.size w w'))
    case atStart => exact ⟨(wrap64 (2 + (wrap64 (2 * (l0_3.length : Int))))), (0), (by first | rfl | (simp; done) | (simp [*]; done)), (by first | rfl | (simp; done) | (simp [*]; done)), H', ⟨Nat.le_refl _⟩, ⟨by (with_reducible repeat (first | refine blk_drewN ?_ _ | refine blk_drew ?_ | refine blk_alloc ?_ _)); exact BK107.out⟩, ⟨by repeat (first | (with_reducible first | exact HB.out | apply below_alloc | apply pw_below_drewN | apply below_drew1 | refine below_set ?_ GE107.out) | exact HB.out)⟩⟩
    case round =>
      clear H'
      try clear c1
      try clear c2
      try clear p2
      try clear c4
      try clear p6
      try clear hcz5_0
      try clear hcz5_1
      try clear hcz5_2
      try clear hcz5_3
      try clear hcz8_0
      try clear hcz8_1
      try clear hcz8_2
      try clear hcz8_3
      try clear hfz5_0
      try clear hfz5_1
      try clear hfz5_2
      try clear hfz5_3
      try clear hfz8_0
      try clear hfz8_1
      try clear hfz8_2
      try clear hfz8_3
      obtain ⟨x3_1, x20_1, rfl, rfl, HA, HK1, BK107, HB⟩ := hrel
      cases gk with
      | zero => exact absurd HA.out (by simp [node_Size.l0])
      | succ k1 =>
        have H := HA.out
        clear HA
        simp only [node_Size.l0] at H
        by_cases c9 : x20_1 < (l0_2.length : Int)
        · rw [if_pos c9] at H
          have c9b0 : decide (x20_1 < (l0_2.length : Int)) = true := decide_eq_true c9
          clear c9
          by_cases c10 : 0 ≤ x20_1
          · rw [if_pos c10] at H
            have c10b0 : decide (0 ≤ x20_1) = true := decide_eq_true c10
            clear c10
            by_cases c11 : x20_1 < (l0_2.length : Int)
            · rw [if_pos c11] at H
              have c11b0 : decide (x20_1 < (l0_2.length : Int)) = true := decide_eq_true c11
              clear c11
              have H' := Aside0.mk H
              clear H
              have p109 : 0 ≤ (x20_1 : Int) := of_decide_eq_true (by first | (with_reducible assumption) | assumption)
              have q109 : x20_1 < (l0_2.length : Int) := of_decide_eq_true (by first | (with_reducible assumption) | assumption)
              obtain ⟨ad109, e109, hx109_0⟩ := Kd.at_string HR0_2.out x20_1 p109 q109
              cases e109
              replace hx109_0 := (HB.out.cell (World.block_lt_of_cell? w _ hx109_0)).trans hx109_0
              replace p109 := eq_true p109
              replace q109 := eq_true q109
              go_wp2
              go_roundg k1
              case measure => have := HK1.out; omega
              case rel => exact ⟨(wrap64 (x3_1 + (wrap64 (1 + ((rdOf ByteArray.empty l0_2 x20_1).size : Int))))), (wrap64 (x20_1 + 1)), (by first | rfl | (simp; done) | (simp [*]; done)), (by first | rfl | (simp; done) | (simp [*]; done)), H', ⟨by have := HK1.out; omega⟩, ⟨by (with_reducible repeat (first | refine blk_drewN ?_ _ | refine blk_drew ?_ | refine blk_alloc ?_ _)); exact BK107.out⟩, ⟨by repeat (first | (with_reducible first | exact HB.out | apply below_alloc | apply pw_below_drewN | apply below_drew1 | refine below_set ?_ GE107.out) | exact HB.out)⟩⟩
            · rw [if_neg c11] at H
              exact absurd H (by simp)
          · rw [if_neg c10] at H
            exact absurd H (by simp)
        · rw [if_neg c9] at H
          have c9b0 : decide (x20_1 < (l0_2.length : Int)) = false := decide_eq_false c9
          clear c9
          obtain rfl := Option.some.inj H
          go_wp2
          go_ret
          exact ⟨by first | rfl | (simp [errW_none, errW_some] <;> rfl) | (simp [*, errW_none, errW_some] <;> rfl), by repeat (first | (with_reducible first | exact HB.out | apply below_alloc | apply pw_below_drewN | apply below_drew1 | refine below_set ?_ GE107.out) | exact HB.out)⟩
end
end Go.Proofs.Ytjjfeoigjhbbpaa.PA
namespace Go.Proofs.Ytjjfeoigjhbbpaa.PA
section

open Go.RowKit Go.Proofs.YtjjfeoigjhbbpaaW.PrintWords Go.Proofs.YtjjfeoigjhbbpaaW.PrintLast Go.Proofs.YtjjfeoigjhbbpaaW.PrintMore
attribute [local go_sem] pr_leq pr_geq pr_gtr max2_int min2_int max_two min_two max_three min_three max_four min_four
set_option linter.unusedVariables false
set_option linter.unusedSimpArgs false
theorem bd_size : (Try.prog.info? 68).map (·.size) = some 2 := by kernel_rfl
theorem bd_byte : (Try.prog.info? 5).map (fun i => (i.zero, i.size, i.bytes)) = some (some (.int .u8 0), 1, 1) := by kernel_rfl
/-- What a builder's call leaves as it is: every block that is neither the builder's nor one of bytes. -/
def Kb (b : Nat) (w w' : World) : Prop := ∀ k cs T, T ≠ 5 → k ≠ b → w.heap[k]? = some (.cells cs T (0, 0)) → w'.heap[k]? = some (.cells cs T (0, 0))
theorem Kb.refl (b : Nat) (w : World) : Kb b w w := fun _ _ _ _ _ h => h
theorem Kb.trans {b : Nat} {w w1 w2 : World} (h : Kb b w w1) (h' : Kb b w1 w2) : Kb b w w2 := fun k cs T hT hk hh => h' k cs T hT hk (h k cs T hT hk hh)
theorem Kb.set {b j : Nat} {w w1 : World} (h : Kb b w w1) (u : Value) : Kb b w (w1.setCell ⟨b, j, none⟩ u) := fun k cs T hT hk hh => (Below.heap_setCell w1 ⟨b, j, none⟩ u k hk).trans (h k cs T hT hk hh)
theorem Kb.alloc {b : Nat} {w w1 : World} (h : Kb b w w1) (o : Obj) : Kb b w (w1.alloc o) := fun k cs T hT hk hh => (Lib.alloc_old w1 o k (blk_lt (h k cs T hT hk hh))).trans (h k cs T hT hk hh)
theorem Kb.grown {b B n : Nat} {v : Value} {xs : List Value} {w w1 w2 : World} (h : Kb b w w1) (ho : w1.ownsRow B 5 1 v n xs) (hg : w1.grownBy w2 v.ownBlock) : Kb b w w2 := fun k cs T hT hk hh => by
  have h1 := h k cs T hT hk hh
  rw [hg.block k (blk_lt h1) (fun e => ?_)]
  · exact h1
  · obtain ⟨cells, hc⟩ := own_typed ho k e.symm
    rw [h1] at hc
    injection hc with hc
    injection hc with _ hc
    exact hT hc
def Bd (B b : Nat) (bs : List Value) (w : World) : Prop := Lib.IsBuilder 68 5 B b bs w
set_option maxRecDepth 100000 in
theorem copyCheck_used (b : Nat) (w : World) (h0 : w.cell? ⟨b, 0, none⟩ = some (.pointer (some ⟨b, 0, none⟩))) :
    Calls Try.prog 58 #[.pointer (some ⟨b, 0, none⟩)] w fun e w' => e = .returned (.tuple #[]) ∧ w' = w := by
  obtain ⟨j, hj, _⟩ := Option.map_eq_some_iff.1 bd_size
  go_enter Try.func58, Try.ntmps58
  go_wp2
  rw [Lib.run_neq_ptr_same w _ Try.underlying65 hj]
  go_wp2
  go_end0
  exact ⟨rfl, rfl⟩
set_option maxRecDepth 100000 in
theorem copyCheck_fresh (b : Nat) (w : World) (h0 : w.cell? ⟨b, 0, none⟩ = some (.pointer none)) (hsh : w.shape? b = some (68, 2)) (hfz : w.frozen? ⟨b, 0, none⟩ = false) :
    Calls Try.prog 58 #[.pointer (some ⟨b, 0, none⟩)] w fun e w' => e = .returned (.tuple #[]) ∧ w' = w.setCell ⟨b, 0, none⟩ (.pointer (some ⟨b, 0, none⟩)) := by
  obtain ⟨j, hj, hjs⟩ := Option.map_eq_some_iff.1 bd_size
  go_enter Try.func58, Try.ntmps58
  go_wp2
  rw [Lib.run_to_unsafe w ⟨b, 0, none⟩ Try.underlying65 Try.underlying120 hj (by rw [hjs]; decide) hsh (Nat.zero_lt_succ 1)]
  simp only [Result.andThen]
  rw [Oper.upon_value]
  go_wp2
  rw [run_callFunc_extern Try.func81 (by kernel_rfl) (by kernel_rfl) (by kernel_rfl) (e := Extern.AbiNoEscape.same) (by kernel_rfl)]
  rw [Lib.run_noEscape]
  simp only [Result.andThen]
  rw [Oper.upon_value]
  go_wp2
  rw [Lib.run_from_unsafe w ⟨b, 0, none⟩ Try.underlying120 Try.underlying65 hj hsh (by kernel_rfl)]
  simp only [Result.andThen]
  rw [Oper.upon_value]
  go_wp2
  go_end0
  exact ⟨rfl, rfl⟩
theorem copyCheck_calls (B b : Nat) (bs : List Value) (w : World) (h : Bd B b bs w) :
    Calls Try.prog 58 #[.pointer (some ⟨b, 0, none⟩)] w fun e w' => e = .returned (.tuple #[]) ∧ (Lib.BuilderAt 68 5 B b (.pointer (some ⟨b, 0, none⟩)) bs w' ∧ Below B w w' ∧ Kb b w w') := by
  rcases h with h | h
  · refine (copyCheck_fresh b w h.cell0 h.shape h.frozen0).mono ?_
    rintro e w' ⟨rfl, rfl⟩
    exact ⟨rfl, h.used _, (Below.refl B w).setCell (p := ⟨b, 0, none⟩) h.1 _, (Kb.refl b w).set _⟩
  · refine (copyCheck_used b w h.cell0).mono ?_
    rintro e w' ⟨rfl, rfl⟩
    exact ⟨rfl, h, Below.refl B _, Kb.refl b _⟩
set_option maxHeartbeats 2000000 in
set_option maxRecDepth 100000 in
theorem writeByte_calls (B b : Nat) (bs : List Value) (c : Int) (w : World) (h : Bd B b bs w) (hlen : bs.length + 1 ≤ 140737488355328) (hBw : B ≤ w.heap.size) :
    Calls Try.prog 36 #[.pointer (some ⟨b, 0, none⟩), .int .u8 c] w fun e w' => e = .returned .nilIface ∧ (Bd B b (bs ++ [.int .u8 c]) w' ∧ Below B w w' ∧ Kb b w w') := by
  obtain ⟨i0, hi, hzz⟩ := Option.map_eq_some_iff.1 bd_byte
  simp only [Prod.mk.injEq] at hzz
  obtain ⟨hz0, hz1, hz2⟩ := hzz
  go_enter Try.func36, Try.ntmps36
  go_wp2_with (first | (go_at_call 58; refine (copyCheck_calls B b bs _ h).mono ?_) | fail)
  rintro e w1 ⟨rfl, h1, hb1, hk1⟩
  obtain ⟨hB, v, hbk, hown, hne⟩ := h1
  have c0 : w1.cell? ⟨b, 0, none⟩ = some (.pointer (some ⟨b, 0, none⟩)) := by rw [Lib.cell_of_heap hbk]; rfl
  have c1 : w1.cell? ⟨b, 1, none⟩ = some v := by rw [Lib.cell_of_heap hbk]; rfl
  go_wp2_with (first | (at_builtin; refine wpList_append_own _ rfl _ _ 66 rfl B 5 i0 (.int .u8 0) 1 1 Try.underlying66 hi hz0 hz1 hz2 rfl (by decide) _ _ _ rfl (hown.alloc _) ⟨w1.heap.size, 0, none⟩ 1 1 [.int .u8 c] rfl rfl ?c1 ?c2 ?c3 ?c4 ?c5 ?_) | fail)
  case c1 =>
    intro j u hj
    match j, hj with
    | 0, hj => simp at hj; subst hj; simp [Addr.add]
  case c2 => intro u hu; simp at hu; subst hu; rfl
  case c3 => unfold maxLen; omega
  case c4 => omega
  case c5 => have := hb1.size; simp; omega
  intro v' w2 hown' hgrow _
  have hlt : b < w1.heap.size := by
    rcases Nat.lt_or_ge b w1.heap.size with h' | h'
    · exact h'
    · simp [Array.getElem?_eq_none h'] at hbk
  have hb2 : w2.heap[b]? = some (.cells #[.pointer (some ⟨b, 0, none⟩), v] 68 (0, 0)) := by
    rw [hgrow.block b (by simp; omega) (fun e => hne e.symm), Lib.alloc_old w1 _ b hlt]
    exact hbk
  have d0 : w2.cell? ⟨b, 0, none⟩ = some (.pointer (some ⟨b, 0, none⟩)) := by rw [Lib.cell_of_heap hb2]; rfl
  have d1 : w2.cell? ⟨b, 1, none⟩ = some v := by rw [Lib.cell_of_heap hb2]; rfl
  have f1 : w2.frozen? ⟨b, 1, none⟩ = false := Lib.frozen_of_heap hb2 1
  obtain ⟨g, cap, rfl⟩ : ∃ g cap, v' = .slice (some ⟨g, 0, none⟩) (bs.length + 1) cap := by
    rcases hown'.2 with ⟨_, h0⟩ | ⟨g, cap, cur, hv, _⟩
    · omega
    · exact ⟨g, cap, hv⟩
  go_wp2
  go_ret
  refine ⟨rfl, Or.inr ?_, ?_, ((hk1.alloc _).grown (hown.alloc _) hgrow).set _⟩
  · exact Lib.BuilderAt.put (T := 68) (e := 5) hB hb2 (bs' := bs ++ [.int .u8 c]) (by simpa using hown') (by decide)
  · exact ((hb1.alloc (by have := hb1.size; omega) _).grown hgrow (by have := hb1.size; simp; omega) (fun k hk => (hown.lt k hk).1)).setCell (p := ⟨b, 1, none⟩) hB _
set_option maxHeartbeats 2000000 in
set_option maxRecDepth 100000 in
theorem writeString_calls (B b : Nat) (bs : List Value) (s : ByteArray) (w : World) (h : Bd B b bs w) (hlen : bs.length + s.size ≤ 140737488355328) (hBw : B ≤ w.heap.size) :
    Calls Try.prog 37 #[.pointer (some ⟨b, 0, none⟩), .string s] w fun e w' => e = .returned (.tuple #[.int .i64 s.size, .nilIface]) ∧ (Bd B b (bs ++ Lib.strCells s) w' ∧ Below B w w' ∧ Kb b w w') := by
  obtain ⟨i0, hi, hzz⟩ := Option.map_eq_some_iff.1 bd_byte
  simp only [Prod.mk.injEq] at hzz
  obtain ⟨hz0, hz1, hz2⟩ := hzz
  go_enter Try.func37, Try.ntmps37
  go_wp2_with (first | (go_at_call 58; refine (copyCheck_calls B b bs _ h).mono ?_) | fail)
  rintro e w1 ⟨rfl, h1, hb1, hk1⟩
  obtain ⟨hB, v, hbk, hown, hne⟩ := h1
  have c0 : w1.cell? ⟨b, 0, none⟩ = some (.pointer (some ⟨b, 0, none⟩)) := by rw [Lib.cell_of_heap hbk]; rfl
  have c1 : w1.cell? ⟨b, 1, none⟩ = some v := by rw [Lib.cell_of_heap hbk]; rfl
  go_wp2_with (first | (at_builtin; refine Lib.wpList_append_own_string _ rfl _ _ 66 9 rfl B 5 i0 Try.underlying66 Try.underlying9 hi hz0 hz1 hz2 _ _ _ rfl hown s rfl ?c3 ?c4 ?c5 ?_) | fail)
  case c3 => unfold maxLen; omega
  case c4 => omega
  case c5 => have := hb1.size; omega
  intro v' w2 hown' hgrow _
  have hlt : b < w1.heap.size := by
    rcases Nat.lt_or_ge b w1.heap.size with h' | h'
    · exact h'
    · simp [Array.getElem?_eq_none h'] at hbk
  have hb2 : w2.heap[b]? = some (.cells #[.pointer (some ⟨b, 0, none⟩), v] 68 (0, 0)) := by
    rw [hgrow.block b hlt (fun e => hne e.symm)]
    exact hbk
  have d0 : w2.cell? ⟨b, 0, none⟩ = some (.pointer (some ⟨b, 0, none⟩)) := by rw [Lib.cell_of_heap hb2]; rfl
  have d1 : w2.cell? ⟨b, 1, none⟩ = some v := by rw [Lib.cell_of_heap hb2]; rfl
  have f1 : w2.frozen? ⟨b, 1, none⟩ = false := Lib.frozen_of_heap hb2 1
  obtain ⟨ao, n', cap, rfl⟩ : ∃ ao n' cap, v' = .slice ao n' cap := by
    rcases hown'.2 with ⟨hv, _⟩ | ⟨g, cap, cur, hv, _⟩
    · exact ⟨_, _, _, hv⟩
    · exact ⟨_, _, _, hv⟩
  go_wp2
  go_ret2
  refine ⟨rfl, Or.inr ?_, ?_, (hk1.grown hown hgrow).set _⟩
  · exact Lib.BuilderAt.put (T := 68) (e := 5) hB hb2 (bs' := bs ++ Lib.strCells s) (by simpa [Lib.strCells_length] using hown') (by decide)
  · exact (hb1.grown hgrow (by have := hb1.size; omega) (fun k hk => (hown.lt k hk).1)).setCell (p := ⟨b, 1, none⟩) hB _
set_option maxHeartbeats 1000000 in
set_option maxRecDepth 100000 in
theorem builderString_calls (B b : Nat) (l : List UInt8) (w : World) (h : Bd B b (Lib.byteCells l) w) (h0 : l ≠ []) :
    Calls Try.prog 38 #[.pointer (some ⟨b, 0, none⟩)] w fun e w' => e = .returned (.string ⟨l.toArray⟩) ∧ Below B w w' := by
  obtain ⟨p, hB, v, hbk, hown, hne⟩ : ∃ p, Lib.BuilderAt 68 5 B b p (Lib.byteCells l) w := by
    rcases h with h | h
    · exact ⟨_, h⟩
    · exact ⟨_, h⟩
  have hl0 : l.length ≠ 0 := by simpa using h0
  rw [Lib.byteCells_length] at hown
  obtain ⟨g, cap, cur, rfl, hbg, hg, hnc, hcm, hcs, htake⟩ : ∃ g cap cur, v = .slice (some ⟨g, 0, none⟩) l.length cap ∧ B ≤ g ∧ w.heap[g]? = some (.cells cur 5 (0, 0)) ∧ l.length ≤ cap ∧ cap ≤ maxLen ∧ cur.size = cap * 1 ∧ cur.toList.take (l.length * 1) = Lib.byteCells l := by
    rcases hown.2 with ⟨_, hz⟩ | ⟨g, cap, cur, hv, r⟩
    · exact absurd hz hl0
    · exact ⟨g, cap, cur, hv, r⟩
  have c1 : w.drew.cell? ⟨b, 1, none⟩ = some (.slice (some ⟨g, 0, none⟩) l.length cap) := by
    have : w.drew.heap[b]? = some (.cells #[p, .slice (some ⟨g, 0, none⟩) l.length cap] 68 (0, 0)) := hbk
    rw [Lib.cell_of_heap this]; rfl
  have hSD : (Builtin.unsafeSliceData_ #[66] 97 #[.slice (some ⟨g, 0, none⟩) l.length cap]).run Try.prog w.drew = .ok (.pointer (some ⟨g, 0, none⟩)) w.drew :=
    Lib.run_unsafeSliceData_row _ _ _ _ _ _ (by omega)
  have hUS : (Builtin.unsafeString_ #[97, 3] 9 #[.pointer (some ⟨g, 0, none⟩), .int .i64 l.length]).run Try.prog w.drew = .ok (.string ⟨l.toArray⟩) (w.drew.freeze ⟨g, 0, none⟩ l.length) := by
    refine Lib.run_unsafeString_row w.drew 97 3 9 5 Try.underlying97 (by kernel_rfl) g cur.size (by have hg' : w.drew.heap[g]? = some (.cells cur 5 (0, 0)) := hg; simp [World.shape?, hg']) l h0 (by omega) (by unfold maxLen at hcm; omega) ?_
    intro j x hx
    have := hown.cells (g := g) rfl j (.int .u8 x.toNat) (by simp [Lib.byteCells, hx])
    exact this
  go_enter Try.func38, Try.ntmps38
  go_wp2
  go_region
  all_goals (go_wp2; go_ret; exact ⟨rfl, Lib.below_freeze (Below.drew (Below.refl B w)) (p := ⟨g, 0, none⟩) hbg _⟩)
def textL (s : ByteArray) : List UInt8 := UInt8.ofNat s.size :: s.data.toList
def pairL (p : S48) : List UInt8 := textL p.f0 ++ textL p.f1
def kidL (k : Int) : List UInt8 := [UInt8.ofNat (k % 256).toNat, UInt8.ofNat (k / 256 % 256).toNat]
def encL (lf : Bool) (P : List S48) (K : List ByteArray) (D : List Int) : List UInt8 := if lf then 1 :: UInt8.ofNat P.length :: P.flatMap pairL else 2 :: UInt8.ofNat D.length :: (D.flatMap kidL ++ K.flatMap textL)
def weightN (P : List S48) : Nat := (P.map fun p => 2 + p.f0.size + p.f1.size).sum
def sizeN (lf : Bool) (P : List S48) (K : List ByteArray) (D : List Int) : Nat := if lf then 2 + weightN P else 2 + 2 * D.length + (K.map fun k => 1 + k.size).sum
theorem textL_length (s : ByteArray) : (textL s).length = 1 + s.size := by
  have h : s.data.toList.length = s.size := rfl
  unfold textL
  rw [List.length_cons, h]
  omega
theorem pairL_length (p : S48) : (pairL p).length = 2 + p.f0.size + p.f1.size := by
  unfold pairL
  rw [List.length_append, textL_length, textL_length]
  omega
theorem pairs_length (P : List S48) : (P.flatMap pairL).length = weightN P := by
  unfold weightN
  rw [List.length_flatMap]
  congr 1
  exact List.map_congr_left fun p _ => pairL_length p
theorem keys_length (K : List ByteArray) : (K.flatMap textL).length = (K.map fun k => 1 + k.size).sum := by
  rw [List.length_flatMap]
  congr 1
  exact List.map_congr_left fun p _ => textL_length p
theorem kids_length (D : List Int) : (D.flatMap kidL).length = 2 * D.length := by
  induction D with
  | nil => rfl
  | cons k D ih => rw [List.flatMap_cons, List.length_append, ih, List.length_cons]; show 2 + _ = _; omega
theorem encL_length (lf : Bool) (P : List S48) (K : List ByteArray) (D : List Int) : (encL lf P K D).length = sizeN lf P K D := by
  unfold encL sizeN
  cases lf
  · simp only [Bool.false_eq_true, if_false, List.length_cons, List.length_append, kids_length, keys_length]
    omega
  · simp only [if_true, List.length_cons, pairs_length]
    omega
theorem wrap_small {n : Nat} (h : n ≤ 20912) : wrap64 (n : Int) = (n : Int) := by unfold wrap64; omega
theorem w64_l (a b : Int) : wrap64 (wrap64 a + b) = wrap64 (a + b) := by unfold wrap64; omega
theorem w64_r (a b : Int) : wrap64 (a + wrap64 b) = wrap64 (a + b) := by unfold wrap64; omega
theorem weight_l0 (l : List S48) (hl : l.length ≤ 9223372036854775807) : ∀ (k i : Nat) (x : Int), i ≤ l.length → l.length - i < k → node_weight.l0 k (wrap64 x) l (l.length : Int) (i : Int) = some (wrap64 (x + (weightN (l.drop i) : Nat)))
  | 0, _, _, _, h => by omega
  | k + 1, i, x, hi, hk => by
    unfold node_weight.l0
    by_cases h : i < l.length
    · have e1 : wrap64 ((i : Int) + 1) = ((i + 1 : Nat) : Int) := by unfold wrap64; omega
      have e2 : rd_T48 l (i : Int) = l[i] := by unfold rd_T48; rw [Int.toNat_natCast, List.getD_eq_getElem?_getD, List.getElem?_eq_getElem h]; rfl
      have e3 : weightN (l.drop i) = 2 + l[i].f0.size + l[i].f1.size + weightN (l.drop (i + 1)) := by
        unfold weightN
        rw [List.drop_eq_getElem_cons h, List.map_cons, List.sum_cons]
      rw [if_pos (by omega), if_pos (by omega), if_pos (by omega), e1, e2]
      have e4 : wrap64 (wrap64 x + wrap64 (wrap64 (2 + (l[i].f0.size : Int)) + (l[i].f1.size : Int))) = wrap64 (x + (2 + l[i].f0.size + l[i].f1.size : Nat)) := by
        simp only [w64_l, w64_r]
        congr 1
      rw [e4, weight_l0 l hl k (i + 1) _ (by omega) (by omega), e3]
      congr 2
      omega
    · rw [if_neg (by omega), List.drop_eq_nil_of_le (by omega)]
      congr 2
      show x = x + ((0 : Nat) : Int)
      omega
theorem weight_val (l : List S48) (hl : l.length ≤ 9223372036854775807) (k : Nat) (hk : l.length < k) : node_weight.f k l = some (wrap64 (weightN l : Nat)) := by
  have h := weight_l0 l hl k 0 0 (by omega) (by omega)
  unfold node_weight.f
  have e : wrap64 0 = 0 := by unfold wrap64; omega
  rw [e] at h
  rw [Int.ofNat_zero] at h
  rw [h, List.drop_zero, Int.zero_add]
theorem size_l0 (l : List ByteArray) (hl : l.length ≤ 9223372036854775807) : ∀ (k i : Nat) (x : Int), i ≤ l.length → l.length - i < k → node_Size.l0 k (wrap64 x) l (l.length : Int) (i : Int) = some (wrap64 (x + (((l.drop i).map fun s => 1 + s.size).sum : Nat)))
  | 0, _, _, _, h => by omega
  | k + 1, i, x, hi, hk => by
    unfold node_Size.l0
    by_cases h : i < l.length
    · have e1 : wrap64 ((i : Int) + 1) = ((i + 1 : Nat) : Int) := by unfold wrap64; omega
      have e2 : rdOf ByteArray.empty l (i : Int) = l[i] := by unfold rdOf; rw [Int.toNat_natCast, List.getD_eq_getElem?_getD, List.getElem?_eq_getElem h]; rfl
      have e3 : ((l.drop i).map fun s => 1 + s.size).sum = 1 + l[i].size + ((l.drop (i + 1)).map fun s => 1 + s.size).sum := by
        rw [List.drop_eq_getElem_cons h, List.map_cons, List.sum_cons]
      rw [if_pos (by omega), if_pos (by omega), if_pos (by omega), e1, e2]
      have e4 : wrap64 (wrap64 x + wrap64 (1 + (l[i].size : Int))) = wrap64 (x + (1 + l[i].size : Nat)) := by
        simp only [w64_l, w64_r]
        congr 1
      rw [e4, size_l0 l hl k (i + 1) _ (by omega) (by omega), e3]
      congr 2
      omega
    · rw [if_neg (by omega), List.drop_eq_nil_of_le (by omega)]
      congr 2
      show x = x + ((0 : Nat) : Int)
      omega
theorem size_val (lf : Bool) (P : List S48) (K : List ByteArray) (D : List Int) (h1 : P.length ≤ 9223372036854775807) (h2 : K.length ≤ 9223372036854775807) (k : Nat) (hk1 : P.length < k) (hk2 : K.length < k) : node_Size.f k lf P K D = some (wrap64 (sizeN lf P K D : Nat)) := by
  unfold node_Size.f sizeN
  cases lf
  · have h := size_l0 K h2 k 0 (2 + 2 * (D.length : Int)) (by omega) (by omega)
    rw [if_neg (by decide), if_neg (by decide)]
    have e : wrap64 (2 + wrap64 (2 * (D.length : Int))) = wrap64 (2 + 2 * (D.length : Int)) := w64_r _ _
    rw [e, ← Int.ofNat_zero, h, List.drop_zero]
    congr 2
  · rw [if_pos rfl, if_pos rfl, weight_val P h1 k hk1]
    show some (wrap64 (2 + wrap64 _)) = _
    rw [w64_r]
    rfl
theorem nd_toList (a : ByteArray) : a.toList = a.data.toList := by
  have key : ∀ (d i : Nat) (r : List UInt8), i + d = a.size → ByteArray.toList.loop a i r = r.reverse ++ a.data.toList.drop i := by
    intro d
    induction d with
    | zero =>
      intro i r h
      unfold ByteArray.toList.loop
      rw [if_neg (by omega), List.drop_eq_nil_of_le (by simp; show a.size ≤ i; omega), List.append_nil]
    | succ d ih =>
      intro i r h
      have hi : i < a.data.toList.length := by simp; show i < a.size; omega
      unfold ByteArray.toList.loop
      rw [if_pos (by omega), ih (i + 1) _ (by omega), List.drop_eq_getElem_cons hi]
      have : a.get! i = a.data.toList[i] := by
        cases a with
        | mk bs =>
          simp at hi
          show bs[i]! = _
          rw [getElem!_pos bs i hi]
          simp
      simp [this]
  have := key a.size 0 [] (by omega)
  simpa [ByteArray.toList] using this
theorem keyB_size {s : ByteArray} (h : keyB s = true) : 1 ≤ s.size ∧ s.size ≤ 32 := by
  unfold keyB at h
  split at h
  · cases h
  · rename_i hn
    have := of_decide_eq_true h
    refine ⟨?_, by omega⟩
    rcases Nat.eq_zero_or_pos s.size with h0 | h0
    · exfalso
      apply hn
      have : s.toList.length = s.size := by rw [nd_toList]; rfl
      exact List.eq_nil_of_length_eq_zero (by omega)
    · omega
theorem weight_le (P : List S48) (h : P.any badP = false) : weightN P ≤ 82 * P.length := by
  unfold weightN
  induction P with
  | nil => simp
  | cons p P ih =>
    rw [List.any_cons, Bool.or_eq_false_iff] at h
    have h2 := ih h.2
    have h1 := h.1
    unfold badP at h1
    simp only [Bool.or_eq_false_iff, Bool.not_eq_false', decide_eq_false_iff_not] at h1
    have := keyB_size h1.1
    rw [List.map_cons, List.sum_cons, List.length_cons]
    omega
theorem keys_le (K : List ByteArray) (h : K.any badS = false) : (K.map fun k => 1 + k.size).sum ≤ 33 * K.length := by
  induction K with
  | nil => simp
  | cons p P ih =>
    rw [List.any_cons, Bool.or_eq_false_iff] at h
    have h2 := ih h.2
    have h1 := h.1
    unfold badS at h1
    rw [Bool.not_eq_false'] at h1
    have := keyB_size h1
    rw [List.map_cons, List.sum_cons, List.length_cons]
    omega
theorem leafV_true {lf : Bool} {P : List S48} {K : List ByteArray} {D : List Int} (h : leafV lf P K D = true) : lf = true ∧ K = [] ∧ D = [] ∧ P.length ≤ 255 ∧ P.any badP = false ∧ risesB (P.map (·.f0)) = true := by
  unfold leafV at h
  simp only [Bool.and_eq_true, decide_eq_true_eq, Bool.not_eq_true'] at h
  obtain ⟨⟨⟨⟨h1, h2⟩, h3⟩, h4⟩, h5⟩ := h
  exact ⟨h1, List.eq_nil_of_length_eq_zero (by omega), List.eq_nil_of_length_eq_zero (by omega), h3, h4, h5⟩
theorem innerV_true {lf : Bool} {P : List S48} {K : List ByteArray} {D : List Int} (h : innerV lf P K D = true) : lf = false ∧ P = [] ∧ 1 ≤ D.length ∧ D.length ≤ 255 ∧ K.length + 1 = D.length ∧ K.any badS = false ∧ D.any badI = false ∧ risesB K = true := by
  unfold innerV at h
  simp only [Bool.and_eq_true, decide_eq_true_eq, Bool.not_eq_true'] at h
  obtain ⟨⟨⟨⟨⟨⟨⟨h1, h2⟩, h3⟩, h4⟩, h5⟩, h6⟩, h7⟩, h8⟩ := h
  exact ⟨h1, List.eq_nil_of_length_eq_zero h2, h3, h4, h5, h6, h7, h8⟩
theorem size_form {lf : Bool} {P : List S48} {K : List ByteArray} {D : List Int} (h : (leafV lf P K D || innerV lf P K D) = true) : sizeN lf P K D ≤ 20912 := by
  rcases Bool.or_eq_true_iff.1 h with h | h
  · obtain ⟨rfl, rfl, rfl, h1, h2, _⟩ := leafV_true h
    have := weight_le P h2
    show 2 + weightN P ≤ _
    omega
  · obtain ⟨rfl, rfl, h1, h2, h3, h4, _⟩ := innerV_true h
    have := keys_le K h4
    show 2 + 2 * D.length + (K.map fun k => 1 + k.size).sum ≤ _
    omega
theorem check_val (lf : Bool) (P : List S48) (K : List ByteArray) (D : List Int) : node_Check.f lf P K D = some (if (leafV lf P K D || innerV lf P K D) = true then 0 else 2) := by
  unfold node_Check.f node_Node_leaf.f node_Node_inner.f
  rw [Option.bind_some, Option.bind_some]
  cases leafV lf P K D <;> cases innerV lf P K D <;> rfl
theorem pair_size {P : List S48} (h : P.any badP = false) (x : S48) (hx : x ∈ P) : x.f0.size ≤ 32 ∧ x.f1.size ≤ 48 ∧ 1 ≤ x.f0.size := by
  have h1 := (List.any_eq_false.1 h) x hx
  unfold badP at h1
  rw [Bool.not_eq_true, Bool.or_eq_false_iff, Bool.not_eq_false', decide_eq_false_iff_not] at h1
  have := keyB_size h1.1
  omega
theorem key_size {K : List ByteArray} (h : K.any badS = false) (x : ByteArray) (hx : x ∈ K) : x.size ≤ 32 ∧ 1 ≤ x.size := by
  have h1 := (List.any_eq_false.1 h) x hx
  unfold badS at h1
  rw [Bool.not_eq_true, Bool.not_eq_false'] at h1
  have := keyB_size h1
  omega
theorem kid_size {D : List Int} (h : D.any badI = false) (x : Int) (hx : x ∈ D) : 1 ≤ x ∧ x ≤ 65535 := by
  have h1 := (List.any_eq_false.1 h) x hx
  unfold badI at h1
  rw [Bool.not_eq_true, Bool.or_eq_false_iff, decide_eq_false_iff_not, decide_eq_false_iff_not] at h1
  omega
theorem pairs_take (P : List S48) (m : Nat) (h : m < P.length) : ((P.take m).flatMap pairL).length + (pairL P[m]).length ≤ (P.flatMap pairL).length := by
  have e : P.flatMap pairL = (P.take (m + 1)).flatMap pairL ++ (P.drop (m + 1)).flatMap pairL := by rw [← List.flatMap_append, List.take_append_drop]
  rw [e, List.length_append, List.take_succ_eq_append_getElem h, List.flatMap_append, List.length_append, List.flatMap_cons, List.flatMap_nil, List.append_nil]
  omega
theorem keys_take (P : List ByteArray) (m : Nat) (h : m < P.length) : ((P.take m).flatMap textL).length + (textL P[m]).length ≤ (P.flatMap textL).length := by
  have e : P.flatMap textL = (P.take (m + 1)).flatMap textL ++ (P.drop (m + 1)).flatMap textL := by rw [← List.flatMap_append, List.take_append_drop]
  rw [e, List.length_append, List.take_succ_eq_append_getElem h, List.flatMap_append, List.length_append, List.flatMap_cons, List.flatMap_nil, List.append_nil]
  omega
def BdL (B b : Nat) (l : List UInt8) (w : World) : Prop := Bd B b (Lib.byteCells l) w
theorem BdL.below {B b : Nat} {l : List UInt8} {w w1 : World} (h : BdL B b l w) (hb : Below w.heap.size w w1) : BdL B b l w1 := by
  have key : ∀ p, Lib.BuilderAt 68 5 B b p (Lib.byteCells l) w → Lib.BuilderAt 68 5 B b p (Lib.byteCells l) w1 := fun p ⟨h1, v, h2, h3, h4⟩ =>
    ⟨h1, v, (hb.block b (blk_lt h2)).trans h2, own_move h3 (fun k hk => hb.block k (own_lt h3 k hk)), h4⟩
  rcases h with h | h
  · exact Or.inl (key _ h)
  · exact Or.inr (key _ h)
theorem blt {B b : Nat} {l : List UInt8} {w : World} (h : BdL B b l w) : b < w.heap.size := by
  rcases h with h | h
  · exact h.lt
  · exact h.lt
theorem Kb.cell {b k i T : Nat} {cs : Array Value} {w w1 : World} (h : Kb b w w1) (hT : T ≠ 5) (hk : k ≠ b) (hh : w.heap[k]? = some (.cells cs T (0, 0))) : w1.cell? ⟨k, i, none⟩ = cs[i]? := blk_cell (h k cs T hT hk hh) i
theorem wb_calls (B b : Nat) (l : List UInt8) (c : UInt8) (x : Int) (w : World) (h : BdL B b l w) (hx : x = (c.toNat : Int)) (hlen : l.length ≤ 20912) (hBw : B ≤ w.heap.size) :
    Calls Try.prog 36 #[.pointer (some ⟨b, 0, none⟩), .int .u8 x] w fun e w' => e = .returned .nilIface ∧ (BdL B b (l ++ [c]) w' ∧ Below B w w' ∧ Kb b w w') := by
  subst hx
  refine (writeByte_calls B b _ (c.toNat : Int) w h (by rw [Lib.byteCells_length]; omega) hBw).mono ?_
  rintro e w' ⟨rfl, h1, h2, h3⟩
  refine ⟨rfl, ?_, h2, h3⟩
  unfold BdL
  rw [Lib.byteCells_append]
  exact h1
theorem ws_calls (B b : Nat) (l : List UInt8) (s : ByteArray) (w : World) (h : BdL B b l w) (hlen : l.length + s.size ≤ 20912) (hBw : B ≤ w.heap.size) :
    Calls Try.prog 37 #[.pointer (some ⟨b, 0, none⟩), .string s] w fun e w' => e = .returned (.tuple #[.int .i64 s.size, .nilIface]) ∧ (BdL B b (l ++ s.data.toList) w' ∧ Below B w w' ∧ Kb b w w') := by
  refine (writeString_calls B b _ s w h (by rw [Lib.byteCells_length]; omega) hBw).mono ?_
  rintro e w' ⟨rfl, h1, h2, h3⟩
  refine ⟨rfl, ?_, h2, h3⟩
  unfold BdL
  rw [Lib.byteCells_append, ← Lib.strCells_eq]
  exact h1
set_option maxHeartbeats 1000000 in
set_option maxRecDepth 100000 in
theorem put_calls (B b : Nat) (l : List UInt8) (s : ByteArray) (w : World) (h : BdL B b l w) (hs : s.size ≤ 255) (hlen : l.length + 1 + s.size ≤ 20912) (hBw : B ≤ w.heap.size) :
    Calls Try.prog 35 #[.string s, .pointer (some ⟨b, 0, none⟩)] w fun e w' => e = .returned (.tuple #[]) ∧ (BdL B b (l ++ textL s) w' ∧ Below B w w' ∧ Kb b w w') := by
  have W1 := Aside0.mk (fun x hx => wb_calls B b l (UInt8.ofNat s.size) x w h hx (by omega) hBw)
  have W2 := Aside0.mk (fun W hb hW => ws_calls B b (l ++ [UInt8.ofNat s.size]) s W hb (by rw [List.length_append]; show l.length + 1 + _ ≤ _; omega) hW)
  have HX : Aside0 (((s.size : Nat) : Int) = ((UInt8.ofNat s.size).toNat : Int)) := ⟨by simp; omega⟩
  have hs' : ((s.size : Nat) : Int) ≤ 255 := by omega
  have HB := Aside0.mk hBw
  clear h hlen hBw
  go_enter Try.func35, Try.ntmps35
  go_wp2_with fail
  refine (W1.out _ ?_).mono ?_
  · rw [← HX.out]
    try simp
    try omega
  rintro e w1 ⟨rfl, h1, hb, hk⟩
  have H1 := Aside0.mk h1
  have B1 := Aside0.mk hb
  have K1 := Aside0.mk hk
  clear h1 hb hk
  go_wp2_with fail
  refine (W2.out _ H1.out (Nat.le_trans HB.out B1.out.size)).mono ?_
  rintro e w2 ⟨rfl, h1, hb, hk⟩
  have H2 := Aside0.mk h1
  have B2 := Aside0.mk (B1.out.trans hb)
  have K2 := Aside0.mk (K1.out.trans hk)
  clear h1 hb hk
  go_wp2_with fail
  go_end0
  refine ⟨rfl, ?_, B2.out, K2.out⟩
  have := H2.out
  rw [List.append_assoc] at this
  exact this
set_option maxHeartbeats 4000000 in
set_option maxRecDepth 100000 in
theorem enc_bad (a0_0 : Bool) (A0_1 : Option Addr) (c0_1 : Nat) (l0_1 : List S48) (A0_2 : Option Addr) (c0_2 : Nat) (l0_2 : List ByteArray) (A0_3 : Option Addr) (c0_3 : Nat) (l0_3 : List Int) (w : World) (hr0_1 : Kd.C k48 w A0_1 l0_1.length l0_1) (hc0_1 : l0_1.length ≤ c0_1) (hr0_2 : Kd.C Kd.string w A0_2 l0_2.length l0_2) (hc0_2 : l0_2.length ≤ c0_2) (hr0_3 : Kd.C (Kd.int .i64) w A0_3 l0_3.length l0_3) (hc0_3 : l0_3.length ≤ c0_3) (hf : (leafV a0_0 l0_1 l0_2 l0_3 || innerV a0_0 l0_1 l0_2 l0_3) = false) :
    Calls Try.prog 13 #[.agg #[.bool a0_0, .slice A0_1 l0_1.length c0_1, .slice A0_2 l0_2.length c0_2, .slice A0_3 l0_3.length c0_3]] w fun e w' => e = .returned (.tuple #[.string ⟨#[]⟩, .int .i64 2]) ∧ Below w.heap.size w w' := by
  have CK := Aside0.mk (fun W hw => node_Check.calls a0_0 A0_1 c0_1 l0_1 A0_2 c0_2 l0_2 A0_3 c0_3 l0_3 2 W (Kd.C_below hr0_1 hw) hc0_1 (Kd.C_below hr0_2 hw) hc0_2 (Kd.C_below hr0_3 hw) hc0_3 (by rw [check_val, hf]; rfl))
  clear hr0_1 hc0_1 hr0_2 hc0_2 hr0_3 hc0_3 hf
  have BX := Aside0.mk (heap_alloc_new w (.cells #[.bool a0_0, .slice A0_1 l0_1.length c0_1, .slice A0_2 l0_2.length c0_2, .slice A0_3 l0_3.length c0_3] 31))
  obtain ⟨wa, hwa⟩ : ∃ wa, wa = w.alloc (.cells #[.bool a0_0, .slice A0_1 l0_1.length c0_1, .slice A0_2 l0_2.length c0_2, .slice A0_3 l0_3.length c0_3] 31) := ⟨_, rfl⟩
  have HWA := Aside0.mk hwa
  have BA := Aside0.mk (below_alloc (Below.refl w.heap.size w) (.cells #[.bool a0_0, .slice A0_1 l0_1.length c0_1, .slice A0_2 l0_2.length c0_2, .slice A0_3 l0_3.length c0_3] 31))
  rw [← hwa] at BX BA
  have SA : Aside0 (w.heap.size + 1 = wa.heap.size) := ⟨by rw [hwa]; simp⟩
  clear hwa
  have b0 : wa.cell? ⟨w.heap.size, 0, none⟩ = some (.bool a0_0) := blk_cell BX.out 0
  have b1 : wa.cell? ⟨w.heap.size, 1, none⟩ = some (.slice A0_1 l0_1.length c0_1) := blk_cell BX.out 1
  have b2 : wa.cell? ⟨w.heap.size, 2, none⟩ = some (.slice A0_2 l0_2.length c0_2) := blk_cell BX.out 2
  have b3 : wa.cell? ⟨w.heap.size, 3, none⟩ = some (.slice A0_3 l0_3.length c0_3) := blk_cell BX.out 3
  go_enter Try.func13, Try.ntmps13
  go_wp2_with fail
  rw [← HWA.out]
  refine (CK.out _ BA.out).mono ?_
  rintro e w1 ⟨rfl, hB⟩
  have B1 := Aside0.mk (BA.out.trans (hB.mono BA.out.size))
  clear hB
  go_wp2_with fail
  go_ret2
  exact ⟨rfl, B1.out⟩
set_option maxHeartbeats 4000000 in
set_option maxRecDepth 100000 in
theorem enc_big (a0_0 : Bool) (A0_1 : Option Addr) (c0_1 : Nat) (l0_1 : List S48) (A0_2 : Option Addr) (c0_2 : Nat) (l0_2 : List ByteArray) (A0_3 : Option Addr) (c0_3 : Nat) (l0_3 : List Int) (w : World) (hr0_1 : Kd.C k48 w A0_1 l0_1.length l0_1) (hc0_1 : l0_1.length ≤ c0_1) (hr0_2 : Kd.C Kd.string w A0_2 l0_2.length l0_2) (hc0_2 : l0_2.length ≤ c0_2) (hr0_3 : Kd.C (Kd.int .i64) w A0_3 l0_3.length l0_3) (hc0_3 : l0_3.length ≤ c0_3) (hf : (leafV a0_0 l0_1 l0_2 l0_3 || innerV a0_0 l0_1 l0_2 l0_3) = true) (hz : 160 < sizeN a0_0 l0_1 l0_2 l0_3) :
    Calls Try.prog 13 #[.agg #[.bool a0_0, .slice A0_1 l0_1.length c0_1, .slice A0_2 l0_2.length c0_2, .slice A0_3 l0_3.length c0_3]] w fun e w' => e = .returned (.tuple #[.string ⟨#[]⟩, .int .i64 14]) ∧ Below w.heap.size w w' := by
  have CK := Aside0.mk (fun W hw => node_Check.calls a0_0 A0_1 c0_1 l0_1 A0_2 c0_2 l0_2 A0_3 c0_3 l0_3 0 W (Kd.C_below hr0_1 hw) hc0_1 (Kd.C_below hr0_2 hw) hc0_2 (Kd.C_below hr0_3 hw) hc0_3 (by rw [check_val, hf]; rfl))
  have hS : node_Size.f (l0_1.length + l0_2.length + 1) a0_0 l0_1 l0_2 l0_3 = some ((sizeN a0_0 l0_1 l0_2 l0_3 : Nat) : Int) := by
    rw [size_val a0_0 l0_1 l0_2 l0_3 hr0_1.2.1 hr0_2.2.1 _ (by omega) (by omega)]
    rw [wrap_small (size_form hf)]
  have CS := Aside0.mk (fun W hw => node_Size.calls (l0_1.length + l0_2.length + 1) a0_0 A0_1 c0_1 l0_1 A0_2 c0_2 l0_2 A0_3 c0_3 l0_3 _ W (Kd.C_below hr0_1 hw) hc0_1 (Kd.C_below hr0_2 hw) hc0_2 (Kd.C_below hr0_3 hw) hc0_3 hS)
  have g0 : decide ((160 : Int) < ((sizeN a0_0 l0_1 l0_2 l0_3 : Nat) : Int)) = true := decide_eq_true (by omega)
  clear hr0_1 hc0_1 hr0_2 hc0_2 hr0_3 hc0_3 hf hS hz
  have BX := Aside0.mk (heap_alloc_new w (.cells #[.bool a0_0, .slice A0_1 l0_1.length c0_1, .slice A0_2 l0_2.length c0_2, .slice A0_3 l0_3.length c0_3] 31))
  obtain ⟨wa, hwa⟩ : ∃ wa, wa = w.alloc (.cells #[.bool a0_0, .slice A0_1 l0_1.length c0_1, .slice A0_2 l0_2.length c0_2, .slice A0_3 l0_3.length c0_3] 31) := ⟨_, rfl⟩
  have HWA := Aside0.mk hwa
  have BA := Aside0.mk (below_alloc (Below.refl w.heap.size w) (.cells #[.bool a0_0, .slice A0_1 l0_1.length c0_1, .slice A0_2 l0_2.length c0_2, .slice A0_3 l0_3.length c0_3] 31))
  rw [← hwa] at BX BA
  have SA : Aside0 (w.heap.size + 1 = wa.heap.size) := ⟨by rw [hwa]; simp⟩
  clear hwa
  have b0 : wa.cell? ⟨w.heap.size, 0, none⟩ = some (.bool a0_0) := blk_cell BX.out 0
  have b1 : wa.cell? ⟨w.heap.size, 1, none⟩ = some (.slice A0_1 l0_1.length c0_1) := blk_cell BX.out 1
  have b2 : wa.cell? ⟨w.heap.size, 2, none⟩ = some (.slice A0_2 l0_2.length c0_2) := blk_cell BX.out 2
  have b3 : wa.cell? ⟨w.heap.size, 3, none⟩ = some (.slice A0_3 l0_3.length c0_3) := blk_cell BX.out 3
  go_enter Try.func13, Try.ntmps13
  go_wp2_with fail
  rw [← HWA.out]
  refine (CK.out _ BA.out).mono ?_
  rintro e w1 ⟨rfl, hB⟩
  have B1 := Aside0.mk (BA.out.trans (hB.mono BA.out.size))
  have d0 : w1.cell? ⟨w.heap.size, 0, none⟩ = some (.bool a0_0) := nd_cell hB b0
  have d1 : w1.cell? ⟨w.heap.size, 1, none⟩ = some (.slice A0_1 l0_1.length c0_1) := nd_cell hB b1
  have d2 : w1.cell? ⟨w.heap.size, 2, none⟩ = some (.slice A0_2 l0_2.length c0_2) := nd_cell hB b2
  have d3 : w1.cell? ⟨w.heap.size, 3, none⟩ = some (.slice A0_3 l0_3.length c0_3) := nd_cell hB b3
  clear b0 b1 b2 b3 hB
  go_wp2_with fail
  refine (CS.out _ B1.out).mono ?_
  rintro e w2 ⟨rfl, hB⟩
  have B2 := Aside0.mk (B1.out.trans (hB.mono B1.out.size))
  clear d0 d1 d2 d3 hB
  go_wp2_with fail
  go_ret2
  exact ⟨rfl, B2.out⟩
set_option maxHeartbeats 4000000 in
set_option maxRecDepth 100000 in
theorem enc_leaf (A0_1 : Option Addr) (c0_1 : Nat) (l0_1 : List S48) (A0_2 : Option Addr) (c0_2 : Nat) (l0_2 : List ByteArray) (A0_3 : Option Addr) (c0_3 : Nat) (l0_3 : List Int) (w : World) (hr0_1 : Kd.C k48 w A0_1 l0_1.length l0_1) (hc0_1 : l0_1.length ≤ c0_1) (hr0_2 : Kd.C Kd.string w A0_2 l0_2.length l0_2) (hc0_2 : l0_2.length ≤ c0_2) (hr0_3 : Kd.C (Kd.int .i64) w A0_3 l0_3.length l0_3) (hc0_3 : l0_3.length ≤ c0_3) (hl : leafV true l0_1 l0_2 l0_3 = true) (hz : sizeN true l0_1 l0_2 l0_3 ≤ 160) (E : List UInt8) (hE : E = encL true l0_1 l0_2 l0_3) :
    Calls Try.prog 13 #[.agg #[.bool true, .slice A0_1 l0_1.length c0_1, .slice A0_2 l0_2.length c0_2, .slice A0_3 l0_3.length c0_3]] w fun e w' => e = .returned (.tuple #[.string ⟨E.toArray⟩, .int .i64 0]) ∧ Below w.heap.size w w' := by
  have HE0 := Aside0.mk hE
  clear hE
  have hf : (leafV true l0_1 l0_2 l0_3 || innerV true l0_1 l0_2 l0_3) = true := by rw [hl]; rfl
  have CK := Aside0.mk (fun W hw => node_Check.calls true A0_1 c0_1 l0_1 A0_2 c0_2 l0_2 A0_3 c0_3 l0_3 0 W (Kd.C_below hr0_1 hw) hc0_1 (Kd.C_below hr0_2 hw) hc0_2 (Kd.C_below hr0_3 hw) hc0_3 (by rw [check_val, hf]; rfl))
  have hS : node_Size.f (l0_1.length + l0_2.length + 1) true l0_1 l0_2 l0_3 = some ((sizeN true l0_1 l0_2 l0_3 : Nat) : Int) := by
    rw [size_val true l0_1 l0_2 l0_3 hr0_1.2.1 hr0_2.2.1 _ (by omega) (by omega)]
    rw [wrap_small (size_form hf)]
  have CS := Aside0.mk (fun W hw => node_Size.calls (l0_1.length + l0_2.length + 1) true A0_1 c0_1 l0_1 A0_2 c0_2 l0_2 A0_3 c0_3 l0_3 _ W (Kd.C_below hr0_1 hw) hc0_1 (Kd.C_below hr0_2 hw) hc0_2 (Kd.C_below hr0_3 hw) hc0_3 hS)
  have g0 : decide ((160 : Int) < ((sizeN true l0_1 l0_2 l0_3 : Nat) : Int)) = false := decide_eq_false (by omega)
  have p255 : (l0_1.length : Int) ≤ 255 := by have := (leafV_true hl).2.2.2.1; omega
  have HV := Aside0.mk hl
  have R1 := Aside0.mk hr0_1
  have R2 := Aside0.mk hr0_2
  have R3 := Aside0.mk hr0_3
  have L1 : l0_1.length ≤ 9223372036854775807 := hr0_1.2.1
  have L2 : l0_2.length ≤ 9223372036854775807 := hr0_2.2.1
  have L3 : l0_3.length ≤ 9223372036854775807 := hr0_3.2.1
  have HF := Aside0.mk hf
  have HZ := Aside0.mk hz
  clear hr0_1 hc0_1 hr0_2 hc0_2 hr0_3 hc0_3 hf hS hz hl
  have BX := Aside0.mk (heap_alloc_new w (.cells #[.bool true, .slice A0_1 l0_1.length c0_1, .slice A0_2 l0_2.length c0_2, .slice A0_3 l0_3.length c0_3] 31))
  obtain ⟨wa, hwa⟩ : ∃ wa, wa = w.alloc (.cells #[.bool true, .slice A0_1 l0_1.length c0_1, .slice A0_2 l0_2.length c0_2, .slice A0_3 l0_3.length c0_3] 31) := ⟨_, rfl⟩
  have HWA := Aside0.mk hwa
  have BA := Aside0.mk (below_alloc (Below.refl w.heap.size w) (.cells #[.bool true, .slice A0_1 l0_1.length c0_1, .slice A0_2 l0_2.length c0_2, .slice A0_3 l0_3.length c0_3] 31))
  rw [← hwa] at BX BA
  have SA : Aside0 (w.heap.size + 1 = wa.heap.size) := ⟨by rw [hwa]; simp⟩
  clear hwa
  have b0 : wa.cell? ⟨w.heap.size, 0, none⟩ = some (.bool true) := blk_cell BX.out 0
  have b1 : wa.cell? ⟨w.heap.size, 1, none⟩ = some (.slice A0_1 l0_1.length c0_1) := blk_cell BX.out 1
  have b2 : wa.cell? ⟨w.heap.size, 2, none⟩ = some (.slice A0_2 l0_2.length c0_2) := blk_cell BX.out 2
  have b3 : wa.cell? ⟨w.heap.size, 3, none⟩ = some (.slice A0_3 l0_3.length c0_3) := blk_cell BX.out 3
  go_enter Try.func13, Try.ntmps13
  go_wp2_with fail
  rw [← HWA.out]
  refine (CK.out _ BA.out).mono ?_
  rintro e w1 ⟨rfl, hB⟩
  have B1 := Aside0.mk (BA.out.trans (hB.mono BA.out.size))
  have d0 : w1.cell? ⟨w.heap.size, 0, none⟩ = some (.bool true) := nd_cell hB b0
  have d1 : w1.cell? ⟨w.heap.size, 1, none⟩ = some (.slice A0_1 l0_1.length c0_1) := nd_cell hB b1
  have d2 : w1.cell? ⟨w.heap.size, 2, none⟩ = some (.slice A0_2 l0_2.length c0_2) := nd_cell hB b2
  have d3 : w1.cell? ⟨w.heap.size, 3, none⟩ = some (.slice A0_3 l0_3.length c0_3) := nd_cell hB b3
  clear b0 b1 b2 b3 hB
  go_wp2_with fail
  refine (CS.out _ B1.out).mono ?_
  rintro e w2 ⟨rfl, hB⟩
  have B2 := Aside0.mk (B1.out.trans (hB.mono B1.out.size))
  have b0 := nd_cell hB d0
  have b1 := nd_cell hB d1
  have b2 := nd_cell hB d2
  have b3 := nd_cell hB d3
  clear d0 d1 d2 d3 hB
  have x3 := below_alloc (Below.refl w2.heap.size w2) (.cells #[.pointer none, .slice none 0 0] 68)
  have d0 := nd_cell x3 b0
  have d1 := nd_cell x3 b1
  have d2 := nd_cell x3 b2
  have d3 := nd_cell x3 b3
  clear x3
  obtain ⟨w3, hw3⟩ : ∃ w3, w3 = w2.alloc (.cells #[.pointer none, .slice none 0 0] 68) := ⟨_, rfl⟩
  have HW3 := Aside0.mk hw3
  have X3 : Aside0 (Below w2.heap.size w2 w3) := ⟨by rw [hw3]; exact below_alloc (Below.refl _ _) _⟩
  have BD3 : Aside0 (BdL w2.heap.size w2.heap.size [] w3) := ⟨by rw [hw3]; exact Lib.fresh_isBuilder 68 5 w2⟩
  clear hw3
  go_wp2_with fail
  rw [← HW3.out]
  clear d0 d1 d2 d3
  refine (wb_calls w2.heap.size w2.heap.size [] 1 1 w3 BD3.out rfl (by simp) X3.out.size).mono ?_
  rintro e w4 ⟨rfl, hb, hB, _⟩
  have BD4 : Aside0 (BdL w2.heap.size w2.heap.size ([] ++ [1]) w4) := ⟨hb⟩
  have X4 := Aside0.mk (X3.out.trans hB)
  clear hb hB
  have e0 := nd_cell X4.out b0
  have e1 := nd_cell X4.out b1
  have e2 := nd_cell X4.out b2
  have e3 := nd_cell X4.out b3
  go_wp2_with fail
  clear e0 e1 e2 e3
  refine (wb_calls w2.heap.size w2.heap.size _ (UInt8.ofNat l0_1.length) _ w4 BD4.out (by simp; omega) (by simp) X4.out.size).mono ?_
  rintro e w5 ⟨rfl, hb, hB, _⟩
  have BD5 : Aside0 (BdL w2.heap.size w2.heap.size ([] ++ [1] ++ [UInt8.ofNat l0_1.length]) w5) := ⟨hb⟩
  have X5 := Aside0.mk (X4.out.trans hB)
  clear hb hB
  have e0 := nd_cell X5.out b0
  have e1 := nd_cell X5.out b1
  have e2 := nd_cell X5.out b2
  have e3 := nd_cell X5.out b3
  go_wp2_with fail
  clear e0 e1 e2 e3 b0 b1 b2 b3
  go_loopw [32] (fun v32 w' => ∃ m : Nat, m ≤ l0_1.length ∧ v32 = .int .i64 (m : Int) ∧ Aside0 (BdL w2.heap.size w2.heap.size (1 :: UInt8.ofNat l0_1.length :: (l0_1.take m).flatMap pairL) w') ∧ Aside0 (Below w2.heap.size w2 w')) (fun v32 _ => (l0_1.length - intOf v32).toNat)
  case atStart => exact ⟨0, by omega, rfl, ⟨BD5.out⟩, X5⟩
  case round =>
    obtain ⟨m, hm, rfl, HD, HX2⟩ := hrel
    by_cases h : m < l0_1.length
    · have p1 : (0 : Int) ≤ (m : Int) := by omega
      have q1 : (m : Int) < (l0_1.length : Int) := by omega
      have HB : Aside0 (Below w.heap.size w wr) := ⟨B2.out.trans (HX2.out.mono B2.out.size)⟩
      obtain ⟨ad, rfl, hx0, hx1⟩ := at_T48 (Kd.C_below R1.out HB.out) (m : Int) p1 q1
      obtain ⟨x, hxx⟩ : ∃ x, x = rd_T48 l0_1 (m : Int) := ⟨_, rfl⟩
      have hg : l0_1[m] = x := by rw [hxx]; unfold rd_T48; simp [List.getD_eq_getElem?_getD, h]
      rw [← hxx] at hx0 hx1
      have HX := Aside0.mk hg
      clear hxx hg
      rw [Int.toNat_natCast] at hx0 hx1
      have d1 : decide (m < l0_1.length) = true := decide_eq_true h
      have d1' : decide ((m : Int) < (l0_1.length : Int)) = true := decide_eq_true q1
      have FX : Aside0 (x.f0.size ≤ 255 ∧ x.f1.size ≤ 255) := ⟨by
        have := pair_size (leafV_true HV.out).2.2.2.2.1 (l0_1[m]) (List.getElem_mem h)
        rw [HX.out] at this
        omega⟩
      have LL : Aside0 ((1 :: UInt8.ofNat l0_1.length :: (l0_1.take m).flatMap pairL).length + (pairL x).length ≤ 160) := ⟨by
        have h1 := pairs_take l0_1 m h
        rw [HX.out] at h1
        have h2 := HZ.out
        have h3 := encL_length true l0_1 l0_2 l0_3
        simp only [encL, if_true, List.length_cons] at h3
        simp only [List.length_cons]
        omega⟩
      have LP := Aside0.mk (pairL_length x)
      have NX : Aside0 (1 :: UInt8.ofNat l0_1.length :: (l0_1.take (m + 1)).flatMap pairL = ((1 :: UInt8.ofNat l0_1.length :: (l0_1.take m).flatMap pairL) ++ textL x.f0) ++ textL x.f1) := ⟨by
        rw [List.take_succ_eq_append_getElem h, HX.out, List.flatMap_append]
        simp [pairL]⟩
      clear HX
      obtain ⟨L0, hL0⟩ : ∃ L, L = 1 :: UInt8.ofNat l0_1.length :: (l0_1.take m).flatMap pairL := ⟨_, rfl⟩
      rw [← hL0] at LL NX HD
      clear hL0
      have ws : w2.heap.size ≤ wr.heap.size := HX2.out.size
      go_wp2_with fail
      have KA := Aside0.mk (heap_alloc_new wr (.cells #[.string x.f0, .string x.f1] 48))
      have BA2 := Aside0.mk (below_alloc (Below.refl wr.heap.size wr) (.cells #[.string x.f0, .string x.f1] 48))
      refine (put_calls w2.heap.size w2.heap.size L0 x.f0 _ (HD.out.below BA2.out) FX.out.1 (by have := LL.out; have := LP.out; omega) (Nat.le_trans ws BA2.out.size)).mono ?_
      rintro e wp ⟨rfl, hb, hB, hk⟩
      have hne : wr.heap.size ≠ w2.heap.size := by have := blt HD.out; omega
      have c1 : wp.cell? ⟨wr.heap.size, 1, none⟩ = some (.string x.f1) := hk.cell (by decide) hne KA.out
      have HD1 := Aside0.mk hb
      have HX1 := Aside0.mk (HX2.out.trans ((BA2.out.mono HX2.out.size).trans hB))
      clear hb hB hk hne KA HD HX2 hx0 hx1
      go_wp2_with fail
      refine (put_calls w2.heap.size w2.heap.size (L0 ++ textL x.f0) x.f1 _ HD1.out FX.out.2 (by have := LL.out; have := LP.out; rw [List.length_append, textL_length]; omega) HX1.out.size).mono ?_
      rintro e wq ⟨rfl, hb, hB, hk⟩
      have HDQ := Aside0.mk hb
      have HXQ := Aside0.mk (HX1.out.trans hB)
      clear hb hB hk HD1 HX1 c1
      go_wp2_with fail
      go_roundw
      case rel => exact ⟨m + 1, by omega, by first | rfl | go_num, ⟨by rw [NX.out]; exact HDQ.out⟩, HXQ⟩
      case measure => simp [intOf]; omega
    · have hd : decide ((m : Int) < (l0_1.length : Int)) = false := decide_eq_false (by omega)
      have hd' : decide (m < l0_1.length) = false := decide_eq_false h
      have HE : Aside0 (E = 1 :: UInt8.ofNat l0_1.length :: (l0_1.take m).flatMap pairL) := ⟨by rw [HE0.out, List.take_of_length_le (by omega)]; rfl⟩
      have HN : Aside0 (E ≠ []) := ⟨by rw [HE.out]; exact List.cons_ne_nil _ _⟩
      have HD2 : Aside0 (BdL w2.heap.size w2.heap.size E wr) := ⟨by rw [HE.out]; exact HD.out⟩
      clear HE HD
      go_wp2_with fail
      refine (builderString_calls w2.heap.size w2.heap.size E _ HD2.out HN.out).mono ?_
      rintro e wq ⟨rfl, hB⟩
      have HXQ := Aside0.mk (B2.out.trans ((HX2.out.trans hB).mono B2.out.size))
      clear hB
      go_wp2_with fail
      go_ret2
      exact ⟨rfl, HXQ.out⟩
set_option maxHeartbeats 4000000 in
set_option maxRecDepth 100000 in
theorem enc_inner (A0_1 : Option Addr) (c0_1 : Nat) (l0_1 : List S48) (A0_2 : Option Addr) (c0_2 : Nat) (l0_2 : List ByteArray) (A0_3 : Option Addr) (c0_3 : Nat) (l0_3 : List Int) (w : World) (hr0_1 : Kd.C k48 w A0_1 l0_1.length l0_1) (hc0_1 : l0_1.length ≤ c0_1) (hr0_2 : Kd.C Kd.string w A0_2 l0_2.length l0_2) (hc0_2 : l0_2.length ≤ c0_2) (hr0_3 : Kd.C (Kd.int .i64) w A0_3 l0_3.length l0_3) (hc0_3 : l0_3.length ≤ c0_3) (hl : innerV false l0_1 l0_2 l0_3 = true) (hz : sizeN false l0_1 l0_2 l0_3 ≤ 160) (E : List UInt8) (hE : E = encL false l0_1 l0_2 l0_3) :
    Calls Try.prog 13 #[.agg #[.bool false, .slice A0_1 l0_1.length c0_1, .slice A0_2 l0_2.length c0_2, .slice A0_3 l0_3.length c0_3]] w fun e w' => e = .returned (.tuple #[.string ⟨E.toArray⟩, .int .i64 0]) ∧ Below w.heap.size w w' := by
  have HE0 := Aside0.mk hE
  clear hE
  have hf : (leafV false l0_1 l0_2 l0_3 || innerV false l0_1 l0_2 l0_3) = true := by rw [hl]; simp
  have CK := Aside0.mk (fun W hw => node_Check.calls false A0_1 c0_1 l0_1 A0_2 c0_2 l0_2 A0_3 c0_3 l0_3 0 W (Kd.C_below hr0_1 hw) hc0_1 (Kd.C_below hr0_2 hw) hc0_2 (Kd.C_below hr0_3 hw) hc0_3 (by rw [check_val, hf]; rfl))
  have hS : node_Size.f (l0_1.length + l0_2.length + 1) false l0_1 l0_2 l0_3 = some ((sizeN false l0_1 l0_2 l0_3 : Nat) : Int) := by
    rw [size_val false l0_1 l0_2 l0_3 hr0_1.2.1 hr0_2.2.1 _ (by omega) (by omega)]
    rw [wrap_small (size_form hf)]
  have CS := Aside0.mk (fun W hw => node_Size.calls (l0_1.length + l0_2.length + 1) false A0_1 c0_1 l0_1 A0_2 c0_2 l0_2 A0_3 c0_3 l0_3 _ W (Kd.C_below hr0_1 hw) hc0_1 (Kd.C_below hr0_2 hw) hc0_2 (Kd.C_below hr0_3 hw) hc0_3 hS)
  have g0 : decide ((160 : Int) < ((sizeN false l0_1 l0_2 l0_3 : Nat) : Int)) = false := decide_eq_false (by omega)
  have p255 : (l0_3.length : Int) ≤ 255 := by have := (innerV_true hl).2.2.2.1; omega
  have HV := Aside0.mk hl
  have R1 := Aside0.mk hr0_1
  have R2 := Aside0.mk hr0_2
  have R3 := Aside0.mk hr0_3
  have L1 : l0_1.length ≤ 9223372036854775807 := hr0_1.2.1
  have L2 : l0_2.length ≤ 9223372036854775807 := hr0_2.2.1
  have L3 : l0_3.length ≤ 9223372036854775807 := hr0_3.2.1
  have HF := Aside0.mk hf
  have HZ := Aside0.mk hz
  clear hr0_1 hc0_1 hr0_2 hc0_2 hr0_3 hc0_3 hf hS hz hl
  have BX := Aside0.mk (heap_alloc_new w (.cells #[.bool false, .slice A0_1 l0_1.length c0_1, .slice A0_2 l0_2.length c0_2, .slice A0_3 l0_3.length c0_3] 31))
  obtain ⟨wa, hwa⟩ : ∃ wa, wa = w.alloc (.cells #[.bool false, .slice A0_1 l0_1.length c0_1, .slice A0_2 l0_2.length c0_2, .slice A0_3 l0_3.length c0_3] 31) := ⟨_, rfl⟩
  have HWA := Aside0.mk hwa
  have BA := Aside0.mk (below_alloc (Below.refl w.heap.size w) (.cells #[.bool false, .slice A0_1 l0_1.length c0_1, .slice A0_2 l0_2.length c0_2, .slice A0_3 l0_3.length c0_3] 31))
  rw [← hwa] at BX BA
  have SA : Aside0 (w.heap.size + 1 = wa.heap.size) := ⟨by rw [hwa]; simp⟩
  clear hwa
  have b0 : wa.cell? ⟨w.heap.size, 0, none⟩ = some (.bool false) := blk_cell BX.out 0
  have b1 : wa.cell? ⟨w.heap.size, 1, none⟩ = some (.slice A0_1 l0_1.length c0_1) := blk_cell BX.out 1
  have b2 : wa.cell? ⟨w.heap.size, 2, none⟩ = some (.slice A0_2 l0_2.length c0_2) := blk_cell BX.out 2
  have b3 : wa.cell? ⟨w.heap.size, 3, none⟩ = some (.slice A0_3 l0_3.length c0_3) := blk_cell BX.out 3
  go_enter Try.func13, Try.ntmps13
  go_wp2_with fail
  rw [← HWA.out]
  refine (CK.out _ BA.out).mono ?_
  rintro e w1 ⟨rfl, hB⟩
  have B1 := Aside0.mk (BA.out.trans (hB.mono BA.out.size))
  have d0 : w1.cell? ⟨w.heap.size, 0, none⟩ = some (.bool false) := nd_cell hB b0
  have d1 : w1.cell? ⟨w.heap.size, 1, none⟩ = some (.slice A0_1 l0_1.length c0_1) := nd_cell hB b1
  have d2 : w1.cell? ⟨w.heap.size, 2, none⟩ = some (.slice A0_2 l0_2.length c0_2) := nd_cell hB b2
  have d3 : w1.cell? ⟨w.heap.size, 3, none⟩ = some (.slice A0_3 l0_3.length c0_3) := nd_cell hB b3
  clear b0 b1 b2 b3 hB
  go_wp2_with fail
  refine (CS.out _ B1.out).mono ?_
  rintro e w2 ⟨rfl, hB⟩
  have B2 := Aside0.mk (B1.out.trans (hB.mono B1.out.size))
  have b0 := nd_cell hB d0
  have b1 := nd_cell hB d1
  have b2 := nd_cell hB d2
  have b3 := nd_cell hB d3
  clear d0 d1 d2 d3 hB
  have x3 := below_alloc (Below.refl w2.heap.size w2) (.cells #[.pointer none, .slice none 0 0] 68)
  have d0 := nd_cell x3 b0
  have d1 := nd_cell x3 b1
  have d2 := nd_cell x3 b2
  have d3 := nd_cell x3 b3
  clear x3
  obtain ⟨w3, hw3⟩ : ∃ w3, w3 = w2.alloc (.cells #[.pointer none, .slice none 0 0] 68) := ⟨_, rfl⟩
  have HW3 := Aside0.mk hw3
  have X3 : Aside0 (Below w2.heap.size w2 w3) := ⟨by rw [hw3]; exact below_alloc (Below.refl _ _) _⟩
  have BD3 : Aside0 (BdL w2.heap.size w2.heap.size [] w3) := ⟨by rw [hw3]; exact Lib.fresh_isBuilder 68 5 w2⟩
  clear hw3
  go_wp2_with fail
  rw [← HW3.out]
  clear d0 d1 d2 d3
  refine (wb_calls w2.heap.size w2.heap.size [] 2 2 w3 BD3.out rfl (by simp) X3.out.size).mono ?_
  rintro e w4 ⟨rfl, hb, hB, _⟩
  have BD4 : Aside0 (BdL w2.heap.size w2.heap.size ([] ++ [2]) w4) := ⟨hb⟩
  have X4 := Aside0.mk (X3.out.trans hB)
  clear hb hB
  have e0 := nd_cell X4.out b0
  have e1 := nd_cell X4.out b1
  have e2 := nd_cell X4.out b2
  have e3 := nd_cell X4.out b3
  go_wp2_with fail
  clear e0 e1 e2 e3
  refine (wb_calls w2.heap.size w2.heap.size _ (UInt8.ofNat l0_3.length) _ w4 BD4.out (by simp; omega) (by simp) X4.out.size).mono ?_
  rintro e w5 ⟨rfl, hb, hB, _⟩
  have BD5 : Aside0 (BdL w2.heap.size w2.heap.size ([] ++ [2] ++ [UInt8.ofNat l0_3.length]) w5) := ⟨hb⟩
  have X5 := Aside0.mk (X4.out.trans hB)
  clear hb hB
  have e0 := nd_cell X5.out b0
  have e1 := nd_cell X5.out b1
  have e2 := nd_cell X5.out b2
  have e3 := nd_cell X5.out b3
  go_wp2_with fail
  have B2c := Aside0.mk b2
  clear e0 e1 e2 e3 b0 b1 b2 b3
  go_loopw [55] (fun v55 w' => ∃ m : Nat, m ≤ l0_3.length ∧ v55 = .int .i64 (m : Int) ∧ Aside0 (BdL w2.heap.size w2.heap.size (2 :: UInt8.ofNat l0_3.length :: (l0_3.take m).flatMap kidL) w') ∧ Aside0 (Below w2.heap.size w2 w')) (fun v55 _ => (l0_3.length - intOf v55).toNat)
  case atStart => exact ⟨0, by omega, rfl, ⟨BD5.out⟩, X5⟩
  case round =>
    obtain ⟨m, hm, rfl, HD, HX2⟩ := hrel
    by_cases h : m < l0_3.length
    · have p1 : (0 : Int) ≤ (m : Int) := by omega
      have q1 : (m : Int) < (l0_3.length : Int) := by omega
      have HB : Aside0 (Below w.heap.size w wr) := ⟨B2.out.trans (HX2.out.mono B2.out.size)⟩
      obtain ⟨ad, e, hx⟩ := Kd.at_int (Kd.C_below R3.out HB.out) (m : Int) p1 q1
      cases e
      obtain ⟨x, hxx⟩ : ∃ x, x = rd l0_3 (m : Int) := ⟨_, rfl⟩
      have hg : l0_3[m] = x := by rw [hxx]; simp [rd, List.getD_eq_getElem?_getD, h]
      rw [← hxx] at hx
      have HX := Aside0.mk hg
      clear hxx hg
      rw [Int.toNat_natCast] at hx
      have d1 : decide (m < l0_3.length) = true := decide_eq_true h
      have d1' : decide ((m : Int) < (l0_3.length : Int)) = true := decide_eq_true q1
      obtain ⟨x1, x2⟩ : 1 ≤ x ∧ x ≤ 65535 := by
        have := kid_size (innerV_true HV.out).2.2.2.2.2.2.1 (l0_3[m]) (List.getElem_mem h)
        rw [HX.out] at this
        exact this
      have LL : Aside0 ((2 :: UInt8.ofNat l0_3.length :: (l0_3.take m).flatMap kidL).length + 2 ≤ 20912) := ⟨by
        have h3 := kids_length (l0_3.take m)
        rw [List.length_take] at h3
        simp only [List.length_cons]
        omega⟩
      have NX : Aside0 (2 :: UInt8.ofNat l0_3.length :: (l0_3.take (m + 1)).flatMap kidL = ((2 :: UInt8.ofNat l0_3.length :: (l0_3.take m).flatMap kidL) ++ [UInt8.ofNat (x % 256).toNat]) ++ [UInt8.ofNat (x / 256 % 256).toNat]) := ⟨by
        rw [List.take_succ_eq_append_getElem h, HX.out, List.flatMap_append]
        simp [kidL]⟩
      clear HX
      obtain ⟨L0, hL0⟩ : ∃ L, L = 2 :: UInt8.ofNat l0_3.length :: (l0_3.take m).flatMap kidL := ⟨_, rfl⟩
      rw [← hL0] at LL NX HD
      clear hL0
      go_wp2_with fail
      refine (wb_calls w2.heap.size w2.heap.size L0 (UInt8.ofNat (x % 256).toNat) _ wr HD.out (by simp; omega) (by have := LL.out; omega) HX2.out.size).mono ?_
      rintro e wp ⟨rfl, hb, hB, hk⟩
      have HD1 := Aside0.mk hb
      have HX1 := Aside0.mk (HX2.out.trans hB)
      clear hb hB hk HD HX2 hx
      go_wp2_with fail
      refine (wb_calls w2.heap.size w2.heap.size (L0 ++ [UInt8.ofNat (x % 256).toNat]) (UInt8.ofNat (x / 256 % 256).toNat) _ wp HD1.out (by simp; omega) (by have := LL.out; simp; omega) HX1.out.size).mono ?_
      rintro e wq ⟨rfl, hb, hB, hk⟩
      have HDQ := Aside0.mk hb
      have HXQ := Aside0.mk (HX1.out.trans hB)
      clear hb hB hk HD1 HX1
      go_wp2_with fail
      go_roundw
      case rel => exact ⟨m + 1, by omega, by first | rfl | go_num, ⟨by rw [NX.out]; exact HDQ.out⟩, HXQ⟩
      case measure => simp [intOf]; omega
    · have hd : decide ((m : Int) < (l0_3.length : Int)) = false := decide_eq_false (by omega)
      have hd' : decide (m < l0_3.length) = false := decide_eq_false h
      have HD2 : Aside0 (BdL w2.heap.size w2.heap.size (2 :: UInt8.ofNat l0_3.length :: l0_3.flatMap kidL) wr) := ⟨by have := HD.out; rwa [List.take_of_length_le (by omega)] at this⟩
      have e2 := nd_cell HX2.out B2c.out
      clear HD
      go_wp2_with fail
      clear e2
      obtain ⟨T0, hT0⟩ : ∃ T, T = 2 :: UInt8.ofNat l0_3.length :: l0_3.flatMap kidL := ⟨_, rfl⟩
      rw [← hT0] at HD2
      have HT0 := Aside0.mk hT0
      clear hT0
      go_loopw [70] (fun v70 w' => ∃ n : Nat, n ≤ l0_2.length ∧ v70 = .int .i64 (n : Int) ∧ Aside0 (BdL w2.heap.size w2.heap.size (T0 ++ (l0_2.take n).flatMap textL) w') ∧ Aside0 (Below w2.heap.size w2 w')) (fun v70 _ => (l0_2.length - intOf v70).toNat)
      case atStart => exact ⟨0, by omega, rfl, ⟨by rw [List.take_zero, List.flatMap_nil, List.append_nil]; exact HD2.out⟩, HX2⟩
      case round =>
        obtain ⟨n, hn, rfl, HDn, HXn⟩ := hrel
        by_cases hh : n < l0_2.length
        · have p1 : (0 : Int) ≤ (n : Int) := by omega
          have q1 : (n : Int) < (l0_2.length : Int) := by omega
          have HB : Aside0 (Below w.heap.size w wr) := ⟨B2.out.trans (HXn.out.mono B2.out.size)⟩
          obtain ⟨ad, e, hx⟩ := Kd.at_string (Kd.C_below R2.out HB.out) (n : Int) p1 q1
          cases e
          obtain ⟨x, hxx⟩ : ∃ x, x = rdOf ByteArray.empty l0_2 (n : Int) := ⟨_, rfl⟩
          have hg : l0_2[n] = x := by rw [hxx]; simp [rdOf, List.getD_eq_getElem?_getD, hh]
          rw [← hxx] at hx
          have HX := Aside0.mk hg
          clear hxx hg
          rw [Int.toNat_natCast] at hx
          have d1 : decide (n < l0_2.length) = true := decide_eq_true hh
          have d1' : decide ((n : Int) < (l0_2.length : Int)) = true := decide_eq_true q1
          have FX : Aside0 (x.size ≤ 255) := ⟨by
            have := key_size (innerV_true HV.out).2.2.2.2.2.1 (l0_2[n]) (List.getElem_mem hh)
            rw [HX.out] at this
            omega⟩
          have LL : Aside0 ((T0 ++ (l0_2.take n).flatMap textL).length + 1 + x.size ≤ 20912) := ⟨by
            have h1 := keys_take l0_2 n hh
            rw [HX.out, textL_length] at h1
            have h2 := HZ.out
            have h3 := encL_length false l0_1 l0_2 l0_3
            simp only [encL, Bool.false_eq_true, if_false, List.length_cons, List.length_append] at h3
            rw [HT0.out]
            simp only [List.length_cons, List.length_append]
            omega⟩
          have NX : Aside0 (T0 ++ (l0_2.take (n + 1)).flatMap textL = (T0 ++ (l0_2.take n).flatMap textL) ++ textL x) := ⟨by
            rw [List.take_succ_eq_append_getElem hh, HX.out, List.flatMap_append]
            simp⟩
          clear HX
          obtain ⟨L0, hL0⟩ : ∃ L, L = T0 ++ (l0_2.take n).flatMap textL := ⟨_, rfl⟩
          rw [← hL0] at LL NX HDn
          clear hL0
          go_wp2_with fail
          refine (put_calls w2.heap.size w2.heap.size L0 x _ HDn.out FX.out LL.out HXn.out.size).mono ?_
          rintro e wq ⟨rfl, hb, hB, hk⟩
          have HDQ := Aside0.mk hb
          have HXQ := Aside0.mk (HXn.out.trans hB)
          clear hb hB hk HDn HXn hx
          go_wp2_with fail
          go_roundw
          case rel => exact ⟨n + 1, by omega, by first | rfl | go_num, ⟨by rw [NX.out]; exact HDQ.out⟩, HXQ⟩
          case measure => simp [intOf]; omega
        · have hd : decide ((n : Int) < (l0_2.length : Int)) = false := decide_eq_false (by omega)
          have hd' : decide (n < l0_2.length) = false := decide_eq_false hh
          have HE : Aside0 (E = T0 ++ (l0_2.take n).flatMap textL) := ⟨by rw [HE0.out, List.take_of_length_le (by omega), HT0.out]; rfl⟩
          have HN : Aside0 (E ≠ []) := ⟨by rw [HE0.out]; exact List.cons_ne_nil _ _⟩
          have HDE : Aside0 (BdL w2.heap.size w2.heap.size E wr) := ⟨by rw [HE.out]; exact HDn.out⟩
          clear HE HDn
          go_wp2_with fail
          refine (builderString_calls w2.heap.size w2.heap.size E _ HDE.out HN.out).mono ?_
          rintro e wq ⟨rfl, hB⟩
          have HXQ := Aside0.mk (B2.out.trans ((HXn.out.trans hB).mono B2.out.size))
          clear hB
          go_wp2_with fail
          go_ret2
          exact ⟨rfl, HXQ.out⟩
def node_Encode.f (a0_0 : Bool) (l0_1 : List (S48)) (l0_2 : List ByteArray) (l0_3 : List Int) : Option (ByteArray × Int) := some (if (leafV a0_0 l0_1 l0_2 l0_3 || innerV a0_0 l0_1 l0_2 l0_3) = true then if sizeN a0_0 l0_1 l0_2 l0_3 ≤ 160 then (⟨(encL a0_0 l0_1 l0_2 l0_3).toArray⟩, 0) else (⟨#[]⟩, 14) else (⟨#[]⟩, 2))
theorem node_Encode.calls (a0_0 : Bool) (A0_1 : Option Addr) (c0_1 : Nat) (l0_1 : List S48) (A0_2 : Option Addr) (c0_2 : Nat) (l0_2 : List ByteArray) (A0_3 : Option Addr) (c0_3 : Nat) (l0_3 : List Int) (r1 : ByteArray) (r2 : Int) (w : World) (hr0_1 : Kd.C k48 w A0_1 l0_1.length l0_1) (hc0_1 : l0_1.length ≤ c0_1) (hr0_2 : Kd.C Kd.string w A0_2 l0_2.length l0_2) (hc0_2 : l0_2.length ≤ c0_2) (hr0_3 : Kd.C (Kd.int .i64) w A0_3 l0_3.length l0_3) (hc0_3 : l0_3.length ≤ c0_3) (h : node_Encode.f a0_0 l0_1 l0_2 l0_3 = some (r1, r2)) :
    Calls Try.prog 13 #[.agg #[.bool a0_0, .slice A0_1 l0_1.length c0_1, .slice A0_2 l0_2.length c0_2, .slice A0_3 l0_3.length c0_3]] w fun e w' => e = .returned (.tuple #[.string r1, .int .i64 r2]) ∧ Below w.heap.size w w' := by
  have h := Option.some.inj h
  by_cases hf : (leafV a0_0 l0_1 l0_2 l0_3 || innerV a0_0 l0_1 l0_2 l0_3) = true
  · rw [if_pos hf] at h
    by_cases hz : sizeN a0_0 l0_1 l0_2 l0_3 ≤ 160
    · rw [if_pos hz] at h
      cases h
      rcases Bool.or_eq_true_iff.1 hf with hl | hl
      · cases (leafV_true hl).1
        exact enc_leaf A0_1 c0_1 l0_1 A0_2 c0_2 l0_2 A0_3 c0_3 l0_3 w hr0_1 hc0_1 hr0_2 hc0_2 hr0_3 hc0_3 hl hz _ rfl
      · cases (innerV_true hl).1
        exact enc_inner A0_1 c0_1 l0_1 A0_2 c0_2 l0_2 A0_3 c0_3 l0_3 w hr0_1 hc0_1 hr0_2 hc0_2 hr0_3 hc0_3 hl hz _ rfl
    · rw [if_neg hz] at h
      cases h
      exact enc_big a0_0 A0_1 c0_1 l0_1 A0_2 c0_2 l0_2 A0_3 c0_3 l0_3 w hr0_1 hc0_1 hr0_2 hc0_2 hr0_3 hc0_3 hf (by omega)
  · rw [if_neg hf] at h
    cases h
    exact enc_bad a0_0 A0_1 c0_1 l0_1 A0_2 c0_2 l0_2 A0_3 c0_3 l0_3 w hr0_1 hc0_1 hr0_2 hc0_2 hr0_3 hc0_3 (by simpa using hf)
end
end Go.Proofs.Ytjjfeoigjhbbpaa.PA
