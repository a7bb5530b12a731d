/- Texts of this claim: contracts of the functions that the statement reaches, and plain laws of what they compute. -/
import Derived.Test.YtmkkeccmjejfnaaDoorQApart0
import Derived.Test.YtmkkeccmjejfnaaDoorProg
import Derived.Below
import Derived.Deep.Draws
import Derived.Deep.AppendLies
import Derived.Maps.AppendAt
import Derived.OwnWalk
import Derived.Laws.BytesArg
import Derived.Laws.MakeOwn
import Derived.Laws.OwnMore
import Derived.Deep.OwnRows
import Derived.Tactics
import Derived.Lib.ConvBytes
import Derived.Laws.Slices
import Derived.WalkKit
import Derived.KernelRfl
import Derived.RowKit3
import Derived.Deep.LoopGhost
import Derived.Deep.QuietTactic
import Derived.BigQuiet
import Derived.WideLaws
import Derived.Deep.DeepCutAuto
import Derived.Deep.CutBlock
import Derived.Deep.RegionHeld3
import Derived.Laws.Rows
import Derived.Lib.AppendStr
import Derived.ArgAppend
import Derived.Laws.IdiomCopy
import Derived.OrdersHeld
import Derived.Laws.BitsLemmas
import Derived.RowKit
import Derived.Lib.SliceRun
import Derived.Lib.SlBytesConst
import Derived.IntWalk
import Derived.Laws.CopyOwn
import Derived.Deep.Slices
import Derived.SizedLaws
import Derived.Test.YtmkkeccmjejfnaaDoorCards
import Derived.Test.YtmkkeccmjejfnaaDoorTie
import Derived.Deep.DeepHandedRow
import Derived.Lay
import Derived.Lib.LaidTab
import Derived.ProofKit
import Derived.OpenShut
import Derived.ShutString
import Derived.ChangeOld
import Derived.Deep.Strs
import Derived.Lib.SmallJoins
set_option linter.unusedVariables false
set_option linter.unusedSimpArgs false
namespace Go.Proofs.YtmkkeccmjejfnaaDoor.PA
section

open Go.RowKit Go.Proofs.YtmkkeccmjejfnaaDoorW.PrintWords Go.Proofs.YtmkkeccmjejfnaaDoorW.PrintLast Go.Proofs.YtmkkeccmjejfnaaDoorW.PrintMore
attribute [local go_sem] max2_int min2_int max_two min_two max_three min_three max_four min_four
set_option linter.unusedVariables false
set_option linter.unusedSimpArgs false
theorem bytes_leq : ∀ a b : List UInt8, (Op.bytesLess a b || a == b) = !(Op.bytesLess b a)
  | [], [] => rfl
  | [], _ :: _ => rfl
  | _ :: _, [] => rfl
  | x :: a, y :: b => by
    have ih := bytes_leq a b
    simp only [Op.bytesLess]
    rcases Nat.lt_trichotomy x.toNat y.toNat with h | h | h
    · have h1 : x < y := UInt8.lt_iff_toNat_lt.2 h
      have h2 : ¬ y < x := fun h' => by have := UInt8.lt_iff_toNat_lt.1 h'; omega
      have h3 : (y == x) = false := beq_eq_false_iff_ne.2 (fun e => by rw [e] at h; omega)
      simp [h1, h2, h3]
    · obtain rfl : x = y := UInt8.toNat_inj.1 h
      have h1 : ¬ x < x := fun h' => by have := UInt8.lt_iff_toNat_lt.1 h'; omega
      simp [h1, ← ih]
    · have h1 : y < x := UInt8.lt_iff_toNat_lt.2 h
      have h2 : ¬ x < y := fun h' => by have := UInt8.lt_iff_toNat_lt.1 h'; omega
      have h3 : (x == y) = false := beq_eq_false_iff_ne.2 (fun e => by rw [e] at h; omega)
      simp [h1, h2, h3]
theorem pr_leq (t : TypeId) (a b : ByteArray) : binOp .leq t (.string a) (.string b) = pure (.bool (!(Op.bytesLess b.toList a.toList))) := by
  rw [← bytes_leq]; simp [binOp, Op.stringOp]
theorem pr_geq (t : TypeId) (a b : ByteArray) : binOp .geq t (.string a) (.string b) = pure (.bool (!(Op.bytesLess a.toList b.toList))) := by simp [binOp, Op.stringOp]
theorem pr_gtr (t : TypeId) (a b : ByteArray) : binOp .gtr t (.string a) (.string b) = pure (.bool (Op.bytesLess b.toList a.toList)) := by
  have h2 : Op.bytesLess b.toList a.toList = !(Op.bytesLess a.toList b.toList || a.toList == b.toList) := by rw [bytes_leq]; simp
  rw [h2]; simp [binOp, Op.stringOp]
def errW : Option Int → Value
  | none => .nilIface
  | some c => .iface 0 (.int .i64 c)
theorem errW_none : errW none = .nilIface := rfl
theorem errW_some (c : Int) : errW (some c) = .iface 0 (.int .i64 c) := rfl
theorem info3 : (Tryd.prog.info? 3).map (fun i => (i.zero, i.size, i.bytes)) = some (some (.int .i64 0), 1, 8) := by kernel_rfl
theorem info5 : (Tryd.prog.info? 5).map (fun i => (i.zero, i.size, i.bytes)) = some (some (.int .u8 0), 1, 1) := by kernel_rfl
theorem info65 : (Tryd.prog.info? 65).map (fun i => (i.zero, i.size, i.bytes)) = some (some (.agg #[(.string ⟨#[]⟩), (.string ⟨#[]⟩)]), 2, 32) := by kernel_rfl
theorem info77 : (Tryd.prog.info? 77).map (fun i => (i.zero, i.size, i.bytes)) = some (some (.agg #[(.int .i64 0), (.int .i64 0), (.string ⟨#[]⟩)]), 3, 32) := by kernel_rfl
-- the values' own types
structure S77 where
  f0 : Int
  f1 : Int
  f2 : ByteArray
def z77 : S77 := ⟨(0 : Int), (0 : Int), (⟨#[]⟩ : ByteArray)⟩
def k77 : Kd S77 := Kd.iso (Kd.pair (Kd.int .i64) (Kd.pair (Kd.int .i64) Kd.string)) (fun x : S77 => (x.f0, x.f1, x.f2))
theorem k77_open {w : World} {x : S77} {cs : List Value} (h : k77.K w x cs) : cs = [.int .i64 x.f0, .int .i64 x.f1, .string x.f2] := by
  obtain ⟨_, _, rfl, rfl, ⟨_, _, rfl, rfl, rfl⟩⟩ := h
  exact rfl
theorem k77_mkM (w : World) (base : Nat) (ok : Nat → Prop) (x : S77)  : k77.M w base ok x [.int .i64 x.f0, .int .i64 x.f1, .string x.f2] := ⟨[.int .i64 x.f0], [.int .i64 x.f1, .string x.f2], rfl, rfl, ⟨[.int .i64 x.f1], [.string x.f2], rfl, rfl, rfl⟩⟩
def rd_T77 (xs : List S77) (i : Int) : S77 := xs.getD i.toNat z77
theorem at_T77 {w : World} {A : Option Addr} {n : Nat} {xs : List S77} (h : Kd.C k77 w A n xs) (i : Int) (h0 : 0 ≤ i) (h1 : i < n) : ∃ ad , A = some ad ∧ w.cell? (ad.add (i.toNat * 3)) = some (.int .i64 (rd_T77 xs i).f0) ∧ w.cell? ⟨(ad.add (i.toNat * 3)).block, (ad.add (i.toNat * 3)).off + 1, none⟩ = some (.int .i64 (rd_T77 xs i).f1) ∧ w.cell? ⟨(ad.add (i.toNat * 3)).block, (ad.add (i.toNat * 3)).off + 2, none⟩ = some (.string (rd_T77 xs i).f2) := by
  obtain ⟨ad, c, e, _, hK, hc0⟩ := Kd.C_get h z77 i h0 h1
  have hc : ∀ j u, c[j]? = some u → w.cell? (ad.add (i.toNat * 3 + j)) = some u := hc0
  obtain rfl := k77_open hK
  exact ⟨ad, e, hc 0 _ rfl, by rw [← add_field _ _ 1 (by omega)]; exact hc 1 _ rfl, by rw [← add_field _ _ 2 (by omega)]; exact hc 2 _ rfl⟩
structure S65 where
  f0 : ByteArray
  f1 : ByteArray
def z65 : S65 := ⟨(⟨#[]⟩ : ByteArray), (⟨#[]⟩ : ByteArray)⟩
def k65 : Kd S65 := Kd.iso (Kd.pair Kd.string Kd.string) (fun x : S65 => (x.f0, x.f1))
theorem k65_open {w : World} {x : S65} {cs : List Value} (h : k65.K w x cs) : cs = [.string x.f0, .string x.f1] := by
  obtain ⟨_, _, rfl, rfl, rfl⟩ := h
  exact rfl
theorem k65_mkM (w : World) (base : Nat) (ok : Nat → Prop) (x : S65)  : k65.M w base ok x [.string x.f0, .string x.f1] := ⟨[.string x.f0], [.string x.f1], rfl, rfl, rfl⟩
def rd_T65 (xs : List S65) (i : Int) : S65 := xs.getD i.toNat z65
theorem at_T65 {w : World} {A : Option Addr} {n : Nat} {xs : List S65} (h : Kd.C k65 w A n xs) (i : Int) (h0 : 0 ≤ i) (h1 : i < n) : ∃ ad , A = some ad ∧ w.cell? (ad.add (i.toNat * 2)) = some (.string (rd_T65 xs i).f0) ∧ w.cell? ⟨(ad.add (i.toNat * 2)).block, (ad.add (i.toNat * 2)).off + 1, none⟩ = some (.string (rd_T65 xs i).f1) := by
  obtain ⟨ad, c, e, _, hK, hc0⟩ := Kd.C_get h z65 i h0 h1
  have hc : ∀ j u, c[j]? = some u → w.cell? (ad.add (i.toNat * 2 + j)) = some u := hc0
  obtain rfl := k65_open hK
  exact ⟨ad, e, hc 0 _ rfl, by rw [← add_field _ _ 1 (by omega)]; exact hc 1 _ rfl⟩
end
end Go.Proofs.YtmkkeccmjejfnaaDoor.PA
namespace Go.Proofs.YtmkkeccmjejfnaaDoor.PA
section

open Go.RowKit Go.Proofs.YtmkkeccmjejfnaaDoorW.PrintWords Go.Proofs.YtmkkeccmjejfnaaDoorW.PrintLast Go.Proofs.YtmkkeccmjejfnaaDoorW.PrintMore
attribute [local go_sem] pr_leq pr_geq pr_gtr max2_int min2_int max_two min_two max_three min_three max_four min_four
set_option linter.unusedVariables false
set_option linter.unusedSimpArgs false
theorem eqA23 (d : Nat) (w : World) (x0 y0 : Int) (x1 y1 : Int) (x2 y2 : Int) :
    (Op.equalIn (d + 2) 23 (.agg #[.int .i64 x0, .int .i64 x1, .int .i64 x2]) (.agg #[.int .i64 y0, .int .i64 y1, .int .i64 y2])).run Tryd.prog w = .ok (x0 == y0 && (x1 == y1 && (x2 == y2))) w := by
  refine eqA_of Tryd.underlying23 (by kernel_rfl) ?_
  refine eqf_cons (by rfl) (by go_simp; rfl) (by go_simp; rfl) (by go_simp) ?_
  refine eqf_cons (by rfl) (by go_simp; rfl) (by go_simp; rfl) (by go_simp) ?_
  exact eqf_last (by rfl) (by go_simp; rfl) (by go_simp; rfl) (by go_simp)
end
end Go.Proofs.YtmkkeccmjejfnaaDoor.PA
namespace Go.Proofs.YtmkkeccmjejfnaaDoor.PA
section

open Go.RowKit Go.Proofs.YtmkkeccmjejfnaaDoorW.PrintWords Go.Proofs.YtmkkeccmjejfnaaDoorW.PrintLast Go.Proofs.YtmkkeccmjejfnaaDoorW.PrintMore
attribute [local go_sem] pr_leq pr_geq pr_gtr max2_int min2_int max_two min_two max_three min_three max_four min_four
set_option linter.unusedVariables false
set_option linter.unusedSimpArgs false
theorem eqA65 (d : Nat) (w : World) (x0 y0 : ByteArray) (x1 y1 : ByteArray) :
    (Op.equalIn (d + 2) 65 (.agg #[.string x0, .string x1]) (.agg #[.string y0, .string y1])).run Tryd.prog w = .ok (x0.toList == y0.toList && (x1.toList == y1.toList)) w := by
  refine eqA_of Tryd.underlying65 (by kernel_rfl) ?_
  refine eqf_cons (by rfl) (by go_simp; rfl) (by go_simp; rfl) (by go_simp) ?_
  exact eqf_last (by rfl) (by go_simp; rfl) (by go_simp; rfl) (by go_simp)
end
end Go.Proofs.YtmkkeccmjejfnaaDoor.PA
namespace Go.Proofs.YtmkkeccmjejfnaaDoor.PA
section

open Go.RowKit Go.Proofs.YtmkkeccmjejfnaaDoorW.PrintWords Go.Proofs.YtmkkeccmjejfnaaDoorW.PrintLast Go.Proofs.YtmkkeccmjejfnaaDoorW.PrintMore
attribute [local go_sem] pr_leq pr_geq pr_gtr max2_int min2_int max_two min_two max_three min_three max_four min_four
set_option linter.unusedVariables false
set_option linter.unusedSimpArgs false
theorem eqA77 (d : Nat) (w : World) (x0 y0 : Int) (x1 y1 : Int) (x2 y2 : ByteArray) :
    (Op.equalIn (d + 2) 77 (.agg #[.int .i64 x0, .int .i64 x1, .string x2]) (.agg #[.int .i64 y0, .int .i64 y1, .string y2])).run Tryd.prog w = .ok (x0 == y0 && (x1 == y1 && (x2.toList == y2.toList))) w := by
  refine eqA_of Tryd.underlying77 (by kernel_rfl) ?_
  refine eqf_cons (by rfl) (by go_simp; rfl) (by go_simp; rfl) (by go_simp) ?_
  refine eqf_cons (by rfl) (by go_simp; rfl) (by go_simp; rfl) (by go_simp) ?_
  exact eqf_last (by rfl) (by go_simp; rfl) (by go_simp; rfl) (by go_simp)
end
end Go.Proofs.YtmkkeccmjejfnaaDoor.PA
namespace Go.Proofs.YtmkkeccmjejfnaaDoor.PA
section

open Go.RowKit Go.Proofs.YtmkkeccmjejfnaaDoorW.PrintWords Go.Proofs.YtmkkeccmjejfnaaDoorW.PrintLast Go.Proofs.YtmkkeccmjejfnaaDoorW.PrintMore
attribute [local go_sem] pr_leq pr_geq pr_gtr max2_int min2_int max_two min_two max_three min_three max_four min_four
set_option linter.unusedVariables false
set_option linter.unusedSimpArgs false
def record_natural.l0 : Nat → List Int → Int → Int → Option (Bool)
  | 0, _, _, _ => none
  | k + 1, x5, x6, x7 => if x7 < x6 then (if 0 ≤ x7 then (if x7 < (x5.length : Int) then (if (rd x5 x7) < 0 then (some false) else (record_natural.l0 k x5 x6 (wrap64 (x7 + 1)))) else (none)) else (none)) else (some true)
def record_natural.f (k : Nat) (l0 : List Int) : Option (Bool) := record_natural.l0 k l0 (l0.length : Int) 0
set_option maxHeartbeats 8000000 in
set_option maxRecDepth 100000 in
theorem record_natural.calls (k : Nat) (A0 : Option Addr) (c0 : Nat) (l0 : List Int) (r : Bool) (w : World) (hr0 : Kd.C (Kd.int .i64) w A0 l0.length l0) (hc0 : l0.length ≤ c0) (h : record_natural.f k l0 = some r) :
    Calls Tryd.prog 52 #[.slice A0 l0.length c0] w fun e w' => e = .returned (.bool r) ∧ Drawn0 w w' := by
  have HR0 := Aside0.mk hr0
  have HC0 := Aside0.mk hc0
  clear hr0 hc0
  have H : (record_natural.l0 k l0 (l0.length : Int) 0) = some r := h
  clear h
  have H' := Aside0.mk H
  clear H
  go_enter Tryd.func52, Tryd.ntmps52
  go_wp2
  go_loopg [7] k (fun kq v7 w' => ∃ (x7_1 : Int), v7 = .int .i64 x7_1 ∧ Aside0 (record_natural.l0 kq l0 (l0.length : Int) x7_1 = some r) ∧ Aside0 (kq ≤ k) ∧ Drawn0 w w')
  case atStart => exact ⟨(0), (by first | rfl | (simp; done) | (simp [*]; done)), H', ⟨Nat.le_refl _⟩, by repeat (first | exact Drawn0.refl _ | apply Drawn0.step)⟩
  case round =>
    clear H'
    obtain ⟨x7_1, rfl, HA, HK1, ⟨m1, rfl⟩⟩ := hrel
    cases gk with
    | zero => exact absurd HA.out (by simp [record_natural.l0])
    | succ k1 =>
      have H := HA.out
      clear HA
      simp only [record_natural.l0] at H
      by_cases c2 : x7_1 < (l0.length : Int)
      · rw [if_pos c2] at H
        have c2b0 : decide (x7_1 < (l0.length : Int)) = true := decide_eq_true c2
        clear c2
        by_cases c3 : 0 ≤ x7_1
        · rw [if_pos c3] at H
          have c3b0 : decide (0 ≤ x7_1) = true := decide_eq_true c3
          clear c3
          by_cases c4 : x7_1 < (l0.length : Int)
          · rw [if_pos c4] at H
            have c4b0 : decide (x7_1 < (l0.length : Int)) = true := decide_eq_true c4
            clear c4
            by_cases c5 : (rd l0 x7_1) < 0
            · rw [if_pos c5] at H
              have c5b0 : decide ((rd l0 x7_1) < 0) = true := decide_eq_true c5
              clear c5
              obtain rfl := Option.some.inj H
              have p101 : 0 ≤ (x7_1 : Int) := of_decide_eq_true (by first | (with_reducible assumption) | assumption)
              have q101 : x7_1 < (l0.length : Int) := of_decide_eq_true (by first | (with_reducible assumption) | assumption)
              obtain ⟨ad101, e101, hx101_0⟩ := Kd.at_int HR0.out x7_1 p101 q101
              cases e101
              replace p101 := eq_true p101
              replace q101 := eq_true q101
              go_wp2
              go_ret
              exact ⟨by first | rfl | (simp; done) | (simp [*]; done), by repeat (first | exact Drawn0.refl _ | apply Drawn0.step)⟩
            · rw [if_neg c5] at H
              have c5b0 : decide ((rd l0 x7_1) < 0) = false := decide_eq_false c5
              clear c5
              have H' := Aside0.mk H
              clear H
              have p101 : 0 ≤ (x7_1 : Int) := of_decide_eq_true (by first | (with_reducible assumption) | assumption)
              have q101 : x7_1 < (l0.length : Int) := of_decide_eq_true (by first | (with_reducible assumption) | assumption)
              obtain ⟨ad101, e101, hx101_0⟩ := Kd.at_int HR0.out x7_1 p101 q101
              cases e101
              replace p101 := eq_true p101
              replace q101 := eq_true q101
              go_wp2
              go_roundg k1
              case measure => have := HK1.out; omega
              case rel => exact ⟨(wrap64 (x7_1 + 1)), (by first | rfl | (simp; done) | (simp [*]; done)), H', ⟨by have := HK1.out; omega⟩, by repeat (first | exact Drawn0.refl _ | apply Drawn0.step)⟩
          · rw [if_neg c4] at H
            exact absurd H (by simp)
        · rw [if_neg c3] at H
          exact absurd H (by simp)
      · rw [if_neg c2] at H
        have c2b0 : decide (x7_1 < (l0.length : Int)) = false := decide_eq_false c2
        clear c2
        obtain rfl := Option.some.inj H
        go_wp2
        go_ret
        exact ⟨by first | rfl | (simp; done) | (simp [*]; done), by repeat (first | exact Drawn0.refl _ | apply Drawn0.step)⟩
def record_Super_right.f (k : Nat) (a0_0 : Int) (a0_1 : Int) (a0_2 : Int) : Option (Bool) := (record_natural.f k (([a0_0, a0_1, a0_2] : List Int))).bind fun t106 => (some t106)
set_option maxHeartbeats 8000000 in
set_option maxRecDepth 100000 in
theorem record_Super_right.calls (k : Nat) (a0_0 : Int) (a0_1 : Int) (a0_2 : Int) (r : Bool) (w : World) (h : record_Super_right.f k a0_0 a0_1 a0_2 = some r) :
    Calls Tryd.prog 30 #[.agg #[.int .i64 a0_0, .int .i64 a0_1, .int .i64 a0_2]] w fun e w' => e = .returned (.bool r) ∧ Below w.heap.size w w' := by
  have hu23 := Tryd.underlying23
  have HB := Aside0.mk (Below.refl w.heap.size w)
  have H : ((record_natural.f k (([a0_0, a0_1, a0_2] : List Int))).bind fun t106 => (some t106)) = some r := h
  clear h
  obtain ⟨y103, hy103⟩ : ∃ y_ : List Int, y_ = (([a0_0, a0_1, a0_2] : List Int)) := ⟨_, rfl⟩
  replace H : ((record_natural.f k y103).bind fun t106 => (some t106)) = some r := by first | (rw [hy103]; with_reducible exact H) | (have H2_ := (Option.bind_some _ _).symm.trans H; rw [hy103]; with_reducible exact H2_) | (have H2_ := (Option.bind_some _ _).symm.trans H; with_reducible exact H2_) | with_reducible exact H | (rw [hy103]; exact H) | exact H
  have Ny103 := Aside0.mk hy103
  clear hy103
  replace H := Option.bind_eq_some_iff.mp H
  obtain ⟨t106, A20, H⟩ := H
  replace H : (some t106) = some r := H
  have A2 := Aside0.mk A20
  clear A20
  obtain rfl := Option.some.inj H
  go_enter Tryd.func30, Tryd.ntmps30
  go_wp2_with (first | ((with_reducible refine gate_dst (N := 1) rfl ?_); refine box_event ?hg (N := 1) ?hd (cs := #[.int .i64 a0_0, .int .i64 a0_1, .int .i64 a0_2]) (t := 23) ?hr ?_; (case hd => rfl); (case hg => rfl); (case hr => first | (go_simp; done) | (go_simp; rfl)); intro gb102 hg w3 hbox hb; have n0_ := Aside0.mk (below_step (by repeat (first | (with_reducible first | exact HB.out | apply below_alloc | apply pw_below_drewN | apply below_drew1) | exact HB.out)) hb); have n1_ := Aside0.mk (hbox); have n2_ := Aside0.mk ((by rw [hg]; exact (below_size (by repeat (first | (with_reducible first | exact HB.out | apply below_alloc | apply pw_below_drewN | apply below_drew1) | exact HB.out))) : w.heap.size ≤ gb102)); have n3_ := Aside0.mk ((by rw [hg]; exact (below_size (by repeat (first | (with_reducible first | exact HB.out | apply below_alloc | apply pw_below_drewN | apply below_drew1) | exact HB.out))) : w.heap.size ≤ gb102)); clear HB; have HB := n0_; have BK102 := n1_; have GW102 := n2_; have GE102 := n3_; clear n0_ n1_ n2_ n3_; clear hb hbox hg; have hcz4_0 : w3.cell? ⟨gb102, 0, none⟩ = some (.int .i64 a0_0) := (blk_cell BK102.out 0).trans rfl; have hcz4_1 : w3.cell? ⟨gb102, 1, none⟩ = some (.int .i64 a0_1) := (blk_cell BK102.out 1).trans rfl; have hcz4_2 : w3.cell? ⟨gb102, 2, none⟩ = some (.int .i64 a0_2) := (blk_cell BK102.out 2).trans rfl; have hfz4_0 := blk_frozen BK102.out 0; have hfz4_1 := blk_frozen BK102.out 1; have hfz4_2 := blk_frozen BK102.out 2) | ((with_reducible refine gate_dst (N := 9) rfl ?_); refine Kd.R_lit (Kd.int .i64) _ 3 ?hg (N := 9) ?hd (xs := ([a0_0, a0_1, a0_2] : List Int)) (inner := [.int .i64 a0_0, .int .i64 a0_1, .int .i64 a0_2]) (ok := fun _ => True) (okp := fun _ => True) ?hr ?hp (fun _ hk => hk) trivial (Below.refl _ _) (Nat.le_refl _) (by simp) ?_; (case hd => rfl); (case hg => rfl); (case hr => first | (go_simp; done) | (go_simp; rfl)); (case hp => exact (Reps.one (show Kd.M (Kd.int .i64) _ _ _ a0_0 [.int .i64 a0_0] from rfl) (Reps.one (show Kd.M (Kd.int .i64) _ _ _ a0_1 [.int .i64 a0_1] from rfl) (Reps.one (show Kd.M (Kd.int .i64) _ _ _ a0_2 [.int .i64 a0_2] from rfl) (Reps.none _ _))))); intro v104 w5 ho6 hb hg_ hnew_; clear hg_ hnew_; (first | rw [← Ny103.out] at ho6 | (simp only [Int.reduceToNat] at ho6; rw [← Ny103.out] at ho6)); have n0_ := Aside0.mk (Kd.R_lower ho6 (below_size (by repeat (first | (with_reducible first | exact HB.out | apply below_alloc | apply pw_below_drewN | apply below_drew1 | refine below_set ?_ GE102.out) | exact HB.out)))); have n1_ := Aside0.mk (blk_below (g := gb102) (o := .cells #[.int .i64 a0_0, .int .i64 a0_1, .int .i64 a0_2] 23 (0, 0)) (by (with_reducible repeat (first | refine blk_drewN ?_ _ | refine blk_drew ?_ | refine blk_alloc ?_ _)); exact BK102.out) hb); have n2_ := Aside0.mk (below_step (by repeat (first | (with_reducible first | exact HB.out | apply below_alloc | apply pw_below_drewN | apply below_drew1 | refine below_set ?_ GE102.out) | exact HB.out)) hb); clear BK102; clear HB; have HO105 := n0_; have BK102 := n1_; have HB := n2_; clear n0_ n1_ n2_; clear hb ho6; obtain ⟨Ao7, co7, eo7⟩ := Kd.R_slice HO105.out; subst eo7) | ((with_reducible refine gate_callee (f := 52) rfl ?_); refine goesL_ (some 10) rfl rfl Tryd.func52 (by kernel_rfl) rfl #[.slice Ao7 y103.length co7] rfl (by (try simp only [List.map_toArray, List.map_cons, List.map_nil]); first | done | rfl | (simp only [List.length_drop, List.length_take]; rfl)) ?_; (with_reducible refine (record_natural.calls k _ _ y103 t106 _ ?side1 ?side2 A2.out).mono ?_); (case side1 => repeat (first | exact (Kd.R_reads' HO105.out).2.2 | (with_reducible refine Kd.C_alloc ?_ _) | (with_reducible refine Kd.C_drewN ?_ _) | (with_reducible refine Kd.C_drew ?_))); (case side2 => exact (Kd.R_reads' HO105.out).2.1); rintro e w' ⟨rfl, ⟨nd, rfl⟩⟩; refine ⟨_, rfl, ?_⟩))
  go_ret
  exact ⟨by first | rfl | (simp [errW_none, errW_some] <;> rfl) | (simp [*, errW_none, errW_some] <;> rfl), by repeat (first | (with_reducible first | exact HB.out | apply below_alloc | apply pw_below_drewN | apply below_drew1 | refine below_set ?_ GE102.out) | exact HB.out)⟩
end
end Go.Proofs.YtmkkeccmjejfnaaDoor.PA
namespace Go.Proofs.YtmkkeccmjejfnaaDoor.PA
section

open Go.RowKit Go.Proofs.YtmkkeccmjejfnaaDoorW.PrintWords Go.Proofs.YtmkkeccmjejfnaaDoorW.PrintLast Go.Proofs.YtmkkeccmjejfnaaDoorW.PrintMore
attribute [local go_sem] pr_leq pr_geq pr_gtr max2_int min2_int max_two min_two max_three min_three max_four min_four
set_option linter.unusedVariables false
set_option linter.unusedSimpArgs false
section
variable {P : Program} {ops : Array Oper} {rest : List Oper} {o : Oper} {a : Act} {Q : Exit → Act → World → Prop} {Kc : Act → World → Prop}
/-- append(v, s...), s a string, as one step of a region that draws its order. -/
theorem R_append_str_step {w0 W : World} (base : Nat) (hw : Region.wanted o (yielded ops a.tmps) = true) (s x : Operand) (t u e : TypeId)
    (ho : o.op = .call { callee := .builtin .append, args := #[s, x], argTypes := #[t, u] })
    (ht : P.underlying t = some (.slice e)) (hu : P.underlying u = some .string) (hinfo : (P.info? e).map (fun i => (i.zero, i.size, i.bytes)) = some (some (.int .u8 0), 1, 1))
    (v : Value) (xs : List Int) (y : ByteArray) (hs : a.eval s = v) (hx : a.eval x = .string y)
    (HO : (Kd.int .u8).R e W base (fun _ => True) v xs) (HB : Below base w0 W) (hbase : base ≤ W.heap.size) (hl : xs.length + y.size ≤ 140737488355328)
    (h : ∀ v1 w1, (Kd.int .u8).R e w1 base (fun _ => True) v1 (xs ++ bytesOf y) → Below base w0 w1 → W.grownBy w1 v.ownBlock → Kc (a.put o.dst v1) w1) :
    if Region.wanted o (yielded ops a.tmps) = true then Oper.wp P o a W Kc Q else Kc (a.put o.dst undef) W := by
  obtain ⟨i0, hi, hzz⟩ := Option.map_eq_some_iff.1 hinfo
  simp only [Prod.mk.injEq] at hzz
  obtain ⟨hz0, hz1, hz2⟩ := hzz
  rw [if_pos hw]
  obtain ⟨v1, w1, hr, hown, hg, _⟩ := Lib.run_append_own_string (P := P) (w := W) base t u o.type e i0 ht hu hi hz0 hz1 hz2 v xs.length (encs (Value.int .u8) xs) (Kd.own_of_R HO) y (by simp only [maxLen]; omega) hl hbase
  unfold Oper.wp execOp
  simp only [ho, resolve, invoke, builtin, Sem.run_bind, Sem.run_pure, Result.andThen_ok, List.map_toArray, List.map_cons, List.map_nil, hs, hx, hr]
  refine h v1 w1 (Kd.R_of_own ?_ (fun _ _ => trivial)) (HB.grown hg hbase (own_base (Kd.own_of_R HO))) hg
  have hl2 : (xs ++ bytesOf y).length = xs.length + y.size := by rw [List.length_append, bytesOf_length]
  have hc : encs (Value.int .u8) (xs ++ bytesOf y) = encs (Value.int .u8) xs ++ Lib.strCells y := by
    simp [encs, bytesOf, Lib.strCells]
  rw [hl2, hc]
  exact hown
end
theorem bytesOf_strOfNums (l : List Int) (h : ∀ b ∈ l, 0 ≤ b ∧ b ≤ 255) : bytesOf (strOfNums l) = l := by
  unfold bytesOf strOfNums
  simp only [List.toList_toArray, List.map_map]
  conv => rhs; rw [← List.map_id l]
  refine List.map_congr_left (fun b hb => ?_)
  have := h b hb
  simp only [Function.comp, UInt8.toNat_ofNat', id]
  omega
theorem size_strOfNums (l : List Int) : (strOfNums l).size = l.length := by
  unfold strOfNums
  simp [ByteArray.size]
/-- A literal of one byte, new. -/
theorem lit_new (W : World) (x : Int) (e : TypeId) (q : Nat) (hq : q = W.heap.size) : (Kd.int .u8).C (W.alloc (.cells #[.int .u8 x] e)) (some ⟨q, 0, none⟩) 1 [x] := by
  subst hq
  refine ⟨rfl, by omega, fun _ => ⟨_, rfl, fun j p hj => ?_⟩⟩
  cases j with
  | zero =>
    cases hj
    refine ⟨[.int .u8 x], rfl, rfl, fun i u hu => ?_⟩
    cases i with
    | zero =>
      cases hu
      show (W.alloc (.cells #[.int .u8 x] e)).cell? ⟨W.heap.size, 0, none⟩ = _
      have hh : (W.alloc (.cells #[.int .u8 x] e)).heap[W.heap.size]? = some (.cells #[.int .u8 x] e) := heap_alloc_new W _
      simp only [World.cell?, hh]
      rfl
    | succ i => simp at hu
  | succ j => simp at hj
theorem add_block (ad : Addr) (n : Nat) : (ad.add n).block = ad.block := by
  unfold Addr.add
  split <;> rfl
theorem box_grown {W w2 : World} {row : Option Nat} {cs : Array Value} {t : TypeId} (hg : (W.alloc (.cells cs t)).grownBy w2 row) (hr : ∀ k, row = some k → k < W.heap.size) : w2.heap[W.heap.size]? = some (.cells cs t) := by
  rw [hg.block W.heap.size (by simp) (fun e => by have := hr _ e.symm; omega)]
  exact heap_alloc_new W _
theorem cell_blk {w : World} {g : Nat} {cs : Array Value} {t : TypeId} {fr : Nat × Nat} (h : w.heap[g]? = some (.cells cs t fr)) (j : Nat) : w.cell? ⟨g, j, none⟩ = cs[j]? := by
  simp [World.cell?, h]
theorem kept_blk {w w' : World} {S : Nat → Prop} {g : Nat} {o : Obj} (h : Kept w w' S) (hb : w.heap[g]? = some o) (hs : ¬ S g) : w'.heap[g]? = some o := by
  have hl : g < w.heap.size := (Array.getElem?_eq_some_iff.1 hb).1
  rw [h.2 g hl hs]
  exact hb
theorem grown_blk {w w' : World} {row : Option Nat} {g : Nat} {o : Obj} (h : w.grownBy w' row) (hb : w.heap[g]? = some o) (hr : some g ≠ row) : w'.heap[g]? = some o := by
  rw [h.block g (Array.getElem?_eq_some_iff.1 hb).1 hr]
  exact hb
/-- So many bytes of a number, the lowest first. -/
def leB : Int → Nat → List Int
  | _, 0 => []
  | x, n + 1 => x % 256 :: leB (x / 256) n
theorem leB_length (x : Int) (n : Nat) : (leB x n).length = n := by
  induction n generalizing x with
  | zero => rfl
  | succ n ih => simp [leB, ih]
theorem leB_byte (x : Int) (n : Nat) : ∀ b ∈ leB x n, 0 ≤ b ∧ b ≤ 255 := by
  induction n generalizing x with
  | zero => intro b hb; cases hb
  | succ n ih =>
    intro b hb
    rcases List.mem_cons.1 hb with rfl | hb
    · omega
    · exact ih _ b hb
theorem u64_id (x : Int) (h0 : 0 ≤ x) (h1 : x < 18446744073709551616) : IntKind.u64.wrap x = x := by
  simp only [IntKind.wrap, IntKind.signed, IntKind.bits]
  simp
  omega
def encI (x : S77) : List Int := if x.f0 = 1 then 1 :: leB (IntKind.u64.wrap x.f1) 8 else 2 :: (leB (x.f2.size : Int) 2 ++ bytesOf x.f2)
def encL (l : List S77) : List Int := l.flatMap encI
theorem u64_range (x : Int) : 0 ≤ IntKind.u64.wrap x ∧ IntKind.u64.wrap x < 18446744073709551616 := by
  simp only [IntKind.wrap, IntKind.signed, IntKind.bits]
  simp
  omega
theorem encI_length (x : S77) (h : x.f0 = 1 ∨ x.f2.size ≤ 50000) : (encI x).length ≤ 50003 := by
  unfold encI
  split
  · simp [leB_length]
  · simp [leB_length, bytesOf_length]
    omega
theorem encL_length (l : List S77) (h : ∀ x ∈ l, x.f0 = 1 ∨ x.f2.size ≤ 50000) : (encL l).length ≤ l.length * 50003 := by
  induction l with
  | nil => simp [encL]
  | cons x l ih =>
    have h1 := encI_length x (h x (by simp))
    have h2 := ih (fun y hy => h y (by simp [hy]))
    simp only [encL, List.flatMap_cons, List.length_append, List.length_cons] at *
    omega
theorem encL_take (l : List S77) (i : Int) (h0 : 0 ≤ i) (h : i < l.length) : encL (l.take (i + 1).toNat) = encL (l.take i.toNat) ++ encI (rd_T77 l i) := by
  obtain ⟨k, rfl⟩ := Int.eq_ofNat_of_zero_le h0
  have hk : k < l.length := by omega
  rw [show ((k : Int) + 1).toNat = k + 1 by omega, List.take_succ_eq_append_getElem hk, encL, List.flatMap_append]
  simp [encL, rd_T77, List.getD_eq_getElem?_getD, List.getElem?_eq_getElem hk]
theorem rd_mem {l : List S77} {i : Int} (h0 : 0 ≤ i) (h : i < l.length) : rd_T77 l i ∈ l := by
  obtain ⟨k, rfl⟩ := Int.eq_ofNat_of_zero_le h0
  have hk : k < l.length := by omega
  simp [rd_T77, List.getD_eq_getElem?_getD, List.getElem?_eq_getElem hk]
def encOk (l : List S77) : Bool := decide (l.length ≤ 4000) && l.all (fun x => x.f0 == 1 || decide (x.f2.size ≤ 50000))
theorem encOk_iff {l : List S77} (h : encOk l = true) : l.length ≤ 4000 ∧ ∀ x ∈ l, x.f0 = 1 ∨ x.f2.size ≤ 50000 := by
  simp only [encOk, Bool.and_eq_true, decide_eq_true_eq, List.all_eq_true, Bool.or_eq_true, beq_iff_eq] at h
  exact h
theorem encL_take_len {l : List S77} (h : encOk l = true) (n : Nat) : (encL (l.take n)).length ≤ 200012000 := by
  obtain ⟨h1, h2⟩ := encOk_iff h
  have := encL_length (l.take n) (fun x hx => h2 x (List.mem_of_mem_take hx))
  have h3 : (l.take n).length ≤ 4000 := by rw [List.length_take]; omega
  calc _ ≤ _ := this
    _ ≤ 4000 * 50003 := Nat.mul_le_mul_right _ h3
    _ = _ := rfl
def longB (x : S77) : Bool := x.f0 == 2 && decide (50000 < (x.f2.size : Int))
theorem longB_1 (k n : Int) (s : ByteArray) (h : ¬ k = 2) : longB ⟨k, n, s⟩ = false := by simp [longB, h]
theorem longB_2 (n : Int) (s : ByteArray) : longB ⟨2, n, s⟩ = decide (50000 < (s.size : Int)) := by simp [longB]
set_option maxHeartbeats 400000 in
theorem long_calls (x : S77) (w : World) :
    Calls Tryd.prog 68 #[.agg #[.int .i64 x.f0, .int .i64 x.f1, .string x.f2]] w fun e w' => e = .returned (.bool (longB x)) ∧ Below w.heap.size w w' := by
  obtain ⟨k, n, s⟩ := x
  simp only
  by_cases h2 : k = 2
  · subst h2
    rw [longB_2]
    go_enter Tryd.func68, Tryd.ntmps68
    go_wp2
    go_ret
    exact ⟨rfl, (Below.refl _ _).alloc (Nat.le_refl _) _⟩
  · rw [longB_1 _ _ _ h2]
    have hk : (k == 2) = false := by simpa using h2
    clear h2
    go_enter Tryd.func68, Tryd.ntmps68
    go_wp2
    go_ret
    exact ⟨rfl, (Below.refl _ _).alloc (Nat.le_refl _) _⟩
theorem any_take_succ (p : S77 → Bool) (l : List S77) (i : Int) (h0 : 0 ≤ i) (h : i < l.length) : Aside0 ((l.take (i + 1).toNat).any p = ((l.take i.toNat).any p || p (rd_T77 l i))) := by
  obtain ⟨k, rfl⟩ := Int.eq_ofNat_of_zero_le h0
  have hk : k < l.length := by omega
  refine ⟨?_⟩
  rw [show ((k : Int) + 1).toNat = k + 1 by omega, List.take_succ_eq_append_getElem hk, List.any_append]
  simp [rd_T77, List.getD_eq_getElem?_getD, List.getElem?_eq_getElem hk]
theorem any_of_at (p : S77 → Bool) (l : List S77) (i : Int) (h0 : 0 ≤ i) (h : i < l.length) (hp : p (rd_T77 l i) = true) : decide (0 ≤ i) = l.any p := by
  obtain ⟨k, rfl⟩ := Int.eq_ofNat_of_zero_le h0
  have hk : k < l.length := by omega
  rw [decide_eq_true h0]
  symm
  rw [List.any_eq_true]
  exact ⟨l[k], List.getElem_mem hk, by simpa [rd_T77, List.getD_eq_getElem?_getD, List.getElem?_eq_getElem hk] using hp⟩
theorem any_none (p : S77 → Bool) (l : List S77) (i : Int) (h : (l.length : Int) ≤ i) (hp : (l.take i.toNat).any p = false) : decide (0 ≤ (-1 : Int)) = l.any p := by
  rw [List.take_of_length_le (by omega)] at hp
  rw [hp]; rfl
set_option maxHeartbeats 400000 in
theorem indexFunc_calls (fv : Value) (p : S77 → Bool) (g : Nat) (hg : fv = .func (.func g) #[] #[]) (eg : ∀ args w, (callFunc g args).run Tryd.prog w = .ok (.enter g args) w)
    (hp : ∀ (x : S77) (w : World), Calls Tryd.prog g #[.agg #[.int .i64 x.f0, .int .i64 x.f1, .string x.f2]] w fun e w' => e = .returned (.bool (p x)) ∧ Below w.heap.size w w')
    (A : Option Addr) (c : Nat) (l : List S77) (w : World) (hr : Kd.C k77 w A l.length l) :
    Calls Tryd.prog 78 #[.slice A l.length c, fv] w fun e w' => ∃ i : Int, e = .returned (.int .i64 i) ∧ (decide (0 ≤ i) = l.any p) ∧ Below w.heap.size w w' := by
  subst hg
  have HP := Aside0.mk hp
  have HR := Aside0.mk hr
  have hlen : l.length ≤ 9223372036854775807 := hr.2.1
  clear hp hr
  go_enter Tryd.func78, Tryd.ntmps78
  go_wp2
  go_loopw [5, 8] (fun _ v w' => ∃ i : Int, 0 ≤ i ∧ i ≤ l.length ∧ v = .int .i64 i ∧ Aside0 ((l.take i.toNat).any p = false) ∧ Below w.heap.size w w') (fun _ v _ => (l.length - intOf v).toNat)
  case atStart => exact ⟨0, by omega, by omega, rfl, ⟨by simp⟩, Below.refl _ _⟩
  case round =>
    obtain ⟨i, hi0, hi1, rfl, hpre, hb⟩ := hrel
    by_cases hlt : i < l.length
    · obtain ⟨ad, e, hx0, hx1, hx2⟩ := at_T77 (Kd.C_below HR.out hb) i hi0 hlt
      subst e
      have hst := any_take_succ p l i hi0 hlt
      cases hpx : p (rd_T77 l i)
      all_goals
        have HPX := Aside0.mk hpx
        clear hpx
        go_wp2_with fail
        refine (HP.out (rd_T77 l i) _).mono ?_
        rintro e w1 ⟨rfl, hb1⟩
        rw [HPX.out]
        go_wp2
      · go_roundw
        case rel => exact ⟨i + 1, by omega, by omega, by first | rfl | go_num, ⟨by rw [hst.out, hpre.out, HPX.out]; rfl⟩, hb.trans (hb1.mono hb.size)⟩
        case measure => simp [intOf]; omega
      · go_ret
        exact ⟨i, rfl, any_of_at p l i hi0 hlt HPX.out, hb.trans (hb1.mono hb.size)⟩
    · go_wp2
      go_ret
      exact ⟨-1, rfl, any_none p l i (by omega) hpre.out, hb⟩
theorem eg30 : ∀ args w, (callFunc 68 args).run Tryd.prog w = .ok (.enter 68 args) w := fun _ _ => by kernel_rfl
set_option maxHeartbeats 400000 in
theorem containsFunc_calls (fv : Value) (p : S77 → Bool) (g : Nat) (hg : fv = .func (.func g) #[] #[]) (eg : ∀ args w, (callFunc g args).run Tryd.prog w = .ok (.enter g args) w)
    (hp : ∀ (x : S77) (w : World), Calls Tryd.prog g #[.agg #[.int .i64 x.f0, .int .i64 x.f1, .string x.f2]] w fun e w' => e = .returned (.bool (p x)) ∧ Below w.heap.size w w')
    (A : Option Addr) (c : Nat) (l : List S77) (w : World) (hr : Kd.C k77 w A l.length l) :
    Calls Tryd.prog 69 #[.slice A l.length c, fv] w fun e w' => e = .returned (.bool (l.any p)) ∧ Below w.heap.size w w' := by
  subst hg
  have HI := Aside0.mk (indexFunc_calls _ p g rfl eg hp A c l w hr)
  clear hp hr eg
  go_enter Tryd.func69, Tryd.ntmps69
  go_wp2_with fail
  refine HI.out.mono ?_
  rintro e w1 ⟨i, rfl, hi, hb⟩
  have Hi := Aside0.mk hi
  clear hi
  go_wp2
  go_ret
  exact ⟨by rw [← Hi.out]; rfl, hb⟩
def okB (x : S77) : Bool := if x.f0 = 1 then x.f2.toList.isEmpty else if x.f0 = 2 then x.f1 == 0 else false
def pack_checkV (l : List S77) : Int := if 4000 < (l.length : Int) then 14 else if l.any longB then 14 else if l.all okB then 0 else 2
def pack_check.f (l0 : List S77) : Option Int := some (pack_checkV l0)
theorem okB_1 {x : S77} (h : x.f0 = 1) : okB x = x.f2.toList.isEmpty := by simp [okB, h]
theorem okB_2 {x : S77} (h : x.f0 = 2) : okB x = (x.f1 == 0) := by simp [okB, h]
theorem okB_3 {x : S77} (h : ¬ x.f0 = 1) (h2 : ¬ x.f0 = 2) : okB x = false := by simp [okB, h, h2]
theorem all_take_succ (p : S77 → Bool) (l : List S77) (i : Int) (h0 : 0 ≤ i) (h : i < l.length) (hp : (l.take i.toNat).all p = true) (hx : p (rd_T77 l i) = true) : (l.take (i + 1).toNat).all p = true := by
  obtain ⟨k, rfl⟩ := Int.eq_ofNat_of_zero_le h0
  have hk : k < l.length := by omega
  rw [show ((k : Int) + 1).toNat = k + 1 by omega, List.take_succ_eq_append_getElem hk, List.all_append]
  have : p l[k] = true := by simpa [rd_T77, List.getD_eq_getElem?_getD, List.getElem?_eq_getElem hk] using hx
  simp only [Int.toNat_natCast] at hp
  simp [hp, this]
theorem not_all (p : S77 → Bool) (l : List S77) (i : Int) (h0 : 0 ≤ i) (h : i < l.length) (hx : p (rd_T77 l i) = false) : l.all p = false := by
  obtain ⟨k, rfl⟩ := Int.eq_ofNat_of_zero_le h0
  have hk : k < l.length := by omega
  have : p l[k] = false := by simpa [rd_T77, List.getD_eq_getElem?_getD, List.getElem?_eq_getElem hk] using hx
  rw [List.all_eq_false]
  exact ⟨l[k], List.getElem_mem hk, by simp [this]⟩
theorem check_bad {l : List S77} {r : Int} (hr : pack_checkV l = r) (h1 : ¬ 4000 < (l.length : Int)) (h2 : l.any longB = false) (i : Int) (h0 : 0 ≤ i) (h : i < l.length) (hx : okB (rd_T77 l i) = false) : Ending.returned (.int .i64 2) = .returned (.int .i64 r) := by
  rw [← hr, pack_checkV, if_neg h1, h2, not_all okB l i h0 h hx]; rfl
theorem check_good {l : List S77} {r : Int} (hr : pack_checkV l = r) (h1 : ¬ 4000 < (l.length : Int)) (h2 : l.any longB = false) (i : Int) (h : (l.length : Int) ≤ i) (hx : (l.take i.toNat).all okB = true) : Ending.returned (.int .i64 0) = .returned (.int .i64 r) := by
  rw [List.take_of_length_le (by omega)] at hx
  rw [← hr, pack_checkV, if_neg h1, h2, hx]; rfl
set_option maxHeartbeats 1000000 in
theorem pack_check.calls (A0 : Option Addr) (c0 : Nat) (l0 : List S77) (r : Int) (w : World) (hr0 : Kd.C k77 w A0 l0.length l0) (hc0 : l0.length ≤ c0) (h : pack_check.f l0 = some r) :
    Calls Tryd.prog 58 #[.slice A0 l0.length c0] w fun e w' => e = .returned (.int .i64 r) ∧ Below w.heap.size w w' := by
  have Hr := Aside0.mk (Option.some.inj h)
  have HR := Aside0.mk hr0
  have hlen : l0.length ≤ 9223372036854775807 := hr0.2.1
  have HC := Aside0.mk hc0
  clear h hr0 hc0
  by_cases h1 : 4000 < (l0.length : Int)
  · go_enter Tryd.func58, Tryd.ntmps58
    go_wp2
    go_ret
    exact ⟨by rw [← Hr.out, pack_checkV, if_pos h1]; rfl, Below.refl _ _⟩
  · have hh := Aside0.mk h1
    go_enter Tryd.func58, Tryd.ntmps58
    go_wp2_with fail
    refine (containsFunc_calls _ longB 68 rfl eg30 long_calls A0 c0 l0 w HR.out).mono ?_
    rintro e w1 ⟨rfl, hb⟩
    cases hany : l0.any longB
    · have Hany := Aside0.mk hany
      clear hany
      go_wp2
      go_loopw [5, 16, 20] (fun _ v _ w' => ∃ i : Int, 0 ≤ i ∧ i ≤ l0.length ∧ v = .int .i64 i ∧ Aside0 ((l0.take i.toNat).all okB = true) ∧ Below w.heap.size w w') (fun _ v _ _ => (l0.length - intOf v).toNat)
      case atStart => exact ⟨0, by omega, by omega, rfl, ⟨by simp⟩, hb⟩
      case round =>
        clear hb
        obtain ⟨i, hi0, hi1, rfl, hpre, hb⟩ := hrel
        by_cases hlt : i < l0.length
        · obtain ⟨ad, e, hx0, hx1, hx2⟩ := at_T77 (Kd.C_below HR.out hb) i hi0 hlt
          subst e
          have HB : Aside0 (∀ o, Below w.heap.size w (wr.alloc o)) := ⟨fun o => hb.alloc hb.size o⟩
          by_cases k1 : (rd_T77 l0 i).f0 = 1
          · have K := Aside0.mk (okB_1 k1)
            have k1b : ((rd_T77 l0 i).f0 == 1) = true := by simpa using k1
            clear k1
            cases he : (rd_T77 l0 i).f2.toList.isEmpty
            · go_wp2
              go_ret
              exact ⟨check_bad Hr.out (by have := hh.out; omega) Hany.out i hi0 hlt (by rw [K.out, he]), HB.out _⟩
            · go_wp2
              go_roundw
              case rel => exact ⟨i + 1, by omega, by omega, by first | rfl | go_num, ⟨all_take_succ okB l0 i hi0 hlt hpre.out (by rw [K.out, he])⟩, HB.out _⟩
              case measure => simp [intOf]; omega
          · have k1b : ((rd_T77 l0 i).f0 == 1) = false := by simpa using k1
            by_cases k2 : (rd_T77 l0 i).f0 = 2
            · have K := Aside0.mk (okB_2 k2)
              have k2b : ((rd_T77 l0 i).f0 == 2) = true := by simpa using k2
              clear k1 k2
              cases he : (rd_T77 l0 i).f1 == 0
              · go_wp2
                go_ret
                exact ⟨check_bad Hr.out (by have := hh.out; omega) Hany.out i hi0 hlt (by rw [K.out, he]), HB.out _⟩
              · go_wp2
                go_roundw
                case rel => exact ⟨i + 1, by omega, by omega, by first | rfl | go_num, ⟨all_take_succ okB l0 i hi0 hlt hpre.out (by rw [K.out, he])⟩, HB.out _⟩
                case measure => simp [intOf]; omega
            · have K := Aside0.mk (okB_3 k1 k2)
              have k2b : ((rd_T77 l0 i).f0 == 2) = false := by simpa using k2
              clear k1 k2
              go_wp2
              go_ret
              exact ⟨check_bad Hr.out (by have := hh.out; omega) Hany.out i hi0 hlt K.out, HB.out _⟩
        · go_wp2
          go_ret
          exact ⟨check_good Hr.out (by have := hh.out; omega) Hany.out i (by omega) hpre.out, hb⟩
    · have Hany := Aside0.mk hany
      clear hany
      go_wp2
      go_ret
      exact ⟨by rw [← Hr.out, pack_checkV, if_neg (by have := hh.out; omega), Hany.out]; rfl, hb⟩
end
end Go.Proofs.YtmkkeccmjejfnaaDoor.PA
namespace Go.Proofs.YtmkkeccmjejfnaaDoor.PA
section

open Go.RowKit Go.Proofs.YtmkkeccmjejfnaaDoorW.PrintWords Go.Proofs.YtmkkeccmjejfnaaDoorW.PrintLast Go.Proofs.YtmkkeccmjejfnaaDoorW.PrintMore
attribute [local go_sem] pr_leq pr_geq pr_gtr max2_int min2_int max_two min_two max_three min_three max_four min_four
set_option linter.unusedVariables false
set_option linter.unusedSimpArgs false
def pack_put.l0 : Nat → List Int → Int → Int → Int → Option (List Int)
  | 0, _, _, _, _ => none
  | k + 1, x0, x1, x7, x8 => if x8 < x7 then (if x0.length < 140737488355328 then (pack_put.l0 k (x0 ++ [(x1) % 256]) (x1 / 256) x7 (wrap64 (x8 + 1))) else (none)) else (some x0)
def pack_put.f (k : Nat) (l0 : List Int) (a1 : Int) (a2 : Int) : Option (List Int) := pack_put.l0 k l0 a1 a2 0
theorem pack_put.mono_l : ∀ k, (∀ y0 y1 y2 y3, LeO (pack_put.l0 k y0 y1 y2 y3) (pack_put.l0 (k + 1) y0 y1 y2 y3))
  | 0 => fun _ _ _ _ r h => by simp [pack_put.l0] at h
  | k + 1 => by
    have ih0 := pack_put.mono_l k
    · intro y0 y1 y2 y3
      unfold pack_put.l0
      repeat' first
      | (with_reducible exact ih0 _ _ _ _)
      | (with_reducible exact LeO.refl _)
      | (with_reducible exact LeO.none _)
      | (with_reducible refine LeO.ite ?_ ?_)
      | (with_reducible refine LeO.bind ?_ (fun _ => ?_))
      | exact ih0 _ _ _ _
      | exact LeO.none _
      | refine LeO.ite ?_ ?_
      | refine LeO.bind ?_ (fun _ => ?_)
theorem pack_put.mono : ∀ a0 a1 a2 k, LeO (pack_put.f k a0 a1 a2) (pack_put.f (k + 1) a0 a1 a2) := by
  intro a0 a1 a2 k
  have ih0 := pack_put.mono_l k
  unfold pack_put.f
  repeat' first
      | (with_reducible exact ih0 _ _ _ _)
      | (with_reducible exact LeO.refl _)
      | (with_reducible exact LeO.none _)
      | (with_reducible refine LeO.ite ?_ ?_)
      | (with_reducible refine LeO.bind ?_ (fun _ => ?_))
      | exact ih0 _ _ _ _
      | exact LeO.none _
      | refine LeO.ite ?_ ?_
      | refine LeO.bind ?_ (fun _ => ?_)
set_option maxHeartbeats 8000000 in
set_option maxRecDepth 100000 in
theorem pack_put.calls (k : Nat) (P0_ : Nat → Prop) (u9000_ : Value) (l0 : List Int) (a1 : Int) (a2 : Int) (r : List Int) (w0 w : World) (hB : Below w0.heap.size w0 w) (ho0 : Kd.R (Kd.int .u8) 5 w w0.heap.size P0_ u9000_ l0) (h : pack_put.f k l0 a1 a2 = some r) :
    Calls Tryd.prog 59 #[u9000_, .int .u64 a1, .int .i64 a2] w fun e w' => ∃ v0_ : Value, e = .returned (v0_) ∧ Kd.R (Kd.int .u8) 5 w' w0.heap.size (fun k_ => (P0_ k_ ∨ w.heap.size ≤ k_)) v0_ r ∧ Below w0.heap.size w0 w' ∧ Kept w w' (fun k_ => P0_ k_) := by
  have HO0 := Aside0.mk (show Kd.R (Kd.int .u8) 5 w w0.heap.size (fun k_ => (P0_ k_ ∨ w.heap.size ≤ k_)) u9000_ l0 from Kd.R_mono ho0 (fun k_ hk => (.inl hk)))
  have HK := Aside0.mk (Kept.refl w (fun k_ => P0_ k_))
  have HW0 := Aside0.mk hB.size
  have HB := Aside0.mk hB
  clear hB
  have H : (pack_put.l0 k l0 a1 a2 0) = some r := h
  clear h
  have H' := Aside0.mk H
  clear H
  go_enter Tryd.func59, Tryd.ntmps59
  go_wp2
  go_loopg [0, 1, 8] k (fun kq v0 v1 v8 w' => ∃ (x0_1 : List Int) (x1_1 : Int) (x8_1 : Int), v1 = .int .u64 x1_1 ∧ v8 = .int .i64 x8_1 ∧ Aside0 (pack_put.l0 kq x0_1 x1_1 a2 x8_1 = some r) ∧ Aside0 (kq ≤ k) ∧ Aside0 (Kd.R (Kd.int .u8) 5 w' w0.heap.size (fun k_ => (P0_ k_ ∨ w.heap.size ≤ k_)) v0 x0_1) ∧ Aside0 (Kept w w' (fun k_ => P0_ k_)) ∧ Aside0 (Below w0.heap.size w0 w'))
  case atStart => exact ⟨(l0), (a1), (0), (by first | rfl | (simp; done) | (simp [*]; done)), (by first | rfl | (simp; done) | (simp [*]; done)), H', ⟨Nat.le_refl _⟩, ⟨by (with_reducible repeat (first | apply Kd.R_alloc | apply Kd.R_drewN | apply Kd.R_drew)); exact HO0.out⟩, ⟨by repeat (first | (with_reducible first | exact HK.out | apply Kept.alloc | apply Kept.drewN | apply Kept.drew) | exact HK.out)⟩, ⟨by repeat (first | (with_reducible first | exact HB.out | apply below_alloc | apply pw_below_drewN | apply below_drew1) | exact HB.out)⟩⟩
  case round =>
    clear H'
    try clear p2
    obtain ⟨x0_1, x1_1, x8_1, rfl, rfl, HA, HK1, HO_0, HK, HB⟩ := hrel
    cases gk with
    | zero => exact absurd HA.out (by simp [pack_put.l0])
    | succ k1 =>
      have H := HA.out
      clear HA
      simp only [pack_put.l0] at H
      by_cases c4 : x8_1 < a2
      · rw [if_pos c4] at H
        have c4b0 : decide (x8_1 < a2) = true := decide_eq_true c4
        clear c4
        by_cases c5 : x0_1.length < 140737488355328
        · rw [if_pos c5] at H
          have LMc5 := Aside0.mk c5
          clear c5
          obtain ⟨y107, hy107⟩ : ∃ y_ : List Int, y_ = (x0_1 ++ [(x1_1) % 256]) := ⟨_, rfl⟩
          replace H : (pack_put.l0 k1 y107 (x1_1 / 256) a2 (wrap64 (x8_1 + 1))) = some r := by first | (rw [hy107]; with_reducible exact H) | (have H2_ := (Option.bind_some _ _).symm.trans H; rw [hy107]; with_reducible exact H2_) | (have H2_ := (Option.bind_some _ _).symm.trans H; with_reducible exact H2_) | with_reducible exact H | (rw [hy107]; exact H) | exact H
          have Ny107 := Aside0.mk hy107
          clear hy107
          have H' := Aside0.mk H
          clear H
          go_wp2_with (first | ((with_reducible refine gate_builtin (b := .append) (xs := #[.tmp 10, .tmp 13]) rfl ?_); at_builtin; refine Kd.R_append (Kd.int .u8) (w0 := w0) w0.heap.size rfl (.tmp 10) (.tmp 13) 36 5 (.int .u8 0) 1 rfl Tryd.underlying36 info5 rfl (by decide) (by omega) u0 x0_1 ((x1_1) % 256) [.int .u8 ((x1_1) % 256)] (fun k_ => (P0_ k_ ∨ w.heap.size ≤ k_)) (fun _ => False) rfl rfl ?aP (fun _ hk => hk.elim) ?aF ?aO ?aB ?aS ?aL ?_; (case aP => exact rfl); (case aB => exact (by repeat (first | (with_reducible first | exact HB.out | apply below_alloc | apply pw_below_drewN | apply below_drew1) | exact HB.out))); (case aF => exact (fun k_ hk => (.inr (Nat.le_trans (by first | exact HK.out.1 | exact (show Kept w _ (fun k_ => P0_ k_) from by repeat (first | (with_reducible first | exact HK.out | apply Kept.alloc | apply Kept.drewN | apply Kept.drew) | exact HK.out)).1) hk)))); (case aO => exact (by (with_reducible repeat (first | apply Kd.R_alloc | apply Kd.R_drewN | apply Kd.R_drew)); exact HO_0.out)); (case aS => exact (below_size (by repeat (first | (with_reducible first | exact HB.out | apply below_alloc | apply pw_below_drewN | apply below_drew1) | exact HB.out)))); (case aL => have := LMc5.out; omega); intro v108 w6 ho hb hg hat; rw [← Ny107.out] at ho; have n0_ := Aside0.mk (hb); have n1_ := Aside0.mk (Kept.of_grown (S := (fun k_ => P0_ k_)) hg (by repeat (first | (with_reducible first | exact HK.out | apply Kept.alloc | apply Kept.drewN | apply Kept.drew) | exact HK.out)) (fun k_ e_ => (HO_0.out.1 k_ e_))); have n2_ := Aside0.mk (ho); clear HB; clear HK; clear HO_0; have HB := n0_; have HK := n1_; have HO109 := n2_; clear n0_ n1_ n2_; clear ho hb hg hat))
          go_roundg k1
          case measure => have := HK1.out; omega
          case rel => exact ⟨(y107), (x1_1 / 256), (wrap64 (x8_1 + 1)), (by first | rfl | (simp; done) | (simp [*]; done)), (by first | rfl | (simp; done) | (simp [*]; done)), H', ⟨by have := HK1.out; omega⟩, ⟨by (with_reducible repeat (first | apply Kd.R_alloc | apply Kd.R_drewN | apply Kd.R_drew)); exact HO109.out⟩, ⟨by repeat (first | (with_reducible first | exact HK.out | apply Kept.alloc | apply Kept.drewN | apply Kept.drew) | exact HK.out)⟩, ⟨by repeat (first | (with_reducible first | exact HB.out | apply below_alloc | apply pw_below_drewN | apply below_drew1) | exact HB.out)⟩⟩
        · rw [if_neg c5] at H
          exact absurd H (by simp)
      · rw [if_neg c4] at H
        have c4b0 : decide (x8_1 < a2) = false := decide_eq_false c4
        clear c4
        obtain rfl := Option.some.inj H
        go_wp2
        go_ret
        exact ⟨_, by first | rfl | (simp [errW_none, errW_some] <;> rfl) | (simp [*, errW_none, errW_some] <;> rfl), by (with_reducible repeat (first | apply Kd.R_alloc | apply Kd.R_drewN | apply Kd.R_drew)); exact HO_0.out, by repeat (first | (with_reducible first | exact HB.out | apply below_alloc | apply pw_below_drewN | apply below_drew1) | exact HB.out), by repeat (first | (with_reducible first | exact HK.out | apply Kept.alloc | apply Kept.drewN | apply Kept.drew) | exact HK.out)⟩
theorem put_tells (n : Nat) (hn : (n : Int) ≤ 1000) : ∀ (d k : Nat) (x : Int) (acc : List Int) (i : Int), 0 ≤ i → i + d = n → d < k → acc.length + d ≤ 140737488355328 →
    pack_put.l0 k acc x n i = some (acc ++ leB x d) := by
  intro d
  induction d with
  | zero =>
    intro k x acc i hi hd hk ha
    obtain ⟨k, rfl⟩ : ∃ m, k = m + 1 := ⟨k - 1, by omega⟩
    simp only [pack_put.l0]
    rw [if_neg (by omega)]
    simp [leB]
  | succ d ih =>
    intro k x acc i hi hd hk ha
    obtain ⟨k, rfl⟩ : ∃ m, k = m + 1 := ⟨k - 1, by omega⟩
    simp only [pack_put.l0]
    rw [if_pos (by omega), if_pos (by omega), show wrap64 (i + 1) = i + 1 by unfold wrap64; omega]
    rw [ih k (x / 256) (acc ++ [x % 256]) (i + 1) (by omega) (by omega) (by omega) (by simp; omega)]
    simp [leB]
theorem put_val (acc : List Int) (x : Int) (n : Nat) (hn : n ≤ 8) (ha : acc.length + n ≤ 140737488355328) : pack_put.f 10 acc x n = some (acc ++ leB x n) := by
  rw [pack_put.f, put_tells n (by omega) n 10 x acc 0 (by omega) (by omega) (by omega) (by omega)]
theorem put_len (acc : List Int) (n : Nat) (h : n ≤ 50000) (ha : acc.length + 2 ≤ 140737488355328) : pack_put.f 10 acc (IntKind.u64.wrap (n : Int)) 2 = some (acc ++ leB (n : Int) 2) := by
  rw [u64_id _ (by omega) (by omega)]
  exact put_val acc (n : Int) 2 (by omega) ha
theorem check_ok {l : List S77} (h : pack_checkV l = 0) : encOk l = true ∧ ∀ x ∈ l, okB x = true := by
  unfold pack_checkV at h
  by_cases h1 : 4000 < (l.length : Int)
  · rw [if_pos h1] at h; cases h
  rw [if_neg h1] at h
  by_cases h2 : l.any longB = true
  · rw [if_pos h2] at h; cases h
  rw [if_neg h2] at h
  by_cases h3 : l.all okB = true
  · refine ⟨?_, fun x hx => List.all_eq_true.1 h3 x hx⟩
    simp only [encOk, Bool.and_eq_true, decide_eq_true_eq, List.all_eq_true, Bool.or_eq_true, beq_iff_eq]
    refine ⟨by omega, fun x hx => ?_⟩
    have ho := List.all_eq_true.1 h3 x hx
    have hl : longB x = false := by
      cases hh : longB x
      · rfl
      · exact absurd (List.any_eq_true.2 ⟨x, hx, hh⟩) h2
    by_cases k1 : x.f0 = 1
    · exact .inl k1
    · right
      by_cases k2 : x.f0 = 2
      · simp only [longB, k2, Bool.and_eq_false_iff, decide_eq_false_iff_not] at hl
        rcases hl with hl | hl
        · cases hl
        · omega
      · rw [okB_3 k1 k2] at ho; cases ho
  · rw [if_neg h3] at h; cases h
theorem kind_ok {x : S77} (h : okB x = true) (h1 : ¬ x.f0 = 1) : x.f0 = 2 := by
  by_cases k2 : x.f0 = 2
  · exact k2
  · rw [okB_3 h1 k2] at h; cases h
def pack_Encode.f (l0 : List (S77)) : Option (List Int × Int) := some (if pack_checkV l0 = 0 then encL l0 else [], pack_checkV l0)
set_option maxHeartbeats 4000000 in
set_option maxRecDepth 100000 in
theorem pack_Encode.calls (A0 : Option Addr) (c0 : Nat) (l0 : List (S77)) (r1 : List Int) (r2 : Int) (w : World) (hr0 : Kd.C k77 w A0 l0.length l0) (hc0 : l0.length ≤ c0) (h : pack_Encode.f l0 = some (r1, r2)) :
    Calls Tryd.prog 43 #[.slice A0 l0.length c0] w fun e w' => ∃ v0_ : Value, e = .returned (.tuple #[v0_, .int .i64 r2]) ∧ Kd.R (Kd.int .u8) 5 w' w.heap.size (fun _ => True) v0_ r1 ∧ Below w.heap.size w w' := by
  simp only [pack_Encode.f, Option.some.injEq, Prod.mk.injEq] at h
  obtain ⟨h1, h2⟩ := h
  have HR := Aside0.mk hr0
  have HC := Aside0.mk hc0
  have H1 := Aside0.mk h1
  have H2 := Aside0.mk h2
  clear h1 h2 hr0 hc0
  go_enter Tryd.func43, Tryd.ntmps43
  go_wp2_with fail
  refine (pack_check.calls A0 c0 l0 _ w HR.out HC.out rfl).mono ?_
  rintro e w1 ⟨rfl, hb⟩
  by_cases h0 : pack_checkV l0 = 0
  · rw [h0]
    have HB0 := Aside0.mk hb
    clear hb
    have hlen : l0.length ≤ 4000 := (encOk_iff (check_ok h0).1).1
    have HK := Aside0.mk (check_ok h0)
    have H0 := Aside0.mk h0
    clear h0
    go_wp2
    go_loopw [5, 7, 15] (fun v5 _ v w' => ∃ i : Int, 0 ≤ i ∧ i ≤ l0.length ∧ v = .int .i64 i ∧ Aside0 (Kd.R (Kd.int .u8) 5 w' w.heap.size (fun _ => True) v5 (encL (l0.take i.toNat))) ∧ Aside0 (Below w.heap.size w w')) (fun _ _ v _ => (l0.length - intOf v).toNat)
    case atStart => exact ⟨0, by omega, by omega, rfl, ⟨by simpa [encL] using Kd.R_nil _ _ _ _ _⟩, HB0⟩
    case round =>
      clear HB0
      obtain ⟨i, hi0, hi1, rfl, HO, HB⟩ := hrel
      by_cases hlt : i < l0.length
      · obtain ⟨ad, e, hx0, hx1, hx2⟩ := at_T77 (Kd.C_below HR.out HB.out) i hi0 hlt
        subst e
        have HL := Aside0.mk (encL_take_len HK.out.1 i.toNat)
        have HE := Aside0.mk (encL_take l0 i hi0 hlt)
        have hsz : w.heap.size ≤ wr.heap.size := HB.out.size
        have hown : ∀ k, u5.ownBlock = some k → k < wr.heap.size := fun k hk => own_lt (Kd.own_of_R HO.out) k hk
        have HW := Aside0.mk hown
        clear hown
        by_cases k1 : (rd_T77 l0 i).f0 = 1
        · have HI : Aside0 (encI (rd_T77 l0 i) = 1 :: leB (IntKind.u64.wrap (rd_T77 l0 i).f1) 8) := ⟨by simp only [encI, k1, if_true]⟩
          rw [k1] at hx0
          clear k1
          go_wp2_with (first | (at_builtin; refine Kd.R_append (Kd.int .u8) (w0 := w) w.heap.size rfl (.tmp 19) (.tmp 23) 36 5 (.int .u8 0) 1 rfl Tryd.underlying36 info5 rfl (by decide) (by omega) u5 (encL (l0.take i.toNat)) 1 [.int .u8 1] (fun _ => True) (fun _ => False) rfl (by simp [Act.eval]) ?aP (fun _ hk => hk.elim) ?aF ?aO ?aB ?aS ?aL ?_; (case aP => exact rfl); (case aB => exact below_alloc HB.out _); (case aF => exact (fun _ _ => trivial)); (case aO => exact Kd.R_alloc HO.out _); (case aS => exact (below_alloc HB.out _).size); (case aL => have := HL.out; omega); intro v1 w2 hR hB hg hat; have HO1 := Aside0.mk hR; have HB1 := Aside0.mk hB; have HG1 := Aside0.mk (box_grown hg HW.out);  clear hR hB hg hat; have b0 : w2.cell? ⟨wr.heap.size, 0, none⟩ = some (.int .i64 1) := cell_blk HG1.out 0; have b1 : w2.cell? ⟨wr.heap.size, 1, none⟩ = some (.int .i64 (rd_T77 l0 i).f1) := cell_blk HG1.out 1))
          refine (pack_put.calls 10 (fun _ => True) v1 (encL (l0.take i.toNat) ++ [1]) _ _ _ w w2 HB1.out HO1.out (put_val _ _ 8 (by omega) (by have := HL.out; simp; omega))).mono ?_
          rintro e w3 ⟨v3, rfl, hR, hB, _⟩
          have HO3 := Aside0.mk (Kd.R_mono hR (fun _ _ => trivial))
          have HB3 := Aside0.mk hB
          clear hR hB
          go_wp2
          go_roundw
          case rel => exact ⟨i + 1, by omega, by omega, by first | rfl | go_num, ⟨by rw [HE.out, HI.out]; have h := HO3.out; simpa using h⟩, HB3⟩
          case measure => simp [intOf]; omega
        · have k2 : (rd_T77 l0 i).f0 = 2 := kind_ok (HK.out.2 _ (rd_mem hi0 hlt)) k1
          have HI : Aside0 (encI (rd_T77 l0 i) = 2 :: (leB ((rd_T77 l0 i).f2.size : Int) 2 ++ bytesOf (rd_T77 l0 i).f2)) := ⟨by rw [encI, if_neg k1]⟩
          have hz : (rd_T77 l0 i).f2.size ≤ 50000 := ((encOk_iff HK.out.1).2 _ (rd_mem hi0 hlt)).resolve_left k1
          have HZ := Aside0.mk hz
          have PV := Aside0.mk (put_len (encL (l0.take i.toNat) ++ [2]) (rd_T77 l0 i).f2.size hz (by have := HL.out; simp; omega))
          rw [k2] at hx0
          clear k1 k2
          go_wp2_with (first | (at_builtin; refine Kd.R_append (Kd.int .u8) (w0 := w) w.heap.size rfl (.tmp 19) (.tmp 23) 36 5 (.int .u8 0) 1 rfl Tryd.underlying36 info5 rfl (by decide) (by omega) u5 (encL (l0.take i.toNat)) 2 [.int .u8 2] (fun _ => True) (fun _ => False) rfl (by simp [Act.eval]) ?aP (fun _ hk => hk.elim) ?aF ?aO ?aB ?aS ?aL ?_; (case aP => exact rfl); (case aB => exact below_alloc HB.out _); (case aF => exact (fun _ _ => trivial)); (case aO => exact Kd.R_alloc HO.out _); (case aS => exact (below_alloc HB.out _).size); (case aL => have := HL.out; omega); intro v1 w2 hR hB hg hat; have HO1 := Aside0.mk hR; have HB1 := Aside0.mk hB; have HG1 := Aside0.mk (box_grown hg HW.out); clear hR hB hg hat; have b0 : w2.cell? ⟨wr.heap.size, 0, none⟩ = some (.int .i64 2) := cell_blk HG1.out 0; have b1 : w2.cell? ⟨wr.heap.size, 2, none⟩ = some (.string (rd_T77 l0 i).f2) := cell_blk HG1.out 2))
          go_region_held3 (fun w' => w'.cell? ⟨wr.heap.size, 2, none⟩ = some (.string (rd_T77 l0 i).f2))
            (first | go_keep | (exact cell_blk HG3.out 2) | (exact cell_blk HG4.out 2) | fail)
            (first
              | (go_at_call 59; refine (pack_put.calls 10 (fun k => True ∧ k ≠ wr.heap.size) v1 (encL (l0.take i.toNat) ++ [2]) _ _ _ w _ HB1.out.drew (Kd.R_drew (Kd.R_types HO1.out HG1.out (by intro q hq; simp [Kd.int, Kd.scalar] at hq; omega))) PV.out).mono ?_; rintro e w3 ⟨v3, rfl, hR, hB, hK⟩; have HO3 := Aside0.mk (Kd.R_mono hR (ok' := fun _ => True) (fun _ _ => trivial)); have HB3 := Aside0.mk hB; have HG3 := Aside0.mk (kept_blk hK HG1.out (by simp)); clear hR hB hK)
              | (refine R_append_str_step (w0 := w) w.heap.size (by rfl) (.tmp 38) (.tmp 40) 36 9 5 (by rfl) Tryd.underlying36 Tryd.underlying9 info5 _ (encL (l0.take i.toNat) ++ [2] ++ leB ((rd_T77 l0 i).f2.size : Int) 2) (rd_T77 l0 i).f2 (by rfl) (by rfl) HO3.out HB3.out HB3.out.size ?hL ?_; (case hL => have := HL.out; have := HZ.out; simp [leB_length]; omega); intro v4 w4 hR hB hg; have HG4 := Aside0.mk (grown_blk hg HG3.out (Kd.R_ne HO3.out HG3.out (by decide))); have HO4 := Aside0.mk hR; have HB4 := Aside0.mk hB; clear hR hB hg)
              | fail)
          go_wp2
          go_roundw
          case rel => exact ⟨i + 1, by omega, by omega, by first | rfl | go_num, ⟨by rw [HE.out, HI.out]; have h := HO4.out; simpa using h⟩, HB4⟩
          case measure => simp [intOf]; omega
      · have HT : Aside0 (l0.take i.toNat = l0) := ⟨List.take_of_length_le (by omega)⟩
        go_wp2
        go_ret2
        exact ⟨_, by rw [← H2.out, H0.out]; rfl, by rw [← H1.out, if_pos H0.out]; have h := HO.out; rw [HT.out] at h; exact h, HB.out⟩
  · have HB0 := Aside0.mk hb
    have H0 := Aside0.mk h0
    have hn : (pack_checkV l0 != 0) = true := by simpa using h0
    clear hb h0
    go_wp2
    go_ret2
    exact ⟨_, by rw [← H2.out]; rfl, by rw [← H1.out, if_neg H0.out]; exact Kd.R_nil _ _ _ _ _, HB0.out⟩
end
end Go.Proofs.YtmkkeccmjejfnaaDoor.PA
namespace Go.Proofs.YtmkkeccmjejfnaaDoor.PA
section

open Go.RowKit Go.Proofs.YtmkkeccmjejfnaaDoorW.PrintWords Go.Proofs.YtmkkeccmjejfnaaDoorW.PrintLast Go.Proofs.YtmkkeccmjejfnaaDoorW.PrintMore
attribute [local go_sem] pr_leq pr_geq pr_gtr max2_int min2_int max_two min_two max_three min_three max_four min_four
set_option linter.unusedVariables false
set_option linter.unusedSimpArgs false
def bytes_Clone.f (l0 : List Int) : Option (List Int) := if l0.length ≤ 140737488355328 then some l0 else none
set_option maxHeartbeats 1000000 in
theorem bytes_Clone.calls (A0 : Option Addr) (c0 : Nat) (l0 : List Int) (r : List Int) (w : World) (hr0 : Kd.C (Kd.int .u8) w A0 l0.length l0) (hc0 : l0.length ≤ c0) (h : bytes_Clone.f l0 = some r) :
    Calls Tryd.prog 60 #[.slice A0 l0.length c0] w fun e w' => ∃ v0_ : Value, e = .returned v0_ ∧ Kd.R (Kd.int .u8) 5 w' w.heap.size (fun _ => True) v0_ r ∧ Below w.heap.size w w' := by
  unfold bytes_Clone.f at h
  by_cases hlen : l0.length ≤ 140737488355328
  · rw [if_pos hlen] at h
    obtain rfl := Option.some.inj h
    have HR := Aside0.mk hr0
    have HC := Aside0.mk hc0
    have heq := Lib.run_eql_slice_nil (P := Tryd.prog) w 36 5 A0 l0.length c0 0 0 Tryd.underlying36
    have HL := Aside0.mk hlen
    clear h hc0
    cases A0 with
    | none =>
      have h0 : l0.length = 0 := by
        rcases Nat.eq_zero_or_pos l0.length with h | h
        · exact h
        · obtain ⟨ad, e, _⟩ := hr0.2.2 h
          cases e
      obtain rfl := List.eq_nil_of_length_eq_zero h0
      clear hr0 h0 hlen heq
      have heq := Lib.run_eql_slice_nil (P := Tryd.prog) w 36 5 none 0 c0 0 0 Tryd.underlying36
      go_enter Tryd.func60, Tryd.ntmps60
      go_wp2
      go_ret
      exact ⟨_, rfl, Kd.R_nil _ _ _ _ _, Below.refl _ _⟩
    | some ad =>
      clear hr0 hlen
      have HN : Aside0 ((Kd.int .u8).R 5 (w.alloc (.cells #[] 5)) w.heap.size (fun _ => True) (.slice (some ⟨w.heap.size, 0, none⟩) 0 0) ([] : List Int)) :=
        ⟨Kd.R_of_own (by have h2 := World.ownsRow_lit (base := w.heap.size) (e := 5) (size := 1) w #[] 0 (Nat.le_refl _) (by simp [maxLen]) (by simp); simpa [encs] using h2) (fun _ _ => trivial)⟩
      go_enter Tryd.func60, Tryd.ntmps60
      go_wp2_with (first | (at_builtin; refine Kd.R_append_row (w0 := w) (Value.int .u8) (0 : Int) w.heap.size rfl (.tmp 5) (.tmp 6) 36 5 (.int .u8 0) 1 rfl Tryd.underlying36 info5 rfl (by decide) _ [] l0 (some ad) l0.length c0 (fun _ => True) rfl rfl (fun _ _ => trivial) HN.out (Kd.C_below HR.out (below_alloc (Below.refl _ _) _)) (below_alloc (Below.refl _ _) _) (by simp) (by simpa using HL.out) ?_; intro v1 w1 hR hB hg hat; have HR1 := Aside0.mk hR; have HB1 := Aside0.mk hB; clear hR hB hat))
      go_ret
      exact ⟨_, rfl, HR1.out, HB1.out⟩
  · rw [if_neg hlen] at h
    cases h
mutual
def pack_Crc.l0 : Nat → Int → List Int → Int → Int → Option (Int)
  | 0, _, _, _, _ => none
  | k + 1, x3, x7, x8, x9 => if x9 < x8 then (if 0 ≤ x9 then (if x9 < (x7.length : Int) then (pack_Crc.l1 k (Go.bits .xor .u32 x3 ((rd x7 x9) % 4294967296)) x7 x8 x9 0) else (none)) else (none)) else (some (wrap64 (Go.bits .xor .u32 IntKind.u32.max x3)))
def pack_Crc.l1 : Nat → Int → List Int → Int → Int → Int → Option (Int)
  | 0, _, _, _, _, _ => none
  | k + 1, x3, x7, x8, x9, x17 => if x17 < 8 then (if (Go.bits .and .u32 x3 1) = 1 then (pack_Crc.l1 k (Go.bits .xor .u32 (x3 / 2) 3988292384) x7 x8 x9 (wrap64 (x17 + 1))) else (pack_Crc.l1 k (x3 / 2) x7 x8 x9 (wrap64 (x17 + 1)))) else (pack_Crc.l0 k x3 x7 x8 (wrap64 (x9 + 1)))
end
def pack_Crc.f (k : Nat) (l0 : List Int) : Option (Int) := pack_Crc.l0 k 4294967295 l0 (l0.length : Int) 0
theorem pack_Crc.mono_l : ∀ k, (∀ y0 y1 y2 y3, LeO (pack_Crc.l0 k y0 y1 y2 y3) (pack_Crc.l0 (k + 1) y0 y1 y2 y3)) ∧ (∀ y0 y1 y2 y3 y4, LeO (pack_Crc.l1 k y0 y1 y2 y3 y4) (pack_Crc.l1 (k + 1) y0 y1 y2 y3 y4))
  | 0 => ⟨fun _ _ _ _ r h => by simp [pack_Crc.l0] at h, fun _ _ _ _ _ r h => by simp [pack_Crc.l1] at h⟩
  | k + 1 => by
    obtain ⟨ih0, ih1⟩ := pack_Crc.mono_l k
    refine ⟨?_, ?_⟩
    · intro y0 y1 y2 y3
      unfold pack_Crc.l0
      repeat' first
      | (with_reducible exact ih0 _ _ _ _)
      | (with_reducible exact ih1 _ _ _ _ _)
      | (with_reducible exact LeO.refl _)
      | (with_reducible exact LeO.none _)
      | (with_reducible refine LeO.ite ?_ ?_)
      | (with_reducible refine LeO.bind ?_ (fun _ => ?_))
      | exact ih0 _ _ _ _
      | exact ih1 _ _ _ _ _
      | exact LeO.none _
      | refine LeO.ite ?_ ?_
      | refine LeO.bind ?_ (fun _ => ?_)
    · intro y0 y1 y2 y3 y4
      unfold pack_Crc.l1
      repeat' first
      | (with_reducible exact ih0 _ _ _ _)
      | (with_reducible exact ih1 _ _ _ _ _)
      | (with_reducible exact LeO.refl _)
      | (with_reducible exact LeO.none _)
      | (with_reducible refine LeO.ite ?_ ?_)
      | (with_reducible refine LeO.bind ?_ (fun _ => ?_))
      | exact ih0 _ _ _ _
      | exact ih1 _ _ _ _ _
      | exact LeO.none _
      | refine LeO.ite ?_ ?_
      | refine LeO.bind ?_ (fun _ => ?_)
theorem pack_Crc.mono : ∀ a0 k, LeO (pack_Crc.f k a0) (pack_Crc.f (k + 1) a0) := by
  intro a0 k
  obtain ⟨ih0, ih1⟩ := pack_Crc.mono_l k
  unfold pack_Crc.f
  repeat' first
      | (with_reducible exact ih0 _ _ _ _)
      | (with_reducible exact ih1 _ _ _ _ _)
      | (with_reducible exact LeO.refl _)
      | (with_reducible exact LeO.none _)
      | (with_reducible refine LeO.ite ?_ ?_)
      | (with_reducible refine LeO.bind ?_ (fun _ => ?_))
      | exact ih0 _ _ _ _
      | exact ih1 _ _ _ _ _
      | exact LeO.none _
      | refine LeO.ite ?_ ?_
      | refine LeO.bind ?_ (fun _ => ?_)
set_option maxHeartbeats 8000000 in
set_option maxRecDepth 100000 in
theorem pack_Crc.calls (k : Nat) (A0 : Option Addr) (c0 : Nat) (l0 : List Int) (r : Int) (w : World) (hr0 : Kd.C (Kd.int .u8) w A0 l0.length l0) (hc0 : l0.length ≤ c0) (h : pack_Crc.f k l0 = some r) :
    Calls Tryd.prog 61 #[.slice A0 l0.length c0] w fun e w' => e = .returned (.int .i64 r) ∧ Drawn0 w w' := by
  have HR0 := Aside0.mk hr0
  have HC0 := Aside0.mk hc0
  clear hr0 hc0
  have H : (pack_Crc.l0 k 4294967295 l0 (l0.length : Int) 0) = some r := h
  clear h
  have H' := Aside0.mk H
  clear H
  go_enter Tryd.func61, Tryd.ntmps61
  go_wp2
  go_loopg [3, 9] k (fun kq v3 v9 w' => ∃ (x3_1 : Int) (x9_1 : Int), v3 = .int .u32 x3_1 ∧ v9 = .int .i64 x9_1 ∧ Aside0 (pack_Crc.l0 kq x3_1 l0 (l0.length : Int) x9_1 = some r) ∧ Aside0 (kq ≤ k) ∧ Drawn0 w w')
  case atStart => exact ⟨(4294967295), (0), (by first | rfl | (simp; done) | (simp [*]; done)), (by first | rfl | (simp; done) | (simp [*]; done)), H', ⟨Nat.le_refl _⟩, by repeat (first | exact Drawn0.refl _ | apply Drawn0.step)⟩
  case round =>
    clear H'
    obtain ⟨x3_1, x9_1, rfl, rfl, HA, HK1, ⟨m1, rfl⟩⟩ := hrel
    cases gk with
    | zero => exact absurd HA.out (by simp [pack_Crc.l0])
    | succ k1 =>
      have H := HA.out
      clear HA
      simp only [pack_Crc.l0] at H
      by_cases c2 : x9_1 < (l0.length : Int)
      · rw [if_pos c2] at H
        have c2b0 : decide (x9_1 < (l0.length : Int)) = true := decide_eq_true c2
        clear c2
        by_cases c3 : 0 ≤ x9_1
        · rw [if_pos c3] at H
          have c3b0 : decide (0 ≤ x9_1) = true := decide_eq_true c3
          clear c3
          by_cases c4 : x9_1 < (l0.length : Int)
          · rw [if_pos c4] at H
            have c4b0 : decide (x9_1 < (l0.length : Int)) = true := decide_eq_true c4
            clear c4
            have H' := Aside0.mk H
            clear H
            have p110 : 0 ≤ (x9_1 : Int) := of_decide_eq_true (by first | (with_reducible assumption) | assumption)
            have q110 : x9_1 < (l0.length : Int) := of_decide_eq_true (by first | (with_reducible assumption) | assumption)
            obtain ⟨ad110, e110, hx110_0⟩ := Kd.at_int HR0.out x9_1 p110 q110
            cases e110
            replace p110 := eq_true p110
            replace q110 := eq_true q110
            go_wp2
            go_loopg [3, 17] k1 (fun kq v3 v17 w' => ∃ (x3_2 : Int) (x17_2 : Int), v3 = .int .u32 x3_2 ∧ v17 = .int .i64 x17_2 ∧ Aside0 (pack_Crc.l1 kq x3_2 l0 (l0.length : Int) x9_1 x17_2 = some r) ∧ Aside0 (kq ≤ k1) ∧ Drawn0 w w')
            case atStart => exact ⟨(Go.bits .xor .u32 x3_1 ((rd l0 x9_1) % 4294967296)), (0), (by first | rfl | (simp; done) | (simp [*]; done)), (by first | rfl | (simp; done) | (simp [*]; done)), H', ⟨Nat.le_refl _⟩, by repeat (first | exact Drawn0.refl _ | apply Drawn0.step)⟩
            case round =>
              clear H'
              try clear p1
              try clear q1
              try clear hx1
              try clear c2
              try clear c2b0
              try clear p2
              try clear c3
              try clear c3b0
              try clear c4
              try clear c4b0
              try clear hx110_0
              try clear p110
              try clear q110
              obtain ⟨x3_2, x17_2, rfl, rfl, HA, HK2, ⟨m2, rfl⟩⟩ := hrel
              cases gk with
              | zero => exact absurd HA.out (by simp [pack_Crc.l1])
              | succ k2 =>
                have H := HA.out
                clear HA
                simp only [pack_Crc.l1] at H
                by_cases c5 : x17_2 < 8
                · rw [if_pos c5] at H
                  have c5b0 : decide (x17_2 < 8) = true := decide_eq_true c5
                  clear c5
                  by_cases c6 : (Go.bits .and .u32 x3_2 1) = 1
                  · rw [if_pos c6] at H
                    have c6b0 : ((Go.bits .and .u32 x3_2 1) == 1) = true := beq_iff_eq.mpr c6
                    have c6b1 : ((Go.bits .and .u32 x3_2 1) != 1) = false := bne_eq_false_iff_eq.mpr c6
                    clear c6
                    have H' := Aside0.mk H
                    clear H
                    go_wp2
                    go_roundg k2
                    case measure => have := HK1.out; have := HK2.out; omega
                    case rel => exact ⟨(Go.bits .xor .u32 (x3_2 / 2) 3988292384), (wrap64 (x17_2 + 1)), (by first | rfl | (simp; done) | (simp [*]; done)), (by first | rfl | (simp; done) | (simp [*]; done)), H', ⟨by have := HK1.out; have := HK2.out; omega⟩, by repeat (first | exact Drawn0.refl _ | apply Drawn0.step)⟩
                  · rw [if_neg c6] at H
                    have c6b0 : ((Go.bits .and .u32 x3_2 1) == 1) = false := beq_eq_false_iff_ne.mpr c6
                    have c6b1 : ((Go.bits .and .u32 x3_2 1) != 1) = true := bne_iff_ne.mpr c6
                    have H' := Aside0.mk H
                    clear H
                    go_wp2
                    go_roundg k2
                    case measure => have := HK1.out; have := HK2.out; omega
                    case rel => exact ⟨(x3_2 / 2), (wrap64 (x17_2 + 1)), (by first | rfl | (simp; done) | (simp [*]; done)), (by first | rfl | (simp; done) | (simp [*]; done)), H', ⟨by have := HK1.out; have := HK2.out; omega⟩, by repeat (first | exact Drawn0.refl _ | apply Drawn0.step)⟩
                · rw [if_neg c5] at H
                  have c5b0 : decide (x17_2 < 8) = false := decide_eq_false c5
                  clear c5
                  have H' := Aside0.mk H
                  clear H
                  go_wp2
                  go_roundg k2
                  case measure => have := HK1.out; have := HK2.out; omega
                  case rel => exact ⟨(x3_2), (wrap64 (x9_1 + 1)), (by first | rfl | (simp; done) | (simp [*]; done)), (by first | rfl | (simp; done) | (simp [*]; done)), H', ⟨by have := HK1.out; have := HK2.out; omega⟩, by repeat (first | exact Drawn0.refl _ | apply Drawn0.step)⟩
          · rw [if_neg c4] at H
            exact absurd H (by simp)
        · rw [if_neg c3] at H
          exact absurd H (by simp)
      · rw [if_neg c2] at H
        have c2b0 : decide (x9_1 < (l0.length : Int)) = false := decide_eq_false c2
        clear c2
        obtain rfl := Option.some.inj H
        go_wp2
        go_ret
        exact ⟨by first | rfl | (simp; done) | (simp [*]; done), by repeat (first | exact Drawn0.refl _ | apply Drawn0.step)⟩
end
end Go.Proofs.YtmkkeccmjejfnaaDoor.PA
namespace Go.Proofs.YtmkkeccmjejfnaaDoor.PA
section

open Go.RowKit Go.Proofs.YtmkkeccmjejfnaaDoorW.PrintWords Go.Proofs.YtmkkeccmjejfnaaDoorW.PrintLast Go.Proofs.YtmkkeccmjejfnaaDoorW.PrintMore
attribute [local go_sem] pr_leq pr_geq pr_gtr max2_int min2_int max_two min_two max_three min_three max_four min_four
set_option linter.unusedVariables false
set_option linter.unusedSimpArgs false
def pack_Seal.f (k : Nat) (l0 : List Int) : Option (List Int) := (bytes_Clone.f l0).bind fun t111 => ((pack_Crc.f k l0).bind fun t114 => ((pack_put.f k t111 (IntKind.u64.wrap (t114)) 4).bind fun t115 => (some t115)))
theorem pack_Seal.mono : ∀ a0 k, LeO (pack_Seal.f k a0) (pack_Seal.f (k + 1) a0) := by
  intro a0 k
  unfold pack_Seal.f
  repeat' first
      | (with_reducible exact pack_Crc.mono _ _)
      | (with_reducible exact pack_put.mono _ _ _ _)
      | (with_reducible exact LeO.refl _)
      | (with_reducible exact LeO.none _)
      | (with_reducible refine LeO.ite ?_ ?_)
      | (with_reducible refine LeO.bind ?_ (fun _ => ?_))
      | exact pack_Crc.mono _ _
      | exact pack_put.mono _ _ _ _
      | exact LeO.none _
      | refine LeO.ite ?_ ?_
      | refine LeO.bind ?_ (fun _ => ?_)
set_option maxHeartbeats 8000000 in
set_option maxRecDepth 100000 in
theorem pack_Seal.calls (k : Nat) (A0 : Option Addr) (c0 : Nat) (l0 : List Int) (r : List Int) (w : World) (hr0 : Kd.C (Kd.int .u8) w A0 l0.length l0) (hc0 : l0.length ≤ c0) (h : pack_Seal.f k l0 = some r) :
    Calls Tryd.prog 44 #[.slice A0 l0.length c0] w fun e w' => ∃ v0_ : Value, e = .returned (v0_) ∧ Kd.R (Kd.int .u8) 5 w' w.heap.size (fun _ => True) v0_ r ∧ Below w.heap.size w w' := by
  have HR0 := Aside0.mk hr0
  have HC0 := Aside0.mk hc0
  clear hr0 hc0
  have HB := Aside0.mk (Below.refl w.heap.size w)
  have H : ((bytes_Clone.f l0).bind fun t111 => ((pack_Crc.f k l0).bind fun t114 => ((pack_put.f k t111 (IntKind.u64.wrap (t114)) 4).bind fun t115 => (some t115)))) = some r := h
  clear h
  replace H := Option.bind_eq_some_iff.mp H
  obtain ⟨t111, A20, H⟩ := H
  replace H : ((pack_Crc.f k l0).bind fun t114 => ((pack_put.f k t111 (IntKind.u64.wrap (t114)) 4).bind fun t115 => (some t115))) = some r := H
  have A2 := Aside0.mk A20
  clear A20
  replace H := Option.bind_eq_some_iff.mp H
  obtain ⟨t114, A30, H⟩ := H
  replace H : ((pack_put.f k t111 (IntKind.u64.wrap (t114)) 4).bind fun t115 => (some t115)) = some r := H
  have A3 := Aside0.mk A30
  clear A30
  replace H := Option.bind_eq_some_iff.mp H
  obtain ⟨t115, A40, H⟩ := H
  replace H : (some t115) = some r := H
  have A4 := Aside0.mk A40
  clear A40
  obtain rfl := Option.some.inj H
  go_enter Tryd.func44, Tryd.ntmps44
  go_wp2_with (first | ((with_reducible refine gate_callee (f := 60) rfl ?_); refine goesL_ (some 4) rfl rfl Tryd.func60 (by kernel_rfl) rfl #[.slice A0 l0.length c0] rfl (by (try simp only [List.map_toArray, List.map_cons, List.map_nil]); first | done | rfl | (simp only [List.length_drop, List.length_take]; rfl)) ?_; (with_reducible refine (bytes_Clone.calls _ _ l0 t111 _ ?side1 ?side2 A2.out).mono ?_); (case side1 => repeat (first | exact HR0.out | (with_reducible refine Kd.C_alloc ?_ _) | (with_reducible refine Kd.C_drewN ?_ _) | (with_reducible refine Kd.C_drew ?_))); (case side2 => exact HC0.out); rintro e w5 ⟨v112, rfl, ho0, hb⟩; refine ⟨_, rfl, ?_⟩; have n0_ := Aside0.mk (Kd.R_lower ho0 (below_size (by repeat (first | (with_reducible first | exact HB.out | apply below_alloc | apply pw_below_drewN | apply below_drew1) | exact HB.out)))); have n1_ := Aside0.mk (below_step (by repeat (first | (with_reducible first | exact HB.out | apply below_alloc | apply pw_below_drewN | apply below_drew1) | exact HB.out)) hb); clear HB; have HO113 := n0_; have HB := n1_; clear n0_ n1_; (try clear hb); (try clear hb2); (try clear hk); (try clear hi); (try clear ho0)) | ((with_reducible refine gate_callee (f := 61) rfl ?_); refine goesL_ (some 6) rfl rfl Tryd.func61 (by kernel_rfl) rfl #[.slice A0 l0.length c0] rfl (by (try simp only [List.map_toArray, List.map_cons, List.map_nil]); first | done | rfl | (simp only [List.length_drop, List.length_take]; rfl)) ?_; (with_reducible refine (pack_Crc.calls k _ _ l0 t114 _ ?side1 ?side2 A3.out).mono ?_); (case side1 => repeat (first | exact (Kd.C_below HR0.out HB.out) | (with_reducible refine Kd.C_alloc ?_ _) | (with_reducible refine Kd.C_drewN ?_ _) | (with_reducible refine Kd.C_drew ?_))); (case side2 => exact HC0.out); rintro e w' ⟨rfl, ⟨nd, rfl⟩⟩; refine ⟨_, rfl, ?_⟩; obtain ⟨Ao6, co6, eo6⟩ := Kd.R_slice HO113.out; subst eo6) | ((with_reducible refine gate_callee (f := 59) rfl ?_); refine goesL_ (some 8) rfl rfl Tryd.func59 (by kernel_rfl) rfl #[.slice Ao6 t111.length co6, .int .u64 (IntKind.u64.wrap (t114)), .int .i64 4] rfl (by (try simp only [List.map_toArray, List.map_cons, List.map_nil]); first | done | rfl | (simp only [List.length_drop, List.length_take]; rfl)) ?_; (with_reducible refine (pack_put.calls k (fun k_ => some k_ = (.slice Ao6 t111.length co6 : Value).ownBlock) (.slice Ao6 t111.length co6) t111 (IntKind.u64.wrap (t114)) 4 t115 w _ ?side1 ?side2 A4.out).mono ?_); (case side1 => repeat (first | (with_reducible first | exact HB.out | apply below_alloc | apply pw_below_drewN | apply below_drew1) | exact HB.out)); (case side2 => exact Kd.R_tight rfl HO113.out); rintro e w7 ⟨v116, rfl, ho0, hb, hkp⟩; refine ⟨_, rfl, ?_⟩; have n0_ := Aside0.mk (Kd.R_mono (ok' := fun k_ => True) ho0 (fun k_ hk_ => trivial)); have n1_ := Aside0.mk (hb); clear HB; clear HO113; have HO117 := n0_; have HB := n1_; clear n0_ n1_; (try clear hb); (try clear hkp); (try clear ho0)))
  go_ret
  exact ⟨_, by first | rfl | (simp [errW_none, errW_some] <;> rfl) | (simp [*, errW_none, errW_some] <;> rfl), by (with_reducible repeat (first | apply Kd.R_alloc | apply Kd.R_drewN | apply Kd.R_drew)); exact HO117.out, by repeat (first | (with_reducible first | exact HB.out | apply below_alloc | apply pw_below_drewN | apply below_drew1) | exact HB.out)⟩
def pack_get.l0 : Nat → Int → List Int → Int → Int → Option (Int)
  | 0, _, _, _, _ => none
  | k + 1, x3, x6, x7, x8 => if x8 < x7 then (if 0 ≤ x8 then (if x8 < (x6.length : Int) then (if 0 ≤ (wrap64 (8 * x8)) then (pack_get.l0 k (Go.bits .or .u64 x3 (shl .u64 (IntKind.u64.wrap (rd x6 x8)) (wrap64 (8 * x8)))) x6 x7 (wrap64 (x8 + 1))) else (none)) else (none)) else (none)) else (some x3)
def pack_get.f (k : Nat) (l0 : List Int) : Option (Int) := pack_get.l0 k 0 l0 (l0.length : Int) 0
set_option maxHeartbeats 8000000 in
set_option maxRecDepth 100000 in
theorem pack_get.calls (k : Nat) (A0 : Option Addr) (c0 : Nat) (l0 : List Int) (r : Int) (w : World) (hr0 : Kd.C (Kd.int .u8) w A0 l0.length l0) (hc0 : l0.length ≤ c0) (h : pack_get.f k l0 = some r) :
    Calls Tryd.prog 66 #[.slice A0 l0.length c0] w fun e w' => e = .returned (.int .u64 r) ∧ Drawn0 w w' := by
  have HR0 := Aside0.mk hr0
  have HC0 := Aside0.mk hc0
  clear hr0 hc0
  have H : (pack_get.l0 k 0 l0 (l0.length : Int) 0) = some r := h
  clear h
  have H' := Aside0.mk H
  clear H
  go_enter Tryd.func66, Tryd.ntmps66
  go_wp2
  go_loopg [3, 8] k (fun kq v3 v8 w' => ∃ (x3_1 : Int) (x8_1 : Int), v3 = .int .u64 x3_1 ∧ v8 = .int .i64 x8_1 ∧ Aside0 (pack_get.l0 kq x3_1 l0 (l0.length : Int) x8_1 = some r) ∧ Aside0 (kq ≤ k) ∧ Drawn0 w w')
  case atStart => exact ⟨(0), (0), (by first | rfl | (simp; done) | (simp [*]; done)), (by first | rfl | (simp; done) | (simp [*]; done)), H', ⟨Nat.le_refl _⟩, by repeat (first | exact Drawn0.refl _ | apply Drawn0.step)⟩
  case round =>
    clear H'
    obtain ⟨x3_1, x8_1, rfl, rfl, HA, HK1, ⟨m1, rfl⟩⟩ := hrel
    cases gk with
    | zero => exact absurd HA.out (by simp [pack_get.l0])
    | succ k1 =>
      have H := HA.out
      clear HA
      simp only [pack_get.l0] at H
      by_cases c2 : x8_1 < (l0.length : Int)
      · rw [if_pos c2] at H
        have c2b0 : decide (x8_1 < (l0.length : Int)) = true := decide_eq_true c2
        clear c2
        by_cases c3 : 0 ≤ x8_1
        · rw [if_pos c3] at H
          have c3b0 : decide (0 ≤ x8_1) = true := decide_eq_true c3
          clear c3
          by_cases c4 : x8_1 < (l0.length : Int)
          · rw [if_pos c4] at H
            have c4b0 : decide (x8_1 < (l0.length : Int)) = true := decide_eq_true c4
            clear c4
            obtain ⟨ji5, hji5⟩ : ∃ j_ : Int, (wrap64 (8 * x8_1)) = j_ := ⟨_, rfl⟩
            replace H : (if 0 ≤ (ji5) then (pack_get.l0 k1 (Go.bits .or .u64 x3_1 (shl .u64 (IntKind.u64.wrap (rd l0 x8_1)) (ji5))) l0 (l0.length : Int) (wrap64 (x8_1 + 1))) else (none)) = some r := by first | (rw [hji5] at H; exact H) | (simp only [hji5] at H ⊢; exact H)
            have hji5w : (IntKind.i64.wrap (8 * x8_1)) = ji5 := (i64_w _).trans hji5
            by_cases c6 : 0 ≤ (ji5)
            · rw [if_pos c6] at H
              have c6b0 := eq_true c6
              have c6b1 : decide (0 ≤ (ji5)) = true := decide_eq_true c6
              clear c6
              obtain ⟨ji7, hji7⟩ : ∃ j_ : Int, (shl .u64 (IntKind.u64.wrap (rd l0 x8_1)) (ji5)) = j_ := ⟨_, rfl⟩
              replace H : (pack_get.l0 k1 (Go.bits .or .u64 x3_1 (ji7)) l0 (l0.length : Int) (wrap64 (x8_1 + 1))) = some r := by first | (rw [hji7] at H; exact H) | (simp only [hji7] at H ⊢; exact H)
              have hji7_ : (IntKind.u64.wrap ((IntKind.u64.wrap (rd l0 x8_1)) * 2 ^ min (ji5).toNat 64)) = ji7 := hji7
              have hji7z : (ji5) ≤ 64 → (IntKind.u64.wrap ((IntKind.u64.wrap (rd l0 x8_1)) * 2 ^ (ji5).toNat)) = ji7 := shl_small hji7
              have H' := Aside0.mk H
              clear H
              have p118 : 0 ≤ (x8_1 : Int) := of_decide_eq_true (by first | (with_reducible assumption) | assumption)
              have q118 : x8_1 < (l0.length : Int) := of_decide_eq_true (by first | (with_reducible assumption) | assumption)
              obtain ⟨ad118, e118, hx118_0⟩ := Kd.at_int HR0.out x8_1 p118 q118
              cases e118
              replace p118 := eq_true p118
              replace q118 := eq_true q118
              go_wp2
              go_roundg k1
              case measure => have := HK1.out; omega
              case rel => exact ⟨(Go.bits .or .u64 x3_1 (ji7)), (wrap64 (x8_1 + 1)), (by first | rfl | (simp; done) | (simp only [← hji7] <;> (first | rfl | simp)) | (simp [*]; done)), (by first | rfl | (simp; done) | (simp [*]; done)), H', ⟨by have := HK1.out; omega⟩, by repeat (first | exact Drawn0.refl _ | apply Drawn0.step)⟩
            · rw [if_neg c6] at H
              exact absurd H (by simp)
          · rw [if_neg c4] at H
            exact absurd H (by simp)
        · rw [if_neg c3] at H
          exact absurd H (by simp)
      · rw [if_neg c2] at H
        have c2b0 : decide (x8_1 < (l0.length : Int)) = false := decide_eq_false c2
        clear c2
        obtain rfl := Option.some.inj H
        go_wp2
        go_ret
        exact ⟨by first | rfl | (simp; done) | (simp [*]; done), by repeat (first | exact Drawn0.refl _ | apply Drawn0.step)⟩
end
end Go.Proofs.YtmkkeccmjejfnaaDoor.PA
namespace Go.Proofs.YtmkkeccmjejfnaaDoor.PA
section

open Go.RowKit Go.Proofs.YtmkkeccmjejfnaaDoorW.PrintWords Go.Proofs.YtmkkeccmjejfnaaDoorW.PrintLast Go.Proofs.YtmkkeccmjejfnaaDoorW.PrintMore
attribute [local go_sem] pr_leq pr_geq pr_gtr max2_int min2_int max_two min_two max_three min_three max_four min_four
set_option linter.unusedVariables false
set_option linter.unusedSimpArgs false
theorem xor_u32 (a b : Nat) (ha : a < 4294967296) (hb : b < 4294967296) : Go.bits .xor .u32 (a : Int) (b : Int) = ((a ^^^ b : Nat) : Int) := by
  have hx : a ^^^ b < 4294967296 := Nat.xor_lt_two_pow (n := 32) ha hb
  have e1 : a % 2 ^ IntKind.u32.bits = a := Nat.mod_eq_of_lt ha
  have e2 : b % 2 ^ IntKind.u32.bits = b := Nat.mod_eq_of_lt hb
  simp only [bits, BitVec.ofInt_natCast, BitVec.toNat_xor, BitVec.toNat_ofNat, e1, e2, IntKind.wrap_u32]
  omega
theorem and_u32_one (a : Nat) (ha : a < 4294967296) : Go.bits .and .u32 (a : Int) 1 = ((a % 2 : Nat) : Int) := by
  have h := (bits_nat .u32 32 (by decide) (fun n h0 h1 => by rw [IntKind.wrap_u32]; omega) a 1 ha (by decide)).1
  rw [Nat.and_one_is_mod] at h
  simpa using h
theorem xor_u64 (a b : Nat) (ha : a < 18446744073709551616) (hb : b < 18446744073709551616) : Go.bits .xor .u64 (a : Int) (b : Int) = ((a ^^^ b : Nat) : Int) := by
  have hx : a ^^^ b < 18446744073709551616 := Nat.xor_lt_two_pow (n := 64) ha hb
  have e1 : a % 2 ^ IntKind.u64.bits = a := Nat.mod_eq_of_lt ha
  have e2 : b % 2 ^ IntKind.u64.bits = b := Nat.mod_eq_of_lt hb
  simp only [bits, BitVec.ofInt_natCast, BitVec.toNat_xor, BitVec.toNat_ofNat, e1, e2]
  exact u64_id _ (by omega) (by omega)
def crcBit (s : Nat) : Nat := if s % 2 = 1 then (s / 2) ^^^ 3988292384 else s / 2
def crcBits : Nat → Nat → Nat
  | 0, s => s
  | n + 1, s => crcBits n (crcBit s)
def crcByte (s : Nat) (b : Int) : Nat := crcBits 8 (s ^^^ b.toNat)
def crcL (s : Nat) (l : List Int) : Nat := l.foldl crcByte s
def crcV (l : List Int) : Int := ((crcL 4294967295 l ^^^ 4294967295 : Nat) : Int)
theorem crcBit_lt {s : Nat} (h : s < 4294967296) : crcBit s < 4294967296 := by
  unfold crcBit
  split
  · exact Nat.xor_lt_two_pow (n := 32) (by omega) (by omega)
  · omega
theorem crcBits_lt {n s : Nat} (h : s < 4294967296) : crcBits n s < 4294967296 := by
  induction n generalizing s with
  | zero => exact h
  | succ n ih => exact ih (crcBit_lt h)
theorem crcBits_succ (n s : Nat) : crcBits (n + 1) s = crcBits n (crcBit s) := rfl
theorem crcL_nil (s : Nat) : crcL s [] = s := rfl
theorem crcL_cons (s : Nat) (b : Int) (l : List Int) : crcL s (b :: l) = crcL (crcByte s b) l := by simp only [crcL, List.foldl_cons]
theorem crcL_lt {s : Nat} {l : List Int} (h : s < 4294967296) (hl : ∀ b ∈ l, 0 ≤ b ∧ b ≤ 255) : crcL s l < 4294967296 := by
  induction l generalizing s with
  | nil => exact h
  | cons b l ih =>
    have hb := hl b (by simp)
    rw [crcL_cons]
    exact ih (crcBits_lt (Nat.xor_lt_two_pow (n := 32) h (by omega))) (fun c hc => hl c (by simp [hc]))
def byteL (l : List Int) : Prop := ∀ b ∈ l, 0 ≤ b ∧ b ≤ 255
def getV : List Int → Int
  | [] => 0
  | b :: l => b + 256 * getV l
theorem getV_range (l : List Int) (h : byteL l) : 0 ≤ getV l ∧ getV l < 256 ^ l.length := by
  induction l with
  | nil => simp [getV]
  | cons b l ih =>
    have hb := h b (by simp)
    have h2 := ih (fun c hc => h c (by simp [hc]))
    simp only [getV, List.length_cons, Int.pow_succ]
    omega
theorem getV_leB (x : Int) (n : Nat) (h0 : 0 ≤ x) (h1 : x < 256 ^ n) : getV (leB x n) = x := by
  induction n generalizing x with
  | zero => simp [leB, getV]; simp at h1; omega
  | succ n ih =>
    simp only [leB, getV]
    rw [ih (x / 256) (by omega) (by rw [Int.pow_succ] at h1; omega)]
    omega
theorem leB_getV (l : List Int) (h : byteL l) : leB (getV l) l.length = l := by
  induction l with
  | nil => rfl
  | cons b l ih =>
    have hb := h b (by simp)
    have h2 := ih (fun c hc => h c (by simp [hc]))
    have e1 : (b + 256 * getV l) % 256 = b := by omega
    have e2 : (b + 256 * getV l) / 256 = getV l := by omega
    simp only [getV, leB, List.length_cons, e1, e2, h2]
theorem rd_nat (l : List Int) (hl : byteL l) (i : Nat) (h : i < l.length) : rd l (i : Int) = l[i] ∧ 0 ≤ l[i] ∧ l[i] ≤ 255 := by
  refine ⟨by simp [rd, List.getD_eq_getElem?_getD, List.getElem?_eq_getElem h], hl _ (List.getElem_mem h)⟩
theorem or_add (a b i : Nat) (ha : a < 2 ^ i) : a ||| (b * 2 ^ i) = a + b * 2 ^ i := by
  rw [Nat.mul_comm b, Nat.or_comm, ← Nat.two_pow_add_eq_or_of_lt ha b, Nat.add_comm]
theorem getV_snoc (l : List Int) (b : Int) : getV (l ++ [b]) = getV l + b * 256 ^ l.length := by
  induction l with
  | nil => simp [getV]
  | cons c l ih =>
    simp only [List.cons_append, getV, List.length_cons, ih, Int.pow_succ, Int.mul_add]
    rw [Int.add_assoc]
    congr 2
    rw [Int.mul_comm 256, Int.mul_assoc]
theorem take_succ_int (l : List Int) (i : Nat) (h : i < l.length) : l.take (i + 1) = l.take i ++ [l[i]] := List.take_succ_eq_append_getElem h
theorem get_step (l : List Int) (hl : byteL l) (i : Nat) (h : i < l.length) (h8 : l.length ≤ 8) :
    Go.bits .or .u64 (getV (l.take i)) (shl .u64 (IntKind.u64.wrap (rd l i)) (wrap64 (8 * (i : Int)))) = getV (l.take (i + 1)) := by
  obtain ⟨e, b0, b1⟩ := rd_nat l hl i h
  have hr := getV_range (l.take i) (fun b hb => hl b (List.mem_of_mem_take hb))
  rw [List.length_take, Nat.min_eq_left (by omega)] at hr
  rw [take_succ_int l i h, getV_snoc, List.length_take, Nat.min_eq_left (by omega), e, u64_id _ (by omega) (by omega)]
  obtain ⟨a, ha⟩ := Int.eq_ofNat_of_zero_le hr.1
  obtain ⟨b, hb⟩ := Int.eq_ofNat_of_zero_le b0
  rw [ha] at hr ⊢
  rw [hb] at b1 ⊢
  have hw : wrap64 (8 * (i : Int)) = ((8 * i : Nat) : Int) := by unfold wrap64; omega
  have hp : (256 : Nat) ^ i = 2 ^ (8 * i) := by rw [Nat.pow_mul]
  have hp2 : (256 : Int) ^ i = ((2 ^ (8 * i) : Nat) : Int) := by rw [← hp]; simp
  have ha2 : a < 2 ^ (8 * i) := by
    have := hr.2
    rw [hp2] at this
    omega
  have hb2 : b * 2 ^ (8 * i) < 2 ^ 64 := by
    have h1 : b ≤ 255 := by omega
    have h2 : 2 ^ (8 * i) ≤ 2 ^ 56 := Nat.pow_le_pow_right (by decide) (by omega)
    calc b * 2 ^ (8 * i) ≤ 255 * 2 ^ 56 := Nat.mul_le_mul h1 h2
      _ < 2 ^ 64 := by decide
  have hs : shl .u64 (b : Int) (wrap64 (8 * (i : Int))) = ((b * 2 ^ (8 * i) : Nat) : Int) := by
    rw [hw, shl, Int.toNat_natCast, Nat.min_eq_left (by show 8 * i ≤ 64; omega)]
    rw [show ((b : Int) * 2 ^ (8 * i)) = ((b * 2 ^ (8 * i) : Nat) : Int) by simp]
    exact u64_id _ (by omega) (by omega)
  rw [hs]
  have ha3 : a < 2 ^ 64 := Nat.lt_of_lt_of_le ha2 (Nat.pow_le_pow_right (by decide) (by omega))
  have hor := (bits_nat .u64 64 (by decide) (fun n h0 h1 => u64_id n h0 (by simpa using h1)) a (b * 2 ^ (8 * i)) ha3 hb2).2
  rw [hor, or_add a b (8 * i) ha2, hp2]
  simp
theorem get_tells (l : List Int) (hl : byteL l) (h8 : l.length ≤ 8) : ∀ (d k i : Nat), i + d = l.length → d < k → pack_get.l0 k (getV (l.take i)) l (l.length : Int) (i : Int) = some (getV l) := by
  intro d
  induction d with
  | zero =>
    intro k i hd hk
    obtain ⟨k, rfl⟩ : ∃ m, k = m + 1 := ⟨k - 1, by omega⟩
    simp only [pack_get.l0]
    rw [if_neg (by omega), List.take_of_length_le (by omega)]
  | succ d ih =>
    intro k i hd hk
    obtain ⟨k, rfl⟩ : ∃ m, k = m + 1 := ⟨k - 1, by omega⟩
    simp only [pack_get.l0]
    rw [if_pos (by omega), if_pos (by omega), if_pos (by omega), if_pos (by unfold wrap64; omega), get_step l hl i (by omega) h8, show wrap64 ((i : Int) + 1) = ((i + 1 : Nat) : Int) by unfold wrap64; omega]
    exact ih k (i + 1) (by omega) (by omega)
theorem get_val (l : List Int) (hl : byteL l) (h8 : l.length ≤ 8) : pack_get.f 10 l = some (getV l) := by
  have h := get_tells l hl h8 l.length 10 0 (by omega) (by omega)
  simpa [pack_get.f, getV] using h
theorem crc1_tells (l : List Int) (i : Nat) : ∀ (d k j : Nat) (s : Nat), s < 4294967296 → j + d = 8 → d < k → ∀ r, pack_Crc.l0 (k - 1 - d) ((crcBits d s : Nat) : Int) l (l.length : Int) (wrap64 ((i : Int) + 1)) = some r → pack_Crc.l1 k (s : Int) l (l.length : Int) (i : Int) (j : Int) = some r := by
  intro d
  induction d with
  | zero =>
    intro k j s hs hd hk r hr
    obtain ⟨k, rfl⟩ : ∃ m, k = m + 1 := ⟨k - 1, by omega⟩
    simp only [pack_Crc.l1]
    rw [if_neg (by omega)]
    exact hr
  | succ d ih =>
    intro k j s hs hd hk r hr
    obtain ⟨k, rfl⟩ : ∃ m, k = m + 1 := ⟨k - 1, by omega⟩
    have hw : wrap64 ((j : Int) + 1) = ((j + 1 : Nat) : Int) := by unfold wrap64; omega
    have hb := crcBit_lt hs
    rw [crcBits_succ] at hr
    have hr2 := ih k (j + 1) (crcBit s) hb (by omega) (by omega) r (by rw [show k - 1 - d = k + 1 - 1 - (d + 1) by omega]; exact hr)
    simp only [pack_Crc.l1]
    rw [if_pos (by omega), and_u32_one s hs, hw]
    unfold crcBit at hr2
    by_cases h1 : s % 2 = 1
    · rw [if_pos h1] at hr2
      rw [if_pos (by omega), show ((s : Int) / 2) = ((s / 2 : Nat) : Int) by omega, show (3988292384 : Int) = ((3988292384 : Nat) : Int) from rfl, xor_u32 _ _ (by omega) (by omega)]
      exact hr2
    · rw [if_neg h1] at hr2
      rw [if_neg (by omega), show ((s : Int) / 2) = ((s / 2 : Nat) : Int) by omega]
      exact hr2
theorem crc_tells (l : List Int) (hl : byteL l) (hm : l.length ≤ 9223372036854775807) : ∀ (d k i : Nat) (s : Nat), s < 4294967296 → i + d = l.length → 10 * d < k → pack_Crc.l0 k (s : Int) l (l.length : Int) (i : Int) = some ((crcL s (l.drop i) ^^^ 4294967295 : Nat) : Int) := by
  intro d
  induction d with
  | zero =>
    intro k i s hs hd hk
    obtain ⟨k, rfl⟩ : ∃ m, k = m + 1 := ⟨k - 1, by omega⟩
    have hx := Nat.xor_lt_two_pow (n := 32) (show 4294967295 < 2 ^ 32 by decide) hs
    simp only [pack_Crc.l0]
    rw [if_neg (by omega), List.drop_eq_nil_of_le (by omega), crcL_nil, show IntKind.u32.max = ((4294967295 : Nat) : Int) from rfl, xor_u32 _ _ (by decide) hs, Nat.xor_comm]
    rw [Nat.xor_comm] at hx
    congr 1
    unfold wrap64
    omega
  | succ d ih =>
    intro k i s hs hd hk
    obtain ⟨k, rfl⟩ : ∃ m, k = m + 1 := ⟨k - 1, by omega⟩
    have hi : i < l.length := by omega
    obtain ⟨e, b0, b1⟩ := rd_nat l hl i hi
    have e2 : rd l (i : Int) % 4294967296 = ((l[i].toNat : Nat) : Int) := by rw [e]; omega
    have hx : s ^^^ l[i].toNat < 4294967296 := Nat.xor_lt_two_pow (n := 32) hs (by omega)
    simp only [pack_Crc.l0]
    rw [if_pos (by omega), if_pos (by omega), if_pos (by omega), e2, xor_u32 _ _ hs (by omega)]
    refine crc1_tells l i 8 k 0 _ hx rfl (by omega) _ ?_
    rw [show wrap64 ((i : Int) + 1) = ((i + 1 : Nat) : Int) by unfold wrap64; omega]
    rw [ih (k - 1 - 8) (i + 1) _ (crcBits_lt hx) (by omega) (by omega)]
    rw [List.drop_eq_getElem_cons hi, crcL_cons]
    rfl
theorem crc_val (l : List Int) (hl : byteL l) (hm : l.length ≤ 9223372036854775807) : pack_Crc.f (10 * l.length + 1) l = some (crcV l) := by
  have h := crc_tells l hl hm l.length (10 * l.length + 1) 0 4294967295 (by decide) (by omega) (by omega)
  simpa [pack_Crc.f, crcV] using h
theorem crcV_range (l : List Int) (hl : byteL l) : 0 ≤ crcV l ∧ crcV l < 4294967296 := by
  have h := crcL_lt (s := 4294967295) (by decide) hl
  have hx := Nat.xor_lt_two_pow (n := 32) h (show 4294967295 < 2 ^ 32 by decide)
  unfold crcV
  omega
def byteB (l : List Int) : Bool := l.all fun b => decide (0 ≤ b) && decide (b ≤ 255)
theorem byteB_iff {l : List Int} : byteB l = true ↔ byteL l := by
  simp [byteB, byteL]
def openL (l : List Int) : List Int × Int := if l.length < 4 then ([], 2) else if getV (l.drop (l.length - 4)) = crcV (l.take (l.length - 4)) then (l.take (l.length - 4), 0) else ([], 16)
def pack_Open.f (l0 : List Int) : Option (List Int × Int) := if byteB l0 = true ∧ l0.length ≤ 140737488355328 then some (openL l0) else none
theorem byteL_drop {l : List Int} (h : byteL l) (n : Nat) : byteL (l.drop n) := fun b hb => h b (List.mem_of_mem_drop hb)
theorem byteL_take {l : List Int} (h : byteL l) (n : Nat) : byteL (l.take n) := fun b hb => h b (List.mem_of_mem_take hb)
set_option maxHeartbeats 2000000 in
theorem pack_Open.calls (A0 : Option Addr) (c0 : Nat) (l0 : List Int) (r1 : List Int) (r2 : Int) (w : World) (hr0 : Kd.C (Kd.int .u8) w A0 l0.length l0) (hc0 : l0.length ≤ c0) (h : pack_Open.f l0 = some (r1, r2)) :
    Calls Tryd.prog 62 #[.slice A0 l0.length c0] w fun e w' => ∃ v0_ : Value, e = .returned (.tuple #[v0_, .int .i64 r2]) ∧ Kd.R (Kd.int .u8) 5 w' w.heap.size (fun _ => True) v0_ r1 ∧ Below w.heap.size w w' := by
  unfold pack_Open.f at h
  by_cases hok : byteB l0 = true ∧ l0.length ≤ 140737488355328
  · rw [if_pos hok] at h
    obtain ⟨hb, hlen⟩ := hok
    have hby := byteB_iff.1 hb
    simp only [openL, Option.some.injEq] at h
    have HR := Aside0.mk hr0
    have HC := Aside0.mk hc0
    by_cases h4 : l0.length < 4
    · rw [if_pos h4] at h
      simp only [Prod.mk.injEq] at h
      obtain ⟨rfl, rfl⟩ := h
      have hw : wrap64 ((l0.length : Int) - 4) < 0 := by unfold wrap64; omega
      clear hr0 hc0 hb hby
      go_enter Tryd.func62, Tryd.ntmps62
      go_wp2
      go_ret2
      exact ⟨_, rfl, Kd.R_nil _ _ _ _ _, Below.refl _ _⟩
    · rw [if_neg h4] at h
      obtain ⟨n, hn⟩ : ∃ n : Nat, l0.length = n + 4 := ⟨l0.length - 4, by omega⟩
      rw [show l0.length - 4 = n by omega] at h
      obtain ⟨i1, hi1, _, hsz1, _⟩ := info_parts info5
      obtain ⟨A1, hcut1, hA1, hC1⟩ := print_drop_of (P := Tryd.prog) (Value.int .u8) 0 36 5 .i64 Tryd.underlying36 hi1 hsz1 A0 c0 l0 (n : Int) (by omega) (by omega) hc0
      obtain ⟨hcut2, hA2, hC2⟩ := print_take_of (P := Tryd.prog) (Value.int .u8) 0 36 5 .i64 Tryd.underlying36 hi1 hsz1 A0 c0 l0 (n : Int) (by omega) (by omega) hc0
      have G := Aside0.mk (get_val (l0.drop n) (byteL_drop hby n) (by simp; omega))
      have KC := Aside0.mk (crc_val (l0.take n) (byteL_take hby n) (by rw [List.length_take]; omega))
      simp only [Int.toNat_natCast] at hcut1 hA1 hC1 hcut2 hA2 hC2
      have hcut1' : ∀ W : World, (Instr.slice 36 (.slice A0 l0.length c0) (some (.int .i64 (n : Int))) none none).run Tryd.prog W = .ok (.slice A1 4 (c0 - n)) W := by rw [← show (l0.drop n).length = 4 by simp; omega]; exact hcut1
      have hcut2' : ∀ W : World, (Instr.slice 36 (.slice A0 l0.length c0) none (some (.int .i64 (n : Int))) none).run Tryd.prog W = .ok (.slice A0 n c0) W := by
        have e : (l0.take n).length = n := by rw [List.length_take]; omega
        rw [e] at hcut2
        exact hcut2
      clear hcut1 hcut2
      have HR1 := Aside0.mk (Kd.C_of_reads (h1 := fun _ => rfl) (hA1 _ (Kd.reads_of_C (d := (0 : Int)) HR.out)))
      have HR2 := Aside0.mk (Kd.C_of_reads (h1 := fun _ => rfl) (hA2 _ (Kd.reads_of_C (d := (0 : Int)) HR.out)))
      have HC1 := Aside0.mk hC1
      have HC2 := Aside0.mk hC2
      have Hn := Aside0.mk hn
      have L1 : Aside0 ((l0.drop n).length = 4) := ⟨by simp; omega⟩
      have L2 : Aside0 ((l0.take n).length = n) := ⟨by rw [List.length_take]; omega⟩
      have hgr := getV_range (l0.drop n) (byteL_drop hby n)
      have hg64 : wrap64 (getV (l0.drop n)) = getV (l0.drop n) := by
        rw [show (l0.drop n).length = 4 by simp; omega] at hgr
        unfold wrap64
        omega
      have HG := Aside0.mk hg64
      have hw : wrap64 ((l0.length : Int) - 4) = (n : Int) := by unfold wrap64; omega
      have hwn : decide ((n : Int) < 0) = false := by simp
      have HLN := Aside0.mk hlen
      clear hlen h4
      clear hn hgr hg64 hC1 hC2 hA1 hA2 hi1 hsz1 hr0 hb hby hc0
      have G1 : Aside0 (∀ nq : Nat, Calls Tryd.prog 66 #[.slice A1 4 (c0 - n)] (w.drewN nq) fun e w' => e = .returned (.int .u64 (getV (l0.drop n))) ∧ Drawn0 (w.drewN nq) w') := by
        refine ⟨fun nq => ?_⟩
        have h := pack_get.calls 10 A1 (c0 - n) (l0.drop n) _ (w.drewN nq) (Kd.C_drewN HR1.out nq) HC1.out G.out
        rwa [L1.out] at h
      have K1 : Aside0 (∀ nq : Nat, Calls Tryd.prog 61 #[.slice A0 n c0] (w.drewN nq) fun e w' => e = .returned (.int .i64 (crcV (l0.take n))) ∧ Drawn0 (w.drewN nq) w') := by
        refine ⟨fun nq => ?_⟩
        have h := pack_Crc.calls _ A0 c0 (l0.take n) _ (w.drewN nq) (Kd.C_drewN HR2.out nq) HC2.out KC.out
        rwa [L2.out] at h
      have C1 : Aside0 (∀ nq : Nat, Calls Tryd.prog 60 #[.slice A0 n c0] (w.drewN nq) fun e w' => ∃ v0_ : Value, e = .returned v0_ ∧ Kd.R (Kd.int .u8) 5 w' w.heap.size (fun _ => True) v0_ (l0.take n) ∧ Below w.heap.size (w.drewN nq) w') := by
        refine ⟨fun nq => ?_⟩
        have h := bytes_Clone.calls A0 c0 (l0.take n) _ (w.drewN nq) (Kd.C_drewN HR2.out nq) HC2.out (by rw [bytes_Clone.f, if_pos (by rw [L2.out]; have := HLN.out; have := Hn.out; omega)])
        rwa [L2.out] at h
      go_enter Tryd.func62, Tryd.ntmps62
      go_wp2_with fail
      go_quiet (first | (go_at_call 66; refine (G1.out _).mono ?_; rintro e w' ⟨rfl, ⟨nd, rfl⟩⟩; (first | exact ⟨rfl, _, World.drewN_drewN _ _ _⟩ | exact ⟨rfl, _, Eq.trans (World.drewN_drewN _ _ _) (congrArg (World.drewN _) (Nat.add_assoc _ _ _))⟩)) | (go_at_call 61; refine (K1.out _).mono ?_; rintro e w' ⟨rfl, ⟨nd, rfl⟩⟩; (first | exact ⟨rfl, _, World.drewN_drewN _ _ _⟩ | exact ⟨rfl, _, Eq.trans (World.drewN_drewN _ _ _) (congrArg (World.drewN _) (Nat.add_assoc _ _ _))⟩)))
      by_cases heq : getV (l0.drop n) = crcV (l0.take n)
      · rw [if_pos heq] at h
        simp only [Prod.mk.injEq] at h
        have h1 := Aside0.mk h.1
        have h2 := Aside0.mk h.2
        have hd : (wrap64 (getV (l0.drop n)) != crcV (l0.take n)) = false := by rw [HG.out]; simpa using heq
        clear h heq
        go_wp2_with fail
        refine (C1.out _).mono ?_
        rintro e w' ⟨v, rfl, hR, hB⟩
        have HO := Aside0.mk hR
        have HB := Aside0.mk hB
        clear hR hB
        go_wp2
        go_ret2
        exact ⟨_, by rw [← h2.out]; rfl, by rw [← h1.out]; exact HO.out, (pw_below_drewN (Below.refl _ _) _).trans HB.out⟩
      · rw [if_neg heq] at h
        simp only [Prod.mk.injEq] at h
        have h1 := Aside0.mk h.1
        have h2 := Aside0.mk h.2
        have hd : (wrap64 (getV (l0.drop n)) != crcV (l0.take n)) = true := by rw [HG.out]; simpa using heq
        clear h heq
        go_wp2
        go_ret2
        exact ⟨_, by rw [← h2.out]; rfl, by rw [← h1.out]; exact Kd.R_nil _ _ _ _ _, pw_below_drewN (Below.refl _ _) _⟩
  · rw [if_neg hok] at h
    cases h
end
end Go.Proofs.YtmkkeccmjejfnaaDoor.PA
namespace Go.Proofs.YtmkkeccmjejfnaaDoor.PA
section

open Go.RowKit Go.Proofs.YtmkkeccmjejfnaaDoorW.PrintWords Go.Proofs.YtmkkeccmjejfnaaDoorW.PrintLast Go.Proofs.YtmkkeccmjejfnaaDoorW.PrintMore
attribute [local go_sem] pr_leq pr_geq pr_gtr max2_int min2_int max_two min_two max_three min_three max_four min_four
set_option linter.unusedVariables false
set_option linter.unusedSimpArgs false
def frameL (l : List Int) (n : Nat) : List Int := ((l.length : Int) % 256) :: ((l.length : Int) / 256) :: (l ++ List.replicate (n - 2 - l.length) 0)
def frameV (l : List Int) (x : Int) : List Int × Int :=
  if x < 2 ∨ 60000 < x then ([], 1) else if x - 2 < (l.length : Int) then ([], 14) else (frameL l x.toNat, 0)
def pack_Frame.f (l0 : List Int) (x : Int) : Option (List Int × Int) := if l0.length ≤ 140737488355328 ∧ -9223372036854775808 ≤ x ∧ x ≤ 9223372036854775807 then some (frameV l0 x) else none
theorem made_row (n : Nat) (hn : 2 ≤ n) : madeCells #[Value.int .u8 0] n = (Value.int .u8 0 :: Value.int .u8 0 :: List.replicate (n - 2) (.int .u8 0)).toArray := by
  obtain ⟨m, rfl⟩ : ∃ m, n = m + 2 := ⟨n - 2, by omega⟩
  apply Array.ext
  · simp [madeCells]
  · intro i h1 h2
    match i with
    | 0 => simp [madeCells]
    | 1 => simp [madeCells]
    | i + 2 => simp [madeCells, Nat.mod_one]
theorem cut2 (B n : Nat) (hn : 2 ≤ n) (hm : n ≤ 60000) : ∃ A', (∀ W : World, (Instr.slice 36 (.slice (some ⟨B, 0, none⟩) n n) (some (.int .i64 2)) none none).run Tryd.prog W = .ok (.slice A' (n - 2) (n - 2)) W) ∧ Aside0 (2 < n → A' = some ⟨B, 2, none⟩) := by
  obtain ⟨i1, hi1, _, hsz1, _⟩ := info_parts info5
  refine ⟨if n = 2 then some ⟨B, 0, none⟩ else some ⟨B, 2, none⟩, fun W => ?_, ⟨fun h => by rw [if_neg (by omega)]⟩⟩
  have hel : (Tryd.prog).elem 36 = 5 := by simp [Program.elem, Tryd.underlying36]
  have hu : (Tryd.prog).underlying 36 = some (.slice ((Tryd.prog).elem 36)) := by rw [hel]; exact Tryd.underlying36
  rw [run_slice_l W 36 (some ⟨B, 0, none⟩) n n hu .i64 2 (by omega) (by omega), hel]
  simp [sizeOf, typeInfo, hi1, hsz1, sliced, Result.andThen]
  split <;> simp [Addr.add]
theorem frame_row (w : World) (B : Nat) (l : List Int) (n : Nat) (h : w.heap[B]? = some (.cells (splice (.int .u8 ((l.length : Int) % 256) :: .int .u8 ((l.length : Int) / 256) :: List.replicate (n - 2) (.int .u8 0)) 2 (l.map (Value.int .u8))).toArray 5 (0, 0))) (hl : 2 + l.length ≤ n) (hn : n ≤ 60000) :
    Kd.R (Kd.int .u8) 5 w B (fun _ => True) (.slice (some ⟨B, 0, none⟩) n n) (frameL l n) := by
  refine Kd.R_of_own ?_ (fun _ _ => trivial)
  have e : splice (Value.int .u8 ((l.length : Int) % 256) :: .int .u8 ((l.length : Int) / 256) :: List.replicate (n - 2) (.int .u8 0)) 2 (l.map (Value.int .u8)) = encs (Value.int .u8) (frameL l n) := by
    simp [splice, encs, frameL, Nat.add_comm 2, Nat.sub_sub]
  rw [e] at h
  have hlen : (frameL l n).length = n := by simp [frameL]; omega
  refine ⟨by simp [encs], .inr ⟨B, n, _, ?_, Nat.le_refl _, h, by omega, by unfold maxLen; omega, ?_, ?_⟩⟩
  · rw [hlen]
  · simp [hlen, encs]
  · simp [encs]
    rw [List.take_of_length_le (by simp)]
set_option maxHeartbeats 2000000 in
set_option maxRecDepth 100000 in
theorem pack_Frame.calls (A0 : Option Addr) (c0 : Nat) (l0 : List Int) (x : Int) (r1 : List Int) (r2 : Int) (w : World) (hr0 : Kd.C (Kd.int .u8) w A0 l0.length l0) (hc0 : l0.length ≤ c0) (h : pack_Frame.f l0 x = some (r1, r2)) :
    Calls Tryd.prog 53 #[.slice A0 l0.length c0, .int .i64 x] w fun e w' => ∃ v0_ : Value, e = .returned (.tuple #[v0_, .int .i64 r2]) ∧ Kd.R (Kd.int .u8) 5 w' w.heap.size (fun _ => True) v0_ r1 ∧ Below w.heap.size w w' := by
  unfold pack_Frame.f at h
  split at h
  · rename_i hh
    obtain ⟨hl, hx1, hx2⟩ := hh
    have h := Option.some.inj h
    unfold frameV at h
    have HR := Aside0.mk hr0
    have HC := Aside0.mk hc0
    clear hr0 hc0
    by_cases h1 : x < 2
    · rw [if_pos (.inl h1)] at h
      simp only [Prod.mk.injEq] at h
      obtain ⟨rfl, rfl⟩ := h
      go_enter Tryd.func53, Tryd.ntmps53
      go_wp2_with fail
      go_ret2
      exact ⟨_, rfl, Kd.R_nil _ _ _ _ _, Below.refl _ _⟩
    have d1 : decide (x < 2) = false := decide_eq_false h1
    by_cases h2 : 60000 < x
    · rw [if_pos (.inr h2)] at h
      simp only [Prod.mk.injEq] at h
      obtain ⟨rfl, rfl⟩ := h
      go_enter Tryd.func53, Tryd.ntmps53
      go_wp2_with fail
      go_ret2
      exact ⟨_, rfl, Kd.R_nil _ _ _ _ _, Below.refl _ _⟩
    rw [if_neg (by omega)] at h
    obtain ⟨n, rfl⟩ : ∃ n : Nat, x = n := ⟨x.toNat, by omega⟩
    have d2 : decide (60000 < (n : Int)) = false := decide_eq_false h2
    by_cases h3 : (n : Int) - 2 < (l0.length : Int)
    · rw [if_pos h3] at h
      simp only [Prod.mk.injEq] at h
      obtain ⟨rfl, rfl⟩ := h
      go_enter Tryd.func53, Tryd.ntmps53
      go_wp2_with fail
      go_ret2
      exact ⟨_, rfl, Kd.R_nil _ _ _ _ _, Below.refl _ _⟩
    rw [if_neg h3, Int.toNat_natCast] at h
    simp only [Prod.mk.injEq] at h
    obtain ⟨h4, rfl⟩ := h
    have H4 := Aside0.mk h4
    have hn : n ≤ 60000 := by omega
    have hn2 : 2 ≤ n := by omega
    have hln : 2 + l0.length ≤ n := by omega
    have d3 : decide ((n : Int) - 2 < (l0.length : Int)) = false := decide_eq_false h3
    clear h4 h3 h2 h1 hl hx1 hx2
    have hmk := print_make_int (P := Tryd.prog) 36 5 (.int .u8 0) 1 Tryd.underlying36 info5 rfl (by decide) (n : Int) (by omega) (by omega)
    rw [Int.toNat_natCast] at hmk
    obtain ⟨A', hcut, hA'⟩ := cut2 w.heap.size n hn2 hn
    have k1 : IntKind.u8.wrap (l0.length : Int) = (l0.length : Int) % 256 := by simp [IntKind.wrap, IntKind.signed, IntKind.bits]
    go_enter Tryd.func53, Tryd.ntmps53
    obtain ⟨L, hL⟩ : ∃ L, L = List.replicate (n - 2) (Value.int .u8 0) := ⟨_, rfl⟩
    have HL := Aside0.mk hL
    rw [made_row n hn2, ← hL] at hmk
    clear hL
    have Q1 : Aside0 ((l0.map (Value.int .u8)).length = Nat.min l0.length (n - 2)) := ⟨by rw [List.length_map]; exact (Nat.min_eq_left (by omega)).symm⟩
    have Q2 : ∀ (W : World), Below w.heap.size w W → 0 < (l0.map (Value.int .u8)).length → A' = some ⟨w.heap.size, 2, none⟩ ∧ ∃ ad, A0 = some ad ∧ ∀ j v, (l0.map (Value.int .u8))[j]? = some v → W.cell? (ad.add j) = some v := by
      intro W hW hp
      rw [List.length_map] at hp
      refine ⟨hA'.out (by omega), ?_⟩
      have hC := Kd.C_below HR.out hW
      obtain ⟨ad, e, _⟩ := Kd.at_int hC 0 (by omega) (by omega)
      refine ⟨ad, e, fun j v hj => ?_⟩
      obtain ⟨hj1, hj2⟩ := List.getElem?_eq_some_iff.1 hj
      rw [List.length_map] at hj1
      obtain ⟨ad2, e2, hx⟩ := Kd.at_int hC (j : Int) (by omega) (by omega)
      rw [e] at e2
      cases e2
      rw [Int.toNat_natCast] at hx
      rw [hx, ← hj2]
      simp [rd, List.getD_eq_getElem?_getD, hj1]
    have Q2 := Aside0.mk Q2
    have Q3 : Aside0 (∀ v ∈ (l0.map (Value.int .u8)), v.oneCell' = true) := ⟨by
      intro v hv
      obtain ⟨y, _, rfl⟩ := List.mem_map.1 hv
      rfl⟩
    have Q4 : Aside0 (2 + (l0.map (Value.int .u8)).length ≤ (Value.int .u8 ((l0.length : Int) % 256) :: Value.int .u8 ((l0.length : Int) / 256) :: L).length) := ⟨by rw [HL.out]; simp; omega⟩
    have Q5 : Aside0 (Below w.heap.size w (w.alloc (.cells (Value.int .u8 ((l0.length : Int) % 256) :: Value.int .u8 ((l0.length : Int) / 256) :: L).toArray 5))) := ⟨below_alloc (Below.refl _ _) _⟩
    have Q6 := Aside0.mk (heap_alloc_new w (.cells (Value.int .u8 ((l0.length : Int) % 256) :: Value.int .u8 ((l0.length : Int) / 256) :: L).toArray 5))
    go_wp2_with (first | (with_reducible refine wpList_copy_splice rfl (.tmp 32) (.tmp 33) 36 36 rfl 5 Tryd.underlying36 (by kernel_rfl) A' A0 (n - 2) (n - 2) l0.length c0 rfl rfl w.heap.size 2 _ 5 Q6.out (l0.map (Value.int .u8)) Q1.out (Q2.out _ Q5.out) Q4.out Q3.out w.heap.size w Q5.out (Nat.le_refl _) ?_; intro w' hh hb; have R := Aside0.mk (frame_row w' w.heap.size l0 n (by rw [← HL.out]; exact hh.out) hln hn); have HB := Aside0.mk hb; clear hh hb) | fail)
    go_ret2
    exact ⟨_, rfl, by rw [← H4.out]; exact R.out, HB.out⟩
  · cases h
def record_sector.f (k : Nat) (l0 : List (S77)) : Option (List Int × Int) := (pack_Encode.f l0).bind fun bt119 => (if bt119.2 = 0 then ((pack_Seal.f k bt119.1).bind fun t123 => ((pack_Frame.f t123 256).bind fun bt126 => (some (bt126.1, bt126.2)))) else (some (([] : List Int), 2)))
set_option maxHeartbeats 8000000 in
set_option maxRecDepth 100000 in
theorem record_sector.calls (k : Nat) (A0 : Option Addr) (c0 : Nat) (l0 : List (S77)) (r1 : List Int) (r2 : Int) (w : World) (hr0 : Kd.C k77 w A0 l0.length l0) (hc0 : l0.length ≤ c0) (h : record_sector.f k l0 = some (r1, r2)) :
    Calls Tryd.prog 31 #[.slice A0 l0.length c0] w fun e w' => ∃ v0_ : Value, e = .returned (.tuple #[v0_, .int .i64 r2]) ∧ Kd.R (Kd.int .u8) 5 w' w.heap.size (fun _ => True) v0_ r1 ∧ Below w.heap.size w w' := by
  have HR0 := Aside0.mk hr0
  have HC0 := Aside0.mk hc0
  clear hr0 hc0
  have HB := Aside0.mk (Below.refl w.heap.size w)
  have H : ((pack_Encode.f l0).bind fun bt119 => (if bt119.2 = 0 then ((pack_Seal.f k bt119.1).bind fun t123 => ((pack_Frame.f t123 256).bind fun bt126 => (some (bt126.1, bt126.2)))) else (some (([] : List Int), 2)))) = some (r1, r2) := h
  clear h
  replace H := Option.bind_eq_some_iff.mp H
  obtain ⟨⟨t119, t120⟩, A20, H⟩ := H
  replace H : (if t120 = 0 then ((pack_Seal.f k t119).bind fun t123 => ((pack_Frame.f t123 256).bind fun bt126 => (some (bt126.1, bt126.2)))) else (some (([] : List Int), 2))) = some (r1, r2) := H
  have A2 := Aside0.mk A20
  clear A20
  by_cases c3 : t120 = 0
  · rw [if_pos c3] at H
    have c3b0 : (t120 == 0) = true := beq_iff_eq.mpr c3
    have c3b1 : (t120 != 0) = false := bne_eq_false_iff_eq.mpr c3
    clear c3
    replace H := Option.bind_eq_some_iff.mp H
    obtain ⟨t123, A40, H⟩ := H
    replace H : ((pack_Frame.f t123 256).bind fun bt126 => (some (bt126.1, bt126.2))) = some (r1, r2) := H
    have A4 := Aside0.mk A40
    clear A40
    replace H := Option.bind_eq_some_iff.mp H
    obtain ⟨⟨t126, t127⟩, A50, H⟩ := H
    replace H : (some (t126, t127)) = some (r1, r2) := H
    have A5 := Aside0.mk A50
    clear A50
    simp only [Option.some.injEq, Prod.mk.injEq] at H
    obtain ⟨rfl, rfl⟩ := H
    go_enter Tryd.func31, Tryd.ntmps31
    go_wp2_with (first | ((with_reducible refine gate_callee (f := 43) rfl ?_); refine goesL_ (some 8) rfl rfl Tryd.func43 (by kernel_rfl) rfl #[.slice A0 l0.length c0] rfl (by (try simp only [List.map_toArray, List.map_cons, List.map_nil]); first | done | rfl | (simp only [List.length_drop, List.length_take]; rfl)) ?_; (with_reducible refine (pack_Encode.calls _ _ l0 t119 t120 _ ?side1 ?side2 A2.out).mono ?_); (case side1 => repeat (first | exact HR0.out | (with_reducible refine Kd.C_alloc ?_ _) | (with_reducible refine Kd.C_drewN ?_ _) | (with_reducible refine Kd.C_drew ?_))); (case side2 => exact HC0.out); rintro e w6 ⟨v121, rfl, ho0, hb⟩; refine ⟨_, rfl, ?_⟩; have n0_ := Aside0.mk (Kd.R_lower ho0 (below_size (by repeat (first | (with_reducible first | exact HB.out | apply below_alloc | apply pw_below_drewN | apply below_drew1) | exact HB.out)))); have n1_ := Aside0.mk (below_step (by repeat (first | (with_reducible first | exact HB.out | apply below_alloc | apply pw_below_drewN | apply below_drew1) | exact HB.out)) hb); clear HB; have HO122 := n0_; have HB := n1_; clear n0_ n1_; (try clear hb); (try clear hb2); (try clear hk); (try clear hi); (try clear ho0); obtain ⟨Ao7, co7, eo7⟩ := Kd.R_slice HO122.out; subst eo7) | ((with_reducible refine gate_callee (f := 44) rfl ?_); refine goesL_ (some 14) rfl rfl Tryd.func44 (by kernel_rfl) rfl #[.slice Ao7 t119.length co7] rfl (by (try simp only [List.map_toArray, List.map_cons, List.map_nil]); first | done | rfl | (simp only [List.length_drop, List.length_take]; rfl)) ?_; (with_reducible refine (pack_Seal.calls k _ _ t119 t123 _ ?side1 ?side2 A4.out).mono ?_); (case side1 => repeat (first | exact (Kd.R_reads' HO122.out).2.2 | (with_reducible refine Kd.C_alloc ?_ _) | (with_reducible refine Kd.C_drewN ?_ _) | (with_reducible refine Kd.C_drew ?_))); (case side2 => exact (Kd.R_reads' HO122.out).2.1); rintro e w8 ⟨v124, rfl, ho0, hb⟩; refine ⟨_, rfl, ?_⟩; have n0_ := Aside0.mk (Kd.R_elder' (by (with_reducible repeat (first | apply Kd.R_alloc | apply Kd.R_drewN | apply Kd.R_drew)); exact HO122.out) (Kd.R_base ho0) hb); have n1_ := Aside0.mk (Kd.R_lower (Kd.R_new' ho0 (Kd.R_lt (by (with_reducible repeat (first | apply Kd.R_alloc | apply Kd.R_drewN | apply Kd.R_drew)); exact HO122.out))) (below_size (by repeat (first | (with_reducible first | exact HB.out | apply below_alloc | apply pw_below_drewN | apply below_drew1) | exact HB.out)))); have n2_ := Aside0.mk (below_step (by repeat (first | (with_reducible first | exact HB.out | apply below_alloc | apply pw_below_drewN | apply below_drew1) | exact HB.out)) hb); clear HO122; clear HB; have HO122 := n0_; have HO125 := n1_; have HB := n2_; clear n0_ n1_ n2_; (try clear hb); (try clear hb2); (try clear hk); (try clear hi); (try clear ho0); obtain ⟨Ao9, co9, eo9⟩ := Kd.R_slice HO125.out; subst eo9) | ((with_reducible refine gate_callee (f := 53) rfl ?_); refine goesL_ (some 15) rfl rfl Tryd.func53 (by kernel_rfl) rfl #[.slice Ao9 t123.length co9, .int .i64 256] rfl (by (try simp only [List.map_toArray, List.map_cons, List.map_nil]); first | done | rfl | (simp only [List.length_drop, List.length_take]; rfl)) ?_; (with_reducible refine (pack_Frame.calls _ _ t123 256 t126 t127 _ ?side1 ?side2 A5.out).mono ?_); (case side1 => repeat (first | exact (Kd.R_reads' HO125.out).2.2 | (with_reducible refine Kd.C_alloc ?_ _) | (with_reducible refine Kd.C_drewN ?_ _) | (with_reducible refine Kd.C_drew ?_))); (case side2 => exact (Kd.R_reads' HO125.out).2.1); rintro e w10 ⟨v128, rfl, ho0, hb⟩; refine ⟨_, rfl, ?_⟩; have n0_ := Aside0.mk (Kd.R_elder' (by (with_reducible repeat (first | apply Kd.R_alloc | apply Kd.R_drewN | apply Kd.R_drew)); exact HO122.out) (Kd.R_base ho0) hb); have n1_ := Aside0.mk (Kd.R_elder' (by (with_reducible repeat (first | apply Kd.R_alloc | apply Kd.R_drewN | apply Kd.R_drew)); exact HO125.out) (Kd.R_base ho0) hb); have n2_ := Aside0.mk (Kd.R_lower (Kd.R_new' (Kd.R_new' ho0 (Kd.R_lt (by (with_reducible repeat (first | apply Kd.R_alloc | apply Kd.R_drewN | apply Kd.R_drew)); exact HO122.out))) (Kd.R_lt (by (with_reducible repeat (first | apply Kd.R_alloc | apply Kd.R_drewN | apply Kd.R_drew)); exact HO125.out))) (below_size (by repeat (first | (with_reducible first | exact HB.out | apply below_alloc | apply pw_below_drewN | apply below_drew1) | exact HB.out)))); have n3_ := Aside0.mk (below_step (by repeat (first | (with_reducible first | exact HB.out | apply below_alloc | apply pw_below_drewN | apply below_drew1) | exact HB.out)) hb); clear HO122; clear HO125; clear HB; have HO122 := n0_; have HO125 := n1_; have HO129 := n2_; have HB := n3_; clear n0_ n1_ n2_ n3_; (try clear hb); (try clear hb2); (try clear hk); (try clear hi); (try clear ho0)))
    go_ret2
    exact ⟨_, by first | rfl | (simp [errW_none, errW_some] <;> rfl) | (simp [*, errW_none, errW_some] <;> rfl), by (with_reducible repeat (first | apply Kd.R_alloc | apply Kd.R_drewN | apply Kd.R_drew)); exact Kd.R_mono HO129.out (fun _ hk => trivial), by repeat (first | (with_reducible first | exact HB.out | apply below_alloc | apply pw_below_drewN | apply below_drew1) | exact HB.out)⟩
  · rw [if_neg c3] at H
    have c3b0 : (t120 == 0) = false := beq_eq_false_iff_ne.mpr c3
    have c3b1 : (t120 != 0) = true := bne_iff_ne.mpr c3
    simp only [Option.some.injEq, Prod.mk.injEq] at H
    obtain ⟨rfl, rfl⟩ := H
    go_enter Tryd.func31, Tryd.ntmps31
    go_wp2_with (first | ((with_reducible refine gate_callee (f := 43) rfl ?_); refine goesL_ (some 8) rfl rfl Tryd.func43 (by kernel_rfl) rfl #[.slice A0 l0.length c0] rfl (by (try simp only [List.map_toArray, List.map_cons, List.map_nil]); first | done | rfl | (simp only [List.length_drop, List.length_take]; rfl)) ?_; (with_reducible refine (pack_Encode.calls _ _ l0 t119 t120 _ ?side1 ?side2 A2.out).mono ?_); (case side1 => repeat (first | exact HR0.out | (with_reducible refine Kd.C_alloc ?_ _) | (with_reducible refine Kd.C_drewN ?_ _) | (with_reducible refine Kd.C_drew ?_))); (case side2 => exact HC0.out); rintro e w11 ⟨v121, rfl, ho0, hb⟩; refine ⟨_, rfl, ?_⟩; have n0_ := Aside0.mk (Kd.R_lower ho0 (below_size (by repeat (first | (with_reducible first | exact HB.out | apply below_alloc | apply pw_below_drewN | apply below_drew1) | exact HB.out)))); have n1_ := Aside0.mk (below_step (by repeat (first | (with_reducible first | exact HB.out | apply below_alloc | apply pw_below_drewN | apply below_drew1) | exact HB.out)) hb); clear HB; have HO122 := n0_; have HB := n1_; clear n0_ n1_; (try clear hb); (try clear hb2); (try clear hk); (try clear hi); (try clear ho0)))
    go_ret2
    exact ⟨_, by first | rfl | (simp [errW_none, errW_some] <;> rfl) | (simp [*, errW_none, errW_some] <;> rfl), by first | exact Kd.R_nil _ _ _ _ _ | exact Kd.N_nil _ _ _ _ _ | exact Kd.V_nil _ _ _ _ _ | exact Kd.Q_nil _ _ _ _ _ | exact Kd.S_nil _ _ _ _ _, by repeat (first | (with_reducible first | exact HB.out | apply below_alloc | apply pw_below_drewN | apply below_drew1) | exact HB.out)⟩
end
end Go.Proofs.YtmkkeccmjejfnaaDoor.PA
namespace Go.Proofs.YtmkkeccmjejfnaaDoor.PA
section

open Go.RowKit Go.Proofs.YtmkkeccmjejfnaaDoorW.PrintWords Go.Proofs.YtmkkeccmjejfnaaDoorW.PrintLast Go.Proofs.YtmkkeccmjejfnaaDoorW.PrintMore
attribute [local go_sem] pr_leq pr_geq pr_gtr max2_int min2_int max_two min_two max_three min_three max_four min_four
set_option linter.unusedVariables false
set_option linter.unusedSimpArgs false
def record_numbers.l0 : Nat → List (S77) → List Int → Int → Int → Option ((List (S77)))
  | 0, _, _, _, _ => none
  | k + 1, x3, x6, x7, x8 => if x8 < x7 then (if 0 ≤ x8 then (if x8 < (x6.length : Int) then (if x3.length < 4398046511104 then (record_numbers.l0 k (x3 ++ [(⟨1, rd x6 x8, (⟨#[]⟩ : ByteArray)⟩ : S77)]) x6 x7 (wrap64 (x8 + 1))) else (none)) else (none)) else (none)) else (some x3)
def record_numbers.f (k : Nat) (l0 : List Int) : Option ((List (S77))) := record_numbers.l0 k ([] : List (S77)) l0 (l0.length : Int) 0
set_option maxHeartbeats 8000000 in
set_option maxRecDepth 100000 in
theorem record_numbers.calls (k : Nat) (A0 : Option Addr) (c0 : Nat) (l0 : List Int) (r : List (S77)) (w : World) (hr0 : Kd.C (Kd.int .i64) w A0 l0.length l0) (hc0 : l0.length ≤ c0) (h : record_numbers.f k l0 = some r) :
    Calls Tryd.prog 32 #[.slice A0 l0.length c0] w fun e w' => ∃ v0_ : Value, e = .returned (v0_) ∧ Kd.R k77 77 w' w.heap.size (fun _ => True) v0_ r ∧ Below w.heap.size w w' := by
  have hu77 := Tryd.underlying77
  have HR0 := Aside0.mk hr0
  have HC0 := Aside0.mk hc0
  clear hr0 hc0
  have HB := Aside0.mk (Below.refl w.heap.size w)
  have H : (record_numbers.l0 k ([] : List (S77)) l0 (l0.length : Int) 0) = some r := h
  clear h
  have H' := Aside0.mk H
  clear H
  go_enter Tryd.func32, Tryd.ntmps32
  go_wp2
  go_loopg [3, 8] k (fun kq v3 v8 w' => ∃ (x3_1 : List (S77)) (x8_1 : Int), v8 = .int .i64 x8_1 ∧ Aside0 (record_numbers.l0 kq x3_1 l0 (l0.length : Int) x8_1 = some r) ∧ Aside0 (kq ≤ k) ∧ Aside0 (Kd.R k77 77 w' w.heap.size (fun _ => True) v3 x3_1) ∧ Aside0 (Below w.heap.size w w'))
  case atStart => exact ⟨(([] : List (S77))), (0), (by first | rfl | (simp; done) | (simp [*]; done)), H', ⟨Nat.le_refl _⟩, ⟨by first | exact Kd.R_nil _ _ _ _ _ | exact Kd.N_nil _ _ _ _ _ | exact Kd.V_nil _ _ _ _ _ | exact Kd.Q_nil _ _ _ _ _ | exact Kd.S_nil _ _ _ _ _⟩, ⟨by repeat (first | (with_reducible first | exact HB.out | apply below_alloc | apply pw_below_drewN | apply below_drew1) | exact HB.out)⟩⟩
  case round =>
    clear H'
    obtain ⟨x3_1, x8_1, rfl, HA, HK1, HO_3, HB⟩ := hrel
    cases gk with
    | zero => exact absurd HA.out (by simp [record_numbers.l0])
    | succ k1 =>
      have H := HA.out
      clear HA
      simp only [record_numbers.l0] at H
      by_cases c2 : x8_1 < (l0.length : Int)
      · rw [if_pos c2] at H
        have c2b0 : decide (x8_1 < (l0.length : Int)) = true := decide_eq_true c2
        clear c2
        by_cases c3 : 0 ≤ x8_1
        · rw [if_pos c3] at H
          have c3b0 : decide (0 ≤ x8_1) = true := decide_eq_true c3
          clear c3
          by_cases c4 : x8_1 < (l0.length : Int)
          · rw [if_pos c4] at H
            have c4b0 : decide (x8_1 < (l0.length : Int)) = true := decide_eq_true c4
            clear c4
            by_cases c5 : x3_1.length < 4398046511104
            · rw [if_pos c5] at H
              have LMc5 := Aside0.mk c5
              clear c5
              obtain ⟨y131, hy131⟩ : ∃ y_ : List (S77), y_ = (x3_1 ++ [(⟨1, rd l0 x8_1, (⟨#[]⟩ : ByteArray)⟩ : S77)]) := ⟨_, rfl⟩
              replace H : (record_numbers.l0 k1 y131 l0 (l0.length : Int) (wrap64 (x8_1 + 1))) = some r := by first | (rw [hy131]; with_reducible exact H) | (have H2_ := (Option.bind_some _ _).symm.trans H; rw [hy131]; with_reducible exact H2_) | (have H2_ := (Option.bind_some _ _).symm.trans H; with_reducible exact H2_) | with_reducible exact H | (rw [hy131]; exact H) | exact H
              have Ny131 := Aside0.mk hy131
              clear hy131
              have H' := Aside0.mk H
              clear H
              have p130 : 0 ≤ (x8_1 : Int) := of_decide_eq_true (by first | (with_reducible assumption) | assumption)
              have q130 : x8_1 < (l0.length : Int) := of_decide_eq_true (by first | (with_reducible assumption) | assumption)
              obtain ⟨ad130, e130, hx130_0⟩ := Kd.at_int HR0.out x8_1 p130 q130
              cases e130
              replace hx130_0 := (HB.out.cell (World.block_lt_of_cell? w _ hx130_0)).trans hx130_0
              replace p130 := eq_true p130
              replace q130 := eq_true q130
              go_wp2_with (first | ((with_reducible refine gate_builtin (b := .append) (xs := #[.tmp 12, .tmp 15]) rfl ?_); at_builtin; refine Kd.R_append k77 (w0 := w) w.heap.size rfl (.tmp 12) (.tmp 15) 74 77 (.agg #[(.int .i64 0), (.int .i64 0), (.string ⟨#[]⟩)]) 32 rfl Tryd.underlying74 info77 rfl (by decide) (by omega) u3 x3_1 (⟨1, rd l0 x8_1, (⟨#[]⟩ : ByteArray)⟩ : S77) [.int .i64 1, .int .i64 (rd l0 x8_1), .string (⟨#[]⟩ : ByteArray)] (fun _ => True) (fun _ => False) rfl rfl ?aP (fun _ hk => hk.elim) ?aF ?aO ?aB ?aS ?aL ?_; (case aP => exact k77_mkM _ _ _ (⟨1, rd l0 x8_1, (⟨#[]⟩ : ByteArray)⟩ : S77)); (case aB => exact (by repeat (first | (with_reducible first | exact HB.out | apply below_alloc | apply pw_below_drewN | apply below_drew1) | exact HB.out))); (case aF => exact (fun _ _ => trivial)); (case aO => exact (by (with_reducible repeat (first | apply Kd.R_alloc | apply Kd.R_drewN | apply Kd.R_drew)); exact HO_3.out)); (case aS => exact (below_size (by repeat (first | (with_reducible first | exact HB.out | apply below_alloc | apply pw_below_drewN | apply below_drew1) | exact HB.out)))); (case aL => have := LMc5.out; omega); intro v132 w6 ho hb hg hat; rw [← Ny131.out] at ho; have n0_ := Aside0.mk (hb); have n1_ := Aside0.mk (ho); clear HB; clear HO_3; have HB := n0_; have HO133 := n1_; clear n0_ n1_; clear ho hb hg hat))
              go_roundg k1
              case measure => have := HK1.out; omega
              case rel => exact ⟨(y131), (wrap64 (x8_1 + 1)), (by first | rfl | (simp; done) | (simp [*]; done)), H', ⟨by have := HK1.out; omega⟩, ⟨by (with_reducible repeat (first | apply Kd.R_alloc | apply Kd.R_drewN | apply Kd.R_drew)); exact HO133.out⟩, ⟨by repeat (first | (with_reducible first | exact HB.out | apply below_alloc | apply pw_below_drewN | apply below_drew1) | exact HB.out)⟩⟩
            · rw [if_neg c5] at H
              exact absurd H (by simp)
          · rw [if_neg c4] at H
            exact absurd H (by simp)
        · rw [if_neg c3] at H
          exact absurd H (by simp)
      · rw [if_neg c2] at H
        have c2b0 : decide (x8_1 < (l0.length : Int)) = false := decide_eq_false c2
        clear c2
        obtain rfl := Option.some.inj H
        go_wp2
        go_ret
        exact ⟨_, by first | rfl | (simp [errW_none, errW_some] <;> rfl) | (simp [*, errW_none, errW_some] <;> rfl), by (with_reducible repeat (first | apply Kd.R_alloc | apply Kd.R_drewN | apply Kd.R_drew)); exact HO_3.out, by repeat (first | (with_reducible first | exact HB.out | apply below_alloc | apply pw_below_drewN | apply below_drew1) | exact HB.out)⟩
def record_EncodeSuper.f (k : Nat) (a0_0 : Int) (a0_1 : Int) (a0_2 : Int) : Option (List Int × Int) := (record_Super_right.f k a0_0 a0_1 a0_2).bind fun t135 => (if t135 = true then ((record_numbers.f k (([1, a0_0, a0_1, a0_2] : List Int))).bind fun t139 => ((record_sector.f k t139).bind fun bt142 => (some (bt142.1, bt142.2)))) else (some (([] : List Int), 2)))
set_option maxHeartbeats 8000000 in
set_option maxRecDepth 100000 in
theorem record_EncodeSuper.calls (k : Nat) (a0_0 : Int) (a0_1 : Int) (a0_2 : Int) (r1 : List Int) (r2 : Int) (w : World) (h : record_EncodeSuper.f k a0_0 a0_1 a0_2 = some (r1, r2)) :
    Calls Tryd.prog 13 #[.agg #[.int .i64 a0_0, .int .i64 a0_1, .int .i64 a0_2]] w fun e w' => ∃ v0_ : Value, e = .returned (.tuple #[v0_, .int .i64 r2]) ∧ Kd.R (Kd.int .u8) 5 w' w.heap.size (fun _ => True) v0_ r1 ∧ Below w.heap.size w w' := by
  have hu23 := Tryd.underlying23
  have HB := Aside0.mk (Below.refl w.heap.size w)
  have H : ((record_Super_right.f k a0_0 a0_1 a0_2).bind fun t135 => (if t135 = true then ((record_numbers.f k (([1, a0_0, a0_1, a0_2] : List Int))).bind fun t139 => ((record_sector.f k t139).bind fun bt142 => (some (bt142.1, bt142.2)))) else (some (([] : List Int), 2)))) = some (r1, r2) := h
  clear h
  replace H := Option.bind_eq_some_iff.mp H
  obtain ⟨t135, A20, H⟩ := H
  replace H : (if t135 = true then ((record_numbers.f k (([1, a0_0, a0_1, a0_2] : List Int))).bind fun t139 => ((record_sector.f k t139).bind fun bt142 => (some (bt142.1, bt142.2)))) else (some (([] : List Int), 2))) = some (r1, r2) := H
  have A2 := Aside0.mk A20
  clear A20
  by_cases c3 : t135 = true
  · subst c3
    have H1 : ((record_numbers.f k (([1, a0_0, a0_1, a0_2] : List Int))).bind fun t139 => ((record_sector.f k t139).bind fun bt142 => (some (bt142.1, bt142.2)))) = some (r1, r2) := by rw [if_pos rfl] at H; exact H
    clear H
    have H := H1
    clear H1
    obtain ⟨y136, hy136⟩ : ∃ y_ : List Int, y_ = (([1, a0_0, a0_1, a0_2] : List Int)) := ⟨_, rfl⟩
    replace H : ((record_numbers.f k y136).bind fun t139 => ((record_sector.f k t139).bind fun bt142 => (some (bt142.1, bt142.2)))) = some (r1, r2) := by first | (rw [hy136]; with_reducible exact H) | (have H2_ := (Option.bind_some _ _).symm.trans H; rw [hy136]; with_reducible exact H2_) | (have H2_ := (Option.bind_some _ _).symm.trans H; with_reducible exact H2_) | with_reducible exact H | (rw [hy136]; exact H) | exact H
    have Ny136 := Aside0.mk hy136
    clear hy136
    replace H := Option.bind_eq_some_iff.mp H
    obtain ⟨t139, A40, H⟩ := H
    replace H : ((record_sector.f k t139).bind fun bt142 => (some (bt142.1, bt142.2))) = some (r1, r2) := H
    have A4 := Aside0.mk A40
    clear A40
    replace H := Option.bind_eq_some_iff.mp H
    obtain ⟨⟨t142, t143⟩, A50, H⟩ := H
    replace H : (some (t142, t143)) = some (r1, r2) := H
    have A5 := Aside0.mk A50
    clear A50
    simp only [Option.some.injEq, Prod.mk.injEq] at H
    obtain ⟨rfl, rfl⟩ := H
    go_enter Tryd.func13, Tryd.ntmps13
    go_wp2_with (first | ((with_reducible refine gate_dst (N := 1) rfl ?_); refine box_event ?hg (N := 1) ?hd (cs := #[.int .i64 a0_0, .int .i64 a0_1, .int .i64 a0_2]) (t := 23) ?hr ?_; (case hd => rfl); (case hg => rfl); (case hr => first | (go_simp; done) | (go_simp; rfl)); intro gb134 hg w6 hbox hb; have n0_ := Aside0.mk (below_step (by repeat (first | (with_reducible first | exact HB.out | apply below_alloc | apply pw_below_drewN | apply below_drew1) | exact HB.out)) hb); have n1_ := Aside0.mk (hbox); have n2_ := Aside0.mk ((by rw [hg]; exact (below_size (by repeat (first | (with_reducible first | exact HB.out | apply below_alloc | apply pw_below_drewN | apply below_drew1) | exact HB.out))) : w.heap.size ≤ gb134)); have n3_ := Aside0.mk ((by rw [hg]; exact (below_size (by repeat (first | (with_reducible first | exact HB.out | apply below_alloc | apply pw_below_drewN | apply below_drew1) | exact HB.out))) : w.heap.size ≤ gb134)); clear HB; have HB := n0_; have BK134 := n1_; have GW134 := n2_; have GE134 := n3_; clear n0_ n1_ n2_ n3_; clear hb hbox hg; have hcz7_0 : w6.cell? ⟨gb134, 0, none⟩ = some (.int .i64 a0_0) := (blk_cell BK134.out 0).trans rfl; have hcz7_1 : w6.cell? ⟨gb134, 1, none⟩ = some (.int .i64 a0_1) := (blk_cell BK134.out 1).trans rfl; have hcz7_2 : w6.cell? ⟨gb134, 2, none⟩ = some (.int .i64 a0_2) := (blk_cell BK134.out 2).trans rfl; have hfz7_0 := blk_frozen BK134.out 0; have hfz7_1 := blk_frozen BK134.out 1; have hfz7_2 := blk_frozen BK134.out 2) | ((with_reducible refine gate_callee (f := 30) rfl ?_); refine goesL_ (some 5) rfl rfl Tryd.func30 (by kernel_rfl) rfl #[.agg #[.int .i64 a0_0, .int .i64 a0_1, .int .i64 a0_2]] rfl (by (try simp only [List.map_toArray, List.map_cons, List.map_nil]); first | done | rfl | (simp only [List.length_drop, List.length_take]; rfl)) ?_; (with_reducible refine (record_Super_right.calls k a0_0 a0_1 a0_2 true _ A2.out).mono ?_); rintro e w8 ⟨rfl, hb⟩; refine ⟨_, rfl, ?_⟩; have n0_ := Aside0.mk (blk_below (g := gb134) (o := .cells #[.int .i64 a0_0, .int .i64 a0_1, .int .i64 a0_2] 23 (0, 0)) (by (with_reducible repeat (first | refine blk_drewN ?_ _ | refine blk_drew ?_ | refine blk_alloc ?_ _)); exact BK134.out) hb); have n1_ := Aside0.mk (below_step (by repeat (first | (with_reducible first | exact HB.out | apply below_alloc | apply pw_below_drewN | apply below_drew1 | refine below_set ?_ GE134.out) | exact HB.out)) hb); clear BK134; clear HB; have BK134 := n0_; have HB := n1_; clear n0_ n1_; (try clear hb); (try clear hb2); (try clear hk); (try clear hi); have hcz9_0 : w8.cell? ⟨gb134, 0, none⟩ = some (.int .i64 a0_0) := (blk_cell BK134.out 0).trans rfl; have hcz9_1 : w8.cell? ⟨gb134, 1, none⟩ = some (.int .i64 a0_1) := (blk_cell BK134.out 1).trans rfl; have hcz9_2 : w8.cell? ⟨gb134, 2, none⟩ = some (.int .i64 a0_2) := (blk_cell BK134.out 2).trans rfl; have hfz9_0 := blk_frozen BK134.out 0; have hfz9_1 := blk_frozen BK134.out 1; have hfz9_2 := blk_frozen BK134.out 2) | ((with_reducible refine gate_dst (N := 13) rfl ?_); refine Kd.R_lit (Kd.int .i64) _ 3 ?hg (N := 13) ?hd (xs := ([1, a0_0, a0_1, a0_2] : List Int)) (inner := [.int .i64 1, .int .i64 a0_0, .int .i64 a0_1, .int .i64 a0_2]) (ok := fun _ => True) (okp := fun _ => True) ?hr ?hp (fun _ hk => hk) trivial (Below.refl _ _) (Nat.le_refl _) (by simp) ?_; (case hd => rfl); (case hg => rfl); (case hr => first | (go_simp; done) | (go_simp; rfl)); (case hp => exact (Reps.one (show Kd.M (Kd.int .i64) _ _ _ 1 [.int .i64 1] from rfl) (Reps.one (show Kd.M (Kd.int .i64) _ _ _ a0_0 [.int .i64 a0_0] from rfl) (Reps.one (show Kd.M (Kd.int .i64) _ _ _ a0_1 [.int .i64 a0_1] from rfl) (Reps.one (show Kd.M (Kd.int .i64) _ _ _ a0_2 [.int .i64 a0_2] from rfl) (Reps.none _ _)))))); intro v137 w10 ho11 hb hg_ hnew_; clear hg_ hnew_; (first | rw [← Ny136.out] at ho11 | (simp only [Int.reduceToNat] at ho11; rw [← Ny136.out] at ho11)); have n0_ := Aside0.mk (Kd.R_lower ho11 (below_size (by repeat (first | (with_reducible first | exact HB.out | apply below_alloc | apply pw_below_drewN | apply below_drew1 | refine below_set ?_ GE134.out) | exact HB.out)))); have n1_ := Aside0.mk (blk_below (g := gb134) (o := .cells #[.int .i64 a0_0, .int .i64 a0_1, .int .i64 a0_2] 23 (0, 0)) (by (with_reducible repeat (first | refine blk_drewN ?_ _ | refine blk_drew ?_ | refine blk_alloc ?_ _)); exact BK134.out) hb); have n2_ := Aside0.mk (below_step (by repeat (first | (with_reducible first | exact HB.out | apply below_alloc | apply pw_below_drewN | apply below_drew1 | refine below_set ?_ GE134.out) | exact HB.out)) hb); clear BK134; clear HB; have HO138 := n0_; have BK134 := n1_; have HB := n2_; clear n0_ n1_ n2_; clear hb ho11; obtain ⟨Ao12, co12, eo12⟩ := Kd.R_slice HO138.out; subst eo12) | ((with_reducible refine gate_callee (f := 32) rfl ?_); refine goesL_ (some 14) rfl rfl Tryd.func32 (by kernel_rfl) rfl #[.slice Ao12 y136.length co12] rfl (by (try simp only [List.map_toArray, List.map_cons, List.map_nil]); first | done | rfl | (simp only [List.length_drop, List.length_take]; rfl)) ?_; (with_reducible refine (record_numbers.calls k _ _ y136 t139 _ ?side1 ?side2 A4.out).mono ?_); (case side1 => repeat (first | exact (Kd.R_reads' HO138.out).2.2 | (with_reducible refine Kd.C_alloc ?_ _) | (with_reducible refine Kd.C_drewN ?_ _) | (with_reducible refine Kd.C_drew ?_))); (case side2 => exact (Kd.R_reads' HO138.out).2.1); rintro e w13 ⟨v140, rfl, ho0, hb⟩; refine ⟨_, rfl, ?_⟩; have n0_ := Aside0.mk (Kd.R_below (by (with_reducible repeat (first | apply Kd.R_alloc | apply Kd.R_drewN | apply Kd.R_drew)); exact HO138.out) hb); have n1_ := Aside0.mk (Kd.R_lower ho0 (below_size (by repeat (first | (with_reducible first | exact HB.out | apply below_alloc | apply pw_below_drewN | apply below_drew1 | refine below_set ?_ GE134.out) | exact HB.out)))); have n2_ := Aside0.mk (blk_below (g := gb134) (o := .cells #[.int .i64 a0_0, .int .i64 a0_1, .int .i64 a0_2] 23 (0, 0)) (by (with_reducible repeat (first | refine blk_drewN ?_ _ | refine blk_drew ?_ | refine blk_alloc ?_ _)); exact BK134.out) hb); have n3_ := Aside0.mk (below_step (by repeat (first | (with_reducible first | exact HB.out | apply below_alloc | apply pw_below_drewN | apply below_drew1 | refine below_set ?_ GE134.out) | exact HB.out)) hb); clear HO138; clear BK134; clear HB; have HO138 := n0_; have HO141 := n1_; have BK134 := n2_; have HB := n3_; clear n0_ n1_ n2_ n3_; (try clear hb); (try clear hb2); (try clear hk); (try clear hi); (try clear ho0); obtain ⟨Ao14, co14, eo14⟩ := Kd.R_slice HO141.out; subst eo14) | ((with_reducible refine gate_callee (f := 31) rfl ?_); refine goesL_ (some 15) rfl rfl Tryd.func31 (by kernel_rfl) rfl #[.slice Ao14 t139.length co14] rfl (by (try simp only [List.map_toArray, List.map_cons, List.map_nil]); first | done | rfl | (simp only [List.length_drop, List.length_take]; rfl)) ?_; (with_reducible refine (record_sector.calls k _ _ t139 t142 t143 _ ?side1 ?side2 A5.out).mono ?_); (case side1 => repeat (first | exact (Kd.R_reads' HO141.out).2.2 | (with_reducible refine Kd.C_alloc ?_ _) | (with_reducible refine Kd.C_drewN ?_ _) | (with_reducible refine Kd.C_drew ?_))); (case side2 => exact (Kd.R_reads' HO141.out).2.1); rintro e w15 ⟨v144, rfl, ho0, hb⟩; refine ⟨_, rfl, ?_⟩; have n0_ := Aside0.mk (Kd.R_below (by (with_reducible repeat (first | apply Kd.R_alloc | apply Kd.R_drewN | apply Kd.R_drew)); exact HO138.out) hb); have n1_ := Aside0.mk (Kd.R_below (by (with_reducible repeat (first | apply Kd.R_alloc | apply Kd.R_drewN | apply Kd.R_drew)); exact HO141.out) hb); have n2_ := Aside0.mk (Kd.R_lower ho0 (below_size (by repeat (first | (with_reducible first | exact HB.out | apply below_alloc | apply pw_below_drewN | apply below_drew1 | refine below_set ?_ GE134.out) | exact HB.out)))); have n3_ := Aside0.mk (blk_below (g := gb134) (o := .cells #[.int .i64 a0_0, .int .i64 a0_1, .int .i64 a0_2] 23 (0, 0)) (by (with_reducible repeat (first | refine blk_drewN ?_ _ | refine blk_drew ?_ | refine blk_alloc ?_ _)); exact BK134.out) hb); have n4_ := Aside0.mk (below_step (by repeat (first | (with_reducible first | exact HB.out | apply below_alloc | apply pw_below_drewN | apply below_drew1 | refine below_set ?_ GE134.out) | exact HB.out)) hb); clear HO138; clear HO141; clear BK134; clear HB; have HO138 := n0_; have HO141 := n1_; have HO145 := n2_; have BK134 := n3_; have HB := n4_; clear n0_ n1_ n2_ n3_ n4_; (try clear hb); (try clear hb2); (try clear hk); (try clear hi); (try clear ho0)))
    go_ret2
    exact ⟨_, by first | rfl | (simp [errW_none, errW_some] <;> rfl) | (simp [*, errW_none, errW_some] <;> rfl), by (with_reducible repeat (first | apply Kd.R_alloc | apply Kd.R_drewN | apply Kd.R_drew)); exact HO145.out, by repeat (first | (with_reducible first | exact HB.out | apply below_alloc | apply pw_below_drewN | apply below_drew1 | refine below_set ?_ GE134.out) | exact HB.out)⟩
  · replace c3 := Bool.eq_false_iff.mpr c3
    subst c3
    have H1 : (some (([] : List Int), 2)) = some (r1, r2) := by rw [if_neg (show ¬ (false = true) by decide)] at H; exact H
    clear H
    have H := H1
    clear H1
    simp only [Option.some.injEq, Prod.mk.injEq] at H
    obtain ⟨rfl, rfl⟩ := H
    go_enter Tryd.func13, Tryd.ntmps13
    go_wp2_with (first | ((with_reducible refine gate_dst (N := 1) rfl ?_); refine box_event ?hg (N := 1) ?hd (cs := #[.int .i64 a0_0, .int .i64 a0_1, .int .i64 a0_2]) (t := 23) ?hr ?_; (case hd => rfl); (case hg => rfl); (case hr => first | (go_simp; done) | (go_simp; rfl)); intro gb134 hg w16 hbox hb; have n0_ := Aside0.mk (below_step (by repeat (first | (with_reducible first | exact HB.out | apply below_alloc | apply pw_below_drewN | apply below_drew1) | exact HB.out)) hb); have n1_ := Aside0.mk (hbox); have n2_ := Aside0.mk ((by rw [hg]; exact (below_size (by repeat (first | (with_reducible first | exact HB.out | apply below_alloc | apply pw_below_drewN | apply below_drew1) | exact HB.out))) : w.heap.size ≤ gb134)); have n3_ := Aside0.mk ((by rw [hg]; exact (below_size (by repeat (first | (with_reducible first | exact HB.out | apply below_alloc | apply pw_below_drewN | apply below_drew1) | exact HB.out))) : w.heap.size ≤ gb134)); clear HB; have HB := n0_; have BK134 := n1_; have GW134 := n2_; have GE134 := n3_; clear n0_ n1_ n2_ n3_; clear hb hbox hg; have hcz17_0 : w16.cell? ⟨gb134, 0, none⟩ = some (.int .i64 a0_0) := (blk_cell BK134.out 0).trans rfl; have hcz17_1 : w16.cell? ⟨gb134, 1, none⟩ = some (.int .i64 a0_1) := (blk_cell BK134.out 1).trans rfl; have hcz17_2 : w16.cell? ⟨gb134, 2, none⟩ = some (.int .i64 a0_2) := (blk_cell BK134.out 2).trans rfl; have hfz17_0 := blk_frozen BK134.out 0; have hfz17_1 := blk_frozen BK134.out 1; have hfz17_2 := blk_frozen BK134.out 2) | ((with_reducible refine gate_callee (f := 30) rfl ?_); refine goesL_ (some 5) rfl rfl Tryd.func30 (by kernel_rfl) rfl #[.agg #[.int .i64 a0_0, .int .i64 a0_1, .int .i64 a0_2]] rfl (by (try simp only [List.map_toArray, List.map_cons, List.map_nil]); first | done | rfl | (simp only [List.length_drop, List.length_take]; rfl)) ?_; (with_reducible refine (record_Super_right.calls k a0_0 a0_1 a0_2 false _ A2.out).mono ?_); rintro e w18 ⟨rfl, hb⟩; refine ⟨_, rfl, ?_⟩; have n0_ := Aside0.mk (blk_below (g := gb134) (o := .cells #[.int .i64 a0_0, .int .i64 a0_1, .int .i64 a0_2] 23 (0, 0)) (by (with_reducible repeat (first | refine blk_drewN ?_ _ | refine blk_drew ?_ | refine blk_alloc ?_ _)); exact BK134.out) hb); have n1_ := Aside0.mk (below_step (by repeat (first | (with_reducible first | exact HB.out | apply below_alloc | apply pw_below_drewN | apply below_drew1 | refine below_set ?_ GE134.out) | exact HB.out)) hb); clear BK134; clear HB; have BK134 := n0_; have HB := n1_; clear n0_ n1_; (try clear hb); (try clear hb2); (try clear hk); (try clear hi)))
    go_ret2
    exact ⟨_, by first | rfl | (simp [errW_none, errW_some] <;> rfl) | (simp [*, errW_none, errW_some] <;> rfl), by first | exact Kd.R_nil _ _ _ _ _ | exact Kd.N_nil _ _ _ _ _ | exact Kd.V_nil _ _ _ _ _ | exact Kd.Q_nil _ _ _ _ _ | exact Kd.S_nil _ _ _ _ _, by repeat (first | (with_reducible first | exact HB.out | apply below_alloc | apply pw_below_drewN | apply below_drew1 | refine below_set ?_ GE134.out) | exact HB.out)⟩
end
end Go.Proofs.YtmkkeccmjejfnaaDoor.PA
namespace Go.Proofs.YtmkkeccmjejfnaaDoor.PA
section

open Go.RowKit Go.Proofs.YtmkkeccmjejfnaaDoorW.PrintWords Go.Proofs.YtmkkeccmjejfnaaDoorW.PrintLast Go.Proofs.YtmkkeccmjejfnaaDoorW.PrintMore
attribute [local go_sem] pr_leq pr_geq pr_gtr max2_int min2_int max_two min_two max_three min_three max_four min_four
set_option linter.unusedVariables false
set_option linter.unusedSimpArgs false
def bytes_trimRightByte.l0 : Nat → List Int → Int → Option (List Int)
  | 0, _, _ => none
  | k + 1, x0, x1 => if (x0.length : Int) > 0 then (if 0 ≤ (wrap64 ((x0.length : Int) - 1)) then (if (wrap64 ((x0.length : Int) - 1)) < (x0.length : Int) then (if (rd x0 (wrap64 ((x0.length : Int) - 1))) = x1 then (if (wrap64 ((x0.length : Int) - 1)) ≤ (x0.length : Int) then (bytes_trimRightByte.l0 k (x0.take ((wrap64 ((x0.length : Int) - 1)) : Int).toNat) x1) else (none)) else (some x0)) else (none)) else (none)) else (some x0)
def bytes_trimRightByte.f (k : Nat) (l0 : List Int) (a1 : Int) : Option (List Int) := bytes_trimRightByte.l0 k l0 a1
set_option maxHeartbeats 8000000 in
set_option maxRecDepth 100000 in
theorem bytes_trimRightByte.calls (k : Nat) (P0_ : Nat → Prop) (A0 : Option Addr) (c0 : Nat) (l0 : List Int) (a1 : Int) (r : List Int) (w : World) (hs0 : Kd.V (Kd.int .u8) 5 w w.heap.size (fun k_ => P0_ k_) (.slice A0 l0.length c0) l0) (h : bytes_trimRightByte.f k l0 a1 = some r) :
    Calls Tryd.prog 72 #[.slice A0 l0.length c0, .int .u8 a1] w fun e w' => ∃ v0_ : Value, e = .returned (v0_) ∧ Kd.V (Kd.int .u8) 5 w' w.heap.size (fun k_ => (P0_ k_ ∨ w.heap.size ≤ k_)) v0_ r ∧ Below w.heap.size w w' := by
  have HO0 := Aside0.mk (show Kd.V (Kd.int .u8) 5 w w.heap.size (fun k_ => (P0_ k_ ∨ w.heap.size ≤ k_)) (.slice A0 l0.length c0) l0 from Kd.V_mono hs0 (fun k_ hk => .inl hk))
  have HB := Aside0.mk (Below.refl w.heap.size w)
  have H : (bytes_trimRightByte.l0 k l0 a1) = some r := h
  clear h
  have H' := Aside0.mk H
  clear H
  go_enter Tryd.func72, Tryd.ntmps72
  go_wp2
  go_loopg [0] k (fun kq v0 w' => ∃ (x0_1 : List Int), Aside0 (bytes_trimRightByte.l0 kq x0_1 a1 = some r) ∧ Aside0 (kq ≤ k) ∧ Aside0 (Kd.V (Kd.int .u8) 5 w' w.heap.size (fun k_ => (P0_ k_ ∨ w.heap.size ≤ k_)) v0 x0_1) ∧ Aside0 (Below w.heap.size w w'))
  case atStart => exact ⟨(l0), H', ⟨Nat.le_refl _⟩, ⟨by (with_reducible repeat (first | apply Kd.V_alloc | apply Kd.V_drewN | apply Kd.V_drew)); exact HO0.out⟩, ⟨by repeat (first | (with_reducible first | exact HB.out | apply below_alloc | apply pw_below_drewN | apply below_drew1) | exact HB.out)⟩⟩
  case round =>
    clear H'
    try clear p2
    obtain ⟨x0_1, HA, HK1, HO_0, HB⟩ := hrel
    cases gk with
    | zero => exact absurd HA.out (by simp [bytes_trimRightByte.l0])
    | succ k1 =>
      have H := HA.out
      clear HA
      simp only [bytes_trimRightByte.l0] at H
      by_cases c3 : (x0_1.length : Int) > 0
      · rw [if_pos c3] at H
        have c3b0 : decide (0 < (x0_1.length : Int)) = true := decide_eq_true c3
        have c3b1 : decide (0 < x0_1.length) = true := decide_eq_true (by omega)
        clear c3
        obtain ⟨ji4, hji4⟩ : ∃ j_ : Int, (wrap64 ((x0_1.length : Int) - 1)) = j_ := ⟨_, rfl⟩
        replace H : (if 0 ≤ (ji4) then (if (ji4) < (x0_1.length : Int) then (if (rd x0_1 (ji4)) = a1 then (if (ji4) ≤ (x0_1.length : Int) then (bytes_trimRightByte.l0 k1 (x0_1.take ((ji4) : Int).toNat) a1) else (none)) else (some x0_1)) else (none)) else (none)) = some r := by first | (rw [hji4] at H; exact H) | (simp only [hji4] at H ⊢; exact H)
        have hji4w : (IntKind.i64.wrap ((x0_1.length : Int) - 1)) = ji4 := (i64_w _).trans hji4
        by_cases c5 : 0 ≤ (ji4)
        · rw [if_pos c5] at H
          have c5b0 : decide (0 ≤ (ji4)) = true := decide_eq_true c5
          clear c5
          by_cases c6 : (ji4) < (x0_1.length : Int)
          · rw [if_pos c6] at H
            have c6b0 : decide ((ji4) < (x0_1.length : Int)) = true := decide_eq_true c6
            clear c6
            by_cases c7 : (rd x0_1 (ji4)) = a1
            · rw [if_pos c7] at H
              have c7b0 : ((rd x0_1 (ji4)) == a1) = true := beq_iff_eq.mpr c7
              have c7b1 : ((rd x0_1 (ji4)) != a1) = false := bne_eq_false_iff_eq.mpr c7
              clear c7
              have c8b0 := eq_true (of_decide_eq_true (by first | (with_reducible assumption) | assumption) : 0 ≤ (ji4))
              by_cases c9 : (ji4) ≤ (x0_1.length : Int)
              · rw [if_pos c9] at H
                have c9b0 := eq_true c9
                have c9b1 : decide ((ji4) ≤ (x0_1.length : Int)) = true := decide_eq_true c9
                clear c9
                obtain ⟨y147, hy147⟩ : ∃ y_ : List Int, y_ = (x0_1.take ((ji4) : Int).toNat) := ⟨_, rfl⟩
                replace H : (bytes_trimRightByte.l0 k1 y147 a1) = some r := by first | (rw [hy147]; with_reducible exact H) | (have H2_ := (Option.bind_some _ _).symm.trans H; rw [hy147]; with_reducible exact H2_) | (have H2_ := (Option.bind_some _ _).symm.trans H; with_reducible exact H2_) | with_reducible exact H | (rw [hy147]; exact H) | exact H
                have Ny147 := Aside0.mk hy147
                clear hy147
                have H' := Aside0.mk H
                clear H
                obtain ⟨Ao10, co10, eo10⟩ := Kd.V_slice HO_0.out
                subst eo10
                have p146 : 0 ≤ ((ji4) : Int) := of_decide_eq_true (by first | (with_reducible assumption) | assumption)
                have q146 : (ji4) < (x0_1.length : Int) := of_decide_eq_true (by first | (with_reducible assumption) | assumption)
                obtain ⟨ad146, e146, hx146_0⟩ := Kd.at_int (Kd.V_reads' HO_0.out).2.2 (ji4) p146 q146
                cases e146
                replace p146 := eq_true p146
                replace q146 := eq_true q146
                have q11 : ((ji4) : Int) ≤ ((x0_1.length : Int) : Int) := of_decide_eq_true (by first | (with_reducible assumption) | assumption)
                obtain ⟨i011, hi011, _, hsz11, _⟩ := info_parts info5
                have hroom11 : x0_1.length ≤ co10 := (Kd.V_reads' HO_0.out).2.1
                have hC11 : Kd.F (Kd.int .u8) _ _ (some ad146) x0_1.length x0_1 := (Kd.V_at (base := w.heap.size) HO_0.out).2.2
                have hcut11 := cut_to (P := Tryd.prog) 36 5 .i64 Tryd.underlying36 hi011 (some ad146) x0_1.length co10 (ji4) (of_decide_eq_true (by first | (with_reducible assumption) | assumption)) q11 hroom11
                have hr11 := Kd.F_take (m := ((ji4) : Int).toNat) hC11 (by omega)
                have hy11 : y147.length = ((ji4) : Int).toNat := (by rw [Ny147.out, List.length_take]; omega)
                rw [← Ny147.out] at hr11
                rw [← hy11] at hcut11
                have HO151 := Aside0.mk (show Kd.V (Kd.int .u8) 5 _ w.heap.size _ (.slice (some ad146) y147.length co10) y147 from Kd.V_mk (by omega) hr11)
                have HC151 := Aside0.mk (show y147.length ≤ co10 from by omega)
                clear hr11 hC11 hroom11 hi011 hsz11
                have KY11 := Aside0.mk hy11
                clear hy11
                replace q11 := eq_true q11
                go_wp2
                go_roundg k1
                case measure => have := HK1.out; omega
                case rel => exact ⟨(y147), H', ⟨by have := HK1.out; omega⟩, ⟨by (with_reducible repeat (first | apply Kd.V_alloc | apply Kd.V_drewN | apply Kd.V_drew)); exact HO151.out⟩, ⟨by repeat (first | (with_reducible first | exact HB.out | apply below_alloc | apply pw_below_drewN | apply below_drew1) | exact HB.out)⟩⟩
              · rw [if_neg c9] at H
                exact absurd H (by simp)
            · rw [if_neg c7] at H
              have c7b0 : ((rd x0_1 (ji4)) == a1) = false := beq_eq_false_iff_ne.mpr c7
              have c7b1 : ((rd x0_1 (ji4)) != a1) = true := bne_iff_ne.mpr c7
              obtain rfl := Option.some.inj H
              obtain ⟨Ao12, co12, eo12⟩ := Kd.V_slice HO_0.out
              subst eo12
              have p146 : 0 ≤ ((ji4) : Int) := of_decide_eq_true (by first | (with_reducible assumption) | assumption)
              have q146 : (ji4) < (x0_1.length : Int) := of_decide_eq_true (by first | (with_reducible assumption) | assumption)
              obtain ⟨ad146, e146, hx146_0⟩ := Kd.at_int (Kd.V_reads' HO_0.out).2.2 (ji4) p146 q146
              cases e146
              replace p146 := eq_true p146
              replace q146 := eq_true q146
              go_wp2
              go_ret
              exact ⟨_, by first | rfl | (simp [errW_none, errW_some] <;> rfl) | (simp only [← hji4]; first | rfl | (simp [errW_none, errW_some] <;> rfl)) | (simp [*, errW_none, errW_some] <;> rfl), by (with_reducible repeat (first | apply Kd.V_alloc | apply Kd.V_drewN | apply Kd.V_drew)); exact HO_0.out, by repeat (first | (with_reducible first | exact HB.out | apply below_alloc | apply pw_below_drewN | apply below_drew1) | exact HB.out)⟩
          · rw [if_neg c6] at H
            exact absurd H (by simp)
        · rw [if_neg c5] at H
          exact absurd H (by simp)
      · rw [if_neg c3] at H
        have c3b0 : decide (0 < (x0_1.length : Int)) = false := decide_eq_false c3
        have c3b1 : decide (0 < x0_1.length) = false := decide_eq_false (by omega)
        clear c3
        obtain rfl := Option.some.inj H
        obtain ⟨Ao13, co13, eo13⟩ := Kd.V_slice HO_0.out
        subst eo13
        go_wp2
        go_ret
        exact ⟨_, by first | rfl | (simp [errW_none, errW_some] <;> rfl) | (simp [*, errW_none, errW_some] <;> rfl), by (with_reducible repeat (first | apply Kd.V_alloc | apply Kd.V_drewN | apply Kd.V_drew)); exact HO_0.out, by repeat (first | (with_reducible first | exact HB.out | apply below_alloc | apply pw_below_drewN | apply below_drew1) | exact HB.out)⟩
end
end Go.Proofs.YtmkkeccmjejfnaaDoor.PA
namespace Go.Proofs.YtmkkeccmjejfnaaDoor.PA
section

open Go.RowKit Go.Proofs.YtmkkeccmjejfnaaDoorW.PrintWords Go.Proofs.YtmkkeccmjejfnaaDoorW.PrintLast Go.Proofs.YtmkkeccmjejfnaaDoorW.PrintMore
attribute [local go_sem] pr_leq pr_geq pr_gtr max2_int min2_int max_two min_two max_three min_three max_four min_four
set_option linter.unusedVariables false
set_option linter.unusedSimpArgs false
def someB (l : List Int) : Bool := l.any (fun x => x != 0)
def lenV : Value → Nat
  | .slice _ n _ => n
  | _ => 0
set_option maxHeartbeats 4000000 in
set_option maxRecDepth 100000 in
theorem trimLeftW (A0 : Option Addr) (c0 : Nat) (l0 : List Int) (w : World) (hr0 : Kd.C (Kd.int .u8) w A0 l0.length l0) (hc0 : l0.length ≤ c0) (hl : l0.length ≤ 140737488355328) :
    Calls Tryd.prog 71 #[.slice A0 l0.length c0, .int .u8 0] w fun e w' => ∃ A' m c', e = .returned (.slice A' m c') ∧ decide (0 < m) = someB l0 ∧ Below w.heap.size w w' := by
  have R0 := Aside0.mk hr0
  have C0 := Aside0.mk hc0
  have HL := Aside0.mk hl
  clear hr0 hc0 hl
  go_enter Tryd.func71, Tryd.ntmps71
  go_wp2_with fail
  go_loopw [0] (fun v0 w' => ∃ (xs : List Int) (A : Option Addr) (c : Nat), v0 = .slice A xs.length c ∧ Aside0 (xs.length ≤ c) ∧ Aside0 (Kd.C (Kd.int .u8) w' A xs.length xs) ∧ Aside0 (someB l0 = someB xs) ∧ Aside0 (xs.length ≤ l0.length) ∧ Aside0 (Below w.heap.size w w')) (fun v0 _ => lenV v0)
  case atStart => exact ⟨l0, A0, c0, rfl, C0, R0, ⟨rfl⟩, ⟨Nat.le_refl _⟩, ⟨Below.refl _ _⟩⟩
  case round =>
    obtain ⟨xs, A, c, rfl, XC, XR, XS, XL, XB⟩ := hrel
    match xs, XC, XR, XS, XL with
    | [], XC, XR, XS, XL =>
      go_wp2_with fail
      go_ret
      exact ⟨_, _, _, rfl, by rw [XS.out]; rfl, XB.out⟩
    | x :: t, XC, XR, XS, XL =>
      have p1 : (0 : Int) < ((x :: t).length : Int) := by rw [List.length_cons]; omega
      obtain ⟨i1, hi1, _, hsz1, _⟩ := info_parts info5
      obtain ⟨A1, hcut1, hA1, hC1⟩ := print_drop_of (P := Tryd.prog) (Value.int .u8) 0 36 5 .i64 Tryd.underlying36 hi1 hsz1 A c (x :: t) 1 (by omega) (by omega) XC.out
      obtain ⟨ad, e, hx⟩ := Kd.at_int XR.out 0 (by omega) (by omega)
      cases e
      have e0 : rd (x :: t) 0 = x := rfl
      have e1 : ad.add (0 : Int).toNat = ad := by unfold Addr.add; simp
      rw [e0, e1] at hx
      have HR1 := Aside0.mk (Kd.C_of_reads (h1 := fun _ => rfl) (hA1 _ (Kd.reads_of_C (d := (0 : Int)) XR.out)))
      have HC1 := Aside0.mk hC1
      obtain ⟨n, hn⟩ : ∃ n, n = (x :: t).length := ⟨_, rfl⟩
      have hN := Aside0.mk hn
      have hn1 : t.length + 1 = n := by rw [hn]; rfl
      have ht : ((x :: t).drop (1 : Int).toNat).length = t.length := rfl
      rw [ht] at hcut1
      rw [← hn] at hcut1 p1 ⊢
      clear hA1 hC1 hn ht e0 e1
      have d1 : decide (0 < (n : Int)) = true := decide_eq_true p1
      have d2 : ((n : Int) == 0) = false := beq_eq_false_iff_ne.2 (by omega)
      have N1 := Aside0.mk hn1
      by_cases h0 : x = 0
      · have b0 : (x == 0) = true := by rw [h0]; rfl
        have X0 := Aside0.mk h0
        clear h0
        clear hn1
        go_wp2_with fail
        refine ⟨⟨t, A1, c - 1, rfl, ⟨HC1.out⟩, ⟨HR1.out⟩, ⟨?_⟩, ⟨?_⟩, XB⟩, ?_⟩
        · rw [XS.out, X0.out]
          unfold someB
          simp
        · have := XL.out
          simp at this
          omega
        · show t.length < n
          have := N1.out
          omega
      · have b0 : (x == 0) = false := by simpa using h0
        have XE : Aside0 (someB l0 = true) := ⟨by rw [XS.out]; unfold someB; simp [h0]⟩
        clear h0 hn1
        go_wp2_with fail
        go_ret
        exact ⟨_, _, _, rfl, by rw [XE.out]; exact decide_eq_true (by have := N1.out; omega), XB.out⟩
theorem trimR_tells (l : List Int) (hl : l.length ≤ 140737488355328) : ∀ (n k : Nat), n ≤ l.length → n < k → ∃ r, bytes_trimRightByte.l0 k (l.take n) 0 = some r ∧ r.length ≤ n ∧ someB r = someB (l.take n) := by
  intro n
  induction n with
  | zero =>
    intro k _ hk
    obtain ⟨k, rfl⟩ : ∃ m, k = m + 1 := ⟨k - 1, by omega⟩
    simp only [bytes_trimRightByte.l0]
    rw [List.take_zero, if_neg (by simp)]
    exact ⟨[], rfl, Nat.le_refl _, rfl⟩
  | succ n ih =>
    intro k hn hk
    obtain ⟨k, rfl⟩ : ∃ m, k = m + 1 := ⟨k - 1, by omega⟩
    have hlen : (l.take (n + 1)).length = n + 1 := by simp; omega
    have hw : wrap64 (((l.take (n + 1)).length : Int) - 1) = (n : Int) := by rw [hlen]; unfold wrap64; omega
    have hr : rd (l.take (n + 1)) (n : Int) = l[n] := by
      unfold rd
      rw [Int.toNat_natCast, List.getD_eq_getElem?_getD, List.getElem?_eq_getElem (by omega), Option.getD_some, List.getElem_take]
    have ht : l.take (n + 1) = l.take n ++ [l[n]] := List.take_succ_eq_append_getElem (by omega)
    simp only [bytes_trimRightByte.l0]
    rw [hw, hr, if_pos (by omega), if_pos (by omega), if_pos (by omega)]
    by_cases h0 : l[n] = 0
    · rw [if_pos h0, if_pos (by omega), Int.toNat_natCast, List.take_take, Nat.min_eq_left (by omega)]
      obtain ⟨r, e, h1, h2⟩ := ih k (by omega) (by omega)
      refine ⟨r, e, by omega, ?_⟩
      rw [h2, ht, h0]
      simp [someB]
    · rw [if_neg h0]
      exact ⟨_, rfl, by omega, rfl⟩
theorem trimR_val (l : List Int) (hl : l.length ≤ 140737488355328) : ∃ r, bytes_trimRightByte.f (l.length + 1) l 0 = some r ∧ r.length ≤ l.length ∧ someB r = someB l := by
  have h := trimR_tells l hl l.length (l.length + 1) (Nat.le_refl _) (by omega)
  rw [List.take_length] at h
  exact h
set_option maxHeartbeats 4000000 in
set_option maxRecDepth 100000 in
theorem trimW (A0 : Option Addr) (c0 : Nat) (l0 : List Int) (w : World) (hr0 : Kd.C (Kd.int .u8) w A0 l0.length l0) (hc0 : l0.length ≤ c0) (hl : l0.length ≤ 140737488355328) :
    Calls Tryd.prog 67 #[.slice A0 l0.length c0, .string ⟨#[0]⟩] w fun e w' => ∃ A' m c', e = .returned (.slice A' m c') ∧ decide (0 < m) = someB l0 ∧ Below w.heap.size w w' := by
  by_cases h0 : l0.length = 0
  · obtain rfl := List.length_eq_zero_iff.1 h0
    clear h0
    go_enter Tryd.func67, Tryd.ntmps67
    go_wp2_with fail
    go_ret
    exact ⟨_, _, _, rfl, rfl, Below.refl _ _⟩
  · obtain ⟨r, e1, h1, h2⟩ := trimR_val l0 hl
    have TR := fun (W : World) (hb : Below w.heap.size w W) => Aside0.mk (bytes_trimRightByte.calls (l0.length + 1) (fun k => k < W.heap.size) A0 c0 l0 0 r W (Kd.V_mk hc0 (Kd.C_F (Kd.heap_int .u8) (Kd.C_below hr0 hb))) e1)
    have RL := Aside0.mk (Nat.le_trans h1 hl)
    have RS := Aside0.mk h2
    have d1 : ((l0.length : Int) == 0) = false := beq_eq_false_iff_ne.2 (by omega)
    clear e1 h1 h2 h0 hr0 hc0 hl
    go_enter Tryd.func67, Tryd.ntmps67
    go_wp2_with fail
    · have z0 : ((⟨#[0]⟩ : ByteArray)[0]'(by decide)) = (0 : UInt8) := rfl
      go_region_held (fun _ => True) (first | exact trivial | fail)
        (first
          | (go_at_call 72; refine (TR _ (Below.drew (Below.refl _ _))).out.mono ?_; rintro e w1 ⟨v, rfl, hV, hB⟩; obtain ⟨A1, c1, rfl⟩ := Kd.V_slice hV; obtain ⟨q1, q2, q3⟩ := Kd.V_reads' hV; have BB := Aside0.mk (Below.trans (Below.drew (Below.refl _ w)) (hB.mono (Nat.le_refl _))); have RC := Aside0.mk q3; have CC := Aside0.mk q2; clear q1 q2 q3 hV hB)
          | (go_at_call 71; refine (trimLeftW A1 c1 r _ RC.out CC.out RL.out).mono ?_; rintro e w2 ⟨A2, m, c2, rfl, hm, hB⟩; have BC := Aside0.mk (BB.out.trans (hB.mono BB.out.size)); have HM := Aside0.mk hm; clear hB hm)
          | fail)
      all_goals
        go_wp2
        go_ret
        exact ⟨_, _, _, rfl, by rw [HM.out, RS.out], BC.out⟩
end
end Go.Proofs.YtmkkeccmjejfnaaDoor.PA
namespace Go.Proofs.YtmkkeccmjejfnaaDoor.PA
section

open Go.RowKit Go.Proofs.YtmkkeccmjejfnaaDoorW.PrintWords Go.Proofs.YtmkkeccmjejfnaaDoorW.PrintLast Go.Proofs.YtmkkeccmjejfnaaDoorW.PrintMore
attribute [local go_sem] pr_leq pr_geq pr_gtr max2_int min2_int max_two min_two max_three min_three max_four min_four
set_option linter.unusedVariables false
set_option linter.unusedSimpArgs false
theorem cutD (A : Option Addr) (c : Nat) (l : List Int) (j : Int) (n : Nat) (hj : j = (n : Int)) (hn : n ≤ l.length) (hc : l.length ≤ c) :
    ∃ (d : List Int) (A' : Option Addr) (c' : Nat), Aside0 (d = l.drop n) ∧ (∀ W : World, (Instr.slice 36 (.slice A l.length c) (some (.int .i64 j)) none none).run Tryd.prog W = .ok (.slice A' d.length c') W) ∧
      Aside0 (∀ w : World, Kd.C (Kd.int .u8) w A l.length l → Kd.C (Kd.int .u8) w A' d.length d) ∧ Aside0 (d.length ≤ c') := by
  subst hj
  obtain ⟨i1, hi1, _, hsz1, _⟩ := info_parts info5
  obtain ⟨A', h1, h2, h3⟩ := print_drop_of (P := Tryd.prog) (Value.int .u8) 0 36 5 .i64 Tryd.underlying36 hi1 hsz1 A c l (n : Int) (by omega) (by omega) hc
  rw [Int.toNat_natCast] at h1 h2 h3
  exact ⟨_, A', _, ⟨rfl⟩, h1, ⟨fun w h => Kd.C_of_reads (h1 := fun _ => rfl) (h2 _ (Kd.reads_of_C (d := (0 : Int)) h))⟩, ⟨h3⟩⟩
theorem cutT (A : Option Addr) (c : Nat) (l : List Int) (j : Int) (n : Nat) (hj : j = (n : Int)) (hn : n ≤ l.length) (hc : l.length ≤ c) :
    ∃ (d : List Int), Aside0 (d = l.take n) ∧ (∀ W : World, (Instr.slice 36 (.slice A l.length c) none (some (.int .i64 j)) none).run Tryd.prog W = .ok (.slice A d.length c) W) ∧
      Aside0 (∀ w : World, Kd.C (Kd.int .u8) w A l.length l → Kd.C (Kd.int .u8) w A d.length d) ∧ Aside0 (d.length ≤ c) := by
  subst hj
  obtain ⟨i1, hi1, _, hsz1, _⟩ := info_parts info5
  obtain ⟨h1, h2, h3⟩ := print_take_of (P := Tryd.prog) (Value.int .u8) 0 36 5 .i64 Tryd.underlying36 hi1 hsz1 A c l (n : Int) (by omega) (by omega) hc
  rw [Int.toNat_natCast] at h1 h2 h3
  exact ⟨_, ⟨rfl⟩, h1, ⟨fun w h => Kd.C_of_reads (h1 := fun _ => rfl) (h2 _ (Kd.reads_of_C (d := (0 : Int)) h))⟩, ⟨h3⟩⟩
theorem cutM (A : Option Addr) (c : Nat) (l : List Int) (j k : Int) (n m : Nat) (hj : j = (n : Int)) (hk : k = (m : Int)) (hnm : n ≤ m) (hm : m ≤ l.length) (hc : l.length ≤ c) :
    ∃ (d : List Int) (A' : Option Addr) (c' : Nat), Aside0 (d = (l.take m).drop n) ∧ (∀ W : World, (Instr.slice 36 (.slice A l.length c) (some (.int .i64 j)) (some (.int .i64 k)) none).run Tryd.prog W = .ok (.slice A' d.length c') W) ∧
      Aside0 (∀ w : World, Kd.C (Kd.int .u8) w A l.length l → Kd.C (Kd.int .u8) w A' d.length d) ∧ Aside0 (d.length ≤ c') := by
  subst hj
  subst hk
  obtain ⟨i1, hi1, _, hsz1, _⟩ := info_parts info5
  obtain ⟨A', h1, h2, h3⟩ := print_mid_of (P := Tryd.prog) (Value.int .u8) 0 36 5 .i64 .i64 Tryd.underlying36 hi1 hsz1 A c l (n : Int) (m : Int) (by omega) (by omega) (by omega) hc
  rw [Int.toNat_natCast, Int.toNat_natCast] at h1 h2 h3
  exact ⟨_, A', _, ⟨rfl⟩, h1, ⟨fun w h => Kd.C_of_reads (h1 := fun _ => rfl) (h2 _ (Kd.reads_of_C (d := (0 : Int)) h))⟩, ⟨h3⟩⟩
def unframeL (l : List Int) : List Int × Int :=
  if l.length < 2 ∨ 60000 < l.length then ([], 2) else
  if ((l.length : Int) - 2 < getV (l.take 2)) ∨ someB (l.drop (2 + (getV (l.take 2)).toNat)) = true then ([], 2) else ((l.drop 2).take (getV (l.take 2)).toNat, 0)
def pack_Unframe.f (l0 : List Int) : Option (List Int × Int) := if byteB l0 = true ∧ l0.length ≤ 140737488355328 then some (unframeL l0) else none
set_option maxHeartbeats 2000000 in
set_option maxRecDepth 100000 in
theorem pack_Unframe.calls (A0 : Option Addr) (c0 : Nat) (l0 : List Int) (r1 : List Int) (r2 : Int) (w : World) (hr0 : Kd.C (Kd.int .u8) w A0 l0.length l0) (hc0 : l0.length ≤ c0) (h : pack_Unframe.f l0 = some (r1, r2)) :
    Calls Tryd.prog 54 #[.slice A0 l0.length c0] w fun e w' => ∃ v0_ : Value, e = .returned (.tuple #[v0_, .int .i64 r2]) ∧ Kd.R (Kd.int .u8) 5 w' w.heap.size (fun _ => True) v0_ r1 ∧ Below w.heap.size w w' := by
  unfold pack_Unframe.f at h
  split at h
  · rename_i hh
    obtain ⟨hb, hl⟩ := hh
    have h := Option.some.inj h
    have hby := byteB_iff.1 hb
    clear hb
    unfold unframeL at h
    by_cases h1 : l0.length < 2
    · rw [if_pos (.inl h1)] at h
      simp only [Prod.mk.injEq] at h
      obtain ⟨rfl, rfl⟩ := h
      have d1 : decide ((l0.length : Int) < 2) = true := decide_eq_true (by omega)
      clear hr0 hc0
      go_enter Tryd.func54, Tryd.ntmps54
      go_wp2_with fail
      go_ret2
      exact ⟨_, rfl, Kd.R_nil _ _ _ _ _, Below.refl _ _⟩
    have d1 : decide ((l0.length : Int) < 2) = false := decide_eq_false (by omega)
    by_cases h2 : 60000 < l0.length
    · rw [if_pos (.inr h2)] at h
      simp only [Prod.mk.injEq] at h
      obtain ⟨rfl, rfl⟩ := h
      have d2 : decide ((60000 : Int) < (l0.length : Int)) = true := decide_eq_true (by omega)
      clear hr0 hc0
      go_enter Tryd.func54, Tryd.ntmps54
      go_wp2_with fail
      go_ret2
      exact ⟨_, rfl, Kd.R_nil _ _ _ _ _, Below.refl _ _⟩
    have d2 : decide ((60000 : Int) < (l0.length : Int)) = false := decide_eq_false (by omega)
    rw [if_neg (by omega)] at h
    have HR := Aside0.mk hr0
    have HC := Aside0.mk hc0
    obtain ⟨t2, T2, hcut, TC, TL⟩ := cutT A0 c0 l0 2 2 rfl (by omega) hc0
    have hby2 : byteL t2 := by rw [T2.out]; exact byteL_take hby 2
    have hl2 : t2.length = 2 := by rw [T2.out, List.length_take]; omega
    have G := Aside0.mk (get_val t2 hby2 (by omega))
    have hg := getV_range t2 hby2
    rw [hl2] at hg
    rw [← T2.out] at h
    obtain ⟨n, hn⟩ : ∃ n : Nat, getV t2 = (n : Int) := ⟨(getV t2).toNat, by omega⟩
    rw [hn, Int.toNat_natCast] at h
    rw [hn] at G hg
    have hn6 : n ≤ 65535 := by omega
    have hw : IntKind.i64.wrap (n : Int) = (n : Int) := IntWalk.i64_in _ (by omega)
    have hlo : 2 ≤ l0.length := by omega
    have hhi : l0.length ≤ 60000 := by omega
    have HB := Aside0.mk hby
    clear hn hg hl2 hby2 hby hr0 hc0 h1 h2 hl
    by_cases h3 : (l0.length : Int) - 2 < (n : Int)
    · rw [if_pos (.inl h3)] at h
      simp only [Prod.mk.injEq] at h
      obtain ⟨rfl, rfl⟩ := h
      go_enter Tryd.func54, Tryd.ntmps54
      go_wp2_with fail
      refine (pack_get.calls 10 A0 c0 t2 _ w (TC.out _ HR.out) TL.out G.out).mono ?_
      rintro e w' ⟨rfl, hd⟩
      have HD := Aside0.mk hd.below
      clear hd
      go_wp2_with fail
      go_ret2
      exact ⟨_, rfl, Kd.R_nil _ _ _ _ _, HD.out⟩
    · have h4 : ¬ ((l0.length : Int) - 2 < (n : Int)) := h3
      have hnl : 2 + n ≤ l0.length := by omega
      obtain ⟨ld, Ad, cd, LD, hcd, DC, DL⟩ := cutD A0 c0 l0 (2 + (n : Int)) (2 + n) (by omega) hnl HC.out
      rw [← LD.out] at h
      have d4 : decide ((l0.length : Int) - 2 < (n : Int)) = false := decide_eq_false h3
      have DH : Aside0 (ld.length ≤ 140737488355328) := ⟨by rw [LD.out, List.length_drop]; omega⟩
      by_cases h5 : someB ld = true
      · rw [if_pos (.inr h5)] at h
        simp only [Prod.mk.injEq] at h
        obtain ⟨rfl, rfl⟩ := h
        have S5 := Aside0.mk h5
        clear h5 h4 h3
        go_enter Tryd.func54, Tryd.ntmps54
        go_wp2_with fail
        refine (pack_get.calls 10 A0 c0 t2 _ w (TC.out _ HR.out) TL.out G.out).mono ?_
        rintro e w1 ⟨rfl, hd⟩
        have HD := Aside0.mk hd.below
        clear hd
        go_wp2_with fail
        refine (trimW Ad cd ld w1 (DC.out _ (Kd.C_below HR.out HD.out)) DL.out DH.out).mono ?_
        rintro e w2 ⟨A', m, c', rfl, hm, hB⟩
        rw [S5.out] at hm
        have H2 := Aside0.mk (HD.out.trans (hB.mono HD.out.size))
        clear hB
        go_wp2_with fail
        go_ret2
        exact ⟨_, rfl, Kd.R_nil _ _ _ _ _, H2.out⟩
      · have h5' : someB ld = false := by simpa using h5
        rw [if_neg (by rw [h5']; simp; omega)] at h
        simp only [Prod.mk.injEq] at h
        obtain ⟨h6, rfl⟩ := h
        obtain ⟨lm, Am, cm, LM, hcm, MC, ML⟩ := cutM A0 c0 l0 2 (2 + (n : Int)) 2 (2 + n) rfl (by omega) (by omega) hnl HC.out
        have h7 : lm = r1 := by rw [LM.out, ← h6, List.drop_take]; congr 1; omega
        subst h7
        have MH : Aside0 (bytes_Clone.f lm = some lm) := ⟨by rw [bytes_Clone.f, if_pos]; rw [← h6, List.length_take]; omega⟩
        have S5 := Aside0.mk h5'
        clear h5 h5' h4 h3 h6
        go_enter Tryd.func54, Tryd.ntmps54
        go_wp2_with fail
        refine (pack_get.calls 10 A0 c0 t2 _ w (TC.out _ HR.out) TL.out G.out).mono ?_
        rintro e w1 ⟨rfl, hd⟩
        have HD := Aside0.mk hd.below
        clear hd
        go_wp2_with fail
        refine (trimW Ad cd ld w1 (DC.out _ (Kd.C_below HR.out HD.out)) DL.out DH.out).mono ?_
        rintro e w2 ⟨A', m, c', rfl, hm, hB⟩
        rw [S5.out] at hm
        have H2 := Aside0.mk (HD.out.trans (hB.mono HD.out.size))
        clear hB
        go_wp2_with fail
        refine (bytes_Clone.calls Am cm lm lm w2 (MC.out _ (Kd.C_below HR.out H2.out)) ML.out MH.out).mono ?_
        rintro e w3 ⟨v, rfl, hR, hB⟩
        have HR3 := Aside0.mk (Kd.R_lower hR H2.out.size)
        have H3 := Aside0.mk (H2.out.trans (hB.mono H2.out.size))
        clear hR hB
        go_wp2_with fail
        go_ret2
        exact ⟨_, rfl, HR3.out, H3.out⟩
  · cases h
end
end Go.Proofs.YtmkkeccmjejfnaaDoor.PA
namespace Go.Proofs.YtmkkeccmjejfnaaDoor.PA
section

open Go.RowKit Go.Proofs.YtmkkeccmjejfnaaDoorW.PrintWords Go.Proofs.YtmkkeccmjejfnaaDoorW.PrintLast Go.Proofs.YtmkkeccmjejfnaaDoorW.PrintMore
attribute [local go_sem] pr_leq pr_geq pr_gtr max2_int min2_int max_two min_two max_three min_three max_four min_four
set_option linter.unusedVariables false
set_option linter.unusedSimpArgs false
mutual
def pack_Decode.l0 : Nat → List Int → List (S77) → Option ((List (S77)) × Int)
  | 0, _, _ => none
  | k + 1, x0, x4 => if (x0.length : Int) > 0 then (if 0 < (x0.length : Int) then (if 1 ≤ (x0.length : Int) then ((some (x0.drop 1 : List Int)).bind fun y153 => (if (rd x0 0) = 1 then (pack_Decode.j1 k x4 (rd x0 0) y153 (decide ((y153.length : Int) ≥ 8))) else (pack_Decode.j1 k x4 (rd x0 0) y153 false))) else (none)) else (none)) else (some (x4, 0))
def pack_Decode.j1 : Nat → List (S77) → Int → List Int → Bool → Option ((List (S77)) × Int)
  | 0, _, _, _, _ => none
  | k + 1, x4, x5, x6, x16 => if x16 = true then (if 8 ≤ (x6.length : Int) then ((pack_get.f k (x6.take 8)).bind fun t163 => (if x4.length < 4398046511104 then ((some (x4 ++ [(⟨1, wrap64 (t163), (⟨#[]⟩ : ByteArray)⟩ : S77)] : List (S77))).bind fun y164 => (if (y164.length : Int) > 4000 then (some (([] : List (S77)), 2)) else (pack_Decode.l0 k (x6.drop 8) y164))) else (none))) else (none)) else (if x5 = 2 then (pack_Decode.j2 k x4 x6 (decide ((x6.length : Int) ≥ 2))) else (pack_Decode.j2 k x4 x6 false))
def pack_Decode.j2 : Nat → List (S77) → List Int → Bool → Option ((List (S77)) × Int)
  | 0, _, _, _ => none
  | k + 1, x4, x6, x34 => if x34 = true then (if 2 ≤ (x6.length : Int) then ((pack_get.f k (x6.take 2)).bind fun t177 => (if (wrap64 (t177)) > 50000 then (pack_Decode.j3 k x4 x6 (wrap64 (t177)) true) else (pack_Decode.j3 k x4 x6 (wrap64 (t177)) (decide ((wrap64 (t177)) > (wrap64 ((x6.length : Int) - 2))))))) else (none)) else (some (([] : List (S77)), 2))
def pack_Decode.j3 : Nat → List (S77) → List Int → Int → Bool → Option ((List (S77)) × Int)
  | 0, _, _, _, _ => none
  | k + 1, x4, x6, x7, x54 => if x54 = true then (some (([] : List (S77)), 2)) else (if 2 ≤ (wrap64 (2 + x7)) then (if (wrap64 (2 + x7)) ≤ (x6.length : Int) then (if x4.length < 4398046511104 then ((some (x4 ++ [(⟨2, 0, strOfNums ((x6.take ((wrap64 (2 + x7)) : Int).toNat).drop 2)⟩ : S77)] : List (S77))).bind fun y183 => (if 0 ≤ (wrap64 (2 + x7)) then (if (y183.length : Int) > 4000 then (some (([] : List (S77)), 2)) else (pack_Decode.l0 k (x6.drop ((wrap64 (2 + x7)) : Int).toNat) y183)) else (none))) else (none)) else (none)) else (none))
end
def pack_Decode.f (k : Nat) (l0 : List Int) : Option ((List (S77)) × Int) := pack_Decode.l0 k l0 ([] : List (S77))
set_option maxHeartbeats 8000000 in
set_option maxRecDepth 100000 in
theorem pack_Decode.calls (k : Nat) (P0_ : Nat → Prop) (A0 : Option Addr) (c0 : Nat) (l0 : List Int) (r1 : List (S77)) (r2 : Int) (w : World) (hs0 : Kd.V (Kd.int .u8) 5 w w.heap.size (fun k_ => P0_ k_) (.slice A0 l0.length c0) l0) (h : pack_Decode.f k l0 = some (r1, r2)) :
    Calls Tryd.prog 63 #[.slice A0 l0.length c0] w fun e w' => ∃ v0_ : Value, e = .returned (.tuple #[v0_, .int .i64 r2]) ∧ Kd.R k77 77 w' w.heap.size (fun k_ => (w.heap.size ≤ k_)) v0_ r1 ∧ Below w.heap.size w w' := by
  have hu77 := Tryd.underlying77
  have HO0 := Aside0.mk (show Kd.V (Kd.int .u8) 5 w w.heap.size (fun k_ => (P0_ k_ ∨ w.heap.size ≤ k_)) (.slice A0 l0.length c0) l0 from Kd.V_mono hs0 (fun k_ hk => .inl hk))
  have HB := Aside0.mk (Below.refl w.heap.size w)
  have H : (pack_Decode.l0 k l0 ([] : List (S77))) = some (r1, r2) := h
  clear h
  have H' := Aside0.mk H
  clear H
  go_enter Tryd.func63, Tryd.ntmps63
  go_wp2
  repeat (go_quiet (fail); try go_wp2)
  go_loopg [0, 4] k (fun kq v0 v4 w' => ∃ (x0_1 : List Int) (x4_1 : List (S77)), Aside0 (pack_Decode.l0 kq x0_1 x4_1 = some (r1, r2)) ∧ Aside0 (kq ≤ k) ∧ Aside0 (Kd.V (Kd.int .u8) 5 w' w.heap.size (fun k_ => (P0_ k_ ∨ w.heap.size ≤ k_) ∧ some k_ ≠ (v4 : Value).ownBlock) v0 x0_1) ∧ Aside0 (Kd.R k77 77 w' w.heap.size (fun k_ => (w.heap.size ≤ k_)) v4 x4_1) ∧ Aside0 (Below w.heap.size w w'))
  case atStart => exact ⟨(l0), (([] : List (S77))), H', ⟨Nat.le_refl _⟩, ⟨by (with_reducible repeat (first | apply Kd.V_alloc | apply Kd.V_drewN | apply Kd.V_drew)); exact Kd.V_mono HO0.out (fun _ hk => ⟨hk, (by simp [Value.ownBlock])⟩)⟩, ⟨by first | exact Kd.R_nil _ _ _ _ _ | exact Kd.N_nil _ _ _ _ _ | exact Kd.V_nil _ _ _ _ _ | exact Kd.Q_nil _ _ _ _ _ | exact Kd.S_nil _ _ _ _ _⟩, ⟨by repeat (first | (with_reducible first | exact HB.out | apply below_alloc | apply pw_below_drewN | apply below_drew1) | exact HB.out)⟩⟩
  case round =>
    clear H'
    obtain ⟨x0_1, x4_1, HA, HK1, HO_0, HO_4, HB⟩ := hrel
    cases gk with
    | zero => exact absurd HA.out (by simp [pack_Decode.l0])
    | succ k1 =>
      have H := HA.out
      clear HA
      simp only [pack_Decode.l0] at H
      by_cases c2 : (x0_1.length : Int) > 0
      · rw [if_pos c2] at H
        have c2b0 : decide (0 < (x0_1.length : Int)) = true := decide_eq_true c2
        have c2b1 : decide (0 < x0_1.length) = true := decide_eq_true (by omega)
        clear c2
        by_cases c3 : 0 < (x0_1.length : Int)
        · rw [if_pos c3] at H
          have c3b0 : decide (0 < (x0_1.length : Int)) = true := decide_eq_true c3
          have c3b1 : decide (0 < x0_1.length) = true := decide_eq_true (by omega)
          clear c3
          by_cases c4 : 1 ≤ (x0_1.length : Int)
          · rw [if_pos c4] at H
            have c4b0 := eq_true c4
            have c4b1 : decide (1 ≤ (x0_1.length : Int)) = true := decide_eq_true c4
            clear c4
            obtain ⟨y153, hy153⟩ : ∃ y_ : List Int, y_ = (x0_1.drop 1) := ⟨_, rfl⟩
            replace H : (if (rd x0_1 0) = 1 then (pack_Decode.j1 k1 x4_1 (rd x0_1 0) y153 (decide ((y153.length : Int) ≥ 8))) else (pack_Decode.j1 k1 x4_1 (rd x0_1 0) y153 false)) = some (r1, r2) := by first | (rw [hy153]; with_reducible exact H) | (have H2_ := (Option.bind_some _ _).symm.trans H; rw [hy153]; with_reducible exact H2_) | (have H2_ := (Option.bind_some _ _).symm.trans H; with_reducible exact H2_) | with_reducible exact H | (rw [hy153]; exact H) | exact H
            have Ny153 := Aside0.mk hy153
            clear hy153
            have HC5 := Aside0.mk H
            clear H
            obtain ⟨Ao6, co6, eo6⟩ := Kd.V_slice HO_0.out
            subst eo6
            have p152 : 0 ≤ (0 : Int) := (by omega)
            have q152 : 0 < (x0_1.length : Int) := of_decide_eq_true (by first | (with_reducible assumption) | assumption)
            obtain ⟨ad152, e152, hx152_0⟩ := Kd.at_int (Kd.V_reads' HO_0.out).2.2 0 p152 q152
            cases e152
            have qi152 : (0 < x0_1.length) = True := eq_true (by omega)
            (try rw [show ((0 : Int)).toNat = 0 from rfl] at hx152_0)
            (try rw [Addr.add_zero'] at hx152_0)
            replace p152 := eq_true p152
            replace q152 := eq_true q152
            have q7 : (1 : Int) ≤ ((x0_1.length : Int) : Int) := of_decide_eq_true (by first | (with_reducible assumption) | assumption)
            obtain ⟨i07, hi07, _, hsz7, _⟩ := info_parts info5
            have hroom7 : x0_1.length ≤ co6 := (Kd.V_reads' HO_0.out).2.1
            have hC7 : Kd.F (Kd.int .u8) _ _ (some ad152) x0_1.length x0_1 := (Kd.V_at (base := w.heap.size) HO_0.out).2.2
            have hcut7 := cut_from (P := Tryd.prog) 36 5 .i64 Tryd.underlying36 hi07 1 hsz7 (some ad152) x0_1.length co6 1 (by omega) q7
            have hr7 := Kd.F_cut (m := (1 : Int).toNat) (c := co6) hC7 (by omega) hroom7
            obtain ⟨A7, hA7⟩ : ∃ A1, A1 = (if co6 = (1 : Int).toNat then (some ad152) else ((some ad152) : Option Addr).map (·.add ((1 : Int).toNat * 1))) := ⟨_, rfl⟩
            obtain ⟨c7, hc7⟩ : ∃ c1, c1 = co6 - (1 : Int).toNat := ⟨_, rfl⟩
            have hy7 : y153.length = x0_1.length - (1 : Int).toNat := (by rw [Ny153.out, List.length_drop] <;> omega)
            rw [show (x0_1).drop (1 : Int).toNat = y153 from Ny153.out.symm] at hr7
            replace hr7 : Kd.F (Kd.int .u8) _ _ A7 y153.length y153 := (by rw [hA7]; exact hr7)
            rw [← hy7, ← hA7, ← hc7] at hcut7
            have HO157 := Aside0.mk (show Kd.V (Kd.int .u8) 5 _ w.heap.size _ (.slice A7 y153.length c7) y153 from Kd.V_mk (by rw [hy7, hc7]; exact Nat.sub_le_sub_right hroom7 _) hr7)
            have HC157 := Aside0.mk (show y153.length ≤ c7 from by rw [hy7, hc7]; exact Nat.sub_le_sub_right hroom7 _)
            clear hr7 hC7 hroom7 hi07 hsz7 hc7
            have KY7 := Aside0.mk hy7
            have KA7 := Aside0.mk hA7
            clear hy7 hA7
            replace q7 := eq_true q7
            go_upto_region 5 with (fail)
            repeat (go_quiet (fail); go_upto_region 5 with (fail))
            go_cut [16] (fun v16 wc => ∃ (kq : Nat) (x16_4 : Bool), v16 = .bool x16_4 ∧ Aside0 (pack_Decode.j1 kq x4_1 (rd x0_1 0) y153 x16_4 = some (r1, r2)) ∧ Aside0 (kq ≤ k1) ∧ Aside0 (Kd.R k77 77 wc w.heap.size (fun k_ => (w.heap.size ≤ k_)) u4 x4_1) ∧ Aside0 (Kd.V (Kd.int .u8) 5 wc w.heap.size (fun k_ => (P0_ k_ ∨ w.heap.size ≤ k_) ∧ some k_ ≠ (u4 : Value).ownBlock) (.slice A7 y153.length c7) y153) ∧ Aside0 (Below w.heap.size w wc))
            case first =>
              have H := HC5.out
              clear HC5
              by_cases c8 : (rd x0_1 0) = 1
              · rw [if_pos c8] at H
                have c8b0 : ((rd x0_1 0) == 1) = true := beq_iff_eq.mpr c8
                have c8b1 : ((rd x0_1 0) != 1) = false := bne_eq_false_iff_eq.mpr c8
                clear c8
                (first | rw [c8b0] | (simp only [i64_w, i32_w]; rw [c8b0]) | skip)
                have H' := Aside0.mk H
                clear H
                go_wp2
                repeat (go_quiet (fail); try go_wp2)
                go_meet
                case rel => exact ⟨_, (decide ((y153.length : Int) ≥ 8)), (by first | rfl | (simp; done) | (simp [*]; done)), H', ⟨by have := HK1.out; first | omega | exact Nat.le_refl _⟩, ⟨by (with_reducible repeat (first | apply Kd.R_alloc | apply Kd.R_drewN | apply Kd.R_drew)); exact HO_4.out⟩, ⟨by (with_reducible repeat (first | apply Kd.V_alloc | apply Kd.V_drewN | apply Kd.V_drew)); exact HO157.out⟩, ⟨by repeat (first | (with_reducible first | exact HB.out | apply below_alloc | apply pw_below_drewN | apply below_drew1) | exact HB.out)⟩⟩
              · rw [if_neg c8] at H
                have c8b0 : ((rd x0_1 0) == 1) = false := beq_eq_false_iff_ne.mpr c8
                have c8b1 : ((rd x0_1 0) != 1) = true := bne_iff_ne.mpr c8
                (first | rw [c8b0] | (simp only [i64_w, i32_w]; rw [c8b0]) | skip)
                have H' := Aside0.mk H
                clear H
                go_wp2
                repeat (go_quiet (fail); try go_wp2)
                go_meet
                case rel => exact ⟨_, (false), (by first | rfl | (simp; done) | (simp [*]; done)), H', ⟨by have := HK1.out; first | omega | exact Nat.le_refl _⟩, ⟨by (with_reducible repeat (first | apply Kd.R_alloc | apply Kd.R_drewN | apply Kd.R_drew)); exact HO_4.out⟩, ⟨by (with_reducible repeat (first | apply Kd.V_alloc | apply Kd.V_drewN | apply Kd.V_drew)); exact HO157.out⟩, ⟨by repeat (first | (with_reducible first | exact HB.out | apply below_alloc | apply pw_below_drewN | apply below_drew1) | exact HB.out)⟩⟩
            case rest =>
              clear HC5
              try clear c1
              try clear p1
              try clear q1
              try clear hx1
              try clear qi1
              try clear c2
              try clear c2b0
              try clear c2b1
              try clear p2
              try clear c3
              try clear c3b0
              try clear c3b1
              try clear c4
              try clear c4b0
              try clear c4b1
              try clear c6
              try clear c7
              try clear q7
              try clear c8
              try clear c8b0
              try clear c8b1
              try clear hx152_0
              try clear p152
              try clear q152
              try clear q7
              obtain ⟨kq, x16_4, rfl, HA, HJ4, HO_4, HO_6, HB⟩ := hcut
              cases kq with
              | zero => exact absurd HA.out (by simp [pack_Decode.j1])
              | succ kj4 =>
                have H := HA.out
                clear HA
                simp only [pack_Decode.j1] at H
                by_cases c9 : x16_4 = true
                · subst c9
                  have H1 : (if 8 ≤ (y153.length : Int) then ((pack_get.f kj4 (y153.take 8)).bind fun t163 => (if x4_1.length < 4398046511104 then ((some (x4_1 ++ [(⟨1, wrap64 (t163), (⟨#[]⟩ : ByteArray)⟩ : S77)] : List (S77))).bind fun y164 => (if (y164.length : Int) > 4000 then (some (([] : List (S77)), 2)) else (pack_Decode.l0 kj4 (y153.drop 8) y164))) else (none))) else (none)) = some (r1, r2) := by rw [if_pos rfl] at H; exact H
                  clear H
                  have H := H1
                  clear H1
                  by_cases c10 : 8 ≤ (y153.length : Int)
                  · rw [if_pos c10] at H
                    have c10b0 := eq_true c10
                    have c10b1 : decide (8 ≤ (y153.length : Int)) = true := decide_eq_true c10
                    clear c10
                    obtain ⟨y158, hy158⟩ : ∃ y_ : List Int, y_ = (y153.take 8) := ⟨_, rfl⟩
                    replace H : ((pack_get.f kj4 y158).bind fun t163 => (if x4_1.length < 4398046511104 then ((some (x4_1 ++ [(⟨1, wrap64 (t163), (⟨#[]⟩ : ByteArray)⟩ : S77)] : List (S77))).bind fun y164 => (if (y164.length : Int) > 4000 then (some (([] : List (S77)), 2)) else (pack_Decode.l0 kj4 (y153.drop 8) y164))) else (none))) = some (r1, r2) := by first | (rw [hy158]; with_reducible exact H) | (have H2_ := (Option.bind_some _ _).symm.trans H; rw [hy158]; with_reducible exact H2_) | (have H2_ := (Option.bind_some _ _).symm.trans H; with_reducible exact H2_) | with_reducible exact H | (rw [hy158]; exact H) | exact H
                    have Ny158 := Aside0.mk hy158
                    clear hy158
                    replace H := Option.bind_eq_some_iff.mp H
                    obtain ⟨t163, A110, H⟩ := H
                    replace H : (if x4_1.length < 4398046511104 then ((some (x4_1 ++ [(⟨1, wrap64 (t163), (⟨#[]⟩ : ByteArray)⟩ : S77)] : List (S77))).bind fun y164 => (if (y164.length : Int) > 4000 then (some (([] : List (S77)), 2)) else (pack_Decode.l0 kj4 (y153.drop 8) y164))) else (none)) = some (r1, r2) := H
                    have A11 := Aside0.mk A110
                    clear A110
                    by_cases c12 : x4_1.length < 4398046511104
                    · rw [if_pos c12] at H
                      have LMc12 := Aside0.mk c12
                      clear c12
                      obtain ⟨y164, hy164⟩ : ∃ y_ : List (S77), y_ = (x4_1 ++ [(⟨1, wrap64 (t163), (⟨#[]⟩ : ByteArray)⟩ : S77)]) := ⟨_, rfl⟩
                      replace H : (if (y164.length : Int) > 4000 then (some (([] : List (S77)), 2)) else (pack_Decode.l0 kj4 (y153.drop 8) y164)) = some (r1, r2) := by first | (rw [hy164]; with_reducible exact H) | (have H2_ := (Option.bind_some _ _).symm.trans H; rw [hy164]; with_reducible exact H2_) | (have H2_ := (Option.bind_some _ _).symm.trans H; with_reducible exact H2_) | with_reducible exact H | (rw [hy164]; exact H) | exact H
                      have Ny164 := Aside0.mk hy164
                      clear hy164
                      have c13b0 := eq_true (of_decide_eq_true (by first | (with_reducible assumption) | assumption) : 8 ≤ (y153.length : Int))
                      obtain ⟨y167, hy167⟩ : ∃ y_ : List Int, y_ = (y153.drop 8) := ⟨_, rfl⟩
                      replace H : (if (y164.length : Int) > 4000 then (some (([] : List (S77)), 2)) else (pack_Decode.l0 kj4 y167 y164)) = some (r1, r2) := by first | (rw [hy167]; with_reducible exact H) | (have H2_ := (Option.bind_some _ _).symm.trans H; rw [hy167]; with_reducible exact H2_) | (have H2_ := (Option.bind_some _ _).symm.trans H; with_reducible exact H2_) | with_reducible exact H | (rw [hy167]; exact H) | exact H
                      have Ny167 := Aside0.mk hy167
                      clear hy167
                      by_cases c14 : (y164.length : Int) > 4000
                      · rw [if_pos c14] at H
                        have c14b0 : decide (4000 < (y164.length : Int)) = true := decide_eq_true c14
                        have c14b1 : decide (4000 < y164.length) = true := decide_eq_true (by omega)
                        clear c14
                        simp only [Option.some.injEq, Prod.mk.injEq] at H
                        obtain ⟨rfl, rfl⟩ := H
                        have q15 : (8 : Int) ≤ ((y153.length : Int) : Int) := of_decide_eq_true (by first | (with_reducible assumption) | assumption)
                        obtain ⟨i015, hi015, _, hsz15, _⟩ := info_parts info5
                        have hroom15 : y153.length ≤ c7 := (Kd.V_reads' HO_6.out).2.1
                        have hC15 : Kd.F (Kd.int .u8) _ _ A7 y153.length y153 := (Kd.V_at (base := w.heap.size) HO_6.out).2.2
                        have hcut15 := cut_to (P := Tryd.prog) 36 5 .i64 Tryd.underlying36 hi015 A7 y153.length c7 8 (by omega) q15 hroom15
                        have hr15 := Kd.F_take (m := 8) hC15 (by omega)
                        have hy15 : y158.length = (8 : Int).toNat := (by rw [Ny158.out, List.length_take]; omega)
                        rw [← Ny158.out] at hr15
                        rw [← hy15] at hcut15
                        have HO162 := Aside0.mk (show Kd.V (Kd.int .u8) 5 _ w.heap.size _ (.slice A7 y158.length c7) y158 from Kd.V_mk (by omega) hr15)
                        have HC162 := Aside0.mk (show y158.length ≤ c7 from by omega)
                        clear hr15 hC15 hroom15 hi015 hsz15
                        have KY15 := Aside0.mk hy15
                        clear hy15
                        replace q15 := eq_true q15
                        go_wp2_with (first | (go_at_call 66; (with_reducible refine (pack_get.calls kj4 _ _ y158 t163 _ ?side1 ?side2 A11.out).mono ?_); (case side1 => repeat (first | exact (Kd.V_reads' HO162.out).2.2 | (with_reducible refine Kd.C_alloc ?_ _) | (with_reducible refine Kd.C_drewN ?_ _) | (with_reducible refine Kd.C_drew ?_))); (case side2 => exact (Kd.V_reads' HO162.out).2.1); rintro e w' ⟨rfl, ⟨nd, rfl⟩⟩; (try first | exact ⟨rfl, _, World.drewN_drewN _ _ _⟩ | exact ⟨rfl, _, Eq.trans (World.drewN_drewN _ _ _) (congrArg (World.drewN _) (Nat.add_assoc _ _ _))⟩)) | ((with_reducible refine gate_builtin (b := .append) (xs := #[.tmp 24, .tmp 30]) rfl ?_); (try (refine gate_guard (by rfl) ?_; dsimp only)); at_builtin; refine Kd.R_append k77 (w0 := w) w.heap.size rfl (.tmp 24) (.tmp 30) 74 77 (.agg #[(.int .i64 0), (.int .i64 0), (.string ⟨#[]⟩)]) 32 rfl Tryd.underlying74 info77 rfl (by decide) (by omega) u4 x4_1 (⟨1, wrap64 (t163), (⟨#[]⟩ : ByteArray)⟩ : S77) [.int .i64 1, .int .i64 (wrap64 (t163)), .string (⟨#[]⟩ : ByteArray)] (fun k_ => (w.heap.size ≤ k_)) (fun _ => False) rfl rfl ?aP (fun _ hk => hk.elim) ?aF ?aO ?aB ?aS ?aL ?_; (case aP => exact k77_mkM _ _ _ (⟨1, wrap64 (t163), (⟨#[]⟩ : ByteArray)⟩ : S77)); (case aB => exact (by repeat (first | (with_reducible first | exact HB.out | apply below_alloc | apply pw_below_drewN | apply below_drew1) | exact HB.out))); (case aF => exact (fun k_ hk => (Nat.le_trans (below_size (by repeat (first | (with_reducible first | exact HB.out | apply below_alloc | apply pw_below_drewN | apply below_drew1) | exact HB.out))) hk))); (case aO => exact (by (with_reducible repeat (first | apply Kd.R_alloc | apply Kd.R_drewN | apply Kd.R_drew)); exact HO_4.out)); (case aS => exact (below_size (by repeat (first | (with_reducible first | exact HB.out | apply below_alloc | apply pw_below_drewN | apply below_drew1) | exact HB.out)))); (case aL => have := LMc12.out; omega); intro v165 w16 ho hb hg hat; rw [← Ny164.out] at ho; have n0_ := Aside0.mk (Kd.V_afterv (ok := (fun k_ => (P0_ k_ ∨ w.heap.size ≤ k_))) (by (with_reducible repeat (first | apply Kd.V_alloc | apply Kd.V_drewN | apply Kd.V_drew)); exact HO_6.out) hg hat); have n1_ := Aside0.mk (Kd.V_afterv (ok := (fun k_ => (P0_ k_ ∨ w.heap.size ≤ k_))) (by (with_reducible repeat (first | apply Kd.V_alloc | apply Kd.V_drewN | apply Kd.V_drew)); exact HO162.out) hg hat); have n2_ := Aside0.mk (hb); have n3_ := Aside0.mk (ho); clear HO_6; clear HO162; clear HB; clear HO_4; have HO_6 := n0_; have HO162 := n1_; have HB := n2_; have HO166 := n3_; clear n0_ n1_ n2_ n3_; clear ho hb hg hat; have q17 : (8 : Int) ≤ ((y153.length : Int) : Int) := of_decide_eq_true (by first | (with_reducible assumption) | assumption); obtain ⟨i017, hi017, _, hsz17, _⟩ := info_parts info5; have hroom17 : y153.length ≤ c7 := (Kd.V_reads' HO_6.out).2.1; have hC17 : Kd.F (Kd.int .u8) _ _ A7 y153.length y153 := (Kd.V_at (base := w.heap.size) HO_6.out).2.2; have hcut17 := cut_from (P := Tryd.prog) 36 5 .i64 Tryd.underlying36 hi017 1 hsz17 A7 y153.length c7 8 (by omega) q17; have hr17 := Kd.F_cut (m := (8 : Int).toNat) (c := c7) hC17 (by omega) hroom17; obtain ⟨A17, hA17⟩ : ∃ A1, A1 = (if c7 = (8 : Int).toNat then A7 else (A7 : Option Addr).map (·.add ((8 : Int).toNat * 1))) := ⟨_, rfl⟩; obtain ⟨c17, hc17⟩ : ∃ c1, c1 = c7 - (8 : Int).toNat := ⟨_, rfl⟩; have hy17 : y167.length = y153.length - (8 : Int).toNat := (by rw [Ny167.out, List.length_drop] <;> omega); rw [show (y153).drop (8 : Int).toNat = y167 from Ny167.out.symm] at hr17; replace hr17 : Kd.F (Kd.int .u8) _ _ A17 y167.length y167 := (by rw [hA17]; exact hr17); rw [← hy17, ← hA17, ← hc17] at hcut17; have HO171 := Aside0.mk (show Kd.V (Kd.int .u8) 5 _ w.heap.size _ (.slice A17 y167.length c17) y167 from Kd.V_mk (by rw [hy17, hc17]; exact Nat.sub_le_sub_right hroom17 _) hr17); have HC171 := Aside0.mk (show y167.length ≤ c17 from by rw [hy17, hc17]; exact Nat.sub_le_sub_right hroom17 _); clear hr17 hC17 hroom17 hi017 hsz17 hc17; have KY17 := Aside0.mk hy17; have KA17 := Aside0.mk hA17; clear hy17 hA17; replace q17 := eq_true q17; obtain ⟨Ao18, co18, eo18⟩ := Kd.R_slice HO166.out; subst eo18))
                        repeat (go_quiet (first | (go_at_call 66; (with_reducible refine (pack_get.calls kj4 _ _ y158 t163 _ ?side1 ?side2 A11.out).mono ?_); (case side1 => repeat (first | exact (Kd.V_reads' HO162.out).2.2 | (with_reducible refine Kd.C_alloc ?_ _) | (with_reducible refine Kd.C_drewN ?_ _) | (with_reducible refine Kd.C_drew ?_))); (case side2 => exact (Kd.V_reads' HO162.out).2.1); rintro e w' ⟨rfl, ⟨nd, rfl⟩⟩; (try first | exact ⟨rfl, _, World.drewN_drewN _ _ _⟩ | exact ⟨rfl, _, Eq.trans (World.drewN_drewN _ _ _) (congrArg (World.drewN _) (Nat.add_assoc _ _ _))⟩)) | ((with_reducible refine gate_builtin (b := .append) (xs := #[.tmp 24, .tmp 30]) rfl ?_); (try (refine gate_guard (by rfl) ?_; dsimp only)); at_builtin; refine Kd.R_append k77 (w0 := w) w.heap.size rfl (.tmp 24) (.tmp 30) 74 77 (.agg #[(.int .i64 0), (.int .i64 0), (.string ⟨#[]⟩)]) 32 rfl Tryd.underlying74 info77 rfl (by decide) (by omega) u4 x4_1 (⟨1, wrap64 (t163), (⟨#[]⟩ : ByteArray)⟩ : S77) [.int .i64 1, .int .i64 (wrap64 (t163)), .string (⟨#[]⟩ : ByteArray)] (fun k_ => (w.heap.size ≤ k_)) (fun _ => False) rfl rfl ?aP (fun _ hk => hk.elim) ?aF ?aO ?aB ?aS ?aL ?_; (case aP => exact k77_mkM _ _ _ (⟨1, wrap64 (t163), (⟨#[]⟩ : ByteArray)⟩ : S77)); (case aB => exact (by repeat (first | (with_reducible first | exact HB.out | apply below_alloc | apply pw_below_drewN | apply below_drew1) | exact HB.out))); (case aF => exact (fun k_ hk => (Nat.le_trans (below_size (by repeat (first | (with_reducible first | exact HB.out | apply below_alloc | apply pw_below_drewN | apply below_drew1) | exact HB.out))) hk))); (case aO => exact (by (with_reducible repeat (first | apply Kd.R_alloc | apply Kd.R_drewN | apply Kd.R_drew)); exact HO_4.out)); (case aS => exact (below_size (by repeat (first | (with_reducible first | exact HB.out | apply below_alloc | apply pw_below_drewN | apply below_drew1) | exact HB.out)))); (case aL => have := LMc12.out; omega); intro v165 w16 ho hb hg hat; rw [← Ny164.out] at ho; have n0_ := Aside0.mk (Kd.V_afterv (ok := (fun k_ => (P0_ k_ ∨ w.heap.size ≤ k_))) (by (with_reducible repeat (first | apply Kd.V_alloc | apply Kd.V_drewN | apply Kd.V_drew)); exact HO_6.out) hg hat); have n1_ := Aside0.mk (Kd.V_afterv (ok := (fun k_ => (P0_ k_ ∨ w.heap.size ≤ k_))) (by (with_reducible repeat (first | apply Kd.V_alloc | apply Kd.V_drewN | apply Kd.V_drew)); exact HO162.out) hg hat); have n2_ := Aside0.mk (hb); have n3_ := Aside0.mk (ho); clear HO_6; clear HO162; clear HB; clear HO_4; have HO_6 := n0_; have HO162 := n1_; have HB := n2_; have HO166 := n3_; clear n0_ n1_ n2_ n3_; clear ho hb hg hat; have q17 : (8 : Int) ≤ ((y153.length : Int) : Int) := of_decide_eq_true (by first | (with_reducible assumption) | assumption); obtain ⟨i017, hi017, _, hsz17, _⟩ := info_parts info5; have hroom17 : y153.length ≤ c7 := (Kd.V_reads' HO_6.out).2.1; have hC17 : Kd.F (Kd.int .u8) _ _ A7 y153.length y153 := (Kd.V_at (base := w.heap.size) HO_6.out).2.2; have hcut17 := cut_from (P := Tryd.prog) 36 5 .i64 Tryd.underlying36 hi017 1 hsz17 A7 y153.length c7 8 (by omega) q17; have hr17 := Kd.F_cut (m := (8 : Int).toNat) (c := c7) hC17 (by omega) hroom17; obtain ⟨A17, hA17⟩ : ∃ A1, A1 = (if c7 = (8 : Int).toNat then A7 else (A7 : Option Addr).map (·.add ((8 : Int).toNat * 1))) := ⟨_, rfl⟩; obtain ⟨c17, hc17⟩ : ∃ c1, c1 = c7 - (8 : Int).toNat := ⟨_, rfl⟩; have hy17 : y167.length = y153.length - (8 : Int).toNat := (by rw [Ny167.out, List.length_drop] <;> omega); rw [show (y153).drop (8 : Int).toNat = y167 from Ny167.out.symm] at hr17; replace hr17 : Kd.F (Kd.int .u8) _ _ A17 y167.length y167 := (by rw [hA17]; exact hr17); rw [← hy17, ← hA17, ← hc17] at hcut17; have HO171 := Aside0.mk (show Kd.V (Kd.int .u8) 5 _ w.heap.size _ (.slice A17 y167.length c17) y167 from Kd.V_mk (by rw [hy17, hc17]; exact Nat.sub_le_sub_right hroom17 _) hr17); have HC171 := Aside0.mk (show y167.length ≤ c17 from by rw [hy17, hc17]; exact Nat.sub_le_sub_right hroom17 _); clear hr17 hC17 hroom17 hi017 hsz17 hc17; have KY17 := Aside0.mk hy17; have KA17 := Aside0.mk hA17; clear hy17 hA17; replace q17 := eq_true q17; obtain ⟨Ao18, co18, eo18⟩ := Kd.R_slice HO166.out; subst eo18)); try go_wp2_with (first | (go_at_call 66; (with_reducible refine (pack_get.calls kj4 _ _ y158 t163 _ ?side1 ?side2 A11.out).mono ?_); (case side1 => repeat (first | exact (Kd.V_reads' HO162.out).2.2 | (with_reducible refine Kd.C_alloc ?_ _) | (with_reducible refine Kd.C_drewN ?_ _) | (with_reducible refine Kd.C_drew ?_))); (case side2 => exact (Kd.V_reads' HO162.out).2.1); rintro e w' ⟨rfl, ⟨nd, rfl⟩⟩; (try first | exact ⟨rfl, _, World.drewN_drewN _ _ _⟩ | exact ⟨rfl, _, Eq.trans (World.drewN_drewN _ _ _) (congrArg (World.drewN _) (Nat.add_assoc _ _ _))⟩)) | ((with_reducible refine gate_builtin (b := .append) (xs := #[.tmp 24, .tmp 30]) rfl ?_); (try (refine gate_guard (by rfl) ?_; dsimp only)); at_builtin; refine Kd.R_append k77 (w0 := w) w.heap.size rfl (.tmp 24) (.tmp 30) 74 77 (.agg #[(.int .i64 0), (.int .i64 0), (.string ⟨#[]⟩)]) 32 rfl Tryd.underlying74 info77 rfl (by decide) (by omega) u4 x4_1 (⟨1, wrap64 (t163), (⟨#[]⟩ : ByteArray)⟩ : S77) [.int .i64 1, .int .i64 (wrap64 (t163)), .string (⟨#[]⟩ : ByteArray)] (fun k_ => (w.heap.size ≤ k_)) (fun _ => False) rfl rfl ?aP (fun _ hk => hk.elim) ?aF ?aO ?aB ?aS ?aL ?_; (case aP => exact k77_mkM _ _ _ (⟨1, wrap64 (t163), (⟨#[]⟩ : ByteArray)⟩ : S77)); (case aB => exact (by repeat (first | (with_reducible first | exact HB.out | apply below_alloc | apply pw_below_drewN | apply below_drew1) | exact HB.out))); (case aF => exact (fun k_ hk => (Nat.le_trans (below_size (by repeat (first | (with_reducible first | exact HB.out | apply below_alloc | apply pw_below_drewN | apply below_drew1) | exact HB.out))) hk))); (case aO => exact (by (with_reducible repeat (first | apply Kd.R_alloc | apply Kd.R_drewN | apply Kd.R_drew)); exact HO_4.out)); (case aS => exact (below_size (by repeat (first | (with_reducible first | exact HB.out | apply below_alloc | apply pw_below_drewN | apply below_drew1) | exact HB.out)))); (case aL => have := LMc12.out; omega); intro v165 w16 ho hb hg hat; rw [← Ny164.out] at ho; have n0_ := Aside0.mk (Kd.V_afterv (ok := (fun k_ => (P0_ k_ ∨ w.heap.size ≤ k_))) (by (with_reducible repeat (first | apply Kd.V_alloc | apply Kd.V_drewN | apply Kd.V_drew)); exact HO_6.out) hg hat); have n1_ := Aside0.mk (Kd.V_afterv (ok := (fun k_ => (P0_ k_ ∨ w.heap.size ≤ k_))) (by (with_reducible repeat (first | apply Kd.V_alloc | apply Kd.V_drewN | apply Kd.V_drew)); exact HO162.out) hg hat); have n2_ := Aside0.mk (hb); have n3_ := Aside0.mk (ho); clear HO_6; clear HO162; clear HB; clear HO_4; have HO_6 := n0_; have HO162 := n1_; have HB := n2_; have HO166 := n3_; clear n0_ n1_ n2_ n3_; clear ho hb hg hat; have q17 : (8 : Int) ≤ ((y153.length : Int) : Int) := of_decide_eq_true (by first | (with_reducible assumption) | assumption); obtain ⟨i017, hi017, _, hsz17, _⟩ := info_parts info5; have hroom17 : y153.length ≤ c7 := (Kd.V_reads' HO_6.out).2.1; have hC17 : Kd.F (Kd.int .u8) _ _ A7 y153.length y153 := (Kd.V_at (base := w.heap.size) HO_6.out).2.2; have hcut17 := cut_from (P := Tryd.prog) 36 5 .i64 Tryd.underlying36 hi017 1 hsz17 A7 y153.length c7 8 (by omega) q17; have hr17 := Kd.F_cut (m := (8 : Int).toNat) (c := c7) hC17 (by omega) hroom17; obtain ⟨A17, hA17⟩ : ∃ A1, A1 = (if c7 = (8 : Int).toNat then A7 else (A7 : Option Addr).map (·.add ((8 : Int).toNat * 1))) := ⟨_, rfl⟩; obtain ⟨c17, hc17⟩ : ∃ c1, c1 = c7 - (8 : Int).toNat := ⟨_, rfl⟩; have hy17 : y167.length = y153.length - (8 : Int).toNat := (by rw [Ny167.out, List.length_drop] <;> omega); rw [show (y153).drop (8 : Int).toNat = y167 from Ny167.out.symm] at hr17; replace hr17 : Kd.F (Kd.int .u8) _ _ A17 y167.length y167 := (by rw [hA17]; exact hr17); rw [← hy17, ← hA17, ← hc17] at hcut17; have HO171 := Aside0.mk (show Kd.V (Kd.int .u8) 5 _ w.heap.size _ (.slice A17 y167.length c17) y167 from Kd.V_mk (by rw [hy17, hc17]; exact Nat.sub_le_sub_right hroom17 _) hr17); have HC171 := Aside0.mk (show y167.length ≤ c17 from by rw [hy17, hc17]; exact Nat.sub_le_sub_right hroom17 _); clear hr17 hC17 hroom17 hi017 hsz17 hc17; have KY17 := Aside0.mk hy17; have KA17 := Aside0.mk hA17; clear hy17 hA17; replace q17 := eq_true q17; obtain ⟨Ao18, co18, eo18⟩ := Kd.R_slice HO166.out; subst eo18)))
                        go_ret2
                        exact ⟨_, by first | rfl | (simp [errW_none, errW_some] <;> rfl) | (simp [*, errW_none, errW_some] <;> rfl), by first | exact Kd.R_nil _ _ _ _ _ | exact Kd.N_nil _ _ _ _ _ | exact Kd.V_nil _ _ _ _ _ | exact Kd.Q_nil _ _ _ _ _ | exact Kd.S_nil _ _ _ _ _, by repeat (first | (with_reducible first | exact HB.out | apply below_alloc | apply pw_below_drewN | apply below_drew1) | exact HB.out)⟩
                      · rw [if_neg c14] at H
                        have c14b0 : decide (4000 < (y164.length : Int)) = false := decide_eq_false c14
                        have c14b1 : decide (4000 < y164.length) = false := decide_eq_false (by omega)
                        clear c14
                        have H' := Aside0.mk H
                        clear H
                        have q19 : (8 : Int) ≤ ((y153.length : Int) : Int) := of_decide_eq_true (by first | (with_reducible assumption) | assumption)
                        obtain ⟨i019, hi019, _, hsz19, _⟩ := info_parts info5
                        have hroom19 : y153.length ≤ c7 := (Kd.V_reads' HO_6.out).2.1
                        have hC19 : Kd.F (Kd.int .u8) _ _ A7 y153.length y153 := (Kd.V_at (base := w.heap.size) HO_6.out).2.2
                        have hcut19 := cut_to (P := Tryd.prog) 36 5 .i64 Tryd.underlying36 hi019 A7 y153.length c7 8 (by omega) q19 hroom19
                        have hr19 := Kd.F_take (m := 8) hC19 (by omega)
                        have hy19 : y158.length = (8 : Int).toNat := (by rw [Ny158.out, List.length_take]; omega)
                        rw [← Ny158.out] at hr19
                        rw [← hy19] at hcut19
                        have HO162 := Aside0.mk (show Kd.V (Kd.int .u8) 5 _ w.heap.size _ (.slice A7 y158.length c7) y158 from Kd.V_mk (by omega) hr19)
                        have HC162 := Aside0.mk (show y158.length ≤ c7 from by omega)
                        clear hr19 hC19 hroom19 hi019 hsz19
                        have KY19 := Aside0.mk hy19
                        clear hy19
                        replace q19 := eq_true q19
                        go_wp2_with (first | (go_at_call 66; (with_reducible refine (pack_get.calls kj4 _ _ y158 t163 _ ?side1 ?side2 A11.out).mono ?_); (case side1 => repeat (first | exact (Kd.V_reads' HO162.out).2.2 | (with_reducible refine Kd.C_alloc ?_ _) | (with_reducible refine Kd.C_drewN ?_ _) | (with_reducible refine Kd.C_drew ?_))); (case side2 => exact (Kd.V_reads' HO162.out).2.1); rintro e w' ⟨rfl, ⟨nd, rfl⟩⟩; (try first | exact ⟨rfl, _, World.drewN_drewN _ _ _⟩ | exact ⟨rfl, _, Eq.trans (World.drewN_drewN _ _ _) (congrArg (World.drewN _) (Nat.add_assoc _ _ _))⟩)) | ((with_reducible refine gate_builtin (b := .append) (xs := #[.tmp 24, .tmp 30]) rfl ?_); (try (refine gate_guard (by rfl) ?_; dsimp only)); at_builtin; refine Kd.R_append k77 (w0 := w) w.heap.size rfl (.tmp 24) (.tmp 30) 74 77 (.agg #[(.int .i64 0), (.int .i64 0), (.string ⟨#[]⟩)]) 32 rfl Tryd.underlying74 info77 rfl (by decide) (by omega) u4 x4_1 (⟨1, wrap64 (t163), (⟨#[]⟩ : ByteArray)⟩ : S77) [.int .i64 1, .int .i64 (wrap64 (t163)), .string (⟨#[]⟩ : ByteArray)] (fun k_ => (w.heap.size ≤ k_)) (fun _ => False) rfl rfl ?aP (fun _ hk => hk.elim) ?aF ?aO ?aB ?aS ?aL ?_; (case aP => exact k77_mkM _ _ _ (⟨1, wrap64 (t163), (⟨#[]⟩ : ByteArray)⟩ : S77)); (case aB => exact (by repeat (first | (with_reducible first | exact HB.out | apply below_alloc | apply pw_below_drewN | apply below_drew1) | exact HB.out))); (case aF => exact (fun k_ hk => (Nat.le_trans (below_size (by repeat (first | (with_reducible first | exact HB.out | apply below_alloc | apply pw_below_drewN | apply below_drew1) | exact HB.out))) hk))); (case aO => exact (by (with_reducible repeat (first | apply Kd.R_alloc | apply Kd.R_drewN | apply Kd.R_drew)); exact HO_4.out)); (case aS => exact (below_size (by repeat (first | (with_reducible first | exact HB.out | apply below_alloc | apply pw_below_drewN | apply below_drew1) | exact HB.out)))); (case aL => have := LMc12.out; omega); intro v165 w20 ho hb hg hat; rw [← Ny164.out] at ho; have n0_ := Aside0.mk (Kd.V_afterv (ok := (fun k_ => (P0_ k_ ∨ w.heap.size ≤ k_))) (by (with_reducible repeat (first | apply Kd.V_alloc | apply Kd.V_drewN | apply Kd.V_drew)); exact HO_6.out) hg hat); have n1_ := Aside0.mk (Kd.V_afterv (ok := (fun k_ => (P0_ k_ ∨ w.heap.size ≤ k_))) (by (with_reducible repeat (first | apply Kd.V_alloc | apply Kd.V_drewN | apply Kd.V_drew)); exact HO162.out) hg hat); have n2_ := Aside0.mk (hb); have n3_ := Aside0.mk (ho); clear HO_6; clear HO162; clear HB; clear HO_4; have HO_6 := n0_; have HO162 := n1_; have HB := n2_; have HO166 := n3_; clear n0_ n1_ n2_ n3_; clear ho hb hg hat; have q21 : (8 : Int) ≤ ((y153.length : Int) : Int) := of_decide_eq_true (by first | (with_reducible assumption) | assumption); obtain ⟨i021, hi021, _, hsz21, _⟩ := info_parts info5; have hroom21 : y153.length ≤ c7 := (Kd.V_reads' HO_6.out).2.1; have hC21 : Kd.F (Kd.int .u8) _ _ A7 y153.length y153 := (Kd.V_at (base := w.heap.size) HO_6.out).2.2; have hcut21 := cut_from (P := Tryd.prog) 36 5 .i64 Tryd.underlying36 hi021 1 hsz21 A7 y153.length c7 8 (by omega) q21; have hr21 := Kd.F_cut (m := (8 : Int).toNat) (c := c7) hC21 (by omega) hroom21; obtain ⟨A21, hA21⟩ : ∃ A1, A1 = (if c7 = (8 : Int).toNat then A7 else (A7 : Option Addr).map (·.add ((8 : Int).toNat * 1))) := ⟨_, rfl⟩; obtain ⟨c21, hc21⟩ : ∃ c1, c1 = c7 - (8 : Int).toNat := ⟨_, rfl⟩; have hy21 : y167.length = y153.length - (8 : Int).toNat := (by rw [Ny167.out, List.length_drop] <;> omega); rw [show (y153).drop (8 : Int).toNat = y167 from Ny167.out.symm] at hr21; replace hr21 : Kd.F (Kd.int .u8) _ _ A21 y167.length y167 := (by rw [hA21]; exact hr21); rw [← hy21, ← hA21, ← hc21] at hcut21; have HO171 := Aside0.mk (show Kd.V (Kd.int .u8) 5 _ w.heap.size _ (.slice A21 y167.length c21) y167 from Kd.V_mk (by rw [hy21, hc21]; exact Nat.sub_le_sub_right hroom21 _) hr21); have HC171 := Aside0.mk (show y167.length ≤ c21 from by rw [hy21, hc21]; exact Nat.sub_le_sub_right hroom21 _); clear hr21 hC21 hroom21 hi021 hsz21 hc21; have KY21 := Aside0.mk hy21; have KA21 := Aside0.mk hA21; clear hy21 hA21; replace q21 := eq_true q21; obtain ⟨Ao22, co22, eo22⟩ := Kd.R_slice HO166.out; subst eo22))
                        repeat (go_quiet (first | (go_at_call 66; (with_reducible refine (pack_get.calls kj4 _ _ y158 t163 _ ?side1 ?side2 A11.out).mono ?_); (case side1 => repeat (first | exact (Kd.V_reads' HO162.out).2.2 | (with_reducible refine Kd.C_alloc ?_ _) | (with_reducible refine Kd.C_drewN ?_ _) | (with_reducible refine Kd.C_drew ?_))); (case side2 => exact (Kd.V_reads' HO162.out).2.1); rintro e w' ⟨rfl, ⟨nd, rfl⟩⟩; (try first | exact ⟨rfl, _, World.drewN_drewN _ _ _⟩ | exact ⟨rfl, _, Eq.trans (World.drewN_drewN _ _ _) (congrArg (World.drewN _) (Nat.add_assoc _ _ _))⟩)) | ((with_reducible refine gate_builtin (b := .append) (xs := #[.tmp 24, .tmp 30]) rfl ?_); (try (refine gate_guard (by rfl) ?_; dsimp only)); at_builtin; refine Kd.R_append k77 (w0 := w) w.heap.size rfl (.tmp 24) (.tmp 30) 74 77 (.agg #[(.int .i64 0), (.int .i64 0), (.string ⟨#[]⟩)]) 32 rfl Tryd.underlying74 info77 rfl (by decide) (by omega) u4 x4_1 (⟨1, wrap64 (t163), (⟨#[]⟩ : ByteArray)⟩ : S77) [.int .i64 1, .int .i64 (wrap64 (t163)), .string (⟨#[]⟩ : ByteArray)] (fun k_ => (w.heap.size ≤ k_)) (fun _ => False) rfl rfl ?aP (fun _ hk => hk.elim) ?aF ?aO ?aB ?aS ?aL ?_; (case aP => exact k77_mkM _ _ _ (⟨1, wrap64 (t163), (⟨#[]⟩ : ByteArray)⟩ : S77)); (case aB => exact (by repeat (first | (with_reducible first | exact HB.out | apply below_alloc | apply pw_below_drewN | apply below_drew1) | exact HB.out))); (case aF => exact (fun k_ hk => (Nat.le_trans (below_size (by repeat (first | (with_reducible first | exact HB.out | apply below_alloc | apply pw_below_drewN | apply below_drew1) | exact HB.out))) hk))); (case aO => exact (by (with_reducible repeat (first | apply Kd.R_alloc | apply Kd.R_drewN | apply Kd.R_drew)); exact HO_4.out)); (case aS => exact (below_size (by repeat (first | (with_reducible first | exact HB.out | apply below_alloc | apply pw_below_drewN | apply below_drew1) | exact HB.out)))); (case aL => have := LMc12.out; omega); intro v165 w20 ho hb hg hat; rw [← Ny164.out] at ho; have n0_ := Aside0.mk (Kd.V_afterv (ok := (fun k_ => (P0_ k_ ∨ w.heap.size ≤ k_))) (by (with_reducible repeat (first | apply Kd.V_alloc | apply Kd.V_drewN | apply Kd.V_drew)); exact HO_6.out) hg hat); have n1_ := Aside0.mk (Kd.V_afterv (ok := (fun k_ => (P0_ k_ ∨ w.heap.size ≤ k_))) (by (with_reducible repeat (first | apply Kd.V_alloc | apply Kd.V_drewN | apply Kd.V_drew)); exact HO162.out) hg hat); have n2_ := Aside0.mk (hb); have n3_ := Aside0.mk (ho); clear HO_6; clear HO162; clear HB; clear HO_4; have HO_6 := n0_; have HO162 := n1_; have HB := n2_; have HO166 := n3_; clear n0_ n1_ n2_ n3_; clear ho hb hg hat; have q21 : (8 : Int) ≤ ((y153.length : Int) : Int) := of_decide_eq_true (by first | (with_reducible assumption) | assumption); obtain ⟨i021, hi021, _, hsz21, _⟩ := info_parts info5; have hroom21 : y153.length ≤ c7 := (Kd.V_reads' HO_6.out).2.1; have hC21 : Kd.F (Kd.int .u8) _ _ A7 y153.length y153 := (Kd.V_at (base := w.heap.size) HO_6.out).2.2; have hcut21 := cut_from (P := Tryd.prog) 36 5 .i64 Tryd.underlying36 hi021 1 hsz21 A7 y153.length c7 8 (by omega) q21; have hr21 := Kd.F_cut (m := (8 : Int).toNat) (c := c7) hC21 (by omega) hroom21; obtain ⟨A21, hA21⟩ : ∃ A1, A1 = (if c7 = (8 : Int).toNat then A7 else (A7 : Option Addr).map (·.add ((8 : Int).toNat * 1))) := ⟨_, rfl⟩; obtain ⟨c21, hc21⟩ : ∃ c1, c1 = c7 - (8 : Int).toNat := ⟨_, rfl⟩; have hy21 : y167.length = y153.length - (8 : Int).toNat := (by rw [Ny167.out, List.length_drop] <;> omega); rw [show (y153).drop (8 : Int).toNat = y167 from Ny167.out.symm] at hr21; replace hr21 : Kd.F (Kd.int .u8) _ _ A21 y167.length y167 := (by rw [hA21]; exact hr21); rw [← hy21, ← hA21, ← hc21] at hcut21; have HO171 := Aside0.mk (show Kd.V (Kd.int .u8) 5 _ w.heap.size _ (.slice A21 y167.length c21) y167 from Kd.V_mk (by rw [hy21, hc21]; exact Nat.sub_le_sub_right hroom21 _) hr21); have HC171 := Aside0.mk (show y167.length ≤ c21 from by rw [hy21, hc21]; exact Nat.sub_le_sub_right hroom21 _); clear hr21 hC21 hroom21 hi021 hsz21 hc21; have KY21 := Aside0.mk hy21; have KA21 := Aside0.mk hA21; clear hy21 hA21; replace q21 := eq_true q21; obtain ⟨Ao22, co22, eo22⟩ := Kd.R_slice HO166.out; subst eo22)); try go_wp2_with (first | (go_at_call 66; (with_reducible refine (pack_get.calls kj4 _ _ y158 t163 _ ?side1 ?side2 A11.out).mono ?_); (case side1 => repeat (first | exact (Kd.V_reads' HO162.out).2.2 | (with_reducible refine Kd.C_alloc ?_ _) | (with_reducible refine Kd.C_drewN ?_ _) | (with_reducible refine Kd.C_drew ?_))); (case side2 => exact (Kd.V_reads' HO162.out).2.1); rintro e w' ⟨rfl, ⟨nd, rfl⟩⟩; (try first | exact ⟨rfl, _, World.drewN_drewN _ _ _⟩ | exact ⟨rfl, _, Eq.trans (World.drewN_drewN _ _ _) (congrArg (World.drewN _) (Nat.add_assoc _ _ _))⟩)) | ((with_reducible refine gate_builtin (b := .append) (xs := #[.tmp 24, .tmp 30]) rfl ?_); (try (refine gate_guard (by rfl) ?_; dsimp only)); at_builtin; refine Kd.R_append k77 (w0 := w) w.heap.size rfl (.tmp 24) (.tmp 30) 74 77 (.agg #[(.int .i64 0), (.int .i64 0), (.string ⟨#[]⟩)]) 32 rfl Tryd.underlying74 info77 rfl (by decide) (by omega) u4 x4_1 (⟨1, wrap64 (t163), (⟨#[]⟩ : ByteArray)⟩ : S77) [.int .i64 1, .int .i64 (wrap64 (t163)), .string (⟨#[]⟩ : ByteArray)] (fun k_ => (w.heap.size ≤ k_)) (fun _ => False) rfl rfl ?aP (fun _ hk => hk.elim) ?aF ?aO ?aB ?aS ?aL ?_; (case aP => exact k77_mkM _ _ _ (⟨1, wrap64 (t163), (⟨#[]⟩ : ByteArray)⟩ : S77)); (case aB => exact (by repeat (first | (with_reducible first | exact HB.out | apply below_alloc | apply pw_below_drewN | apply below_drew1) | exact HB.out))); (case aF => exact (fun k_ hk => (Nat.le_trans (below_size (by repeat (first | (with_reducible first | exact HB.out | apply below_alloc | apply pw_below_drewN | apply below_drew1) | exact HB.out))) hk))); (case aO => exact (by (with_reducible repeat (first | apply Kd.R_alloc | apply Kd.R_drewN | apply Kd.R_drew)); exact HO_4.out)); (case aS => exact (below_size (by repeat (first | (with_reducible first | exact HB.out | apply below_alloc | apply pw_below_drewN | apply below_drew1) | exact HB.out)))); (case aL => have := LMc12.out; omega); intro v165 w20 ho hb hg hat; rw [← Ny164.out] at ho; have n0_ := Aside0.mk (Kd.V_afterv (ok := (fun k_ => (P0_ k_ ∨ w.heap.size ≤ k_))) (by (with_reducible repeat (first | apply Kd.V_alloc | apply Kd.V_drewN | apply Kd.V_drew)); exact HO_6.out) hg hat); have n1_ := Aside0.mk (Kd.V_afterv (ok := (fun k_ => (P0_ k_ ∨ w.heap.size ≤ k_))) (by (with_reducible repeat (first | apply Kd.V_alloc | apply Kd.V_drewN | apply Kd.V_drew)); exact HO162.out) hg hat); have n2_ := Aside0.mk (hb); have n3_ := Aside0.mk (ho); clear HO_6; clear HO162; clear HB; clear HO_4; have HO_6 := n0_; have HO162 := n1_; have HB := n2_; have HO166 := n3_; clear n0_ n1_ n2_ n3_; clear ho hb hg hat; have q21 : (8 : Int) ≤ ((y153.length : Int) : Int) := of_decide_eq_true (by first | (with_reducible assumption) | assumption); obtain ⟨i021, hi021, _, hsz21, _⟩ := info_parts info5; have hroom21 : y153.length ≤ c7 := (Kd.V_reads' HO_6.out).2.1; have hC21 : Kd.F (Kd.int .u8) _ _ A7 y153.length y153 := (Kd.V_at (base := w.heap.size) HO_6.out).2.2; have hcut21 := cut_from (P := Tryd.prog) 36 5 .i64 Tryd.underlying36 hi021 1 hsz21 A7 y153.length c7 8 (by omega) q21; have hr21 := Kd.F_cut (m := (8 : Int).toNat) (c := c7) hC21 (by omega) hroom21; obtain ⟨A21, hA21⟩ : ∃ A1, A1 = (if c7 = (8 : Int).toNat then A7 else (A7 : Option Addr).map (·.add ((8 : Int).toNat * 1))) := ⟨_, rfl⟩; obtain ⟨c21, hc21⟩ : ∃ c1, c1 = c7 - (8 : Int).toNat := ⟨_, rfl⟩; have hy21 : y167.length = y153.length - (8 : Int).toNat := (by rw [Ny167.out, List.length_drop] <;> omega); rw [show (y153).drop (8 : Int).toNat = y167 from Ny167.out.symm] at hr21; replace hr21 : Kd.F (Kd.int .u8) _ _ A21 y167.length y167 := (by rw [hA21]; exact hr21); rw [← hy21, ← hA21, ← hc21] at hcut21; have HO171 := Aside0.mk (show Kd.V (Kd.int .u8) 5 _ w.heap.size _ (.slice A21 y167.length c21) y167 from Kd.V_mk (by rw [hy21, hc21]; exact Nat.sub_le_sub_right hroom21 _) hr21); have HC171 := Aside0.mk (show y167.length ≤ c21 from by rw [hy21, hc21]; exact Nat.sub_le_sub_right hroom21 _); clear hr21 hC21 hroom21 hi021 hsz21 hc21; have KY21 := Aside0.mk hy21; have KA21 := Aside0.mk hA21; clear hy21 hA21; replace q21 := eq_true q21; obtain ⟨Ao22, co22, eo22⟩ := Kd.R_slice HO166.out; subst eo22)))
                        go_roundg kj4
                        case measure => have := HK1.out; have := HJ4.out; omega
                        case rel => exact ⟨(y167), (y164), H', ⟨by have := HK1.out; have := HJ4.out; omega⟩, ⟨by (with_reducible repeat (first | apply Kd.V_alloc | apply Kd.V_drewN | apply Kd.V_drew)); exact HO171.out⟩, ⟨by (with_reducible repeat (first | apply Kd.R_alloc | apply Kd.R_drewN | apply Kd.R_drew)); exact HO166.out⟩, ⟨by repeat (first | (with_reducible first | exact HB.out | apply below_alloc | apply pw_below_drewN | apply below_drew1) | exact HB.out)⟩⟩
                    · rw [if_neg c12] at H
                      exact absurd H (by simp)
                  · rw [if_neg c10] at H
                    exact absurd H (by simp)
                · replace c9 := Bool.eq_false_iff.mpr c9
                  subst c9
                  have H1 : (if (rd x0_1 0) = 2 then (pack_Decode.j2 kj4 x4_1 y153 (decide ((y153.length : Int) ≥ 2))) else (pack_Decode.j2 kj4 x4_1 y153 false)) = some (r1, r2) := by rw [if_neg (show ¬ (false = true) by decide)] at H; exact H
                  clear H
                  have H := H1
                  clear H1
                  have HC23 := Aside0.mk H
                  clear H
                  go_upto_region 8 with (fail)
                  repeat (go_quiet (fail); go_upto_region 8 with (fail))
                  go_cut [34] (fun v34 wc => ∃ (kq : Nat) (x34_22 : Bool), v34 = .bool x34_22 ∧ Aside0 (pack_Decode.j2 kq x4_1 y153 x34_22 = some (r1, r2)) ∧ Aside0 (kq ≤ kj4) ∧ Aside0 (Kd.R k77 77 wc w.heap.size (fun k_ => (w.heap.size ≤ k_)) u4 x4_1) ∧ Aside0 (Kd.V (Kd.int .u8) 5 wc w.heap.size (fun k_ => (P0_ k_ ∨ w.heap.size ≤ k_) ∧ some k_ ≠ (u4 : Value).ownBlock) (.slice A7 y153.length c7) y153) ∧ Aside0 (Below w.heap.size w wc))
                  case first =>
                    have H := HC23.out
                    clear HC23
                    by_cases c24 : (rd x0_1 0) = 2
                    · rw [if_pos c24] at H
                      have c24b0 : ((rd x0_1 0) == 2) = true := beq_iff_eq.mpr c24
                      have c24b1 : ((rd x0_1 0) != 2) = false := bne_eq_false_iff_eq.mpr c24
                      clear c24
                      (first | rw [c24b0] | (simp only [i64_w, i32_w]; rw [c24b0]) | skip)
                      have H' := Aside0.mk H
                      clear H
                      go_wp2
                      repeat (go_quiet (fail); try go_wp2)
                      go_meet
                      case rel => exact ⟨_, (decide ((y153.length : Int) ≥ 2)), (by first | rfl | (simp; done) | (simp [*]; done)), H', ⟨by have := HK1.out; have := HJ4.out; first | omega | exact Nat.le_refl _⟩, ⟨by (with_reducible repeat (first | apply Kd.R_alloc | apply Kd.R_drewN | apply Kd.R_drew)); exact HO_4.out⟩, ⟨by (with_reducible repeat (first | apply Kd.V_alloc | apply Kd.V_drewN | apply Kd.V_drew)); exact HO_6.out⟩, ⟨by repeat (first | (with_reducible first | exact HB.out | apply below_alloc | apply pw_below_drewN | apply below_drew1) | exact HB.out)⟩⟩
                    · rw [if_neg c24] at H
                      have c24b0 : ((rd x0_1 0) == 2) = false := beq_eq_false_iff_ne.mpr c24
                      have c24b1 : ((rd x0_1 0) != 2) = true := bne_iff_ne.mpr c24
                      (first | rw [c24b0] | (simp only [i64_w, i32_w]; rw [c24b0]) | skip)
                      have H' := Aside0.mk H
                      clear H
                      go_wp2
                      repeat (go_quiet (fail); try go_wp2)
                      go_meet
                      case rel => exact ⟨_, (false), (by first | rfl | (simp; done) | (simp [*]; done)), H', ⟨by have := HK1.out; have := HJ4.out; first | omega | exact Nat.le_refl _⟩, ⟨by (with_reducible repeat (first | apply Kd.R_alloc | apply Kd.R_drewN | apply Kd.R_drew)); exact HO_4.out⟩, ⟨by (with_reducible repeat (first | apply Kd.V_alloc | apply Kd.V_drewN | apply Kd.V_drew)); exact HO_6.out⟩, ⟨by repeat (first | (with_reducible first | exact HB.out | apply below_alloc | apply pw_below_drewN | apply below_drew1) | exact HB.out)⟩⟩
                  case rest =>
                    clear HC23
                    try clear c1
                    try clear p1
                    try clear q1
                    try clear hx1
                    try clear qi1
                    try clear c2
                    try clear c2b0
                    try clear c2b1
                    try clear p2
                    try clear q2
                    try clear c3
                    try clear c3b0
                    try clear c3b1
                    try clear c4
                    try clear c4b0
                    try clear c4b1
                    try clear c6
                    try clear p6
                    try clear c7
                    try clear q7
                    try clear c8
                    try clear c8b0
                    try clear c8b1
                    try clear c9
                    try clear c10
                    try clear c10b0
                    try clear c10b1
                    try clear c12
                    try clear c13
                    try clear c13b0
                    try clear c14
                    try clear c14b0
                    try clear c14b1
                    try clear p15
                    try clear q15
                    try clear hx15
                    try clear qi15
                    try clear c17
                    try clear q17
                    try clear q19
                    try clear c21
                    try clear q21
                    try clear c24
                    try clear c24b0
                    try clear c24b1
                    try clear hx152_0
                    try clear p1
                    try clear p152
                    try clear p2
                    try clear q1
                    try clear q15
                    try clear q152
                    try clear q17
                    try clear q19
                    try clear q21
                    try clear q7
                    obtain ⟨kq, x34_22, rfl, HA, HJ22, HO_4, HO_6, HB⟩ := hcut
                    cases kq with
                    | zero => exact absurd HA.out (by simp [pack_Decode.j2])
                    | succ kj22 =>
                      have H := HA.out
                      clear HA
                      simp only [pack_Decode.j2] at H
                      by_cases c25 : x34_22 = true
                      · subst c25
                        have H1 : (if 2 ≤ (y153.length : Int) then ((pack_get.f kj22 (y153.take 2)).bind fun t177 => (if (wrap64 (t177)) > 50000 then (pack_Decode.j3 kj22 x4_1 y153 (wrap64 (t177)) true) else (pack_Decode.j3 kj22 x4_1 y153 (wrap64 (t177)) (decide ((wrap64 (t177)) > (wrap64 ((y153.length : Int) - 2))))))) else (none)) = some (r1, r2) := by rw [if_pos rfl] at H; exact H
                        clear H
                        have H := H1
                        clear H1
                        by_cases c26 : 2 ≤ (y153.length : Int)
                        · rw [if_pos c26] at H
                          have c26b0 := eq_true c26
                          have c26b1 : decide (2 ≤ (y153.length : Int)) = true := decide_eq_true c26
                          clear c26
                          obtain ⟨y172, hy172⟩ : ∃ y_ : List Int, y_ = (y153.take 2) := ⟨_, rfl⟩
                          replace H : ((pack_get.f kj22 y172).bind fun t177 => (if (wrap64 (t177)) > 50000 then (pack_Decode.j3 kj22 x4_1 y153 (wrap64 (t177)) true) else (pack_Decode.j3 kj22 x4_1 y153 (wrap64 (t177)) (decide ((wrap64 (t177)) > (wrap64 ((y153.length : Int) - 2))))))) = some (r1, r2) := by first | (rw [hy172]; with_reducible exact H) | (have H2_ := (Option.bind_some _ _).symm.trans H; rw [hy172]; with_reducible exact H2_) | (have H2_ := (Option.bind_some _ _).symm.trans H; with_reducible exact H2_) | with_reducible exact H | (rw [hy172]; exact H) | exact H
                          have Ny172 := Aside0.mk hy172
                          clear hy172
                          replace H := Option.bind_eq_some_iff.mp H
                          obtain ⟨t177, A270, H⟩ := H
                          replace H : (if (wrap64 (t177)) > 50000 then (pack_Decode.j3 kj22 x4_1 y153 (wrap64 (t177)) true) else (pack_Decode.j3 kj22 x4_1 y153 (wrap64 (t177)) (decide ((wrap64 (t177)) > (wrap64 ((y153.length : Int) - 2)))))) = some (r1, r2) := H
                          have A27 := Aside0.mk A270
                          clear A270
                          have HC28 := Aside0.mk H
                          clear H
                          have q29 : (2 : Int) ≤ ((y153.length : Int) : Int) := of_decide_eq_true (by first | (with_reducible assumption) | assumption)
                          obtain ⟨i029, hi029, _, hsz29, _⟩ := info_parts info5
                          have hroom29 : y153.length ≤ c7 := (Kd.V_reads' HO_6.out).2.1
                          have hC29 : Kd.F (Kd.int .u8) _ _ A7 y153.length y153 := (Kd.V_at (base := w.heap.size) HO_6.out).2.2
                          have hcut29 := cut_to (P := Tryd.prog) 36 5 .i64 Tryd.underlying36 hi029 A7 y153.length c7 2 (by omega) q29 hroom29
                          have hr29 := Kd.F_take (m := 2) hC29 (by omega)
                          have hy29 : y172.length = (2 : Int).toNat := (by rw [Ny172.out, List.length_take]; omega)
                          rw [← Ny172.out] at hr29
                          rw [← hy29] at hcut29
                          have HO176 := Aside0.mk (show Kd.V (Kd.int .u8) 5 _ w.heap.size _ (.slice A7 y172.length c7) y172 from Kd.V_mk (by omega) hr29)
                          have HC176 := Aside0.mk (show y172.length ≤ c7 from by omega)
                          clear hr29 hC29 hroom29 hi029 hsz29
                          have KY29 := Aside0.mk hy29
                          clear hy29
                          replace q29 := eq_true q29
                          go_upto_region 10 with (first | (go_at_call 66; (with_reducible refine (pack_get.calls kj22 _ _ y172 t177 _ ?side1 ?side2 A27.out).mono ?_); (case side1 => repeat (first | exact (Kd.V_reads' HO176.out).2.2 | (with_reducible refine Kd.C_alloc ?_ _) | (with_reducible refine Kd.C_drewN ?_ _) | (with_reducible refine Kd.C_drew ?_))); (case side2 => exact (Kd.V_reads' HO176.out).2.1); rintro e w' ⟨rfl, ⟨nd, rfl⟩⟩; (try first | exact ⟨rfl, _, World.drewN_drewN _ _ _⟩ | exact ⟨rfl, _, Eq.trans (World.drewN_drewN _ _ _) (congrArg (World.drewN _) (Nat.add_assoc _ _ _))⟩)))
                          repeat (go_quiet (first | (go_at_call 66; (with_reducible refine (pack_get.calls kj22 _ _ y172 t177 _ ?side1 ?side2 A27.out).mono ?_); (case side1 => repeat (first | exact (Kd.V_reads' HO176.out).2.2 | (with_reducible refine Kd.C_alloc ?_ _) | (with_reducible refine Kd.C_drewN ?_ _) | (with_reducible refine Kd.C_drew ?_))); (case side2 => exact (Kd.V_reads' HO176.out).2.1); rintro e w' ⟨rfl, ⟨nd, rfl⟩⟩; (try first | exact ⟨rfl, _, World.drewN_drewN _ _ _⟩ | exact ⟨rfl, _, Eq.trans (World.drewN_drewN _ _ _) (congrArg (World.drewN _) (Nat.add_assoc _ _ _))⟩))); go_upto_region 10 with (first | (go_at_call 66; (with_reducible refine (pack_get.calls kj22 _ _ y172 t177 _ ?side1 ?side2 A27.out).mono ?_); (case side1 => repeat (first | exact (Kd.V_reads' HO176.out).2.2 | (with_reducible refine Kd.C_alloc ?_ _) | (with_reducible refine Kd.C_drewN ?_ _) | (with_reducible refine Kd.C_drew ?_))); (case side2 => exact (Kd.V_reads' HO176.out).2.1); rintro e w' ⟨rfl, ⟨nd, rfl⟩⟩; (try first | exact ⟨rfl, _, World.drewN_drewN _ _ _⟩ | exact ⟨rfl, _, Eq.trans (World.drewN_drewN _ _ _) (congrArg (World.drewN _) (Nat.add_assoc _ _ _))⟩))))
                          (try simp only [Act.put, List.setIfInBounds_toArray, List.set_cons_zero, List.set_cons_succ])
                          go_cut [54] (fun v54 wc => ∃ (kq : Nat) (x54_27 : Bool), v54 = .bool x54_27 ∧ Aside0 (pack_Decode.j3 kq x4_1 y153 (wrap64 (t177)) x54_27 = some (r1, r2)) ∧ Aside0 (kq ≤ kj22) ∧ Aside0 (Kd.R k77 77 wc w.heap.size (fun k_ => (w.heap.size ≤ k_)) u4 x4_1) ∧ Aside0 (Kd.V (Kd.int .u8) 5 wc w.heap.size (fun k_ => (P0_ k_ ∨ w.heap.size ≤ k_) ∧ some k_ ≠ (u4 : Value).ownBlock) (.slice A7 y153.length c7) y153) ∧ Aside0 (Below w.heap.size w wc))
                          case first =>
                            have H := HC28.out
                            clear HC28
                            by_cases c30 : (wrap64 (t177)) > 50000
                            · rw [if_pos c30] at H
                              have c30b0 : decide (50000 < (wrap64 (t177))) = true := decide_eq_true c30
                              clear c30
                              (first | rw [c30b0] | (simp only [i64_w, i32_w]; rw [c30b0]) | skip)
                              have H' := Aside0.mk H
                              clear H
                              go_wp2
                              repeat (go_quiet (fail); try go_wp2)
                              go_meet
                              case rel => exact ⟨_, (true), (by first | rfl | (simp; done) | (simp [*]; done)), H', ⟨by have := HK1.out; have := HJ4.out; have := HJ22.out; first | omega | exact Nat.le_refl _⟩, ⟨by (with_reducible repeat (first | apply Kd.R_alloc | apply Kd.R_drewN | apply Kd.R_drew)); exact HO_4.out⟩, ⟨by (with_reducible repeat (first | apply Kd.V_alloc | apply Kd.V_drewN | apply Kd.V_drew)); exact HO_6.out⟩, ⟨by repeat (first | (with_reducible first | exact HB.out | apply below_alloc | apply pw_below_drewN | apply below_drew1) | exact HB.out)⟩⟩
                            · rw [if_neg c30] at H
                              have c30b0 : decide (50000 < (wrap64 (t177))) = false := decide_eq_false c30
                              clear c30
                              (first | rw [c30b0] | (simp only [i64_w, i32_w]; rw [c30b0]) | skip)
                              have H' := Aside0.mk H
                              clear H
                              go_wp2
                              repeat (go_quiet (fail); try go_wp2)
                              go_meet
                              case rel => exact ⟨_, (decide ((wrap64 (t177)) > (wrap64 ((y153.length : Int) - 2)))), (by first | rfl | (simp; done) | (simp [*]; done)), H', ⟨by have := HK1.out; have := HJ4.out; have := HJ22.out; first | omega | exact Nat.le_refl _⟩, ⟨by (with_reducible repeat (first | apply Kd.R_alloc | apply Kd.R_drewN | apply Kd.R_drew)); exact HO_4.out⟩, ⟨by (with_reducible repeat (first | apply Kd.V_alloc | apply Kd.V_drewN | apply Kd.V_drew)); exact HO_6.out⟩, ⟨by repeat (first | (with_reducible first | exact HB.out | apply below_alloc | apply pw_below_drewN | apply below_drew1) | exact HB.out)⟩⟩
                          case rest =>
                            clear HC28
                            try clear c1
                            try clear p1
                            try clear q1
                            try clear hx1
                            try clear qi1
                            try clear c2
                            try clear c2b0
                            try clear c2b1
                            try clear p2
                            try clear q2
                            try clear c3
                            try clear c3b0
                            try clear c3b1
                            try clear c4
                            try clear c4b0
                            try clear c4b1
                            try clear c6
                            try clear p6
                            try clear c7
                            try clear q7
                            try clear c8
                            try clear c8b0
                            try clear c8b1
                            try clear c9
                            try clear c10
                            try clear c10b0
                            try clear c10b1
                            try clear c12
                            try clear c13
                            try clear c13b0
                            try clear c14
                            try clear c14b0
                            try clear c14b1
                            try clear p15
                            try clear q15
                            try clear hx15
                            try clear qi15
                            try clear c17
                            try clear q17
                            try clear q19
                            try clear c21
                            try clear q21
                            try clear c24
                            try clear c24b0
                            try clear c24b1
                            try clear c25
                            try clear c26
                            try clear c26b0
                            try clear c26b1
                            try clear q29
                            try clear c30
                            try clear c30b0
                            try clear hx152_0
                            try clear p1
                            try clear p15
                            try clear p152
                            try clear p2
                            try clear p6
                            try clear q1
                            try clear q15
                            try clear q152
                            try clear q17
                            try clear q19
                            try clear q2
                            try clear q21
                            try clear q29
                            try clear q7
                            obtain ⟨kq, x54_27, rfl, HA, HJ27, HO_4, HO_6, HB⟩ := hcut
                            cases kq with
                            | zero => exact absurd HA.out (by simp [pack_Decode.j3])
                            | succ kj27 =>
                              have H := HA.out
                              clear HA
                              simp only [pack_Decode.j3] at H
                              by_cases c31 : x54_27 = true
                              · subst c31
                                have H1 : (some (([] : List (S77)), 2)) = some (r1, r2) := by rw [if_pos rfl] at H; exact H
                                clear H
                                have H := H1
                                clear H1
                                simp only [Option.some.injEq, Prod.mk.injEq] at H
                                obtain ⟨rfl, rfl⟩ := H
                                go_wp2
                                repeat (go_quiet (fail); try go_wp2)
                                go_ret2
                                exact ⟨_, by first | rfl | (simp [errW_none, errW_some] <;> rfl) | (simp [*, errW_none, errW_some] <;> rfl), by first | exact Kd.R_nil _ _ _ _ _ | exact Kd.N_nil _ _ _ _ _ | exact Kd.V_nil _ _ _ _ _ | exact Kd.Q_nil _ _ _ _ _ | exact Kd.S_nil _ _ _ _ _, by repeat (first | (with_reducible first | exact HB.out | apply below_alloc | apply pw_below_drewN | apply below_drew1) | exact HB.out)⟩
                              · replace c31 := Bool.eq_false_iff.mpr c31
                                subst c31
                                have H1 : (if 2 ≤ (wrap64 (2 + (wrap64 (t177)))) then (if (wrap64 (2 + (wrap64 (t177)))) ≤ (y153.length : Int) then (if x4_1.length < 4398046511104 then ((some (x4_1 ++ [(⟨2, 0, strOfNums ((y153.take ((wrap64 (2 + (wrap64 (t177)))) : Int).toNat).drop 2)⟩ : S77)] : List (S77))).bind fun y183 => (if 0 ≤ (wrap64 (2 + (wrap64 (t177)))) then (if (y183.length : Int) > 4000 then (some (([] : List (S77)), 2)) else (pack_Decode.l0 kj27 (y153.drop ((wrap64 (2 + (wrap64 (t177)))) : Int).toNat) y183)) else (none))) else (none)) else (none)) else (none)) = some (r1, r2) := by rw [if_neg (show ¬ (false = true) by decide)] at H; exact H
                                clear H
                                have H := H1
                                clear H1
                                by_cases c32 : 2 ≤ (wrap64 (2 + (wrap64 (t177))))
                                · rw [if_pos c32] at H
                                  have c32b0 := eq_true c32
                                  have c32b1 : decide (2 ≤ (wrap64 (2 + (wrap64 (t177))))) = true := decide_eq_true c32
                                  by_cases c33 : (wrap64 (2 + (wrap64 (t177)))) ≤ (y153.length : Int)
                                  · rw [if_pos c33] at H
                                    have c33b0 := eq_true c33
                                    have c33b1 : decide ((wrap64 (2 + (wrap64 (t177)))) ≤ (y153.length : Int)) = true := decide_eq_true c33
                                    obtain ⟨y178, hy178⟩ : ∃ y_ : List Int, y_ = ((y153.take ((wrap64 (2 + (wrap64 (t177)))) : Int).toNat).drop 2) := ⟨_, rfl⟩
                                    replace H : (if x4_1.length < 4398046511104 then ((some (x4_1 ++ [(⟨2, 0, strOfNums y178⟩ : S77)] : List (S77))).bind fun y183 => (if 0 ≤ (wrap64 (2 + (wrap64 (t177)))) then (if (y183.length : Int) > 4000 then (some (([] : List (S77)), 2)) else (pack_Decode.l0 kj27 (y153.drop ((wrap64 (2 + (wrap64 (t177)))) : Int).toNat) y183)) else (none))) else (none)) = some (r1, r2) := by first | (rw [hy178]; with_reducible exact H) | (have H2_ := (Option.bind_some _ _).symm.trans H; rw [hy178]; with_reducible exact H2_) | (have H2_ := (Option.bind_some _ _).symm.trans H; with_reducible exact H2_) | with_reducible exact H | (rw [hy178]; exact H) | exact H
                                    have Ny178 := Aside0.mk hy178
                                    clear hy178
                                    by_cases c34 : x4_1.length < 4398046511104
                                    · rw [if_pos c34] at H
                                      have LMc34 := Aside0.mk c34
                                      clear c34
                                      obtain ⟨y183, hy183⟩ : ∃ y_ : List (S77), y_ = (x4_1 ++ [(⟨2, 0, strOfNums y178⟩ : S77)]) := ⟨_, rfl⟩
                                      replace H : (if 0 ≤ (wrap64 (2 + (wrap64 (t177)))) then (if (y183.length : Int) > 4000 then (some (([] : List (S77)), 2)) else (pack_Decode.l0 kj27 (y153.drop ((wrap64 (2 + (wrap64 (t177)))) : Int).toNat) y183)) else (none)) = some (r1, r2) := by first | (rw [hy183]; with_reducible exact H) | (have H2_ := (Option.bind_some _ _).symm.trans H; rw [hy183]; with_reducible exact H2_) | (have H2_ := (Option.bind_some _ _).symm.trans H; with_reducible exact H2_) | with_reducible exact H | (rw [hy183]; exact H) | exact H
                                      have Ny183 := Aside0.mk hy183
                                      clear hy183
                                      obtain ⟨ji35, hji35⟩ : ∃ j_ : Int, (wrap64 (2 + (wrap64 (t177)))) = j_ := ⟨_, rfl⟩
                                      replace H : (if 0 ≤ (ji35) then (if (y183.length : Int) > 4000 then (some (([] : List (S77)), 2)) else (pack_Decode.l0 kj27 (y153.drop ((ji35) : Int).toNat) y183)) else (none)) = some (r1, r2) := by first | (rw [hji35] at H; exact H) | (simp only [hji35] at H ⊢; exact H)
                                      (try rw [hji35] at c32b0)
                                      (try rw [hji35] at c32b1)
                                      (try rw [hji35] at c32)
                                      (try rw [hji35] at c33b0)
                                      (try rw [hji35] at c33b1)
                                      (try rw [hji35] at c33)
                                      (try rw [hji35] at Ny178)
                                      (try rw [hji35] at Ny178)
                                      have hji35w : (IntKind.i64.wrap (2 + (wrap64 (t177)))) = ji35 := (i64_w _).trans hji35
                                      by_cases c36 : 0 ≤ (ji35)
                                      · rw [if_pos c36] at H
                                        have c36b0 := eq_true c36
                                        have c36b1 : decide (0 ≤ (ji35)) = true := decide_eq_true c36
                                        clear c36
                                        have c37b0 := eq_true (of_decide_eq_true (by first | (with_reducible assumption) | assumption) : (ji35) ≤ (y153.length : Int))
                                        obtain ⟨y186, hy186⟩ : ∃ y_ : List Int, y_ = (y153.drop ((ji35) : Int).toNat) := ⟨_, rfl⟩
                                        replace H : (if (y183.length : Int) > 4000 then (some (([] : List (S77)), 2)) else (pack_Decode.l0 kj27 y186 y183)) = some (r1, r2) := by first | (rw [hy186]; with_reducible exact H) | (have H2_ := (Option.bind_some _ _).symm.trans H; rw [hy186]; with_reducible exact H2_) | (have H2_ := (Option.bind_some _ _).symm.trans H; with_reducible exact H2_) | with_reducible exact H | (rw [hy186]; exact H) | exact H
                                        have Ny186 := Aside0.mk hy186
                                        clear hy186
                                        by_cases c38 : (y183.length : Int) > 4000
                                        · rw [if_pos c38] at H
                                          have c38b0 : decide (4000 < (y183.length : Int)) = true := decide_eq_true c38
                                          have c38b1 : decide (4000 < y183.length) = true := decide_eq_true (by omega)
                                          clear c38
                                          simp only [Option.some.injEq, Prod.mk.injEq] at H
                                          obtain ⟨rfl, rfl⟩ := H
                                          have q39 : ((ji35) : Int) ≤ ((y153.length : Int) : Int) := of_decide_eq_true (by first | (with_reducible assumption) | assumption)
                                          obtain ⟨i039, hi039, _, hsz39, _⟩ := info_parts info5
                                          have hroom39 : y153.length ≤ c7 := (Kd.V_reads' HO_6.out).2.1
                                          have hC39 : Kd.F (Kd.int .u8) _ _ A7 y153.length y153 := (Kd.V_at (base := w.heap.size) HO_6.out).2.2
                                          have ql39 : (2 : Int) ≤ ((ji35) : Int) := of_decide_eq_true (by first | (with_reducible assumption) | assumption)
                                          have hcut39 := cut_mid (P := Tryd.prog) 36 5 .i64 .i64 Tryd.underlying36 hi039 1 hsz39 A7 y153.length c7 2 (ji35) (by omega) ql39 q39 hroom39
                                          have hr39 := Kd.F_mid (lo := (2 : Int).toNat) (hi := ((ji35) : Int).toNat) (c := c7) hC39 (by omega) (by omega) hroom39
                                          obtain ⟨A39, hA39⟩ : ∃ A1, A1 = (if c7 = (2 : Int).toNat then A7 else (A7 : Option Addr).map (·.add ((2 : Int).toNat * 1))) := ⟨_, rfl⟩
                                          obtain ⟨c39, hc39⟩ : ∃ c1, c1 = c7 - (2 : Int).toNat := ⟨_, rfl⟩
                                          have hy39 : y178.length = ((ji35) : Int).toNat - (2 : Int).toNat := (by rw [Ny178.out, List.length_drop, List.length_take] <;> omega)
                                          rw [show ((y153).take ((ji35) : Int).toNat).drop (2 : Int).toNat = y178 from Ny178.out.symm] at hr39
                                          replace hr39 : Kd.F (Kd.int .u8) _ _ A39 y178.length y178 := (by rw [hA39]; exact hr39)
                                          rw [← hy39, ← hA39, ← hc39] at hcut39
                                          have HO182 := Aside0.mk (show Kd.V (Kd.int .u8) 5 _ w.heap.size _ (.slice A39 y178.length c39) y178 from Kd.V_mk (by rw [hy39, hc39]; exact Nat.sub_le_sub_right (Nat.le_trans (by omega) hroom39) _) hr39)
                                          have HC182 := Aside0.mk (show y178.length ≤ c39 from by rw [hy39, hc39]; exact Nat.sub_le_sub_right (Nat.le_trans (by omega) hroom39) _)
                                          clear hr39 hC39 hroom39 hi039 hsz39 hc39
                                          have KY39 := Aside0.mk hy39
                                          have KA39 := Aside0.mk hA39
                                          clear hy39 hA39
                                          replace q39 := eq_true q39
                                          have hcv40 := fun c_ => Kd.C_string (c := c_) (P := Tryd.prog) Tryd.underlying36 Tryd.underlying5 Tryd.underlying9 (Kd.V_reads' HO182.out).2.2
                                          go_wp2_with (first | ((with_reducible refine gate_builtin (b := .append) (xs := #[.tmp 55, .tmp 62]) rfl ?_); (try (refine gate_guard (by rfl) ?_; dsimp only)); at_builtin; refine Kd.R_append k77 (w0 := w) w.heap.size rfl (.tmp 55) (.tmp 62) 74 77 (.agg #[(.int .i64 0), (.int .i64 0), (.string ⟨#[]⟩)]) 32 rfl Tryd.underlying74 info77 rfl (by decide) (by omega) u4 x4_1 (⟨2, 0, strOfNums y178⟩ : S77) [.int .i64 2, .int .i64 0, .string (strOfNums y178)] (fun k_ => (w.heap.size ≤ k_)) (fun _ => False) rfl rfl ?aP (fun _ hk => hk.elim) ?aF ?aO ?aB ?aS ?aL ?_; (case aP => exact k77_mkM _ _ _ (⟨2, 0, strOfNums y178⟩ : S77)); (case aB => exact (by repeat (first | (with_reducible first | exact HB.out | apply below_alloc | apply pw_below_drewN | apply below_drew1) | exact HB.out))); (case aF => exact (fun k_ hk => (Nat.le_trans (below_size (by repeat (first | (with_reducible first | exact HB.out | apply below_alloc | apply pw_below_drewN | apply below_drew1) | exact HB.out))) hk))); (case aO => exact (by (with_reducible repeat (first | apply Kd.R_alloc | apply Kd.R_drewN | apply Kd.R_drew)); exact HO_4.out)); (case aS => exact (below_size (by repeat (first | (with_reducible first | exact HB.out | apply below_alloc | apply pw_below_drewN | apply below_drew1) | exact HB.out)))); (case aL => have := LMc34.out; omega); intro v184 w41 ho hb hg hat; rw [← Ny183.out] at ho; have n0_ := Aside0.mk (Kd.V_afterv (ok := (fun k_ => (P0_ k_ ∨ w.heap.size ≤ k_))) (by (with_reducible repeat (first | apply Kd.V_alloc | apply Kd.V_drewN | apply Kd.V_drew)); exact HO_6.out) hg hat); have n1_ := Aside0.mk (Kd.V_afterv (ok := (fun k_ => (P0_ k_ ∨ w.heap.size ≤ k_))) (by (with_reducible repeat (first | apply Kd.V_alloc | apply Kd.V_drewN | apply Kd.V_drew)); exact HO182.out) hg hat); have n2_ := Aside0.mk (hb); have n3_ := Aside0.mk (ho); clear HO_6; clear HO182; clear HB; clear HO_4; have HO_6 := n0_; have HO182 := n1_; have HB := n2_; have HO185 := n3_; clear n0_ n1_ n2_ n3_; clear ho hb hg hat; have q42 : ((ji35) : Int) ≤ ((y153.length : Int) : Int) := of_decide_eq_true (by first | (with_reducible assumption) | assumption); obtain ⟨i042, hi042, _, hsz42, _⟩ := info_parts info5; have hroom42 : y153.length ≤ c7 := (Kd.V_reads' HO_6.out).2.1; have hC42 : Kd.F (Kd.int .u8) _ _ A7 y153.length y153 := (Kd.V_at (base := w.heap.size) HO_6.out).2.2; have q042 : (0 : Int) ≤ ((ji35) : Int) := of_decide_eq_true (by first | (with_reducible assumption) | assumption); have hcut42 := cut_from (P := Tryd.prog) 36 5 .i64 Tryd.underlying36 hi042 1 hsz42 A7 y153.length c7 (ji35) q042 q42; have hr42 := Kd.F_cut (m := ((ji35) : Int).toNat) (c := c7) hC42 (by omega) hroom42; obtain ⟨A42, hA42⟩ : ∃ A1, A1 = (if c7 = ((ji35) : Int).toNat then A7 else (A7 : Option Addr).map (·.add (((ji35) : Int).toNat * 1))) := ⟨_, rfl⟩; obtain ⟨c42, hc42⟩ : ∃ c1, c1 = c7 - ((ji35) : Int).toNat := ⟨_, rfl⟩; have hy42 : y186.length = y153.length - ((ji35) : Int).toNat := (by rw [Ny186.out, List.length_drop] <;> omega); rw [show (y153).drop ((ji35) : Int).toNat = y186 from Ny186.out.symm] at hr42; replace hr42 : Kd.F (Kd.int .u8) _ _ A42 y186.length y186 := (by rw [hA42]; exact hr42); rw [← hy42, ← hA42, ← hc42] at hcut42; have HO190 := Aside0.mk (show Kd.V (Kd.int .u8) 5 _ w.heap.size _ (.slice A42 y186.length c42) y186 from Kd.V_mk (by rw [hy42, hc42]; exact Nat.sub_le_sub_right hroom42 _) hr42); have HC190 := Aside0.mk (show y186.length ≤ c42 from by rw [hy42, hc42]; exact Nat.sub_le_sub_right hroom42 _); clear hr42 hC42 hroom42 hi042 hsz42 hc42; have KY42 := Aside0.mk hy42; have KA42 := Aside0.mk hA42; clear hy42 hA42; replace q42 := eq_true q42; obtain ⟨Ao43, co43, eo43⟩ := Kd.R_slice HO185.out; subst eo43))
                                          repeat (go_quiet (first | ((with_reducible refine gate_builtin (b := .append) (xs := #[.tmp 55, .tmp 62]) rfl ?_); (try (refine gate_guard (by rfl) ?_; dsimp only)); at_builtin; refine Kd.R_append k77 (w0 := w) w.heap.size rfl (.tmp 55) (.tmp 62) 74 77 (.agg #[(.int .i64 0), (.int .i64 0), (.string ⟨#[]⟩)]) 32 rfl Tryd.underlying74 info77 rfl (by decide) (by omega) u4 x4_1 (⟨2, 0, strOfNums y178⟩ : S77) [.int .i64 2, .int .i64 0, .string (strOfNums y178)] (fun k_ => (w.heap.size ≤ k_)) (fun _ => False) rfl rfl ?aP (fun _ hk => hk.elim) ?aF ?aO ?aB ?aS ?aL ?_; (case aP => exact k77_mkM _ _ _ (⟨2, 0, strOfNums y178⟩ : S77)); (case aB => exact (by repeat (first | (with_reducible first | exact HB.out | apply below_alloc | apply pw_below_drewN | apply below_drew1) | exact HB.out))); (case aF => exact (fun k_ hk => (Nat.le_trans (below_size (by repeat (first | (with_reducible first | exact HB.out | apply below_alloc | apply pw_below_drewN | apply below_drew1) | exact HB.out))) hk))); (case aO => exact (by (with_reducible repeat (first | apply Kd.R_alloc | apply Kd.R_drewN | apply Kd.R_drew)); exact HO_4.out)); (case aS => exact (below_size (by repeat (first | (with_reducible first | exact HB.out | apply below_alloc | apply pw_below_drewN | apply below_drew1) | exact HB.out)))); (case aL => have := LMc34.out; omega); intro v184 w41 ho hb hg hat; rw [← Ny183.out] at ho; have n0_ := Aside0.mk (Kd.V_afterv (ok := (fun k_ => (P0_ k_ ∨ w.heap.size ≤ k_))) (by (with_reducible repeat (first | apply Kd.V_alloc | apply Kd.V_drewN | apply Kd.V_drew)); exact HO_6.out) hg hat); have n1_ := Aside0.mk (Kd.V_afterv (ok := (fun k_ => (P0_ k_ ∨ w.heap.size ≤ k_))) (by (with_reducible repeat (first | apply Kd.V_alloc | apply Kd.V_drewN | apply Kd.V_drew)); exact HO182.out) hg hat); have n2_ := Aside0.mk (hb); have n3_ := Aside0.mk (ho); clear HO_6; clear HO182; clear HB; clear HO_4; have HO_6 := n0_; have HO182 := n1_; have HB := n2_; have HO185 := n3_; clear n0_ n1_ n2_ n3_; clear ho hb hg hat; have q42 : ((ji35) : Int) ≤ ((y153.length : Int) : Int) := of_decide_eq_true (by first | (with_reducible assumption) | assumption); obtain ⟨i042, hi042, _, hsz42, _⟩ := info_parts info5; have hroom42 : y153.length ≤ c7 := (Kd.V_reads' HO_6.out).2.1; have hC42 : Kd.F (Kd.int .u8) _ _ A7 y153.length y153 := (Kd.V_at (base := w.heap.size) HO_6.out).2.2; have q042 : (0 : Int) ≤ ((ji35) : Int) := of_decide_eq_true (by first | (with_reducible assumption) | assumption); have hcut42 := cut_from (P := Tryd.prog) 36 5 .i64 Tryd.underlying36 hi042 1 hsz42 A7 y153.length c7 (ji35) q042 q42; have hr42 := Kd.F_cut (m := ((ji35) : Int).toNat) (c := c7) hC42 (by omega) hroom42; obtain ⟨A42, hA42⟩ : ∃ A1, A1 = (if c7 = ((ji35) : Int).toNat then A7 else (A7 : Option Addr).map (·.add (((ji35) : Int).toNat * 1))) := ⟨_, rfl⟩; obtain ⟨c42, hc42⟩ : ∃ c1, c1 = c7 - ((ji35) : Int).toNat := ⟨_, rfl⟩; have hy42 : y186.length = y153.length - ((ji35) : Int).toNat := (by rw [Ny186.out, List.length_drop] <;> omega); rw [show (y153).drop ((ji35) : Int).toNat = y186 from Ny186.out.symm] at hr42; replace hr42 : Kd.F (Kd.int .u8) _ _ A42 y186.length y186 := (by rw [hA42]; exact hr42); rw [← hy42, ← hA42, ← hc42] at hcut42; have HO190 := Aside0.mk (show Kd.V (Kd.int .u8) 5 _ w.heap.size _ (.slice A42 y186.length c42) y186 from Kd.V_mk (by rw [hy42, hc42]; exact Nat.sub_le_sub_right hroom42 _) hr42); have HC190 := Aside0.mk (show y186.length ≤ c42 from by rw [hy42, hc42]; exact Nat.sub_le_sub_right hroom42 _); clear hr42 hC42 hroom42 hi042 hsz42 hc42; have KY42 := Aside0.mk hy42; have KA42 := Aside0.mk hA42; clear hy42 hA42; replace q42 := eq_true q42; obtain ⟨Ao43, co43, eo43⟩ := Kd.R_slice HO185.out; subst eo43)); try go_wp2_with (first | ((with_reducible refine gate_builtin (b := .append) (xs := #[.tmp 55, .tmp 62]) rfl ?_); (try (refine gate_guard (by rfl) ?_; dsimp only)); at_builtin; refine Kd.R_append k77 (w0 := w) w.heap.size rfl (.tmp 55) (.tmp 62) 74 77 (.agg #[(.int .i64 0), (.int .i64 0), (.string ⟨#[]⟩)]) 32 rfl Tryd.underlying74 info77 rfl (by decide) (by omega) u4 x4_1 (⟨2, 0, strOfNums y178⟩ : S77) [.int .i64 2, .int .i64 0, .string (strOfNums y178)] (fun k_ => (w.heap.size ≤ k_)) (fun _ => False) rfl rfl ?aP (fun _ hk => hk.elim) ?aF ?aO ?aB ?aS ?aL ?_; (case aP => exact k77_mkM _ _ _ (⟨2, 0, strOfNums y178⟩ : S77)); (case aB => exact (by repeat (first | (with_reducible first | exact HB.out | apply below_alloc | apply pw_below_drewN | apply below_drew1) | exact HB.out))); (case aF => exact (fun k_ hk => (Nat.le_trans (below_size (by repeat (first | (with_reducible first | exact HB.out | apply below_alloc | apply pw_below_drewN | apply below_drew1) | exact HB.out))) hk))); (case aO => exact (by (with_reducible repeat (first | apply Kd.R_alloc | apply Kd.R_drewN | apply Kd.R_drew)); exact HO_4.out)); (case aS => exact (below_size (by repeat (first | (with_reducible first | exact HB.out | apply below_alloc | apply pw_below_drewN | apply below_drew1) | exact HB.out)))); (case aL => have := LMc34.out; omega); intro v184 w41 ho hb hg hat; rw [← Ny183.out] at ho; have n0_ := Aside0.mk (Kd.V_afterv (ok := (fun k_ => (P0_ k_ ∨ w.heap.size ≤ k_))) (by (with_reducible repeat (first | apply Kd.V_alloc | apply Kd.V_drewN | apply Kd.V_drew)); exact HO_6.out) hg hat); have n1_ := Aside0.mk (Kd.V_afterv (ok := (fun k_ => (P0_ k_ ∨ w.heap.size ≤ k_))) (by (with_reducible repeat (first | apply Kd.V_alloc | apply Kd.V_drewN | apply Kd.V_drew)); exact HO182.out) hg hat); have n2_ := Aside0.mk (hb); have n3_ := Aside0.mk (ho); clear HO_6; clear HO182; clear HB; clear HO_4; have HO_6 := n0_; have HO182 := n1_; have HB := n2_; have HO185 := n3_; clear n0_ n1_ n2_ n3_; clear ho hb hg hat; have q42 : ((ji35) : Int) ≤ ((y153.length : Int) : Int) := of_decide_eq_true (by first | (with_reducible assumption) | assumption); obtain ⟨i042, hi042, _, hsz42, _⟩ := info_parts info5; have hroom42 : y153.length ≤ c7 := (Kd.V_reads' HO_6.out).2.1; have hC42 : Kd.F (Kd.int .u8) _ _ A7 y153.length y153 := (Kd.V_at (base := w.heap.size) HO_6.out).2.2; have q042 : (0 : Int) ≤ ((ji35) : Int) := of_decide_eq_true (by first | (with_reducible assumption) | assumption); have hcut42 := cut_from (P := Tryd.prog) 36 5 .i64 Tryd.underlying36 hi042 1 hsz42 A7 y153.length c7 (ji35) q042 q42; have hr42 := Kd.F_cut (m := ((ji35) : Int).toNat) (c := c7) hC42 (by omega) hroom42; obtain ⟨A42, hA42⟩ : ∃ A1, A1 = (if c7 = ((ji35) : Int).toNat then A7 else (A7 : Option Addr).map (·.add (((ji35) : Int).toNat * 1))) := ⟨_, rfl⟩; obtain ⟨c42, hc42⟩ : ∃ c1, c1 = c7 - ((ji35) : Int).toNat := ⟨_, rfl⟩; have hy42 : y186.length = y153.length - ((ji35) : Int).toNat := (by rw [Ny186.out, List.length_drop] <;> omega); rw [show (y153).drop ((ji35) : Int).toNat = y186 from Ny186.out.symm] at hr42; replace hr42 : Kd.F (Kd.int .u8) _ _ A42 y186.length y186 := (by rw [hA42]; exact hr42); rw [← hy42, ← hA42, ← hc42] at hcut42; have HO190 := Aside0.mk (show Kd.V (Kd.int .u8) 5 _ w.heap.size _ (.slice A42 y186.length c42) y186 from Kd.V_mk (by rw [hy42, hc42]; exact Nat.sub_le_sub_right hroom42 _) hr42); have HC190 := Aside0.mk (show y186.length ≤ c42 from by rw [hy42, hc42]; exact Nat.sub_le_sub_right hroom42 _); clear hr42 hC42 hroom42 hi042 hsz42 hc42; have KY42 := Aside0.mk hy42; have KA42 := Aside0.mk hA42; clear hy42 hA42; replace q42 := eq_true q42; obtain ⟨Ao43, co43, eo43⟩ := Kd.R_slice HO185.out; subst eo43)))
                                          go_ret2
                                          exact ⟨_, by first | rfl | (simp [errW_none, errW_some] <;> rfl) | (simp only [← hji35]; first | rfl | (simp [errW_none, errW_some] <;> rfl)) | (simp [*, errW_none, errW_some] <;> rfl), by first | exact Kd.R_nil _ _ _ _ _ | exact Kd.N_nil _ _ _ _ _ | exact Kd.V_nil _ _ _ _ _ | exact Kd.Q_nil _ _ _ _ _ | exact Kd.S_nil _ _ _ _ _, by repeat (first | (with_reducible first | exact HB.out | apply below_alloc | apply pw_below_drewN | apply below_drew1) | exact HB.out)⟩
                                        · rw [if_neg c38] at H
                                          have c38b0 : decide (4000 < (y183.length : Int)) = false := decide_eq_false c38
                                          have c38b1 : decide (4000 < y183.length) = false := decide_eq_false (by omega)
                                          clear c38
                                          have H' := Aside0.mk H
                                          clear H
                                          have q44 : ((ji35) : Int) ≤ ((y153.length : Int) : Int) := of_decide_eq_true (by first | (with_reducible assumption) | assumption)
                                          obtain ⟨i044, hi044, _, hsz44, _⟩ := info_parts info5
                                          have hroom44 : y153.length ≤ c7 := (Kd.V_reads' HO_6.out).2.1
                                          have hC44 : Kd.F (Kd.int .u8) _ _ A7 y153.length y153 := (Kd.V_at (base := w.heap.size) HO_6.out).2.2
                                          have ql44 : (2 : Int) ≤ ((ji35) : Int) := of_decide_eq_true (by first | (with_reducible assumption) | assumption)
                                          have hcut44 := cut_mid (P := Tryd.prog) 36 5 .i64 .i64 Tryd.underlying36 hi044 1 hsz44 A7 y153.length c7 2 (ji35) (by omega) ql44 q44 hroom44
                                          have hr44 := Kd.F_mid (lo := (2 : Int).toNat) (hi := ((ji35) : Int).toNat) (c := c7) hC44 (by omega) (by omega) hroom44
                                          obtain ⟨A44, hA44⟩ : ∃ A1, A1 = (if c7 = (2 : Int).toNat then A7 else (A7 : Option Addr).map (·.add ((2 : Int).toNat * 1))) := ⟨_, rfl⟩
                                          obtain ⟨c44, hc44⟩ : ∃ c1, c1 = c7 - (2 : Int).toNat := ⟨_, rfl⟩
                                          have hy44 : y178.length = ((ji35) : Int).toNat - (2 : Int).toNat := (by rw [Ny178.out, List.length_drop, List.length_take] <;> omega)
                                          rw [show ((y153).take ((ji35) : Int).toNat).drop (2 : Int).toNat = y178 from Ny178.out.symm] at hr44
                                          replace hr44 : Kd.F (Kd.int .u8) _ _ A44 y178.length y178 := (by rw [hA44]; exact hr44)
                                          rw [← hy44, ← hA44, ← hc44] at hcut44
                                          have HO182 := Aside0.mk (show Kd.V (Kd.int .u8) 5 _ w.heap.size _ (.slice A44 y178.length c44) y178 from Kd.V_mk (by rw [hy44, hc44]; exact Nat.sub_le_sub_right (Nat.le_trans (by omega) hroom44) _) hr44)
                                          have HC182 := Aside0.mk (show y178.length ≤ c44 from by rw [hy44, hc44]; exact Nat.sub_le_sub_right (Nat.le_trans (by omega) hroom44) _)
                                          clear hr44 hC44 hroom44 hi044 hsz44 hc44
                                          have KY44 := Aside0.mk hy44
                                          have KA44 := Aside0.mk hA44
                                          clear hy44 hA44
                                          replace q44 := eq_true q44
                                          have hcv45 := fun c_ => Kd.C_string (c := c_) (P := Tryd.prog) Tryd.underlying36 Tryd.underlying5 Tryd.underlying9 (Kd.V_reads' HO182.out).2.2
                                          go_wp2_with (first | ((with_reducible refine gate_builtin (b := .append) (xs := #[.tmp 55, .tmp 62]) rfl ?_); (try (refine gate_guard (by rfl) ?_; dsimp only)); at_builtin; refine Kd.R_append k77 (w0 := w) w.heap.size rfl (.tmp 55) (.tmp 62) 74 77 (.agg #[(.int .i64 0), (.int .i64 0), (.string ⟨#[]⟩)]) 32 rfl Tryd.underlying74 info77 rfl (by decide) (by omega) u4 x4_1 (⟨2, 0, strOfNums y178⟩ : S77) [.int .i64 2, .int .i64 0, .string (strOfNums y178)] (fun k_ => (w.heap.size ≤ k_)) (fun _ => False) rfl rfl ?aP (fun _ hk => hk.elim) ?aF ?aO ?aB ?aS ?aL ?_; (case aP => exact k77_mkM _ _ _ (⟨2, 0, strOfNums y178⟩ : S77)); (case aB => exact (by repeat (first | (with_reducible first | exact HB.out | apply below_alloc | apply pw_below_drewN | apply below_drew1) | exact HB.out))); (case aF => exact (fun k_ hk => (Nat.le_trans (below_size (by repeat (first | (with_reducible first | exact HB.out | apply below_alloc | apply pw_below_drewN | apply below_drew1) | exact HB.out))) hk))); (case aO => exact (by (with_reducible repeat (first | apply Kd.R_alloc | apply Kd.R_drewN | apply Kd.R_drew)); exact HO_4.out)); (case aS => exact (below_size (by repeat (first | (with_reducible first | exact HB.out | apply below_alloc | apply pw_below_drewN | apply below_drew1) | exact HB.out)))); (case aL => have := LMc34.out; omega); intro v184 w46 ho hb hg hat; rw [← Ny183.out] at ho; have n0_ := Aside0.mk (Kd.V_afterv (ok := (fun k_ => (P0_ k_ ∨ w.heap.size ≤ k_))) (by (with_reducible repeat (first | apply Kd.V_alloc | apply Kd.V_drewN | apply Kd.V_drew)); exact HO_6.out) hg hat); have n1_ := Aside0.mk (Kd.V_afterv (ok := (fun k_ => (P0_ k_ ∨ w.heap.size ≤ k_))) (by (with_reducible repeat (first | apply Kd.V_alloc | apply Kd.V_drewN | apply Kd.V_drew)); exact HO182.out) hg hat); have n2_ := Aside0.mk (hb); have n3_ := Aside0.mk (ho); clear HO_6; clear HO182; clear HB; clear HO_4; have HO_6 := n0_; have HO182 := n1_; have HB := n2_; have HO185 := n3_; clear n0_ n1_ n2_ n3_; clear ho hb hg hat; have q47 : ((ji35) : Int) ≤ ((y153.length : Int) : Int) := of_decide_eq_true (by first | (with_reducible assumption) | assumption); obtain ⟨i047, hi047, _, hsz47, _⟩ := info_parts info5; have hroom47 : y153.length ≤ c7 := (Kd.V_reads' HO_6.out).2.1; have hC47 : Kd.F (Kd.int .u8) _ _ A7 y153.length y153 := (Kd.V_at (base := w.heap.size) HO_6.out).2.2; have q047 : (0 : Int) ≤ ((ji35) : Int) := of_decide_eq_true (by first | (with_reducible assumption) | assumption); have hcut47 := cut_from (P := Tryd.prog) 36 5 .i64 Tryd.underlying36 hi047 1 hsz47 A7 y153.length c7 (ji35) q047 q47; have hr47 := Kd.F_cut (m := ((ji35) : Int).toNat) (c := c7) hC47 (by omega) hroom47; obtain ⟨A47, hA47⟩ : ∃ A1, A1 = (if c7 = ((ji35) : Int).toNat then A7 else (A7 : Option Addr).map (·.add (((ji35) : Int).toNat * 1))) := ⟨_, rfl⟩; obtain ⟨c47, hc47⟩ : ∃ c1, c1 = c7 - ((ji35) : Int).toNat := ⟨_, rfl⟩; have hy47 : y186.length = y153.length - ((ji35) : Int).toNat := (by rw [Ny186.out, List.length_drop] <;> omega); rw [show (y153).drop ((ji35) : Int).toNat = y186 from Ny186.out.symm] at hr47; replace hr47 : Kd.F (Kd.int .u8) _ _ A47 y186.length y186 := (by rw [hA47]; exact hr47); rw [← hy47, ← hA47, ← hc47] at hcut47; have HO190 := Aside0.mk (show Kd.V (Kd.int .u8) 5 _ w.heap.size _ (.slice A47 y186.length c47) y186 from Kd.V_mk (by rw [hy47, hc47]; exact Nat.sub_le_sub_right hroom47 _) hr47); have HC190 := Aside0.mk (show y186.length ≤ c47 from by rw [hy47, hc47]; exact Nat.sub_le_sub_right hroom47 _); clear hr47 hC47 hroom47 hi047 hsz47 hc47; have KY47 := Aside0.mk hy47; have KA47 := Aside0.mk hA47; clear hy47 hA47; replace q47 := eq_true q47; obtain ⟨Ao48, co48, eo48⟩ := Kd.R_slice HO185.out; subst eo48))
                                          repeat (go_quiet (first | ((with_reducible refine gate_builtin (b := .append) (xs := #[.tmp 55, .tmp 62]) rfl ?_); (try (refine gate_guard (by rfl) ?_; dsimp only)); at_builtin; refine Kd.R_append k77 (w0 := w) w.heap.size rfl (.tmp 55) (.tmp 62) 74 77 (.agg #[(.int .i64 0), (.int .i64 0), (.string ⟨#[]⟩)]) 32 rfl Tryd.underlying74 info77 rfl (by decide) (by omega) u4 x4_1 (⟨2, 0, strOfNums y178⟩ : S77) [.int .i64 2, .int .i64 0, .string (strOfNums y178)] (fun k_ => (w.heap.size ≤ k_)) (fun _ => False) rfl rfl ?aP (fun _ hk => hk.elim) ?aF ?aO ?aB ?aS ?aL ?_; (case aP => exact k77_mkM _ _ _ (⟨2, 0, strOfNums y178⟩ : S77)); (case aB => exact (by repeat (first | (with_reducible first | exact HB.out | apply below_alloc | apply pw_below_drewN | apply below_drew1) | exact HB.out))); (case aF => exact (fun k_ hk => (Nat.le_trans (below_size (by repeat (first | (with_reducible first | exact HB.out | apply below_alloc | apply pw_below_drewN | apply below_drew1) | exact HB.out))) hk))); (case aO => exact (by (with_reducible repeat (first | apply Kd.R_alloc | apply Kd.R_drewN | apply Kd.R_drew)); exact HO_4.out)); (case aS => exact (below_size (by repeat (first | (with_reducible first | exact HB.out | apply below_alloc | apply pw_below_drewN | apply below_drew1) | exact HB.out)))); (case aL => have := LMc34.out; omega); intro v184 w46 ho hb hg hat; rw [← Ny183.out] at ho; have n0_ := Aside0.mk (Kd.V_afterv (ok := (fun k_ => (P0_ k_ ∨ w.heap.size ≤ k_))) (by (with_reducible repeat (first | apply Kd.V_alloc | apply Kd.V_drewN | apply Kd.V_drew)); exact HO_6.out) hg hat); have n1_ := Aside0.mk (Kd.V_afterv (ok := (fun k_ => (P0_ k_ ∨ w.heap.size ≤ k_))) (by (with_reducible repeat (first | apply Kd.V_alloc | apply Kd.V_drewN | apply Kd.V_drew)); exact HO182.out) hg hat); have n2_ := Aside0.mk (hb); have n3_ := Aside0.mk (ho); clear HO_6; clear HO182; clear HB; clear HO_4; have HO_6 := n0_; have HO182 := n1_; have HB := n2_; have HO185 := n3_; clear n0_ n1_ n2_ n3_; clear ho hb hg hat; have q47 : ((ji35) : Int) ≤ ((y153.length : Int) : Int) := of_decide_eq_true (by first | (with_reducible assumption) | assumption); obtain ⟨i047, hi047, _, hsz47, _⟩ := info_parts info5; have hroom47 : y153.length ≤ c7 := (Kd.V_reads' HO_6.out).2.1; have hC47 : Kd.F (Kd.int .u8) _ _ A7 y153.length y153 := (Kd.V_at (base := w.heap.size) HO_6.out).2.2; have q047 : (0 : Int) ≤ ((ji35) : Int) := of_decide_eq_true (by first | (with_reducible assumption) | assumption); have hcut47 := cut_from (P := Tryd.prog) 36 5 .i64 Tryd.underlying36 hi047 1 hsz47 A7 y153.length c7 (ji35) q047 q47; have hr47 := Kd.F_cut (m := ((ji35) : Int).toNat) (c := c7) hC47 (by omega) hroom47; obtain ⟨A47, hA47⟩ : ∃ A1, A1 = (if c7 = ((ji35) : Int).toNat then A7 else (A7 : Option Addr).map (·.add (((ji35) : Int).toNat * 1))) := ⟨_, rfl⟩; obtain ⟨c47, hc47⟩ : ∃ c1, c1 = c7 - ((ji35) : Int).toNat := ⟨_, rfl⟩; have hy47 : y186.length = y153.length - ((ji35) : Int).toNat := (by rw [Ny186.out, List.length_drop] <;> omega); rw [show (y153).drop ((ji35) : Int).toNat = y186 from Ny186.out.symm] at hr47; replace hr47 : Kd.F (Kd.int .u8) _ _ A47 y186.length y186 := (by rw [hA47]; exact hr47); rw [← hy47, ← hA47, ← hc47] at hcut47; have HO190 := Aside0.mk (show Kd.V (Kd.int .u8) 5 _ w.heap.size _ (.slice A47 y186.length c47) y186 from Kd.V_mk (by rw [hy47, hc47]; exact Nat.sub_le_sub_right hroom47 _) hr47); have HC190 := Aside0.mk (show y186.length ≤ c47 from by rw [hy47, hc47]; exact Nat.sub_le_sub_right hroom47 _); clear hr47 hC47 hroom47 hi047 hsz47 hc47; have KY47 := Aside0.mk hy47; have KA47 := Aside0.mk hA47; clear hy47 hA47; replace q47 := eq_true q47; obtain ⟨Ao48, co48, eo48⟩ := Kd.R_slice HO185.out; subst eo48)); try go_wp2_with (first | ((with_reducible refine gate_builtin (b := .append) (xs := #[.tmp 55, .tmp 62]) rfl ?_); (try (refine gate_guard (by rfl) ?_; dsimp only)); at_builtin; refine Kd.R_append k77 (w0 := w) w.heap.size rfl (.tmp 55) (.tmp 62) 74 77 (.agg #[(.int .i64 0), (.int .i64 0), (.string ⟨#[]⟩)]) 32 rfl Tryd.underlying74 info77 rfl (by decide) (by omega) u4 x4_1 (⟨2, 0, strOfNums y178⟩ : S77) [.int .i64 2, .int .i64 0, .string (strOfNums y178)] (fun k_ => (w.heap.size ≤ k_)) (fun _ => False) rfl rfl ?aP (fun _ hk => hk.elim) ?aF ?aO ?aB ?aS ?aL ?_; (case aP => exact k77_mkM _ _ _ (⟨2, 0, strOfNums y178⟩ : S77)); (case aB => exact (by repeat (first | (with_reducible first | exact HB.out | apply below_alloc | apply pw_below_drewN | apply below_drew1) | exact HB.out))); (case aF => exact (fun k_ hk => (Nat.le_trans (below_size (by repeat (first | (with_reducible first | exact HB.out | apply below_alloc | apply pw_below_drewN | apply below_drew1) | exact HB.out))) hk))); (case aO => exact (by (with_reducible repeat (first | apply Kd.R_alloc | apply Kd.R_drewN | apply Kd.R_drew)); exact HO_4.out)); (case aS => exact (below_size (by repeat (first | (with_reducible first | exact HB.out | apply below_alloc | apply pw_below_drewN | apply below_drew1) | exact HB.out)))); (case aL => have := LMc34.out; omega); intro v184 w46 ho hb hg hat; rw [← Ny183.out] at ho; have n0_ := Aside0.mk (Kd.V_afterv (ok := (fun k_ => (P0_ k_ ∨ w.heap.size ≤ k_))) (by (with_reducible repeat (first | apply Kd.V_alloc | apply Kd.V_drewN | apply Kd.V_drew)); exact HO_6.out) hg hat); have n1_ := Aside0.mk (Kd.V_afterv (ok := (fun k_ => (P0_ k_ ∨ w.heap.size ≤ k_))) (by (with_reducible repeat (first | apply Kd.V_alloc | apply Kd.V_drewN | apply Kd.V_drew)); exact HO182.out) hg hat); have n2_ := Aside0.mk (hb); have n3_ := Aside0.mk (ho); clear HO_6; clear HO182; clear HB; clear HO_4; have HO_6 := n0_; have HO182 := n1_; have HB := n2_; have HO185 := n3_; clear n0_ n1_ n2_ n3_; clear ho hb hg hat; have q47 : ((ji35) : Int) ≤ ((y153.length : Int) : Int) := of_decide_eq_true (by first | (with_reducible assumption) | assumption); obtain ⟨i047, hi047, _, hsz47, _⟩ := info_parts info5; have hroom47 : y153.length ≤ c7 := (Kd.V_reads' HO_6.out).2.1; have hC47 : Kd.F (Kd.int .u8) _ _ A7 y153.length y153 := (Kd.V_at (base := w.heap.size) HO_6.out).2.2; have q047 : (0 : Int) ≤ ((ji35) : Int) := of_decide_eq_true (by first | (with_reducible assumption) | assumption); have hcut47 := cut_from (P := Tryd.prog) 36 5 .i64 Tryd.underlying36 hi047 1 hsz47 A7 y153.length c7 (ji35) q047 q47; have hr47 := Kd.F_cut (m := ((ji35) : Int).toNat) (c := c7) hC47 (by omega) hroom47; obtain ⟨A47, hA47⟩ : ∃ A1, A1 = (if c7 = ((ji35) : Int).toNat then A7 else (A7 : Option Addr).map (·.add (((ji35) : Int).toNat * 1))) := ⟨_, rfl⟩; obtain ⟨c47, hc47⟩ : ∃ c1, c1 = c7 - ((ji35) : Int).toNat := ⟨_, rfl⟩; have hy47 : y186.length = y153.length - ((ji35) : Int).toNat := (by rw [Ny186.out, List.length_drop] <;> omega); rw [show (y153).drop ((ji35) : Int).toNat = y186 from Ny186.out.symm] at hr47; replace hr47 : Kd.F (Kd.int .u8) _ _ A47 y186.length y186 := (by rw [hA47]; exact hr47); rw [← hy47, ← hA47, ← hc47] at hcut47; have HO190 := Aside0.mk (show Kd.V (Kd.int .u8) 5 _ w.heap.size _ (.slice A47 y186.length c47) y186 from Kd.V_mk (by rw [hy47, hc47]; exact Nat.sub_le_sub_right hroom47 _) hr47); have HC190 := Aside0.mk (show y186.length ≤ c47 from by rw [hy47, hc47]; exact Nat.sub_le_sub_right hroom47 _); clear hr47 hC47 hroom47 hi047 hsz47 hc47; have KY47 := Aside0.mk hy47; have KA47 := Aside0.mk hA47; clear hy47 hA47; replace q47 := eq_true q47; obtain ⟨Ao48, co48, eo48⟩ := Kd.R_slice HO185.out; subst eo48)))
                                          go_roundg kj27
                                          case measure => have := HK1.out; have := HJ4.out; have := HJ22.out; have := HJ27.out; omega
                                          case rel => exact ⟨(y186), (y183), H', ⟨by have := HK1.out; have := HJ4.out; have := HJ22.out; have := HJ27.out; omega⟩, ⟨by (with_reducible repeat (first | apply Kd.V_alloc | apply Kd.V_drewN | apply Kd.V_drew)); exact HO190.out⟩, ⟨by (with_reducible repeat (first | apply Kd.R_alloc | apply Kd.R_drewN | apply Kd.R_drew)); exact HO185.out⟩, ⟨by repeat (first | (with_reducible first | exact HB.out | apply below_alloc | apply pw_below_drewN | apply below_drew1) | exact HB.out)⟩⟩
                                      · rw [if_neg c36] at H
                                        exact absurd H (by simp)
                                    · rw [if_neg c34] at H
                                      exact absurd H (by simp)
                                  · rw [if_neg c33] at H
                                    exact absurd H (by simp)
                                · rw [if_neg c32] at H
                                  exact absurd H (by simp)
                        · rw [if_neg c26] at H
                          exact absurd H (by simp)
                      · replace c25 := Bool.eq_false_iff.mpr c25
                        subst c25
                        have H1 : (some (([] : List (S77)), 2)) = some (r1, r2) := by rw [if_neg (show ¬ (false = true) by decide)] at H; exact H
                        clear H
                        have H := H1
                        clear H1
                        simp only [Option.some.injEq, Prod.mk.injEq] at H
                        obtain ⟨rfl, rfl⟩ := H
                        go_wp2
                        repeat (go_quiet (fail); try go_wp2)
                        go_ret2
                        exact ⟨_, by first | rfl | (simp [errW_none, errW_some] <;> rfl) | (simp [*, errW_none, errW_some] <;> rfl), by first | exact Kd.R_nil _ _ _ _ _ | exact Kd.N_nil _ _ _ _ _ | exact Kd.V_nil _ _ _ _ _ | exact Kd.Q_nil _ _ _ _ _ | exact Kd.S_nil _ _ _ _ _, by repeat (first | (with_reducible first | exact HB.out | apply below_alloc | apply pw_below_drewN | apply below_drew1) | exact HB.out)⟩
          · rw [if_neg c4] at H
            exact absurd H (by simp)
        · rw [if_neg c3] at H
          exact absurd H (by simp)
      · rw [if_neg c2] at H
        have c2b0 : decide (0 < (x0_1.length : Int)) = false := decide_eq_false c2
        have c2b1 : decide (0 < x0_1.length) = false := decide_eq_false (by omega)
        clear c2
        simp only [Option.some.injEq, Prod.mk.injEq] at H
        obtain ⟨rfl, rfl⟩ := H
        obtain ⟨Ao49, co49, eo49⟩ := Kd.V_slice HO_0.out
        subst eo49
        go_wp2
        repeat (go_quiet (fail); try go_wp2)
        go_ret2
        exact ⟨_, by first | rfl | (simp [errW_none, errW_some] <;> rfl) | (simp [*, errW_none, errW_some] <;> rfl), by (with_reducible repeat (first | apply Kd.R_alloc | apply Kd.R_drewN | apply Kd.R_drew)); exact HO_4.out, by repeat (first | (with_reducible first | exact HB.out | apply below_alloc | apply pw_below_drewN | apply below_drew1) | exact HB.out)⟩
end
end Go.Proofs.YtmkkeccmjejfnaaDoor.PA
namespace Go.Proofs.YtmkkeccmjejfnaaDoor.PA
section

open Go.RowKit Go.Proofs.YtmkkeccmjejfnaaDoorW.PrintWords Go.Proofs.YtmkkeccmjejfnaaDoorW.PrintLast Go.Proofs.YtmkkeccmjejfnaaDoorW.PrintMore
attribute [local go_sem] pr_leq pr_geq pr_gtr max2_int min2_int max_two min_two max_three min_three max_four min_four
set_option linter.unusedVariables false
set_option linter.unusedSimpArgs false
def record_unseal.f (k : Nat) (l0 : List Int) : Option ((List (S77)) × Int) := (pack_Open.f l0).bind fun bt191 => (if bt191.2 = 0 then ((pack_Decode.f k bt191.1).bind fun bt195 => (some (bt195.1, bt195.2))) else (some (([] : List (S77)), bt191.2)))
set_option maxHeartbeats 8000000 in
set_option maxRecDepth 100000 in
theorem record_unseal.calls (k : Nat) (A0 : Option Addr) (c0 : Nat) (l0 : List Int) (r1 : List (S77)) (r2 : Int) (w : World) (hr0 : Kd.C (Kd.int .u8) w A0 l0.length l0) (hc0 : l0.length ≤ c0) (h : record_unseal.f k l0 = some (r1, r2)) :
    Calls Tryd.prog 45 #[.slice A0 l0.length c0] w fun e w' => ∃ v0_ : Value, e = .returned (.tuple #[v0_, .int .i64 r2]) ∧ Kd.R k77 77 w' w.heap.size (fun _ => True) v0_ r1 ∧ Below w.heap.size w w' := by
  have HR0 := Aside0.mk hr0
  have HC0 := Aside0.mk hc0
  clear hr0 hc0
  have HB := Aside0.mk (Below.refl w.heap.size w)
  have H : ((pack_Open.f l0).bind fun bt191 => (if bt191.2 = 0 then ((pack_Decode.f k bt191.1).bind fun bt195 => (some (bt195.1, bt195.2))) else (some (([] : List (S77)), bt191.2)))) = some (r1, r2) := h
  clear h
  replace H := Option.bind_eq_some_iff.mp H
  obtain ⟨⟨t191, t192⟩, A20, H⟩ := H
  replace H : (if t192 = 0 then ((pack_Decode.f k t191).bind fun bt195 => (some (bt195.1, bt195.2))) else (some (([] : List (S77)), t192))) = some (r1, r2) := H
  have A2 := Aside0.mk A20
  clear A20
  by_cases c3 : t192 = 0
  · rw [if_pos c3] at H
    have c3b0 : (t192 == 0) = true := beq_iff_eq.mpr c3
    have c3b1 : (t192 != 0) = false := bne_eq_false_iff_eq.mpr c3
    clear c3
    replace H := Option.bind_eq_some_iff.mp H
    obtain ⟨⟨t195, t198⟩, A40, H⟩ := H
    replace H : (some (t195, t198)) = some (r1, r2) := H
    have A4 := Aside0.mk A40
    clear A40
    simp only [Option.some.injEq, Prod.mk.injEq] at H
    obtain ⟨rfl, rfl⟩ := H
    go_enter Tryd.func45, Tryd.ntmps45
    go_wp2_with (first | ((with_reducible refine gate_callee (f := 62) rfl ?_); refine goesL_ (some 8) rfl rfl Tryd.func62 (by kernel_rfl) rfl #[.slice A0 l0.length c0] rfl (by (try simp only [List.map_toArray, List.map_cons, List.map_nil]); first | done | rfl | (simp only [List.length_drop, List.length_take]; rfl)) ?_; (with_reducible refine (pack_Open.calls _ _ l0 t191 t192 _ ?side1 ?side2 A2.out).mono ?_); (case side1 => repeat (first | exact HR0.out | (with_reducible refine Kd.C_alloc ?_ _) | (with_reducible refine Kd.C_drewN ?_ _) | (with_reducible refine Kd.C_drew ?_))); (case side2 => exact HC0.out); rintro e w5 ⟨v193, rfl, ho0, hb⟩; refine ⟨_, rfl, ?_⟩; have n0_ := Aside0.mk (Kd.R_lower ho0 (below_size (by repeat (first | (with_reducible first | exact HB.out | apply below_alloc | apply pw_below_drewN | apply below_drew1) | exact HB.out)))); have n1_ := Aside0.mk (below_step (by repeat (first | (with_reducible first | exact HB.out | apply below_alloc | apply pw_below_drewN | apply below_drew1) | exact HB.out)) hb); clear HB; have HO194 := n0_; have HB := n1_; clear n0_ n1_; (try clear hb); (try clear hb2); (try clear hk); (try clear hi); (try clear ho0); obtain ⟨Ao6, co6, eo6⟩ := Kd.R_slice HO194.out; subst eo6) | ((with_reducible refine gate_callee (f := 63) rfl ?_); refine goesL_ (some 15) rfl rfl Tryd.func63 (by kernel_rfl) rfl #[.slice Ao6 t191.length co6] rfl (by (try simp only [List.map_toArray, List.map_cons, List.map_nil]); first | done | rfl | (simp only [List.length_drop, List.length_take]; rfl)) ?_; (with_reducible refine (pack_Decode.calls k (fun k_ => some k_ = (.slice Ao6 t191.length co6 : Value).ownBlock) _ _ t191 t195 t198 _ ?side1 A4.out).mono ?_); (case side1 => exact Kd.R_V (Kd.R_tight rfl (HO194.out))); rintro e w7 ⟨v196, rfl, ho0, hb⟩; refine ⟨_, rfl, ?_⟩; have n0_ := Aside0.mk (Kd.R_below (by (with_reducible repeat (first | apply Kd.R_alloc | apply Kd.R_drewN | apply Kd.R_drew)); exact HO194.out) hb); have n1_ := Aside0.mk (Kd.R_lower (Kd.R_mono (ok' := fun k_ => True) ho0 (fun _ hk_ => trivial)) (below_size (by repeat (first | (with_reducible first | exact HB.out | apply below_alloc | apply pw_below_drewN | apply below_drew1) | exact HB.out)))); have n2_ := Aside0.mk (below_step (by repeat (first | (with_reducible first | exact HB.out | apply below_alloc | apply pw_below_drewN | apply below_drew1) | exact HB.out)) hb); clear HO194; clear HB; have HO194 := n0_; have HO197 := n1_; have HB := n2_; clear n0_ n1_ n2_; (try clear hb); (try clear hb2); (try clear hk); (try clear hi); (try clear ho0)))
    go_ret2
    exact ⟨_, by first | rfl | (simp [errW_none, errW_some] <;> rfl) | (simp [*, errW_none, errW_some] <;> rfl), by (with_reducible repeat (first | apply Kd.R_alloc | apply Kd.R_drewN | apply Kd.R_drew)); exact HO197.out, by repeat (first | (with_reducible first | exact HB.out | apply below_alloc | apply pw_below_drewN | apply below_drew1) | exact HB.out)⟩
  · rw [if_neg c3] at H
    have c3b0 : (t192 == 0) = false := beq_eq_false_iff_ne.mpr c3
    have c3b1 : (t192 != 0) = true := bne_iff_ne.mpr c3
    simp only [Option.some.injEq, Prod.mk.injEq] at H
    obtain ⟨rfl, rfl⟩ := H
    go_enter Tryd.func45, Tryd.ntmps45
    go_wp2_with (first | ((with_reducible refine gate_callee (f := 62) rfl ?_); refine goesL_ (some 8) rfl rfl Tryd.func62 (by kernel_rfl) rfl #[.slice A0 l0.length c0] rfl (by (try simp only [List.map_toArray, List.map_cons, List.map_nil]); first | done | rfl | (simp only [List.length_drop, List.length_take]; rfl)) ?_; (with_reducible refine (pack_Open.calls _ _ l0 t191 t192 _ ?side1 ?side2 A2.out).mono ?_); (case side1 => repeat (first | exact HR0.out | (with_reducible refine Kd.C_alloc ?_ _) | (with_reducible refine Kd.C_drewN ?_ _) | (with_reducible refine Kd.C_drew ?_))); (case side2 => exact HC0.out); rintro e w8 ⟨v193, rfl, ho0, hb⟩; refine ⟨_, rfl, ?_⟩; have n0_ := Aside0.mk (Kd.R_lower ho0 (below_size (by repeat (first | (with_reducible first | exact HB.out | apply below_alloc | apply pw_below_drewN | apply below_drew1) | exact HB.out)))); have n1_ := Aside0.mk (below_step (by repeat (first | (with_reducible first | exact HB.out | apply below_alloc | apply pw_below_drewN | apply below_drew1) | exact HB.out)) hb); clear HB; have HO194 := n0_; have HB := n1_; clear n0_ n1_; (try clear hb); (try clear hb2); (try clear hk); (try clear hi); (try clear ho0)))
    go_ret2
    exact ⟨_, by first | rfl | (simp [errW_none, errW_some] <;> rfl) | (simp [*, errW_none, errW_some] <;> rfl), by first | exact Kd.R_nil _ _ _ _ _ | exact Kd.N_nil _ _ _ _ _ | exact Kd.V_nil _ _ _ _ _ | exact Kd.Q_nil _ _ _ _ _ | exact Kd.S_nil _ _ _ _ _, by repeat (first | (with_reducible first | exact HB.out | apply below_alloc | apply pw_below_drewN | apply below_drew1) | exact HB.out)⟩
end
end Go.Proofs.YtmkkeccmjejfnaaDoor.PA
