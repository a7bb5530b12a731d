import Derived.Test.YtgjhhbljbnbjkaaL0
namespace Go.Proofs.Ytgjhhbljbnbjkaa.PA
open Go.RowKit Go.Proofs.YtgjhhbljbnbjkaaW.PrintWords Go.Proofs.YtgjhhbljbnbjkaaW.PrintLast Go.Proofs.YtgjhhbljbnbjkaaW.PrintMore
set_option linter.unusedVariables false
set_option linter.unusedSimpArgs false
theorem cisternlaw03_PackJoins.walk (A0 : Option Addr) (c0 : Nat) (l0 : List S46) (A1 : Option Addr) (c1 : Nat) (l1 : List S46) (w : World) (hr0 : Kd.C k46 w A0 l0.length l0) (hc0 : l0.length ≤ c0) (y0 : l0.length * 32 ≤ 140737488351232) (w0 : ∀ v ∈ l0, ((Lit.int .i64 v.f0).wf = true) ∧ ((Lit.int .i64 v.f1).wf = true) ∧ (v.f2.size ≤ maxLen))
    (hr1 : Kd.C k46 w A1 l1.length l1) (hc1 : l1.length ≤ c1) (y1 : l1.length * 32 ≤ 140737488351232) (w1 : ∀ v ∈ l1, ((Lit.int .i64 v.f0).wf = true) ∧ ((Lit.int .i64 v.f1).wf = true) ∧ (v.f2.size ≤ maxLen)) :
    Calls Try.prog 3 #[.slice A0 l0.length c0, .slice A1 l1.length c1] w fun e w' => e = .returned (.bool true) ∧ Below w.heap.size w w' :=
  cisternlaw03_PackJoins.calls A0 c0 l0 A1 c1 l1 true w hr0 hc0 hr1 hc1 (joins_pure l0 l1 y0 y1)
end Go.Proofs.Ytgjhhbljbnbjkaa.PA
