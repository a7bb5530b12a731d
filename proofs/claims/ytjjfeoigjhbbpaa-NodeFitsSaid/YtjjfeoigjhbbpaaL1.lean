import Derived.Test.YtjjfeoigjhbbpaaL0
import Derived.Test.YtjjfeoigjhbbpaaPAx9
namespace Go.Proofs.Ytjjfeoigjhbbpaa.PA
open Go.RowKit Go.Proofs.YtjjfeoigjhbbpaaW.PrintWords Go.Proofs.YtjjfeoigjhbbpaaW.PrintLast Go.Proofs.YtjjfeoigjhbbpaaW.PrintMore
attribute [local go_sem] pr_leq pr_geq pr_gtr max2_int min2_int max_two min_two max_three min_three max_four min_four   -- for this text's walks alone
set_option linter.unusedVariables false
set_option linter.unusedSimpArgs false
/-! ### NodeFits -/
theorem of_val (a : Bool) (P : List S48) (K : List ByteArray) (D : List Int) (h1 : P.length * 32 ≤ 140737488351232) (h2 : K.length * 16 ≤ 140737488351232) (h3 : D.length * 8 ≤ 140737488351232) : cisternlaw11_of.f a P K D = some (a, P, K, D) := by
  unfold cisternlaw11_of.f
  rw [if_pos ⟨by omega, by omega, by omega⟩]
theorem known_enc : node_Encode.f true [(⟨⟨#[97]⟩, ⟨#[49]⟩⟩ : S48)] [] [] = some (⟨#[1, 1, 1, 97, 1, 49]⟩, 0) := by
  have e0 : keyB ⟨#[97]⟩ = true := by
    unfold keyB
    rw [nd_toList]
    rfl
  have e1 : leafV true [(⟨⟨#[97]⟩, ⟨#[49]⟩⟩ : S48)] [] [] = true := by
    unfold leafV badP
    simp only [List.any_cons, List.any_nil, e0]
    rfl
  unfold node_Encode.f
  rw [e1]
  rfl
theorem known_val : cisternlaw11_known.f = some true := by
  unfold cisternlaw11_known.f
  rw [known_enc, Option.bind_some, if_pos rfl, nd_toList]
  rfl
theorem fits_val (a : Bool) (P : List S48) (K : List ByteArray) (D : List Int) (h1 : P.length * 32 ≤ 140737488351232) (h2 : K.length * 16 ≤ 140737488351232) (h3 : D.length * 8 ≤ 140737488351232) (k : Nat) (hk : P.length + K.length < k) : cisternlaw11_NodeFits.f k a P K D = some true := by
  unfold cisternlaw11_NodeFits.f
  rw [known_val, Option.bind_some, if_pos rfl, of_val a P K D h1 h2 h3]
  simp only [Option.bind_some]
  rw [check_val, size_val a P K D (by omega) (by omega) k (by omega) (by omega)]
  by_cases hf : (leafV a P K D || innerV a P K D) = true
  · have hs := size_form hf
    have he : node_Encode.f a P K D = some (if sizeN a P K D ≤ 160 then (⟨(encL a P K D).toArray⟩, 0) else (⟨#[]⟩, 14)) := by unfold node_Encode.f; rw [if_pos hf]
    rw [he, if_pos hf, wrap_small hs]
    rw [Option.bind_some, Option.bind_some, if_pos rfl, Option.bind_some]
    by_cases hz : sizeN a P K D ≤ 160
    · rw [if_pos hz, if_neg (by omega), if_pos rfl, Option.bind_some]
      have : ((⟨(encL a P K D).toArray⟩ : ByteArray).size : Int) = (sizeN a P K D : Nat) := by
        have h : (⟨(encL a P K D).toArray⟩ : ByteArray).size = (encL a P K D).length := by show (encL a P K D).toArray.size = _; simp
        rw [h, encL_length]
      rw [this]
      simp
    · rw [if_neg hz, if_pos (by omega), if_pos rfl, nd_toList]
      rfl
  · have he : node_Encode.f a P K D = some (⟨#[]⟩, 2) := by unfold node_Encode.f; rw [if_neg hf]
    rw [he, if_neg hf]
    rw [Option.bind_some, Option.bind_some, if_neg (by decide), if_pos rfl, nd_toList]
    rfl
theorem cisternlaw11_NodeFits.walk (a : Bool) (A1 : Option Addr) (c1 : Nat) (l1 : List S48) (A2 : Option Addr) (c2 : Nat) (l2 : List ByteArray) (A3 : Option Addr) (c3 : Nat) (l3 : List Int) (w : World)
    (_wa0 : True ∧ (∀ x_ ∈ l1, (x_.f0.size ≤ maxLen) ∧ (x_.f1.size ≤ maxLen)) ∧ (∀ x_ ∈ l2, x_.size ≤ maxLen) ∧ (∀ x_ ∈ l3, (Lit.int .i64 x_).wf = true)) (hr1 : Kd.C k48 w A1 l1.length l1) (hc1 : l1.length ≤ c1) (y1 : l1.length * 32 ≤ 140737488351232) (hr2 : Kd.C Kd.string w A2 l2.length l2) (hc2 : l2.length ≤ c2) (y2 : l2.length * 16 ≤ 140737488351232) (hr3 : Kd.C (Kd.int .i64) w A3 l3.length l3) (hc3 : l3.length ≤ c3) (y3 : l3.length * 8 ≤ 140737488351232) :
    Calls Try.prog 3 #[.agg #[.bool a, .slice A1 l1.length c1, .slice A2 l2.length c2, .slice A3 l3.length c3]] w fun e w' => e = .returned (.bool true) ∧ Below w.heap.size w w' :=
  cisternlaw11_NodeFits.calls (l1.length + l2.length + 1) a A1 c1 l1 A2 c2 l2 A3 c3 l3 true w hr1 hc1 hr2 hc2 hr3 hc3 (fits_val a l1 l2 l3 y1 y2 y3 _ (by omega))
end Go.Proofs.Ytjjfeoigjhbbpaa.PA
