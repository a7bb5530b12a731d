/- Texts of this claim: contracts of the functions that the statement reaches, and plain laws of what they compute. -/
import Derived.Test.YtmkkeccmjejfnaaDoorQApart3
set_option linter.unusedVariables false
set_option linter.unusedSimpArgs false
namespace Go.Proofs.YtmkkeccmjejfnaaDoor.PA
section

open Go.RowKit Go.Proofs.YtmkkeccmjejfnaaDoorW.PrintWords Go.Proofs.YtmkkeccmjejfnaaDoorW.PrintLast Go.Proofs.YtmkkeccmjejfnaaDoorW.PrintMore
attribute [local go_sem] pr_leq pr_geq pr_gtr max2_int min2_int max_two min_two max_three min_three max_four min_four
set_option linter.unusedVariables false
set_option linter.unusedSimpArgs false
attribute [local go_sem high] eqA65
def cisternref07_SamePairs.l0 : Nat → List (S65) → List (S65) → Int → Option (Bool)
  | 0, _, _, _ => none
  | k + 1, x0, x1, x5 => if x5 < (x0.length : Int) then (if 0 ≤ x5 then (if x5 < (x1.length : Int) then (if (!((((rd_T65 x0 x5).f0).toList) == (((rd_T65 x1 x5).f0).toList)) || (!((((rd_T65 x0 x5).f1).toList) == (((rd_T65 x1 x5).f1).toList)))) = true then (some false) else (cisternref07_SamePairs.l0 k x0 x1 (wrap64 (x5 + 1)))) else (none)) else (none)) else (some true)
def cisternref07_SamePairs.f (k : Nat) (l0 : List (S65)) (l1 : List (S65)) : Option (Bool) := if (l0.length : Int) = (l1.length : Int) then (cisternref07_SamePairs.l0 k l0 l1 0) else (some false)
set_option maxHeartbeats 8000000 in
set_option maxRecDepth 100000 in
theorem cisternref07_SamePairs.calls (k : Nat) (A0 : Option Addr) (c0 : Nat) (l0 : List (S65)) (A1 : Option Addr) (c1 : Nat) (l1 : List (S65)) (r : Bool) (w : World) (hr0 : Kd.C k65 w A0 l0.length l0) (hc0 : l0.length ≤ c0) (hr1 : Kd.C k65 w A1 l1.length l1) (hc1 : l1.length ≤ c1) (h : cisternref07_SamePairs.f k l0 l1 = some r) :
    Calls Tryd.prog 27 #[.slice A0 l0.length c0, .slice A1 l1.length c1] w fun e w' => e = .returned (.bool r) ∧ Drawn0 w w' := by
  have hu65 := Tryd.underlying65
  have HR0 := Aside0.mk hr0
  have HC0 := Aside0.mk hc0
  clear hr0 hc0
  have HR1 := Aside0.mk hr1
  have HC1 := Aside0.mk hc1
  clear hr1 hc1
  have H : (if (l0.length : Int) = (l1.length : Int) then (cisternref07_SamePairs.l0 k l0 l1 0) else (some false)) = some r := h
  clear h
  by_cases c3 : (l0.length : Int) = (l1.length : Int)
  · rw [if_pos c3] at H
    have c3b0 : ((l0.length : Int) == (l1.length : Int)) = true := beq_iff_eq.mpr c3
    have c3b1 : ((l0.length : Int) != (l1.length : Int)) = false := bne_eq_false_iff_eq.mpr c3
    have c3b2 : (l0.length == l1.length) = true := by first | simpa using c3 | (simp at c3 ⊢; omega)
    clear c3
    have H' := Aside0.mk H
    clear H
    go_enter Tryd.func27, Tryd.ntmps27
    go_wp2
    repeat (go_quiet (fail); try go_wp2)
    go_loopg [5] k (fun kq v5 w' => ∃ (x5_1 : Int), v5 = .int .i64 x5_1 ∧ Aside0 (cisternref07_SamePairs.l0 kq l0 l1 x5_1 = some r) ∧ Aside0 (kq ≤ k) ∧ Drawn0 w w')
    case atStart => exact ⟨(0), (by first | rfl | (simp; done) | (simp [*]; done)), H', ⟨Nat.le_refl _⟩, by repeat (first | exact Drawn0.refl _ | apply Drawn0.step)⟩
    case round =>
      clear H'
      try clear c1
      try clear c2
      try clear p2
      try clear c3
      try clear c3b0
      try clear c3b1
      try clear c3b2
      obtain ⟨x5_1, rfl, HA, HK1, ⟨m1, rfl⟩⟩ := hrel
      cases gk with
      | zero => exact absurd HA.out (by simp [cisternref07_SamePairs.l0])
      | succ k1 =>
        have H := HA.out
        clear HA
        simp only [cisternref07_SamePairs.l0] at H
        by_cases c4 : x5_1 < (l0.length : Int)
        · rw [if_pos c4] at H
          have c4b0 : decide (x5_1 < (l0.length : Int)) = true := decide_eq_true c4
          clear c4
          by_cases c5 : 0 ≤ x5_1
          · rw [if_pos c5] at H
            have c5b0 : decide (0 ≤ x5_1) = true := decide_eq_true c5
            clear c5
            by_cases c6 : x5_1 < (l1.length : Int)
            · rw [if_pos c6] at H
              have c6b0 : decide (x5_1 < (l1.length : Int)) = true := decide_eq_true c6
              clear c6
              by_cases c7 : (!((((rd_T65 l0 x5_1).f0).toList) == (((rd_T65 l1 x5_1).f0).toList)) || (!((((rd_T65 l0 x5_1).f1).toList) == (((rd_T65 l1 x5_1).f1).toList)))) = true
              · rw [if_pos c7] at H
                have c7b0 : (!((((rd_T65 l0 x5_1).f0).toList) == (((rd_T65 l1 x5_1).f0).toList)) || (!((((rd_T65 l0 x5_1).f1).toList) == (((rd_T65 l1 x5_1).f1).toList)))) = true := c7
                clear c7
                obtain rfl := Option.some.inj H
                have p451 : 0 ≤ (x5_1 : Int) := of_decide_eq_true (by first | (with_reducible assumption) | assumption)
                have q451 : x5_1 < (l0.length : Int) := of_decide_eq_true (by first | (with_reducible assumption) | assumption)
                obtain ⟨ad451, e451, hx451_0, hx451_1⟩ := at_T65 HR0.out x5_1 p451 q451
                cases e451
                replace p451 := eq_true p451
                replace q451 := eq_true q451
                have p452 : 0 ≤ (x5_1 : Int) := of_decide_eq_true (by first | (with_reducible assumption) | assumption)
                have q452 : x5_1 < (l1.length : Int) := of_decide_eq_true (by first | (with_reducible assumption) | assumption)
                obtain ⟨ad452, e452, hx452_0, hx452_1⟩ := at_T65 HR1.out x5_1 p452 q452
                cases e452
                replace p452 := eq_true p452
                replace q452 := eq_true q452
                go_wp2
                repeat (go_quiet (fail); try go_wp2)
                go_ret
                exact ⟨by first | rfl | (simp; done) | (simp [*]; done), by repeat (first | exact Drawn0.refl _ | apply Drawn0.step)⟩
              · rw [if_neg c7] at H
                have c7b0 : (!((((rd_T65 l0 x5_1).f0).toList) == (((rd_T65 l1 x5_1).f0).toList)) || (!((((rd_T65 l0 x5_1).f1).toList) == (((rd_T65 l1 x5_1).f1).toList)))) = false := by simpa using c7
                clear c7
                have H' := Aside0.mk H
                clear H
                have p451 : 0 ≤ (x5_1 : Int) := of_decide_eq_true (by first | (with_reducible assumption) | assumption)
                have q451 : x5_1 < (l0.length : Int) := of_decide_eq_true (by first | (with_reducible assumption) | assumption)
                obtain ⟨ad451, e451, hx451_0, hx451_1⟩ := at_T65 HR0.out x5_1 p451 q451
                cases e451
                replace p451 := eq_true p451
                replace q451 := eq_true q451
                have p452 : 0 ≤ (x5_1 : Int) := of_decide_eq_true (by first | (with_reducible assumption) | assumption)
                have q452 : x5_1 < (l1.length : Int) := of_decide_eq_true (by first | (with_reducible assumption) | assumption)
                obtain ⟨ad452, e452, hx452_0, hx452_1⟩ := at_T65 HR1.out x5_1 p452 q452
                cases e452
                replace p452 := eq_true p452
                replace q452 := eq_true q452
                go_wp2
                repeat (go_quiet (fail); try go_wp2)
                go_roundg k1
                case measure => have := HK1.out; omega
                case rel => exact ⟨(wrap64 (x5_1 + 1)), (by first | rfl | (simp; done) | (simp [*]; done)), H', ⟨by have := HK1.out; omega⟩, by repeat (first | exact Drawn0.refl _ | apply Drawn0.step)⟩
            · rw [if_neg c6] at H
              exact absurd H (by simp)
          · rw [if_neg c5] at H
            exact absurd H (by simp)
        · rw [if_neg c4] at H
          have c4b0 : decide (x5_1 < (l0.length : Int)) = false := decide_eq_false c4
          clear c4
          obtain rfl := Option.some.inj H
          go_wp2
          repeat (go_quiet (fail); try go_wp2)
          go_ret
          exact ⟨by first | rfl | (simp; done) | (simp [*]; done), by repeat (first | exact Drawn0.refl _ | apply Drawn0.step)⟩
  · rw [if_neg c3] at H
    have c3b0 : ((l0.length : Int) == (l1.length : Int)) = false := beq_eq_false_iff_ne.mpr c3
    have c3b1 : ((l0.length : Int) != (l1.length : Int)) = true := bne_iff_ne.mpr c3
    have c3b2 : (l0.length == l1.length) = false := by first | simpa using c3 | (simp at c3 ⊢; omega)
    obtain rfl := Option.some.inj H
    go_enter Tryd.func27, Tryd.ntmps27
    go_wp2
    repeat (go_quiet (fail); try go_wp2)
    go_ret
    exact ⟨by first | rfl | (simp; done) | (simp [*]; done), by repeat (first | exact Drawn0.refl _ | apply Drawn0.step)⟩
end
end Go.Proofs.YtmkkeccmjejfnaaDoor.PA
namespace Go.Proofs.YtmkkeccmjejfnaaDoor.PA
section

open Go.RowKit Go.Proofs.YtmkkeccmjejfnaaDoorW.PrintWords Go.Proofs.YtmkkeccmjejfnaaDoorW.PrintLast Go.Proofs.YtmkkeccmjejfnaaDoorW.PrintMore
set_option linter.unusedVariables false
set_option linter.unusedSimpArgs false
section
open Go.ChangeShapes Go.WideShapes Go.Deep
variable {H : Type} {enc : TypeId × Value → H} {P : Program} {w : World} {base : Nat} {spare : Nat → Bool} {held : Bool}
theorem ra_addr (a : Addr) (m i : Nat) : (a.add m).add i = a.add (m + i) := Go.Deep.add_add a m i
theorem open_rows {α : Type} [Inhabited α] (k : Kd α) (Wf : α → Prop) {t e : TypeId} {fuel : Nat} {A : Option Addr} {len cap : Nat} {x : DataW H × List MemPlace} (ht : P.underlying t = some (.slice e)) (hce : P.cellsOf e = k.sz)
    (He : ∀ n cs y, DataW.trod enc P w base spare held n e cs = some y → ∃ v, k.K w v cs ∧ Wf v)
    (h : DataW.trod enc P w base spare held fuel t [.slice A len cap] = some x) : ∃ l : List α, l.length = len ∧ k.C w A len l ∧ len ≤ cap ∧ ∀ v ∈ l, Wf v := by
  rcases open_slice ht h with ⟨hcs, _⟩ | ⟨a, l, c, m, n, D, Pl, hcs, _, hl, hm, hmm, _, hx⟩
  · simp at hcs
    obtain ⟨rfl, rfl, rfl⟩ := hcs
    exact ⟨[], rfl, ⟨rfl, by omega, fun h0 => absurd h0 (by omega)⟩, Nat.le_refl _, by simp⟩
  · simp at hcs
    obtain ⟨rfl, rfl, rfl⟩ := hcs
    have hlm : len ≤ m := by rw [hmm]; split <;> omega
    obtain ⟨f, hf⟩ := choose_lt (α := α) (n := len) (p := fun i v => ∃ cs, w.cells? base (a.add (i * k.sz)) k.sz = some cs ∧ k.K w v cs ∧ Wf v) (fun i hi => by
      obtain ⟨cs', h1, h2⟩ := hx i (by omega)
      rw [hce] at h1
      obtain ⟨v, h3, h4⟩ := He _ _ _ h2
      exact ⟨v, cs', h1, h3, h4⟩)
    refine ⟨(List.range len).map f, by simp, ⟨by simp, by simp only [maxLen] at hm; omega, fun _ => ⟨a, rfl, fun j p hj => ?_⟩⟩, hl, fun v hv => ?_⟩
    · have hjl : j < len := by
        rcases Nat.lt_or_ge j len with h' | h'
        · exact h'
        · rw [List.getElem?_eq_none (by simpa using h')] at hj; cases hj
      simp [hjl] at hj
      subst hj
      obtain ⟨cs, h1, h2, _⟩ := hf j hjl
      obtain ⟨_, h3, h4⟩ := World.cells?_some h1
      refine ⟨cs, h3, h2, fun i u hu => ?_⟩
      have hi : i < k.sz := by rw [← h3]; exact (List.getElem?_eq_some_iff.1 hu).1
      rw [← ra_addr, h4 i hi, hu]
    · simp only [List.mem_map, List.mem_range] at hv
      obtain ⟨j, hj, rfl⟩ := hv
      exact (hf j hj).choose_spec.2.2
theorem open_rows_sized {ts : List TypeId} {ds : List (DataW H)} {ps : List MemPlace} {d : DataW H} {j : Nat} {t e : TypeId} {A : Option Addr} {len cap : Nat}
    (hsz : (DataW.weightsEach P ts ds).all (· ≤ reachBytes) = true) (htj : ts[j]? = some t) (hdj : ds[j]? = some d) (ht : P.underlying t = some (.slice e)) {B : Nat} (hB : P.bytesOf e = B)
    (h : DataW.Trod enc P w base spare held t (.slice A len cap) d ps) : len * B ≤ 140737488351232 := by
  obtain ⟨fuel, hf⟩ := h
  rcases open_slice ht hf with ⟨hcs, _⟩ | ⟨a, l, c, m, n, D, Pl, hcs, _, hl, hm, hmm, hx, _⟩
  · simp [Value.cells] at hcs
    obtain ⟨rfl, rfl, rfl⟩ := hcs
    simp
  · simp [Value.cells] at hcs
    obtain ⟨rfl, rfl, rfl⟩ := hcs
    obtain ⟨hx, _⟩ := Prod.mk.inj hx
    subst hx
    have z := sized_slice hsz htj hdj ht
    rw [hB] at z
    have hle : len ≤ m := by rw [hmm]; split <;> omega
    simp only [List.length_map, List.length_range] at z
    have h3 : len ≤ len + (m - len) := by omega
    exact Nat.le_trans (Nat.mul_le_mul_right _ h3) z
end
theorem toList_data (a : ByteArray) : a.toList = a.data.toList := by
  have key : ∀ (d i : Nat) (r : List UInt8), i + d = a.size → ByteArray.toList.loop a i r = r.reverse ++ a.data.toList.drop i := by
    intro d
    induction d with
    | zero =>
      intro i r h
      unfold ByteArray.toList.loop
      rw [if_neg (by omega), List.drop_eq_nil_of_le (by simp; show a.size ≤ i; omega), List.append_nil]
    | succ d ih =>
      intro i r h
      have hi : i < a.data.toList.length := by simp; show i < a.size; omega
      unfold ByteArray.toList.loop
      rw [if_pos (by omega), ih (i + 1) _ (by omega), List.drop_eq_getElem_cons hi]
      have : a.get! i = a.data.toList[i] := by
        cases a with
        | mk bs =>
          simp at hi
          show bs[i]! = _
          rw [getElem!_pos bs i hi]
          simp
      simp [this]
  have := key a.size 0 [] (by omega)
  simpa [ByteArray.toList] using this
theorem toList_inj' {a b : ByteArray} : a.toList = b.toList ↔ a = b := by
  rw [toList_data, toList_data]
  constructor
  · intro h; exact ByteArray.ext (Array.toList_inj.1 h)
  · rintro rfl; rfl
theorem strOfNums_append (a b : List Int) : strOfNums a ++ strOfNums b = strOfNums (a ++ b) := by
  apply ByteArray.ext
  simp [strOfNums]
theorem strOfNums_inj {a b : List Int} (ha : byteL a) (hb : byteL b) (h : strOfNums a = strOfNums b) : a = b := by
  rw [← bytesOf_strOfNums a ha, ← bytesOf_strOfNums b hb, h]
theorem strOfNums_bytesOf (s : ByteArray) : strOfNums (bytesOf s) = s := by
  apply ByteArray.ext
  simp only [strOfNums, bytesOf, List.map_map]
  have : ∀ l : List UInt8, l.map ((fun n : Int => UInt8.ofNat n.toNat) ∘ fun b : UInt8 => ((b.toNat : Nat) : Int)) = l := by
    intro l
    conv => rhs; rw [← List.map_id l]
    refine List.map_congr_left (fun b _ => ?_)
    simp
  rw [this]
theorem bytesOf_byteL (s : ByteArray) : byteL (bytesOf s) := by
  intro b hb
  simp only [bytesOf, List.mem_map] at hb
  obtain ⟨x, _, rfl⟩ := hb
  have := x.toNat_lt
  omega
theorem byteL_append {a b : List Int} (ha : byteL a) (hb : byteL b) : byteL (a ++ b) := by
  intro x hx
  rcases List.mem_append.1 hx with h | h
  · exact ha x h
  · exact hb x h
theorem byteL_leB (x : Int) (n : Nat) : byteL (leB x n) := leB_byte x n
theorem byteL_cons {b : Int} {l : List Int} (h : byteL (b :: l)) : 0 ≤ b ∧ b ≤ 255 ∧ byteL l := ⟨(h b (by simp)).1, (h b (by simp)).2, fun x hx => h x (by simp [hx])⟩
theorem byteL_mk {b : Int} {l : List Int} (h0 : 0 ≤ b) (h1 : b ≤ 255) (h : byteL l) : byteL (b :: l) := by
  intro x hx
  rcases List.mem_cons.1 hx with rfl | hx
  · exact ⟨h0, h1⟩
  · exact h x hx
theorem encI_byteL (x : S77) : byteL (encI x) := by
  unfold encI
  split
  · exact byteL_mk (by omega) (by omega) (byteL_leB _ _)
  · exact byteL_mk (by omega) (by omega) (byteL_append (byteL_leB _ _) (bytesOf_byteL _))
theorem encL_byteL (l : List S77) : byteL (encL l) := by
  intro b hb
  simp only [encL, List.mem_flatMap] at hb
  obtain ⟨x, _, hx⟩ := hb
  exact encI_byteL x b hx
theorem encL_append (l m : List S77) : encL (l ++ m) = encL l ++ encL m := by simp [encL]
theorem encL_cons (x : S77) (l : List S77) : encL (x :: l) = encI x ++ encL l := by simp [encL]
theorem checkV_iff (l : List S77) : pack_checkV l = 0 ↔ l.length ≤ 4000 ∧ ∀ x ∈ l, okB x = true ∧ longB x = false := by
  unfold pack_checkV
  constructor
  · intro h
    by_cases h1 : 4000 < (l.length : Int)
    · rw [if_pos h1] at h; cases h
    rw [if_neg h1] at h
    by_cases h2 : l.any longB = true
    · rw [if_pos h2] at h; cases h
    rw [if_neg h2] at h
    by_cases h3 : l.all okB = true
    · refine ⟨by omega, fun x hx => ⟨List.all_eq_true.1 h3 x hx, ?_⟩⟩
      cases hh : longB x
      · rfl
      · exact absurd (List.any_eq_true.2 ⟨x, hx, hh⟩) h2
    · rw [if_neg h3] at h; cases h
  · rintro ⟨h1, h2⟩
    rw [if_neg (by omega), if_neg (by simp only [List.any_eq_true, not_exists, not_and]; intro x hx; simp [(h2 x hx).2]), if_pos (by simp only [List.all_eq_true]; exact fun x hx => (h2 x hx).1)]
theorem encode_some (l : List S77) : pack_Encode.f l = some (if pack_checkV l = 0 then encL l else [], pack_checkV l) := rfl
def decL : Nat → List S77 → List Int → List S77 × Int
  | 0, acc, _ => (acc, 0)
  | n + 1, acc, b =>
    match b with
    | [] => (acc, 0)
    | c :: r =>
      if c = 1 ∧ 8 ≤ r.length then
        (if (acc ++ [(⟨1, wrap64 (getV (r.take 8)), ⟨#[]⟩⟩ : S77)]).length > 4000 then ([], 2) else decL n (acc ++ [(⟨1, wrap64 (getV (r.take 8)), ⟨#[]⟩⟩ : S77)]) (r.drop 8))
      else if c = 2 ∧ 2 ≤ r.length then
        (if getV (r.take 2) > 50000 ∨ getV (r.take 2) > (r.length : Int) - 2 then ([], 2)
         else if (acc ++ [(⟨2, 0, strOfNums ((r.drop 2).take (getV (r.take 2)).toNat)⟩ : S77)]).length > 4000 then ([], 2)
         else decL n (acc ++ [(⟨2, 0, strOfNums ((r.drop 2).take (getV (r.take 2)).toNat)⟩ : S77)]) (r.drop (2 + (getV (r.take 2)).toNat)))
      else ([], 2)
theorem get_val' (l : List Int) (hl : byteL l) (h8 : l.length ≤ 8) (k : Nat) (hk : 9 ≤ k) : pack_get.f k l = some (getV l) := by
  have h := get_tells l hl h8 l.length k 0 (by omega) (by omega)
  simpa [pack_get.f, getV] using h
theorem getV2 (l : List Int) (hl : byteL l) (h : l.length = 2) : 0 ≤ getV l ∧ getV l ≤ 65535 := by
  have := getV_range l hl
  rw [h] at this
  omega
theorem w64_small (x : Int) (h0 : 0 ≤ x) (h1 : x ≤ 9223372036854775807) : wrap64 x = x := by unfold wrap64; omega
theorem decode_tells : ∀ (n : Nat) (b : List Int) (acc : List S77) (k : Nat), byteL b → b.length ≤ n → b.length ≤ 140737488351232 → acc.length ≤ 4000 → 4 * n + 20 ≤ k → pack_Decode.l0 k b acc = some (decL (n + 1) acc b) := by
  intro n
  induction n with
  | zero =>
    intro b acc k hb hn hl ha hk
    obtain rfl : b = [] := List.eq_nil_of_length_eq_zero (by omega)
    obtain ⟨k, rfl⟩ : ∃ m, k = m + 1 := ⟨k - 1, by omega⟩
    simp [pack_Decode.l0, decL]
  | succ n ih =>
    intro b acc k hb hn hl ha hk
    obtain ⟨k, rfl⟩ : ∃ m, k = m + 4 := ⟨k - 4, by omega⟩
    match b, hb, hn, hl with
    | [], _, _, _ => simp [pack_Decode.l0, decL]
    | c :: r, hb, hn, hl =>
      obtain ⟨hc0, hc1, hr⟩ := byteL_cons hb
      have hrl : r.length ≤ n := by simpa using hn
      have hrl2 : r.length ≤ 140737488351231 := by simp only [List.length_cons] at hl; omega
      have hrd : rd (c :: r) 0 = c := by simp [rd]
      have hd1 : (c :: r).drop 1 = r := rfl
      rw [show k + 4 = (k + 3) + 1 by omega]
      simp only [pack_Decode.l0]
      rw [if_pos (by simp only [List.length_cons]; omega), if_pos (by simp only [List.length_cons]; omega), if_pos (by simp only [List.length_cons]; omega), hrd, hd1]
      simp only [Option.bind_some]
      rw [decL]
      by_cases h1 : c = 1 ∧ 8 ≤ r.length
      · rw [if_pos h1, if_pos h1.1, show k + 3 = (k + 2) + 1 by omega]
        simp only [pack_Decode.j1]
        rw [if_pos (by simpa using (by omega : (8 : Int) ≤ r.length)), if_pos (by omega), get_val' _ (byteL_take hr 8) (by simp; omega) _ (by omega)]
        simp only [Option.bind_some]
        rw [if_pos (by omega)]
        by_cases h4 : (acc ++ [(⟨1, wrap64 (getV (r.take 8)), ⟨#[]⟩⟩ : S77)]).length > 4000
        · rw [if_pos (by omega), if_pos h4]
        · rw [if_neg (by omega), if_neg h4]
          exact ih _ _ _ (byteL_drop hr 8) (by simp; omega) (by simp; omega) (by omega) (by omega)
      · rw [if_neg h1]
        have e1 : (if c = 1 then pack_Decode.j1 (k + 3) acc c r (decide ((r.length : Int) ≥ 8)) else pack_Decode.j1 (k + 3) acc c r false) = pack_Decode.j1 (k + 3) acc c r false := by
          by_cases hc : c = 1
          · rw [if_pos hc]
            congr 1
            simp only [decide_eq_false_iff_not]
            have : ¬ 8 ≤ r.length := fun h => h1 ⟨hc, h⟩
            omega
          · rw [if_neg hc]
        rw [e1, show k + 3 = (k + 2) + 1 by omega]
        simp only [pack_Decode.j1]
        rw [if_neg (by simp)]
        by_cases h2 : c = 2 ∧ 2 ≤ r.length
        · have hg := getV2 (r.take 2) (byteL_take hr 2) (by rw [List.length_take]; omega)
          rw [if_pos h2, if_pos h2.1, show k + 2 = (k + 1) + 1 by omega]
          simp only [pack_Decode.j2]
          rw [if_pos (by simpa using (by omega : (2 : Int) ≤ r.length)), if_pos (by omega), get_val' _ (byteL_take hr 2) (by simp; omega) _ (by omega)]
          simp only [Option.bind_some]
          rw [w64_small _ hg.1 (by omega), w64_small ((r.length : Int) - 2) (by omega) (by omega)]
          generalize hgv : getV (r.take 2) = v at *
          by_cases h5 : v > 50000 ∨ v > (r.length : Int) - 2
          · rw [if_pos h5]
            by_cases h6 : v > 50000
            · rw [if_pos h6]; simp [pack_Decode.j3]
            · rw [if_neg h6, show decide (v > (r.length : Int) - 2) = true by simpa using h5.resolve_left h6]; simp [pack_Decode.j3]
          · rw [if_neg h5, if_neg (by omega), show decide (v > (r.length : Int) - 2) = false by simp; omega]
            simp only [pack_Decode.j3]
            rw [if_neg (by simp), w64_small (2 + v) (by omega) (by omega), if_pos (by omega), if_pos (by omega), if_pos (by omega)]
            simp only [Option.bind_some]
            have et : (2 + v).toNat = 2 + v.toNat := by omega
            rw [if_pos (by omega), et, List.drop_take, show 2 + v.toNat - 2 = v.toNat by omega]
            by_cases h4 : (acc ++ [(⟨2, 0, strOfNums ((r.drop 2).take v.toNat)⟩ : S77)]).length > 4000
            · rw [if_pos (by omega), if_pos h4]
            · rw [if_neg (by omega), if_neg h4]
              exact ih _ _ _ (byteL_drop hr _) (by simp; omega) (by simp; omega) (by omega) (by omega)
        · rw [if_neg h2]
          have e2 : (if c = 2 then pack_Decode.j2 (k + 2) acc r (decide ((r.length : Int) ≥ 2)) else pack_Decode.j2 (k + 2) acc r false) = pack_Decode.j2 (k + 2) acc r false := by
            by_cases hc : c = 2
            · rw [if_pos hc]
              congr 1
              simp only [decide_eq_false_iff_not]
              have : ¬ 2 ≤ r.length := fun h => h2 ⟨hc, h⟩
              omega
            · rw [if_neg hc]
          rw [e2]
          simp [pack_Decode.j2]
def decF (b : List Int) : List S77 × Int := decL (b.length + 1) [] b
theorem decode_val (b : List Int) (hb : byteL b) (hl : b.length ≤ 140737488351232) (k : Nat) (hk : 4 * b.length + 20 ≤ k) : pack_Decode.f k b = some (decF b) :=
  decode_tells b.length b [] k hb (Nat.le_refl _) hl (by simp) hk
def wfI (x : S77) : Prop := (Lit.int .i64 x.f1).wf = true
theorem wf_i64 {x : Int} (h : (Lit.int .i64 x).wf = true) : -9223372036854775808 ≤ x ∧ x ≤ 9223372036854775807 := by
  simpa [Lit.wf, IntKind.min, IntKind.max, IntKind.signed, IntKind.bits] using h
theorem i64_u64 (x : Int) (h0 : -9223372036854775808 ≤ x) (h1 : x ≤ 9223372036854775807) : wrap64 (IntKind.u64.wrap x) = x := by
  have : IntKind.u64.wrap x = x % 18446744073709551616 := by simp [IntKind.wrap, IntKind.signed, IntKind.bits]
  rw [this]; unfold wrap64; omega
theorem dec_enc : ∀ (l : List S77) (acc : List S77) (n : Nat), (∀ x ∈ l, okB x = true ∧ longB x = false ∧ wfI x) → acc.length + l.length ≤ 4000 → (encL l).length < n → decL n acc (encL l) = (acc ++ l, 0) := by
  intro l
  induction l with
  | nil =>
    intro acc n _ _ hn
    obtain ⟨n, rfl⟩ : ∃ m, n = m + 1 := ⟨n - 1, by omega⟩
    simp [encL, decL]
  | cons x l ih =>
    intro acc n h ha hn
    obtain ⟨n, rfl⟩ : ∃ m, n = m + 1 := ⟨n - 1, by omega⟩
    obtain ⟨h1, h2, h3⟩ := h x (by simp)
    have hrest := fun y (hy : y ∈ l) => h y (by simp [hy])
    have hw := wf_i64 h3
    have hur := u64_range x.f1
    simp only [List.length_cons] at ha
    rw [encL_cons] at hn ⊢
    by_cases k1 : x.f0 = 1
    · have e : encI x = 1 :: leB (IntKind.u64.wrap x.f1) 8 := by rw [encI, if_pos k1]
      have hx : x = ⟨1, x.f1, ⟨#[]⟩⟩ := by
        have hs : x.f2 = ⟨#[]⟩ := by
          rw [okB_1 k1] at h1
          exact toList_inj'.1 (by simpa using h1)
        obtain ⟨a, b, c⟩ := x
        simp only at k1 hs
        subst k1 hs
        rfl
      rw [e] at hn ⊢
      simp only [List.cons_append]
      rw [decL, if_pos ⟨rfl, by simp [leB_length]⟩]
      rw [List.take_append_of_le_length (by rw [leB_length]; omega), List.take_of_length_le (by rw [leB_length]; omega), getV_leB _ 8 hur.1 (by simpa using hur.2), i64_u64 _ hw.1 hw.2]
      rw [List.drop_append_of_le_length (by rw [leB_length]; omega), List.drop_eq_nil_of_le (by rw [leB_length]; omega), List.nil_append, ← hx]
      rw [if_neg (by simp; omega), ih _ _ hrest (by simp; omega) (by simp [leB_length] at hn; omega)]
      simp
    · have k2 := kind_ok h1 k1
      have e : encI x = 2 :: (leB (x.f2.size : Int) 2 ++ bytesOf x.f2) := by rw [encI, if_neg k1]
      have hz : x.f2.size ≤ 50000 := by
        simp only [longB, k2, Bool.and_eq_false_iff, decide_eq_false_iff_not] at h2
        rcases h2 with h2 | h2
        · cases h2
        · omega
      have hx : x = ⟨2, 0, x.f2⟩ := by
        rw [okB_2 k2] at h1
        obtain ⟨a, b, c⟩ := x
        simp only [beq_iff_eq] at k2 h1
        subst k2 h1
        rfl
      rw [e] at hn ⊢
      simp only [List.cons_append]
      have t2 : (leB (x.f2.size : Int) 2 ++ bytesOf x.f2 ++ encL l).take 2 = leB (x.f2.size : Int) 2 := by
        rw [List.append_assoc, List.take_append_of_le_length (by rw [leB_length]; omega), List.take_of_length_le (by rw [leB_length]; omega)]
      have d2 : (leB (x.f2.size : Int) 2 ++ bytesOf x.f2 ++ encL l).drop 2 = bytesOf x.f2 ++ encL l := by
        rw [List.append_assoc, List.drop_append_of_le_length (by rw [leB_length]; omega), List.drop_eq_nil_of_le (by rw [leB_length]; omega), List.nil_append]
      have gv : getV (leB (x.f2.size : Int) 2) = (x.f2.size : Int) := getV_leB _ 2 (by omega) (by omega)
      rw [decL, if_neg (by simp), if_pos ⟨rfl, by simp only [List.length_append, leB_length]; omega⟩, t2, gv, if_neg (by simp [leB_length, bytesOf_length]; omega), d2, Int.toNat_natCast]
      rw [List.take_append_of_le_length (by rw [bytesOf_length]; omega), List.take_of_length_le (by rw [bytesOf_length]; omega), strOfNums_bytesOf, ← hx]
      have d3 : (leB (x.f2.size : Int) 2 ++ bytesOf x.f2 ++ encL l).drop (2 + x.f2.size) = encL l := by
        rw [← List.drop_drop, d2, List.drop_append_of_le_length (by rw [bytesOf_length]; omega), List.drop_eq_nil_of_le (by rw [bytesOf_length]; omega), List.nil_append]
      rw [if_neg (by simp; omega), d3, ih _ _ hrest (by simp; omega) (by simp [leB_length] at hn; omega)]
      simp
theorem u64_i64 (x : Int) (h0 : 0 ≤ x) (h1 : x < 18446744073709551616) : IntKind.u64.wrap (wrap64 x) = x := by
  have : ∀ y, IntKind.u64.wrap y = y % 18446744073709551616 := fun y => by simp [IntKind.wrap, IntKind.signed, IntKind.bits]
  rw [this]; unfold wrap64; omega
theorem wfI_wrap (v : Int) (a : Int) (s : ByteArray) : wfI ⟨a, wrap64 v, s⟩ := by
  unfold wfI Lit.wf
  simp [IntKind.min, IntKind.max, IntKind.signed, IntKind.bits]
  unfold wrap64
  omega
theorem enc_dec : ∀ (n : Nat) (acc : List S77) (b : List Int), byteL b → b.length < n → acc.length ≤ 4000 →
    decL n acc b = ([], 2) ∨ ∃ m, decL n acc b = (acc ++ m, 0) ∧ encL m = b ∧ (∀ x ∈ m, okB x = true ∧ longB x = false ∧ wfI x) ∧ acc.length + m.length ≤ 4000 := by
  intro n
  induction n with
  | zero => intro acc b _ h; omega
  | succ n ih =>
    intro acc b hb hn ha
    match b, hb, hn with
    | [], _, _ => exact .inr ⟨[], by simp [decL], by simp [encL], by simp, by simpa using ha⟩
    | c :: r, hb, hn =>
      obtain ⟨hc0, hc1, hr⟩ := byteL_cons hb
      have hrl : r.length < n := by simpa using hn
      rw [decL]
      by_cases h1 : c = 1 ∧ 8 ≤ r.length
      · rw [if_pos h1]
        by_cases h4 : (acc ++ [(⟨1, wrap64 (getV (r.take 8)), ⟨#[]⟩⟩ : S77)]).length > 4000
        · rw [if_pos h4]; exact .inl rfl
        · rw [if_neg h4]
          rcases ih (acc ++ [(⟨1, wrap64 (getV (r.take 8)), ⟨#[]⟩⟩ : S77)]) (r.drop 8) (byteL_drop hr 8) (by simp; omega) (by omega) with h | ⟨m, hm, he, hw, hl⟩
          · exact .inl h
          · refine .inr ⟨⟨1, wrap64 (getV (r.take 8)), ⟨#[]⟩⟩ :: m, by rw [hm]; simp, ?_, ?_, by simp at hl ⊢; omega⟩
            · have hlen : (r.take 8).length = 8 := by rw [List.length_take]; omega
              have hg := getV_range (r.take 8) (byteL_take hr 8)
              rw [hlen] at hg
              rw [encL_cons, he, encI, if_pos rfl, u64_i64 _ hg.1 (by simpa using hg.2)]
              have h8 := leB_getV (r.take 8) (byteL_take hr 8)
              rw [hlen] at h8
              rw [h8, h1.1]
              simp
            · intro x hx
              rcases List.mem_cons.1 hx with rfl | hx
              · exact ⟨by simp [okB, toList_data], by simp [longB], wfI_wrap _ _ _⟩
              · exact hw x hx
      · rw [if_neg h1]
        by_cases h2 : c = 2 ∧ 2 ≤ r.length
        · rw [if_pos h2]
          have hlen : (r.take 2).length = 2 := by rw [List.length_take]; omega
          have hg := getV2 (r.take 2) (byteL_take hr 2) hlen
          have h8 := leB_getV (r.take 2) (byteL_take hr 2)
          rw [hlen] at h8
          generalize hgv : getV (r.take 2) = v at *
          by_cases h5 : v > 50000 ∨ v > (r.length : Int) - 2
          · rw [if_pos h5]; exact .inl rfl
          · rw [if_neg h5]
            by_cases h4 : (acc ++ [(⟨2, 0, strOfNums ((r.drop 2).take v.toNat)⟩ : S77)]).length > 4000
            · rw [if_pos h4]; exact .inl rfl
            · rw [if_neg h4]
              rcases ih (acc ++ [(⟨2, 0, strOfNums ((r.drop 2).take v.toNat)⟩ : S77)]) (r.drop (2 + v.toNat)) (byteL_drop hr _) (by simp; omega) (by omega) with h | ⟨m, hm, he, hw, hl⟩
              · exact .inl h
              · have hsz : (strOfNums ((r.drop 2).take v.toNat)).size = v.toNat := by rw [size_strOfNums]; simp; omega
                refine .inr ⟨⟨2, 0, strOfNums ((r.drop 2).take v.toNat)⟩ :: m, by rw [hm]; simp, ?_, ?_, by simp at hl ⊢; omega⟩
                · rw [encL_cons, he, encI, if_neg (by simp)]
                  simp only [hsz]
                  rw [show ((v.toNat : Nat) : Int) = v by omega, h8, bytesOf_strOfNums _ (byteL_take (byteL_drop hr 2) _), h2.1]
                  simp only [List.cons_append]
                  congr 1
                  rw [List.append_assoc, ← List.drop_drop, List.take_append_drop, List.take_append_drop]
                · intro x hx
                  rcases List.mem_cons.1 hx with rfl | hx
                  · refine ⟨by simp [okB], ?_, by show (Lit.int .i64 0).wf = true; decide⟩
                    simp only [longB, hsz, Bool.and_eq_false_iff, decide_eq_false_iff_not]
                    right; omega
                  · exact hw x hx
        · rw [if_neg h2]; exact .inl rfl
theorem decF_enc (l : List S77) (hc : pack_checkV l = 0) (hw : ∀ x ∈ l, wfI x) : decF (encL l) = (l, 0) := by
  obtain ⟨h1, h2⟩ := (checkV_iff l).1 hc
  have := dec_enc l [] ((encL l).length + 1) (fun x hx => ⟨(h2 x hx).1, (h2 x hx).2, hw x hx⟩) (by simpa using h1) (by omega)
  simpa [decF] using this
theorem decF_tells (b : List Int) (hb : byteL b) : decF b = ([], 2) ∨ ∃ m, decF b = (m, 0) ∧ encL m = b ∧ pack_checkV m = 0 ∧ ∀ x ∈ m, wfI x := by
  rcases enc_dec (b.length + 1) [] b hb (by omega) (by simp) with h | ⟨m, h1, h2, h3, h4⟩
  · exact .inl h
  · exact .inr ⟨m, by simpa [decF] using h1, h2, (checkV_iff m).2 ⟨by simpa using h4, fun x hx => ⟨(h3 x hx).1, (h3 x hx).2.1⟩⟩, fun x hx => (h3 x hx).2.2⟩
def sealL (l : List Int) : List Int := l ++ leB (crcV l) 4
theorem sealL_length (l : List Int) : (sealL l).length = l.length + 4 := by simp [sealL, leB_length]
theorem sealL_byteL {l : List Int} (h : byteL l) : byteL (sealL l) := byteL_append h (byteL_leB _ _)
theorem seal_val (l : List Int) (hl : byteL l) (hm : l.length ≤ 140737488351232) : pack_Seal.f (10 * l.length + 20) l = some (sealL l) := by
  have hcr := crcV_range l hl
  have h1 : pack_Crc.f (10 * l.length + 20) l = some (crcV l) := by
    have h := crc_tells l hl (by omega) l.length (10 * l.length + 20) 0 4294967295 (by decide) (by omega) (by omega)
    simpa [pack_Crc.f, crcV] using h
  have h2 : pack_put.f (10 * l.length + 20) l (crcV l) 4 = some (l ++ leB (crcV l) 4) := by
    rw [pack_put.f]
    exact put_tells 4 (by omega) 4 (10 * l.length + 20) (crcV l) l 0 (by omega) (by omega) (by omega) (by omega)
  unfold pack_Seal.f
  rw [bytes_Clone.f, if_pos (by omega), h1]
  simp only [Option.bind_some]
  rw [u64_id _ hcr.1 (by omega), h2]
  rfl
theorem bytesOf_extract (s : ByteArray) (i j : Nat) : bytesOf (s.extract i j) = ((bytesOf s).take j).drop i := by
  simp only [bytesOf, ByteArray.data_extract, Array.toList_extract]
  simp [List.map_drop, List.map_take, List.extract_eq_take_drop, List.drop_take]
def mirV (x : Nat) : Nat → Nat
  | 0 => 0
  | n + 1 => 2 * mirV x n + (x / 2 ^ n) % 2
theorem mirV_bit (x n i : Nat) : (mirV x n).testBit i = (decide (i < n) && x.testBit (n - 1 - i)) := by
  induction n generalizing i with
  | zero => simp [mirV]
  | succ n ih =>
    rw [mirV]
    cases i with
    | zero =>
      rw [Nat.testBit_zero]
      have : x.testBit n = decide ((x / 2 ^ n) % 2 = 1) := by rw [Nat.testBit_eq_decide_div_mod_eq]
      simp only [Nat.add_sub_cancel, Nat.sub_zero, this]
      rw [show (2 * mirV x n + x / 2 ^ n % 2) % 2 = x / 2 ^ n % 2 by omega]
      simp
    | succ i =>
      rw [Nat.testBit_add_one, show (2 * mirV x n + x / 2 ^ n % 2) / 2 = mirV x n by omega, ih]
      have e : n + 1 - 1 - (i + 1) = n - 1 - i := by omega
      rw [e]
      simp
theorem mirV_lt (x n : Nat) : mirV x n < 2 ^ n := by
  induction n with
  | zero => simp [mirV]
  | succ n ih => rw [mirV, Nat.pow_succ]; omega
theorem mirV_xor (a b n : Nat) : mirV (a ^^^ b) n = mirV a n ^^^ mirV b n := by
  apply Nat.eq_of_testBit_eq
  intro i
  rw [Nat.testBit_xor, mirV_bit, mirV_bit, mirV_bit, Nat.testBit_xor]
  cases decide (i < n) <;> simp
theorem mirV_mirV (x n : Nat) (h : x < 2 ^ n) : mirV (mirV x n) n = x := by
  apply Nat.eq_of_testBit_eq
  intro i
  rw [mirV_bit, mirV_bit]
  by_cases hi : i < n
  · simp only [hi, decide_true, Bool.true_and]
    rw [show n - 1 - (n - 1 - i) = i by omega]
    simp
    omega
  · simp only [hi, decide_false, Bool.false_and]
    symm
    exact Nat.testBit_lt_two_pow (Nat.lt_of_lt_of_le h (Nat.pow_le_pow_right (by decide) (by omega)))
theorem mirV_byte (b : Nat) (h : b < 256) : mirV b 32 = mirV b 8 * 16777216 := by
  apply Nat.eq_of_testBit_eq
  intro i
  rw [show 16777216 = 2 ^ 24 from rfl, Nat.mul_comm, Nat.testBit_two_pow_mul, mirV_bit, mirV_bit]
  by_cases h1 : 24 ≤ i
  · by_cases h2 : i < 32
    · simp only [h1, h2, show i - 24 < 8 by omega, decide_true, Bool.true_and]
      rw [show 8 - 1 - (i - 24) = 32 - 1 - i by omega]
    · simp only [h2, show ¬ i - 24 < 8 by omega, decide_false, Bool.false_and, Bool.and_false]
  · have : b.testBit (32 - 1 - i) = false := Nat.testBit_lt_two_pow (Nat.lt_of_lt_of_le h (by rw [show 256 = 2 ^ 8 from rfl]; exact Nat.pow_le_pow_right (by decide) (by omega)))
    simp [h1, this]
def refBit (r : Nat) : Nat := if r * 2 / 4294967296 = 0 then r * 2 else (r * 2) ^^^ 4374732215
theorem mirV_half (s : Nat) (h : s < 4294967296) : mirV (s / 2) 32 = (mirV s 32 * 2) % 4294967296 := by
  apply Nat.eq_of_testBit_eq
  intro i
  rw [show 4294967296 = 2 ^ 32 from rfl, Nat.testBit_mod_two_pow, mirV_bit]
  by_cases hi : i < 32
  · simp only [hi, decide_true, Bool.true_and]
    cases i with
    | zero =>
      have : (s / 2).testBit 31 = false := Nat.testBit_lt_two_pow (by omega)
      rw [this]
      simp [Nat.testBit_zero]
    | succ i =>
      rw [Nat.testBit_add_one, Nat.mul_div_cancel _ (by decide), mirV_bit, ← Nat.testBit_add_one]
      simp only [show i < 32 by omega, decide_true, Bool.true_and]
      rw [show 32 - 1 - (i + 1) + 1 = 32 - 1 - i by omega]
  · simp [hi]
theorem mirV_odd (s : Nat) : mirV s 32 / 2147483648 = s % 2 := by
  have h := mirV_bit s 32 31
  have hl := mirV_lt s 32
  rw [Nat.testBit_eq_decide_div_mod_eq, show 32 - 1 - 31 = 0 by rfl, Nat.testBit_zero] at h
  have h2 : mirV s 32 / 2 ^ 31 < 2 := by omega
  have h3 : 2 ^ 31 = 2147483648 := rfl
  rw [h3] at h h2
  simp at h
  omega
theorem mir_step (s : Nat) (h : s < 4294967296) : mirV (crcBit s) 32 = refBit (mirV s 32) := by
  have h1 := mirV_half s h
  have h2 := mirV_odd s
  have h3 := mirV_lt s 32
  unfold crcBit refBit
  by_cases ho : s % 2 = 1
  · rw [if_pos ho, if_neg (by omega), mirV_xor, h1, show mirV 3988292384 32 = 79764919 by decide +kernel]
    have e : mirV s 32 * 2 = (mirV s 32 * 2) % 4294967296 ^^^ 4294967296 := by
      have hm : (mirV s 32 * 2) % 4294967296 < 2 ^ 32 := Nat.mod_lt _ (by decide)
      rw [Nat.xor_comm]
      have := Nat.two_pow_add_eq_or_of_lt hm 1
      rw [show 2 ^ 32 * 1 = 4294967296 by rfl] at this
      have hx : 4294967296 ^^^ (mirV s 32 * 2) % 4294967296 = 4294967296 ||| (mirV s 32 * 2) % 4294967296 := by
        apply Nat.eq_of_testBit_eq
        intro i
        rw [Nat.testBit_xor, Nat.testBit_or, show 4294967296 = 2 ^ 32 from rfl, Nat.testBit_mod_two_pow, Nat.testBit_two_pow]
        by_cases hi : i < 32
        · have : ¬ 32 = i := by omega
          simp [hi, this]
        · simp [hi]
      rw [hx, ← this]
      omega
    conv => rhs; rw [e]
    rw [Nat.xor_assoc, show 4294967296 ^^^ 4374732215 = 79764919 by decide +kernel]
  · rw [if_neg ho, if_pos (by omega), h1]
    omega
theorem mirror_tells (x : Nat) (hx : x < 18446744073709551616) (n : Nat) (hn : n ≤ 32) : ∀ (d k i : Nat), i + d = n → d < k → cisternref03_mirror.l0 k (x : Int) (n : Int) ((mirV x i : Nat) : Int) (i : Int) = some ((mirV x n : Nat) : Int) := by
  intro d
  induction d with
  | zero =>
    intro k i hd hk
    obtain ⟨k, rfl⟩ : ∃ m, k = m + 1 := ⟨k - 1, by omega⟩
    obtain rfl : i = n := by omega
    simp only [cisternref03_mirror.l0]
    rw [if_neg (by omega)]
  | succ d ih =>
    intro k i hd hk
    obtain ⟨k, rfl⟩ : ∃ m, k = m + 1 := ⟨k - 1, by omega⟩
    have hml := mirV_lt x i
    have hp : 2 ^ i ≤ 2 ^ 31 := Nat.pow_le_pow_right (by decide) (by omega)
    have hsh : shr .u64 (x : Int) (i : Int) = ((x / 2 ^ i : Nat) : Int) := by
      unfold shr
      rw [Int.toNat_natCast, Nat.min_eq_left (by show i ≤ 64; omega)]
      simp
    have hxi : x / 2 ^ i < 18446744073709551616 := Nat.lt_of_le_of_lt (Nat.div_le_self _ _) hx
    have hand : Go.bits .and .u64 ((x / 2 ^ i : Nat) : Int) 1 = ((x / 2 ^ i % 2 : Nat) : Int) := by
      have h := (bits_nat .u64 64 (by decide) (fun n h0 h1 => u64_id n h0 (by simpa using h1)) (x / 2 ^ i) 1 hxi (by decide)).1
      rw [Nat.and_one_is_mod] at h
      simpa using h
    simp only [cisternref03_mirror.l0]
    rw [if_pos (by omega), if_pos (by omega), hsh, hand, u64_id (((mirV x i : Nat) : Int) * 2) (by omega) (by omega), u64_id _ (by omega) (by omega), show wrap64 ((i : Int) + 1) = ((i + 1 : Nat) : Int) by unfold wrap64; omega]
    have e : ((mirV x i : Nat) : Int) * 2 + ((x / 2 ^ i % 2 : Nat) : Int) = ((mirV x (i + 1) : Nat) : Int) := by
      rw [mirV]; omega
    rw [e]
    exact ih k (i + 1) (by omega) (by omega)
theorem mirror_val (x : Nat) (hx : x < 18446744073709551616) (n k : Nat) (hn : n ≤ 32) (hk : n < k) : cisternref03_mirror.f k (x : Int) (n : Int) = some ((mirV x n : Nat) : Int) :=
  mirror_tells x hx n hn n k 0 (by omega) hk
def refBits : Nat → Nat → Nat
  | 0, r => r
  | n + 1, r => refBits n (refBit r)
theorem refBit_lt {r : Nat} (h : r < 4294967296) : refBit r < 4294967296 := by
  have := mir_step (mirV r 32) (mirV_lt r 32)
  rw [mirV_mirV r 32 h] at this
  rw [← this]
  exact mirV_lt _ 32
theorem refBits_mir (n s : Nat) (h : s < 4294967296) : refBits n (mirV s 32) = mirV (crcBits n s) 32 := by
  induction n generalizing s with
  | zero => rfl
  | succ n ih => rw [refBits, ← mir_step s h, ih _ (crcBit_lt h), crcBits_succ]
theorem refcrc1_tells (s : ByteArray) (i : Nat) : ∀ (d k j : Nat) (r : Nat), r < 4294967296 → j + d = 8 → d < k → ∀ z, cisternref03_Crc.l0 (k - 1 - d) s ((refBits d r : Nat) : Int) (wrap64 ((i : Int) + 1)) = some z → cisternref03_Crc.l1 k s (r : Int) (i : Int) (j : Int) = some z := by
  intro d
  induction d with
  | zero =>
    intro k j r hr hd hk z hz
    obtain ⟨k, rfl⟩ : ∃ m, k = m + 1 := ⟨k - 1, by omega⟩
    simp only [cisternref03_Crc.l1]
    rw [if_neg (by omega)]
    exact hz
  | succ d ih =>
    intro k j r hr hd hk z hz
    obtain ⟨k, rfl⟩ : ∃ m, k = m + 1 := ⟨k - 1, by omega⟩
    have hz2 := ih k (j + 1) (refBit r) (refBit_lt hr) (by omega) (by omega) z (by rw [show k - 1 - d = k + 1 - 1 - (d + 1) by omega]; exact hz)
    simp only [cisternref03_Crc.l1]
    rw [if_pos (by omega), u64_id ((r : Int) * 2) (by omega) (by omega), show wrap64 ((j : Int) + 1) = ((j + 1 : Nat) : Int) by unfold wrap64; omega]
    unfold refBit at hz2
    by_cases h : r * 2 / 4294967296 = 0
    · rw [if_pos h] at hz2
      rw [if_pos (by omega), show (r : Int) * 2 = ((r * 2 : Nat) : Int) by omega]
      exact hz2
    · rw [if_neg h] at hz2
      rw [if_neg (by omega), show (r : Int) * 2 = ((r * 2 : Nat) : Int) by omega, show (4374732215 : Int) = ((4374732215 : Nat) : Int) from rfl, xor_u64 _ _ (by omega) (by omega)]
      exact hz2
theorem refcrc_tells (s : ByteArray) (hm : s.size ≤ 9223372036854775807) : ∀ (d k i : Nat) (x : Nat), x < 4294967296 → i + d = s.size → 10 * d + 40 < k → cisternref03_Crc.l0 k s ((mirV x 32 : Nat) : Int) (i : Int) = some ((crcL x ((bytesOf s).drop i) ^^^ 4294967295 : Nat) : Int) := by
  have hb := bytesOf_byteL s
  have hlen := bytesOf_length s
  intro d
  induction d with
  | zero =>
    intro k i x hx hd hk
    obtain ⟨k, rfl⟩ : ∃ m, k = m + 1 := ⟨k - 1, by omega⟩
    have hxx := Nat.xor_lt_two_pow (n := 32) hx (show 4294967295 < 2 ^ 32 by decide)
    have hl := mirV_lt x 32
    simp only [cisternref03_Crc.l0]
    rw [if_neg (by omega), List.drop_eq_nil_of_le (by omega), crcL_nil, show (4294967295 : Int) = ((4294967295 : Nat) : Int) from rfl, xor_u64 _ _ (by omega) (by decide)]
    have e : mirV x 32 ^^^ 4294967295 = mirV (x ^^^ 4294967295) 32 := by rw [mirV_xor, show mirV 4294967295 32 = 4294967295 by decide +kernel]
    have := mirror_val (mirV (x ^^^ 4294967295) 32) (by have := mirV_lt (x ^^^ 4294967295) 32; omega) 32 k (by omega) (by omega)
    rw [e, show (32 : Int) = ((32 : Nat) : Int) from rfl, this, mirV_mirV _ 32 hxx]
    simp only [Option.bind_some]
    congr 1
    unfold wrap64
    omega
  | succ d ih =>
    intro k i x hx hd hk
    obtain ⟨k, rfl⟩ : ∃ m, k = m + 1 := ⟨k - 1, by omega⟩
    have hi : i < (bytesOf s).length := by omega
    obtain ⟨e, b0, b1⟩ := rd_nat (bytesOf s) hb i hi
    have hbt : bt s (i : Int) = (((bytesOf s)[i].toNat : Nat) : Int) := by rw [← rd_bytesOf, e]; omega
    generalize hv : (bytesOf s)[i].toNat = v at hbt
    have hv2 : v < 256 := by omega
    have hmb := mirV_lt v 8
    simp only [cisternref03_Crc.l0]
    rw [if_pos (by omega), if_pos (by omega), hbt, u64_id _ (by omega) (by omega), show (8 : Int) = ((8 : Nat) : Int) from rfl, mirror_val v (by omega) 8 k (by omega) (by omega)]
    simp only [Option.bind_some]
    have hl := mirV_lt x 32
    have hxv : x ^^^ v < 4294967296 := Nat.xor_lt_two_pow (n := 32) hx (by omega)
    rw [u64_id (((mirV v 8 : Nat) : Int) * 16777216) (by omega) (by omega), show ((mirV v 8 : Nat) : Int) * 16777216 = ((mirV v 8 * 16777216 : Nat) : Int) by omega, ← mirV_byte v hv2, xor_u64 _ _ (by omega) (by have := mirV_lt v 32; omega), ← mirV_xor]
    refine refcrc1_tells s i 8 k 0 _ (mirV_lt _ 32) rfl (by omega) _ ?_
    rw [refBits_mir 8 _ hxv, show wrap64 ((i : Int) + 1) = ((i + 1 : Nat) : Int) by unfold wrap64; omega]
    rw [ih (k - 1 - 8) (i + 1) _ (crcBits_lt hxv) (by omega) (by omega)]
    rw [List.drop_eq_getElem_cons hi, crcL_cons, ← hv]
    rfl
theorem refcrc_val (s : ByteArray) (hm : s.size ≤ 9223372036854775807) (k : Nat) (hk : 10 * s.size + 50 ≤ k) : cisternref03_Crc.f k s = some (crcV (bytesOf s)) := by
  have h := refcrc_tells s hm s.size k 0 4294967295 (by decide) (by omega) (by omega)
  rw [show mirV 4294967295 32 = 4294967295 by decide +kernel] at h
  simpa [cisternref03_Crc.f, crcV] using h
theorem refseal_val (s : ByteArray) (hm : s.size ≤ 140737488351232) (k : Nat) (hk : 10 * s.size + 50 ≤ k) : cisternref03_Seal.f k s = some (strOfNums (sealL (bytesOf s))) := by
  have hcr := crcV_range (bytesOf s) (bytesOf_byteL s)
  unfold cisternref03_Seal.f
  rw [refcrc_val s (by omega) k hk]
  simp only [Option.bind_some]
  rw [u64_id _ hcr.1 (by omega), cisternref03_little.f, show (4 : Int) = ((4 : Nat) : Int) from rfl, little_tells 4 (by omega) 4 k _ [] 0 hcr.1 (by omega) (by omega) (by omega) (by omega) (by simp)]
  simp only [Option.bind_some, List.nil_append]
  rw [if_pos (by rw [size_strOfNums]; simp [leB_length]; omega), sealL]
  have h1 := strOfNums_append (bytesOf s) (leB (crcV (bytesOf s)) 4)
  rw [strOfNums_bytesOf] at h1
  rw [h1]
theorem sealL_take (l : List Int) : (sealL l).take l.length = l := by simp [sealL]
theorem sealL_drop (l : List Int) : (sealL l).drop l.length = leB (crcV l) 4 := by simp [sealL]
theorem openL_seal (l : List Int) (hl : byteL l) : openL (sealL l) = (l, 0) := by
  have hcr := crcV_range l hl
  unfold openL
  rw [sealL_length, if_neg (by omega), show l.length + 4 - 4 = l.length by omega, sealL_take, sealL_drop, getV_leB _ 4 hcr.1 (by omega), if_pos rfl]
theorem docopen_val (s : ByteArray) (hm : s.size ≤ 140737488351232) (k : Nat) (hk : 10 * s.size + 50 ≤ k) : cisternref03_DocOpen.f k s = some (strOfNums (openL (bytesOf s)).1, (openL (bytesOf s)).2) := by
  have hlen := bytesOf_length s
  have hb := bytesOf_byteL s
  unfold cisternref03_DocOpen.f openL
  by_cases h4 : s.size < 4
  · rw [if_pos (by omega), if_pos (by omega)]; rfl
  · rw [if_neg (by omega), show wrap64 ((s.size : Int) - 4) = ((s.size - 4 : Nat) : Int) by unfold wrap64; omega, if_pos (by omega), if_pos (by omega), Int.toNat_natCast, if_neg (show ¬ (bytesOf s).length < 4 by omega)]
    have ht : s.extract 0 (s.size - 4) = strOfNums ((bytesOf s).take ((bytesOf s).length - 4)) := by
      have h := bytesOf_extract s 0 (s.size - 4)
      rw [List.drop_zero] at h
      rw [hlen, ← h, strOfNums_bytesOf]
    rw [ht]
    generalize htl : (bytesOf s).take ((bytesOf s).length - 4) = t
    have htb : byteL t := by rw [← htl]; intro b h; exact hb b (List.mem_of_mem_take h)
    have htlen : t.length = s.size - 4 := by rw [← htl]; simp; omega
    rw [refseal_val _ (by rw [size_strOfNums]; omega) k (by rw [size_strOfNums]; omega), bytesOf_strOfNums t htb]
    simp only [Option.bind_some]
    have hcr := crcV_range t htb
    have key : (strOfNums (sealL t)).toList = s.toList ↔ getV ((bytesOf s).drop ((bytesOf s).length - 4)) = crcV t := by
      rw [toList_inj']
      constructor
      · intro h
        have h2 : bytesOf s = sealL t := by rw [← h, bytesOf_strOfNums _ (sealL_byteL htb)]
        rw [h2, sealL_length, show t.length + 4 - 4 = t.length by omega, sealL_drop, getV_leB _ 4 hcr.1 (by omega)]
      · intro h
        have h2 : leB (crcV t) 4 = (bytesOf s).drop ((bytesOf s).length - 4) := by
          rw [← h]
          have := leB_getV ((bytesOf s).drop ((bytesOf s).length - 4)) (fun b h => hb b (List.mem_of_mem_drop h))
          rw [List.length_drop, show (bytesOf s).length - ((bytesOf s).length - 4) = 4 by omega] at this
          exact this
        rw [sealL, h2, ← htl, List.take_append_drop, strOfNums_bytesOf]
    by_cases hk : getV ((bytesOf s).drop ((bytesOf s).length - 4)) = crcV t
    · rw [if_pos (key.2 hk), if_pos hk]
    · rw [if_neg (fun h => hk (key.1 h)), if_neg hk]; rfl
theorem number_tells (s : ByteArray) (h8 : s.size ≤ 8) : ∀ (d k : Nat), d ≤ s.size → d < k → cisternref03_number.l0 k s (getV ((bytesOf s).drop d)) ((d : Int) - 1) = some (getV (bytesOf s)) := by
  have hb := bytesOf_byteL s
  have hlen := bytesOf_length s
  intro d
  induction d with
  | zero =>
    intro k _ hk
    obtain ⟨k, rfl⟩ : ∃ m, k = m + 1 := ⟨k - 1, by omega⟩
    simp only [cisternref03_number.l0]
    rw [if_neg (by omega)]
    simp
  | succ d ih =>
    intro k hd hk
    obtain ⟨k, rfl⟩ : ∃ m, k = m + 1 := ⟨k - 1, by omega⟩
    simp only [cisternref03_number.l0]
    rw [show (((d + 1 : Nat) : Int) - 1) = (d : Int) by omega, if_pos (by omega), if_pos (by omega), if_pos (by omega), ← rd_bytesOf]
    have hdl : d < (bytesOf s).length := by omega
    obtain ⟨e, b0, b1⟩ := rd_nat (bytesOf s) hb d hdl
    have hg := getV_range ((bytesOf s).drop (d + 1)) (byteL_drop hb _)
    have hp : (256 : Int) ^ ((bytesOf s).drop (d + 1)).length ≤ 256 ^ 7 := by
      have h1 : ((bytesOf s).drop (d + 1)).length ≤ 7 := by simp; omega
      have h2 := Nat.pow_le_pow_right (show 0 < 256 by decide) h1
      have e1 : (256 : Int) ^ ((bytesOf s).drop (d + 1)).length = ((256 ^ ((bytesOf s).drop (d + 1)).length : Nat) : Int) := by rw [Int.natCast_pow]; rfl
      have e2 : (256 : Int) ^ 7 = ((256 ^ 7 : Nat) : Int) := by decide
      rw [e1, e2]
      exact Int.ofNat_le.2 h2
    have hd2 : (bytesOf s).drop d = (bytesOf s)[d] :: (bytesOf s).drop (d + 1) := List.drop_eq_getElem_cons hdl
    have hv : getV ((bytesOf s).drop d) = (bytesOf s)[d] + 256 * getV ((bytesOf s).drop (d + 1)) := by rw [hd2, getV]
    have q1 := u64_id (getV ((bytesOf s).drop (d + 1)) * 256) (by omega) (by omega)
    have q2 := u64_id ((bytesOf s)[d]) b0 (by omega)
    have q3 := u64_id (getV ((bytesOf s).drop (d + 1)) * 256 + (bytesOf s)[d]) (by omega) (by omega)
    rw [e, q1, q2, q3, show wrap64 ((d : Int) - 1) = (d : Int) - 1 by unfold wrap64; omega]
    rw [show getV ((bytesOf s).drop (d + 1)) * 256 + (bytesOf s)[d] = getV ((bytesOf s).drop d) by omega]
    exact ih k (by omega) (by omega)
theorem number_val (s : ByteArray) (h8 : s.size ≤ 8) (k : Nat) (hk : 9 ≤ k) : cisternref03_number.f k s = some (getV (bytesOf s)) := by
  have h := number_tells s h8 s.size k (Nat.le_refl _) (by omega)
  rw [List.drop_eq_nil_of_le (by rw [bytesOf_length]; omega)] at h
  rw [cisternref03_number.f, show wrap64 ((s.size : Int) - 1) = (s.size : Int) - 1 by unfold wrap64; omega]
  exact h
theorem docdecode_tells : ∀ (n : Nat) (s : ByteArray) (acc : List S77) (k : Nat), s.size ≤ n → s.size ≤ 140737488351232 → acc.length ≤ 4000 → 4 * n + 20 ≤ k → cisternref03_DocDecode.l0 k s acc = some (decL (n + 1) acc (bytesOf s)) := by
  intro n
  induction n with
  | zero =>
    intro s acc k hn hl ha hk
    have hb0 : bytesOf s = [] := List.eq_nil_of_length_eq_zero (by rw [bytesOf_length]; omega)
    obtain ⟨k, rfl⟩ : ∃ m, k = m + 1 := ⟨k - 1, by omega⟩
    simp only [cisternref03_DocDecode.l0]
    rw [if_neg (by omega), hb0, decL]
  | succ n ih =>
    intro s acc k hn hl ha hk
    obtain ⟨k, rfl⟩ : ∃ m, k = m + 4 := ⟨k - 4, by omega⟩
    have hlen := bytesOf_length s
    have hb := bytesOf_byteL s
    have hex := bytesOf_extract s
    have hrd0 := rd_bytesOf s 0
    have hsz : ∀ i j, (s.extract i j).size = min j s.size - i := fun i j => by simp
    match hbs : bytesOf s with
    | [] =>
      rw [hbs] at hlen
      rw [show k + 4 = (k + 3) + 1 by omega]
      simp only [cisternref03_DocDecode.l0]
      rw [if_neg (by simp at hlen; omega), decL]
    | c :: r =>
      rw [hbs] at hlen hb hex hrd0
      obtain ⟨hc0, hc1, hr⟩ := byteL_cons hb
      simp only [List.length_cons] at hlen
      have hrd : bt s 0 = c := by rw [← hrd0]; simp [rd]
      rw [show k + 4 = (k + 3) + 1 by omega]
      simp only [cisternref03_DocDecode.l0]
      rw [if_pos (by omega), if_pos (by omega), hrd, decL]
      by_cases h1 : c = 1 ∧ 8 ≤ r.length
      · rw [if_pos h1, if_pos h1.1, show k + 3 = (k + 2) + 1 by omega]
        have e1 : bytesOf (s.extract 1 9) = r.take 8 := by rw [hex]; simp
        have e2 : bytesOf (s.extract 9 s.size) = r.drop 8 := by rw [hex]; simp [List.drop_take]; rw [List.take_of_length_le (by simp; omega)]
        simp only [cisternref03_DocDecode.j1]
        rw [if_pos (by simpa using (by omega : (9 : Int) ≤ s.size)), if_pos (by omega), if_pos (by omega), number_val _ (by rw [hsz]; omega) _ (by omega), e1]
        simp only [Option.bind_some]
        rw [if_pos (by omega)]
        by_cases h4 : (acc ++ [(⟨1, wrap64 (getV (r.take 8)), ⟨#[]⟩⟩ : S77)]).length > 4000
        · rw [if_pos (by omega), if_pos h4]
        · rw [if_neg (by omega), if_neg h4, ← e2]
          exact ih _ _ _ (by rw [hsz]; omega) (by rw [hsz]; omega) (by omega) (by omega)
      · rw [if_neg h1]
        have e1 : (if c = 1 then cisternref03_DocDecode.j1 (k + 3) s acc (decide ((s.size : Int) ≥ 9)) else cisternref03_DocDecode.j1 (k + 3) s acc false) = cisternref03_DocDecode.j1 (k + 3) s acc false := by
          by_cases hc : c = 1
          · rw [if_pos hc]
            congr 1
            simp only [decide_eq_false_iff_not]
            have : ¬ 8 ≤ r.length := fun h => h1 ⟨hc, h⟩
            omega
          · rw [if_neg hc]
        rw [e1, show k + 3 = (k + 2) + 1 by omega]
        simp only [cisternref03_DocDecode.j1]
        rw [if_neg (by simp), if_pos (by omega), hrd]
        by_cases h2 : c = 2 ∧ 2 ≤ r.length
        · have e2 : bytesOf (s.extract 1 3) = r.take 2 := by rw [hex]; simp
          have hg := getV2 (r.take 2) (byteL_take hr 2) (by rw [List.length_take]; omega)
          rw [if_pos h2, if_pos h2.1, show k + 2 = (k + 1) + 1 by omega]
          simp only [cisternref03_DocDecode.j2]
          rw [if_pos (by simpa using (by omega : (3 : Int) ≤ s.size)), if_pos (by omega), if_pos (by omega), number_val _ (by rw [hsz]; omega) _ (by omega), e2]
          simp only [Option.bind_some]
          rw [w64_small _ hg.1 (by omega), w64_small ((s.size : Int) - 3) (by omega) (by omega)]
          generalize hgv : getV (r.take 2) = v at *
          by_cases h5 : v > 50000 ∨ v > (r.length : Int) - 2
          · rw [if_pos h5]
            by_cases h6 : v > 50000
            · rw [if_pos h6]; simp [cisternref03_DocDecode.j3]
            · rw [if_neg h6, show decide (v > (s.size : Int) - 3) = true by have := h5.resolve_left h6; simp; omega]; simp [cisternref03_DocDecode.j3]
          · rw [if_neg h5, if_neg (by omega), show decide (v > (s.size : Int) - 3) = false by simp; omega]
            have et : (3 + v).toNat = 3 + v.toNat := by omega
            have e3 : s.extract 3 (3 + v.toNat) = strOfNums ((r.drop 2).take v.toNat) := by
              rw [← strOfNums_bytesOf (s.extract 3 (3 + v.toNat)), hex]
              congr 1
              rw [show 3 + v.toNat = (2 + v.toNat) + 1 by omega, List.take_succ_cons, List.drop_succ_cons, List.drop_take]
              congr 1
              omega
            have e4 : bytesOf (s.extract (3 + v.toNat) s.size) = r.drop (2 + v.toNat) := by
              rw [hex, List.take_of_length_le (by simp; omega), show 3 + v.toNat = (2 + v.toNat) + 1 by omega, List.drop_succ_cons]
            simp only [cisternref03_DocDecode.j3]
            rw [if_neg (by simp), w64_small (3 + v) (by omega) (by omega), if_pos (by omega), if_pos (by omega), if_pos (by omega)]
            simp only [Option.bind_some]
            rw [if_pos (by omega), et, e3]
            by_cases h4 : (acc ++ [(⟨2, 0, strOfNums ((r.drop 2).take v.toNat)⟩ : S77)]).length > 4000
            · rw [if_pos (by omega), if_pos h4]
            · rw [if_neg (by omega), if_neg h4, ← e4]
              exact ih _ _ _ (by rw [hsz]; omega) (by rw [hsz]; omega) (by omega) (by omega)
        · rw [if_neg h2]
          have e2 : (if c = 2 then cisternref03_DocDecode.j2 (k + 2) s acc (decide ((s.size : Int) ≥ 3)) else cisternref03_DocDecode.j2 (k + 2) s acc false) = cisternref03_DocDecode.j2 (k + 2) s acc false := by
            by_cases hc : c = 2
            · rw [if_pos hc]
              congr 1
              simp only [decide_eq_false_iff_not]
              have : ¬ 2 ≤ r.length := fun h => h2 ⟨hc, h⟩
              omega
            · rw [if_neg hc]
          rw [e2]
          simp [cisternref03_DocDecode.j2]
theorem docdecode_val (s : ByteArray) (hl : s.size ≤ 140737488351232) (k : Nat) (hk : 4 * s.size + 20 ≤ k) : cisternref03_DocDecode.f k s = some (decF (bytesOf s)) := by
  have h := docdecode_tells s.size s [] k (Nat.le_refl _) hl (by simp) hk
  rw [cisternref03_DocDecode.f, h, decF, bytesOf_length]
theorem wf_u8 {l : List Int} (h : ∀ v ∈ l, (Lit.int .u8 v).wf = true) : byteL l := by
  intro b hb
  have := h b hb
  simpa [Lit.wf, IntKind.min, IntKind.max, IntKind.signed, IntKind.bits] using this
theorem someB_zeros (n : Nat) : someB (List.replicate n 0) = false := by
  unfold someB
  simp
theorem frameL_length (l : List Int) (n : Nat) (h : 2 + l.length ≤ n) : (frameL l n).length = n := by simp [frameL]; omega
theorem frameL_byteL (l : List Int) (n : Nat) (h : 2 + l.length ≤ n) (hn : n ≤ 60000) (hl : byteL l) : byteL (frameL l n) := by
  refine byteL_mk (by omega) (by omega) (byteL_mk (by omega) (by omega) (byteL_append hl (fun b hb => ?_)))
  rw [List.eq_of_mem_replicate hb]
  omega
theorem unframe_frame (l : List Int) (n : Nat) (h : 2 + l.length ≤ n) (hn : n ≤ 60000) : unframeL (frameL l n) = (l, 0) := by
  have hl := frameL_length l n h
  unfold unframeL
  rw [hl, if_neg (by omega)]
  have h2 : (frameL l n).take 2 = [(l.length : Int) % 256, (l.length : Int) / 256] := rfl
  have hv : getV [(l.length : Int) % 256, (l.length : Int) / 256] = (l.length : Int) := by
    simp only [getV]
    omega
  have hd : (frameL l n).drop (2 + l.length) = List.replicate (n - 2 - l.length) 0 := by
    rw [Nat.add_comm]
    simp [frameL]
  have hd2 : ((frameL l n).drop 2).take l.length = l := by simp [frameL]
  rw [h2, hv, Int.toNat_natCast, hd, someB_zeros, if_neg (by simp; omega), hd2]
theorem heap_setCells (g : Nat) (t : TypeId) : ∀ (vs : List Value) (o : Nat) (w : World) (cs : Array Value), w.heap[g]? = some (.cells cs t (0, 0)) → o + vs.length ≤ cs.size →
    ∃ cs' : Array Value, (w.setCells g o vs).heap[g]? = some (.cells cs' t (0, 0)) ∧ cs'.size = cs.size ∧ (∀ i, i < o → cs'[i]? = cs[i]?) ∧ (∀ i, o + vs.length ≤ i → cs'[i]? = cs[i]?) ∧ ∀ i u, vs[i]? = some u → cs'[o + i]? = some u
  | [], o, w, cs, h, _ => ⟨cs, h, rfl, fun _ _ => rfl, fun _ _ => rfl, fun i u hu => by simp at hu⟩
  | v :: r, o, w, cs, h, hl => by
    simp only [List.length_cons] at hl
    have h1 := heap_setCell_same w g o cs t v h
    obtain ⟨cs', a1, a2, a3, a4, a5⟩ := heap_setCells g t r (o + 1) _ _ h1 (by simp; omega)
    refine ⟨cs', by rw [World.setCells]; exact a1, by rw [a2]; simp, fun i hi => ?_, fun i hi => ?_, fun i u hu => ?_⟩
    · rw [a3 i (by omega), Array.getElem?_setIfInBounds_ne (by omega)]
    · simp only [List.length_cons] at hi
      rw [a4 i (by omega), Array.getElem?_setIfInBounds_ne (by omega)]
    · cases i with
      | zero =>
        cases hu
        rw [Nat.add_zero, a3 o (by omega), Array.getElem?_setIfInBounds_self_of_lt (by omega)]
      | succ i =>
        rw [show o + (i + 1) = o + 1 + i by omega]
        exact a5 i u hu
theorem below_setCells {B g : Nat} {w0 : World} (hg : B ≤ g) : ∀ (vs : List Value) (o : Nat) (w : World), Below B w0 w → Below B w0 (w.setCells g o vs)
  | [], _, _, h => h
  | v :: r, o, w, h => by
    rw [World.setCells]
    exact below_setCells hg r (o + 1) _ (h.setCell hg _)
theorem size_setCells' (g : Nat) : ∀ (vs : List Value) (o : Nat) (w : World), (w.setCells g o vs).heap.size = w.heap.size
  | [], _, _ => rfl
  | v :: r, o, w => by
    rw [World.setCells, size_setCells' g r (o + 1)]
    simp [World.setCell]
theorem below_cell {w w1 : World} (hb : Below w.heap.size w w1) {p : Addr} {u : Value} (h : w.cell? p = some u) : w1.cell? p = some u := by
  have hl : p.block < w.heap.size := by
    rcases Nat.lt_or_ge p.block w.heap.size with h' | h'
    · exact h'
    · exfalso
      unfold World.cell? at h
      rw [Array.getElem?_eq_none h'] at h
      simp at h
  rw [hb.cell (p := p) hl]
  exact h
theorem appendIn {P : Program} {α : Type} (d : Kd α) (t e : TypeId) (z : Value) (bytes : Nat) (ht : P.underlying t = some (.slice e)) (hinfo : (P.info? e).map (fun i => (i.zero, i.size, i.bytes)) = some (some z, d.sz, bytes)) (hz : z.cells.size = d.sz) (hs0 : 0 < d.sz)
    (ty : TypeId) (W : World) (A : Option Addr) (c : Nat) (l : List α) (m : Nat) (x : Int) (hx : x = ((l.length + m : Nat) : Int)) (hr : d.C W A l.length l) (hn : bytes * (l.length + m) ≤ 281474976710656) (hn2 : l.length + m ≤ 281474976710656) :
    (Instr.makeSlice t (.int .i64 0) (.int .i64 x)).run P W = .ok (.slice (some ⟨W.heap.size, 0, none⟩) 0 (l.length + m)) (W.alloc (.cells (madeCells z.cells ((l.length + m) * d.sz)) e)) ∧
    ∃ W2 cs, (Builtin.append_ #[t, t] ty #[.slice (some ⟨W.heap.size, 0, none⟩) 0 (l.length + m), .slice A l.length c]).run P (W.alloc (.cells (madeCells z.cells ((l.length + m) * d.sz)) e)) = .ok (.slice (some ⟨W.heap.size, 0, none⟩) l.length (l.length + m)) W2 ∧
      d.C W2 (some ⟨W.heap.size, 0, none⟩) l.length l ∧ W2.heap[W.heap.size]? = some (.cells cs e (0, 0)) ∧ cs.size = (l.length + m) * d.sz ∧ (∀ j, l.length * d.sz ≤ j → j < (l.length + m) * d.sz → cs[j]? = some (z.cells[j % d.sz]!)) ∧ Below W.heap.size W W2 ∧ W.heap.size < W2.heap.size := by
  obtain ⟨i, hi, hzz⟩ := Option.map_eq_some_iff.1 hinfo
  simp only [Prod.mk.injEq] at hzz
  obtain ⟨hz0, hs, hb⟩ := hzz
  refine ⟨?_, ?_⟩
  · have h := run_make (P := P) W t e i z ht hi hz0 .i64 .i64 0 x (by omega) (by omega) (by
      rw [hb, hx]
      have : ((bytes * (l.length + m) : Nat) : Int) ≤ 281474976710656 := by omega
      rwa [Int.natCast_mul] at this) (by omega)
    have e1 : x.toNat = l.length + m := by omega
    rw [e1, hs] at h
    exact h
  obtain ⟨w1, hw1⟩ : ∃ w1, w1 = W.alloc (.cells (madeCells z.cells ((l.length + m) * d.sz)) e) := ⟨_, rfl⟩
  rw [← hw1]
  have hblk : w1.heap[W.heap.size]? = some (.cells (madeCells z.cells ((l.length + m) * d.sz)) e (0, 0)) := by rw [hw1]; exact heap_alloc_new W _
  have hbel : Below W.heap.size W w1 := by rw [hw1]; exact below_alloc (Below.refl _ _) _
  have hsz : w1.heap.size = W.heap.size + 1 := by rw [hw1]; simp
  have hmc : ∀ j, j < (l.length + m) * d.sz → (madeCells z.cells ((l.length + m) * d.sz))[j]? = some (z.cells[j % d.sz]!) := fun j hj => by
    rw [Array.getElem?_eq_getElem (by rw [size_madeCells]; exact hj)]
    simp [madeCells, hz]
  have hC := Kd.C_below hr hbel
  have hnil : l = [] → ∃ W2 cs, w1 = W2 ∧ d.C W2 (some ⟨W.heap.size, 0, none⟩) l.length l ∧ W2.heap[W.heap.size]? = some (.cells cs e (0, 0)) ∧ cs.size = (l.length + m) * d.sz ∧ (∀ j, l.length * d.sz ≤ j → j < (l.length + m) * d.sz → cs[j]? = some (z.cells[j % d.sz]!)) ∧ Below W.heap.size W W2 ∧ W.heap.size < W2.heap.size := by
    rintro rfl
    exact ⟨w1, _, rfl, ⟨rfl, by simp, fun h => absurd h (by simp)⟩, hblk, size_madeCells _ _, fun j _ hj => hmc j hj, hbel, by omega⟩
  cases A with
  | none =>
    have h0 : l.length = 0 := by
      rcases Nat.eq_zero_or_pos l.length with h0 | h0
      · exact h0
      · obtain ⟨ad, h, _⟩ := hr.2.2 h0
        cases h
    obtain ⟨W2, cs, rfl, a⟩ := hnil (List.eq_nil_of_length_eq_zero h0)
    refine ⟨w1, cs, ?_, a⟩
    rw [h0]
    simp [Builtin.append_, run_underlying ht, sizeOf, typeInfo, hi, Builtin.lenOf, Builtin.firstCells, storeCells, Result.andThen]
  | some ad =>
    obtain ⟨news, hnr, hnc0⟩ := ReadsRow.inner_ hr
    have hnc : ∀ j u, news[j]? = some u → w1.cell? (ad.add j) = some u := fun j u hu => below_cell hbel (hnc0 j u hu)
    have hone : ∀ u ∈ news, u.oneCell' = true := by
      intro u hu
      obtain ⟨j, hj, rfl⟩ := List.getElem_of_mem hu
      have hlen := hnr.1
      have hq : j / d.sz < l.length := by
        rw [Nat.div_lt_iff_lt_mul hs0]
        omega
      have h2 := hnr.2 (j / d.sz) _ (List.getElem?_eq_getElem hq)
      refine d.K_one h2 _ ?_
      have hmod := Nat.mod_lt j hs0
      have e1 : j = j / d.sz * d.sz + j % d.sz := by rw [Nat.mul_comm]; exact (Nat.div_add_mod j d.sz).symm
      have : ((news.drop (j / d.sz * d.sz)).take d.sz)[j % d.sz]? = some news[j] := by
        rw [List.getElem?_take_of_lt hmod, List.getElem?_drop, ← e1, List.getElem?_eq_getElem]
      exact List.mem_of_getElem? this
    have hnl : news.length = l.length * i.size := by rw [hs]; exact hnr.1
    have hle : l.length * d.sz ≤ (l.length + m) * d.sz := Nat.mul_le_mul_right _ (by omega)
    have h := run_append_room_cells (P := P) w1 t ty e i ht hi W.heap.size 0 0 (l.length + m) ad l.length c news hnl hnc hone (by omega)
      (fun j hj => by rw [Nat.zero_mul, Nat.add_zero, Nat.zero_add, blk_cell hblk, hmc j (by rw [hnr.1] at hj; omega)]; rfl)
      (fun j hj => blk_frozen hblk _)
    rw [Nat.zero_add, Nat.zero_mul, Nat.add_zero] at h
    obtain ⟨cs', a1, a2, a3, a4, a5⟩ := heap_setCells W.heap.size e news 0 w1 _ hblk (by rw [size_madeCells, Nat.zero_add, hnr.1]; exact hle)
    rw [size_madeCells] at a2
    refine ⟨_, cs', h, ⟨rfl, by omega, fun _ => ⟨_, rfl, fun j p hj => ?_⟩⟩, a1, a2, fun j h1 h2 => by rw [a4 j (by rw [hnr.1]; omega), hmc j h2], below_setCells (Nat.le_refl _) _ _ _ hbel, by rw [size_setCells']; omega⟩
    have h2 := hnr.2 j p hj
    have hK := d.K_len h2
    refine ⟨_, hK, d.K_below (below_setCells (Nat.le_refl _) news 0 w1 hbel) h2, fun q u hu => ?_⟩
    · have hq : q < d.sz := by rw [← hK]; exact (List.getElem?_eq_some_iff.1 hu).1
      rw [List.getElem?_take_of_lt hq, List.getElem?_drop] at hu
      rw [add_plain, blk_cell a1]
      have := a5 _ u hu
      rwa [Nat.zero_add] at this
theorem wpList_append_ran {P : Program} {ops : Array Oper} {rest : List Oper} {o : Oper} {a : Act} {Q : Exit → Act → World → Prop} {w w' : World} (hg : o.guard = none) (s x : Operand) (t : TypeId)
    (hop : o.op = Op.call { callee := Callee.builtin Builtin.append, args := #[s, x], argTypes := #[t, t] }) (v1 v2 v : Value) (hs : a.eval s = v1) (hx : a.eval x = v2)
    (hrun : (Builtin.append_ #[t, t] o.type #[v1, v2]).run P w = .ok v w') (h : wpList P ops Q rest (a.put o.dst v) w') : wpList P ops Q (o :: rest) a w := by
  refine wpList_plain hg fun K hK => ?_
  unfold Oper.wp execOp
  simp only [hop, resolve, invoke, builtin, Sem.run_bind, Sem.run_pure, Result.andThen_ok, List.map_toArray, List.map_cons, List.map_nil, hs, hx, hrun]
  exact hK _ _ h
def OwnN (w : World) (b : Nat) (v : Value) (n : Nat) : Prop := ∃ ys : List Int, ys.length = n ∧ (Kd.int .u8).R 5 w b (fun _ => True) v ys
def KeptV (w w' : World) (v : Value) : Prop := w.heap.size ≤ w'.heap.size ∧ ∀ k, k < w.heap.size → some k ≠ v.ownBlock → w'.heap[k]? = w.heap[k]?
theorem KeptV.refl (w : World) (v : Value) : KeptV w w v := ⟨Nat.le_refl _, fun _ _ _ => rfl⟩
theorem OwnN.of {w : World} {b : Nat} {v : Value} {ys : List Int} (h : (Kd.int .u8).R 5 w b (fun _ => True) v ys) : ∃ A c, v = .slice A ys.length c ∧ OwnN w b (.slice A ys.length c) ys.length := by
  obtain ⟨A, c, rfl⟩ := Kd.R_slice h
  exact ⟨A, c, rfl, ys, rfl, h⟩
theorem OwnN.below {w w1 : World} {b : Nat} {v : Value} {n : Nat} (h : OwnN w b v n) (hb : Below w.heap.size w w1) : OwnN w1 b v n := by
  obtain ⟨ys, hl, hR⟩ := h
  exact ⟨ys, hl, Kd.R_below hR hb⟩
theorem OwnN.at_ {w : World} {b : Nat} {A : Option Addr} {n m c : Nat} (h : OwnN w b (.slice A n c) n) (i : Nat) (hi : i < n) :
    ∃ g, A = some ⟨g, 0, none⟩ ∧ Aside0 (b ≤ g) ∧ (∃ u, w.cell? ⟨g, i, none⟩ = some u) ∧ w.frozen? ⟨g, i, none⟩ = false ∧ Aside0 (∀ x, OwnN (w.setCell ⟨g, i, none⟩ (.int .u8 x)) b (.slice A n c) n) ∧ Aside0 (∀ w0 x, KeptV w0 w (.slice A n c) → KeptV w0 (w.setCell ⟨g, i, none⟩ x) (.slice A n c)) ∧ Aside0 (∀ B w0 x, B ≤ b → Below B w0 w → Below B w0 (w.setCell ⟨g, i, none⟩ x)) := by
  obtain ⟨ys, rfl, hR⟩ := h
  obtain ⟨inner, ho⟩ := Kd.R_own hR
  rcases ho.2 with ⟨hv, h0⟩ | ⟨g, cap, cur, hv, hg, _⟩
  · exfalso
    simp only [Value.slice.injEq] at hv
    omega
  · simp only [Value.slice.injEq] at hv
    obtain ⟨rfl, _, _⟩ := hv
    obtain ⟨k1, k2⟩ := Kd.R_cell (0 : Int) hR (i : Int) (by omega) (by omega)
    rw [Int.toNat_natCast] at k1 k2
    refine ⟨g, rfl, ⟨hg⟩, ⟨_, k1⟩, k2, ⟨fun x => ?_⟩, ⟨fun w0 x hk => ?_⟩, ⟨fun B w0 x hB hb => hb.setCell (by show B ≤ g; omega) x⟩⟩
    · have h := Kd.R_putn hR (i : Int) x
      rw [Int.toNat_natCast] at h
      exact ⟨_, List.length_set, h⟩
    · refine ⟨by simpa [World.setCell] using hk.1, fun k h1 h2 => ?_⟩
      rw [Below.heap_setCell w ⟨g, i, none⟩ x k (fun e => h2 (by rw [e]; rfl))]
      exact hk.2 k h1 h2
theorem msr_dn (n i : Nat) (h : i < n) : ((n : Int) - ((i + 1 : Nat) : Int)).toNat < ((n : Int) - (i : Int)).toNat := by omega
theorem wrap_suc (i : Nat) (h : i ≤ 9223372036854775806) : wrap64 ((i : Int) + 1) = ((i + 1 : Nat) : Int) := by unfold wrap64; omega
end
end Go.Proofs.YtmkkeccmjejfnaaDoor.PA
namespace Go.Proofs.YtmkkeccmjejfnaaDoor.PA
section

open Go.RowKit Go.Proofs.YtmkkeccmjejfnaaDoorW.PrintWords Go.Proofs.YtmkkeccmjejfnaaDoorW.PrintLast Go.Proofs.YtmkkeccmjejfnaaDoorW.PrintMore
set_option linter.unusedVariables false
set_option linter.unusedSimpArgs false
theorem toK {α : Type} {g : Nat → Option α} (h : ∀ k, LeO (g k) (g (k + 1))) {k k' : Nat} (hk : k ≤ k') {r : α} (hr : g k = some r) : g k' = some r := at_rounds h hk hr
def numI (ns : List Int) : List S77 := ns.map (fun n => ⟨1, n, ⟨#[]⟩⟩)
def textI : Option ByteArray → List S77
  | none => []
  | some t => [⟨2, 0, t⟩]
def recI (ns : List Int) (t : Option ByteArray) : List S77 := numI ns ++ textI t
def wf64 (x : Int) : Prop := -9223372036854775808 ≤ x ∧ x ≤ 9223372036854775807
theorem wf64_iff {x : Int} : (Lit.int .i64 x).wf = true ↔ wf64 x := by
  simp [Lit.wf, IntKind.min, IntKind.max, IntKind.signed, IntKind.bits, wf64]
theorem size_nil : (⟨#[]⟩ : ByteArray).size = 0 := rfl
def tsz (t : Option ByteArray) : Nat := (t.getD ⟨#[]⟩).size
theorem recI_check (ns : List Int) (t : Option ByteArray) (hn : ns.length ≤ 100) (ht : tsz t ≤ 160) : pack_checkV (recI ns t) = 0 := by
  refine (checkV_iff _).2 ⟨?_, fun x hx => ?_⟩
  · cases t <;> simp [recI, numI, textI] <;> omega
  · rcases List.mem_append.1 hx with hx | hx
    · obtain ⟨n, _, rfl⟩ := List.mem_map.1 hx
      exact ⟨by simp [okB, toList_data], by simp [longB]⟩
    · cases t with
      | none => simp [textI] at hx
      | some t =>
        rcases List.mem_singleton.1 hx with rfl
        refine ⟨by simp [okB], ?_⟩
        simp only [tsz, Option.getD_some] at ht
        simp [longB]
        omega
theorem recI_wf (ns : List Int) (t : Option ByteArray) (h : ∀ n ∈ ns, wf64 n) : ∀ x ∈ recI ns t, wfI x := by
  intro x hx
  rcases List.mem_append.1 hx with hx | hx
  · obtain ⟨n, hn, rfl⟩ := List.mem_map.1 hx
    exact wf64_iff.2 (h n hn)
  · cases t with
    | none => simp [textI] at hx
    | some t =>
      rcases List.mem_singleton.1 hx with rfl
      exact (by decide : (Lit.int .i64 0).wf = true)
theorem encI_num (n : Int) : (encI (⟨1, n, ⟨#[]⟩⟩ : S77)).length = 9 := by simp [encI, leB_length]
theorem recI_len (ns : List Int) (t : Option ByteArray) : (encL (recI ns t)).length ≤ 9 * ns.length + 3 + tsz t := by
  have h1 : (encL (numI ns)).length = 9 * ns.length := by
    induction ns with
    | nil => rfl
    | cons n ns ih =>
      rw [show numI (n :: ns) = ⟨1, n, ⟨#[]⟩⟩ :: numI ns from rfl, encL_cons, List.length_append, ih, encI_num, List.length_cons]
      omega
  rw [recI, encL_append, List.length_append, h1]
  cases t with
  | none => simp [textI, encL]; omega
  | some t => simp [textI, encL, encI, leB_length, bytesOf_length, tsz]; omega
def secL (l : List S77) : List Int := frameL (sealL (encL l)) 256
theorem secL_byteL (l : List S77) (h : (encL l).length ≤ 250) : byteL (secL l) := frameL_byteL _ _ (by rw [sealL_length]; omega) (by omega) (sealL_byteL (encL_byteL l))
theorem secL_length (l : List S77) (h : (encL l).length ≤ 250) : (secL l).length = 256 := frameL_length _ _ (by rw [sealL_length]; omega)
theorem sealK (l : List Int) (hl : byteL l) (hm : l.length ≤ 140737488351232) (k : Nat) (hk : 10 * l.length + 20 ≤ k) : pack_Seal.f k l = some (sealL l) := toK (pack_Seal.mono l) hk (seal_val l hl hm)
theorem sector_val (l : List S77) (hc : pack_checkV l = 0) (h : (encL l).length ≤ 250) (k : Nat) (hk : 3000 ≤ k) : record_sector.f k l = some (secL l, 0) := by
  have e1 : pack_Encode.f l = some (encL l, 0) := by rw [encode_some, if_pos hc, hc]
  have e2 := sealK (encL l) (encL_byteL l) (by omega) k (by omega)
  have e3 : pack_Frame.f (sealL (encL l)) 256 = some (frameL (sealL (encL l)) 256, 0) := by
    unfold pack_Frame.f frameV
    rw [sealL_length, if_pos (by omega), if_neg (by omega), if_neg (by omega)]
    rfl
  unfold record_sector.f
  rw [e1, Option.bind_some]
  rw [if_pos rfl, e2, Option.bind_some, e3]
  rfl
theorem wsuc (i : Nat) (h : i ≤ 9223372036854775806) : wrap64 ((i : Int) + 1) = ((i + 1 : Nat) : Int) := by unfold wrap64; omega
theorem rd_get (l : List Int) (i : Nat) (h : i < l.length) : rd l (i : Int) = l[i] := by
  unfold rd; rw [Int.toNat_natCast, List.getD_eq_getElem?_getD, List.getElem?_eq_getElem h, Option.getD_some]
theorem numbers_tells (ns : List Int) (hl : ns.length ≤ 1000) : ∀ (d k i : Nat), i + d = ns.length → d < k → record_numbers.l0 k (numI (ns.take i)) ns (ns.length : Int) (i : Int) = some (numI ns) := by
  intro d
  induction d with
  | zero =>
    intro k i hi hk
    obtain ⟨k, rfl⟩ : ∃ m, k = m + 1 := ⟨k - 1, by omega⟩
    simp only [record_numbers.l0]
    rw [if_neg (by omega), List.take_of_length_le (by omega)]
  | succ d ih =>
    intro k i hi hk
    obtain ⟨k, rfl⟩ : ∃ m, k = m + 1 := ⟨k - 1, by omega⟩
    have hil : i < ns.length := by omega
    simp only [record_numbers.l0]
    rw [if_pos (by omega), if_pos (by omega), if_pos (by omega), if_pos (by simp [numI]; omega), wsuc i (by omega), rd_get ns i hil]
    have e : numI (ns.take i) ++ [⟨1, ns[i], ⟨#[]⟩⟩] = numI (ns.take (i + 1)) := by
      rw [List.take_succ_eq_append_getElem hil]
      simp only [numI, List.map_append, List.map_cons, List.map_nil]
    rw [e]
    exact ih k (i + 1) (by omega) (by omega)
theorem numbers_val (ns : List Int) (hl : ns.length ≤ 1000) (k : Nat) (hk : ns.length < k) : record_numbers.f k ns = some (numI ns) := numbers_tells ns hl ns.length k 0 (by omega) hk
def natB (ns : List Int) : Bool := ns.all (fun n => decide (0 ≤ n))
theorem natural_tells (ns : List Int) (hl : ns.length ≤ 1000) : ∀ (d k i : Nat), i + d = ns.length → d < k → record_natural.l0 k ns (ns.length : Int) (i : Int) = some (natB (ns.drop i)) := by
  intro d
  induction d with
  | zero =>
    intro k i hi hk
    obtain ⟨k, rfl⟩ : ∃ m, k = m + 1 := ⟨k - 1, by omega⟩
    simp only [record_natural.l0]
    rw [if_neg (by omega), List.drop_eq_nil_of_le (by omega)]
    rfl
  | succ d ih =>
    intro k i hi hk
    obtain ⟨k, rfl⟩ : ∃ m, k = m + 1 := ⟨k - 1, by omega⟩
    have hil : i < ns.length := by omega
    have e : natB (ns.drop i) = (decide (0 ≤ ns[i]) && natB (ns.drop (i + 1))) := by rw [List.drop_eq_getElem_cons hil]; rfl
    simp only [record_natural.l0]
    rw [if_pos (by omega), if_pos (by omega), if_pos (by omega), rd_get ns i hil]
    by_cases h : ns[i] < 0
    · rw [if_pos h, e, decide_eq_false (by omega)]
      rfl
    · rw [if_neg h, wsuc i (by omega), ih k (i + 1) (by omega) (by omega), e, decide_eq_true (by omega), Bool.true_and]
theorem natural_val (ns : List Int) (hl : ns.length ≤ 1000) (k : Nat) (hk : ns.length < k) : record_natural.f k ns = some (natB ns) := natural_tells ns hl ns.length k 0 (by omega) hk
def logB (ns : List Int) (t : ByteArray) : Bool :=
  match ns with
  | [n0, _, _, _, _, _, n6] => n0 == 1 || (n0 == 2 && (n6 == 0 && t.toList == ([] : List UInt8)))
  | _ => false
theorem superR_val (a b c : Int) (k : Nat) (hk : 10 ≤ k) : record_Super_right.f k a b c = some (natB [a, b, c]) := by
  unfold record_Super_right.f
  rw [natural_val _ (by simp) k (by simp; omega)]
  rfl
theorem logR_val (n0 n1 n2 n3 n4 n5 n6 : Int) (t : ByteArray) (k : Nat) (hk : 20 ≤ k) : record_Log_right.f k n0 n1 n2 n3 n4 n5 n6 t = some (natB [n1, n2, n3, n4, n5, n6] && (decide (t.size ≤ 160) && logB [n0, n1, n2, n3, n4, n5, n6] t)) := by
  obtain ⟨k, rfl⟩ : ∃ m, k = m + 1 := ⟨k - 1, by omega⟩
  unfold record_Log_right.f
  rw [natural_val _ (by simp) _ (by simp; omega), Option.bind_some]
  cases hn : natB [n1, n2, n3, n4, n5, n6]
  · rw [if_neg (by decide)]
    simp [record_Log_right.j0]
  · rw [if_pos rfl, Bool.true_and]
    simp only [record_Log_right.j0]
    by_cases h1 : 160 < t.size
    · rw [decide_eq_true (show (t.size : Int) > 160 by omega), if_pos rfl, decide_eq_false (by omega)]
      rfl
    · rw [decide_eq_false (show ¬ (t.size : Int) > 160 by omega), if_neg (by decide), decide_eq_true (by omega), Bool.true_and]
      by_cases h2 : n0 = 2
      · rw [if_pos h2]
        by_cases h3 : n6 = 0
        · rw [if_pos h3]
          simp [logB, h2, h3]
        · rw [if_neg h3]
          simp [logB, h2, h3]
      · rw [if_neg h2]
        simp [logB, h2]
theorem homeR_val (p : Int) (t : ByteArray) : record_Home_right.f p t = some (decide (0 ≤ p) && decide (t.size ≤ 160)) := by
  unfold record_Home_right.f
  by_cases h : 0 ≤ p
  · rw [if_pos h, decide_eq_true h, Bool.true_and]
    congr 1
    exact decide_eq_decide.2 (by omega)
  · rw [if_neg h, decide_eq_false h]
    rfl
/-- What must be of a record of a kind. -/
def rightB (kind : Int) (ns : List Int) (t : ByteArray) : Bool :=
  natB ns && (decide (t.size ≤ 160) && (if kind = 1 then decide (ns.length = 3) && t.toList == ([] : List UInt8) else if kind = 2 then logB ns t else decide (ns.length = 1)))
def txt (kind : Int) (t : ByteArray) : Option ByteArray := if kind = 1 then none else some t
def encV (kind : Int) (ns : List Int) (t : ByteArray) : List Int × Int := if rightB kind ns t = true then (secL (recI (kind :: ns) (txt kind t)), 0) else ([], 2)
theorem encodeSuper_val (a b c : Int) (k : Nat) (hk : 3000 ≤ k) : record_EncodeSuper.f k a b c = some (encV 1 [a, b, c] ⟨#[]⟩) := by
  have hr : rightB 1 [a, b, c] ⟨#[]⟩ = natB [a, b, c] := by simp [rightB, toList_data, size_nil]
  unfold record_EncodeSuper.f encV
  rw [superR_val a b c k (by omega), Option.bind_some, hr]
  cases hn : natB [a, b, c]
  · rfl
  · rw [if_pos rfl, if_pos rfl, numbers_val _ (by simp) k (by simp; omega), Option.bind_some]
    have e : numI [1, a, b, c] = recI (1 :: [a, b, c]) (txt 1 ⟨#[]⟩) := by simp [recI, txt, textI]
    have hl := recI_len (1 :: [a, b, c]) (txt 1 ⟨#[]⟩)
    rw [e, sector_val _ (recI_check _ _ (by simp) (by simp [txt, tsz, size_nil])) (by simp [txt, tsz, size_nil] at hl ⊢; omega) k hk]
    rfl
end
end Go.Proofs.YtmkkeccmjejfnaaDoor.PA
namespace Go.Proofs.YtmkkeccmjejfnaaDoor.PA
section

open Go.RowKit Go.Proofs.YtmkkeccmjejfnaaDoorW.PrintWords Go.Proofs.YtmkkeccmjejfnaaDoorW.PrintLast Go.Proofs.YtmkkeccmjejfnaaDoorW.PrintMore
set_option linter.unusedVariables false
set_option linter.unusedSimpArgs false
def unsealV (u : List Int) : List S77 × Int := if (openL u).2 = 0 then decF (openL u).1 else ([], (openL u).2)
theorem openL_byteL {u : List Int} (h : byteL u) : byteL (openL u).1 := by
  unfold openL
  split
  · intro b hb; cases hb
  · split
    · exact byteL_take h _
    · intro b hb; cases hb
theorem openL_len (u : List Int) : (openL u).1.length ≤ u.length := by
  unfold openL
  split
  · simp
  · split
    · rw [List.length_take]; omega
    · simp
theorem unseal_val (u : List Int) (hb : byteL u) (hl : u.length ≤ 140737488351232) (k : Nat) (hk : 4 * u.length + 100 ≤ k) : record_unseal.f k u = some (unsealV u) := by
  have e1 : pack_Open.f u = some (openL u) := by rw [pack_Open.f, if_pos ⟨byteB_iff.2 hb, by omega⟩]
  have hlen := openL_len u
  unfold record_unseal.f unsealV
  rw [e1, Option.bind_some]
  by_cases h : (openL u).2 = 0
  · rw [if_pos h, if_pos h, decode_val _ (openL_byteL hb) (by omega) k (by omega)]
    rfl
  · rw [if_neg h, if_neg h]
theorem unframeL_byteL {b : List Int} (h : byteL b) : byteL (unframeL b).1 := by
  unfold unframeL
  split
  · intro b hb; cases hb
  · split
    · intro b hb; cases hb
    · exact byteL_take (byteL_drop h _) _
theorem unframeL_len (b : List Int) : (unframeL b).1.length ≤ 60000 := by
  unfold unframeL
  split
  · simp
  · split
    · simp
    · rw [List.length_take, List.length_drop]; omega
def openV (b : List Int) (kind : Int) (m : Nat) (tx : Bool) : List Int × ByteArray × Int :=
  if (unframeL b).2 = 0 then (if (unsealV (unframeL b).1).2 = 0 then itemsV b.length (unsealV (unframeL b).1).1 kind m tx else ([], ⟨#[]⟩, (unsealV (unframeL b).1).2)) else ([], ⟨#[]⟩, 2)
theorem open_val (b : List Int) (hb : byteL b) (hl : b.length ≤ 140737488351232) (kind : Int) (m : Nat) (hm : m ≤ 100) (tx : Bool) (k : Nat) (hk : 300000 ≤ k) : record_open.f k b kind (m : Int) tx = some (openV b kind m tx) := by
  have e1 : pack_Unframe.f b = some (unframeL b) := by unfold pack_Unframe.f; rw [if_pos ⟨byteB_iff.2 hb, by omega⟩]
  have hlen := unframeL_len b
  unfold record_open.f openV
  rw [if_pos (by omega), e1, Option.bind_some, Int.toNat_natCast]
  by_cases h : (unframeL b).2 = 0
  · rw [if_pos h, if_pos h, unseal_val _ (unframeL_byteL hb) (by omega) k (by omega), Option.bind_some]
    split <;> rfl
  · rw [if_neg h, if_neg h]
theorem recI_items (kind : Int) (ns : List Int) (t : Option ByteArray) : itemsV 256 (recI (kind :: ns) t) kind ns.length t.isSome = (ns, t.getD ⟨#[]⟩, 0) := by
  have hl : (recI (kind :: ns) t).length = 1 + ns.length + (if t.isSome = true then 1 else 0) := by
    cases t <;> simp [recI, numI, textI] <;> omega
  have hh : headB (rd_T77 (recI (kind :: ns) t) 0) kind = true := by
    have : rd_T77 (recI (kind :: ns) t) 0 = ⟨1, kind, ⟨#[]⟩⟩ := rfl
    rw [this]
    simp [headB, toList_data]
  have hmid : ((recI (kind :: ns) t).drop 1).take ns.length = numI ns := by
    have : (recI (kind :: ns) t).drop 1 = numI ns ++ textI t := rfl
    rw [this, List.take_append_of_le_length (by simp [numI]), List.take_of_length_le (by simp [numI])]
  have hall : (numI ns).all (fun x => x.f0 == 1) = true := by simp [numI]
  have hmap : (numI ns).map (·.f1) = ns := by simp [numI, Function.comp_def]
  unfold itemsV
  rw [if_neg (by rw [hl, hh]; simp), hmid, hall, hmap, if_neg (by decide)]
  cases t with
  | none => rfl
  | some t =>
    have hlast : rd_T77 (recI (kind :: ns) (some t)) ((ns.length : Int) + 1) = ⟨2, 0, t⟩ := by
      unfold rd_T77
      rw [show ((ns.length : Int) + 1).toNat = ns.length + 1 by omega, List.getD_eq_getElem?_getD]
      have : (recI (kind :: ns) (some t))[ns.length + 1]? = some ⟨2, 0, t⟩ := by
        rw [recI, List.getElem?_append_right (by simp [numI])]
        simp [numI, textI]
      rw [this]
      rfl
    rw [if_neg (by simp), hlast]
    rfl
theorem small_enc (kind : Int) (ns : List Int) (t : Option ByteArray) (hn : ns.length ≤ 7) (ht : tsz t ≤ 160) : (encL (recI (kind :: ns) t)).length ≤ 250 := by
  have := recI_len (kind :: ns) t
  simp at this
  omega
theorem unseal_enc (kind : Int) (ns : List Int) (t : Option ByteArray) (hn : ns.length ≤ 7) (ht : tsz t ≤ 160) (hw : ∀ n ∈ kind :: ns, wf64 n) :
    (unframeL (secL (recI (kind :: ns) t))) = (sealL (encL (recI (kind :: ns) t)), 0) ∧ unsealV (sealL (encL (recI (kind :: ns) t))) = (recI (kind :: ns) t, 0) := by
  have hs := small_enc kind ns t hn ht
  refine ⟨unframe_frame _ _ (by rw [sealL_length]; omega) (by omega), ?_⟩
  unfold unsealV
  rw [openL_seal _ (encL_byteL _), if_pos rfl]
  exact decF_enc _ (recI_check _ _ (by simp; omega) ht) (recI_wf _ _ hw)
theorem open_enc (kind : Int) (ns : List Int) (t : Option ByteArray) (hn : ns.length ≤ 7) (ht : tsz t ≤ 160) (hw : ∀ n ∈ kind :: ns, wf64 n) :
    openV (secL (recI (kind :: ns) t)) kind ns.length t.isSome = (ns, t.getD ⟨#[]⟩, 0) := by
  obtain ⟨h1, h2⟩ := unseal_enc kind ns t hn ht hw
  unfold openV
  rw [h1, if_pos rfl]
  simp only [h2]
  rw [if_pos trivial, secL_length _ (small_enc kind ns t hn ht)]
  exact recI_items kind ns t
theorem seal_open {u c : List Int} (hb : byteL u) (h : openL u = (c, 0)) : u = sealL c := by
  unfold openL at h
  split at h
  · simp at h
  · rename_i h4
    split at h
    · rename_i hg
      simp only [Prod.mk.injEq, and_true] at h
      have := leB_getV (u.drop (u.length - 4)) (byteL_drop hb _)
      rw [List.length_drop, show u.length - (u.length - 4) = 4 by omega] at this
      rw [← h, sealL, ← hg, this, List.take_append_drop]
    · simp at h
theorem someB_rep {l : List Int} (h : ¬ someB l = true) : l = List.replicate l.length 0 := by
  refine List.eq_replicate_iff.2 ⟨rfl, fun b hb => ?_⟩
  simp only [someB, List.any_eq_true, bne_iff_ne, not_exists, not_and, Decidable.not_not] at h
  exact h b hb
theorem frame_unframe {b u : List Int} (hb : byteL b) (h : unframeL b = (u, 0)) : b = frameL u b.length := by
  unfold unframeL at h
  split at h
  · simp at h
  · rename_i h1
    split at h
    · simp at h
    · rename_i h2
      have hl : 2 ≤ b.length ∧ b.length ≤ 60000 := by omega
      have l2 : (b.take 2).length = 2 := by rw [List.length_take]; omega
      have hg := getV2 _ (byteL_take hb 2) l2
      obtain ⟨n, hn⟩ : ∃ n : Nat, getV (b.take 2) = (n : Int) := ⟨(getV (b.take 2)).toNat, by omega⟩
      rw [hn, Int.toNat_natCast] at h h2
      simp only [Prod.mk.injEq, and_true] at h
      have hnl : 2 + n ≤ b.length := by
        rcases Nat.lt_or_ge b.length (2 + n) with h3 | h3
        · exact absurd (.inl (by omega)) h2
        · exact h3
      have hz : ¬ someB (b.drop (2 + n)) = true := fun h3 => h2 (.inr h3)
      have hul : u.length = n := by rw [← h, List.length_take, List.length_drop]; omega
      match b, l2, hl with
      | x :: y :: r, _, hl =>
        have hx := (byteL_cons hb)
        have hy := (byteL_cons hx.2.2)
        have hv : getV [x, y] = x + 256 * y := by simp [getV]
        have hn' : x + 256 * y = (n : Int) := by rw [← hv]; exact hn
        have e1 : (u.length : Int) % 256 = x := by rw [hul]; omega
        have e2 : (u.length : Int) / 256 = y := by rw [hul]; omega
        have e3 : r = u ++ r.drop n := by rw [← h]; exact (List.take_append_drop n r).symm
        have e4 : (x :: y :: r).drop (2 + n) = r.drop n := by rw [Nat.add_comm]; rfl
        rw [e4] at hz
        have e5 := someB_rep hz
        have e6 : (r.drop n).length = (x :: y :: r).length - 2 - u.length := by rw [List.length_drop, hul]; simp
        unfold frameL
        rw [e1, e2, ← e6, ← e5, ← e3]
theorem num_item {x : S77} (h : okB x = true) (h1 : x.f0 = 1) : x = ⟨1, x.f1, ⟨#[]⟩⟩ := by
  have h2 : x.f2 = ⟨#[]⟩ := by
    have : x.f2.toList = [] := by simpa [okB, h1] using h
    rw [show (⟨#[]⟩ : ByteArray) = ⟨#[]⟩ from rfl]
    exact toList_inj'.1 (by rw [this]; simp [toList_data])
  calc x = ⟨x.f0, x.f1, x.f2⟩ := rfl
    _ = _ := by rw [h1, h2]
theorem text_item {x : S77} (h : okB x = true) (h1 : x.f0 = 2) : x = ⟨2, 0, x.f2⟩ := by
  have h2 : x.f1 = 0 := by simpa [okB, h1] using h
  calc x = ⟨x.f0, x.f1, x.f2⟩ := rfl
    _ = _ := by rw [h1, h2]
theorem mid_num (l : List S77) (hok : ∀ x ∈ l, okB x = true) (h : l.all (fun x => x.f0 == 1) = true) : l = numI (l.map (·.f1)) := by
  induction l with
  | nil => rfl
  | cons x l ih =>
    simp only [List.all_cons, Bool.and_eq_true, beq_iff_eq] at h
    have hx := num_item (hok x (by simp)) h.1
    have hl := ih (fun y hy => hok y (by simp [hy])) h.2
    calc x :: l = ⟨1, x.f1, ⟨#[]⟩⟩ :: numI (l.map (·.f1)) := by rw [← hl, ← hx]
      _ = _ := rfl
theorem items_tells {n : Nat} {l : List S77} {kind : Int} {m : Nat} {tx : Bool} {ns : List Int} {t : ByteArray} (hok : ∀ x ∈ l, okB x = true) (h : itemsV n l kind m tx = (ns, t, 0)) :
    n = 256 ∧ l = recI (kind :: ns) (if tx = true then some t else none) ∧ ns.length = m ∧ (tx = false → t = ⟨#[]⟩) := by
  unfold itemsV at h
  by_cases h1 : n ≠ 256 ∨ l.length ≠ 1 + m + (if tx = true then 1 else 0) ∨ headB (rd_T77 l 0) kind = false
  · rw [if_pos h1] at h
    simp at h
  · rw [if_neg h1] at h
    by_cases h2 : ((l.drop 1).take m).all (fun x => x.f0 == 1) = false
    · rw [if_pos h2] at h
      simp at h
    · rw [if_neg h2] at h
      have g1 : n = 256 := by omega
      have g2 : l.length = 1 + m + (if tx = true then 1 else 0) := by omega
      have g3 : headB (rd_T77 l 0) kind = true := by
        cases hh : headB (rd_T77 l 0) kind
        · exact absurd (.inr (.inr hh)) h1
        · rfl
      have g4 : ((l.drop 1).take m).all (fun x => x.f0 == 1) = true := by
        cases hh : ((l.drop 1).take m).all (fun x => x.f0 == 1)
        · exact absurd hh h2
        · rfl
      match l, g2, g3, g4, hok, h with
      | [], g2, _, _, _, _ => exfalso; simp at g2; omega
      | x :: r, g2, g3, g4, hok, h =>
        have hx0 : rd_T77 (x :: r) 0 = x := rfl
        rw [hx0] at g3
        simp only [headB, Bool.and_eq_true, beq_iff_eq] at g3
        have hx : x = ⟨1, kind, ⟨#[]⟩⟩ := by
          have := num_item (hok x (by simp)) g3.1
          rw [g3.2.1] at this
          exact this
        have hrl : r.length = m + (if tx = true then 1 else 0) := by simp at g2; omega
        have hd : (x :: r).drop 1 = r := rfl
        rw [hd] at g4 h
        have hmid := mid_num (r.take m) (fun y hy => hok y (by simp [List.mem_of_mem_take hy])) g4
        refine ⟨g1, ?_⟩
        cases tx with
        | false =>
          rw [if_pos rfl] at h
          simp only [Prod.mk.injEq, and_true] at h
          obtain ⟨h3, h4⟩ := h
          have hrm : r.take m = r := List.take_of_length_le (by simp at hrl; omega)
          refine ⟨?_, by rw [← h3, List.length_map, hrm]; simpa using hrl, fun _ => h4.symm⟩
          rw [← h3]
          show x :: r = ⟨1, kind, ⟨#[]⟩⟩ :: (numI ((r.take m).map (·.f1)) ++ [])
          rw [← hmid, hrm, List.append_nil, ← hx]
        | true =>
          rw [if_neg (by decide)] at h
          split at h
          · rename_i h5
            simp only [Prod.mk.injEq, and_true] at h
            obtain ⟨h3, h4⟩ := h
            have hml : m < r.length := by simp at hrl; omega
            have hlast : rd_T77 (x :: r) ((m : Int) + 1) = r[m] := by
              unfold rd_T77
              rw [show ((m : Int) + 1).toNat = m + 1 by omega, List.getD_eq_getElem?_getD, List.getElem?_cons_succ, List.getElem?_eq_getElem hml]
              rfl
            rw [hlast] at h4 h5
            have hy := text_item (hok r[m] (by simp)) h5
            rw [h4] at hy
            have hr : r = r.take m ++ [r[m]] := by
              rw [← List.take_succ_eq_append_getElem hml, List.take_of_length_le (by simp at hrl; omega)]
            refine ⟨?_, by rw [← h3, List.length_map, List.length_take]; omega, fun h => by cases h⟩
            rw [← h3]
            show x :: r = ⟨1, kind, ⟨#[]⟩⟩ :: (numI ((r.take m).map (·.f1)) ++ [⟨2, 0, t⟩])
            rw [← hmid, ← hx, ← hy, ← hr]
          · simp at h
theorem open_tells {b : List Int} (hb : byteL b) {kind : Int} {m : Nat} {tx : Bool} {ns : List Int} {t : ByteArray} (h : openV b kind m tx = (ns, t, 0)) :
    b = secL (recI (kind :: ns) (if tx = true then some t else none)) ∧ unframeL b = (sealL (encL (recI (kind :: ns) (if tx = true then some t else none))), 0) ∧ unsealV (unframeL b).1 = (recI (kind :: ns) (if tx = true then some t else none), 0) ∧ ns.length = m ∧ (tx = false → t = ⟨#[]⟩) ∧ ∀ n ∈ kind :: ns, wf64 n := by
  unfold openV at h
  split at h
  · rename_i h1
    split at h
    · rename_i h2
      obtain ⟨u, hu⟩ : ∃ u, u = (unframeL b).1 := ⟨_, rfl⟩
      have hu2 : unframeL b = (u, 0) := by rw [hu, ← h1]
      rw [← hu] at h h2 ⊢
      have hub : byteL u := by rw [hu]; exact unframeL_byteL hb
      have h3 : (openL u).2 = 0 := by
        unfold unsealV at h2
        split at h2
        · assumption
        · exact h2
      have hc : openL u = ((openL u).1, 0) := by rw [← h3]
      have hs := seal_open hub hc
      have hv : unsealV u = decF (openL u).1 := by unfold unsealV; rw [if_pos h3]
      rcases decF_tells _ (openL_byteL hub) with h4 | ⟨l, h4, h5, h6, h7⟩
      · rw [hv, h4] at h2
        cases h2
      · rw [hv, h4] at h
        obtain ⟨_, hok⟩ := (checkV_iff l).1 h6
        obtain ⟨g1, g2, g3, g4⟩ := items_tells (fun x hx => (hok x hx).1) h
        refine ⟨?_, ?_, by rw [hv, h4, g2], g3, g4, fun n hn => ?_⟩
        · have hf := frame_unframe hb hu2
          rw [hf, g1, hs, ← h5, g2]
          rfl
        · rw [hu2, hs, ← h5, g2]
        · have : (⟨1, n, ⟨#[]⟩⟩ : S77) ∈ l := by
            rw [g2, recI]
            refine List.mem_append_left _ ?_
            exact List.mem_map.2 ⟨n, hn, rfl⟩
          exact wf64_iff.1 (h7 _ this)
    · simp only [Prod.mk.injEq] at h
      rename_i h2
      exact absurd h.2.2 h2
  · simp at h
end
end Go.Proofs.YtmkkeccmjejfnaaDoor.PA
namespace Go.Proofs.YtmkkeccmjejfnaaDoor.PA
section

open Go.RowKit Go.Proofs.YtmkkeccmjejfnaaDoorW.PrintWords Go.Proofs.YtmkkeccmjejfnaaDoorW.PrintLast Go.Proofs.YtmkkeccmjejfnaaDoorW.PrintMore
set_option linter.unusedVariables false
set_option linter.unusedSimpArgs false
def cnt (kind : Int) : Nat := if kind = 1 then 3 else if kind = 2 then 7 else 1
def docV (b : List Int) (kind : Int) : Int × List Int × ByteArray × Int :=
  if (openV b kind (cnt kind) (decide (kind ≠ 1))).2.2 = 0 then
    (if rightB kind (openV b kind (cnt kind) (decide (kind ≠ 1))).1 (openV b kind (cnt kind) (decide (kind ≠ 1))).2.1 = true then (kind, (openV b kind (cnt kind) (decide (kind ≠ 1))).1, (openV b kind (cnt kind) (decide (kind ≠ 1))).2.1, 0) else (0, [], ⟨#[]⟩, 2))
  else (0, [], ⟨#[]⟩, (openV b kind (cnt kind) (decide (kind ≠ 1))).2.2)
theorem rightB_len {kind : Int} {ns : List Int} {t : ByteArray} (h : rightB kind ns t = true) : ns.length = cnt kind ∧ t.size ≤ 160 := by
  unfold rightB at h
  simp only [Bool.and_eq_true, decide_eq_true_eq] at h
  refine ⟨?_, h.2.1⟩
  have h2 := h.2.2
  unfold cnt
  by_cases k1 : kind = 1
  · rw [if_pos k1] at h2 ⊢
    simp only [Bool.and_eq_true, decide_eq_true_eq] at h2
    exact h2.1
  · rw [if_neg k1] at h2 ⊢
    by_cases k2 : kind = 2
    · rw [if_pos k2] at h2 ⊢
      unfold logB at h2
      split at h2
      · rfl
      · cases h2
    · rw [if_neg k2] at h2 ⊢
      simpa using h2
theorem rightB_one {ns : List Int} {t : ByteArray} (h : rightB 1 ns t = true) : t = ⟨#[]⟩ := by
  unfold rightB at h
  simp only [Bool.and_eq_true, decide_eq_true_eq, if_true, beq_iff_eq] at h
  exact toList_inj'.1 (by rw [h.2.2.2]; simp [toList_data])
theorem txt_some (kind : Int) (t : ByteArray) : (txt kind t).isSome = decide (kind ≠ 1) := by
  unfold txt
  by_cases k : kind = 1 <;> simp [k]
theorem txt_get {kind : Int} {ns : List Int} {t : ByteArray} (h : rightB kind ns t = true) : (txt kind t).getD ⟨#[]⟩ = t ∧ tsz (txt kind t) ≤ 160 := by
  have hs := (rightB_len h).2
  unfold txt
  by_cases k : kind = 1
  · subst k
    rw [if_pos rfl]
    exact ⟨(rightB_one h).symm, by simp [tsz, size_nil]⟩
  · rw [if_neg k]
    exact ⟨rfl, by simpa [tsz] using hs⟩
theorem cnt_le (kind : Int) : cnt kind ≤ 7 := by
  unfold cnt
  split
  · omega
  · split <;> omega
/-- What is encoded is decoded. -/
theorem doc_enc (kind : Int) (ns : List Int) (t : ByteArray) (h : rightB kind ns t = true) (hw : ∀ n ∈ kind :: ns, wf64 n) : docV (secL (recI (kind :: ns) (txt kind t))) kind = (kind, ns, t, 0) := by
  obtain ⟨hl, hs⟩ := rightB_len h
  obtain ⟨hg, ht⟩ := txt_get h
  have ho := open_enc kind ns (txt kind t) (by rw [hl]; exact cnt_le kind) ht hw
  rw [hl, txt_some, hg] at ho
  unfold docV
  rw [ho]
  simp only [h, if_true]
theorem docV_form (b : List Int) (kind : Int) : (∃ ns t, docV b kind = (kind, ns, t, 0) ∧ rightB kind ns t = true ∧ openV b kind (cnt kind) (decide (kind ≠ 1)) = (ns, t, 0)) ∨ ∃ e, e ≠ 0 ∧ docV b kind = (0, [], ⟨#[]⟩, e) ∧ ((openV b kind (cnt kind) (decide (kind ≠ 1))).2.2 = e ∨ ((openV b kind (cnt kind) (decide (kind ≠ 1))).2.2 = 0 ∧ e = 2 ∧ rightB kind (openV b kind (cnt kind) (decide (kind ≠ 1))).1 (openV b kind (cnt kind) (decide (kind ≠ 1))).2.1 = false)) := by
  unfold docV
  by_cases h1 : (openV b kind (cnt kind) (decide (kind ≠ 1))).2.2 = 0
  · rw [if_pos h1]
    by_cases h2 : rightB kind (openV b kind (cnt kind) (decide (kind ≠ 1))).1 (openV b kind (cnt kind) (decide (kind ≠ 1))).2.1 = true
    · rw [if_pos h2]
      exact .inl ⟨_, _, rfl, h2, by rw [← h1]⟩
    · rw [if_neg h2]
      exact .inr ⟨2, by decide, rfl, .inr ⟨h1, rfl, by simpa using h2⟩⟩
  · rw [if_neg h1]
    exact .inr ⟨_, h1, rfl, .inl rfl⟩
theorem super_tells (b : List Int) (hb : byteL b) (hl : b.length ≤ 140737488351232) (k : Nat) (hk : 300000 ≤ k) :
    (∃ x y z, docV b 1 = (1, [x, y, z], ⟨#[]⟩, 0) ∧ record_DecodeSuper.f k b = some (x, y, z, 0)) ∨ (∃ e, e ≠ 0 ∧ docV b 1 = (0, [], ⟨#[]⟩, e) ∧ record_DecodeSuper.f k b = some (0, 0, 0, e)) := by
  have ho : record_open.f k b 1 3 false = some (openV b 1 (cnt 1) (decide ((1 : Int) ≠ 1))) := open_val b hb hl 1 3 (by omega) false k hk
  unfold record_DecodeSuper.f
  rw [ho, Option.bind_some]
  rcases docV_form b 1 with ⟨ns, t, h1, h2, h3⟩ | ⟨e, he, h1, h2⟩
  · have hn := (rightB_len h2).1
    have ht := rightB_one h2
    subst ht
    match ns, hn with
    | [x, y, z], _ =>
      refine .inl ⟨x, y, z, h1, ?_⟩
      rw [h3]
      have hr : natB [x, y, z] = true := by
        unfold rightB at h2
        simp only [Bool.and_eq_true] at h2
        exact h2.1
      simp only [if_true, List.length_cons, List.length_nil]
      rw [if_pos (by decide), if_pos (by decide), if_pos (by decide), superR_val _ _ _ k (by omega), Option.bind_some]
      have e1 : rd [x, y, z] 0 = x := rfl
      have e2 : rd [x, y, z] 1 = y := rfl
      have e3 : rd [x, y, z] 2 = z := rfl
      rw [e1, e2, e3, hr, if_pos rfl]
  · refine .inr ⟨e, he, h1, ?_⟩
    rcases h2 with h2 | ⟨h2, h3, h4⟩
    · rw [h2, if_neg he]
    · obtain ⟨ns, t, h5⟩ : ∃ ns t, openV b 1 (cnt 1) (decide ((1 : Int) ≠ 1)) = (ns, t, 0) := ⟨_, _, by rw [← h2]⟩
      obtain ⟨_, _, _, g4, g5, _⟩ := open_tells hb h5
      have ht := g5 (by decide)
      subst ht
      rw [h5] at h4 ⊢
      match ns, g4 with
      | [x, y, z], _ =>
        have hr : natB [x, y, z] = false := by
          cases hh : natB [x, y, z]
          · rfl
          · simp [rightB, hh, toList_data, size_nil] at h4
        simp only [if_true, List.length_cons, List.length_nil]
        rw [if_pos (by decide), if_pos (by decide), if_pos (by decide), superR_val _ _ _ k (by omega), Option.bind_some]
        have e1 : rd [x, y, z] 0 = x := rfl
        have e2 : rd [x, y, z] 1 = y := rfl
        have e3 : rd [x, y, z] 2 = z := rfl
        rw [e1, e2, e3, hr, if_neg (by decide), h3]
theorem logright (n0 n1 n2 n3 n4 n5 n6 : Int) (t : ByteArray) : rightB 2 [n0, n1, n2, n3, n4, n5, n6] t = (natB [n1, n2, n3, n4, n5, n6] && (decide (t.size ≤ 160) && logB [n0, n1, n2, n3, n4, n5, n6] t)) := by
  unfold rightB
  rw [if_neg (by decide), if_pos rfl]
  cases hl : logB [n0, n1, n2, n3, n4, n5, n6] t
  · simp
  · have h0 : 0 ≤ n0 := by
      simp only [logB, Bool.or_eq_true, Bool.and_eq_true, beq_iff_eq] at hl
      rcases hl with h | h
      · omega
      · omega
    have : natB [n0, n1, n2, n3, n4, n5, n6] = natB [n1, n2, n3, n4, n5, n6] := by
      simp [natB, h0]
    rw [this]
theorem log_tells (b : List Int) (hb : byteL b) (hl : b.length ≤ 140737488351232) (k : Nat) (hk : 300000 ≤ k) :
    (∃ n0 n1 n2 n3 n4 n5 n6 t, docV b 2 = (2, [n0, n1, n2, n3, n4, n5, n6], t, 0) ∧ record_DecodeLog.f k b = some (n0, n1, n2, n3, n4, n5, n6, t, 0)) ∨ (∃ e, e ≠ 0 ∧ docV b 2 = (0, [], ⟨#[]⟩, e) ∧ record_DecodeLog.f k b = some (0, 0, 0, 0, 0, 0, 0, ⟨#[]⟩, e)) := by
  have ho : record_open.f k b 2 7 true = some (openV b 2 (cnt 2) (decide ((2 : Int) ≠ 1))) := open_val b hb hl 2 7 (by omega) true k hk
  unfold record_DecodeLog.f
  rw [ho, Option.bind_some]
  rcases docV_form b 2 with ⟨ns, t, h1, h2, h3⟩ | ⟨e, he, h1, h2⟩
  · have hn := (rightB_len h2).1
    match ns, hn with
    | [n0, n1, n2, n3, n4, n5, n6], _ =>
      refine .inl ⟨n0, n1, n2, n3, n4, n5, n6, t, h1, ?_⟩
      rw [h3, if_pos rfl]
      show (record_Log_right.f k n0 n1 n2 n3 n4 n5 n6 t).bind _ = _
      rw [logR_val _ _ _ _ _ _ _ _ k (by omega), ← logright, h2, Option.bind_some, if_pos rfl]
  · refine .inr ⟨e, he, h1, ?_⟩
    rcases h2 with h2 | ⟨h2, h3, h4⟩
    · rw [h2, if_neg he]
    · obtain ⟨ns, t, h5⟩ : ∃ ns t, openV b 2 (cnt 2) (decide ((2 : Int) ≠ 1)) = (ns, t, 0) := ⟨_, _, by rw [← h2]⟩
      obtain ⟨_, _, _, g4, g5, _⟩ := open_tells hb h5
      rw [h5] at h4 ⊢
      match ns, g4 with
      | [n0, n1, n2, n3, n4, n5, n6], _ =>
        rw [if_pos rfl]
        show (record_Log_right.f k n0 n1 n2 n3 n4 n5 n6 t).bind _ = _
        rw [logR_val _ _ _ _ _ _ _ _ k (by omega), ← logright, h4, Option.bind_some, if_neg (by decide), h3]
theorem home_tells (b : List Int) (hb : byteL b) (hl : b.length ≤ 140737488351232) (k : Nat) (hk : 300000 ≤ k) :
    (∃ p t, docV b 3 = (3, [p], t, 0) ∧ record_DecodeHome.f k b = some (p, t, 0)) ∨ (∃ e, e ≠ 0 ∧ docV b 3 = (0, [], ⟨#[]⟩, e) ∧ record_DecodeHome.f k b = some (0, ⟨#[]⟩, e)) := by
  have ho : record_open.f k b 3 1 true = some (openV b 3 (cnt 3) (decide ((3 : Int) ≠ 1))) := open_val b hb hl 3 1 (by omega) true k hk
  have hr : ∀ p t, rightB 3 [p] t = (decide (0 ≤ p) && decide (t.size ≤ 160)) := fun p t => by simp [rightB, natB]
  unfold record_DecodeHome.f
  rw [ho, Option.bind_some]
  rcases docV_form b 3 with ⟨ns, t, h1, h2, h3⟩ | ⟨e, he, h1, h2⟩
  · have hn := (rightB_len h2).1
    match ns, hn with
    | [p], _ =>
      refine .inl ⟨p, t, h1, ?_⟩
      rw [h3, if_pos rfl, if_pos (by simp)]
      have e1 : rd [p] 0 = p := rfl
      simp only [e1]
      rw [homeR_val, ← hr, h2, Option.bind_some, if_pos rfl]
  · refine .inr ⟨e, he, h1, ?_⟩
    rcases h2 with h2 | ⟨h2, h3, h4⟩
    · rw [h2, if_neg he]
    · obtain ⟨ns, t, h5⟩ : ∃ ns t, openV b 3 (cnt 3) (decide ((3 : Int) ≠ 1)) = (ns, t, 0) := ⟨_, _, by rw [← h2]⟩
      obtain ⟨_, _, _, g4, g5, _⟩ := open_tells hb h5
      rw [h5] at h4 ⊢
      match ns, g4 with
      | [p], _ =>
        rw [if_pos rfl, if_pos (by simp)]
        have e1 : rd [p] 0 = p := rfl
        simp only [e1]
        rw [homeR_val, ← hr, h4, Option.bind_some, if_neg (by decide), h3]
theorem known_val (k : Nat) (hk : 300000 ≤ k) : cisternlaw07_known.f k = some true := by
  have hr : rightB 1 [3, 2, 7] ⟨#[]⟩ = true := by simp [rightB, natB, toList_data, size_nil]
  have hw : ∀ n ∈ (1 : Int) :: [3, 2, 7], wf64 n := by intro n hn; simp at hn; unfold wf64; omega
  have he := encodeSuper_val 3 2 7 k (by omega)
  have hv : encV 1 [3, 2, 7] ⟨#[]⟩ = (secL (recI (1 :: [3, 2, 7]) (txt 1 ⟨#[]⟩)), 0) := by unfold encV; rw [if_pos hr]
  obtain ⟨b, hbe⟩ : ∃ b, b = secL (recI (1 :: [3, 2, 7]) (txt 1 ⟨#[]⟩)) := ⟨_, rfl⟩
  have hsm := small_enc 1 [3, 2, 7] (txt 1 ⟨#[]⟩) (by simp) (txt_get hr).2
  have hb : byteL b := by rw [hbe]; exact secL_byteL _ hsm
  have hl : b.length = 256 := by rw [hbe]; exact secL_length _ hsm
  have hd : docV b 1 = (1, [3, 2, 7], ⟨#[]⟩, 0) := by rw [hbe]; exact doc_enc 1 _ _ hr hw
  rw [hv, ← hbe] at he
  unfold cisternlaw07_known.f
  rw [he, Option.bind_some]
  rcases super_tells b hb (by omega) k hk with ⟨x, y, z, h1, h2⟩ | ⟨e, h0, h1, _⟩
  · rw [hd] at h1
    simp only [Prod.mk.injEq, List.cons.injEq, and_true, true_and] at h1
    obtain ⟨rfl, rfl, rfl⟩ := h1
    rw [h2, Option.bind_some, if_pos rfl, if_pos rfl, if_pos (by rw [hl]; rfl)]
    rfl
  · rw [hd] at h1
    simp at h1
end
end Go.Proofs.YtmkkeccmjejfnaaDoor.PA
namespace Go.Proofs.YtmkkeccmjejfnaaDoor.PA
section

open Go.RowKit Go.Proofs.YtmkkeccmjejfnaaDoorW.PrintWords Go.Proofs.YtmkkeccmjejfnaaDoorW.PrintLast Go.Proofs.YtmkkeccmjejfnaaDoorW.PrintMore
set_option linter.unusedVariables false
set_option linter.unusedSimpArgs false
theorem rd77_get (l : List S77) (i : Nat) (h : i < l.length) : rd_T77 l (i : Int) = l[i] := by
  unfold rd_T77; rw [Int.toNat_natCast, List.getD_eq_getElem?_getD, List.getElem?_eq_getElem h]; rfl
theorem decF_le (c : List Int) (hc : byteL c) : (decF c).1.length ≤ 4000 := by
  rcases decF_tells c hc with h | ⟨m, h, _, h2, _⟩
  · rw [h]; simp
  · rw [h]; exact ((checkV_iff m).1 h2).1
theorem unsealV_le (u : List Int) (hb : byteL u) : (unsealV u).1.length ≤ 4000 := by
  unfold unsealV
  split
  · exact decF_le _ (openL_byteL hb)
  · simp
theorem refunpacked_val (u : List Int) (hb : byteL u) (hl : u.length ≤ 140737488351232) (k : Nat) (hk : 10 * u.length + 100 ≤ k) : cisternref07_unpacked.f k (strOfNums u) = some (unsealV u) := by
  have hlen := openL_len u
  unfold cisternref07_unpacked.f unsealV
  rw [docopen_val _ (by rw [size_strOfNums]; omega) k (by rw [size_strOfNums]; omega), bytesOf_strOfNums u hb, Option.bind_some]
  by_cases h : (openL u).2 = 0
  · rw [if_pos h, if_pos h]
    simp only
    rw [docdecode_val _ (by rw [size_strOfNums]; omega) k (by rw [size_strOfNums]; omega), bytesOf_strOfNums _ (openL_byteL hb)]
    rfl
  · rw [if_neg h, if_neg h]
end
end Go.Proofs.YtmkkeccmjejfnaaDoor.PA
namespace Go.Proofs.YtmkkeccmjejfnaaDoor.PA
section

open Go.RowKit Go.Proofs.YtmkkeccmjejfnaaDoorW.PrintWords Go.Proofs.YtmkkeccmjejfnaaDoorW.PrintLast Go.Proofs.YtmkkeccmjejfnaaDoorW.PrintMore
set_option linter.unusedVariables false
set_option linter.unusedSimpArgs false
theorem unsealV_wf {u : List Int} (hb : byteL u) : ∀ x ∈ (unsealV u).1, wfI x := by
  intro x hx
  unfold unsealV at hx
  split at hx
  · rcases decF_tells _ (openL_byteL hb) with h | ⟨m, h, _, _, h3⟩
    · rw [h] at hx; cases hx
    · rw [h] at hx; exact h3 x hx
  · cases hx
end
end Go.Proofs.YtmkkeccmjejfnaaDoor.PA
namespace Go.Proofs.YtmkkeccmjejfnaaDoor.PA
section

open Go.RowKit Go.Proofs.YtmkkeccmjejfnaaDoorW.PrintWords Go.Proofs.YtmkkeccmjejfnaaDoorW.PrintLast Go.Proofs.YtmkkeccmjejfnaaDoorW.PrintMore
set_option linter.unusedVariables false
set_option linter.unusedSimpArgs false
theorem rd65_get (l : List S65) (i : Nat) (h : i < l.length) : rd_T65 l (i : Int) = l[i] := by
  unfold rd_T65; rw [Int.toNat_natCast, List.getD_eq_getElem?_getD, List.getElem?_eq_getElem h]; rfl
theorem wpre (i : Nat) (h : i + 1 ≤ 9223372036854775807) : wrap64 (((i + 1 : Nat) : Int) - 1) = (i : Int) := by unfold wrap64; omega
def pairsI : List S65 → List S77
  | [] => []
  | p :: l => ⟨2, 0, p.f0⟩ :: ⟨2, 0, p.f1⟩ :: pairsI l
theorem pairsI_len : ∀ l : List S65, (pairsI l).length = 2 * l.length
  | [] => rfl
  | p :: l => by simp only [pairsI, List.length_cons, pairsI_len l]; omega
theorem pairsI_append : ∀ l m : List S65, pairsI (l ++ m) = pairsI l ++ pairsI m
  | [], m => rfl
  | p :: l, m => by simp only [List.cons_append, pairsI, pairsI_append l m]
def sizeS : List S65 → Int → Int
  | [], s => s
  | p :: l, s => if s > 60000 then s else sizeS l (wrap64 (s + 6 + p.f0.size + p.f1.size))
def pairB : Option S65 → S65 → Bool
  | none, p => !(p.f0.toList == []) && (decide (p.f0.size ≤ 32) && decide (p.f1.size ≤ 48))
  | some q, p => !(p.f0.toList == []) && (decide (p.f0.size ≤ 32) && (decide (p.f1.size ≤ 48) && Op.bytesLess q.f0.toList p.f0.toList))
def fitL : Option S65 → List S65 → Bool
  | _, [] => true
  | q, p :: l => pairB q p && fitL (some p) l
def prevS (l : List S65) : Nat → Option S65
  | 0 => none
  | i + 1 => l[i]?
theorem wr3 (a b c : Int) : wrap64 (wrap64 (wrap64 (a + 6) + b) + c) = wrap64 (a + 6 + b + c) := by unfold wrap64; omega
theorem wr3' (a b c : Int) : wrap64 (a + wrap64 (wrap64 (6 + b) + c)) = wrap64 (a + 6 + b + c) := by unfold wrap64; omega
theorem refsize_tells (l : List S65) (hl : l.length ≤ 140737488351232) : ∀ (d k i : Nat) (s : Int), i + d = l.length → d < k → cisternref07_size.l0 k l s (i : Int) = some (sizeS (l.drop i) s) := by
  intro d
  induction d with
  | zero =>
    intro k i s hi hk
    obtain ⟨k, rfl⟩ : ∃ m, k = m + 1 := ⟨k - 1, by omega⟩
    simp only [cisternref07_size.l0]
    rw [if_neg (by omega), List.drop_of_length_le (by omega)]
    rfl
  | succ d ih =>
    intro k i s hi hk
    obtain ⟨k, rfl⟩ : ∃ m, k = m + 1 := ⟨k - 1, by omega⟩
    have hil : i < l.length := by omega
    simp only [cisternref07_size.l0]
    rw [if_pos (by omega), List.drop_eq_getElem_cons hil]
    simp only [sizeS]
    by_cases hs : s > 60000
    · rw [if_neg (by omega), if_pos hs]
    · rw [if_pos (by omega), if_pos (by omega), if_neg hs, wsuc i (by omega), rd65_get l i hil, wr3]
      exact ih k (i + 1) _ (by omega) (by omega)
theorem refsize_val (l : List S65) (hl : l.length ≤ 140737488351232) (k : Nat) (hk : l.length < k) : cisternref07_size.f k l = some (sizeS l 22) := refsize_tells l hl l.length k 0 22 (by omega) hk
theorem fit_step (l : List S65) (i : Nat) (h : i < l.length) : fitL (prevS l i) (l.drop i) = (pairB (prevS l i) l[i] && fitL (prevS l (i + 1)) (l.drop (i + 1))) := by
  rw [List.drop_eq_getElem_cons h]
  simp only [fitL, prevS, List.getElem?_eq_getElem h]
theorem reffit_tells (l : List S65) (hl : l.length ≤ 140737488351232) : ∀ (d k i : Nat), i + d = l.length → d < k → cisternref07_Fit.l0 k l (i : Int) = some (fitL (prevS l i) (l.drop i)) := by
  intro d
  induction d with
  | zero =>
    intro k i hi hk
    obtain ⟨k, rfl⟩ : ∃ m, k = m + 1 := ⟨k - 1, by omega⟩
    simp only [cisternref07_Fit.l0]
    rw [if_neg (by omega), List.drop_of_length_le (by omega)]
    cases prevS l i <;> rfl
  | succ d ih =>
    intro k i hi hk
    obtain ⟨k, rfl⟩ : ∃ m, k = m + 1 := ⟨k - 1, by omega⟩
    have hil : i < l.length := by omega
    have IH := ih k (i + 1) (by omega) (by omega)
    simp only [cisternref07_Fit.l0]
    rw [if_pos (by omega), if_pos (by omega), wsuc i (by omega), rd65_get l i hil, IH, fit_step l i hil]
    by_cases h1 : l[i].f0.toList = []
    · rw [if_pos h1]; cases prevS l i <;> simp [pairB, h1]
    · rw [if_neg h1]
      have b1 : (l[i].f0.toList == []) = false := by simpa using h1
      by_cases h2 : l[i].f0.size ≤ 32
      · rw [if_neg (by omega)]
        by_cases h3 : l[i].f1.size ≤ 48
        · rw [if_neg (by omega)]
          cases i with
          | zero => rw [if_neg (by simp)]; simp [pairB, prevS, b1, h2, h3]
          | succ j =>
            rw [if_pos (by omega), wpre j (by omega), if_pos (by omega), if_pos (by omega), rd65_get l j (by omega)]
            simp only [prevS, List.getElem?_eq_getElem (show j < l.length by omega), pairB, b1, h2, h3, Bool.not_false, decide_true, Bool.true_and]
            cases Op.bytesLess l[j].f0.toList l[j + 1].f0.toList <;> simp
        · rw [if_pos (by omega)]; cases prevS l i <;> simp [pairB, h3]
      · rw [if_pos (by omega)]; cases prevS l i <;> simp [pairB, h2]
theorem reffit_val (l : List S65) (hl : l.length ≤ 140737488351232) (k : Nat) (hk : l.length < k) : cisternref07_Fit.f k l = some (fitL none l) := by
  have := reffit_tells l hl l.length k 0 (by omega) hk
  exact this
theorem recfit_tells (l : List S65) (hl : l.length ≤ 140737488351232) : ∀ (d k i : Nat), i + d = l.length → d < k → record_fit.l0 k l l (l.length : Int) (i : Int) = some (fitL (prevS l i) (l.drop i)) := by
  intro d
  induction d with
  | zero =>
    intro k i hi hk
    obtain ⟨k, rfl⟩ : ∃ m, k = m + 1 := ⟨k - 1, by omega⟩
    simp only [record_fit.l0]
    rw [if_neg (by omega), List.drop_of_length_le (by omega)]
    cases prevS l i <;> rfl
  | succ d ih =>
    intro k i hi hk
    obtain ⟨k, rfl⟩ : ∃ m, k = m + 1 := ⟨k - 1, by omega⟩
    have hil : i < l.length := by omega
    have IH := ih k (i + 1) (by omega) (by omega)
    simp only [record_fit.l0]
    rw [if_pos (by omega), if_pos (by omega), if_pos (by omega), wsuc i (by omega), rd65_get l i hil, IH, fit_step l i hil]
    by_cases h1 : l[i].f0.toList = []
    · rw [if_pos h1]; cases prevS l i <;> simp [pairB, h1]
    · rw [if_neg h1]
      have b1 : (l[i].f0.toList == []) = false := by simpa using h1
      by_cases h2 : l[i].f0.size ≤ 32
      · rw [if_neg (by omega)]
        by_cases h3 : l[i].f1.size ≤ 48
        · rw [if_neg (by omega)]
          cases i with
          | zero => rw [if_neg (by simp)]; simp [pairB, prevS, b1, h2, h3]
          | succ j =>
            rw [if_pos (by omega), wpre j (by omega), if_pos (by omega), if_pos (by omega), rd65_get l j (by omega)]
            simp only [prevS, List.getElem?_eq_getElem (show j < l.length by omega), pairB, b1, h2, h3, Bool.not_false, decide_true, Bool.true_and]
            cases Op.bytesLess l[j].f0.toList l[j + 1].f0.toList <;> simp
        · rw [if_pos (by omega)]; cases prevS l i <;> simp [pairB, h3]
      · rw [if_pos (by omega)]; cases prevS l i <;> simp [pairB, h2]
theorem recfit_val (l : List S65) (hl : l.length ≤ 140737488351232) (k : Nat) (hk : l.length < k) : record_fit.f k l = some (fitL none l) :=
  recfit_tells l hl l.length k 0 (by omega) hk
theorem fitL_each : ∀ (l : List S65) (q : Option S65), fitL q l = true → ∀ p ∈ l, p.f0.size ≤ 32 ∧ p.f1.size ≤ 48
  | [], _, _, _, h => by cases h
  | p :: l, q, h, x, hx => by
    simp only [fitL, Bool.and_eq_true] at h
    rcases List.mem_cons.1 hx with rfl | hx
    · have := h.1
      cases q <;> simp [pairB] at this <;> omega
    · exact fitL_each l (some p) h.2 x hx
def itemsP (n : Int) (l : List S65) : List S77 := numI [4, n] ++ pairsI l
theorem itemsP_len (n : Int) (l : List S65) : (itemsP n l).length = 2 + 2 * l.length := by
  unfold itemsP; rw [List.length_append, pairsI_len]; rfl
theorem itemsP_mem {n : Int} {l : List S65} {x : S77} (h : x ∈ itemsP n l) : x = ⟨1, 4, ⟨#[]⟩⟩ ∨ x = ⟨1, n, ⟨#[]⟩⟩ ∨ ∃ p ∈ l, x = ⟨2, 0, p.f0⟩ ∨ x = ⟨2, 0, p.f1⟩ := by
  have hp : ∀ (l : List S65), x ∈ pairsI l → ∃ p ∈ l, x = ⟨2, 0, p.f0⟩ ∨ x = ⟨2, 0, p.f1⟩ := by
    intro l
    induction l with
    | nil => intro h; cases h
    | cons p l ih =>
      intro h
      rcases List.mem_cons.1 h with h | h
      · exact ⟨p, List.mem_cons_self, Or.inl h⟩
      rcases List.mem_cons.1 h with h | h
      · exact ⟨p, List.mem_cons_self, Or.inr h⟩
      obtain ⟨q, hq, e⟩ := ih h
      exact ⟨q, List.mem_cons_of_mem _ hq, e⟩
  rcases List.mem_append.1 h with h | h
  · simp only [numI, List.map_cons, List.map_nil, List.mem_cons, List.not_mem_nil, or_false] at h
    rcases h with h | h
    · exact Or.inl h
    · exact Or.inr (Or.inl h)
  · exact Or.inr (Or.inr (hp l h))
theorem itemsP_check (n : Int) (l : List S65) (hl : l.length ≤ 1900) (hf : fitL none l = true) : pack_checkV (itemsP n l) = 0 := by
  refine (checkV_iff _).2 ⟨by rw [itemsP_len]; omega, fun x hx => ?_⟩
  rcases itemsP_mem hx with rfl | rfl | ⟨p, hp, rfl | rfl⟩
  · exact ⟨by simp [okB, toList_data], by simp [longB]⟩
  · exact ⟨by simp [okB, toList_data], by simp [longB]⟩
  · have := fitL_each l none hf p hp
    exact ⟨by simp [okB], by simp [longB]; omega⟩
  · have := fitL_each l none hf p hp
    exact ⟨by simp [okB], by simp [longB]; omega⟩
theorem itemsP_enc (n : Int) (l : List S65) (hf : fitL none l = true) : (encL (itemsP n l)).length ≤ 18 + 86 * l.length := by
  have hp : ∀ (l : List S65), (∀ p ∈ l, p.f0.size ≤ 32 ∧ p.f1.size ≤ 48) → (encL (pairsI l)).length ≤ 86 * l.length := by
    intro l
    induction l with
    | nil => intro _; simp [pairsI, encL]
    | cons p l ih =>
      intro h
      have h1 := h p List.mem_cons_self
      have h2 := ih (fun q hq => h q (List.mem_cons_of_mem _ hq))
      simp only [pairsI, encL_cons, List.length_append, List.length_cons]
      have e1 : (encI (⟨2, 0, p.f0⟩ : S77)).length = 3 + p.f0.size := by simp [encI, leB_length, bytesOf_length]; omega
      have e2 : (encI (⟨2, 0, p.f1⟩ : S77)).length = 3 + p.f1.size := by simp [encI, leB_length, bytesOf_length]; omega
      omega
  have h3 := hp l (fitL_each l none hf)
  unfold itemsP
  rw [encL_append, List.length_append]
  have : (encL (numI [4, n])).length = 18 := by simp [numI, encL_cons, encI_num, encL]
  omega
def blobL (n : Int) (l : List S65) : List Int := sealL (encL (itemsP n l))
def encT (n : Int) (l : List S65) (s : Int) : List Int × Int := if l.length > 1900 ∨ s > 60000 then ([], 14) else if n < 0 ∨ fitL none l = false then ([], 2) else (blobL n l, 0)
def encPV (n : Int) (l : List S65) : List Int × Int := encT n l (sizeS l 22)
theorem recitems_tells (n : Int) (l : List S65) (hl : l.length ≤ 1900) (hf : fitL none l = true) : ∀ (d k i : Nat), i + d = l.length → d + 3000000 < k → record_EncodePairs.l1 k (itemsP n (l.take i)) l (l.length : Int) (i : Int) = some (blobL n l, 0) := by
  have hck := itemsP_check n l hl hf
  have hen := itemsP_enc n l hf
  intro d
  induction d with
  | zero =>
    intro k i hi hk
    obtain ⟨k, rfl⟩ : ∃ m, k = m + 1 := ⟨k - 1, by omega⟩
    simp only [record_EncodePairs.l1]
    have e1 : pack_Encode.f (itemsP n l) = some (encL (itemsP n l), 0) := by rw [encode_some, if_pos hck, hck]
    rw [if_neg (by omega), List.take_of_length_le (by omega), e1, Option.bind_some, if_pos rfl, sealK _ (encL_byteL _) (by omega) k (by omega)]
    rfl
  | succ d ih =>
    intro k i hi hk
    obtain ⟨k, rfl⟩ : ∃ m, k = m + 1 := ⟨k - 1, by omega⟩
    have hil : i < l.length := by omega
    simp only [record_EncodePairs.l1, record_text.f]
    rw [if_pos (by omega), if_pos (by omega), if_pos (by omega), Option.bind_some, Option.bind_some, Option.bind_some]
    rw [if_pos (by rw [itemsP_len, List.length_take]; simp; omega), wsuc i (by omega), rd65_get l i hil]
    have e : itemsP n (l.take i) ++ [⟨2, 0, l[i].f0⟩, ⟨2, 0, l[i].f1⟩] = itemsP n (l.take (i + 1)) := by
      rw [List.take_succ_eq_append_getElem hil, itemsP, itemsP, pairsI_append, List.append_assoc]
      rfl
    rw [e]
    exact ih k (i + 1) (by omega) (by omega)
theorem recj2_val (n : Int) (l : List S65) (hl : l.length ≤ 140737488351232) (big : Bool) (hb : big = true ∨ l.length ≤ 1900) (k : Nat) (hk : l.length + 3100000 ≤ k) :
    record_EncodePairs.j2 k n l big = some (if big = true then ([], 14) else if n < 0 ∨ fitL none l = false then ([], 2) else (blobL n l, 0)) := by
  obtain ⟨k, rfl⟩ : ∃ m, k = m + 1 := ⟨k - 1, by omega⟩
  simp only [record_EncodePairs.j2]
  by_cases h1 : big = true
  · rw [if_pos h1, if_pos h1]
  rw [if_neg h1, if_neg h1]
  have hl2 := hb.resolve_left h1
  by_cases h2 : n < 0
  · rw [if_pos h2, if_pos (Or.inl h2)]
  rw [if_neg h2, recfit_val l hl k (by omega), Option.bind_some]
  cases hf : fitL none l with
  | false => rw [if_neg (by simp), if_pos (Or.inr rfl)]
  | true =>
    rw [if_pos rfl, if_neg (by simp; omega), numbers_val [4, n] (by simp) k (by simp; omega), Option.bind_some]
    have := recitems_tells n l hl2 hf l.length k 0 (by omega) (by omega)
    rw [List.take_zero] at this
    exact this
theorem recj1_val (n : Int) (l : List S65) (hl : l.length ≤ 140737488351232) (s : Int) (k : Nat) (hk : l.length + 3100001 ≤ k) :
    record_EncodePairs.j1 k n l s = some (encT n l s) := by
  obtain ⟨k, rfl⟩ : ∃ m, k = m + 1 := ⟨k - 1, by omega⟩
  simp only [record_EncodePairs.j1]
  unfold encT
  by_cases h1 : l.length > 1900
  · rw [if_pos (by omega), recj2_val n l hl true (Or.inl rfl) k (by omega), if_pos rfl, if_pos (Or.inl h1)]
  rw [if_neg (by omega), recj2_val n l hl _ (Or.inr (by omega)) k (by omega)]
  by_cases h2 : s > 60000
  · rw [if_pos (by simpa using h2), if_pos (Or.inr h2)]
  · rw [if_neg (by simpa using h2), if_neg (show ¬ (l.length > 1900 ∨ s > 60000) by omega)]
theorem recsize_tells (n : Int) (l : List S65) (hl : l.length ≤ 140737488351232) : ∀ (d k i : Nat) (s : Int), i + d = l.length → d + l.length + 3100002 ≤ k →
    record_EncodePairs.l0 k n l s l (l.length : Int) (i : Int) = some (encT n l (sizeS (l.drop i) s)) := by
  intro d
  induction d with
  | zero =>
    intro k i s hi hk
    obtain ⟨k, rfl⟩ : ∃ m, k = m + 1 := ⟨k - 1, by omega⟩
    simp only [record_EncodePairs.l0]
    rw [if_neg (by omega), List.drop_of_length_le (by omega)]
    exact recj1_val n l hl s k (by omega)
  | succ d ih =>
    intro k i s hi hk
    obtain ⟨k, rfl⟩ : ∃ m, k = m + 1 := ⟨k - 1, by omega⟩
    have hil : i < l.length := by omega
    simp only [record_EncodePairs.l0]
    rw [if_pos (by omega), if_pos (by omega), if_pos (by omega), List.drop_eq_getElem_cons hil]
    simp only [sizeS]
    by_cases hs : s > 60000
    · rw [if_pos hs, if_pos hs]
      exact recj1_val n l hl s k (by omega)
    · rw [if_neg hs, if_neg hs, wsuc i (by omega), rd65_get l i hil, wr3']
      exact ih k (i + 1) _ (by omega) (by omega)
theorem encodepairs_val (n : Int) (l : List S65) (hl : l.length ≤ 140737488351232) (k : Nat) (hk : 2 * l.length + 3200000 ≤ k) : record_EncodePairs.f k n l = some (encPV n l) :=
  recsize_tells n l hl l.length k 0 22 (by omega) (by omega)
theorem refitems_tells (n : Int) (l : List S65) (hl : l.length ≤ 1900) (hf : fitL none l = true) : ∀ (d k i : Nat), i + d = l.length → d + 3000000 < k → cisternref07_pairsOf.l0 k l (itemsP n (l.take i)) (i : Int) = some (strOfNums (blobL n l)) := by
  have hck := itemsP_check n l hl hf
  have hen := itemsP_enc n l hf
  intro d
  induction d with
  | zero =>
    intro k i hi hk
    obtain ⟨k, rfl⟩ : ∃ m, k = m + 1 := ⟨k - 1, by omega⟩
    simp only [cisternref07_pairsOf.l0]
    have e0 : cisternref03_Encode.f (itemsP n l) = some (strOfNums (encL (itemsP n l))) := by unfold cisternref03_Encode.f; rw [if_pos (check_ok hck).1]
    rw [if_neg (by omega), List.take_of_length_le (by omega), e0, Option.bind_some, refseal_val _ (by rw [size_strOfNums]; omega) k (by rw [size_strOfNums]; omega), bytesOf_strOfNums _ (encL_byteL _), Option.bind_some]
    rfl
  | succ d ih =>
    intro k i hi hk
    obtain ⟨k, rfl⟩ : ∃ m, k = m + 1 := ⟨k - 1, by omega⟩
    have hil : i < l.length := by omega
    simp only [cisternref07_pairsOf.l0]
    rw [if_pos (by omega), if_pos (by omega), Option.bind_some]
    rw [if_pos (by rw [itemsP_len, List.length_take]; simp; omega), wsuc i (by omega), rd65_get l i hil]
    have e : itemsP n (l.take i) ++ [⟨2, 0, l[i].f0⟩, ⟨2, 0, l[i].f1⟩] = itemsP n (l.take (i + 1)) := by
      rw [List.take_succ_eq_append_getElem hil, itemsP, itemsP, pairsI_append, List.append_assoc]
      rfl
    rw [e]
    exact ih k (i + 1) (by omega) (by omega)
theorem docj0_val (n : Int) (l : List S65) (hl : l.length ≤ 140737488351232) (big : Bool) (hb : big = true ∨ l.length ≤ 1900) (k : Nat) (hk : l.length + 3100000 ≤ k) :
    cisternref07_DocEncodePairs.j0 k n l big = some (if big = true then (⟨#[]⟩, 14) else if n < 0 ∨ fitL none l = false then (⟨#[]⟩, 2) else (strOfNums (blobL n l), 0)) := by
  obtain ⟨k, rfl⟩ : ∃ m, k = m + 1 := ⟨k - 1, by omega⟩
  simp only [cisternref07_DocEncodePairs.j0]
  by_cases h1 : big = true
  · rw [if_pos h1, if_pos h1]
  rw [if_neg h1, if_neg h1]
  have hl2 := hb.resolve_left h1
  by_cases h2 : n < 0
  · rw [if_pos h2, if_pos (Or.inl h2)]
  rw [if_neg h2, reffit_val l hl k (by omega), Option.bind_some]
  cases hf : fitL none l with
  | false => rw [if_neg (by simp), if_pos (Or.inr rfl)]
  | true =>
    rw [if_pos rfl, if_neg (by simp; omega)]
    have e : cisternref07_pairsOf.f k n l = some (strOfNums (blobL n l)) := refitems_tells n l hl2 hf l.length k 0 (by omega) (by omega)
    rw [e, Option.bind_some]
theorem docencodepairs_val (n : Int) (l : List S65) (hl : l.length ≤ 140737488351232) (k : Nat) (hk : 2 * l.length + 3200000 ≤ k) : cisternref07_DocEncodePairs.f k n l = some (strOfNums (encPV n l).1, (encPV n l).2) := by
  unfold cisternref07_DocEncodePairs.f encPV encT
  by_cases h1 : l.length > 1900
  · rw [if_pos (by omega), docj0_val n l hl true (Or.inl rfl) k (by omega), if_pos rfl, if_pos (Or.inl h1)]
    rfl
  rw [if_neg (by omega), refsize_val l hl k (by omega), Option.bind_some, docj0_val n l hl _ (Or.inr (by omega)) k (by omega)]
  by_cases h2 : sizeS l 22 > 60000
  · rw [if_pos (by simpa using h2), if_pos (Or.inr h2)]
    rfl
  · rw [if_neg (by simpa using h2), if_neg (show ¬ (l.length > 1900 ∨ sizeS l 22 > 60000) by omega)]
    by_cases h3 : n < 0 ∨ fitL none l = false
    · rw [if_pos h3, if_pos h3]; rfl
    · rw [if_neg h3, if_neg h3]
end
end Go.Proofs.YtmkkeccmjejfnaaDoor.PA
namespace Go.Proofs.YtmkkeccmjejfnaaDoor.PA
section

open Go.RowKit Go.Proofs.YtmkkeccmjejfnaaDoorW.PrintWords Go.Proofs.YtmkkeccmjejfnaaDoorW.PrintLast Go.Proofs.YtmkkeccmjejfnaaDoorW.PrintMore
set_option linter.unusedVariables false
set_option linter.unusedSimpArgs false
theorem itemsP_wf (n : Int) (l : List S65) (hn : wf64 n) : ∀ x ∈ itemsP n l, wfI x := by
  intro x hx
  rcases itemsP_mem hx with rfl | rfl | ⟨p, _, rfl | rfl⟩
  · exact (by decide : (Lit.int .i64 4).wf = true)
  · exact wf64_iff.2 hn
  · exact (by decide : (Lit.int .i64 0).wf = true)
  · exact (by decide : (Lit.int .i64 0).wf = true)
theorem unseal_blob (n : Int) (l : List S65) (hl : l.length ≤ 1900) (hf : fitL none l = true) (hn : wf64 n) : unsealV (blobL n l) = (itemsP n l, 0) := by
  unfold unsealV blobL
  rw [openL_seal _ (encL_byteL _), if_pos rfl]
  exact decF_enc _ (itemsP_check n l hl hf) (itemsP_wf n l hn)
theorem blobL_byteL (n : Int) (l : List S65) : byteL (blobL n l) := sealL_byteL (encL_byteL _)
def pairUp : List S77 → List S65
  | a :: b :: r => ⟨a.f2, b.f2⟩ :: pairUp r
  | _ => []
def endP (b : List Int) (n : Int) (out : List S65) : Int × List S65 × Int :=
  if (encPV n out).2 = 0 ∧ (encPV n out).1 = b then (n, out, 0) else (0, [], 2)
theorem encPV_byteL (n : Int) (l : List S65) : byteL (encPV n l).1 := by
  unfold encPV encT
  split
  · intro x hx; cases hx
  · split
    · intro x hx; cases hx
    · exact blobL_byteL n l
theorem encPV_ok {n : Int} {l : List S65} (h : (encPV n l).2 = 0) : l.length ≤ 1900 ∧ 0 ≤ n ∧ fitL none l = true ∧ (encPV n l).1 = blobL n l := by
  unfold encPV encT at h ⊢
  split at h
  · simp at h
  · rename_i h1
    split at h
    · simp at h
    · rename_i h2
      rw [if_neg h1, if_neg h2]
      refine ⟨by omega, by omega, ?_, rfl⟩
      cases hf : fitL none l
      · exact absurd (Or.inr hf) h2
      · rfl
theorem docend_val (b : List Int) (hb : byteL b) (n : Int) (out : List S65) (ho : out.length ≤ 4000) (k : Nat) (hk : 4000000 ≤ k) :
    ((cisternref07_DocEncodePairs.f k n out).bind fun bt428 => (if bt428.2 = 0 then (if bt428.1.toList = (strOfNums b).toList then (some (n, out, (0 : Int))) else (some ((0 : Int), ([] : List (S65)), (2 : Int)))) else (some (0, ([] : List (S65)), 2)))) = some (endP b n out) := by
  rw [docencodepairs_val n out (by omega) k (by omega), Option.bind_some]
  unfold endP
  by_cases h1 : (encPV n out).2 = 0
  · rw [if_pos h1]
    by_cases h2 : (encPV n out).1 = b
    · rw [if_pos (by rw [h2]), if_pos ⟨h1, h2⟩]
    · rw [if_neg (fun h => h2 (strOfNums_inj (encPV_byteL n out) hb (toList_inj'.1 h))), if_neg (fun h => h2 h.2)]
  · rw [if_neg h1, if_neg (fun h => h1 h.1)]
theorem recend_val (b : List Int) (hb : byteL b) (n : Int) (out : List S65) (ho : out.length ≤ 4000) (k : Nat) (hk : 4000000 ≤ k) :
    ((record_EncodePairs.f k n out).bind fun bt445 => (if bt445.2 = 0 then ((bytes_Equal.f bt445.1 b).bind fun t449 => (if t449 = true then (some (n, out, (0 : Int))) else (some ((0 : Int), ([] : List (S65)), (2 : Int))))) else (some (0, ([] : List (S65)), 2)))) = some (endP b n out) := by
  rw [encodepairs_val n out (by omega) k (by omega), Option.bind_some]
  unfold endP bytes_Equal.f
  by_cases h1 : (encPV n out).2 = 0
  · rw [if_pos h1, Option.bind_some]
    by_cases h2 : (encPV n out).1 = b
    · rw [if_pos (by rw [h2]; simp), if_pos ⟨h1, h2⟩]
    · rw [if_neg (fun h => h2 (strOfNums_inj (encPV_byteL n out) hb (toList_inj'.1 (by simpa using h)))), if_neg (fun h => h2 h.2)]
  · rw [if_neg h1, if_neg (fun h => h1 h.1)]
theorem pairUp_short : ∀ l : List S77, l.length ≤ 1 → pairUp l = []
  | [], _ => rfl
  | [_], _ => rfl
  | _ :: _ :: _, h => by simp at h
theorem drop_two {α : Type} (l : List α) (i : Nat) (h : i + 1 < l.length) : l.drop i = l[i] :: l[i + 1] :: l.drop (i + 2) := by
  rw [List.drop_eq_getElem_cons (by omega), List.drop_eq_getElem_cons (show i + 1 < l.length by omega)]
theorem wsuc2 (i : Nat) (h : i ≤ 9223372036854775800) : wrap64 ((i : Int) + 2) = ((i + 2 : Nat) : Int) := by unfold wrap64; omega
def valP (b : List Int) (its : List S77) (out : List S65) : Int × List S65 × Int := if its.length < 2 then (0, [], 2) else endP b ((its.getD 1 ⟨0, 0, ⟨#[]⟩⟩).f1) out
theorem docpairs_tells (b : List Int) (hb : byteL b) (its : List S77) (hl : its.length ≤ 4000) : ∀ (d k i : Nat) (out : List S65), its.length ≤ i + d → i ≤ 5000 → d + 4000010 < k → out.length ≤ i →
    out.length + (its.length - i) ≤ 4000 → cisternref07_DocDecodePairs.l0 k (strOfNums b) its out (i : Int) = some (valP b its (out ++ pairUp (its.drop i))) := by
  intro d
  induction d using Nat.strongRecOn with
  | _ d ih =>
    intro k i out hi h5 hk hn ho
    obtain ⟨k, rfl⟩ : ∃ m, k = m + 1 := ⟨k - 1, by omega⟩
    simp only [cisternref07_DocDecodePairs.l0]
    by_cases hc : i + 1 < its.length
    · rw [if_pos (by unfold wrap64; omega), if_pos (by omega), if_pos (by omega), wsuc i (by omega), if_pos (by omega), if_pos (by omega), if_pos (by omega), wsuc2 i (by omega), rd77_get its i (by omega), rd77_get its (i + 1) hc]
      rw [ih (d - 2) (by omega) k (i + 2) _ (by omega) (by omega) (by omega) (by simp; omega) (by simp; omega), drop_two its i hc]
      simp only [pairUp, List.append_assoc, List.cons_append, List.nil_append]
    · rw [if_neg (by unfold wrap64; omega), pairUp_short _ (by simp; omega), List.append_nil]
      unfold valP
      by_cases h2 : its.length < 2
      · rw [if_pos (by omega), if_pos h2]
      · rw [if_neg (by omega), if_neg h2, if_pos (by omega)]
        exact docend_val b hb _ out (by omega) k (by omega)
def textsB (l : List S77) : Bool := l.all (fun x => x.f0 == 2)
def valT (b : List Int) (its l : List S77) (out : List S65) : Int × List S65 × Int := if textsB l = true then valP b its (out ++ pairUp l) else (0, [], 2)
theorem valT_nil (b : List Int) (its : List S77) (out : List S65) : valT b its [] out = valP b its out := by simp [valT, textsB, pairUp]
theorem texts_cons (x y : S77) (r : List S77) : textsB (x :: y :: r) = (x.f0 == 2 && (y.f0 == 2 && textsB r)) := rfl
theorem valT_cons (b : List Int) (its : List S77) (x y : S77) (r : List S77) (out : List S65) : valT b its (x :: y :: r) out = if x.f0 = 2 ∧ y.f0 = 2 then valT b its r (out ++ [⟨x.f2, y.f2⟩]) else (0, [], 2) := by
  unfold valT
  rw [texts_cons]
  by_cases h1 : x.f0 = 2
  · by_cases h2 : y.f0 = 2
    · simp only [h1, h2, beq_self_eq_true, Bool.true_and, and_self, if_true, pairUp, List.append_assoc, List.cons_append, List.nil_append]
    · simp [h2]
  · simp [h1]
theorem recpairs_tells (b : List Int) (hb : byteL b) (its : List S77) (hl : its.length ≤ 4000) (h2 : 2 ≤ its.length) : ∀ (d k i : Nat) (out : List S65), its.length = i + 2 * d → i ≤ 5000 → 2 * d + 4000010 < k → out.length ≤ i →
    out.length + (its.length - i) ≤ 4000 → record_DecodePairs.l0 k b its out (i : Int) = some (valT b its (its.drop i) out) := by
  intro d
  induction d with
  | zero =>
    intro k i out hi h5 hk hn ho
    obtain ⟨k, rfl⟩ : ∃ m, k = m + 1 := ⟨k - 1, by omega⟩
    simp only [record_DecodePairs.l0]
    rw [if_neg (by omega), List.drop_of_length_le (by omega), valT_nil, if_pos (by omega)]
    unfold valP
    rw [if_neg (by omega)]
    exact recend_val b hb _ out (by omega) k (by omega)
  | succ d ih =>
    intro k i out hi h5 hk hn ho
    obtain ⟨k, rfl⟩ : ∃ m, k = m + 1 := ⟨k - 1, by omega⟩
    have hc : i + 1 < its.length := by omega
    simp only [record_DecodePairs.l0]
    rw [if_pos (by omega), if_pos (by omega), wsuc i (by omega), rd77_get its i (by omega), rd77_get its (i + 1) hc, drop_two its i hc]
    rw [valT_cons]
    by_cases g1 : its[i].f0 = 2
    · rw [if_pos g1, if_pos (by omega), if_pos (by omega)]
      by_cases g2 : its[i + 1].f0 = 2
      · rw [if_pos g2, if_pos (by omega), wsuc2 i (by omega), if_pos ⟨g1, g2⟩]
        exact ih k (i + 2) _ (by omega) (by omega) (by omega) (by simp; omega) (by simp; omega)
      · rw [if_neg g2, if_neg (fun h => g2 h.2)]
    · rw [if_neg g1, if_neg (fun h => g1 h.1)]
def docPV (b : List Int) : Int × List S65 × Int := if (unsealV b).2 = 0 then valP b (unsealV b).1 (pairUp ((unsealV b).1.drop 2)) else (0, [], (unsealV b).2)
theorem docdecodepairs_val (b : List Int) (hb : byteL b) (hl : b.length ≤ 140737488351232) (k : Nat) (hk : 10 * b.length + 5000000 ≤ k) : cisternref07_DocDecodePairs.f k (strOfNums b) = some (docPV b) := by
  have hle := unsealV_le b hb
  unfold cisternref07_DocDecodePairs.f docPV
  rw [refunpacked_val b hb hl k (by omega), Option.bind_some]
  by_cases h : (unsealV b).2 = 0
  · rw [if_pos h, if_pos h]
    have := docpairs_tells b hb (unsealV b).1 hle 4000 k 2 [] (by omega) (by omega) (by omega) (by simp) (by simp; omega)
    simpa using this
  · rw [if_neg h, if_neg h]
theorem valP_tells {b : List Int} (hb : byteL b) {its : List S77} (hu : unsealV b = (its, 0)) :
    valP b its (pairUp (its.drop 2)) = (0, [], 2) ∨ ∃ n out, its = itemsP n out ∧ wf64 n ∧ 0 ≤ n ∧ out.length ≤ 1900 ∧ fitL none out = true ∧ b = blobL n out ∧ (encPV n out).2 = 0 ∧ valP b its (pairUp (its.drop 2)) = (n, out, 0) := by
  unfold valP
  by_cases h2 : its.length < 2
  · exact Or.inl (if_pos h2)
  rw [if_neg h2]
  have hw : wf64 (its.getD 1 ⟨0, 0, ⟨#[]⟩⟩).f1 := by
    have h := unsealV_wf hb
    rw [hu] at h
    have hm : its[1]'(by omega) ∈ its := List.getElem_mem _
    rw [List.getD_eq_getElem?_getD, List.getElem?_eq_getElem (by omega), Option.getD_some]
    exact wf64_iff.1 (h _ hm)
  generalize (its.getD 1 ⟨0, 0, ⟨#[]⟩⟩).f1 = n at hw ⊢
  generalize pairUp (its.drop 2) = out
  unfold endP
  by_cases h3 : (encPV n out).2 = 0 ∧ (encPV n out).1 = b
  · obtain ⟨h4, h5, h6, h7⟩ := encPV_ok h3.1
    have hbb : b = blobL n out := by rw [← h3.2, h7]
    have := unseal_blob n out h4 h6 hw
    rw [← hbb, hu] at this
    exact Or.inr ⟨n, out, (Prod.mk.inj this).1, hw, h5, h4, h6, hbb, h3.1, if_pos h3⟩
  · exact Or.inl (if_neg h3)
theorem pairsI_texts : ∀ l : List S65, textsB (pairsI l) = true
  | [] => rfl
  | p :: l => by have := pairsI_texts l; simp only [textsB, pairsI, List.all_cons] at this ⊢; simp [this]
theorem decodepairs_val (b : List Int) (hb : byteL b) (hl : b.length ≤ 140737488351232) (k : Nat) (hk : 10 * b.length + 5000000 ≤ k) : record_DecodePairs.f k b = some (docPV b) := by
  have hle := unsealV_le b hb
  unfold record_DecodePairs.f docPV
  rw [unseal_val b hb hl k (by omega), Option.bind_some]
  by_cases h : (unsealV b).2 = 0
  · rw [if_pos h, if_pos h]
    obtain ⟨its, hu⟩ : ∃ its, unsealV b = (its, 0) := ⟨(unsealV b).1, by rw [← h]⟩
    have HV := valP_tells hb hu
    simp only [hu] at hle ⊢
    have J1 : record_DecodePairs.j0 k b its true = some (0, [], 2) := by
      obtain ⟨k, rfl⟩ : ∃ m, k = m + 1 := ⟨k - 1, by omega⟩
      simp only [record_DecodePairs.j0]
      rw [if_pos trivial]
    have J0 : 2 ≤ its.length → its.length % 2 = 0 → record_DecodePairs.j0 k b its false = some (valT b its (its.drop 2) []) := by
      intro h2 hev
      obtain ⟨k, rfl⟩ : ∃ m, k = m + 1 := ⟨k - 1, by omega⟩
      simp only [record_DecodePairs.j0]
      rw [if_neg (by simp)]
      exact recpairs_tells b hb its hle h2 ((its.length - 2) / 2) k 2 [] (by omega) (by omega) (by omega) (by simp) (by simp; omega)
    rcases HV with HV | ⟨n, out, e, hw, h0, h19, hf, hbb, hok, HV⟩
    · rw [HV]
      by_cases h2 : (its.length : Int) < 2
      · rw [if_pos h2, J1]
      rw [if_neg h2]
      by_cases h3 : (its.length : Int) % 2 = 0
      · rw [if_pos h3, if_pos (by omega)]
        split
        · exact J1
        · rw [if_pos (by omega)]
          cases hq : ((rd_T77 its 1).f0 != 1)
          · rw [J0 (by omega) (by omega)]
            unfold valT
            rw [List.nil_append, HV]
            simp
          · exact J1
      · rw [if_neg h3, J1]
    · rw [HV]
      have hlen := itemsP_len n out
      have r0 : rd_T77 its 0 = ⟨1, 4, ⟨#[]⟩⟩ := by rw [e]; rfl
      have r1 : rd_T77 its 1 = ⟨1, n, ⟨#[]⟩⟩ := by rw [e]; rfl
      rw [← e] at hlen
      rw [if_neg (by omega), if_pos (by omega), if_pos (by omega), r0, r1, if_neg (by simp [toList_data]), if_pos (by omega)]
      rw [show ((1 : Int) != 1) = false by rfl, J0 (by omega) (by omega)]
      unfold valT
      have ed : its.drop 2 = pairsI out := by rw [e]; rfl
      rw [ed] at HV ⊢
      rw [if_pos (pairsI_texts out), List.nil_append, HV]
  · rw [if_neg h, if_neg h]
theorem samepairs_tells (l : List S65) (hl : l.length ≤ 140737488351232) : ∀ (d k i : Nat), i + d = l.length → d < k → cisternref07_SamePairs.l0 k l l (i : Int) = some true := by
  intro d
  induction d with
  | zero =>
    intro k i hi hk
    obtain ⟨k, rfl⟩ : ∃ m, k = m + 1 := ⟨k - 1, by omega⟩
    simp only [cisternref07_SamePairs.l0]
    rw [if_neg (by omega)]
  | succ d ih =>
    intro k i hi hk
    obtain ⟨k, rfl⟩ : ∃ m, k = m + 1 := ⟨k - 1, by omega⟩
    simp only [cisternref07_SamePairs.l0]
    rw [if_pos (by omega), if_pos (by omega), if_pos (by omega), if_neg (by simp), wsuc i (by omega)]
    exact ih k (i + 1) (by omega) (by omega)
theorem samepairs_val (l : List S65) (hl : l.length ≤ 140737488351232) (k : Nat) (hk : l.length < k) : cisternref07_SamePairs.f k l l = some true := by
  unfold cisternref07_SamePairs.f
  rw [if_pos rfl]
  exact samepairs_tells l hl l.length k 0 (by omega) hk
end
end Go.Proofs.YtmkkeccmjejfnaaDoor.PA
namespace Go.Proofs.YtmkkeccmjejfnaaDoor.PA
section

open Go.RowKit Go.Proofs.YtmkkeccmjejfnaaDoorW.PrintWords Go.Proofs.YtmkkeccmjejfnaaDoorW.PrintLast Go.Proofs.YtmkkeccmjejfnaaDoorW.PrintMore
set_option linter.unusedVariables false
set_option linter.unusedSimpArgs false
theorem docPV_len {b : List Int} (hb : byteL b) : (docPV b).2.1.length ≤ 1900 := by
  unfold docPV
  by_cases h : (unsealV b).2 = 0
  · rw [if_pos h]
    obtain ⟨its, hu⟩ : ∃ its, unsealV b = (its, 0) := ⟨(unsealV b).1, by rw [← h]⟩
    have HV := valP_tells hb hu
    simp only [hu]
    rcases HV with HV | ⟨n, out, _, _, _, h19, _, _, _, HV⟩
    · rw [HV]; simp
    · rw [HV]; exact h19
  · rw [if_neg h]; simp
set_option maxHeartbeats 1000000 in
set_option maxRecDepth 100000 in
theorem cisternlaw07_RecordPairs.walk (n : Int) (A1 : Option Addr) (c1 : Nat) (l1 : List S65) (A2 : Option Addr) (c2 : Nat) (l2 : List Int) (w : World) (_w0 : (Lit.int .i64 n).wf = true) (hr1 : Kd.C k65 w A1 l1.length l1) (hc1 : l1.length ≤ c1) (y1 : l1.length * 32 ≤ 140737488351232)
    (_w1 : ∀ v ∈ l1, (v.f0.size ≤ maxLen) ∧ (v.f1.size ≤ maxLen)) (hr2 : Kd.C (Kd.int .u8) w A2 l2.length l2) (hc2 : l2.length ≤ c2) (y2 : l2.length * 1 ≤ 140737488351232) (w2 : ∀ v ∈ l2, (Lit.int .u8 v).wf = true) :
    Calls Tryd.prog 5 #[.int .i64 n, .slice A1 l1.length c1, .slice A2 l2.length c2] w fun e w' => e = .returned (.bool true) ∧ Below w.heap.size w w' := by
  have W2 := Aside0.mk (wf_u8 w2)
  have R1 := Aside0.mk hr1
  have C1 := Aside0.mk hc1
  have R2 := Aside0.mk hr2
  have C2 := Aside0.mk hc2
  have hl1 : l1.length ≤ 140737488351232 := by omega
  have hl2 : l2.length ≤ 140737488351232 := by omega
  clear hr1 hc1 y1 _w0 _w1 hr2 hc2 y2 w2
  obtain ⟨K, hK⟩ : ∃ K, K = 10 * l2.length + 2 * l1.length + 9000000 := ⟨_, rfl⟩
  obtain ⟨x, y, hv⟩ : ∃ x y, encPV n l1 = (x, y) := ⟨_, _, rfl⟩
  have D0 : Aside0 (cisternref07_DocEncodePairs.f K n l1 = some (strOfNums x, y)) := ⟨by rw [docencodepairs_val n l1 hl1 K (by omega), hv]⟩
  have E0 : Aside0 (record_EncodePairs.f K n l1 = some (x, y)) := ⟨by rw [encodepairs_val n l1 hl1 K (by omega), hv]⟩
  obtain ⟨i, p, g, hd⟩ : ∃ i p g, docPV l2 = (i, p, g) := ⟨_, _, _, rfl⟩
  have D1 : Aside0 (cisternref07_DocDecodePairs.f K (strOfNums l2) = some (i, p, g)) := ⟨by rw [docdecodepairs_val l2 W2.out hl2 K (by omega), hd]⟩
  have E1 : Aside0 (record_DecodePairs.f K l2 = some (i, p, g)) := ⟨by rw [decodepairs_val l2 W2.out hl2 K (by omega), hd]⟩
  have hp : p.length ≤ 1900 := by have := docPV_len W2.out; rw [hd] at this; exact this
  have S1 : Aside0 (cisternref07_SamePairs.f K p p = some true) := ⟨samepairs_val p (by omega) K (by omega)⟩
  have KN : Aside0 (cisternlaw07_known.f K = some true) := ⟨known_val K (by omega)⟩
  clear hv hd hp hK
  go_enter Tryd.func5, Tryd.ntmps5
  go_wp2_with fail
  refine (cisternlaw07_known.calls K true _ KN.out).mono ?_
  rintro e wa ⟨rfl, hB⟩
  have BA := Aside0.mk hB
  clear hB
  go_wp2_with fail
  refine (cisternref07_DocEncodePairs.calls K n A1 c1 l1 (strOfNums x) y wa (Kd.C_below R1.out BA.out) C1.out D0.out).mono ?_
  rintro e wb ⟨rfl, hB⟩
  have BB := Aside0.mk (BA.out.trans (hB.mono BA.out.size))
  clear hB BA
  go_wp2_with fail
  refine (record_EncodePairs.calls K n A1 c1 l1 x y wb (Kd.C_below R1.out BB.out) C1.out E0.out).mono ?_
  rintro e wc ⟨v, rfl, hR, hB⟩
  obtain ⟨A9, c9, rfl, hc9, hC9⟩ := Kd.R_reads hR
  have L9 := Aside0.mk hc9
  have X9 := Aside0.mk hC9
  have BC := Aside0.mk (BB.out.trans (hB.mono BB.out.size))
  have cv := fun c => Kd.C_string (c := c) (P := Tryd.prog) Tryd.underlying36 Tryd.underlying5 Tryd.underlying9 (Kd.C_below R2.out BC.out)
  clear hB BB hR hc9 hC9
  go_wp2_with fail
  refine (cisternref07_DocDecodePairs.calls K (strOfNums l2) i p g wc D1.out).mono ?_
  rintro e wd ⟨v, rfl, hR, hB⟩
  obtain ⟨A12, c12, rfl, hc12, hC12⟩ := Kd.R_reads hR
  have L12 := Aside0.mk hc12
  have X12 := Aside0.mk hC12
  have BX := Aside0.mk hB
  have BD := Aside0.mk (BC.out.trans (hB.mono BC.out.size))
  clear hB BC hR hc12 hC12 cv
  go_wp2_with fail
  refine (record_DecodePairs.calls K A2 c2 l2 i p g wd (Kd.C_below R2.out BD.out) C2.out E1.out).mono ?_
  rintro e we ⟨v, rfl, hR, hB⟩
  obtain ⟨A15, c15, rfl, hc15, hC15⟩ := Kd.R_reads hR
  have L15 := Aside0.mk hc15
  have X15 := Aside0.mk hC15
  have Y12 := Aside0.mk (Kd.C_below X12.out hB)
  have BE := Aside0.mk (BD.out.trans (hB.mono BD.out.size))
  have cv := fun c => Kd.C_string (c := c) (P := Tryd.prog) Tryd.underlying36 Tryd.underlying5 Tryd.underlying9 (Kd.C_below X9.out (BX.out.trans (hB.mono BX.out.size)))
  clear hB BD hR hc15 hC15
  go_wp2_with fail
  refine (cisternref07_SamePairs.calls K A12 c12 p A15 c15 p true we Y12.out L12.out X15.out L15.out S1.out).mono ?_
  rintro e wf ⟨rfl, hD⟩
  have BF := Aside0.mk (BE.out.trans (hD.below.mono BE.out.size))
  clear hD
  go_wp2_with fail

  go_ret
  exact ⟨rfl, BF.out⟩
end
end Go.Proofs.YtmkkeccmjejfnaaDoor.PA
namespace Go.Proofs.YtmkkeccmjejfnaaDoor.PA
section

open Go.RowKit Go.Proofs.YtmkkeccmjejfnaaDoorW.PrintWords Go.Proofs.YtmkkeccmjejfnaaDoorW.PrintLast Go.Proofs.YtmkkeccmjejfnaaDoorW.PrintMore
set_option linter.unusedVariables false
set_option linter.unusedSimpArgs false
/-- A row of the call's own of which only its length is known. -/
def OwnC (e sz : Nat) (w : World) (b : Nat) (A : Option Addr) (n : Nat) : Prop := 0 < n → ∃ g cs, A = some ⟨g, 0, none⟩ ∧ b ≤ g ∧ w.heap[g]? = some (.cells cs e (0, 0)) ∧ n * sz ≤ cs.size
theorem OwnC.of_R {α : Type} {d : Kd α} {e : Nat} {w : World} {b : Nat} {ok : Nat → Prop} {A : Option Addr} {n c : Nat} {ys : List α} (h : d.R e w b ok (.slice A n c) ys) (hn : n = ys.length) : OwnC e d.sz w b A n := fun h0 => by
  obtain ⟨inner, ho⟩ := Kd.R_own h
  rcases ho.2 with ⟨hv, h1⟩ | ⟨g, cap, cur, hv, hg, hh, hc, _, hs, _⟩
  · omega
  · rw [Value.slice.injEq] at hv
    exact ⟨g, cur, hv.1, hg, hh, by rw [hs]; exact Nat.mul_le_mul_right _ (by omega)⟩
theorem OwnC.below {e sz : Nat} {w w1 : World} {b : Nat} {A : Option Addr} {n : Nat} (h : OwnC e sz w b A n) (hb : Below w.heap.size w w1) : OwnC e sz w1 b A n := fun h0 => by
  obtain ⟨g, cs, h1, h2, h3, h4⟩ := h h0
  exact ⟨g, cs, h1, h2, (hb.block g (blk_lt h3)).trans h3, h4⟩
theorem OwnC.at2 {e : Nat} {w : World} {b : Nat} {A : Option Addr} {n : Nat} (h : OwnC e 2 w b A n) (i : Nat) (hi : i < n) : ∃ g, A = some ⟨g, 0, none⟩ ∧ Aside0 (b ≤ g) ∧ (∃ u, w.cell? ⟨g, i * 2, none⟩ = some u) ∧ (∃ u, w.cell? ⟨g, i * 2 + 1, none⟩ = some u) ∧ w.frozen? ⟨g, i * 2, none⟩ = false ∧ w.frozen? ⟨g, i * 2 + 1, none⟩ = false ∧
    Aside0 (∀ x y, OwnC e 2 ((w.setCell ⟨g, i * 2, none⟩ x).setCell ⟨g, i * 2 + 1, none⟩ y) b A n) ∧ Aside0 (∀ B w0 x y, B ≤ b → Below B w0 w → Below B w0 ((w.setCell ⟨g, i * 2, none⟩ x).setCell ⟨g, i * 2 + 1, none⟩ y)) := by
  obtain ⟨g, cs, rfl, h2, h3, h4⟩ := h (by omega)
  have z0 : i * 2 < cs.size := by omega
  have z1 : i * 2 + 1 < cs.size := by omega
  refine ⟨g, rfl, ⟨h2⟩, ⟨_, (blk_cell h3 _).trans (Array.getElem?_eq_getElem z0)⟩, ⟨_, (blk_cell h3 _).trans (Array.getElem?_eq_getElem z1)⟩, blk_frozen h3 _, blk_frozen h3 _, ⟨fun x y _ => ⟨g, _, rfl, h2, heap_setCell_same _ g (i * 2 + 1) _ e y (heap_setCell_same w g (i * 2) _ e x h3), by simpa using h4⟩⟩, ⟨fun B w0 x y hB hb => (hb.setCell (p := ⟨g, i * 2, none⟩) (Nat.le_trans hB h2) x).setCell (p := ⟨g, i * 2 + 1, none⟩) (Nat.le_trans hB h2) y⟩⟩
theorem OwnC.at1 {e : Nat} {w : World} {b : Nat} {A : Option Addr} {n : Nat} (h : OwnC e 1 w b A n) (i : Nat) (hi : i < n) : ∃ g, A = some ⟨g, 0, none⟩ ∧ Aside0 (b ≤ g) ∧ (∃ u, w.cell? ⟨g, i, none⟩ = some u) ∧ w.frozen? ⟨g, i, none⟩ = false ∧
    Aside0 (∀ x, OwnC e 1 (w.setCell ⟨g, i, none⟩ x) b A n) ∧ Aside0 (∀ B w0 x, B ≤ b → Below B w0 w → Below B w0 (w.setCell ⟨g, i, none⟩ x)) := by
  obtain ⟨g, cs, rfl, h2, h3, h4⟩ := h (by omega)
  have z0 : i < cs.size := by omega
  exact ⟨g, rfl, ⟨h2⟩, ⟨_, (blk_cell h3 _).trans (Array.getElem?_eq_getElem z0)⟩, blk_frozen h3 _, ⟨fun x _ => ⟨g, _, rfl, h2, heap_setCell_same w g i _ e x h3, by simpa using h4⟩⟩, ⟨fun B w0 x hB hb => hb.setCell (p := ⟨g, i, none⟩) (Nat.le_trans hB h2) x⟩⟩
theorem R_keptV {α : Type} {d : Kd α} {e : Nat} {w w1 : World} {b : Nat} {v u : Value} {ys : List α} (h : d.R e w b (fun _ => True) v ys) (hk : KeptV w w1 u) (hu : ∀ k, u.ownBlock = some k → k < b) : d.R e w1 b (fun _ => True) v ys :=
  Kd.R_mono (Kd.R_step (Kd.R_bound h) (fun k h1 h2 => hk.2 k h2 (fun e => by have := hu k e.symm; omega))) (fun _ _ => trivial)
theorem nine_eq (n k : Nat) : Value.int .i64 ((n : Int) + (k : Int) + 1) = .int .i64 ((n : Int) + ((k + 1 : Nat) : Int)) := by
  have e : (n : Int) + (k : Int) + 1 = (n : Int) + ((k + 1 : Nat) : Int) := by omega
  rw [e]
theorem five_dn (a k : Nat) (h : k < 5) : ((a : Int) + 5 - intOf (.int .i64 ((a : Int) + ((k + 1 : Nat) : Int)))).toNat < ((a : Int) + 5 - intOf (.int .i64 ((a : Int) + (k : Int)))).toNat := by simp [intOf]; omega
set_option maxHeartbeats 2000000 in
set_option maxRecDepth 100000 in
theorem cisternlaw07_RecordApart.walk (A0 : Option Addr) (c0 : Nat) (l0 : List Int) (n : Int) (A1 : Option Addr) (c1 : Nat) (l1 : List S65) (w : World) (hr0 : Kd.C (Kd.int .u8) w A0 l0.length l0) (hc0 : l0.length ≤ c0) (y0 : l0.length * 1 ≤ 140737488351232) (w0 : ∀ v ∈ l0, (Lit.int .u8 v).wf = true)
    (wn : (Lit.int .i64 n).wf = true) (hr1 : Kd.C k65 w A1 l1.length l1) (hc1 : l1.length ≤ c1) (y1 : l1.length * 32 ≤ 140737488351232) (_w1 : ∀ v ∈ l1, (v.f0.size ≤ maxLen) ∧ (v.f1.size ≤ maxLen)) :
    Calls Tryd.prog 7 #[.slice A0 l0.length c0, .int .i64 n, .slice A1 l1.length c1] w fun e w' => e = .returned (.bool true) ∧ Below w.heap.size w w' := by
  have W0 := Aside0.mk (wf_u8 w0)
  have R0 := Aside0.mk hr0
  have C0 := Aside0.mk hc0
  have R1 := Aside0.mk hr1
  have C1 := Aside0.mk hc1
  have hl0 : l0.length ≤ 140737488351232 := by omega
  have hl1 : l1.length ≤ 4398046510976 := by omega
  clear hr0 hc0 y0 w0 hr1 hc1 y1 _w1 wn
  obtain ⟨K, hK⟩ : ∃ K : Nat, K = 2 * l1.length + 10 * l0.length + 9000000 := ⟨_, rfl⟩
  have KN : Aside0 (cisternlaw07_known.f K = some true) := ⟨known_val K (by omega)⟩
  obtain ⟨s0, s1, s2, e1, ES⟩ : ∃ x y z e, record_DecodeSuper.f K l0 = some (x, y, z, e) := by
    rcases super_tells l0 W0.out hl0 K (by omega) with ⟨x, y, z, _, h⟩ | ⟨e, _, _, h⟩
    · exact ⟨_, _, _, _, h⟩
    · exact ⟨_, _, _, _, h⟩
  obtain ⟨n0, n1, n2, n3, n4, n5, n6, nt, e2, EL⟩ : ∃ a b c d e f g t x, record_DecodeLog.f K l0 = some (a, b, c, d, e, f, g, t, x) := by
    rcases log_tells l0 W0.out hl0 K (by omega) with ⟨a, b, c, d, e, f, g, t, _, h⟩ | ⟨e, _, _, h⟩
    · exact ⟨_, _, _, _, _, _, _, _, _, h⟩
    · exact ⟨_, _, _, _, _, _, _, _, _, h⟩
  obtain ⟨p0, pt, e3, EH⟩ : ∃ x y e, record_DecodeHome.f K l0 = some (x, y, e) := by
    rcases home_tells l0 W0.out hl0 K (by omega) with ⟨x, y, _, h⟩ | ⟨e, _, _, h⟩
    · exact ⟨_, _, _, h⟩
    · exact ⟨_, _, _, h⟩
  obtain ⟨m, q, e4, EQ⟩ : ∃ x y e, record_DecodePairs.f K l0 = some (x, y, e) := ⟨_, _, _, decodepairs_val l0 W0.out hl0 K (by omega)⟩
  have EE := encodepairs_val n l1 (by omega) K (by omega)
  have ED := docencodepairs_val n l1 (by omega) K (by omega)
  obtain ⟨x, hx⟩ : ∃ x, x = (encPV n l1).1 := ⟨_, rfl⟩
  obtain ⟨e5, he5⟩ : ∃ e, e = (encPV n l1).2 := ⟨_, rfl⟩
  have EE' : Aside0 (record_EncodePairs.f K n l1 = some (x, e5)) := ⟨by rw [EE, hx, he5]⟩
  have ED' : Aside0 (cisternref07_DocEncodePairs.f K n l1 = some (strOfNums x, e5)) := ⟨by rw [ED, hx, he5]⟩
  have SP : Aside0 (cisternref07_SamePairs.f K l1 l1 = some true) := ⟨samepairs_val l1 (by omega) K (by omega)⟩
  replace ES := Aside0.mk ES
  replace EL := Aside0.mk EL
  replace EH := Aside0.mk EH
  replace EQ := Aside0.mk EQ
  clear EE ED hx he5 hK
  go_enter Tryd.func7, Tryd.ntmps7
  go_wp2_with fail
  refine (cisternlaw07_known.calls K true _ KN.out).mono ?_
  rintro e wa ⟨rfl, hB⟩
  have BA := Aside0.mk hB
  clear hB
  obtain ⟨mk, W2, cs2, hap, hC2, hh2, hs2, hz2, hB2, hsz⟩ := appendIn (P := Tryd.prog) (Kd.int .u8) 36 5 (.int .u8 0) 1 Tryd.underlying36 info5 rfl (by decide) 36 wa A0 c0 l0 5 ((l0.length : Int) + 5) (by omega) (Kd.C_below R0.out BA.out) (by omega) (by omega)
  have C2 := Aside0.mk hC2
  have H2 := Aside0.mk hh2
  have Z2 := Aside0.mk hz2
  have B2 := Aside0.mk (BA.out.trans (hB2.mono BA.out.size))
  have S2 := Aside0.mk hsz
  have HAP := Aside0.mk hap
  have L9 : l0.length ≤ l0.length + 5 := by omega
  clear hC2 hh2 hs2 hz2 hB2 hsz hap
  go_wp2_with (first | (at_builtin; refine wpList_append_ran rfl (.tmp 27) (.tmp 28) 36 rfl _ _ _ rfl rfl HAP.out ?_) | fail)
  refine (record_DecodeSuper.calls K _ _ l0 s0 s1 s2 e1 W2 C2.out L9 ES.out).mono ?_
  rintro e wx ⟨rfl, hB⟩
  have BX := Aside0.mk hB
  clear hB mk
  go_wp2_with fail
  refine (record_DecodeLog.calls K _ _ l0 n0 n1 n2 n3 n4 n5 n6 nt e2 wx (Kd.C_below C2.out BX.out) L9 EL.out).mono ?_
  rintro e wy ⟨rfl, hB⟩
  have BY := Aside0.mk (BX.out.trans (hB.mono BX.out.size))
  clear hB
  go_wp2_with fail
  refine (record_DecodeHome.calls K _ _ l0 p0 pt e3 wy (Kd.C_below C2.out BY.out) L9 EH.out).mono ?_
  rintro e wz ⟨rfl, hB⟩
  have BZ := Aside0.mk (BY.out.trans (hB.mono BY.out.size))
  clear hB
  go_wp2_with fail
  refine (record_DecodePairs.calls K _ _ l0 m q e4 wz (Kd.C_below C2.out BZ.out) L9 EQ.out).mono ?_
  rintro e wq ⟨vq, rfl, hR, hB⟩
  obtain ⟨Aq, cq, rfl⟩ := Kd.R_slice hR
  obtain ⟨nq, hnq⟩ : ∃ k, k = q.length := ⟨_, rfl⟩
  rw [← hnq] at hR ⊢
  have OQ := Aside0.mk (OwnC.of_R hR hnq)
  have LQ : nq ≤ 9223372036854775807 := by have := (Kd.R_reads' hR).2.2.2.1; omega
  have BQ := Aside0.mk (BZ.out.trans (hB.mono BZ.out.size))
  have ZQ := Aside0.mk BZ.out.size
  clear hR hB hnq BX BY
  go_wp2_with fail
  go_loopw [11] (fun v w' => ∃ i : Nat, i ≤ nq ∧ v = .int .i64 (i : Int) ∧ Aside0 (OwnC 65 2 w' wz.heap.size Aq nq) ∧ Aside0 (Below W2.heap.size W2 w')) (fun v _ => ((nq : Int) - intOf v).toNat)
  case atStart => exact ⟨0, Nat.zero_le _, rfl, OQ, BQ⟩
  case round =>
    obtain ⟨i, hi, rfl, YR, YB⟩ := hrel
    obtain ⟨w5, rfl⟩ : ∃ wo : World, wo = wr := ⟨_, rfl⟩
    by_cases h : i < nq
    · obtain ⟨g, rfl, G, ⟨u0, k1⟩, ⟨u1, k2⟩, k3, k4, QO, QB⟩ := YR.out.at2 i h
      have HW := Aside0.mk (wrap_suc i (by omega))
      have HM := Aside0.mk (msr_dn nq i h)
      have d1 : decide (i < nq) = true := decide_eq_true h
      have p1 : (0 : Int) ≤ (i : Int) := Int.natCast_nonneg _
      have p2 : (i : Int) < (nq : Int) := Int.ofNat_lt.2 h
      go_wp2_with fail
      exact ⟨⟨i + 1, h, rfl, ⟨QO.out _ _⟩, ⟨QB.out _ _ _ _ ZQ.out YB.out⟩⟩, HM.out⟩
    · have d1 : decide (i < nq) = false := decide_eq_false h
      have B5 := YB
      clear h hi YR YB OQ BQ BZ
      go_wp2_with fail
      have HH := Aside0.mk ((B5.out.block wa.heap.size S2.out).trans H2.out)
      go_loop [13] (fun v => ∃ k : Nat, k ≤ 5 ∧ v = .int .i64 ((l0.length : Int) + (k : Int))) (fun v => ((l0.length : Int) + 5 - intOf v).toNat)
      case atStart => exact ⟨0, by omega, by simp⟩
      case round =>
        obtain ⟨k, hk, rfl⟩ := hrel
        by_cases h : k < 5
        · have sb : w5.cell? ⟨wa.heap.size, l0.length + k, none⟩ = some (.int .u8 0) := by
            rw [blk_cell HH.out, Z2.out _ (by show l0.length * 1 ≤ _; omega) (by show _ < (l0.length + 5) * 1; omega)]
            have : (l0.length + k) % (Kd.int .u8).sz = 0 := Nat.mod_one _
            rw [this]
            rfl
          have HM := Aside0.mk (five_dn l0.length k h)
          go_wp2_with fail
          exact ⟨⟨k + 1, h, nine_eq _ _⟩, HM.out⟩
        · obtain rfl : k = 5 := by omega
          clear h hk
          obtain ⟨mk2, W3, cs3, hap, hC3, _, _, _, hB3, _⟩ := appendIn (P := Tryd.prog) k65 54 65 (.agg #[(.string ⟨#[]⟩), (.string ⟨#[]⟩)]) 32 Tryd.underlying54 info65 rfl (by decide) 54 w5 A1 c1 l1 2 ((l1.length : Int) + 2) (by omega) (Kd.C_below R1.out (B2.out.trans (B5.out.mono B2.out.size))) (by omega) (by omega)
          have C3 := Aside0.mk hC3
          have B3 := Aside0.mk hB3
          have HAP3 := Aside0.mk hap
          have L3 : l1.length ≤ l1.length + 2 := by omega
          clear hC3 hB3 hap
          go_wp2_with (first | (at_builtin; refine wpList_append_ran rfl (.tmp 72) (.tmp 73) 54 rfl _ _ _ rfl rfl HAP3.out ?_) | fail)
          refine (record_EncodePairs.calls K n _ _ l1 x e5 W3 C3.out L3 EE'.out).mono ?_
          rintro e wc ⟨vc, rfl, hR, hB⟩
          obtain ⟨Ac, cc, rfl⟩ := Kd.R_slice hR
          obtain ⟨nc, hnc⟩ : ∃ k, k = x.length := ⟨_, rfl⟩
          have NC := Aside0.mk hnc
          rw [← hnc] at hR ⊢
          have OC := Aside0.mk (OwnC.of_R hR hnc)
          have QC := Aside0.mk (Kd.R_lt hR)
          have LC : nc ≤ 9223372036854775807 := by have := (Kd.R_reads' hR).2.2.2.1; omega
          have BC := Aside0.mk (B3.out.trans (hB.mono B3.out.size))
          have C4 := Aside0.mk (Kd.C_below C3.out hB)
          have SC := Aside0.mk hB.size
          have BW1 := Aside0.mk hB
          clear hR hB hnc
          go_wp2_with fail
          refine (record_EncodePairs.calls K n _ _ l1 x e5 wc C4.out L3 EE'.out).mono ?_
          rintro e wd ⟨vd, rfl, hR, hB⟩
          obtain ⟨Ad, cd, rfl⟩ := Kd.R_slice hR
          have RD := Aside0.mk hR
          have OC2 := Aside0.mk (OC.out.below hB)
          have BD := Aside0.mk (BC.out.trans (hB.mono BC.out.size))
          have BW2 := Aside0.mk (BW1.out.trans (hB.mono SC.out))
          rw [← NC.out] at RD ⊢
          clear hR hB OC C4 BC
          go_wp2_with fail
          go_loopw [19] (fun v w' => ∃ i : Nat, i ≤ nc ∧ v = .int .i64 (i : Int) ∧ Aside0 (OwnC 5 1 w' W3.heap.size Ac nc) ∧ Aside0 (Below W3.heap.size W3 w') ∧ Aside0 (KeptV wd w' (.slice Ac nc cc))) (fun v _ => ((nc : Int) - intOf v).toNat)
          case atStart => exact ⟨0, Nat.zero_le _, rfl, OC2, BW2, ⟨KeptV.refl _ _⟩⟩
          case round =>
            obtain ⟨i, hi, rfl, YR, YB, YK⟩ := hrel
            obtain ⟨w6, rfl⟩ : ∃ wo : World, wo = wr := ⟨_, rfl⟩
            by_cases h : i < nc
            · obtain ⟨g, rfl, G, ⟨u0, k1⟩, k3, QO, QB⟩ := YR.out.at1 i h
              have HW := Aside0.mk (wrap_suc i (by omega))
              have HM := Aside0.mk (msr_dn nc i h)
              have d1 : decide (i < nc) = true := decide_eq_true h
              have p1 : (0 : Int) ≤ (i : Int) := Int.natCast_nonneg _
              have p2 : (i : Int) < (nc : Int) := Int.ofNat_lt.2 h
              have KK : ∀ z, KeptV wd (w6.setCell ⟨g, i, none⟩ z) (.slice (some ⟨g, 0, none⟩) nc cc) := fun z => ⟨by simpa [World.setCell] using YK.out.1, fun k h1 h2 => (Below.heap_setCell w6 ⟨g, i, none⟩ z k (fun e => h2 (by rw [e]; rfl))).trans (YK.out.2 k h1 h2)⟩
              replace KK := Aside0.mk KK
              go_wp2_with fail
              exact ⟨⟨i + 1, h, rfl, ⟨QO.out _⟩, ⟨QB.out _ _ _ (Nat.le_refl _) YB.out⟩, ⟨KK.out _⟩⟩, HM.out⟩
            · have d1 : decide (i < nc) = false := decide_eq_false h
              have RD6 := Aside0.mk (R_keptV RD.out YK.out (fun k hk => QC.out k hk))
              have B6 := YB
              clear h hi YR YB YK OC2 BD RD
              have BT := Aside0.mk (B3.out.trans (B6.out.mono B3.out.size))
              have BU := Aside0.mk (B2.out.trans ((B5.out.trans (BT.out.mono B5.out.size)).mono B2.out.size))
              go_wp2_with fail
              refine (cisternref07_DocEncodePairs.calls K n A1 c1 l1 (strOfNums x) e5 w6 (Kd.C_below R1.out BU.out) C1.out ED'.out).mono ?_
              rintro e wf ⟨rfl, hB⟩
              have BF := Aside0.mk (BU.out.trans (hB.mono BU.out.size))
              have X6 := (Kd.R_reads' (Kd.R_below RD6.out hB)).2.2
              rw [← NC.out] at X6
              have X7 := Aside0.mk X6
              have v1 : ∀ c, (convert 36 9 (.slice A0 l0.length c)).run Tryd.prog wf = .ok (.string (strOfNums l0)) wf := fun c => Kd.C_string Tryd.underlying36 Tryd.underlying5 Tryd.underlying9 (Kd.C_below R0.out BF.out)
              have v2 : ∀ c, (convert 36 9 (.slice (some ⟨wa.heap.size, 0, none⟩) l0.length c)).run Tryd.prog wf = .ok (.string (strOfNums l0)) wf := fun c => Kd.C_string Tryd.underlying36 Tryd.underlying5 Tryd.underlying9 (Kd.C_below (Kd.C_below C2.out (B5.out.trans (BT.out.mono B5.out.size))) hB)
              have v3 : ∀ c, (convert 36 9 (.slice Ad nc c)).run Tryd.prog wf = .ok (.string (strOfNums x)) wf := fun c => by
                have := fun c => Kd.C_string (c := c) (P := Tryd.prog) Tryd.underlying36 Tryd.underlying5 Tryd.underlying9 X6
                exact this c
              have CW := Aside0.mk (Kd.C_below (Kd.C_below C3.out B6.out) hB)
              have R1F := Aside0.mk (Kd.C_below R1.out BF.out)
              clear hB X6
              go_wp2_with fail
              refine (cisternref07_SamePairs.calls K _ _ l1 A1 c1 l1 true wf CW.out L3 R1F.out C1.out SP.out).mono ?_
              rintro e wg ⟨rfl, hD⟩
              have BG := Aside0.mk (BF.out.trans (hD.below.mono BF.out.size))
              have v4 : ∀ c, (convert 36 9 (.slice Ad nc c)).run Tryd.prog wg = .ok (.string (strOfNums x)) wg := fun c => Kd.C_string Tryd.underlying36 Tryd.underlying5 Tryd.underlying9 (Kd.C_below X7.out hD.below)
              clear hD
              go_wp2_with fail
              go_ret
              exact ⟨rfl, BG.out⟩
end
end Go.Proofs.YtmkkeccmjejfnaaDoor.PA
