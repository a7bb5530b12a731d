/- Texts of this claim: contracts of the functions that the statement reaches, and plain laws of what they compute. -/
import Derived.Test.YtjjfeoigjhbbpaaQM4
set_option linter.unusedVariables false
set_option linter.unusedSimpArgs false
namespace Go.Proofs.Ytjjfeoigjhbbpaa.PA
section

open Go.RowKit Go.Proofs.YtjjfeoigjhbbpaaW.PrintWords Go.Proofs.YtjjfeoigjhbbpaaW.PrintLast Go.Proofs.YtjjfeoigjhbbpaaW.PrintMore
attribute [local go_sem] pr_leq pr_geq pr_gtr max2_int min2_int max_two min_two max_three min_three max_four min_four
set_option linter.unusedVariables false
set_option linter.unusedSimpArgs false
theorem ins_at {P : List S48} (h : Srt P) (p : S48) : ∃ hl : atP P p.f0 < (insP P p).length, (insP P p)[atP P p.f0] = p := by
  have hat := (at_spec h p.f0).1
  unfold insP
  by_cases hi : isP P p.f0 = true
  · obtain ⟨hl, _⟩ := (is_spec h p.f0).1 hi
    simp only [if_pos hi]
    refine ⟨by rw [List.length_set]; exact hl, ?_⟩
    rw [List.getElem_set_self]
  · simp only [if_neg hi]
    have hlen : (P.take (atP P p.f0)).length = atP P p.f0 := by rw [List.length_take]; omega
    refine ⟨by rw [List.length_append, hlen, List.length_cons]; omega, ?_⟩
    rw [List.getElem_append_right (by omega)]
    simp [hlen]
theorem wo_ins {P : List S48} (h : Srt P) (p : S48) : woP (insP P p) p.f0 = woP P p.f0 := by
  unfold insP
  by_cases hi : isP P p.f0 = true
  · obtain ⟨hl, he⟩ := (is_spec h p.f0).1 hi
    rw [if_pos hi, List.set_eq_take_append_cons_drop, if_pos hl]
    have hP : P = P.take (atP P p.f0) ++ P[atP P p.f0] :: P.drop (atP P p.f0 + 1) := by rw [← List.drop_eq_getElem_cons hl, List.take_append_drop]
    conv => rhs; rw [hP]
    unfold woP
    rw [List.filter_append, List.filter_append, List.filter_cons, List.filter_cons]
    simp [he]
  · rw [if_neg hi]
    conv => rhs; rw [← List.take_append_drop (atP P p.f0) P]
    unfold woP
    rw [List.filter_append, List.filter_append, List.filter_cons]
    simp
theorem drop_val {P : List S48} (h : leafV true P [] [] = true) (key : ByteArray) : node_Drop.v true P [] [] key = if isP P key = true then (true, woP P key, [], [], 0) else (false, [], [], [], 7) := by
  unfold node_Drop.v
  rw [if_pos h]
  split
  · rename_i hi
    rw [erase_wo (leaf_parts h).2.2.2.2.2 hi]
  · rfl
theorem leaf_wo {P : List S48} (h : leafV true P [] [] = true) (key : ByteArray) : leafV true (woP P key) [] [] = true := by
  obtain ⟨_, _, _, h1, h2, h3⟩ := leaf_parts h
  refine leaf_mk (Nat.le_trans (List.length_filter_le _ _) h1) ?_ (srt_wo h3 key)
  rw [List.any_eq_false] at h2 ⊢
  exact fun x hx => h2 x ((List.mem_filter.1 hx).1)
theorem wo_ne {P : List S48} {key : ByteArray} {x : S48} (h : x ∈ woP P key) : x.f0 ≠ key := by
  unfold woP at h
  rw [List.mem_filter] at h
  have h2 := h.2
  intro e
  rw [e] at h2
  simp at h2
theorem wo_gone {P : List S48} (h : Srt P) (key : ByteArray) : isP (woP P key) key = false := by
  cases hi : isP (woP P key) key with
  | false => rfl
  | true =>
    obtain ⟨hl, he⟩ := (is_spec (srt_wo h key) key).1 hi
    exact absurd he (wo_ne (List.getElem_mem hl))
theorem rd48 {P : List S48} {i : Nat} (h : i < P.length) : rd_T48 P (i : Int) = P[i] := by unfold rd_T48; rw [Int.toNat_natCast, List.getD_eq_getElem?_getD, List.getElem?_eq_getElem h]; rfl
theorem map_l0 (key : ByteArray) (a : Bool) (P : List S48) (K : List ByteArray) (D : List Int) (b : Bool) (d : List S48) (K2 : List ByteArray) (D2 : List Int) (hP : P.length ≤ 9223372036854775807) (hd : d.length ≤ 9223372036854775807) :
    ∀ (n i j k : Nat), i + n = P.length → j ≤ d.length → d.drop j = woP (P.drop i) key → n < k → cisternlaw11_NodeMap.l0 k key (j : Int) (i : Int) a P K D b d K2 D2 = some true
  | 0, i, j, k + 1, hi, hj, he, _ => by
    unfold cisternlaw11_NodeMap.l0
    rw [if_neg (by omega)]
    rw [List.drop_eq_nil_of_le (by omega : P.length ≤ i)] at he
    have hz : d.drop j = [] := he
    rw [List.drop_eq_nil_iff] at hz
    have : j = d.length := by omega
    rw [this]
    simp
  | n + 1, i, j, k + 1, hi, hj, he, hk => by
    have hl : i < P.length := by omega
    have ew : wrap64 ((i : Int) + 1) = ((i + 1 : Nat) : Int) := by unfold wrap64; omega
    rw [List.drop_eq_getElem_cons hl] at he
    unfold cisternlaw11_NodeMap.l0
    rw [if_pos (by omega), if_pos (by omega), rd48 hl, ew]
    by_cases hk2 : P[i].f0 = key
    · rw [if_pos (by rw [hk2])]
      refine map_l0 key a P K D b d K2 D2 hP hd n (i + 1) j k (by omega) hj ?_ (by omega)
      rw [he]
      unfold woP
      rw [List.filter_cons]
      simp [hk2]
    · rw [if_neg (fun e => hk2 (toList_eq_iff.1 e))]
      have e1 : woP (P[i] :: P.drop (i + 1)) key = P[i] :: woP (P.drop (i + 1)) key := by
        unfold woP
        rw [List.filter_cons]
        simp [hk2]
      rw [e1] at he
      have hj2 : j < d.length := by
        rcases Nat.lt_or_ge j d.length with h | h
        · exact h
        · rw [List.drop_eq_nil_of_le h] at he
          cases he
      have ew2 : wrap64 ((j : Int) + 1) = ((j + 1 : Nat) : Int) := by unfold wrap64; omega
      rw [List.drop_eq_getElem_cons hj2] at he
      have h1 : d[j] = P[i] := (List.cons.inj he).1
      have h2 : d.drop (j + 1) = woP (P.drop (i + 1)) key := (List.cons.inj he).2
      rw [if_neg (by omega), if_pos (by omega), if_pos (by omega), rd48 hj2, h1, if_neg (by simp), ew2]
      exact map_l0 key a P K D b d K2 D2 hP hd n (i + 1) (j + 1) k (by omega) (by omega) h2 (by omega)
theorem map_val (a : Bool) (P : List S48) (K : List ByteArray) (D : List Int) (key val : ByteArray) (h1 : P.length * 32 ≤ 140737488351232) (h2 : K.length * 16 ≤ 140737488351232) (h3 : D.length * 8 ≤ 140737488351232) (k : Nat) (hk : P.length < k) : cisternlaw11_NodeMap.f (k + 1 + 1 + 1) a P K D key val = some true := by
  unfold cisternlaw11_NodeMap.f
  rw [known_val, Option.bind_some, if_pos rfl]
  rw [cisternlaw11_NodeMap.j0]
  cases a with
  | false => rw [if_pos (show (!false) = true from rfl), known_val]; rfl
  | true =>
    rw [if_neg (show ¬ ((!true) = true) by decide), of_val true P K D h1 h2 h3]
    unfold node_Put.f
    rw [Option.bind_some, Option.bind_some]
    rcases put_val true P K D key val with hv | ⟨hl, hky, hs, hv, hm⟩
    · rw [hv, if_neg (by decide)]
      rfl
    · rw [hv, if_pos rfl]
      obtain ⟨_, _, _, p1, p2, p3⟩ := leaf_parts hl
      obtain ⟨_, _, _, m1, m2, m3⟩ := leaf_parts hm
      obtain ⟨q1, q2⟩ := ins_at p3 ⟨key, val⟩
      have hf : (insP P ⟨key, val⟩)[atP P key].f0 = key := by
        have : (insP P ⟨key, val⟩)[atP P key] = ⟨key, val⟩ := q2
        rw [this]
      obtain ⟨o1, o2⟩ := at_own m3 (atP P key) q1
      rw [hf] at o1 o2
      show (node_Find.f _ true (insP P ⟨key, val⟩) [] [] key).bind _ = _
      rw [find_leaf hm, o1, Option.bind_some, if_pos rfl]
      have q1' : atP P key < (insP P ⟨key, val⟩).length := q1
      rw [if_neg (by show ¬ ((atP P key : Nat) : Int) ≥ (((insP P ⟨key, val⟩).length : Nat) : Int); omega), if_pos (by show (0 : Int) ≤ ((atP P key : Nat) : Int); omega), if_pos (by show ((atP P key : Nat) : Int) < (((insP P ⟨key, val⟩).length : Nat) : Int); omega)]
      have hr : rd_T48 (insP P ⟨key, val⟩) ((atP P key : Nat) : Int) = ⟨key, val⟩ := by rw [rd48 q1']; exact q2
      show cisternlaw11_NodeMap.j1 _ key (!((rd_T48 (insP P ⟨key, val⟩) ((atP P key : Nat) : Int)).f0.toList == key.toList) || (!((rd_T48 (insP P ⟨key, val⟩) ((atP P key : Nat) : Int)).f1.toList == val.toList))) true P K D true (insP P ⟨key, val⟩) [] [] = _
      rw [hr]
      show cisternlaw11_NodeMap.j1 _ key (!(key.toList == key.toList) || (!(val.toList == val.toList))) true P K D true (insP P ⟨key, val⟩) [] [] = _
      rw [beq_self_eq_true, beq_self_eq_true]
      rw [cisternlaw11_NodeMap.j1]
      rw [if_neg (by decide)]
      unfold node_Drop.f
      have hd1 : node_Drop.v true (insP P ⟨key, val⟩) [] [] key = (true, woP (insP P ⟨key, val⟩) key, [], [], 0) := by rw [drop_val hm, if_pos o2]
      have hd2 : node_Drop.v true (woP (insP P ⟨key, val⟩) key) [] [] key = (false, [], [], [], 7) := by rw [drop_val (leaf_wo hm key), wo_gone m3 key]; rfl
      rw [Option.bind_some, hd1]
      show (some (node_Drop.v true (woP (insP P ⟨key, val⟩) key) [] [] key)).bind _ = _
      rw [hd2, Option.bind_some, if_pos rfl]
      show cisternlaw11_NodeMap.j2 _ key false true P K D true (woP (insP P ⟨key, val⟩) key) [] [] = _
      rw [cisternlaw11_NodeMap.j2]
      rw [if_neg (by decide)]
      have hw : woP (insP P ⟨key, val⟩) key = woP P key := wo_ins p3 ⟨key, val⟩
      rw [hw]
      exact map_l0 key true P K D true (woP P key) [] [] (by omega) (by have := List.length_filter_le (fun x : S48 => !(decide (x.f0 = key))) P; unfold woP; omega) P.length 0 0 _ (by omega) (by omega) rfl (by omega)
theorem cisternlaw11_NodeMap.walk (a : Bool) (A1 : Option Addr) (c1 : Nat) (l1 : List S48) (A2 : Option Addr) (c2 : Nat) (l2 : List ByteArray) (A3 : Option Addr) (c3 : Nat) (l3 : List Int) (k v : ByteArray) (w : World)
    (_wa0 : True ∧ (∀ x_ ∈ l1, (x_.f0.size ≤ maxLen) ∧ (x_.f1.size ≤ maxLen)) ∧ (∀ x_ ∈ l2, x_.size ≤ maxLen) ∧ (∀ x_ ∈ l3, (Lit.int .i64 x_).wf = true)) (hr1 : Kd.C k48 w A1 l1.length l1) (hc1 : l1.length ≤ c1) (y1 : l1.length * 32 ≤ 140737488351232) (hr2 : Kd.C Kd.string w A2 l2.length l2) (hc2 : l2.length ≤ c2) (y2 : l2.length * 16 ≤ 140737488351232) (hr3 : Kd.C (Kd.int .i64) w A3 l3.length l3) (hc3 : l3.length ≤ c3) (y3 : l3.length * 8 ≤ 140737488351232) (_wk : k.size ≤ 140737488351232) (_wv : v.size ≤ 140737488351232) :
    Calls Try.prog 10 #[.agg #[.bool a, .slice A1 l1.length c1, .slice A2 l2.length c2, .slice A3 l3.length c3], .string k, .string v] w fun e w' => e = .returned (.bool true) ∧ Below w.heap.size w w' :=
  cisternlaw11_NodeMap.calls (l1.length + 1 + 1 + 1 + 1) a A1 c1 l1 A2 c2 l2 A3 c3 l3 k v true w hr1 hc1 hr2 hc2 hr3 hc3 (map_val a l1 l2 l3 k v y1 y2 y3 (l1.length + 1) (by omega))
end
end Go.Proofs.Ytjjfeoigjhbbpaa.PA
