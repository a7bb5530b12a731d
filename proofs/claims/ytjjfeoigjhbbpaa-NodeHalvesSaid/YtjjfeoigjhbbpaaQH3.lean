/- Texts of this claim: contracts of the functions that the statement reaches, and plain laws of what they compute. -/
import Derived.Test.YtjjfeoigjhbbpaaQH2
set_option linter.unusedVariables false
set_option linter.unusedSimpArgs false
namespace Go.Proofs.Ytjjfeoigjhbbpaa.PA
section

open Go.RowKit Go.Proofs.YtjjfeoigjhbbpaaW.PrintWords Go.Proofs.YtjjfeoigjhbbpaaW.PrintLast Go.Proofs.YtjjfeoigjhbbpaaW.PrintMore
attribute [local go_sem] pr_leq pr_geq pr_gtr max2_int min2_int max_two min_two max_three min_three max_four min_four
set_option linter.unusedVariables false
set_option linter.unusedSimpArgs false
theorem bm {w w1 : World} {g : Nat} {o : Obj} (hB : Below w.heap.size w w1) (h : Aside0 (w.heap[g]? = some o)) : Aside0 (w1.heap[g]? = some o) := ⟨(hB.block _ (blk_lt h.out)).trans h.out⟩
theorem rm {α : Type} {d : Kd α} {e base : Nat} {ok : Nat → Prop} {v : Value} {xs : List α} {w w1 : World} (hB : Below w.heap.size w w1) (h : Aside0 (d.R e w base ok v xs)) : Aside0 (d.R e w1 base ok v xs) := ⟨Kd.R_below h.out hB⟩
theorem xm {b w w1 : World} (hB : Below w.heap.size w w1) (h : Aside0 (Below b.heap.size b w)) : Aside0 (Below b.heap.size b w1) := ⟨h.out.trans (hB.mono h.out.size)⟩
theorem bc {w : World} {g t : Nat} {cs : Array Value} (h : Aside0 (w.heap[g]? = some (.cells cs t (0, 0)))) (i : Nat) {v : Value} (hv : cs[i]? = some v) : w.cell? ⟨g, i, none⟩ = some v := (blk_cell h.out i).trans hv
theorem bf {w : World} {g t : Nat} {cs : Array Value} (h : Aside0 (w.heap[g]? = some (.cells cs t (0, 0)))) (i : Nat) : w.frozen? ⟨g, i, none⟩ = false := blk_frozen h.out i
theorem rg {α : Type} {d : Kd α} {e base g t : Nat} {v : Value} {xs : List α} {cs : Array Value} {w w1 : World} (hg : w.grownBy w1 (some g)) (T : Aside0 (w.heap[g]? = some (.cells cs t (0, 0)))) (h : Aside0 (d.R e w base (fun _ => True) v xs)) (ht : ∀ q, q ∈ e :: d.E → q ≠ t) : Aside0 (d.R e w1 base (fun _ => True) v xs) :=
  ⟨Kd.R_mono (Kd.R_step (Kd.R_types h.out T.out ht) (fun k hk hl => hg.block k hl (fun e => hk.2 (Option.some.inj e)))) (fun _ _ => trivial)⟩
theorem bg {w w1 : World} {x g : Nat} {o : Obj} (hg : w.grownBy w1 (some x)) (h : Aside0 (w.heap[g]? = some o)) (hn : g ≠ x) : Aside0 (w1.heap[g]? = some o) := ⟨(hg.block _ (blk_lt h.out) (fun e => hn (Option.some.inj e))).trans h.out⟩
theorem wpAnyH_dag {P : Program} {md : Region.Mode} {ops : Array Oper} {Q : Exit → Act → World → Prop} {S : World → Prop} {fuel : Nat} {listed : Array Bool} {a0 : Act} {w : World} (Inv : Act → Nat → Array Bool → Act → World → Prop)
    (step : ∀ f l a W, Inv a0 f l a W → (∀ f' l' a' W', f' < f → Inv a0 f' l' a' W' → wpAnyH P md ops Q S f' l' a' W') → wpAnyH P md ops Q S f l a W) (h0 : Inv a0 fuel listed a0 w) : wpAnyH P md ops Q S fuel listed a0 w := by
  have h : ∀ n f l a W, f < n → Inv a0 f l a W → wpAnyH P md ops Q S f l a W := by
    intro n
    induction n with
    | zero => intro f l a W hf; exact absurd hf (Nat.not_lt_zero _)
    | succ n ih => intro f l a W hf hi; exact step f l a W hi (fun f' l' a' W' hf' hi' => ih f' l' a' W' (by omega) hi')
  exact h (fuel + 1) fuel listed a0 w (Nat.lt_succ_self _) h0
theorem row_nil {α : Type} (d : Kd α) {e base g : Nat} {W : World} {ok : Nat → Prop} (h : W.heap[g]? = some (.cells #[] e (0, 0))) (hb : base ≤ g) (hok : ok g) : d.R e W base ok (.slice (some ⟨g, 0, none⟩) 0 0) [] := by
  refine ⟨fun k hk => ?_, [], ⟨by simp, .inr ⟨g, 0, #[], rfl, hb, h, Nat.le_refl _, Nat.zero_le _, by simp, by simp⟩⟩, Reps.none _ _⟩
  cases hk
  exact hok
theorem sp_take {P : Program} {md : Region.Mode} {ops : Array Oper} {Q : Exit → Act → World → Prop} {S : World → Prop} {fuel : Nat} {listed : Array Bool} {a : Act} {w : World} (i : Nat) {oi : Oper} {v : Value} {a' : Act} (hS : S w)
    (h : wpAnyH P md ops Q S fuel (listed.setIfInBounds i true) a' w) (hi : ops[i]? = some oi := by rfl) (hs : Region.noSelect ops = true := by kernel_rfl) (hf : Region.free md ops listed i = true := by kernel_rfl) (hr : (Region.ready md ops listed).contains i = true := by kernel_rfl)
    (hQ : ∀ c a w, Q (.panic c) (a.put oi.dst v) w → Q (.panic c) a w := by exact fun _ _ _ h => h)
    (hy : YieldsIf P ops S oi v a := by exact Or.inl ⟨by rfl, by (intro w hSw; (try dsimp only at hSw); go_simp; try with_reducible rfl)⟩)
    (ha : a.put oi.dst v = a' := by (first | (simp only [Act.put, List.getElem_toArray, List.getElem_cons_zero, List.getElem_cons_succ, List.setIfInBounds_toArray, List.set_cons_zero, List.set_cons_succ]; done) | (simp only [Act.put, List.getElem_toArray, List.getElem_cons_zero, List.getElem_cons_succ, List.setIfInBounds_toArray, List.set_cons_zero, List.set_cons_succ]; rfl))) :
    wpAnyH P md ops Q S (fuel + 1) listed a w := by
  subst ha
  exact wpAnyH_take hi hs hf hr hQ hy hS h
/-- Where a leaf is cut: so many pairs go to the first half. -/
def cutN (P : List S48) : Nat → Nat → Nat
  | 0, i => i
  | n + 1, i => if i + 1 < P.length ∧ (i = 0 ∨ 2 * weightN (P.take i) < weightN P) then cutN P n (i + 1) else i
def cutP (P : List S48) : Nat := cutN P P.length 0
abbrev SpR := Bool × List S48 × List ByteArray × List Int × ByteArray × Bool × List S48 × List ByteArray × List Int × Int
def splitV (a : Bool) (P : List S48) (K : List ByteArray) (D : List Int) : SpR :=
  if (leafV a P K D || innerV a P K D) = true then
    if (if a then P.length < 2 else D.length < 4) then (false, [], [], [], ⟨#[]⟩, false, [], [], [], 7)
    else if a then (true, P.take (cutP P), [], [], (P.getD (cutP P) ⟨⟨#[]⟩, ⟨#[]⟩⟩).f0, true, P.drop (cutP P), [], [], 0)
    else (false, [], K.take (D.length / 2 - 1), D.take (D.length / 2), K.getD (D.length / 2 - 1) ⟨#[]⟩, false, [], K.drop (D.length / 2), D.drop (D.length / 2), 0)
  else (false, [], [], [], ⟨#[]⟩, false, [], [], [], 2)
theorem row48_at {W : World} {e base : Nat} {ok : Nat → Prop} {A : Option Addr} {n c : Nat} {xs : List S48} (h : Kd.R k48 e W base ok (.slice A n c) xs) (h0 : 0 < xs.length) : ∃ ad, A = some ad := by
  obtain ⟨rfl, _, hC⟩ := Kd.R_reads' h
  obtain ⟨ad, _, e, _⟩ := Kd.C_get hC ⟨⟨#[]⟩, ⟨#[]⟩⟩ 0 (by omega) (by omega)
  exact ⟨ad, e⟩
theorem row48_cell {W : World} {e base : Nat} {ok : Nat → Prop} {ad : Addr} {n c : Nat} {xs : List S48} (h : Kd.R k48 e W base ok (.slice (some ad) n c) xs) (h0 : 0 < xs.length) : W.cell? ad = some (.string (xs.getD 0 ⟨⟨#[]⟩, ⟨#[]⟩⟩).f0) := by
  obtain ⟨rfl, _, hC⟩ := Kd.R_reads' h
  obtain ⟨ad', cs, e, _, hK, hc⟩ := Kd.C_get hC ⟨⟨#[]⟩, ⟨#[]⟩⟩ 0 (by omega) (by omega)
  obtain rfl := (Option.some.inj e : ad = ad')
  obtain rfl := k48_open hK
  have hq := hc 0 _ rfl
  rwa [show (0 : Int).toNat * k48.sz + 0 = 0 from rfl, show ad.add 0 = ad by simp [Addr.add]] at hq
theorem wN_app (P Q : List S48) : weightN (P ++ Q) = weightN P + weightN Q := by unfold weightN; rw [List.map_append, List.sum_append]
theorem wN_take (P : List S48) (i : Nat) : weightN (P.take i) ≤ weightN P := by
  have := wN_app (P.take i) (P.drop i)
  rw [List.take_append_drop] at this
  omega
theorem wN_step (P : List S48) (i : Nat) : weightN (P.take (i + 1)) = weightN (P.take i) + weightN ((P.take (i + 1)).drop i) := by
  have h := wN_app ((P.take (i + 1)).take i) ((P.take (i + 1)).drop i)
  rw [List.take_append_drop, List.take_take, Nat.min_eq_left (Nat.le_succ i)] at h
  exact h
theorem cutN_lt (P : List S48) : ∀ n i, i < P.length → cutN P n i < P.length
  | 0, i, h => h
  | n + 1, i, h => by
    unfold cutN
    split
    · rename_i g; exact cutN_lt P n (i + 1) g.1
    · exact h
theorem cutP_lt (P : List S48) (h : 0 < P.length) : cutP P < P.length := cutN_lt P _ 0 h
def node_Split.f (a : Bool) (l1 : List S48) (l2 : List ByteArray) (l3 : List Int) : Option SpR := some (splitV a l1 l2 l3)
theorem results_ctct {P : Program} {fn : Func} {p u p' v : Tmp} {ty ty' : TypeId} (h : fn.results = #[.cell p ty, .tmp u, .cell p' ty', .tmp v]) (tmps : Array Value) (w : World) (g g' : Nat) (t t' : TypeId) (cs cs' : Array Value) (fr fr' : Nat × Nat) (d d' : TypeDesc)
    (hp : tmps.getD p undef = .pointer (some ⟨g, 0, none⟩)) (hg : w.heap[g]? = some (.cells cs t fr))
    (hu : P.underlying ty = some d) (hd : (match d with | .struct _ | .array _ _ => true | _ => false) = true) (hi : (P.info? ty).map (·.size) = some cs.size)
    (hp2 : tmps.getD p' undef = .pointer (some ⟨g', 0, none⟩)) (hg' : w.heap[g']? = some (.cells cs' t' fr'))
    (hu' : P.underlying ty' = some d') (hd' : (match d' with | .struct _ | .array _ _ => true | _ => false) = true) (hi' : (P.info? ty').map (·.size) = some cs'.size) :
    (results fn tmps).run P w = .ok (.tuple #[.agg cs, tmps.getD u undef, .agg cs', tmps.getD v undef]) w := by
  have e1 : tmps[p]?.getD undef = .pointer (some ⟨g, 0, none⟩) := by simpa using hp
  have e2 : tmps[p']?.getD undef = .pointer (some ⟨g', 0, none⟩) := by simpa using hp2
  simp [results, h, e1, e2, asAddr, run_loadVar_row w g t ty cs fr d hg hu hd hi, run_loadVar_row w g' t' ty' cs' fr' d' hg' hu' hd' hi']
set_option maxHeartbeats 4000000 in
set_option maxRecDepth 100000 in
theorem split_bad (a : Bool) (A1 : Option Addr) (c1 : Nat) (l1 : List S48) (A2 : Option Addr) (c2 : Nat) (l2 : List ByteArray) (A3 : Option Addr) (c3 : Nat) (l3 : List Int) (w : World) (hr1 : Kd.C k48 w A1 l1.length l1) (hc1 : l1.length ≤ c1) (hr2 : Kd.C Kd.string w A2 l2.length l2) (hc2 : l2.length ≤ c2) (hr3 : Kd.C (Kd.int .i64) w A3 l3.length l3) (hc3 : l3.length ≤ c3) (hf : ¬ (leafV a l1 l2 l3 || innerV a l1 l2 l3) = true) :
    Calls Try.prog 18 #[.agg #[.bool a, .slice A1 l1.length c1, .slice A2 l2.length c2, .slice A3 l3.length c3]] w fun e w' => ∃ v1_ v2_ v3_ u1_ u2_ u3_ : Value, e = .returned (.tuple #[.agg #[.bool false, v1_, v2_, v3_], .string ⟨#[]⟩, .agg #[.bool false, u1_, u2_, u3_], .int .i64 2]) ∧ Kd.R k48 48 w' w.heap.size (fun _ => True) v1_ ([] : List S48) ∧ Kd.R Kd.string 9 w' w.heap.size (fun _ => True) v2_ ([] : List ByteArray) ∧ Kd.R (Kd.int .i64) 3 w' w.heap.size (fun _ => True) v3_ ([] : List Int) ∧ Kd.R k48 48 w' w.heap.size (fun _ => True) u1_ ([] : List S48) ∧ Kd.R Kd.string 9 w' w.heap.size (fun _ => True) u2_ ([] : List ByteArray) ∧ Kd.R (Kd.int .i64) 3 w' w.heap.size (fun _ => True) u3_ ([] : List Int) ∧ Below w.heap.size w w' := by
  have CK := Aside0.mk (fun W hw => node_Check.calls a A1 c1 l1 A2 c2 l2 A3 c3 l3 2 W (Kd.C_below hr1 hw) hc1 (Kd.C_below hr2 hw) hc2 (Kd.C_below hr3 hw) hc3 (by have := check_val a l1 l2 l3; rwa [if_neg hf] at this))
  have HR1 := Aside0.mk hr1
  have HR2 := Aside0.mk hr2
  have HR3 := Aside0.mk hr3
  clear hr1 hr2 hr3
  clear hf
  have BB0 := Below.refl w.heap.size w
  obtain ⟨wp0, hwp0⟩ : ∃ x, x = w.alloc (.cells #[.bool a, .slice A1 l1.length c1, .slice A2 l2.length c2, .slice A3 l3.length c3] 31) := ⟨_, rfl⟩
  have t_n := heap_alloc_new w (.cells #[.bool a, .slice A1 l1.length c1, .slice A2 l2.length c2, .slice A3 l3.length c3] 31)
  rw [← hwp0] at t_n
  have BB1 : Below w.heap.size w wp0 := by rw [hwp0]; exact below_alloc BB0 _
  have sz0 : wp0.heap.size = w.heap.size + 1 := by rw [hwp0]; simp
  obtain ⟨wp1, hwp1⟩ : ∃ x, x = wp0.alloc (.cells #[.bool false, .slice none 0 0, .slice none 0 0, .slice none 0 0] 31) := ⟨_, rfl⟩
  have t_r := heap_alloc_new wp0 (.cells #[.bool false, .slice none 0 0, .slice none 0 0, .slice none 0 0] 31)
  rw [← hwp1] at t_r
  rw [sz0] at t_r
  have BB2 : Below w.heap.size w wp1 := by rw [hwp1]; exact below_alloc BB1 _
  have sz1 : wp1.heap.size = w.heap.size + 2 := by rw [hwp1]; simp [sz0]
  replace t_n := (show wp1.heap[_]? = wp0.heap[_]? by rw [hwp1]; exact Lib.alloc_old wp0 (.cells #[.bool false, .slice none 0 0, .slice none 0 0, .slice none 0 0] 31) _ (blk_lt t_n)).trans t_n
  obtain ⟨wp2, hwp2⟩ : ∃ x, x = wp1.alloc (.cells #[.bool false, .slice none 0 0, .slice none 0 0, .slice none 0 0] 31) := ⟨_, rfl⟩
  have t_q := heap_alloc_new wp1 (.cells #[.bool false, .slice none 0 0, .slice none 0 0, .slice none 0 0] 31)
  rw [← hwp2] at t_q
  rw [sz1] at t_q
  have BB3 : Below w.heap.size w wp2 := by rw [hwp2]; exact below_alloc BB2 _
  have sz2 : wp2.heap.size = w.heap.size + 3 := by rw [hwp2]; simp [sz1]
  replace t_n := (show wp2.heap[_]? = wp1.heap[_]? by rw [hwp2]; exact Lib.alloc_old wp1 (.cells #[.bool false, .slice none 0 0, .slice none 0 0, .slice none 0 0] 31) _ (blk_lt t_n)).trans t_n
  replace t_r := (show wp2.heap[_]? = wp1.heap[_]? by rw [hwp2]; exact Lib.alloc_old wp1 (.cells #[.bool false, .slice none 0 0, .slice none 0 0, .slice none 0 0] 31) _ (blk_lt t_r)).trans t_r
  have HW0 : Aside0 (wp2 = (((w.alloc (.cells #[.bool a, .slice A1 l1.length c1, .slice A2 l2.length c2, .slice A3 l3.length c3] 31)).alloc (.cells #[.bool false, .slice none 0 0, .slice none 0 0, .slice none 0 0] 31)).alloc (.cells #[.bool false, .slice none 0 0, .slice none 0 0, .slice none 0 0] 31))) := ⟨by rw [hwp2, hwp1, hwp0]⟩
  have T_n := Aside0.mk t_n
  have T_r := Aside0.mk t_r
  have T_q := Aside0.mk t_q
  have BB := Aside0.mk BB3
  have SZ0 := Aside0.mk sz2
  clear t_n t_r t_q BB0 BB1 BB2 BB3 sz0 sz1 sz2 hwp0 hwp1 hwp2
  go_enter Try.func18, Try.ntmps18
  go_wp2_with fail
  rw [← HW0.out]
  refine (CK.out _ BB.out).mono ?_
  rintro e w1 ⟨rfl, hB⟩
  replace T_n := bm hB T_n; replace T_r := bm hB T_r; replace T_q := bm hB T_q; replace BB := xm hB BB
  clear hB
  have c_r0 := bc T_r 0 rfl; have f_r0 := bf T_r 0; have c_r1 := bc T_r 1 rfl; have f_r1 := bf T_r 1; have c_r2 := bc T_r 2 rfl; have f_r2 := bf T_r 2; have c_r3 := bc T_r 3 rfl; have f_r3 := bf T_r 3
  have c_q0 := bc T_q 0 rfl; have f_q0 := bf T_q 0; have c_q1 := bc T_q 1 rfl; have f_q1 := bf T_q 1; have c_q2 := bc T_q 2 rfl; have f_q2 := bf T_q 2; have c_q3 := bc T_q 3 rfl; have f_q3 := bf T_q 3
  go_wp2_with fail
  clear c_r0 f_r0 c_r1 f_r1 c_r2 f_r2 c_r3 f_r3 c_q0 f_q0 c_q1 f_q1 c_q2 f_q2 c_q3 f_q3
  have hg := nd_grown4 w1 (w.heap.size + 1) (.bool false) (.slice none 0 0) (.slice none 0 0) (.slice none 0 0)
  have tn := nd_put4 w1 (w.heap.size + 1) 31 _ _ _ _ (.bool false) (.slice none 0 0) (.slice none 0 0) (.slice none 0 0) T_r.out
  obtain ⟨w2, hw2⟩ : ∃ x, x = ((((w1.setCell ⟨(w.heap.size + 1), 0, none⟩ (.bool false)).setCell ⟨(w.heap.size + 1), 1, none⟩ (.slice none 0 0)).setCell ⟨(w.heap.size + 1), 2, none⟩ (.slice none 0 0)).setCell ⟨(w.heap.size + 1), 3, none⟩ (.slice none 0 0)) := ⟨_, rfl⟩
  rw [← hw2] at hg tn
  rw [← hw2]
  clear hw2
  replace T_n := bg hg T_n (by omega)
  replace T_q := bg hg T_q (by omega)
  replace BB := Aside0.mk (nd_grown_below hg BB.out BB.out.size (by omega))
  replace T_r := Aside0.mk tn
  clear tn hg
  have hg := nd_grown4 w2 (w.heap.size + 2) (.bool false) (.slice none 0 0) (.slice none 0 0) (.slice none 0 0)
  have tn := nd_put4 w2 (w.heap.size + 2) 31 _ _ _ _ (.bool false) (.slice none 0 0) (.slice none 0 0) (.slice none 0 0) T_q.out
  obtain ⟨w3, hw3⟩ : ∃ x, x = ((((w2.setCell ⟨(w.heap.size + 2), 0, none⟩ (.bool false)).setCell ⟨(w.heap.size + 2), 1, none⟩ (.slice none 0 0)).setCell ⟨(w.heap.size + 2), 2, none⟩ (.slice none 0 0)).setCell ⟨(w.heap.size + 2), 3, none⟩ (.slice none 0 0)) := ⟨_, rfl⟩
  rw [← hw3] at hg tn
  rw [← hw3]
  clear hw3
  replace T_n := bg hg T_n (by omega)
  replace T_r := bg hg T_r (by omega)
  replace BB := Aside0.mk (nd_grown_below hg BB.out BB.out.size (by omega))
  replace T_q := Aside0.mk tn
  clear tn hg
  refine bodyPost_ret (results_ctct rfl _ _ (w.heap.size + 1) (w.heap.size + 2) 31 31 #[.bool false, .slice none 0 0, .slice none 0 0, .slice none 0 0] #[.bool false, .slice none 0 0, .slice none 0 0, .slice none 0 0] (0, 0) (0, 0) _ _ rfl T_r.out Try.underlying31 rfl (by kernel_rfl) rfl T_q.out Try.underlying31 rfl (by kernel_rfl)) rfl ?_
  exact ⟨_, _, _, _, _, _, rfl, Kd.R_nil _ _ _ _ _, Kd.R_nil _ _ _ _ _, Kd.R_nil _ _ _ _ _, Kd.R_nil _ _ _ _ _, Kd.R_nil _ _ _ _ _, Kd.R_nil _ _ _ _ _, BB.out⟩
set_option maxHeartbeats 4000000 in
set_option maxRecDepth 100000 in
theorem split_few_false (A1 : Option Addr) (c1 : Nat) (l1 : List S48) (A2 : Option Addr) (c2 : Nat) (l2 : List ByteArray) (A3 : Option Addr) (c3 : Nat) (l3 : List Int) (w : World) (hr1 : Kd.C k48 w A1 l1.length l1) (hc1 : l1.length ≤ c1) (hr2 : Kd.C Kd.string w A2 l2.length l2) (hc2 : l2.length ≤ c2) (hr3 : Kd.C (Kd.int .i64) w A3 l3.length l3) (hc3 : l3.length ≤ c3) (hf : (leafV false l1 l2 l3 || innerV false l1 l2 l3) = true) (hm : l3.length < 4) :
    Calls Try.prog 18 #[.agg #[.bool false, .slice A1 l1.length c1, .slice A2 l2.length c2, .slice A3 l3.length c3]] w fun e w' => ∃ v1_ v2_ v3_ u1_ u2_ u3_ : Value, e = .returned (.tuple #[.agg #[.bool false, v1_, v2_, v3_], .string ⟨#[]⟩, .agg #[.bool false, u1_, u2_, u3_], .int .i64 7]) ∧ Kd.R k48 48 w' w.heap.size (fun _ => True) v1_ ([] : List S48) ∧ Kd.R Kd.string 9 w' w.heap.size (fun _ => True) v2_ ([] : List ByteArray) ∧ Kd.R (Kd.int .i64) 3 w' w.heap.size (fun _ => True) v3_ ([] : List Int) ∧ Kd.R k48 48 w' w.heap.size (fun _ => True) u1_ ([] : List S48) ∧ Kd.R Kd.string 9 w' w.heap.size (fun _ => True) u2_ ([] : List ByteArray) ∧ Kd.R (Kd.int .i64) 3 w' w.heap.size (fun _ => True) u3_ ([] : List Int) ∧ Below w.heap.size w w' := by
  have CK := Aside0.mk (fun W hw => node_Check.calls false A1 c1 l1 A2 c2 l2 A3 c3 l3 0 W (Kd.C_below hr1 hw) hc1 (Kd.C_below hr2 hw) hc2 (Kd.C_below hr3 hw) hc3 (by have := check_val false l1 l2 l3; rwa [if_pos hf] at this))
  have HR1 := Aside0.mk hr1
  have HR2 := Aside0.mk hr2
  have HR3 := Aside0.mk hr3
  clear hr1 hr2 hr3
  clear hf
  have d2 : decide ((l3.length : Int) < 4) = true := decide_eq_true (by omega)
  clear hm
  have BB0 := Below.refl w.heap.size w
  obtain ⟨wp0, hwp0⟩ : ∃ x, x = w.alloc (.cells #[.bool false, .slice A1 l1.length c1, .slice A2 l2.length c2, .slice A3 l3.length c3] 31) := ⟨_, rfl⟩
  have t_n := heap_alloc_new w (.cells #[.bool false, .slice A1 l1.length c1, .slice A2 l2.length c2, .slice A3 l3.length c3] 31)
  rw [← hwp0] at t_n
  have BB1 : Below w.heap.size w wp0 := by rw [hwp0]; exact below_alloc BB0 _
  have sz0 : wp0.heap.size = w.heap.size + 1 := by rw [hwp0]; simp
  obtain ⟨wp1, hwp1⟩ : ∃ x, x = wp0.alloc (.cells #[.bool false, .slice none 0 0, .slice none 0 0, .slice none 0 0] 31) := ⟨_, rfl⟩
  have t_r := heap_alloc_new wp0 (.cells #[.bool false, .slice none 0 0, .slice none 0 0, .slice none 0 0] 31)
  rw [← hwp1] at t_r
  rw [sz0] at t_r
  have BB2 : Below w.heap.size w wp1 := by rw [hwp1]; exact below_alloc BB1 _
  have sz1 : wp1.heap.size = w.heap.size + 2 := by rw [hwp1]; simp [sz0]
  replace t_n := (show wp1.heap[_]? = wp0.heap[_]? by rw [hwp1]; exact Lib.alloc_old wp0 (.cells #[.bool false, .slice none 0 0, .slice none 0 0, .slice none 0 0] 31) _ (blk_lt t_n)).trans t_n
  obtain ⟨wp2, hwp2⟩ : ∃ x, x = wp1.alloc (.cells #[.bool false, .slice none 0 0, .slice none 0 0, .slice none 0 0] 31) := ⟨_, rfl⟩
  have t_q := heap_alloc_new wp1 (.cells #[.bool false, .slice none 0 0, .slice none 0 0, .slice none 0 0] 31)
  rw [← hwp2] at t_q
  rw [sz1] at t_q
  have BB3 : Below w.heap.size w wp2 := by rw [hwp2]; exact below_alloc BB2 _
  have sz2 : wp2.heap.size = w.heap.size + 3 := by rw [hwp2]; simp [sz1]
  replace t_n := (show wp2.heap[_]? = wp1.heap[_]? by rw [hwp2]; exact Lib.alloc_old wp1 (.cells #[.bool false, .slice none 0 0, .slice none 0 0, .slice none 0 0] 31) _ (blk_lt t_n)).trans t_n
  replace t_r := (show wp2.heap[_]? = wp1.heap[_]? by rw [hwp2]; exact Lib.alloc_old wp1 (.cells #[.bool false, .slice none 0 0, .slice none 0 0, .slice none 0 0] 31) _ (blk_lt t_r)).trans t_r
  have HW0 : Aside0 (wp2 = (((w.alloc (.cells #[.bool false, .slice A1 l1.length c1, .slice A2 l2.length c2, .slice A3 l3.length c3] 31)).alloc (.cells #[.bool false, .slice none 0 0, .slice none 0 0, .slice none 0 0] 31)).alloc (.cells #[.bool false, .slice none 0 0, .slice none 0 0, .slice none 0 0] 31))) := ⟨by rw [hwp2, hwp1, hwp0]⟩
  have T_n := Aside0.mk t_n
  have T_r := Aside0.mk t_r
  have T_q := Aside0.mk t_q
  have BB := Aside0.mk BB3
  have SZ0 := Aside0.mk sz2
  clear t_n t_r t_q BB0 BB1 BB2 BB3 sz0 sz1 sz2 hwp0 hwp1 hwp2
  go_enter Try.func18, Try.ntmps18
  go_wp2_with fail
  rw [← HW0.out]
  refine (CK.out _ BB.out).mono ?_
  rintro e w4 ⟨rfl, hB⟩
  replace T_n := bm hB T_n; replace T_r := bm hB T_r; replace T_q := bm hB T_q; replace BB := xm hB BB
  clear hB
  have c_n0 := bc T_n 0 rfl; have c_n1 := bc T_n 1 rfl; have c_n2 := bc T_n 2 rfl; have c_n3 := bc T_n 3 rfl
  have c_r0 := bc T_r 0 rfl; have f_r0 := bf T_r 0; have c_r1 := bc T_r 1 rfl; have f_r1 := bf T_r 1; have c_r2 := bc T_r 2 rfl; have f_r2 := bf T_r 2; have c_r3 := bc T_r 3 rfl; have f_r3 := bf T_r 3
  have c_q0 := bc T_q 0 rfl; have f_q0 := bf T_q 0; have c_q1 := bc T_q 1 rfl; have f_q1 := bf T_q 1; have c_q2 := bc T_q 2 rfl; have f_q2 := bf T_q 2; have c_q3 := bc T_q 3 rfl; have f_q3 := bf T_q 3
  go_wp2_with fail
  clear c_r0 f_r0 c_r1 f_r1 c_r2 f_r2 c_r3 f_r3 c_q0 f_q0 c_q1 f_q1 c_q2 f_q2 c_q3 f_q3
  have hg := nd_grown4 w4 (w.heap.size + 1) (.bool false) (.slice none 0 0) (.slice none 0 0) (.slice none 0 0)
  have tn := nd_put4 w4 (w.heap.size + 1) 31 _ _ _ _ (.bool false) (.slice none 0 0) (.slice none 0 0) (.slice none 0 0) T_r.out
  obtain ⟨w5, hw5⟩ : ∃ x, x = ((((w4.setCell ⟨(w.heap.size + 1), 0, none⟩ (.bool false)).setCell ⟨(w.heap.size + 1), 1, none⟩ (.slice none 0 0)).setCell ⟨(w.heap.size + 1), 2, none⟩ (.slice none 0 0)).setCell ⟨(w.heap.size + 1), 3, none⟩ (.slice none 0 0)) := ⟨_, rfl⟩
  rw [← hw5] at hg tn
  rw [← hw5]
  clear hw5
  replace T_n := bg hg T_n (by omega)
  replace T_q := bg hg T_q (by omega)
  replace BB := Aside0.mk (nd_grown_below hg BB.out BB.out.size (by omega))
  replace T_r := Aside0.mk tn
  clear tn hg
  have hg := nd_grown4 w5 (w.heap.size + 2) (.bool false) (.slice none 0 0) (.slice none 0 0) (.slice none 0 0)
  have tn := nd_put4 w5 (w.heap.size + 2) 31 _ _ _ _ (.bool false) (.slice none 0 0) (.slice none 0 0) (.slice none 0 0) T_q.out
  obtain ⟨w6, hw6⟩ : ∃ x, x = ((((w5.setCell ⟨(w.heap.size + 2), 0, none⟩ (.bool false)).setCell ⟨(w.heap.size + 2), 1, none⟩ (.slice none 0 0)).setCell ⟨(w.heap.size + 2), 2, none⟩ (.slice none 0 0)).setCell ⟨(w.heap.size + 2), 3, none⟩ (.slice none 0 0)) := ⟨_, rfl⟩
  rw [← hw6] at hg tn
  rw [← hw6]
  clear hw6
  replace T_n := bg hg T_n (by omega)
  replace T_r := bg hg T_r (by omega)
  replace BB := Aside0.mk (nd_grown_below hg BB.out BB.out.size (by omega))
  replace T_q := Aside0.mk tn
  clear tn hg
  refine bodyPost_ret (results_ctct rfl _ _ (w.heap.size + 1) (w.heap.size + 2) 31 31 #[.bool false, .slice none 0 0, .slice none 0 0, .slice none 0 0] #[.bool false, .slice none 0 0, .slice none 0 0, .slice none 0 0] (0, 0) (0, 0) _ _ rfl T_r.out Try.underlying31 rfl (by kernel_rfl) rfl T_q.out Try.underlying31 rfl (by kernel_rfl)) rfl ?_
  exact ⟨_, _, _, _, _, _, rfl, Kd.R_nil _ _ _ _ _, Kd.R_nil _ _ _ _ _, Kd.R_nil _ _ _ _ _, Kd.R_nil _ _ _ _ _, Kd.R_nil _ _ _ _ _, Kd.R_nil _ _ _ _ _, BB.out⟩
set_option maxHeartbeats 4000000 in
set_option maxRecDepth 100000 in
theorem split_few_true (A1 : Option Addr) (c1 : Nat) (l1 : List S48) (A2 : Option Addr) (c2 : Nat) (l2 : List ByteArray) (A3 : Option Addr) (c3 : Nat) (l3 : List Int) (w : World) (hr1 : Kd.C k48 w A1 l1.length l1) (hc1 : l1.length ≤ c1) (hr2 : Kd.C Kd.string w A2 l2.length l2) (hc2 : l2.length ≤ c2) (hr3 : Kd.C (Kd.int .i64) w A3 l3.length l3) (hc3 : l3.length ≤ c3) (hf : (leafV true l1 l2 l3 || innerV true l1 l2 l3) = true) (hm : l1.length < 2) :
    Calls Try.prog 18 #[.agg #[.bool true, .slice A1 l1.length c1, .slice A2 l2.length c2, .slice A3 l3.length c3]] w fun e w' => ∃ v1_ v2_ v3_ u1_ u2_ u3_ : Value, e = .returned (.tuple #[.agg #[.bool false, v1_, v2_, v3_], .string ⟨#[]⟩, .agg #[.bool false, u1_, u2_, u3_], .int .i64 7]) ∧ Kd.R k48 48 w' w.heap.size (fun _ => True) v1_ ([] : List S48) ∧ Kd.R Kd.string 9 w' w.heap.size (fun _ => True) v2_ ([] : List ByteArray) ∧ Kd.R (Kd.int .i64) 3 w' w.heap.size (fun _ => True) v3_ ([] : List Int) ∧ Kd.R k48 48 w' w.heap.size (fun _ => True) u1_ ([] : List S48) ∧ Kd.R Kd.string 9 w' w.heap.size (fun _ => True) u2_ ([] : List ByteArray) ∧ Kd.R (Kd.int .i64) 3 w' w.heap.size (fun _ => True) u3_ ([] : List Int) ∧ Below w.heap.size w w' := by
  have CK := Aside0.mk (fun W hw => node_Check.calls true A1 c1 l1 A2 c2 l2 A3 c3 l3 0 W (Kd.C_below hr1 hw) hc1 (Kd.C_below hr2 hw) hc2 (Kd.C_below hr3 hw) hc3 (by have := check_val true l1 l2 l3; rwa [if_pos hf] at this))
  have HR1 := Aside0.mk hr1
  have HR2 := Aside0.mk hr2
  have HR3 := Aside0.mk hr3
  clear hr1 hr2 hr3
  clear hf
  have d2 : decide ((l1.length : Int) < 2) = true := decide_eq_true (by omega)
  clear hm
  have BB0 := Below.refl w.heap.size w
  obtain ⟨wp0, hwp0⟩ : ∃ x, x = w.alloc (.cells #[.bool true, .slice A1 l1.length c1, .slice A2 l2.length c2, .slice A3 l3.length c3] 31) := ⟨_, rfl⟩
  have t_n := heap_alloc_new w (.cells #[.bool true, .slice A1 l1.length c1, .slice A2 l2.length c2, .slice A3 l3.length c3] 31)
  rw [← hwp0] at t_n
  have BB1 : Below w.heap.size w wp0 := by rw [hwp0]; exact below_alloc BB0 _
  have sz0 : wp0.heap.size = w.heap.size + 1 := by rw [hwp0]; simp
  obtain ⟨wp1, hwp1⟩ : ∃ x, x = wp0.alloc (.cells #[.bool false, .slice none 0 0, .slice none 0 0, .slice none 0 0] 31) := ⟨_, rfl⟩
  have t_r := heap_alloc_new wp0 (.cells #[.bool false, .slice none 0 0, .slice none 0 0, .slice none 0 0] 31)
  rw [← hwp1] at t_r
  rw [sz0] at t_r
  have BB2 : Below w.heap.size w wp1 := by rw [hwp1]; exact below_alloc BB1 _
  have sz1 : wp1.heap.size = w.heap.size + 2 := by rw [hwp1]; simp [sz0]
  replace t_n := (show wp1.heap[_]? = wp0.heap[_]? by rw [hwp1]; exact Lib.alloc_old wp0 (.cells #[.bool false, .slice none 0 0, .slice none 0 0, .slice none 0 0] 31) _ (blk_lt t_n)).trans t_n
  obtain ⟨wp2, hwp2⟩ : ∃ x, x = wp1.alloc (.cells #[.bool false, .slice none 0 0, .slice none 0 0, .slice none 0 0] 31) := ⟨_, rfl⟩
  have t_q := heap_alloc_new wp1 (.cells #[.bool false, .slice none 0 0, .slice none 0 0, .slice none 0 0] 31)
  rw [← hwp2] at t_q
  rw [sz1] at t_q
  have BB3 : Below w.heap.size w wp2 := by rw [hwp2]; exact below_alloc BB2 _
  have sz2 : wp2.heap.size = w.heap.size + 3 := by rw [hwp2]; simp [sz1]
  replace t_n := (show wp2.heap[_]? = wp1.heap[_]? by rw [hwp2]; exact Lib.alloc_old wp1 (.cells #[.bool false, .slice none 0 0, .slice none 0 0, .slice none 0 0] 31) _ (blk_lt t_n)).trans t_n
  replace t_r := (show wp2.heap[_]? = wp1.heap[_]? by rw [hwp2]; exact Lib.alloc_old wp1 (.cells #[.bool false, .slice none 0 0, .slice none 0 0, .slice none 0 0] 31) _ (blk_lt t_r)).trans t_r
  have HW0 : Aside0 (wp2 = (((w.alloc (.cells #[.bool true, .slice A1 l1.length c1, .slice A2 l2.length c2, .slice A3 l3.length c3] 31)).alloc (.cells #[.bool false, .slice none 0 0, .slice none 0 0, .slice none 0 0] 31)).alloc (.cells #[.bool false, .slice none 0 0, .slice none 0 0, .slice none 0 0] 31))) := ⟨by rw [hwp2, hwp1, hwp0]⟩
  have T_n := Aside0.mk t_n
  have T_r := Aside0.mk t_r
  have T_q := Aside0.mk t_q
  have BB := Aside0.mk BB3
  have SZ0 := Aside0.mk sz2
  clear t_n t_r t_q BB0 BB1 BB2 BB3 sz0 sz1 sz2 hwp0 hwp1 hwp2
  go_enter Try.func18, Try.ntmps18
  go_wp2_with fail
  rw [← HW0.out]
  refine (CK.out _ BB.out).mono ?_
  rintro e w7 ⟨rfl, hB⟩
  replace T_n := bm hB T_n; replace T_r := bm hB T_r; replace T_q := bm hB T_q; replace BB := xm hB BB
  clear hB
  have c_n0 := bc T_n 0 rfl; have c_n1 := bc T_n 1 rfl; have c_n2 := bc T_n 2 rfl; have c_n3 := bc T_n 3 rfl
  have c_r0 := bc T_r 0 rfl; have f_r0 := bf T_r 0; have c_r1 := bc T_r 1 rfl; have f_r1 := bf T_r 1; have c_r2 := bc T_r 2 rfl; have f_r2 := bf T_r 2; have c_r3 := bc T_r 3 rfl; have f_r3 := bf T_r 3
  have c_q0 := bc T_q 0 rfl; have f_q0 := bf T_q 0; have c_q1 := bc T_q 1 rfl; have f_q1 := bf T_q 1; have c_q2 := bc T_q 2 rfl; have f_q2 := bf T_q 2; have c_q3 := bc T_q 3 rfl; have f_q3 := bf T_q 3
  go_wp2_with fail
  clear c_r0 f_r0 c_r1 f_r1 c_r2 f_r2 c_r3 f_r3 c_q0 f_q0 c_q1 f_q1 c_q2 f_q2 c_q3 f_q3
  have hg := nd_grown4 w7 (w.heap.size + 1) (.bool false) (.slice none 0 0) (.slice none 0 0) (.slice none 0 0)
  have tn := nd_put4 w7 (w.heap.size + 1) 31 _ _ _ _ (.bool false) (.slice none 0 0) (.slice none 0 0) (.slice none 0 0) T_r.out
  obtain ⟨w8, hw8⟩ : ∃ x, x = ((((w7.setCell ⟨(w.heap.size + 1), 0, none⟩ (.bool false)).setCell ⟨(w.heap.size + 1), 1, none⟩ (.slice none 0 0)).setCell ⟨(w.heap.size + 1), 2, none⟩ (.slice none 0 0)).setCell ⟨(w.heap.size + 1), 3, none⟩ (.slice none 0 0)) := ⟨_, rfl⟩
  rw [← hw8] at hg tn
  rw [← hw8]
  clear hw8
  replace T_n := bg hg T_n (by omega)
  replace T_q := bg hg T_q (by omega)
  replace BB := Aside0.mk (nd_grown_below hg BB.out BB.out.size (by omega))
  replace T_r := Aside0.mk tn
  clear tn hg
  have hg := nd_grown4 w8 (w.heap.size + 2) (.bool false) (.slice none 0 0) (.slice none 0 0) (.slice none 0 0)
  have tn := nd_put4 w8 (w.heap.size + 2) 31 _ _ _ _ (.bool false) (.slice none 0 0) (.slice none 0 0) (.slice none 0 0) T_q.out
  obtain ⟨w9, hw9⟩ : ∃ x, x = ((((w8.setCell ⟨(w.heap.size + 2), 0, none⟩ (.bool false)).setCell ⟨(w.heap.size + 2), 1, none⟩ (.slice none 0 0)).setCell ⟨(w.heap.size + 2), 2, none⟩ (.slice none 0 0)).setCell ⟨(w.heap.size + 2), 3, none⟩ (.slice none 0 0)) := ⟨_, rfl⟩
  rw [← hw9] at hg tn
  rw [← hw9]
  clear hw9
  replace T_n := bg hg T_n (by omega)
  replace T_r := bg hg T_r (by omega)
  replace BB := Aside0.mk (nd_grown_below hg BB.out BB.out.size (by omega))
  replace T_q := Aside0.mk tn
  clear tn hg
  refine bodyPost_ret (results_ctct rfl _ _ (w.heap.size + 1) (w.heap.size + 2) 31 31 #[.bool false, .slice none 0 0, .slice none 0 0, .slice none 0 0] #[.bool false, .slice none 0 0, .slice none 0 0, .slice none 0 0] (0, 0) (0, 0) _ _ rfl T_r.out Try.underlying31 rfl (by kernel_rfl) rfl T_q.out Try.underlying31 rfl (by kernel_rfl)) rfl ?_
  exact ⟨_, _, _, _, _, _, rfl, Kd.R_nil _ _ _ _ _, Kd.R_nil _ _ _ _ _, Kd.R_nil _ _ _ _ _, Kd.R_nil _ _ _ _ _, Kd.R_nil _ _ _ _ _, Kd.R_nil _ _ _ _ _, BB.out⟩
set_option maxHeartbeats 4000000 in
set_option maxRecDepth 100000 in
theorem split_inner (A1 : Option Addr) (c1 : Nat) (l1 : List S48) (A2 : Option Addr) (c2 : Nat) (l2 : List ByteArray) (A3 : Option Addr) (c3 : Nat) (l3 : List Int) (w : World) (hr1 : Kd.C k48 w A1 l1.length l1) (hc1 : l1.length ≤ c1) (hr2 : Kd.C Kd.string w A2 l2.length l2) (hc2 : l2.length ≤ c2) (hr3 : Kd.C (Kd.int .i64) w A3 l3.length l3) (hc3 : l3.length ≤ c3) (hf : (leafV false l1 l2 l3 || innerV false l1 l2 l3) = true) (h4 : 4 ≤ l3.length) :
    Calls Try.prog 18 #[.agg #[.bool false, .slice A1 l1.length c1, .slice A2 l2.length c2, .slice A3 l3.length c3]] w fun e w' => ∃ v1_ v2_ v3_ u1_ u2_ u3_ : Value, e = .returned (.tuple #[.agg #[.bool false, v1_, v2_, v3_], .string (l2.getD (l3.length / 2 - 1) ⟨#[]⟩), .agg #[.bool false, u1_, u2_, u3_], .int .i64 0]) ∧ Kd.R k48 48 w' w.heap.size (fun _ => True) v1_ ([] : List S48) ∧ Kd.R Kd.string 9 w' w.heap.size (fun _ => True) v2_ (l2.take (l3.length / 2 - 1)) ∧ Kd.R (Kd.int .i64) 3 w' w.heap.size (fun _ => True) v3_ (l3.take (l3.length / 2)) ∧ Kd.R k48 48 w' w.heap.size (fun _ => True) u1_ ([] : List S48) ∧ Kd.R Kd.string 9 w' w.heap.size (fun _ => True) u2_ (l2.drop (l3.length / 2)) ∧ Kd.R (Kd.int .i64) 3 w' w.heap.size (fun _ => True) u3_ (l3.drop (l3.length / 2)) ∧ Below w.heap.size w w' := by
  have CK := Aside0.mk (fun W hw => node_Check.calls false A1 c1 l1 A2 c2 l2 A3 c3 l3 0 W (Kd.C_below hr1 hw) hc1 (Kd.C_below hr2 hw) hc2 (Kd.C_below hr3 hw) hc3 (by have := check_val false l1 l2 l3; rwa [if_pos hf] at this))
  have HR1 := Aside0.mk hr1
  have HR2 := Aside0.mk hr2
  have HR3 := Aside0.mk hr3
  clear hr1 hr2 hr3
  have d2 : decide ((l3.length : Int) < 4) = false := decide_eq_false (by omega)
  have hin := innerV_true (by simpa [leafV] using hf : innerV false l1 l2 l3 = true)
  have hl255 := hin.2.2.2.1
  have hlk1 : l2.length + 1 ≤ l3.length := Nat.le_of_eq hin.2.2.2.2.1
  have hlk2 : l3.length ≤ l2.length + 1 := Nat.le_of_eq hin.2.2.2.2.1.symm
  clear hf hin
  obtain ⟨i, hi⟩ : ∃ i, l3.length / 2 = i := ⟨_, rfl⟩
  have hq : (l3.length : Int) / 2 = (i : Int) := by omega
  obtain ⟨j, hj⟩ : ∃ j, i - 1 = j := ⟨_, rfl⟩
  have hj1 : (i : Int) - 1 = (j : Int) := by omega
  have hi1 : i < l3.length := by omega
  have hi2 : j < i := by omega
  have hwj : IntKind.i64.wrap (j : Int) = (j : Int) := by rw [IntKind.wrap_i64]; omega
  have hi3 : i ≤ c3 := by omega
  have hj3 : j ≤ c2 := by omega
  have hi4 : i ≤ c2 := by omega
  have hi5 : i ≤ l3.length := by omega
  have hi6 : i ≤ l2.length := by omega
  rw [hi, hj]
  clear hi hj
  obtain ⟨K1, hK1⟩ : ∃ x, l2.take j = x := ⟨_, rfl⟩
  obtain ⟨D1, hD1⟩ : ∃ x, l3.take i = x := ⟨_, rfl⟩
  obtain ⟨K2, hK2⟩ : ∃ x, l2.drop i = x := ⟨_, rfl⟩
  obtain ⟨D2, hD2⟩ : ∃ x, l3.drop i = x := ⟨_, rfl⟩
  rw [hK1, hD1, hK2, hD2]
  have LK1 : Aside0 (K1.length = j) := ⟨by rw [← hK1, List.length_take]; omega⟩
  have LD1 : Aside0 (D1.length = i) := ⟨by rw [← hD1, List.length_take]; omega⟩
  have LK2 : Aside0 (K2.length = l2.length - i) := ⟨by rw [← hK2, List.length_drop]⟩
  have LD2 : Aside0 (D2.length = l3.length - i) := ⟨by rw [← hD2, List.length_drop]⟩
  have CK1 : Aside0 (Kd.C Kd.string w A2 K1.length K1) := ⟨by rw [← hK1]; exact Kd.C_take HR2.out (by omega)⟩
  have CD1 : Aside0 (Kd.C (Kd.int .i64) w A3 D1.length D1) := ⟨by rw [← hD1]; exact Kd.C_take HR3.out (by omega)⟩
  have CK2 : Aside0 (Kd.C Kd.string w (if c2 = i then A2 else A2.map (·.add i)) K2.length K2) := ⟨by rw [← hK2]; have := Kd.C_drop (m := i) HR2.out (by omega) hc2; rwa [show i * Kd.string.sz = i from Nat.mul_one i] at this⟩
  have CD2 : Aside0 (Kd.C (Kd.int .i64) w (if c3 = i then A3 else A3.map (·.add i)) D2.length D2) := ⟨by rw [← hD2]; have := Kd.C_drop (m := i) HR3.out (by omega) hc3; rwa [show i * (Kd.int .i64).sz = i from Nat.mul_one i] at this⟩
  clear hK1 hD1 hK2 hD2
  have EL : Aside0 (∃ ad, A2 = some ad ∧ ∀ W, Below w.heap.size w W → W.cell? (ad.add j) = some (.string (l2.getD j ⟨#[]⟩))) := ⟨by
    obtain ⟨ad, c, e, _, hK, hc0⟩ := Kd.C_get HR2.out ⟨#[]⟩ (j : Int) (by omega) (by omega)
    have hc : ∀ j' u, c[j']? = some u → w.cell? (ad.add ((j : Int).toNat * 1 + j')) = some u := hc0
    obtain rfl : c = [.string _] := hK
    have hq := hc 0 _ rfl
    rw [Nat.mul_one, Nat.add_zero, Int.toNat_natCast] at hq
    exact ⟨ad, e, fun W hb => nd_cell hb hq⟩⟩
  obtain ⟨kx, hkx⟩ : ∃ x, l2.getD j ⟨#[]⟩ = x := ⟨_, rfl⟩
  rw [hkx] at EL ⊢
  clear hkx
  have BB0 := Below.refl w.heap.size w
  obtain ⟨wp0, hwp0⟩ : ∃ x, x = w.alloc (.cells #[.bool false, .slice A1 l1.length c1, .slice A2 l2.length c2, .slice A3 l3.length c3] 31) := ⟨_, rfl⟩
  have t_n := heap_alloc_new w (.cells #[.bool false, .slice A1 l1.length c1, .slice A2 l2.length c2, .slice A3 l3.length c3] 31)
  rw [← hwp0] at t_n
  have BB1 : Below w.heap.size w wp0 := by rw [hwp0]; exact below_alloc BB0 _
  have sz0 : wp0.heap.size = w.heap.size + 1 := by rw [hwp0]; simp
  obtain ⟨wp1, hwp1⟩ : ∃ x, x = wp0.alloc (.cells #[.bool false, .slice none 0 0, .slice none 0 0, .slice none 0 0] 31) := ⟨_, rfl⟩
  have t_r := heap_alloc_new wp0 (.cells #[.bool false, .slice none 0 0, .slice none 0 0, .slice none 0 0] 31)
  rw [← hwp1] at t_r
  rw [sz0] at t_r
  have BB2 : Below w.heap.size w wp1 := by rw [hwp1]; exact below_alloc BB1 _
  have sz1 : wp1.heap.size = w.heap.size + 2 := by rw [hwp1]; simp [sz0]
  replace t_n := (show wp1.heap[_]? = wp0.heap[_]? by rw [hwp1]; exact Lib.alloc_old wp0 (.cells #[.bool false, .slice none 0 0, .slice none 0 0, .slice none 0 0] 31) _ (blk_lt t_n)).trans t_n
  obtain ⟨wp2, hwp2⟩ : ∃ x, x = wp1.alloc (.cells #[.bool false, .slice none 0 0, .slice none 0 0, .slice none 0 0] 31) := ⟨_, rfl⟩
  have t_q := heap_alloc_new wp1 (.cells #[.bool false, .slice none 0 0, .slice none 0 0, .slice none 0 0] 31)
  rw [← hwp2] at t_q
  rw [sz1] at t_q
  have BB3 : Below w.heap.size w wp2 := by rw [hwp2]; exact below_alloc BB2 _
  have sz2 : wp2.heap.size = w.heap.size + 3 := by rw [hwp2]; simp [sz1]
  replace t_n := (show wp2.heap[_]? = wp1.heap[_]? by rw [hwp2]; exact Lib.alloc_old wp1 (.cells #[.bool false, .slice none 0 0, .slice none 0 0, .slice none 0 0] 31) _ (blk_lt t_n)).trans t_n
  replace t_r := (show wp2.heap[_]? = wp1.heap[_]? by rw [hwp2]; exact Lib.alloc_old wp1 (.cells #[.bool false, .slice none 0 0, .slice none 0 0, .slice none 0 0] 31) _ (blk_lt t_r)).trans t_r
  have HW0 : Aside0 (wp2 = (((w.alloc (.cells #[.bool false, .slice A1 l1.length c1, .slice A2 l2.length c2, .slice A3 l3.length c3] 31)).alloc (.cells #[.bool false, .slice none 0 0, .slice none 0 0, .slice none 0 0] 31)).alloc (.cells #[.bool false, .slice none 0 0, .slice none 0 0, .slice none 0 0] 31))) := ⟨by rw [hwp2, hwp1, hwp0]⟩
  have T_n := Aside0.mk t_n
  have T_r := Aside0.mk t_r
  have T_q := Aside0.mk t_q
  have BB := Aside0.mk BB3
  have SZ0 := Aside0.mk sz2
  clear t_n t_r t_q BB0 BB1 BB2 BB3 sz0 sz1 sz2 hwp0 hwp1 hwp2
  go_enter Try.func18, Try.ntmps18
  go_wp2_with fail
  rw [← HW0.out]
  refine (CK.out _ BB.out).mono ?_
  rintro e w10 ⟨rfl, hB⟩
  replace T_n := bm hB T_n; replace T_r := bm hB T_r; replace T_q := bm hB T_q; replace BB := xm hB BB
  clear hB
  have c_n0 := bc T_n 0 rfl; have c_n1 := bc T_n 1 rfl; have c_n2 := bc T_n 2 rfl; have c_n3 := bc T_n 3 rfl
  go_upto_region 8 with fail
  go_cut [7] from 47 to 58 (fun s7 wx => ∃ (g7 : Nat) (AK : Option Addr) (cK : Nat) (AD : Option Addr) (cD : Nat), s7 = .pointer (some ⟨g7, 0, none⟩) ∧ Aside0 (wx.heap[g7]? = some (.cells #[.bool false, .slice none 0 0, .slice AK (K1).length cK, .slice AD (D1).length cD] 31 (0, 0))) ∧ Aside0 (Kd.R Kd.string 9 wx w.heap.size (fun _ => True) (.slice AK (K1).length cK) (K1)) ∧ Aside0 (Kd.R (Kd.int .i64) 3 wx w.heap.size (fun _ => True) (.slice AD (D1).length cD) (D1)) ∧ Aside0 (w.heap.size ≤ g7) ∧ Aside0 (w.heap.size ≠ g7) ∧ Aside0 ((w.heap.size + 1) ≠ g7) ∧ Aside0 ((w.heap.size + 2) ≠ g7) ∧ Aside0 (wx.heap[w.heap.size]? = some (.cells #[.bool false, .slice A1 l1.length c1, .slice A2 l2.length c2, .slice A3 l3.length c3] 31 (0, 0))) ∧ Aside0 (wx.heap[(w.heap.size + 1)]? = some (.cells #[.bool false, .slice none 0 0, .slice none 0 0, .slice none 0 0] 31 (0, 0))) ∧ Aside0 (wx.heap[(w.heap.size + 2)]? = some (.cells #[.bool false, .slice none 0 0, .slice none 0 0, .slice none 0 0] 31 (0, 0))) ∧ Aside0 (Below w.heap.size w wx))
  case first =>
    have MK : Aside0 (∀ W, Below w10.heap.size w10 W → Below w10.heap.size w10 W ∧ W.cell? ⟨w.heap.size, 0, none⟩ = some (.bool false) ∧ W.cell? ⟨w.heap.size, 1, none⟩ = some (.slice A1 l1.length c1) ∧ W.cell? ⟨w.heap.size, 2, none⟩ = some (.slice A2 l2.length c2) ∧ W.cell? ⟨w.heap.size, 3, none⟩ = some (.slice A3 l3.length c3)) := ⟨fun W hb => ⟨hb, nd_cell hb c_n0, nd_cell hb c_n1, nd_cell hb c_n2, nd_cell hb c_n3⟩⟩
    clear c_n0 c_n1 c_n2 c_n3
    have SB := Aside0.mk (Below.refl w10.heap.size w10)
    refine wp_region_held_drew (S := fun W => Below w10.heap.size w10 W ∧ W.cell? ⟨w.heap.size, 0, none⟩ = some (.bool false) ∧ W.cell? ⟨w.heap.size, 1, none⟩ = some (.slice A1 l1.length c1) ∧ W.cell? ⟨w.heap.size, 2, none⟩ = some (.slice A2 l2.length c2) ∧ W.cell? ⟨w.heap.size, 3, none⟩ = some (.slice A3 l3.length c3)) (by kernel_rfl) ?_ (fun hHeld => ?_)
    · try dsimp only
      exact MK.out _ (Below.drew (Below.refl _ _))
    have hB : Below w10.heap.size w10 w10.drew := below_drew1 (Below.refl _ _)
    clear hHeld
    obtain ⟨w11, hw11⟩ : ∃ x, x = w10.drew := ⟨_, rfl⟩
    rw [← hw11] at hB ⊢
    clear hw11
    replace T_n := bm hB T_n; replace T_r := bm hB T_r; replace T_q := bm hB T_q; replace BB := xm hB BB; replace SB := xm hB SB
    clear hB
    have hHeld := MK.out _ SB.out
    refine sp_take 0 hHeld ?_
    refine sp_take 1 hHeld ?_
    refine sp_take 2 hHeld ?_
    refine sp_take 3 hHeld ?_
    refine sp_take 5 hHeld ?_
    refine sp_take 6 hHeld ?_
    refine sp_take 7 hHeld ?_
    refine sp_take 8 hHeld ?_
    refine sp_take 9 hHeld ?_
    refine wpAnyH_ready (rs := [4, 12]) (by kernel_rfl) (by simp) ?_
    refine (AllReadyH.cons rfl (fun K hK => ?_) (AllReadyH.cons rfl (fun K hK => ?_) AllReadyH.nil))
    · have BBo := BB
      have CC := slices_Clone_int_int.calls (A3) (c3) (D1) (D1) w11 (Kd.C_below CD1.out BB.out) (by rw [LD1.out]; omega) (by unfold slices_Clone_int_int.f; rw [if_pos (by rw [LD1.out]; omega)])
      rw [LD1.out] at CC
      go_simp
      refine (CC).mono ?_
      rintro e w12 ⟨v0, rfl, hR, hB⟩
      replace T_n := bm hB T_n; replace T_r := bm hB T_r; replace T_q := bm hB T_q; replace BB := xm hB BB; replace SB := xm hB SB
      clear hB
      have hR' := Kd.R_lower hR (Nat.le_trans BBo.out.size (Nat.le_refl _))
      obtain ⟨A13, c14, rfl⟩ := Kd.R_slice hR
      have R_d7 := Aside0.mk hR'
      clear hR hR' BBo CC
      go_simp
      refine hK.out _ _ ?_ (fun hNew => ?_)
      · try dsimp only
        exact MK.out _ SB.out
      clear hK K hHeld hNew
      have hHeld := MK.out _ SB.out
      refine wpAnyH_ready (rs := [10, 12]) (by kernel_rfl) (by simp) ?_
      refine (AllReadyH.cons rfl (fun K hK => ?_) (AllReadyH.cons rfl (fun K hK => ?_) AllReadyH.nil))
      · have BBo := BB
        have CC := slices_Clone_string_string.calls (A2) (c2) (K1) (K1) w12 (Kd.C_below CK1.out BB.out) (by rw [LK1.out]; omega) (by unfold slices_Clone_string_string.f; rw [if_pos (by rw [LK1.out]; omega)])
        rw [LK1.out] at CC
        go_simp
        refine (CC).mono ?_
        rintro e w15 ⟨v0, rfl, hR, hB⟩
        replace T_n := bm hB T_n; replace T_r := bm hB T_r; replace T_q := bm hB T_q; replace R_d7 := rm hB R_d7; replace BB := xm hB BB; replace SB := xm hB SB
        clear hB
        have hR' := Kd.R_lower hR (Nat.le_trans BBo.out.size (Nat.le_refl _))
        obtain ⟨A16, c17, rfl⟩ := Kd.R_slice hR
        have R_k7 := Aside0.mk hR'
        clear hR hR' BBo CC
        go_simp
        refine hK.out _ _ ?_ (fun hNew => ?_)
        · try dsimp only
          exact MK.out _ SB.out
        clear hK K hHeld hNew
        have hHeld := MK.out _ SB.out
        refine sp_take 11 hHeld ?_
        refine wpAnyH_ready (rs := [12]) (by kernel_rfl) (by simp) ?_
        refine (AllReadyH.cons rfl (fun K hK => ?_) AllReadyH.nil)
        go_simp
        obtain ⟨g19, hg19⟩ : ∃ n, n = w15.heap.size := ⟨_, rfl⟩
        obtain ⟨w18, hw18⟩ : ∃ x, x = w15.alloc (.cells #[.bool false, .slice none 0 0, .slice none 0 0, .slice none 0 0] 31) := ⟨_, rfl⟩
        have tn := heap_alloc_new w15 (.cells #[.bool false, .slice none 0 0, .slice none 0 0, .slice none 0 0] 31)
        have hB := below_alloc (Below.refl w15.heap.size w15) (.cells #[.bool false, .slice none 0 0, .slice none 0 0, .slice none 0 0] 31)
        rw [← hw18] at tn hB
        rw [← hg19] at tn
        have GBB_b7 : Aside0 (w.heap.size ≤ g19) := ⟨by rw [hg19]; exact BB.out.size⟩
        have GSB_b7 : Aside0 (w10.heap.size ≤ g19) := ⟨by rw [hg19]; exact SB.out.size⟩
        have NE_b7_n : Aside0 (w.heap.size ≠ g19) := ⟨by have := blk_lt T_n.out; omega⟩
        have NE_b7_r : Aside0 ((w.heap.size + 1) ≠ g19) := ⟨by have := blk_lt T_r.out; omega⟩
        have NE_b7_q : Aside0 ((w.heap.size + 2) ≠ g19) := ⟨by have := blk_lt T_q.out; omega⟩
        replace T_n := bm hB T_n; replace T_r := bm hB T_r; replace T_q := bm hB T_q; replace R_d7 := rm hB R_d7; replace R_k7 := rm hB R_k7; replace BB := xm hB BB; replace SB := xm hB SB
        have T_b7 := Aside0.mk tn
        clear tn hB
        rw [← hw18]
        try rw [← hg19]
        clear hw18 hg19
        refine hK.out _ _ ?_ (fun hNew => ?_)
        · try dsimp only
          exact MK.out _ SB.out
        clear hK K hHeld hNew
        have hHeld := MK.out _ SB.out
        refine wpAnyH_ready (rs := [13]) (by kernel_rfl) (by simp) ?_
        refine (AllReadyH.cons rfl (fun K hK => ?_) AllReadyH.nil)
        have c_b70 := bc T_b7 0 rfl; have f_b70 := bf T_b7 0; have c_b71 := bc T_b7 1 rfl; have f_b71 := bf T_b7 1; have c_b72 := bc T_b7 2 rfl; have f_b72 := bf T_b7 2; have c_b73 := bc T_b7 3 rfl; have f_b73 := bf T_b7 3
        go_simp
        clear c_b70 f_b70 c_b71 f_b71 c_b72 f_b72 c_b73 f_b73
        have hg := nd_grown4 w18 (g19) (.bool false) (.slice none 0 0) (.slice A16 (K1).length c17) (.slice A13 (D1).length c14)
        have tn := nd_put4 w18 (g19) 31 _ _ _ _ (.bool false) (.slice none 0 0) (.slice A16 (K1).length c17) (.slice A13 (D1).length c14) T_b7.out
        obtain ⟨w20, hw20⟩ : ∃ x, x = ((((w18.setCell ⟨g19, 0, none⟩ (.bool false)).setCell ⟨g19, 1, none⟩ (.slice none 0 0)).setCell ⟨g19, 2, none⟩ (.slice A16 (K1).length c17)).setCell ⟨g19, 3, none⟩ (.slice A13 (D1).length c14)) := ⟨_, rfl⟩
        rw [← hw20] at hg tn
        rw [← hw20]
        clear hw20
        replace R_d7 := rg hg T_b7 R_d7 (by decide)
        replace R_k7 := rg hg T_b7 R_k7 (by decide)
        replace T_n := bg hg T_n NE_b7_n.out
        replace T_r := bg hg T_r NE_b7_r.out
        replace T_q := bg hg T_q NE_b7_q.out
        replace BB := Aside0.mk (nd_grown_below hg BB.out BB.out.size GBB_b7.out)
        replace SB := Aside0.mk (nd_grown_below hg SB.out SB.out.size GSB_b7.out)
        replace T_b7 := Aside0.mk tn
        clear tn hg
        refine hK.out _ _ ?_ (fun hNew => ?_)
        · try dsimp only
          exact MK.out _ SB.out
        clear hK K hHeld hNew
        have hHeld := MK.out _ SB.out
        refine wpAnyH_done (by kernel_rfl) ?_ _
        clear hHeld MK
        clear SB
        go_wp2_with fail
        go_meet
        exact ⟨_, _, _, _, _, rfl, T_b7, R_k7, R_d7, GBB_b7, NE_b7_n, NE_b7_r, NE_b7_q, T_n, T_r, T_q, BB⟩
      · go_simp
        obtain ⟨g22, hg22⟩ : ∃ n, n = w12.heap.size := ⟨_, rfl⟩
        obtain ⟨w21, hw21⟩ : ∃ x, x = w12.alloc (.cells #[.bool false, .slice none 0 0, .slice none 0 0, .slice none 0 0] 31) := ⟨_, rfl⟩
        have tn := heap_alloc_new w12 (.cells #[.bool false, .slice none 0 0, .slice none 0 0, .slice none 0 0] 31)
        have hB := below_alloc (Below.refl w12.heap.size w12) (.cells #[.bool false, .slice none 0 0, .slice none 0 0, .slice none 0 0] 31)
        rw [← hw21] at tn hB
        rw [← hg22] at tn
        have GBB_b7 : Aside0 (w.heap.size ≤ g22) := ⟨by rw [hg22]; exact BB.out.size⟩
        have GSB_b7 : Aside0 (w10.heap.size ≤ g22) := ⟨by rw [hg22]; exact SB.out.size⟩
        have NE_b7_n : Aside0 (w.heap.size ≠ g22) := ⟨by have := blk_lt T_n.out; omega⟩
        have NE_b7_r : Aside0 ((w.heap.size + 1) ≠ g22) := ⟨by have := blk_lt T_r.out; omega⟩
        have NE_b7_q : Aside0 ((w.heap.size + 2) ≠ g22) := ⟨by have := blk_lt T_q.out; omega⟩
        replace T_n := bm hB T_n; replace T_r := bm hB T_r; replace T_q := bm hB T_q; replace R_d7 := rm hB R_d7; replace BB := xm hB BB; replace SB := xm hB SB
        have T_b7 := Aside0.mk tn
        clear tn hB
        rw [← hw21]
        try rw [← hg22]
        clear hw21 hg22
        refine hK.out _ _ ?_ (fun hNew => ?_)
        · try dsimp only
          exact MK.out _ SB.out
        clear hK K hHeld hNew
        have hHeld := MK.out _ SB.out
        refine wpAnyH_ready (rs := [10]) (by kernel_rfl) (by simp) ?_
        refine (AllReadyH.cons rfl (fun K hK => ?_) AllReadyH.nil)
        have BBo := BB
        have CC := slices_Clone_string_string.calls (A2) (c2) (K1) (K1) w21 (Kd.C_below CK1.out BB.out) (by rw [LK1.out]; omega) (by unfold slices_Clone_string_string.f; rw [if_pos (by rw [LK1.out]; omega)])
        rw [LK1.out] at CC
        go_simp
        refine (CC).mono ?_
        rintro e w23 ⟨v0, rfl, hR, hB⟩
        replace T_n := bm hB T_n; replace T_r := bm hB T_r; replace T_q := bm hB T_q; replace T_b7 := bm hB T_b7; replace R_d7 := rm hB R_d7; replace BB := xm hB BB; replace SB := xm hB SB
        clear hB
        have hR' := Kd.R_lower hR (Nat.le_trans BBo.out.size (Nat.le_refl _))
        obtain ⟨A24, c25, rfl⟩ := Kd.R_slice hR
        have R_k7 := Aside0.mk hR'
        clear hR hR' BBo CC
        go_simp
        refine hK.out _ _ ?_ (fun hNew => ?_)
        · try dsimp only
          exact MK.out _ SB.out
        clear hK K hHeld hNew
        have hHeld := MK.out _ SB.out
        refine sp_take 11 hHeld ?_
        refine wpAnyH_ready (rs := [13]) (by kernel_rfl) (by simp) ?_
        refine (AllReadyH.cons rfl (fun K hK => ?_) AllReadyH.nil)
        have c_b70 := bc T_b7 0 rfl; have f_b70 := bf T_b7 0; have c_b71 := bc T_b7 1 rfl; have f_b71 := bf T_b7 1; have c_b72 := bc T_b7 2 rfl; have f_b72 := bf T_b7 2; have c_b73 := bc T_b7 3 rfl; have f_b73 := bf T_b7 3
        go_simp
        clear c_b70 f_b70 c_b71 f_b71 c_b72 f_b72 c_b73 f_b73
        have hg := nd_grown4 w23 (g22) (.bool false) (.slice none 0 0) (.slice A24 (K1).length c25) (.slice A13 (D1).length c14)
        have tn := nd_put4 w23 (g22) 31 _ _ _ _ (.bool false) (.slice none 0 0) (.slice A24 (K1).length c25) (.slice A13 (D1).length c14) T_b7.out
        obtain ⟨w26, hw26⟩ : ∃ x, x = ((((w23.setCell ⟨g22, 0, none⟩ (.bool false)).setCell ⟨g22, 1, none⟩ (.slice none 0 0)).setCell ⟨g22, 2, none⟩ (.slice A24 (K1).length c25)).setCell ⟨g22, 3, none⟩ (.slice A13 (D1).length c14)) := ⟨_, rfl⟩
        rw [← hw26] at hg tn
        rw [← hw26]
        clear hw26
        replace R_d7 := rg hg T_b7 R_d7 (by decide)
        replace R_k7 := rg hg T_b7 R_k7 (by decide)
        replace T_n := bg hg T_n NE_b7_n.out
        replace T_r := bg hg T_r NE_b7_r.out
        replace T_q := bg hg T_q NE_b7_q.out
        replace BB := Aside0.mk (nd_grown_below hg BB.out BB.out.size GBB_b7.out)
        replace SB := Aside0.mk (nd_grown_below hg SB.out SB.out.size GSB_b7.out)
        replace T_b7 := Aside0.mk tn
        clear tn hg
        refine hK.out _ _ ?_ (fun hNew => ?_)
        · try dsimp only
          exact MK.out _ SB.out
        clear hK K hHeld hNew
        have hHeld := MK.out _ SB.out
        refine wpAnyH_done (by kernel_rfl) ?_ _
        clear hHeld MK
        clear SB
        go_wp2_with fail
        go_meet
        exact ⟨_, _, _, _, _, rfl, T_b7, R_k7, R_d7, GBB_b7, NE_b7_n, NE_b7_r, NE_b7_q, T_n, T_r, T_q, BB⟩
    · go_simp
      obtain ⟨g28, hg28⟩ : ∃ n, n = w11.heap.size := ⟨_, rfl⟩
      obtain ⟨w27, hw27⟩ : ∃ x, x = w11.alloc (.cells #[.bool false, .slice none 0 0, .slice none 0 0, .slice none 0 0] 31) := ⟨_, rfl⟩
      have tn := heap_alloc_new w11 (.cells #[.bool false, .slice none 0 0, .slice none 0 0, .slice none 0 0] 31)
      have hB := below_alloc (Below.refl w11.heap.size w11) (.cells #[.bool false, .slice none 0 0, .slice none 0 0, .slice none 0 0] 31)
      rw [← hw27] at tn hB
      rw [← hg28] at tn
      have GBB_b7 : Aside0 (w.heap.size ≤ g28) := ⟨by rw [hg28]; exact BB.out.size⟩
      have GSB_b7 : Aside0 (w10.heap.size ≤ g28) := ⟨by rw [hg28]; exact SB.out.size⟩
      have NE_b7_n : Aside0 (w.heap.size ≠ g28) := ⟨by have := blk_lt T_n.out; omega⟩
      have NE_b7_r : Aside0 ((w.heap.size + 1) ≠ g28) := ⟨by have := blk_lt T_r.out; omega⟩
      have NE_b7_q : Aside0 ((w.heap.size + 2) ≠ g28) := ⟨by have := blk_lt T_q.out; omega⟩
      replace T_n := bm hB T_n; replace T_r := bm hB T_r; replace T_q := bm hB T_q; replace BB := xm hB BB; replace SB := xm hB SB
      have T_b7 := Aside0.mk tn
      clear tn hB
      rw [← hw27]
      try rw [← hg28]
      clear hw27 hg28
      refine hK.out _ _ ?_ (fun hNew => ?_)
      · try dsimp only
        exact MK.out _ SB.out
      clear hK K hHeld hNew
      have hHeld := MK.out _ SB.out
      refine wpAnyH_ready (rs := [4]) (by kernel_rfl) (by simp) ?_
      refine (AllReadyH.cons rfl (fun K hK => ?_) AllReadyH.nil)
      have BBo := BB
      have CC := slices_Clone_int_int.calls (A3) (c3) (D1) (D1) w27 (Kd.C_below CD1.out BB.out) (by rw [LD1.out]; omega) (by unfold slices_Clone_int_int.f; rw [if_pos (by rw [LD1.out]; omega)])
      rw [LD1.out] at CC
      go_simp
      refine (CC).mono ?_
      rintro e w29 ⟨v0, rfl, hR, hB⟩
      replace T_n := bm hB T_n; replace T_r := bm hB T_r; replace T_q := bm hB T_q; replace T_b7 := bm hB T_b7; replace BB := xm hB BB; replace SB := xm hB SB
      clear hB
      have hR' := Kd.R_lower hR (Nat.le_trans BBo.out.size (Nat.le_refl _))
      obtain ⟨A30, c31, rfl⟩ := Kd.R_slice hR
      have R_d7 := Aside0.mk hR'
      clear hR hR' BBo CC
      go_simp
      refine hK.out _ _ ?_ (fun hNew => ?_)
      · try dsimp only
        exact MK.out _ SB.out
      clear hK K hHeld hNew
      have hHeld := MK.out _ SB.out
      refine wpAnyH_ready (rs := [10]) (by kernel_rfl) (by simp) ?_
      refine (AllReadyH.cons rfl (fun K hK => ?_) AllReadyH.nil)
      have BBo := BB
      have CC := slices_Clone_string_string.calls (A2) (c2) (K1) (K1) w29 (Kd.C_below CK1.out BB.out) (by rw [LK1.out]; omega) (by unfold slices_Clone_string_string.f; rw [if_pos (by rw [LK1.out]; omega)])
      rw [LK1.out] at CC
      go_simp
      refine (CC).mono ?_
      rintro e w32 ⟨v0, rfl, hR, hB⟩
      replace T_n := bm hB T_n; replace T_r := bm hB T_r; replace T_q := bm hB T_q; replace T_b7 := bm hB T_b7; replace R_d7 := rm hB R_d7; replace BB := xm hB BB; replace SB := xm hB SB
      clear hB
      have hR' := Kd.R_lower hR (Nat.le_trans BBo.out.size (Nat.le_refl _))
      obtain ⟨A33, c34, rfl⟩ := Kd.R_slice hR
      have R_k7 := Aside0.mk hR'
      clear hR hR' BBo CC
      go_simp
      refine hK.out _ _ ?_ (fun hNew => ?_)
      · try dsimp only
        exact MK.out _ SB.out
      clear hK K hHeld hNew
      have hHeld := MK.out _ SB.out
      refine sp_take 11 hHeld ?_
      refine wpAnyH_ready (rs := [13]) (by kernel_rfl) (by simp) ?_
      refine (AllReadyH.cons rfl (fun K hK => ?_) AllReadyH.nil)
      have c_b70 := bc T_b7 0 rfl; have f_b70 := bf T_b7 0; have c_b71 := bc T_b7 1 rfl; have f_b71 := bf T_b7 1; have c_b72 := bc T_b7 2 rfl; have f_b72 := bf T_b7 2; have c_b73 := bc T_b7 3 rfl; have f_b73 := bf T_b7 3
      go_simp
      clear c_b70 f_b70 c_b71 f_b71 c_b72 f_b72 c_b73 f_b73
      have hg := nd_grown4 w32 (g28) (.bool false) (.slice none 0 0) (.slice A33 (K1).length c34) (.slice A30 (D1).length c31)
      have tn := nd_put4 w32 (g28) 31 _ _ _ _ (.bool false) (.slice none 0 0) (.slice A33 (K1).length c34) (.slice A30 (D1).length c31) T_b7.out
      obtain ⟨w35, hw35⟩ : ∃ x, x = ((((w32.setCell ⟨g28, 0, none⟩ (.bool false)).setCell ⟨g28, 1, none⟩ (.slice none 0 0)).setCell ⟨g28, 2, none⟩ (.slice A33 (K1).length c34)).setCell ⟨g28, 3, none⟩ (.slice A30 (D1).length c31)) := ⟨_, rfl⟩
      rw [← hw35] at hg tn
      rw [← hw35]
      clear hw35
      replace R_d7 := rg hg T_b7 R_d7 (by decide)
      replace R_k7 := rg hg T_b7 R_k7 (by decide)
      replace T_n := bg hg T_n NE_b7_n.out
      replace T_r := bg hg T_r NE_b7_r.out
      replace T_q := bg hg T_q NE_b7_q.out
      replace BB := Aside0.mk (nd_grown_below hg BB.out BB.out.size GBB_b7.out)
      replace SB := Aside0.mk (nd_grown_below hg SB.out SB.out.size GSB_b7.out)
      replace T_b7 := Aside0.mk tn
      clear tn hg
      refine hK.out _ _ ?_ (fun hNew => ?_)
      · try dsimp only
        exact MK.out _ SB.out
      clear hK K hHeld hNew
      have hHeld := MK.out _ SB.out
      refine wpAnyH_done (by kernel_rfl) ?_ _
      clear hHeld MK
      clear SB
      go_wp2_with fail
      go_meet
      exact ⟨_, _, _, _, _, rfl, T_b7, R_k7, R_d7, GBB_b7, NE_b7_n, NE_b7_r, NE_b7_q, T_n, T_r, T_q, BB⟩
  case rest =>
    clear c_n0 c_n1 c_n2 c_n3
    clear T_n T_r T_q BB
    obtain ⟨g40, A36, c37, A38, c39, rfl, T_b7, R_k7, R_d7, GBB_b7, NE_b7_n, NE_b7_r, NE_b7_q, T_n, T_r, T_q, BB⟩ := hcut
    obtain ⟨w41, hw41⟩ : ∃ x, x = wc := ⟨_, rfl⟩
    subst hw41
    have c_n0 := bc T_n 0 rfl; have c_n1 := bc T_n 1 rfl; have c_n2 := bc T_n 2 rfl; have c_n3 := bc T_n 3 rfl
    go_upto_region 9 with fail
    go_cut [8] from 59 to 69 (fun s7 wx => ∃ (g7 : Nat) (AK : Option Addr) (cK : Nat) (AD : Option Addr) (cD : Nat), s7 = .pointer (some ⟨g7, 0, none⟩) ∧ Aside0 (wx.heap[g7]? = some (.cells #[.bool false, .slice none 0 0, .slice AK (K2).length cK, .slice AD (D2).length cD] 31 (0, 0))) ∧ Aside0 (Kd.R Kd.string 9 wx w.heap.size (fun _ => True) (.slice AK (K2).length cK) (K2)) ∧ Aside0 (Kd.R (Kd.int .i64) 3 wx w.heap.size (fun _ => True) (.slice AD (D2).length cD) (D2)) ∧ Aside0 (w.heap.size ≤ g7) ∧ Aside0 (w.heap.size ≠ g7) ∧ Aside0 ((w.heap.size + 1) ≠ g7) ∧ Aside0 ((w.heap.size + 2) ≠ g7) ∧ Aside0 (g40 ≠ g7) ∧ Aside0 (wx.heap[w.heap.size]? = some (.cells #[.bool false, .slice A1 l1.length c1, .slice A2 l2.length c2, .slice A3 l3.length c3] 31 (0, 0))) ∧ Aside0 (wx.heap[(w.heap.size + 1)]? = some (.cells #[.bool false, .slice none 0 0, .slice none 0 0, .slice none 0 0] 31 (0, 0))) ∧ Aside0 (wx.heap[(w.heap.size + 2)]? = some (.cells #[.bool false, .slice none 0 0, .slice none 0 0, .slice none 0 0] 31 (0, 0))) ∧ Aside0 (wx.heap[g40]? = some (.cells #[.bool false, .slice none 0 0, .slice A36 (K1).length c37, .slice A38 (D1).length c39] 31 (0, 0))) ∧ Aside0 (Kd.R Kd.string 9 wx w.heap.size (fun _ => True) (.slice A36 (K1).length c37) (K1)) ∧ Aside0 (Kd.R (Kd.int .i64) 3 wx w.heap.size (fun _ => True) (.slice A38 (D1).length c39) (D1)) ∧ Aside0 (Below w.heap.size w wx))
    case first =>
      have MK : Aside0 (∀ W, Below w41.heap.size w41 W → Below w41.heap.size w41 W ∧ W.cell? ⟨w.heap.size, 0, none⟩ = some (.bool false) ∧ W.cell? ⟨w.heap.size, 1, none⟩ = some (.slice A1 l1.length c1) ∧ W.cell? ⟨w.heap.size, 2, none⟩ = some (.slice A2 l2.length c2) ∧ W.cell? ⟨w.heap.size, 3, none⟩ = some (.slice A3 l3.length c3)) := ⟨fun W hb => ⟨hb, nd_cell hb c_n0, nd_cell hb c_n1, nd_cell hb c_n2, nd_cell hb c_n3⟩⟩
      clear c_n0 c_n1 c_n2 c_n3
      have SB := Aside0.mk (Below.refl w41.heap.size w41)
      refine wp_region_held_drew (S := fun W => Below w41.heap.size w41 W ∧ W.cell? ⟨w.heap.size, 0, none⟩ = some (.bool false) ∧ W.cell? ⟨w.heap.size, 1, none⟩ = some (.slice A1 l1.length c1) ∧ W.cell? ⟨w.heap.size, 2, none⟩ = some (.slice A2 l2.length c2) ∧ W.cell? ⟨w.heap.size, 3, none⟩ = some (.slice A3 l3.length c3)) (by kernel_rfl) ?_ (fun hHeld => ?_)
      · try dsimp only
        exact MK.out _ (Below.drew (Below.refl _ _))
      have hB : Below w41.heap.size w41 w41.drew := below_drew1 (Below.refl _ _)
      clear hHeld
      obtain ⟨w42, hw42⟩ : ∃ x, x = w41.drew := ⟨_, rfl⟩
      rw [← hw42] at hB ⊢
      clear hw42
      replace T_n := bm hB T_n; replace T_r := bm hB T_r; replace T_q := bm hB T_q; replace T_b7 := bm hB T_b7; replace R_k7 := rm hB R_k7; replace R_d7 := rm hB R_d7; replace BB := xm hB BB; replace SB := xm hB SB
      clear hB
      have hHeld := MK.out _ SB.out
      refine sp_take 0 hHeld ?_
      refine sp_take 1 hHeld ?_
      refine sp_take 2 hHeld ?_
      refine sp_take 3 hHeld ?_
      refine sp_take 5 hHeld ?_
      refine sp_take 6 hHeld ?_
      refine sp_take 7 hHeld ?_
      refine sp_take 8 hHeld ?_
      refine wpAnyH_ready (rs := [4, 11]) (by kernel_rfl) (by simp) ?_
      refine (AllReadyH.cons rfl (fun K hK => ?_) (AllReadyH.cons rfl (fun K hK => ?_) AllReadyH.nil))
      · have BBo := BB
        have CC := slices_Clone_int_int.calls (if c3 = i then A3 else A3.map (·.add i)) (c3 - i) (D2) (D2) w42 (Kd.C_below CD2.out BB.out) (by rw [LD2.out]; omega) (by unfold slices_Clone_int_int.f; rw [if_pos (by rw [LD2.out]; omega)])
        rw [LD2.out] at CC
        go_simp
        refine (CC).mono ?_
        rintro e w43 ⟨v0, rfl, hR, hB⟩
        replace T_n := bm hB T_n; replace T_r := bm hB T_r; replace T_q := bm hB T_q; replace T_b7 := bm hB T_b7; replace R_k7 := rm hB R_k7; replace R_d7 := rm hB R_d7; replace BB := xm hB BB; replace SB := xm hB SB
        clear hB
        have hR' := Kd.R_lower hR (Nat.le_trans BBo.out.size (Nat.le_refl _))
        obtain ⟨A44, c45, rfl⟩ := Kd.R_slice hR
        have R_d8 := Aside0.mk hR'
        clear hR hR' BBo CC
        go_simp
        refine hK.out _ _ ?_ (fun hNew => ?_)
        · try dsimp only
          exact MK.out _ SB.out
        clear hK K hHeld hNew
        have hHeld := MK.out _ SB.out
        refine wpAnyH_ready (rs := [9, 11]) (by kernel_rfl) (by simp) ?_
        refine (AllReadyH.cons rfl (fun K hK => ?_) (AllReadyH.cons rfl (fun K hK => ?_) AllReadyH.nil))
        · have BBo := BB
          have CC := slices_Clone_string_string.calls (if c2 = i then A2 else A2.map (·.add i)) (c2 - i) (K2) (K2) w43 (Kd.C_below CK2.out BB.out) (by rw [LK2.out]; omega) (by unfold slices_Clone_string_string.f; rw [if_pos (by rw [LK2.out]; omega)])
          rw [LK2.out] at CC
          go_simp
          refine (CC).mono ?_
          rintro e w46 ⟨v0, rfl, hR, hB⟩
          replace T_n := bm hB T_n; replace T_r := bm hB T_r; replace T_q := bm hB T_q; replace T_b7 := bm hB T_b7; replace R_k7 := rm hB R_k7; replace R_d7 := rm hB R_d7; replace R_d8 := rm hB R_d8; replace BB := xm hB BB; replace SB := xm hB SB
          clear hB
          have hR' := Kd.R_lower hR (Nat.le_trans BBo.out.size (Nat.le_refl _))
          obtain ⟨A47, c48, rfl⟩ := Kd.R_slice hR
          have R_k8 := Aside0.mk hR'
          clear hR hR' BBo CC
          go_simp
          refine hK.out _ _ ?_ (fun hNew => ?_)
          · try dsimp only
            exact MK.out _ SB.out
          clear hK K hHeld hNew
          have hHeld := MK.out _ SB.out
          refine sp_take 10 hHeld ?_
          refine wpAnyH_ready (rs := [11]) (by kernel_rfl) (by simp) ?_
          refine (AllReadyH.cons rfl (fun K hK => ?_) AllReadyH.nil)
          go_simp
          obtain ⟨g50, hg50⟩ : ∃ n, n = w46.heap.size := ⟨_, rfl⟩
          obtain ⟨w49, hw49⟩ : ∃ x, x = w46.alloc (.cells #[.bool false, .slice none 0 0, .slice none 0 0, .slice none 0 0] 31) := ⟨_, rfl⟩
          have tn := heap_alloc_new w46 (.cells #[.bool false, .slice none 0 0, .slice none 0 0, .slice none 0 0] 31)
          have hB := below_alloc (Below.refl w46.heap.size w46) (.cells #[.bool false, .slice none 0 0, .slice none 0 0, .slice none 0 0] 31)
          rw [← hw49] at tn hB
          rw [← hg50] at tn
          have GBB_b8 : Aside0 (w.heap.size ≤ g50) := ⟨by rw [hg50]; exact BB.out.size⟩
          have GSB_b8 : Aside0 (w41.heap.size ≤ g50) := ⟨by rw [hg50]; exact SB.out.size⟩
          have NE_b8_n : Aside0 (w.heap.size ≠ g50) := ⟨by have := blk_lt T_n.out; omega⟩
          have NE_b8_r : Aside0 ((w.heap.size + 1) ≠ g50) := ⟨by have := blk_lt T_r.out; omega⟩
          have NE_b8_q : Aside0 ((w.heap.size + 2) ≠ g50) := ⟨by have := blk_lt T_q.out; omega⟩
          have NE_b8_b7 : Aside0 (g40 ≠ g50) := ⟨by have := blk_lt T_b7.out; omega⟩
          replace T_n := bm hB T_n; replace T_r := bm hB T_r; replace T_q := bm hB T_q; replace T_b7 := bm hB T_b7; replace R_k7 := rm hB R_k7; replace R_d7 := rm hB R_d7; replace R_d8 := rm hB R_d8; replace R_k8 := rm hB R_k8; replace BB := xm hB BB; replace SB := xm hB SB
          have T_b8 := Aside0.mk tn
          clear tn hB
          rw [← hw49]
          try rw [← hg50]
          clear hw49 hg50
          refine hK.out _ _ ?_ (fun hNew => ?_)
          · try dsimp only
            exact MK.out _ SB.out
          clear hK K hHeld hNew
          have hHeld := MK.out _ SB.out
          refine wpAnyH_ready (rs := [12]) (by kernel_rfl) (by simp) ?_
          refine (AllReadyH.cons rfl (fun K hK => ?_) AllReadyH.nil)
          have c_b80 := bc T_b8 0 rfl; have f_b80 := bf T_b8 0; have c_b81 := bc T_b8 1 rfl; have f_b81 := bf T_b8 1; have c_b82 := bc T_b8 2 rfl; have f_b82 := bf T_b8 2; have c_b83 := bc T_b8 3 rfl; have f_b83 := bf T_b8 3
          go_simp
          clear c_b80 f_b80 c_b81 f_b81 c_b82 f_b82 c_b83 f_b83
          have hg := nd_grown4 w49 (g50) (.bool false) (.slice none 0 0) (.slice A47 (K2).length c48) (.slice A44 (D2).length c45)
          have tn := nd_put4 w49 (g50) 31 _ _ _ _ (.bool false) (.slice none 0 0) (.slice A47 (K2).length c48) (.slice A44 (D2).length c45) T_b8.out
          obtain ⟨w51, hw51⟩ : ∃ x, x = ((((w49.setCell ⟨g50, 0, none⟩ (.bool false)).setCell ⟨g50, 1, none⟩ (.slice none 0 0)).setCell ⟨g50, 2, none⟩ (.slice A47 (K2).length c48)).setCell ⟨g50, 3, none⟩ (.slice A44 (D2).length c45)) := ⟨_, rfl⟩
          rw [← hw51] at hg tn
          rw [← hw51]
          clear hw51
          replace R_k7 := rg hg T_b8 R_k7 (by decide)
          replace R_d7 := rg hg T_b8 R_d7 (by decide)
          replace R_d8 := rg hg T_b8 R_d8 (by decide)
          replace R_k8 := rg hg T_b8 R_k8 (by decide)
          replace T_n := bg hg T_n NE_b8_n.out
          replace T_r := bg hg T_r NE_b8_r.out
          replace T_q := bg hg T_q NE_b8_q.out
          replace T_b7 := bg hg T_b7 NE_b8_b7.out
          replace BB := Aside0.mk (nd_grown_below hg BB.out BB.out.size GBB_b8.out)
          replace SB := Aside0.mk (nd_grown_below hg SB.out SB.out.size GSB_b8.out)
          replace T_b8 := Aside0.mk tn
          clear tn hg
          refine hK.out _ _ ?_ (fun hNew => ?_)
          · try dsimp only
            exact MK.out _ SB.out
          clear hK K hHeld hNew
          have hHeld := MK.out _ SB.out
          refine wpAnyH_done (by kernel_rfl) ?_ _
          clear hHeld MK
          clear SB
          go_wp2_with fail
          go_meet
          exact ⟨_, _, _, _, _, rfl, T_b8, R_k8, R_d8, GBB_b8, NE_b8_n, NE_b8_r, NE_b8_q, NE_b8_b7, T_n, T_r, T_q, T_b7, R_k7, R_d7, BB⟩
        · go_simp
          obtain ⟨g53, hg53⟩ : ∃ n, n = w43.heap.size := ⟨_, rfl⟩
          obtain ⟨w52, hw52⟩ : ∃ x, x = w43.alloc (.cells #[.bool false, .slice none 0 0, .slice none 0 0, .slice none 0 0] 31) := ⟨_, rfl⟩
          have tn := heap_alloc_new w43 (.cells #[.bool false, .slice none 0 0, .slice none 0 0, .slice none 0 0] 31)
          have hB := below_alloc (Below.refl w43.heap.size w43) (.cells #[.bool false, .slice none 0 0, .slice none 0 0, .slice none 0 0] 31)
          rw [← hw52] at tn hB
          rw [← hg53] at tn
          have GBB_b8 : Aside0 (w.heap.size ≤ g53) := ⟨by rw [hg53]; exact BB.out.size⟩
          have GSB_b8 : Aside0 (w41.heap.size ≤ g53) := ⟨by rw [hg53]; exact SB.out.size⟩
          have NE_b8_n : Aside0 (w.heap.size ≠ g53) := ⟨by have := blk_lt T_n.out; omega⟩
          have NE_b8_r : Aside0 ((w.heap.size + 1) ≠ g53) := ⟨by have := blk_lt T_r.out; omega⟩
          have NE_b8_q : Aside0 ((w.heap.size + 2) ≠ g53) := ⟨by have := blk_lt T_q.out; omega⟩
          have NE_b8_b7 : Aside0 (g40 ≠ g53) := ⟨by have := blk_lt T_b7.out; omega⟩
          replace T_n := bm hB T_n; replace T_r := bm hB T_r; replace T_q := bm hB T_q; replace T_b7 := bm hB T_b7; replace R_k7 := rm hB R_k7; replace R_d7 := rm hB R_d7; replace R_d8 := rm hB R_d8; replace BB := xm hB BB; replace SB := xm hB SB
          have T_b8 := Aside0.mk tn
          clear tn hB
          rw [← hw52]
          try rw [← hg53]
          clear hw52 hg53
          refine hK.out _ _ ?_ (fun hNew => ?_)
          · try dsimp only
            exact MK.out _ SB.out
          clear hK K hHeld hNew
          have hHeld := MK.out _ SB.out
          refine wpAnyH_ready (rs := [9]) (by kernel_rfl) (by simp) ?_
          refine (AllReadyH.cons rfl (fun K hK => ?_) AllReadyH.nil)
          have BBo := BB
          have CC := slices_Clone_string_string.calls (if c2 = i then A2 else A2.map (·.add i)) (c2 - i) (K2) (K2) w52 (Kd.C_below CK2.out BB.out) (by rw [LK2.out]; omega) (by unfold slices_Clone_string_string.f; rw [if_pos (by rw [LK2.out]; omega)])
          rw [LK2.out] at CC
          go_simp
          refine (CC).mono ?_
          rintro e w54 ⟨v0, rfl, hR, hB⟩
          replace T_n := bm hB T_n; replace T_r := bm hB T_r; replace T_q := bm hB T_q; replace T_b7 := bm hB T_b7; replace T_b8 := bm hB T_b8; replace R_k7 := rm hB R_k7; replace R_d7 := rm hB R_d7; replace R_d8 := rm hB R_d8; replace BB := xm hB BB; replace SB := xm hB SB
          clear hB
          have hR' := Kd.R_lower hR (Nat.le_trans BBo.out.size (Nat.le_refl _))
          obtain ⟨A55, c56, rfl⟩ := Kd.R_slice hR
          have R_k8 := Aside0.mk hR'
          clear hR hR' BBo CC
          go_simp
          refine hK.out _ _ ?_ (fun hNew => ?_)
          · try dsimp only
            exact MK.out _ SB.out
          clear hK K hHeld hNew
          have hHeld := MK.out _ SB.out
          refine sp_take 10 hHeld ?_
          refine wpAnyH_ready (rs := [12]) (by kernel_rfl) (by simp) ?_
          refine (AllReadyH.cons rfl (fun K hK => ?_) AllReadyH.nil)
          have c_b80 := bc T_b8 0 rfl; have f_b80 := bf T_b8 0; have c_b81 := bc T_b8 1 rfl; have f_b81 := bf T_b8 1; have c_b82 := bc T_b8 2 rfl; have f_b82 := bf T_b8 2; have c_b83 := bc T_b8 3 rfl; have f_b83 := bf T_b8 3
          go_simp
          clear c_b80 f_b80 c_b81 f_b81 c_b82 f_b82 c_b83 f_b83
          have hg := nd_grown4 w54 (g53) (.bool false) (.slice none 0 0) (.slice A55 (K2).length c56) (.slice A44 (D2).length c45)
          have tn := nd_put4 w54 (g53) 31 _ _ _ _ (.bool false) (.slice none 0 0) (.slice A55 (K2).length c56) (.slice A44 (D2).length c45) T_b8.out
          obtain ⟨w57, hw57⟩ : ∃ x, x = ((((w54.setCell ⟨g53, 0, none⟩ (.bool false)).setCell ⟨g53, 1, none⟩ (.slice none 0 0)).setCell ⟨g53, 2, none⟩ (.slice A55 (K2).length c56)).setCell ⟨g53, 3, none⟩ (.slice A44 (D2).length c45)) := ⟨_, rfl⟩
          rw [← hw57] at hg tn
          rw [← hw57]
          clear hw57
          replace R_k7 := rg hg T_b8 R_k7 (by decide)
          replace R_d7 := rg hg T_b8 R_d7 (by decide)
          replace R_d8 := rg hg T_b8 R_d8 (by decide)
          replace R_k8 := rg hg T_b8 R_k8 (by decide)
          replace T_n := bg hg T_n NE_b8_n.out
          replace T_r := bg hg T_r NE_b8_r.out
          replace T_q := bg hg T_q NE_b8_q.out
          replace T_b7 := bg hg T_b7 NE_b8_b7.out
          replace BB := Aside0.mk (nd_grown_below hg BB.out BB.out.size GBB_b8.out)
          replace SB := Aside0.mk (nd_grown_below hg SB.out SB.out.size GSB_b8.out)
          replace T_b8 := Aside0.mk tn
          clear tn hg
          refine hK.out _ _ ?_ (fun hNew => ?_)
          · try dsimp only
            exact MK.out _ SB.out
          clear hK K hHeld hNew
          have hHeld := MK.out _ SB.out
          refine wpAnyH_done (by kernel_rfl) ?_ _
          clear hHeld MK
          clear SB
          go_wp2_with fail
          go_meet
          exact ⟨_, _, _, _, _, rfl, T_b8, R_k8, R_d8, GBB_b8, NE_b8_n, NE_b8_r, NE_b8_q, NE_b8_b7, T_n, T_r, T_q, T_b7, R_k7, R_d7, BB⟩
      · go_simp
        obtain ⟨g59, hg59⟩ : ∃ n, n = w42.heap.size := ⟨_, rfl⟩
        obtain ⟨w58, hw58⟩ : ∃ x, x = w42.alloc (.cells #[.bool false, .slice none 0 0, .slice none 0 0, .slice none 0 0] 31) := ⟨_, rfl⟩
        have tn := heap_alloc_new w42 (.cells #[.bool false, .slice none 0 0, .slice none 0 0, .slice none 0 0] 31)
        have hB := below_alloc (Below.refl w42.heap.size w42) (.cells #[.bool false, .slice none 0 0, .slice none 0 0, .slice none 0 0] 31)
        rw [← hw58] at tn hB
        rw [← hg59] at tn
        have GBB_b8 : Aside0 (w.heap.size ≤ g59) := ⟨by rw [hg59]; exact BB.out.size⟩
        have GSB_b8 : Aside0 (w41.heap.size ≤ g59) := ⟨by rw [hg59]; exact SB.out.size⟩
        have NE_b8_n : Aside0 (w.heap.size ≠ g59) := ⟨by have := blk_lt T_n.out; omega⟩
        have NE_b8_r : Aside0 ((w.heap.size + 1) ≠ g59) := ⟨by have := blk_lt T_r.out; omega⟩
        have NE_b8_q : Aside0 ((w.heap.size + 2) ≠ g59) := ⟨by have := blk_lt T_q.out; omega⟩
        have NE_b8_b7 : Aside0 (g40 ≠ g59) := ⟨by have := blk_lt T_b7.out; omega⟩
        replace T_n := bm hB T_n; replace T_r := bm hB T_r; replace T_q := bm hB T_q; replace T_b7 := bm hB T_b7; replace R_k7 := rm hB R_k7; replace R_d7 := rm hB R_d7; replace BB := xm hB BB; replace SB := xm hB SB
        have T_b8 := Aside0.mk tn
        clear tn hB
        rw [← hw58]
        try rw [← hg59]
        clear hw58 hg59
        refine hK.out _ _ ?_ (fun hNew => ?_)
        · try dsimp only
          exact MK.out _ SB.out
        clear hK K hHeld hNew
        have hHeld := MK.out _ SB.out
        refine wpAnyH_ready (rs := [4]) (by kernel_rfl) (by simp) ?_
        refine (AllReadyH.cons rfl (fun K hK => ?_) AllReadyH.nil)
        have BBo := BB
        have CC := slices_Clone_int_int.calls (if c3 = i then A3 else A3.map (·.add i)) (c3 - i) (D2) (D2) w58 (Kd.C_below CD2.out BB.out) (by rw [LD2.out]; omega) (by unfold slices_Clone_int_int.f; rw [if_pos (by rw [LD2.out]; omega)])
        rw [LD2.out] at CC
        go_simp
        refine (CC).mono ?_
        rintro e w60 ⟨v0, rfl, hR, hB⟩
        replace T_n := bm hB T_n; replace T_r := bm hB T_r; replace T_q := bm hB T_q; replace T_b7 := bm hB T_b7; replace T_b8 := bm hB T_b8; replace R_k7 := rm hB R_k7; replace R_d7 := rm hB R_d7; replace BB := xm hB BB; replace SB := xm hB SB
        clear hB
        have hR' := Kd.R_lower hR (Nat.le_trans BBo.out.size (Nat.le_refl _))
        obtain ⟨A61, c62, rfl⟩ := Kd.R_slice hR
        have R_d8 := Aside0.mk hR'
        clear hR hR' BBo CC
        go_simp
        refine hK.out _ _ ?_ (fun hNew => ?_)
        · try dsimp only
          exact MK.out _ SB.out
        clear hK K hHeld hNew
        have hHeld := MK.out _ SB.out
        refine wpAnyH_ready (rs := [9]) (by kernel_rfl) (by simp) ?_
        refine (AllReadyH.cons rfl (fun K hK => ?_) AllReadyH.nil)
        have BBo := BB
        have CC := slices_Clone_string_string.calls (if c2 = i then A2 else A2.map (·.add i)) (c2 - i) (K2) (K2) w60 (Kd.C_below CK2.out BB.out) (by rw [LK2.out]; omega) (by unfold slices_Clone_string_string.f; rw [if_pos (by rw [LK2.out]; omega)])
        rw [LK2.out] at CC
        go_simp
        refine (CC).mono ?_
        rintro e w63 ⟨v0, rfl, hR, hB⟩
        replace T_n := bm hB T_n; replace T_r := bm hB T_r; replace T_q := bm hB T_q; replace T_b7 := bm hB T_b7; replace T_b8 := bm hB T_b8; replace R_k7 := rm hB R_k7; replace R_d7 := rm hB R_d7; replace R_d8 := rm hB R_d8; replace BB := xm hB BB; replace SB := xm hB SB
        clear hB
        have hR' := Kd.R_lower hR (Nat.le_trans BBo.out.size (Nat.le_refl _))
        obtain ⟨A64, c65, rfl⟩ := Kd.R_slice hR
        have R_k8 := Aside0.mk hR'
        clear hR hR' BBo CC
        go_simp
        refine hK.out _ _ ?_ (fun hNew => ?_)
        · try dsimp only
          exact MK.out _ SB.out
        clear hK K hHeld hNew
        have hHeld := MK.out _ SB.out
        refine sp_take 10 hHeld ?_
        refine wpAnyH_ready (rs := [12]) (by kernel_rfl) (by simp) ?_
        refine (AllReadyH.cons rfl (fun K hK => ?_) AllReadyH.nil)
        have c_b80 := bc T_b8 0 rfl; have f_b80 := bf T_b8 0; have c_b81 := bc T_b8 1 rfl; have f_b81 := bf T_b8 1; have c_b82 := bc T_b8 2 rfl; have f_b82 := bf T_b8 2; have c_b83 := bc T_b8 3 rfl; have f_b83 := bf T_b8 3
        go_simp
        clear c_b80 f_b80 c_b81 f_b81 c_b82 f_b82 c_b83 f_b83
        have hg := nd_grown4 w63 (g59) (.bool false) (.slice none 0 0) (.slice A64 (K2).length c65) (.slice A61 (D2).length c62)
        have tn := nd_put4 w63 (g59) 31 _ _ _ _ (.bool false) (.slice none 0 0) (.slice A64 (K2).length c65) (.slice A61 (D2).length c62) T_b8.out
        obtain ⟨w66, hw66⟩ : ∃ x, x = ((((w63.setCell ⟨g59, 0, none⟩ (.bool false)).setCell ⟨g59, 1, none⟩ (.slice none 0 0)).setCell ⟨g59, 2, none⟩ (.slice A64 (K2).length c65)).setCell ⟨g59, 3, none⟩ (.slice A61 (D2).length c62)) := ⟨_, rfl⟩
        rw [← hw66] at hg tn
        rw [← hw66]
        clear hw66
        replace R_k7 := rg hg T_b8 R_k7 (by decide)
        replace R_d7 := rg hg T_b8 R_d7 (by decide)
        replace R_d8 := rg hg T_b8 R_d8 (by decide)
        replace R_k8 := rg hg T_b8 R_k8 (by decide)
        replace T_n := bg hg T_n NE_b8_n.out
        replace T_r := bg hg T_r NE_b8_r.out
        replace T_q := bg hg T_q NE_b8_q.out
        replace T_b7 := bg hg T_b7 NE_b8_b7.out
        replace BB := Aside0.mk (nd_grown_below hg BB.out BB.out.size GBB_b8.out)
        replace SB := Aside0.mk (nd_grown_below hg SB.out SB.out.size GSB_b8.out)
        replace T_b8 := Aside0.mk tn
        clear tn hg
        refine hK.out _ _ ?_ (fun hNew => ?_)
        · try dsimp only
          exact MK.out _ SB.out
        clear hK K hHeld hNew
        have hHeld := MK.out _ SB.out
        refine wpAnyH_done (by kernel_rfl) ?_ _
        clear hHeld MK
        clear SB
        go_wp2_with fail
        go_meet
        exact ⟨_, _, _, _, _, rfl, T_b8, R_k8, R_d8, GBB_b8, NE_b8_n, NE_b8_r, NE_b8_q, NE_b8_b7, T_n, T_r, T_q, T_b7, R_k7, R_d7, BB⟩
    case rest =>
      clear c_n0 c_n1 c_n2 c_n3
      clear T_n T_r T_q T_b7 R_k7 R_d7 BB
      obtain ⟨g71, A67, c68, A69, c70, rfl, T_b8, R_k8, R_d8, GBB_b8, NE_b8_n, NE_b8_r, NE_b8_q, NE_b8_b7, T_n, T_r, T_q, T_b7, R_k7, R_d7, BB⟩ := hcut
      obtain ⟨w72, hw72⟩ : ∃ x, x = wc := ⟨_, rfl⟩
      subst hw72
      obtain ⟨ad, hA, hEA⟩ := EL.out
      clear EL
      have EA := Aside0.mk hEA
      clear hEA
      subst hA
      have hj5 : j < l2.length := by omega
      go_upto_region 10 with fail
      have hB : Below w72.heap.size w72 w72.drew := below_drew1 (Below.refl _ _)
      refine wp_region_held_drew (S := fun W => Below w.heap.size w W ∧ W.cell? ⟨w.heap.size, 0, none⟩ = some (.bool false) ∧ W.cell? ⟨w.heap.size, 1, none⟩ = some (.slice A1 l1.length c1) ∧ W.cell? ⟨w.heap.size, 2, none⟩ = some (.slice (some ad) l2.length c2) ∧ W.cell? ⟨w.heap.size, 3, none⟩ = some (.slice A3 l3.length c3) ∧ W.cell? ⟨g40, 0, none⟩ = some (.bool false) ∧ W.cell? ⟨g40, 1, none⟩ = some (.slice none 0 0) ∧ W.cell? ⟨g40, 2, none⟩ = some (.slice A36 (K1).length c37) ∧ W.cell? ⟨g40, 3, none⟩ = some (.slice A38 (D1).length c39) ∧ W.cell? ⟨g71, 0, none⟩ = some (.bool false) ∧ W.cell? ⟨g71, 1, none⟩ = some (.slice none 0 0) ∧ W.cell? ⟨g71, 2, none⟩ = some (.slice A67 (K2).length c68) ∧ W.cell? ⟨g71, 3, none⟩ = some (.slice A69 (D2).length c70) ∧ W.cell? (ad.add j) = some (.string kx)) (by kernel_rfl) ?_ (fun hHeld => ?_)
      · try dsimp only
        have BB' := BB.out.trans (hB.mono BB.out.size)
        exact ⟨BB', nd_cell hB (blk_cell T_n.out 0), nd_cell hB (blk_cell T_n.out 1), nd_cell hB (blk_cell T_n.out 2), nd_cell hB (blk_cell T_n.out 3), nd_cell hB (blk_cell T_b7.out 0), nd_cell hB (blk_cell T_b7.out 1), nd_cell hB (blk_cell T_b7.out 2), nd_cell hB (blk_cell T_b7.out 3), nd_cell hB (blk_cell T_b8.out 0), nd_cell hB (blk_cell T_b8.out 1), nd_cell hB (blk_cell T_b8.out 2), nd_cell hB (blk_cell T_b8.out 3), EA.out _ BB'⟩
      clear hHeld
      obtain ⟨w73, hw73⟩ : ∃ x, x = w72.drew := ⟨_, rfl⟩
      rw [← hw73] at hB ⊢
      clear hw73
      replace T_n := bm hB T_n; replace T_r := bm hB T_r; replace T_q := bm hB T_q; replace T_b7 := bm hB T_b7; replace T_b8 := bm hB T_b8; replace R_k7 := rm hB R_k7; replace R_d7 := rm hB R_d7; replace R_k8 := rm hB R_k8; replace R_d8 := rm hB R_d8; replace BB := xm hB BB
      clear hB
      have hHeld : (fun W => Below w.heap.size w W ∧ W.cell? ⟨w.heap.size, 0, none⟩ = some (.bool false) ∧ W.cell? ⟨w.heap.size, 1, none⟩ = some (.slice A1 l1.length c1) ∧ W.cell? ⟨w.heap.size, 2, none⟩ = some (.slice (some ad) l2.length c2) ∧ W.cell? ⟨w.heap.size, 3, none⟩ = some (.slice A3 l3.length c3) ∧ W.cell? ⟨g40, 0, none⟩ = some (.bool false) ∧ W.cell? ⟨g40, 1, none⟩ = some (.slice none 0 0) ∧ W.cell? ⟨g40, 2, none⟩ = some (.slice A36 (K1).length c37) ∧ W.cell? ⟨g40, 3, none⟩ = some (.slice A38 (D1).length c39) ∧ W.cell? ⟨g71, 0, none⟩ = some (.bool false) ∧ W.cell? ⟨g71, 1, none⟩ = some (.slice none 0 0) ∧ W.cell? ⟨g71, 2, none⟩ = some (.slice A67 (K2).length c68) ∧ W.cell? ⟨g71, 3, none⟩ = some (.slice A69 (D2).length c70) ∧ W.cell? (ad.add j) = some (.string kx)) w73 := ⟨BB.out, blk_cell T_n.out 0, blk_cell T_n.out 1, blk_cell T_n.out 2, blk_cell T_n.out 3, blk_cell T_b7.out 0, blk_cell T_b7.out 1, blk_cell T_b7.out 2, blk_cell T_b7.out 3, blk_cell T_b8.out 0, blk_cell T_b8.out 1, blk_cell T_b8.out 2, blk_cell T_b8.out 3, EA.out _ BB.out⟩
      refine sp_take 0 hHeld ?_
      refine sp_take 1 hHeld ?_
      refine sp_take 2 hHeld ?_
      refine sp_take 3 hHeld ?_
      refine sp_take 4 hHeld ?_
      refine sp_take 5 hHeld ?_
      refine sp_take 6 hHeld ?_
      refine sp_take 7 hHeld ?_
      refine wpAnyH_ready (rs := [8]) (by kernel_rfl) (by simp) ?_
      refine (AllReadyH.cons rfl (fun K hK => ?_) AllReadyH.nil)
      have c_r0 := bc T_r 0 rfl; have f_r0 := bf T_r 0; have c_r1 := bc T_r 1 rfl; have f_r1 := bf T_r 1; have c_r2 := bc T_r 2 rfl; have f_r2 := bf T_r 2; have c_r3 := bc T_r 3 rfl; have f_r3 := bf T_r 3
      go_simp
      clear c_r0 f_r0 c_r1 f_r1 c_r2 f_r2 c_r3 f_r3
      have hg := nd_grown4 w73 ((w.heap.size + 1)) (.bool false) (.slice none 0 0) (.slice A36 (K1).length c37) (.slice A38 (D1).length c39)
      have tn := nd_put4 w73 ((w.heap.size + 1)) 31 _ _ _ _ (.bool false) (.slice none 0 0) (.slice A36 (K1).length c37) (.slice A38 (D1).length c39) T_r.out
      obtain ⟨w74, hw74⟩ : ∃ x, x = ((((w73.setCell ⟨(w.heap.size + 1), 0, none⟩ (.bool false)).setCell ⟨(w.heap.size + 1), 1, none⟩ (.slice none 0 0)).setCell ⟨(w.heap.size + 1), 2, none⟩ (.slice A36 (K1).length c37)).setCell ⟨(w.heap.size + 1), 3, none⟩ (.slice A38 (D1).length c39)) := ⟨_, rfl⟩
      rw [← hw74] at hg tn
      rw [← hw74]
      clear hw74
      replace R_k7 := rg hg T_r R_k7 (by decide)
      replace R_d7 := rg hg T_r R_d7 (by decide)
      replace R_k8 := rg hg T_r R_k8 (by decide)
      replace R_d8 := rg hg T_r R_d8 (by decide)
      replace T_n := bg hg T_n (by omega)
      replace T_q := bg hg T_q (by omega)
      replace T_b7 := bg hg T_b7 (fun e => NE_b7_r.out e.symm)
      replace T_b8 := bg hg T_b8 (fun e => NE_b8_r.out e.symm)
      replace BB := Aside0.mk (nd_grown_below hg BB.out BB.out.size (by omega))
      replace T_r := Aside0.mk tn
      clear tn hg
      refine hK.out _ _ ?_ (fun hNew => ?_)
      · try dsimp only
        exact ⟨BB.out, blk_cell T_n.out 0, blk_cell T_n.out 1, blk_cell T_n.out 2, blk_cell T_n.out 3, blk_cell T_b7.out 0, blk_cell T_b7.out 1, blk_cell T_b7.out 2, blk_cell T_b7.out 3, blk_cell T_b8.out 0, blk_cell T_b8.out 1, blk_cell T_b8.out 2, blk_cell T_b8.out 3, EA.out _ BB.out⟩
      clear hK K hHeld hNew
      have hHeld : (fun W => Below w.heap.size w W ∧ W.cell? ⟨w.heap.size, 0, none⟩ = some (.bool false) ∧ W.cell? ⟨w.heap.size, 1, none⟩ = some (.slice A1 l1.length c1) ∧ W.cell? ⟨w.heap.size, 2, none⟩ = some (.slice (some ad) l2.length c2) ∧ W.cell? ⟨w.heap.size, 3, none⟩ = some (.slice A3 l3.length c3) ∧ W.cell? ⟨g40, 0, none⟩ = some (.bool false) ∧ W.cell? ⟨g40, 1, none⟩ = some (.slice none 0 0) ∧ W.cell? ⟨g40, 2, none⟩ = some (.slice A36 (K1).length c37) ∧ W.cell? ⟨g40, 3, none⟩ = some (.slice A38 (D1).length c39) ∧ W.cell? ⟨g71, 0, none⟩ = some (.bool false) ∧ W.cell? ⟨g71, 1, none⟩ = some (.slice none 0 0) ∧ W.cell? ⟨g71, 2, none⟩ = some (.slice A67 (K2).length c68) ∧ W.cell? ⟨g71, 3, none⟩ = some (.slice A69 (D2).length c70) ∧ W.cell? (ad.add j) = some (.string kx)) w74 := ⟨BB.out, blk_cell T_n.out 0, blk_cell T_n.out 1, blk_cell T_n.out 2, blk_cell T_n.out 3, blk_cell T_b7.out 0, blk_cell T_b7.out 1, blk_cell T_b7.out 2, blk_cell T_b7.out 3, blk_cell T_b8.out 0, blk_cell T_b8.out 1, blk_cell T_b8.out 2, blk_cell T_b8.out 3, EA.out _ BB.out⟩
      refine sp_take 9 hHeld ?_
      refine wpAnyH_ready (rs := [10]) (by kernel_rfl) (by simp) ?_
      refine (AllReadyH.cons rfl (fun K hK => ?_) AllReadyH.nil)
      have c_q0 := bc T_q 0 rfl; have f_q0 := bf T_q 0; have c_q1 := bc T_q 1 rfl; have f_q1 := bf T_q 1; have c_q2 := bc T_q 2 rfl; have f_q2 := bf T_q 2; have c_q3 := bc T_q 3 rfl; have f_q3 := bf T_q 3
      go_simp
      clear c_q0 f_q0 c_q1 f_q1 c_q2 f_q2 c_q3 f_q3
      have hg := nd_grown4 w74 ((w.heap.size + 2)) (.bool false) (.slice none 0 0) (.slice A67 (K2).length c68) (.slice A69 (D2).length c70)
      have tn := nd_put4 w74 ((w.heap.size + 2)) 31 _ _ _ _ (.bool false) (.slice none 0 0) (.slice A67 (K2).length c68) (.slice A69 (D2).length c70) T_q.out
      obtain ⟨w75, hw75⟩ : ∃ x, x = ((((w74.setCell ⟨(w.heap.size + 2), 0, none⟩ (.bool false)).setCell ⟨(w.heap.size + 2), 1, none⟩ (.slice none 0 0)).setCell ⟨(w.heap.size + 2), 2, none⟩ (.slice A67 (K2).length c68)).setCell ⟨(w.heap.size + 2), 3, none⟩ (.slice A69 (D2).length c70)) := ⟨_, rfl⟩
      rw [← hw75] at hg tn
      rw [← hw75]
      clear hw75
      replace R_k7 := rg hg T_q R_k7 (by decide)
      replace R_d7 := rg hg T_q R_d7 (by decide)
      replace R_k8 := rg hg T_q R_k8 (by decide)
      replace R_d8 := rg hg T_q R_d8 (by decide)
      replace T_n := bg hg T_n (by omega)
      replace T_r := bg hg T_r (by omega)
      replace T_b7 := bg hg T_b7 (fun e => NE_b7_q.out e.symm)
      replace T_b8 := bg hg T_b8 (fun e => NE_b8_q.out e.symm)
      replace BB := Aside0.mk (nd_grown_below hg BB.out BB.out.size (by omega))
      replace T_q := Aside0.mk tn
      clear tn hg
      refine hK.out _ _ ?_ (fun hNew => ?_)
      · try dsimp only
        exact ⟨BB.out, blk_cell T_n.out 0, blk_cell T_n.out 1, blk_cell T_n.out 2, blk_cell T_n.out 3, blk_cell T_b7.out 0, blk_cell T_b7.out 1, blk_cell T_b7.out 2, blk_cell T_b7.out 3, blk_cell T_b8.out 0, blk_cell T_b8.out 1, blk_cell T_b8.out 2, blk_cell T_b8.out 3, EA.out _ BB.out⟩
      clear hK K hHeld hNew
      have hHeld : (fun W => Below w.heap.size w W ∧ W.cell? ⟨w.heap.size, 0, none⟩ = some (.bool false) ∧ W.cell? ⟨w.heap.size, 1, none⟩ = some (.slice A1 l1.length c1) ∧ W.cell? ⟨w.heap.size, 2, none⟩ = some (.slice (some ad) l2.length c2) ∧ W.cell? ⟨w.heap.size, 3, none⟩ = some (.slice A3 l3.length c3) ∧ W.cell? ⟨g40, 0, none⟩ = some (.bool false) ∧ W.cell? ⟨g40, 1, none⟩ = some (.slice none 0 0) ∧ W.cell? ⟨g40, 2, none⟩ = some (.slice A36 (K1).length c37) ∧ W.cell? ⟨g40, 3, none⟩ = some (.slice A38 (D1).length c39) ∧ W.cell? ⟨g71, 0, none⟩ = some (.bool false) ∧ W.cell? ⟨g71, 1, none⟩ = some (.slice none 0 0) ∧ W.cell? ⟨g71, 2, none⟩ = some (.slice A67 (K2).length c68) ∧ W.cell? ⟨g71, 3, none⟩ = some (.slice A69 (D2).length c70) ∧ W.cell? (ad.add j) = some (.string kx)) w75 := ⟨BB.out, blk_cell T_n.out 0, blk_cell T_n.out 1, blk_cell T_n.out 2, blk_cell T_n.out 3, blk_cell T_b7.out 0, blk_cell T_b7.out 1, blk_cell T_b7.out 2, blk_cell T_b7.out 3, blk_cell T_b8.out 0, blk_cell T_b8.out 1, blk_cell T_b8.out 2, blk_cell T_b8.out 3, EA.out _ BB.out⟩
      refine sp_take 11 hHeld ?_
      refine wpAnyH_done (by kernel_rfl) ?_ _
      clear hHeld
      go_wp2_with fail
      refine bodyPost_ret (results_ctct rfl _ _ (w.heap.size + 1) (w.heap.size + 2) 31 31 #[.bool false, .slice none 0 0, .slice A36 (K1).length c37, .slice A38 (D1).length c39] #[.bool false, .slice none 0 0, .slice A67 (K2).length c68, .slice A69 (D2).length c70] (0, 0) (0, 0) _ _ rfl T_r.out Try.underlying31 rfl (by kernel_rfl) rfl T_q.out Try.underlying31 rfl (by kernel_rfl)) rfl ?_
      exact ⟨_, _, _, _, _, _, rfl, Kd.R_nil _ _ _ _ _, R_k7.out, R_d7.out, Kd.R_nil _ _ _ _ _, R_k8.out, R_d8.out, BB.out⟩
set_option maxHeartbeats 4000000 in
set_option maxRecDepth 100000 in
theorem split_leaf (A1 : Option Addr) (c1 : Nat) (l1 : List S48) (A2 : Option Addr) (c2 : Nat) (l2 : List ByteArray) (A3 : Option Addr) (c3 : Nat) (l3 : List Int) (w : World) (hr1 : Kd.C k48 w A1 l1.length l1) (hc1 : l1.length ≤ c1) (hr2 : Kd.C Kd.string w A2 l2.length l2) (hc2 : l2.length ≤ c2) (hr3 : Kd.C (Kd.int .i64) w A3 l3.length l3) (hc3 : l3.length ≤ c3) (hf : (leafV true l1 l2 l3 || innerV true l1 l2 l3) = true) (h4 : 2 ≤ l1.length) :
    Calls Try.prog 18 #[.agg #[.bool true, .slice A1 l1.length c1, .slice A2 l2.length c2, .slice A3 l3.length c3]] w fun e w' => ∃ v1_ v2_ v3_ u1_ u2_ u3_ : Value, e = .returned (.tuple #[.agg #[.bool true, v1_, v2_, v3_], .string (l1.getD (cutP l1) ⟨⟨#[]⟩, ⟨#[]⟩⟩).f0, .agg #[.bool true, u1_, u2_, u3_], .int .i64 0]) ∧ Kd.R k48 48 w' w.heap.size (fun _ => True) v1_ (l1.take (cutP l1)) ∧ Kd.R Kd.string 9 w' w.heap.size (fun _ => True) v2_ ([] : List ByteArray) ∧ Kd.R (Kd.int .i64) 3 w' w.heap.size (fun _ => True) v3_ ([] : List Int) ∧ Kd.R k48 48 w' w.heap.size (fun _ => True) u1_ (l1.drop (cutP l1)) ∧ Kd.R Kd.string 9 w' w.heap.size (fun _ => True) u2_ ([] : List ByteArray) ∧ Kd.R (Kd.int .i64) 3 w' w.heap.size (fun _ => True) u3_ ([] : List Int) ∧ Below w.heap.size w w' := by
  have CK := Aside0.mk (fun W hw => node_Check.calls true A1 c1 l1 A2 c2 l2 A3 c3 l3 0 W (Kd.C_below hr1 hw) hc1 (Kd.C_below hr2 hw) hc2 (Kd.C_below hr3 hw) hc3 (by have := check_val true l1 l2 l3; rwa [if_pos hf] at this))
  have HR1 := Aside0.mk hr1
  have HR2 := Aside0.mk hr2
  have HR3 := Aside0.mk hr3
  clear hr1 hr2 hr3
  have d2 : decide ((l1.length : Int) < 2) = false := decide_eq_false (by omega)
  have hin := leafV_true (by simpa [innerV] using hf : leafV true l1 l2 l3 = true)
  have hl255 := hin.2.2.2.1
  have WB : Aside0 (weightN l1 ≤ 20910) := ⟨by have := weight_le l1 hin.2.2.2.2.1; omega⟩
  have WT : Aside0 (∀ W, Below w.heap.size w W → Calls Try.prog 41 #[.slice A1 l1.length c1] W fun e W' => e = .returned (.int .i64 (weightN l1 : Nat)) ∧ Below W.heap.size W W') := ⟨fun W hw => node_weight.calls (l1.length + 1) A1 c1 l1 _ W (Kd.C_below HR1.out hw) hc1 (by rw [weight_val l1 (by omega) _ (Nat.lt_succ_self _), wrap_small (by have := WB.out; omega)])⟩
  have WM : Aside0 (∀ i, i < l1.length → ∀ W, Below w.heap.size w W → Calls Try.prog 41 #[.slice (A1.map (·.add (i * 2))) 1 (c1 - i)] W fun e W' => e = .returned (.int .i64 (weightN ((l1.take (i + 1)).drop i) : Nat)) ∧ Below W.heap.size W W') := ⟨fun i hi W hw => by
    have hL : ((l1.take (i + 1)).drop i).length = 1 := by rw [List.length_drop, List.length_take]; omega
    have hC := Kd.C_mid (Kd.C_below HR1.out hw) (Nat.le_succ i) hi hc1
    rw [if_neg (show ¬ c1 = i by omega)] at hC
    have := node_weight.calls 2 _ (c1 - i) ((l1.take (i + 1)).drop i) _ W hC (by rw [hL]; omega) (by rw [weight_val _ (by rw [hL]; omega) 2 (by rw [hL]; omega), wrap_small (by have := WB.out; have := wN_step l1 i; have := wN_take l1 (i + 1); omega)])
    rw [hL] at this
    exact this⟩
  have HCT0 : cutN l1 (l1.length - 0) 0 = cutP l1 := rfl
  obtain ⟨ct, hct⟩ : ∃ x, cutP l1 = x := ⟨_, rfl⟩
  rw [hct] at HCT0 ⊢
  have HCT := Aside0.mk HCT0
  have hct2 : ct < l1.length := by rw [← hct]; exact cutP_lt l1 (by omega)
  clear hct HCT0
  obtain ⟨P1, hP1⟩ : ∃ x, l1.take ct = x := ⟨_, rfl⟩
  obtain ⟨P2, hP2⟩ : ∃ x, l1.drop ct = x := ⟨_, rfl⟩
  have EP2 : Aside0 (l1.getD ct ⟨⟨#[]⟩, ⟨#[]⟩⟩ = P2.getD 0 ⟨⟨#[]⟩, ⟨#[]⟩⟩) := ⟨by rw [← hP2]; simp⟩
  obtain ⟨kx, hkx⟩ : ∃ x, (P2.getD 0 ⟨⟨#[]⟩, ⟨#[]⟩⟩).f0 = x := ⟨_, rfl⟩
  rw [hP1, hP2, EP2.out, hkx]
  have EK := Aside0.mk hkx
  clear hkx
  have LP1 : Aside0 (P1.length = ct) := ⟨by rw [← hP1, List.length_take]; omega⟩
  have LP2 : Aside0 (P2.length = l1.length - ct) := ⟨by rw [← hP2, List.length_drop]⟩
  have CP1 : Aside0 (Kd.C k48 w A1 P1.length P1) := ⟨by rw [← hP1]; exact Kd.C_take HR1.out (by omega)⟩
  have CP2 : Aside0 (Kd.C k48 w (A1.map (·.add (ct * 2))) P2.length P2) := ⟨by rw [← hP2]; have := Kd.C_drop (m := ct) HR1.out (by omega) hc1; rwa [if_neg (show ¬ c1 = ct by omega)] at this⟩
  clear hP1 hP2 EP2 hf hin
  have BB0 := Below.refl w.heap.size w
  obtain ⟨wp0, hwp0⟩ : ∃ x, x = w.alloc (.cells #[.bool true, .slice A1 l1.length c1, .slice A2 l2.length c2, .slice A3 l3.length c3] 31) := ⟨_, rfl⟩
  have t_n := heap_alloc_new w (.cells #[.bool true, .slice A1 l1.length c1, .slice A2 l2.length c2, .slice A3 l3.length c3] 31)
  rw [← hwp0] at t_n
  have BB1 : Below w.heap.size w wp0 := by rw [hwp0]; exact below_alloc BB0 _
  have sz0 : wp0.heap.size = w.heap.size + 1 := by rw [hwp0]; simp
  obtain ⟨wp1, hwp1⟩ : ∃ x, x = wp0.alloc (.cells #[.bool false, .slice none 0 0, .slice none 0 0, .slice none 0 0] 31) := ⟨_, rfl⟩
  have t_r := heap_alloc_new wp0 (.cells #[.bool false, .slice none 0 0, .slice none 0 0, .slice none 0 0] 31)
  rw [← hwp1] at t_r
  rw [sz0] at t_r
  have BB2 : Below w.heap.size w wp1 := by rw [hwp1]; exact below_alloc BB1 _
  have sz1 : wp1.heap.size = w.heap.size + 2 := by rw [hwp1]; simp [sz0]
  replace t_n := (show wp1.heap[_]? = wp0.heap[_]? by rw [hwp1]; exact Lib.alloc_old wp0 (.cells #[.bool false, .slice none 0 0, .slice none 0 0, .slice none 0 0] 31) _ (blk_lt t_n)).trans t_n
  obtain ⟨wp2, hwp2⟩ : ∃ x, x = wp1.alloc (.cells #[.bool false, .slice none 0 0, .slice none 0 0, .slice none 0 0] 31) := ⟨_, rfl⟩
  have t_q := heap_alloc_new wp1 (.cells #[.bool false, .slice none 0 0, .slice none 0 0, .slice none 0 0] 31)
  rw [← hwp2] at t_q
  rw [sz1] at t_q
  have BB3 : Below w.heap.size w wp2 := by rw [hwp2]; exact below_alloc BB2 _
  have sz2 : wp2.heap.size = w.heap.size + 3 := by rw [hwp2]; simp [sz1]
  replace t_n := (show wp2.heap[_]? = wp1.heap[_]? by rw [hwp2]; exact Lib.alloc_old wp1 (.cells #[.bool false, .slice none 0 0, .slice none 0 0, .slice none 0 0] 31) _ (blk_lt t_n)).trans t_n
  replace t_r := (show wp2.heap[_]? = wp1.heap[_]? by rw [hwp2]; exact Lib.alloc_old wp1 (.cells #[.bool false, .slice none 0 0, .slice none 0 0, .slice none 0 0] 31) _ (blk_lt t_r)).trans t_r
  have HW0 : Aside0 (wp2 = (((w.alloc (.cells #[.bool true, .slice A1 l1.length c1, .slice A2 l2.length c2, .slice A3 l3.length c3] 31)).alloc (.cells #[.bool false, .slice none 0 0, .slice none 0 0, .slice none 0 0] 31)).alloc (.cells #[.bool false, .slice none 0 0, .slice none 0 0, .slice none 0 0] 31))) := ⟨by rw [hwp2, hwp1, hwp0]⟩
  have T_n := Aside0.mk t_n
  have T_r := Aside0.mk t_r
  have T_q := Aside0.mk t_q
  have BB := Aside0.mk BB3
  have SZ0 := Aside0.mk sz2
  clear t_n t_r t_q BB0 BB1 BB2 BB3 sz0 sz1 sz2 hwp0 hwp1 hwp2
  go_enter Try.func18, Try.ntmps18
  go_wp2_with fail
  rw [← HW0.out]
  refine (CK.out _ BB.out).mono ?_
  rintro e w76 ⟨rfl, hB⟩
  replace T_n := bm hB T_n; replace T_r := bm hB T_r; replace T_q := bm hB T_q; replace BB := xm hB BB
  clear hB
  have c_n0 := bc T_n 0 rfl; have c_n1 := bc T_n 1 rfl; have c_n2 := bc T_n 2 rfl; have c_n3 := bc T_n 3 rfl
  go_wp2_with fail
  refine (WT.out _ BB.out).mono ?_
  rintro e w77 ⟨rfl, hB⟩
  replace T_n := bm hB T_n; replace T_r := bm hB T_r; replace T_q := bm hB T_q; replace BB := xm hB BB
  clear hB
  clear c_n0 c_n1 c_n2 c_n3
  go_wp2_with fail
  go_loopw [10, 11] (fun v10 v11 W => ∃ i : Nat, i < l1.length ∧ v10 = .int .i64 (weightN (l1.take i) : Nat) ∧ v11 = .int .i64 (i : Int) ∧ Aside0 (cutN l1 (l1.length - i) i = ct) ∧ Aside0 (W.heap[w.heap.size]? = some (.cells #[.bool true, .slice A1 l1.length c1, .slice A2 l2.length c2, .slice A3 l3.length c3] 31 (0, 0))) ∧ Aside0 (W.heap[(w.heap.size + 1)]? = some (.cells #[.bool false, .slice none 0 0, .slice none 0 0, .slice none 0 0] 31 (0, 0))) ∧ Aside0 (W.heap[(w.heap.size + 2)]? = some (.cells #[.bool false, .slice none 0 0, .slice none 0 0, .slice none 0 0] 31 (0, 0))) ∧ Aside0 (Below w.heap.size w W)) (fun _ v11 _ => (l1.length - intOf v11).toNat)
  case atStart => exact ⟨0, by omega, by simp [weightN], rfl, HCT, T_n, T_r, T_q, BB⟩
  case round =>
    clear HCT BB T_n T_r T_q
    obtain ⟨i, hi, rfl, rfl, HD, T_n, T_r, T_q, BB⟩ := hrel
    have hfw : weightN (l1.take i) ≤ 20910 := by have := wN_take l1 i; have := WB.out; omega
    have HFN : Aside0 (((weightN (l1.take i) : Nat) : Int) + ((weightN ((l1.take (i + 1)).drop i) : Nat) : Int) = ((weightN (l1.take (i + 1)) : Nat) : Int)) := ⟨by have := wN_step l1 i; omega⟩
    have hfN : weightN (l1.take (i + 1)) ≤ 20910 := by have := wN_take l1 (i + 1); have := WB.out; omega
    have WMi := Aside0.mk (WM.out i hi)
    obtain ⟨f, hf⟩ : ∃ x, weightN (l1.take i) = x := ⟨_, rfl⟩
    obtain ⟨m, hm⟩ : ∃ x, weightN ((l1.take (i + 1)).drop i) = x := ⟨_, rfl⟩
    obtain ⟨f', hf'⟩ : ∃ x, weightN (l1.take (i + 1)) = x := ⟨_, rfl⟩
    rw [hf] at hfw HFN ⊢
    rw [hm] at HFN WMi
    rw [hf'] at HFN hfN
    have hw1 : IntKind.i64.wrap ((l1.length : Int) - 1) = (l1.length : Int) - 1 := by rw [IntKind.wrap_i64]; omega
    have hw2 : IntKind.i64.wrap (2 * (f : Int)) = 2 * (f : Int) := by rw [IntKind.wrap_i64]; omega
    have hw3 : IntKind.i64.wrap ((f : Int) + (m : Int)) = (f' : Int) := by rw [HFN.out, IntKind.wrap_i64]; omega
    have hw4 : IntKind.i64.wrap ((i : Int) + 1) = (i : Int) + 1 := by rw [IntKind.wrap_i64]; omega
    have hj1 : i ≤ i + 1 := Nat.le_succ i
    have hj2 : i + 1 ≤ c1 := by omega
    have hj3 : i ≤ c1 := by omega
    have hj4 : i ≤ l1.length := by omega
    have FF := Aside0.mk hf
    have FF' := Aside0.mk hf'
    clear hf hf' hm
    by_cases HG0 : i + 1 < l1.length ∧ (i = 0 ∨ 2 * weightN (l1.take i) < weightN l1)
    · have HN : Aside0 (cutN l1 (l1.length - (i + 1)) (i + 1) = ct) := ⟨by rw [← HD.out, show l1.length - i = (l1.length - (i + 1)) + 1 by omega, cutN, if_pos HG0]⟩
      have HG := Aside0.mk HG0.1
      have d1 : decide ((i : Int) < (l1.length : Int) - 1) = true := decide_eq_true (by omega)
      by_cases h0 : i = 0
      · clear HG0
        have c_n0 := bc T_n 0 rfl; have c_n1 := bc T_n 1 rfl; have c_n2 := bc T_n 2 rfl; have c_n3 := bc T_n 3 rfl
        subst h0
        replace WMi : Aside0 (∀ W, Below w.heap.size w W → Calls Try.prog 41 #[.slice A1 1 c1] W fun e W' => e = .returned (.int .i64 (m : Int)) ∧ Below W.heap.size W W') := ⟨by
          have := WMi.out
          rwa [show A1.map (fun x : Addr => x.add (0 * 2)) = A1 by cases A1 <;> simp [Addr.add]] at this⟩
        go_wp2_with fail
        refine (WMi.out _ BB.out).mono ?_
        rintro e w78 ⟨rfl, hB⟩
        replace T_n := bm hB T_n; replace T_r := bm hB T_r; replace T_q := bm hB T_q; replace BB := xm hB BB
        clear hB
        clear c_n0 c_n1 c_n2 c_n3
        go_wp2_with fail
        go_roundw
        case rel => exact ⟨0 + 1, HG.out, by rw [FF'.out], rfl, HN, T_n, T_r, T_q, BB⟩
        case measure => simp [intOf]; omega
      · have d4 : decide (2 * (f : Int) < (weightN l1 : Int)) = true := decide_eq_true (by have := HG0.2; rw [FF.out] at this; omega)
        clear HG0
        have c_n0 := bc T_n 0 rfl; have c_n1 := bc T_n 1 rfl; have c_n2 := bc T_n 2 rfl; have c_n3 := bc T_n 3 rfl
        skip
        go_wp2_with fail
        refine (WMi.out _ BB.out).mono ?_
        rintro e w79 ⟨rfl, hB⟩
        replace T_n := bm hB T_n; replace T_r := bm hB T_r; replace T_q := bm hB T_q; replace BB := xm hB BB
        clear hB
        clear c_n0 c_n1 c_n2 c_n3
        go_wp2_with fail
        go_roundw
        case rel => exact ⟨i + 1, HG.out, by rw [FF'.out], rfl, HN, T_n, T_r, T_q, BB⟩
        case measure => simp [intOf]; omega
    · have HC : Aside0 (i = ct) := ⟨by rw [← HD.out, show l1.length - i = (l1.length - (i + 1)) + 1 by omega, cutN, if_neg HG0]⟩
      by_cases h1 : i + 1 < l1.length
      · have d1 : decide ((i : Int) < (l1.length : Int) - 1) = true := decide_eq_true (by omega)
        have h0 : ¬ i = 0 := fun e => HG0 ⟨h1, .inl e⟩
        have d4 : decide (2 * (f : Int) < (weightN l1 : Int)) = false := decide_eq_false (fun e => HG0 ⟨h1, .inr (by rw [FF.out]; omega)⟩)
        clear HG0
        have c_n0 := bc T_n 0 rfl; have c_n1 := bc T_n 1 rfl; have c_n2 := bc T_n 2 rfl; have c_n3 := bc T_n 3 rfl
        clear h1
        have hct := HC.out
        subst hct
        go_wp2_with fail
        have BBo := BB
        have CC := api_Pair_44.calls (A1) (c1) (P1) (P1) wr (Kd.C_below CP1.out BB.out) (by rw [LP1.out]; omega) (by unfold api_Pair_44.f; rw [if_pos (by rw [LP1.out]; omega)])
        rw [LP1.out] at CC
        refine (CC).mono ?_
        rintro e w80 ⟨v0, rfl, hR, hB⟩
        replace T_n := bm hB T_n; replace T_r := bm hB T_r; replace T_q := bm hB T_q; replace BB := xm hB BB
        clear hB
        clear c_n0 c_n1 c_n2 c_n3
        have hR' := Kd.R_lower hR (Nat.le_trans BBo.out.size (Nat.le_refl _))
        obtain ⟨A81, c82, rfl⟩ := Kd.R_slice hR
        have R_p1 := Aside0.mk hR'
        clear hR hR' BBo CC
        go_upto_region 16 with fail
        obtain ⟨g84, hg84⟩ : ∃ n, n = w80.heap.size := ⟨_, rfl⟩
        obtain ⟨w83, hw83⟩ : ∃ x, x = w80.alloc (.cells #[.bool true, .slice A81 (P1).length c82, .slice none 0 0, .slice none 0 0] 31) := ⟨_, rfl⟩
        have tn := heap_alloc_new w80 (.cells #[.bool true, .slice A81 (P1).length c82, .slice none 0 0, .slice none 0 0] 31)
        have hB := below_alloc (Below.refl w80.heap.size w80) (.cells #[.bool true, .slice A81 (P1).length c82, .slice none 0 0, .slice none 0 0] 31)
        rw [← hw83] at tn hB
        rw [← hg84] at tn
        have GBB_b1 : Aside0 (w.heap.size ≤ g84) := ⟨by rw [hg84]; exact BB.out.size⟩
        have NE_b1_n : Aside0 (w.heap.size ≠ g84) := ⟨by have := blk_lt T_n.out; omega⟩
        have NE_b1_r : Aside0 ((w.heap.size + 1) ≠ g84) := ⟨by have := blk_lt T_r.out; omega⟩
        have NE_b1_q : Aside0 ((w.heap.size + 2) ≠ g84) := ⟨by have := blk_lt T_q.out; omega⟩
        replace T_n := bm hB T_n; replace T_r := bm hB T_r; replace T_q := bm hB T_q; replace R_p1 := rm hB R_p1; replace BB := xm hB BB
        have T_b1 := Aside0.mk tn
        clear tn hB
        rw [← hw83]
        try rw [← hg84]
        clear hw83 hg84
        have c_n0 := bc T_n 0 rfl; have c_n1 := bc T_n 1 rfl; have c_n2 := bc T_n 2 rfl; have c_n3 := bc T_n 3 rfl
        go_wp2_with fail
        have BBo := BB
        have CC := api_Pair_44.calls (A1.map (·.add (i * 2))) (c1 - i) (P2) (P2) w83 (Kd.C_below CP2.out BB.out) (by rw [LP2.out]; omega) (by unfold api_Pair_44.f; rw [if_pos (by rw [LP2.out]; omega)])
        rw [LP2.out] at CC
        refine (CC).mono ?_
        rintro e w85 ⟨v0, rfl, hR, hB⟩
        replace T_n := bm hB T_n; replace T_r := bm hB T_r; replace T_q := bm hB T_q; replace T_b1 := bm hB T_b1; replace R_p1 := rm hB R_p1; replace BB := xm hB BB
        clear hB
        clear c_n0 c_n1 c_n2 c_n3
        have hR' := Kd.R_lower hR (Nat.le_trans BBo.out.size (Nat.le_refl _))
        obtain ⟨A86, c87, rfl⟩ := Kd.R_slice hR
        have R_p2 := Aside0.mk hR'
        clear hR hR' BBo CC
        obtain ⟨ad, hA⟩ := row48_at R_p2.out (by rw [LP2.out]; omega)
        subst hA
        go_upto_region 17 with fail
        obtain ⟨g89, hg89⟩ : ∃ n, n = w85.heap.size := ⟨_, rfl⟩
        obtain ⟨w88, hw88⟩ : ∃ x, x = w85.alloc (.cells #[.bool true, .slice (some ad) (P2).length c87, .slice none 0 0, .slice none 0 0] 31) := ⟨_, rfl⟩
        have tn := heap_alloc_new w85 (.cells #[.bool true, .slice (some ad) (P2).length c87, .slice none 0 0, .slice none 0 0] 31)
        have hB := below_alloc (Below.refl w85.heap.size w85) (.cells #[.bool true, .slice (some ad) (P2).length c87, .slice none 0 0, .slice none 0 0] 31)
        rw [← hw88] at tn hB
        rw [← hg89] at tn
        have GBB_b2 : Aside0 (w.heap.size ≤ g89) := ⟨by rw [hg89]; exact BB.out.size⟩
        have NE_b2_n : Aside0 (w.heap.size ≠ g89) := ⟨by have := blk_lt T_n.out; omega⟩
        have NE_b2_r : Aside0 ((w.heap.size + 1) ≠ g89) := ⟨by have := blk_lt T_r.out; omega⟩
        have NE_b2_q : Aside0 ((w.heap.size + 2) ≠ g89) := ⟨by have := blk_lt T_q.out; omega⟩
        have NE_b2_b1 : Aside0 (g84 ≠ g89) := ⟨by have := blk_lt T_b1.out; omega⟩
        replace T_n := bm hB T_n; replace T_r := bm hB T_r; replace T_q := bm hB T_q; replace T_b1 := bm hB T_b1; replace R_p1 := rm hB R_p1; replace R_p2 := rm hB R_p2; replace BB := xm hB BB
        have T_b2 := Aside0.mk tn
        clear tn hB
        rw [← hw88]
        try rw [← hg89]
        clear hw88 hg89
        have hp2 : 0 < P2.length := by rw [LP2.out]; omega
        have hB : Below w88.heap.size w88 w88.drew := below_drew1 (Below.refl _ _)
        refine wp_region_held_drew (S := fun W => Below w.heap.size w W ∧ W.cell? ⟨w.heap.size, 0, none⟩ = some (.bool true) ∧ W.cell? ⟨w.heap.size, 1, none⟩ = some (.slice A1 l1.length c1) ∧ W.cell? ⟨w.heap.size, 2, none⟩ = some (.slice A2 l2.length c2) ∧ W.cell? ⟨w.heap.size, 3, none⟩ = some (.slice A3 l3.length c3) ∧ W.cell? ⟨g84, 0, none⟩ = some (.bool true) ∧ W.cell? ⟨g84, 1, none⟩ = some (.slice A81 (P1).length c82) ∧ W.cell? ⟨g84, 2, none⟩ = some (.slice none 0 0) ∧ W.cell? ⟨g84, 3, none⟩ = some (.slice none 0 0) ∧ W.cell? ⟨g89, 0, none⟩ = some (.bool true) ∧ W.cell? ⟨g89, 1, none⟩ = some (.slice (some ad) (P2).length c87) ∧ W.cell? ⟨g89, 2, none⟩ = some (.slice none 0 0) ∧ W.cell? ⟨g89, 3, none⟩ = some (.slice none 0 0) ∧ W.cell? ad = some (.string kx)) (by kernel_rfl) ?_ (fun hHeld => ?_)
        · try dsimp only
          have BB' := BB.out.trans (hB.mono BB.out.size)
          exact ⟨BB', nd_cell hB (blk_cell T_n.out 0), nd_cell hB (blk_cell T_n.out 1), nd_cell hB (blk_cell T_n.out 2), nd_cell hB (blk_cell T_n.out 3), nd_cell hB (blk_cell T_b1.out 0), nd_cell hB (blk_cell T_b1.out 1), nd_cell hB (blk_cell T_b1.out 2), nd_cell hB (blk_cell T_b1.out 3), nd_cell hB (blk_cell T_b2.out 0), nd_cell hB (blk_cell T_b2.out 1), nd_cell hB (blk_cell T_b2.out 2), nd_cell hB (blk_cell T_b2.out 3), (by have := row48_cell R_p2.out hp2; rwa [EK.out] at this)⟩
        clear hHeld
        obtain ⟨w90, hw90⟩ : ∃ x, x = w88.drew := ⟨_, rfl⟩
        rw [← hw90] at hB ⊢
        clear hw90
        replace T_n := bm hB T_n; replace T_r := bm hB T_r; replace T_q := bm hB T_q; replace T_b1 := bm hB T_b1; replace T_b2 := bm hB T_b2; replace R_p1 := rm hB R_p1; replace R_p2 := rm hB R_p2; replace BB := xm hB BB
        clear hB
        have hHeld : (fun W => Below w.heap.size w W ∧ W.cell? ⟨w.heap.size, 0, none⟩ = some (.bool true) ∧ W.cell? ⟨w.heap.size, 1, none⟩ = some (.slice A1 l1.length c1) ∧ W.cell? ⟨w.heap.size, 2, none⟩ = some (.slice A2 l2.length c2) ∧ W.cell? ⟨w.heap.size, 3, none⟩ = some (.slice A3 l3.length c3) ∧ W.cell? ⟨g84, 0, none⟩ = some (.bool true) ∧ W.cell? ⟨g84, 1, none⟩ = some (.slice A81 (P1).length c82) ∧ W.cell? ⟨g84, 2, none⟩ = some (.slice none 0 0) ∧ W.cell? ⟨g84, 3, none⟩ = some (.slice none 0 0) ∧ W.cell? ⟨g89, 0, none⟩ = some (.bool true) ∧ W.cell? ⟨g89, 1, none⟩ = some (.slice (some ad) (P2).length c87) ∧ W.cell? ⟨g89, 2, none⟩ = some (.slice none 0 0) ∧ W.cell? ⟨g89, 3, none⟩ = some (.slice none 0 0) ∧ W.cell? ad = some (.string kx)) w90 := ⟨BB.out, blk_cell T_n.out 0, blk_cell T_n.out 1, blk_cell T_n.out 2, blk_cell T_n.out 3, blk_cell T_b1.out 0, blk_cell T_b1.out 1, blk_cell T_b1.out 2, blk_cell T_b1.out 3, blk_cell T_b2.out 0, blk_cell T_b2.out 1, blk_cell T_b2.out 2, blk_cell T_b2.out 3, (by have := row48_cell R_p2.out hp2; rwa [EK.out] at this)⟩
        refine sp_take 0 hHeld ?_
        refine sp_take 1 hHeld ?_
        refine sp_take 2 hHeld ?_
        refine sp_take 3 hHeld ?_
        refine sp_take 4 hHeld ?_
        refine sp_take 5 hHeld ?_
        refine sp_take 6 hHeld ?_
        refine wpAnyH_ready (rs := [7]) (by kernel_rfl) (by simp) ?_
        refine (AllReadyH.cons rfl (fun K hK => ?_) AllReadyH.nil)
        have c_r0 := bc T_r 0 rfl; have f_r0 := bf T_r 0; have c_r1 := bc T_r 1 rfl; have f_r1 := bf T_r 1; have c_r2 := bc T_r 2 rfl; have f_r2 := bf T_r 2; have c_r3 := bc T_r 3 rfl; have f_r3 := bf T_r 3
        go_simp
        clear c_r0 f_r0 c_r1 f_r1 c_r2 f_r2 c_r3 f_r3
        have hg := nd_grown4 w90 ((w.heap.size + 1)) (.bool true) (.slice A81 (P1).length c82) (.slice none 0 0) (.slice none 0 0)
        have tn := nd_put4 w90 ((w.heap.size + 1)) 31 _ _ _ _ (.bool true) (.slice A81 (P1).length c82) (.slice none 0 0) (.slice none 0 0) T_r.out
        obtain ⟨w91, hw91⟩ : ∃ x, x = ((((w90.setCell ⟨(w.heap.size + 1), 0, none⟩ (.bool true)).setCell ⟨(w.heap.size + 1), 1, none⟩ (.slice A81 (P1).length c82)).setCell ⟨(w.heap.size + 1), 2, none⟩ (.slice none 0 0)).setCell ⟨(w.heap.size + 1), 3, none⟩ (.slice none 0 0)) := ⟨_, rfl⟩
        rw [← hw91] at hg tn
        rw [← hw91]
        clear hw91
        replace R_p1 := rg hg T_r R_p1 (by decide)
        replace R_p2 := rg hg T_r R_p2 (by decide)
        replace T_n := bg hg T_n (by omega)
        replace T_q := bg hg T_q (by omega)
        replace T_b1 := bg hg T_b1 (fun e => NE_b1_r.out e.symm)
        replace T_b2 := bg hg T_b2 (fun e => NE_b2_r.out e.symm)
        replace BB := Aside0.mk (nd_grown_below hg BB.out BB.out.size (by omega))
        replace T_r := Aside0.mk tn
        clear tn hg
        refine hK.out _ _ ?_ (fun hNew => ?_)
        · try dsimp only
          exact ⟨BB.out, blk_cell T_n.out 0, blk_cell T_n.out 1, blk_cell T_n.out 2, blk_cell T_n.out 3, blk_cell T_b1.out 0, blk_cell T_b1.out 1, blk_cell T_b1.out 2, blk_cell T_b1.out 3, blk_cell T_b2.out 0, blk_cell T_b2.out 1, blk_cell T_b2.out 2, blk_cell T_b2.out 3, (by have := row48_cell R_p2.out hp2; rwa [EK.out] at this)⟩
        clear hK K hHeld hNew
        have hHeld : (fun W => Below w.heap.size w W ∧ W.cell? ⟨w.heap.size, 0, none⟩ = some (.bool true) ∧ W.cell? ⟨w.heap.size, 1, none⟩ = some (.slice A1 l1.length c1) ∧ W.cell? ⟨w.heap.size, 2, none⟩ = some (.slice A2 l2.length c2) ∧ W.cell? ⟨w.heap.size, 3, none⟩ = some (.slice A3 l3.length c3) ∧ W.cell? ⟨g84, 0, none⟩ = some (.bool true) ∧ W.cell? ⟨g84, 1, none⟩ = some (.slice A81 (P1).length c82) ∧ W.cell? ⟨g84, 2, none⟩ = some (.slice none 0 0) ∧ W.cell? ⟨g84, 3, none⟩ = some (.slice none 0 0) ∧ W.cell? ⟨g89, 0, none⟩ = some (.bool true) ∧ W.cell? ⟨g89, 1, none⟩ = some (.slice (some ad) (P2).length c87) ∧ W.cell? ⟨g89, 2, none⟩ = some (.slice none 0 0) ∧ W.cell? ⟨g89, 3, none⟩ = some (.slice none 0 0) ∧ W.cell? ad = some (.string kx)) w91 := ⟨BB.out, blk_cell T_n.out 0, blk_cell T_n.out 1, blk_cell T_n.out 2, blk_cell T_n.out 3, blk_cell T_b1.out 0, blk_cell T_b1.out 1, blk_cell T_b1.out 2, blk_cell T_b1.out 3, blk_cell T_b2.out 0, blk_cell T_b2.out 1, blk_cell T_b2.out 2, blk_cell T_b2.out 3, (by have := row48_cell R_p2.out hp2; rwa [EK.out] at this)⟩
        refine sp_take 8 hHeld ?_
        refine wpAnyH_ready (rs := [9]) (by kernel_rfl) (by simp) ?_
        refine (AllReadyH.cons rfl (fun K hK => ?_) AllReadyH.nil)
        have c_q0 := bc T_q 0 rfl; have f_q0 := bf T_q 0; have c_q1 := bc T_q 1 rfl; have f_q1 := bf T_q 1; have c_q2 := bc T_q 2 rfl; have f_q2 := bf T_q 2; have c_q3 := bc T_q 3 rfl; have f_q3 := bf T_q 3
        go_simp
        clear c_q0 f_q0 c_q1 f_q1 c_q2 f_q2 c_q3 f_q3
        have hg := nd_grown4 w91 ((w.heap.size + 2)) (.bool true) (.slice (some ad) (P2).length c87) (.slice none 0 0) (.slice none 0 0)
        have tn := nd_put4 w91 ((w.heap.size + 2)) 31 _ _ _ _ (.bool true) (.slice (some ad) (P2).length c87) (.slice none 0 0) (.slice none 0 0) T_q.out
        obtain ⟨w92, hw92⟩ : ∃ x, x = ((((w91.setCell ⟨(w.heap.size + 2), 0, none⟩ (.bool true)).setCell ⟨(w.heap.size + 2), 1, none⟩ (.slice (some ad) (P2).length c87)).setCell ⟨(w.heap.size + 2), 2, none⟩ (.slice none 0 0)).setCell ⟨(w.heap.size + 2), 3, none⟩ (.slice none 0 0)) := ⟨_, rfl⟩
        rw [← hw92] at hg tn
        rw [← hw92]
        clear hw92
        replace R_p1 := rg hg T_q R_p1 (by decide)
        replace R_p2 := rg hg T_q R_p2 (by decide)
        replace T_n := bg hg T_n (by omega)
        replace T_r := bg hg T_r (by omega)
        replace T_b1 := bg hg T_b1 (fun e => NE_b1_q.out e.symm)
        replace T_b2 := bg hg T_b2 (fun e => NE_b2_q.out e.symm)
        replace BB := Aside0.mk (nd_grown_below hg BB.out BB.out.size (by omega))
        replace T_q := Aside0.mk tn
        clear tn hg
        refine hK.out _ _ ?_ (fun hNew => ?_)
        · try dsimp only
          exact ⟨BB.out, blk_cell T_n.out 0, blk_cell T_n.out 1, blk_cell T_n.out 2, blk_cell T_n.out 3, blk_cell T_b1.out 0, blk_cell T_b1.out 1, blk_cell T_b1.out 2, blk_cell T_b1.out 3, blk_cell T_b2.out 0, blk_cell T_b2.out 1, blk_cell T_b2.out 2, blk_cell T_b2.out 3, (by have := row48_cell R_p2.out hp2; rwa [EK.out] at this)⟩
        clear hK K hHeld hNew
        have hHeld : (fun W => Below w.heap.size w W ∧ W.cell? ⟨w.heap.size, 0, none⟩ = some (.bool true) ∧ W.cell? ⟨w.heap.size, 1, none⟩ = some (.slice A1 l1.length c1) ∧ W.cell? ⟨w.heap.size, 2, none⟩ = some (.slice A2 l2.length c2) ∧ W.cell? ⟨w.heap.size, 3, none⟩ = some (.slice A3 l3.length c3) ∧ W.cell? ⟨g84, 0, none⟩ = some (.bool true) ∧ W.cell? ⟨g84, 1, none⟩ = some (.slice A81 (P1).length c82) ∧ W.cell? ⟨g84, 2, none⟩ = some (.slice none 0 0) ∧ W.cell? ⟨g84, 3, none⟩ = some (.slice none 0 0) ∧ W.cell? ⟨g89, 0, none⟩ = some (.bool true) ∧ W.cell? ⟨g89, 1, none⟩ = some (.slice (some ad) (P2).length c87) ∧ W.cell? ⟨g89, 2, none⟩ = some (.slice none 0 0) ∧ W.cell? ⟨g89, 3, none⟩ = some (.slice none 0 0) ∧ W.cell? ad = some (.string kx)) w92 := ⟨BB.out, blk_cell T_n.out 0, blk_cell T_n.out 1, blk_cell T_n.out 2, blk_cell T_n.out 3, blk_cell T_b1.out 0, blk_cell T_b1.out 1, blk_cell T_b1.out 2, blk_cell T_b1.out 3, blk_cell T_b2.out 0, blk_cell T_b2.out 1, blk_cell T_b2.out 2, blk_cell T_b2.out 3, (by have := row48_cell R_p2.out hp2; rwa [EK.out] at this)⟩
        refine sp_take 10 hHeld ?_
        refine wpAnyH_done (by kernel_rfl) ?_ _
        clear hHeld
        go_wp2_with fail
        refine bodyPost_ret (results_ctct rfl _ _ (w.heap.size + 1) (w.heap.size + 2) 31 31 #[.bool true, .slice A81 (P1).length c82, .slice none 0 0, .slice none 0 0] #[.bool true, .slice (some ad) (P2).length c87, .slice none 0 0, .slice none 0 0] (0, 0) (0, 0) _ _ rfl T_r.out Try.underlying31 rfl (by kernel_rfl) rfl T_q.out Try.underlying31 rfl (by kernel_rfl)) rfl ?_
        exact ⟨_, _, _, _, _, _, rfl, R_p1.out, Kd.R_nil _ _ _ _ _, Kd.R_nil _ _ _ _ _, R_p2.out, Kd.R_nil _ _ _ _ _, Kd.R_nil _ _ _ _ _, BB.out⟩
      · have d1 : decide ((i : Int) < (l1.length : Int) - 1) = false := decide_eq_false (by omega)
        clear HG0
        have c_n0 := bc T_n 0 rfl; have c_n1 := bc T_n 1 rfl; have c_n2 := bc T_n 2 rfl; have c_n3 := bc T_n 3 rfl
        clear h1
        have hct := HC.out
        subst hct
        go_wp2_with fail
        have BBo := BB
        have CC := api_Pair_44.calls (A1) (c1) (P1) (P1) wr (Kd.C_below CP1.out BB.out) (by rw [LP1.out]; omega) (by unfold api_Pair_44.f; rw [if_pos (by rw [LP1.out]; omega)])
        rw [LP1.out] at CC
        refine (CC).mono ?_
        rintro e w93 ⟨v0, rfl, hR, hB⟩
        replace T_n := bm hB T_n; replace T_r := bm hB T_r; replace T_q := bm hB T_q; replace BB := xm hB BB
        clear hB
        clear c_n0 c_n1 c_n2 c_n3
        have hR' := Kd.R_lower hR (Nat.le_trans BBo.out.size (Nat.le_refl _))
        obtain ⟨A94, c95, rfl⟩ := Kd.R_slice hR
        have R_p1 := Aside0.mk hR'
        clear hR hR' BBo CC
        go_upto_region 16 with fail
        obtain ⟨g97, hg97⟩ : ∃ n, n = w93.heap.size := ⟨_, rfl⟩
        obtain ⟨w96, hw96⟩ : ∃ x, x = w93.alloc (.cells #[.bool true, .slice A94 (P1).length c95, .slice none 0 0, .slice none 0 0] 31) := ⟨_, rfl⟩
        have tn := heap_alloc_new w93 (.cells #[.bool true, .slice A94 (P1).length c95, .slice none 0 0, .slice none 0 0] 31)
        have hB := below_alloc (Below.refl w93.heap.size w93) (.cells #[.bool true, .slice A94 (P1).length c95, .slice none 0 0, .slice none 0 0] 31)
        rw [← hw96] at tn hB
        rw [← hg97] at tn
        have GBB_b1 : Aside0 (w.heap.size ≤ g97) := ⟨by rw [hg97]; exact BB.out.size⟩
        have NE_b1_n : Aside0 (w.heap.size ≠ g97) := ⟨by have := blk_lt T_n.out; omega⟩
        have NE_b1_r : Aside0 ((w.heap.size + 1) ≠ g97) := ⟨by have := blk_lt T_r.out; omega⟩
        have NE_b1_q : Aside0 ((w.heap.size + 2) ≠ g97) := ⟨by have := blk_lt T_q.out; omega⟩
        replace T_n := bm hB T_n; replace T_r := bm hB T_r; replace T_q := bm hB T_q; replace R_p1 := rm hB R_p1; replace BB := xm hB BB
        have T_b1 := Aside0.mk tn
        clear tn hB
        rw [← hw96]
        try rw [← hg97]
        clear hw96 hg97
        have c_n0 := bc T_n 0 rfl; have c_n1 := bc T_n 1 rfl; have c_n2 := bc T_n 2 rfl; have c_n3 := bc T_n 3 rfl
        go_wp2_with fail
        have BBo := BB
        have CC := api_Pair_44.calls (A1.map (·.add (i * 2))) (c1 - i) (P2) (P2) w96 (Kd.C_below CP2.out BB.out) (by rw [LP2.out]; omega) (by unfold api_Pair_44.f; rw [if_pos (by rw [LP2.out]; omega)])
        rw [LP2.out] at CC
        refine (CC).mono ?_
        rintro e w98 ⟨v0, rfl, hR, hB⟩
        replace T_n := bm hB T_n; replace T_r := bm hB T_r; replace T_q := bm hB T_q; replace T_b1 := bm hB T_b1; replace R_p1 := rm hB R_p1; replace BB := xm hB BB
        clear hB
        clear c_n0 c_n1 c_n2 c_n3
        have hR' := Kd.R_lower hR (Nat.le_trans BBo.out.size (Nat.le_refl _))
        obtain ⟨A99, c100, rfl⟩ := Kd.R_slice hR
        have R_p2 := Aside0.mk hR'
        clear hR hR' BBo CC
        obtain ⟨ad, hA⟩ := row48_at R_p2.out (by rw [LP2.out]; omega)
        subst hA
        go_upto_region 17 with fail
        obtain ⟨g102, hg102⟩ : ∃ n, n = w98.heap.size := ⟨_, rfl⟩
        obtain ⟨w101, hw101⟩ : ∃ x, x = w98.alloc (.cells #[.bool true, .slice (some ad) (P2).length c100, .slice none 0 0, .slice none 0 0] 31) := ⟨_, rfl⟩
        have tn := heap_alloc_new w98 (.cells #[.bool true, .slice (some ad) (P2).length c100, .slice none 0 0, .slice none 0 0] 31)
        have hB := below_alloc (Below.refl w98.heap.size w98) (.cells #[.bool true, .slice (some ad) (P2).length c100, .slice none 0 0, .slice none 0 0] 31)
        rw [← hw101] at tn hB
        rw [← hg102] at tn
        have GBB_b2 : Aside0 (w.heap.size ≤ g102) := ⟨by rw [hg102]; exact BB.out.size⟩
        have NE_b2_n : Aside0 (w.heap.size ≠ g102) := ⟨by have := blk_lt T_n.out; omega⟩
        have NE_b2_r : Aside0 ((w.heap.size + 1) ≠ g102) := ⟨by have := blk_lt T_r.out; omega⟩
        have NE_b2_q : Aside0 ((w.heap.size + 2) ≠ g102) := ⟨by have := blk_lt T_q.out; omega⟩
        have NE_b2_b1 : Aside0 (g97 ≠ g102) := ⟨by have := blk_lt T_b1.out; omega⟩
        replace T_n := bm hB T_n; replace T_r := bm hB T_r; replace T_q := bm hB T_q; replace T_b1 := bm hB T_b1; replace R_p1 := rm hB R_p1; replace R_p2 := rm hB R_p2; replace BB := xm hB BB
        have T_b2 := Aside0.mk tn
        clear tn hB
        rw [← hw101]
        try rw [← hg102]
        clear hw101 hg102
        have hp2 : 0 < P2.length := by rw [LP2.out]; omega
        have hB : Below w101.heap.size w101 w101.drew := below_drew1 (Below.refl _ _)
        refine wp_region_held_drew (S := fun W => Below w.heap.size w W ∧ W.cell? ⟨w.heap.size, 0, none⟩ = some (.bool true) ∧ W.cell? ⟨w.heap.size, 1, none⟩ = some (.slice A1 l1.length c1) ∧ W.cell? ⟨w.heap.size, 2, none⟩ = some (.slice A2 l2.length c2) ∧ W.cell? ⟨w.heap.size, 3, none⟩ = some (.slice A3 l3.length c3) ∧ W.cell? ⟨g97, 0, none⟩ = some (.bool true) ∧ W.cell? ⟨g97, 1, none⟩ = some (.slice A94 (P1).length c95) ∧ W.cell? ⟨g97, 2, none⟩ = some (.slice none 0 0) ∧ W.cell? ⟨g97, 3, none⟩ = some (.slice none 0 0) ∧ W.cell? ⟨g102, 0, none⟩ = some (.bool true) ∧ W.cell? ⟨g102, 1, none⟩ = some (.slice (some ad) (P2).length c100) ∧ W.cell? ⟨g102, 2, none⟩ = some (.slice none 0 0) ∧ W.cell? ⟨g102, 3, none⟩ = some (.slice none 0 0) ∧ W.cell? ad = some (.string kx)) (by kernel_rfl) ?_ (fun hHeld => ?_)
        · try dsimp only
          have BB' := BB.out.trans (hB.mono BB.out.size)
          exact ⟨BB', nd_cell hB (blk_cell T_n.out 0), nd_cell hB (blk_cell T_n.out 1), nd_cell hB (blk_cell T_n.out 2), nd_cell hB (blk_cell T_n.out 3), nd_cell hB (blk_cell T_b1.out 0), nd_cell hB (blk_cell T_b1.out 1), nd_cell hB (blk_cell T_b1.out 2), nd_cell hB (blk_cell T_b1.out 3), nd_cell hB (blk_cell T_b2.out 0), nd_cell hB (blk_cell T_b2.out 1), nd_cell hB (blk_cell T_b2.out 2), nd_cell hB (blk_cell T_b2.out 3), (by have := row48_cell R_p2.out hp2; rwa [EK.out] at this)⟩
        clear hHeld
        obtain ⟨w103, hw103⟩ : ∃ x, x = w101.drew := ⟨_, rfl⟩
        rw [← hw103] at hB ⊢
        clear hw103
        replace T_n := bm hB T_n; replace T_r := bm hB T_r; replace T_q := bm hB T_q; replace T_b1 := bm hB T_b1; replace T_b2 := bm hB T_b2; replace R_p1 := rm hB R_p1; replace R_p2 := rm hB R_p2; replace BB := xm hB BB
        clear hB
        have hHeld : (fun W => Below w.heap.size w W ∧ W.cell? ⟨w.heap.size, 0, none⟩ = some (.bool true) ∧ W.cell? ⟨w.heap.size, 1, none⟩ = some (.slice A1 l1.length c1) ∧ W.cell? ⟨w.heap.size, 2, none⟩ = some (.slice A2 l2.length c2) ∧ W.cell? ⟨w.heap.size, 3, none⟩ = some (.slice A3 l3.length c3) ∧ W.cell? ⟨g97, 0, none⟩ = some (.bool true) ∧ W.cell? ⟨g97, 1, none⟩ = some (.slice A94 (P1).length c95) ∧ W.cell? ⟨g97, 2, none⟩ = some (.slice none 0 0) ∧ W.cell? ⟨g97, 3, none⟩ = some (.slice none 0 0) ∧ W.cell? ⟨g102, 0, none⟩ = some (.bool true) ∧ W.cell? ⟨g102, 1, none⟩ = some (.slice (some ad) (P2).length c100) ∧ W.cell? ⟨g102, 2, none⟩ = some (.slice none 0 0) ∧ W.cell? ⟨g102, 3, none⟩ = some (.slice none 0 0) ∧ W.cell? ad = some (.string kx)) w103 := ⟨BB.out, blk_cell T_n.out 0, blk_cell T_n.out 1, blk_cell T_n.out 2, blk_cell T_n.out 3, blk_cell T_b1.out 0, blk_cell T_b1.out 1, blk_cell T_b1.out 2, blk_cell T_b1.out 3, blk_cell T_b2.out 0, blk_cell T_b2.out 1, blk_cell T_b2.out 2, blk_cell T_b2.out 3, (by have := row48_cell R_p2.out hp2; rwa [EK.out] at this)⟩
        refine sp_take 0 hHeld ?_
        refine sp_take 1 hHeld ?_
        refine sp_take 2 hHeld ?_
        refine sp_take 3 hHeld ?_
        refine sp_take 4 hHeld ?_
        refine sp_take 5 hHeld ?_
        refine sp_take 6 hHeld ?_
        refine wpAnyH_ready (rs := [7]) (by kernel_rfl) (by simp) ?_
        refine (AllReadyH.cons rfl (fun K hK => ?_) AllReadyH.nil)
        have c_r0 := bc T_r 0 rfl; have f_r0 := bf T_r 0; have c_r1 := bc T_r 1 rfl; have f_r1 := bf T_r 1; have c_r2 := bc T_r 2 rfl; have f_r2 := bf T_r 2; have c_r3 := bc T_r 3 rfl; have f_r3 := bf T_r 3
        go_simp
        clear c_r0 f_r0 c_r1 f_r1 c_r2 f_r2 c_r3 f_r3
        have hg := nd_grown4 w103 ((w.heap.size + 1)) (.bool true) (.slice A94 (P1).length c95) (.slice none 0 0) (.slice none 0 0)
        have tn := nd_put4 w103 ((w.heap.size + 1)) 31 _ _ _ _ (.bool true) (.slice A94 (P1).length c95) (.slice none 0 0) (.slice none 0 0) T_r.out
        obtain ⟨w104, hw104⟩ : ∃ x, x = ((((w103.setCell ⟨(w.heap.size + 1), 0, none⟩ (.bool true)).setCell ⟨(w.heap.size + 1), 1, none⟩ (.slice A94 (P1).length c95)).setCell ⟨(w.heap.size + 1), 2, none⟩ (.slice none 0 0)).setCell ⟨(w.heap.size + 1), 3, none⟩ (.slice none 0 0)) := ⟨_, rfl⟩
        rw [← hw104] at hg tn
        rw [← hw104]
        clear hw104
        replace R_p1 := rg hg T_r R_p1 (by decide)
        replace R_p2 := rg hg T_r R_p2 (by decide)
        replace T_n := bg hg T_n (by omega)
        replace T_q := bg hg T_q (by omega)
        replace T_b1 := bg hg T_b1 (fun e => NE_b1_r.out e.symm)
        replace T_b2 := bg hg T_b2 (fun e => NE_b2_r.out e.symm)
        replace BB := Aside0.mk (nd_grown_below hg BB.out BB.out.size (by omega))
        replace T_r := Aside0.mk tn
        clear tn hg
        refine hK.out _ _ ?_ (fun hNew => ?_)
        · try dsimp only
          exact ⟨BB.out, blk_cell T_n.out 0, blk_cell T_n.out 1, blk_cell T_n.out 2, blk_cell T_n.out 3, blk_cell T_b1.out 0, blk_cell T_b1.out 1, blk_cell T_b1.out 2, blk_cell T_b1.out 3, blk_cell T_b2.out 0, blk_cell T_b2.out 1, blk_cell T_b2.out 2, blk_cell T_b2.out 3, (by have := row48_cell R_p2.out hp2; rwa [EK.out] at this)⟩
        clear hK K hHeld hNew
        have hHeld : (fun W => Below w.heap.size w W ∧ W.cell? ⟨w.heap.size, 0, none⟩ = some (.bool true) ∧ W.cell? ⟨w.heap.size, 1, none⟩ = some (.slice A1 l1.length c1) ∧ W.cell? ⟨w.heap.size, 2, none⟩ = some (.slice A2 l2.length c2) ∧ W.cell? ⟨w.heap.size, 3, none⟩ = some (.slice A3 l3.length c3) ∧ W.cell? ⟨g97, 0, none⟩ = some (.bool true) ∧ W.cell? ⟨g97, 1, none⟩ = some (.slice A94 (P1).length c95) ∧ W.cell? ⟨g97, 2, none⟩ = some (.slice none 0 0) ∧ W.cell? ⟨g97, 3, none⟩ = some (.slice none 0 0) ∧ W.cell? ⟨g102, 0, none⟩ = some (.bool true) ∧ W.cell? ⟨g102, 1, none⟩ = some (.slice (some ad) (P2).length c100) ∧ W.cell? ⟨g102, 2, none⟩ = some (.slice none 0 0) ∧ W.cell? ⟨g102, 3, none⟩ = some (.slice none 0 0) ∧ W.cell? ad = some (.string kx)) w104 := ⟨BB.out, blk_cell T_n.out 0, blk_cell T_n.out 1, blk_cell T_n.out 2, blk_cell T_n.out 3, blk_cell T_b1.out 0, blk_cell T_b1.out 1, blk_cell T_b1.out 2, blk_cell T_b1.out 3, blk_cell T_b2.out 0, blk_cell T_b2.out 1, blk_cell T_b2.out 2, blk_cell T_b2.out 3, (by have := row48_cell R_p2.out hp2; rwa [EK.out] at this)⟩
        refine sp_take 8 hHeld ?_
        refine wpAnyH_ready (rs := [9]) (by kernel_rfl) (by simp) ?_
        refine (AllReadyH.cons rfl (fun K hK => ?_) AllReadyH.nil)
        have c_q0 := bc T_q 0 rfl; have f_q0 := bf T_q 0; have c_q1 := bc T_q 1 rfl; have f_q1 := bf T_q 1; have c_q2 := bc T_q 2 rfl; have f_q2 := bf T_q 2; have c_q3 := bc T_q 3 rfl; have f_q3 := bf T_q 3
        go_simp
        clear c_q0 f_q0 c_q1 f_q1 c_q2 f_q2 c_q3 f_q3
        have hg := nd_grown4 w104 ((w.heap.size + 2)) (.bool true) (.slice (some ad) (P2).length c100) (.slice none 0 0) (.slice none 0 0)
        have tn := nd_put4 w104 ((w.heap.size + 2)) 31 _ _ _ _ (.bool true) (.slice (some ad) (P2).length c100) (.slice none 0 0) (.slice none 0 0) T_q.out
        obtain ⟨w105, hw105⟩ : ∃ x, x = ((((w104.setCell ⟨(w.heap.size + 2), 0, none⟩ (.bool true)).setCell ⟨(w.heap.size + 2), 1, none⟩ (.slice (some ad) (P2).length c100)).setCell ⟨(w.heap.size + 2), 2, none⟩ (.slice none 0 0)).setCell ⟨(w.heap.size + 2), 3, none⟩ (.slice none 0 0)) := ⟨_, rfl⟩
        rw [← hw105] at hg tn
        rw [← hw105]
        clear hw105
        replace R_p1 := rg hg T_q R_p1 (by decide)
        replace R_p2 := rg hg T_q R_p2 (by decide)
        replace T_n := bg hg T_n (by omega)
        replace T_r := bg hg T_r (by omega)
        replace T_b1 := bg hg T_b1 (fun e => NE_b1_q.out e.symm)
        replace T_b2 := bg hg T_b2 (fun e => NE_b2_q.out e.symm)
        replace BB := Aside0.mk (nd_grown_below hg BB.out BB.out.size (by omega))
        replace T_q := Aside0.mk tn
        clear tn hg
        refine hK.out _ _ ?_ (fun hNew => ?_)
        · try dsimp only
          exact ⟨BB.out, blk_cell T_n.out 0, blk_cell T_n.out 1, blk_cell T_n.out 2, blk_cell T_n.out 3, blk_cell T_b1.out 0, blk_cell T_b1.out 1, blk_cell T_b1.out 2, blk_cell T_b1.out 3, blk_cell T_b2.out 0, blk_cell T_b2.out 1, blk_cell T_b2.out 2, blk_cell T_b2.out 3, (by have := row48_cell R_p2.out hp2; rwa [EK.out] at this)⟩
        clear hK K hHeld hNew
        have hHeld : (fun W => Below w.heap.size w W ∧ W.cell? ⟨w.heap.size, 0, none⟩ = some (.bool true) ∧ W.cell? ⟨w.heap.size, 1, none⟩ = some (.slice A1 l1.length c1) ∧ W.cell? ⟨w.heap.size, 2, none⟩ = some (.slice A2 l2.length c2) ∧ W.cell? ⟨w.heap.size, 3, none⟩ = some (.slice A3 l3.length c3) ∧ W.cell? ⟨g97, 0, none⟩ = some (.bool true) ∧ W.cell? ⟨g97, 1, none⟩ = some (.slice A94 (P1).length c95) ∧ W.cell? ⟨g97, 2, none⟩ = some (.slice none 0 0) ∧ W.cell? ⟨g97, 3, none⟩ = some (.slice none 0 0) ∧ W.cell? ⟨g102, 0, none⟩ = some (.bool true) ∧ W.cell? ⟨g102, 1, none⟩ = some (.slice (some ad) (P2).length c100) ∧ W.cell? ⟨g102, 2, none⟩ = some (.slice none 0 0) ∧ W.cell? ⟨g102, 3, none⟩ = some (.slice none 0 0) ∧ W.cell? ad = some (.string kx)) w105 := ⟨BB.out, blk_cell T_n.out 0, blk_cell T_n.out 1, blk_cell T_n.out 2, blk_cell T_n.out 3, blk_cell T_b1.out 0, blk_cell T_b1.out 1, blk_cell T_b1.out 2, blk_cell T_b1.out 3, blk_cell T_b2.out 0, blk_cell T_b2.out 1, blk_cell T_b2.out 2, blk_cell T_b2.out 3, (by have := row48_cell R_p2.out hp2; rwa [EK.out] at this)⟩
        refine sp_take 10 hHeld ?_
        refine wpAnyH_done (by kernel_rfl) ?_ _
        clear hHeld
        go_wp2_with fail
        refine bodyPost_ret (results_ctct rfl _ _ (w.heap.size + 1) (w.heap.size + 2) 31 31 #[.bool true, .slice A94 (P1).length c95, .slice none 0 0, .slice none 0 0] #[.bool true, .slice (some ad) (P2).length c100, .slice none 0 0, .slice none 0 0] (0, 0) (0, 0) _ _ rfl T_r.out Try.underlying31 rfl (by kernel_rfl) rfl T_q.out Try.underlying31 rfl (by kernel_rfl)) rfl ?_
        exact ⟨_, _, _, _, _, _, rfl, R_p1.out, Kd.R_nil _ _ _ _ _, Kd.R_nil _ _ _ _ _, R_p2.out, Kd.R_nil _ _ _ _ _, Kd.R_nil _ _ _ _ _, BB.out⟩
theorem node_Split.calls (a : Bool) (A1 : Option Addr) (c1 : Nat) (l1 : List S48) (A2 : Option Addr) (c2 : Nat) (l2 : List ByteArray) (A3 : Option Addr) (c3 : Nat) (l3 : List Int) (r1 : Bool) (r2 : List S48) (r3 : List ByteArray) (r4 : List Int) (rk : ByteArray) (s1 : Bool) (s2 : List S48) (s3 : List ByteArray) (s4 : List Int) (re : Int) (w : World) (hr1 : Kd.C k48 w A1 l1.length l1) (hc1 : l1.length ≤ c1) (hr2 : Kd.C Kd.string w A2 l2.length l2) (hc2 : l2.length ≤ c2) (hr3 : Kd.C (Kd.int .i64) w A3 l3.length l3) (hc3 : l3.length ≤ c3) (h : node_Split.f a l1 l2 l3 = some (r1, r2, r3, r4, rk, s1, s2, s3, s4, re)) :
    Calls Try.prog 18 #[.agg #[.bool a, .slice A1 l1.length c1, .slice A2 l2.length c2, .slice A3 l3.length c3]] w fun e w' => ∃ v1_ v2_ v3_ u1_ u2_ u3_ : Value, e = .returned (.tuple #[.agg #[.bool r1, v1_, v2_, v3_], .string rk, .agg #[.bool s1, u1_, u2_, u3_], .int .i64 re]) ∧ Kd.R k48 48 w' w.heap.size (fun _ => True) v1_ r2 ∧ Kd.R Kd.string 9 w' w.heap.size (fun _ => True) v2_ r3 ∧ Kd.R (Kd.int .i64) 3 w' w.heap.size (fun _ => True) v3_ r4 ∧ Kd.R k48 48 w' w.heap.size (fun _ => True) u1_ s2 ∧ Kd.R Kd.string 9 w' w.heap.size (fun _ => True) u2_ s3 ∧ Kd.R (Kd.int .i64) 3 w' w.heap.size (fun _ => True) u3_ s4 ∧ Below w.heap.size w w' := by
  replace h := Option.some.inj h
  unfold splitV at h
  by_cases hf : (leafV a l1 l2 l3 || innerV a l1 l2 l3) = true
  · rw [if_pos hf] at h
    by_cases hm : (if a then l1.length < 2 else l3.length < 4)
    · rw [if_pos hm] at h
      cases h
      cases a
      · exact split_few_false A1 c1 l1 A2 c2 l2 A3 c3 l3 w hr1 hc1 hr2 hc2 hr3 hc3 hf hm
      · exact split_few_true A1 c1 l1 A2 c2 l2 A3 c3 l3 w hr1 hc1 hr2 hc2 hr3 hc3 hf hm
    · rw [if_neg hm] at h
      cases a
      · cases h
        exact split_inner A1 c1 l1 A2 c2 l2 A3 c3 l3 w hr1 hc1 hr2 hc2 hr3 hc3 hf (by have : ¬ l3.length < 4 := hm; omega)
      · cases h
        exact split_leaf A1 c1 l1 A2 c2 l2 A3 c3 l3 w hr1 hc1 hr2 hc2 hr3 hc3 hf (by have : ¬ l1.length < 2 := hm; omega)
  · rw [if_neg hf] at h
    cases h
    exact split_bad a A1 c1 l1 A2 c2 l2 A3 c3 l3 w hr1 hc1 hr2 hc2 hr3 hc3 hf
end
end Go.Proofs.Ytjjfeoigjhbbpaa.PA
namespace Go.Proofs.Ytjjfeoigjhbbpaa.PA
section

open Go.RowKit Go.Proofs.YtjjfeoigjhbbpaaW.PrintWords Go.Proofs.YtjjfeoigjhbbpaaW.PrintLast Go.Proofs.YtjjfeoigjhbbpaaW.PrintMore
attribute [local go_sem] pr_leq pr_geq pr_gtr max2_int min2_int max_two min_two max_three min_three max_four min_four
set_option linter.unusedVariables false
set_option linter.unusedSimpArgs false
theorem flat2 {α : Type} (x y : List α) : [x, y].flatten = x ++ y := by simp
theorem take_flat {α : Type} (l : List (List α)) (i : Nat) (h : i < l.length) : (l.take (i + 1)).flatten = (l.take i).flatten ++ l.getD i [] := by
  rw [List.take_add_one, List.flatten_append, List.getElem?_eq_getElem h]
  simp [h]
theorem take_flat_le {α : Type} (l : List (List α)) (i : Nat) : (l.take i).flatten.length ≤ l.flatten.length := by
  have h : ((l.take i) ++ (l.drop i)).flatten.length = l.flatten.length := by rw [List.take_append_drop]
  rw [List.flatten_append, List.length_append] at h
  omega
theorem grow_p (n : Nat) (w : World) (h1 : n ≤ 100000) : Calls Try.prog 69 #[.slice none 0 0, .int .i64 (n : Int)] w fun e w' => ∃ A c, e = .returned (.slice A 0 c) ∧ Kd.R k48 48 w' w.heap.size (fun _ => True) (.slice A 0 c) [] ∧ Below w.heap.size w w' := by
  have hw : IntKind.i64.wrap (n : Int) = (n : Int) := by rw [IntKind.wrap_i64]; omega
  have d1 : decide ((n : Int) < 0) = false := decide_eq_false (by omega)
  by_cases h0 : 0 < n
  · have d2 : decide ((0 : Int) < (n : Int)) = true := decide_eq_true (by omega)
    go_enter Try.func69, Try.ntmps69
    go_wp2_with (first | ((with_reducible refine gate_builtin (b := .append) (xs := #[.tmp 20, .tmp 21]) rfl ?_); (try (refine gate_guard (by rfl) ?_; dsimp only)); at_builtin; refine Kd.R_append_zeros k48 (w0 := w) w.heap.size rfl (.tmp 20) (.tmp 21) 22 3 48 (.agg #[(.string ⟨#[]⟩), (.string ⟨#[]⟩)]) 32 rfl Try.underlying22 Try.underlying3 info48 rfl (by decide) (by decide) (.slice none 0 0) [] (⟨⟨#[]⟩, ⟨#[]⟩⟩ : S48) (n : Int) (fun _ => True) rfl rfl ?aZ (fun _ _ => trivial) ?aO (by omega) ?aB ?aS ?aL ?_; (case aZ => exact k48_mkM _ _ _ _); (case aO => exact Kd.R_nil _ _ _ _ _); (case aB => exact Below.refl _ _); (case aS => exact Nat.le_refl _); (case aL => simp; omega); intro v1 w1 ho hb hg hat; have HO := Aside0.mk ho; have HB := Aside0.mk hb; clear hg hat ho hb; obtain ⟨A, c, rfl⟩ := Kd.R_slice HO.out) | fail)
    go_ret
    exact ⟨_, _, rfl, Kd.R_take (m := 0) HO.out (Nat.zero_le _), HB.out⟩
  · have d2 : decide ((0 : Int) < (n : Int)) = false := decide_eq_false (by omega)
    have d3 : n = 0 := by omega
    subst d3
    go_enter Try.func69, Try.ntmps69
    go_wp2_with fail
    go_ret
    exact ⟨_, _, rfl, Kd.R_nil _ _ _ _ _, Below.refl _ _⟩
set_option maxHeartbeats 4000000 in
set_option maxRecDepth 100000 in
theorem concat_p (A0 : Option Addr) (c0 : Nat) (l0 : List (List S48)) (w : World) (hr0 : Kd.C (Kd.slice 48 k48) w A0 l0.length l0) (hc0 : l0.length ≤ c0) (hT : l0.flatten.length ≤ 100000) (hn : l0.length ≤ 1000) :
    Calls Try.prog 46 #[.slice A0 l0.length c0] w fun e w' => ∃ v0_, e = .returned v0_ ∧ Kd.R k48 48 w' w.heap.size (fun _ => True) v0_ l0.flatten ∧ Below w.heap.size w w' := by
  have HR0 := Aside0.mk hr0
  have hTT := Aside0.mk hT
  clear hr0
  go_enter Try.func46, Try.ntmps46
  go_wp2_with fail
  go_loopw [3, 5, 11] (fun v3 v5 v11 W => ∃ i : Nat, i ≤ l0.length ∧ v3 = .int .i64 ((l0.take i).flatten.length : Nat) ∧ v11 = .int .i64 (i : Int) ∧ w = W) (fun _ _ v11 _ => (l0.length - intOf v11).toNat)
  case atStart => exact ⟨0, by omega, by simp, rfl, by first | rfl | trivial⟩
  case round =>
    obtain ⟨i, hi, rfl, rfl, hWW⟩ := hrel
    subst hWW
    by_cases h : i < l0.length
    · obtain ⟨ad, A1, c1, hA, hc, hl, _⟩ := at_L3 HR0.out (i : Int) (by omega) (by omega)
      rw [Int.toNat_natCast] at hc
      have HS : Aside0 (((l0.take (i + 1)).flatten.length : Nat) = (l0.take i).flatten.length + (rd_L3 l0 (i : Int)).length) := ⟨by rw [take_flat l0 i h, List.length_append]; rfl⟩
      have hb1 := take_flat_le l0 (i + 1)
      obtain ⟨L, hL⟩ : ∃ x, rd_L3 l0 (i : Int) = x := ⟨_, rfl⟩
      obtain ⟨f, hf⟩ : ∃ x, (l0.take i).flatten.length = x := ⟨_, rfl⟩
      obtain ⟨f', hf'⟩ : ∃ x, (l0.take (i + 1)).flatten.length = x := ⟨_, rfl⟩
      rw [hL] at hc hl HS
      rw [hf] at HS ⊢
      rw [hf'] at HS hb1
      have FF := Aside0.mk hf'
      subst hA
      have hw1 : IntKind.i64.wrap ((f : Int) + (L.length : Int)) = (f' : Int) := by have := HS.out; rw [IntKind.wrap_i64]; omega
      have hw4 : IntKind.i64.wrap ((i : Int) + 1) = (i : Int) + 1 := by rw [IntKind.wrap_i64]; omega
      have d1 : decide ((i : Int) < (l0.length : Int)) = true := decide_eq_true (by omega)
      have d2 : decide ((f' : Int) < 0) = false := decide_eq_false (by omega)
      have HN := Aside0.mk h
      clear hL hf hf' hb1
      go_wp2_with fail
      go_roundw
      case rel => exact ⟨i + 1, HN.out, by rw [FF.out], rfl, by first | rfl | trivial⟩
      case measure => simp [intOf]; omega
    · have hi2 : i = l0.length := by omega
      subst hi2
      have d1 : decide ((l0.length : Int) < (l0.length : Int)) = false := decide_eq_false (by omega)
      rw [List.take_length]
      obtain ⟨f, hf⟩ : ∃ x, l0.flatten.length = x := ⟨_, rfl⟩
      rw [hf] at hT ⊢
      clear hf
      go_wp2_with fail
      refine (grow_p f _ hT).mono ?_
      rintro e w2 ⟨A, c, rfl, hR, hB⟩
      have RR0 := Aside0.mk hR
      have BB0 := Aside0.mk hB
      clear hR hB hT
      go_wp2_with fail
      go_loopw [6, 8, 27] (fun v6 v8 v27 W => ∃ (i : Nat) (A : Option Addr) (c : Nat), i ≤ l0.length ∧ v6 = .slice A ((l0.take i).flatten).length c ∧ v27 = .int .i64 (i : Int) ∧ Aside0 (Kd.R k48 48 W w.heap.size (fun _ => True) (.slice A ((l0.take i).flatten).length c) ((l0.take i).flatten)) ∧ Aside0 (Below w.heap.size w W)) (fun _ _ v27 _ => (l0.length - intOf v27).toNat)
      case atStart => exact ⟨0, A, c, by omega, by simp, rfl, ⟨by simpa using RR0.out⟩, BB0⟩
      case round =>
        clear RR0 BB0
        obtain ⟨i, A2, c2, hi, rfl, rfl, RR, BB⟩ := hrel
        by_cases h : i < l0.length
        · obtain ⟨ad, A1, c1, hA, hc, hl, hC⟩ := at_L3 (Kd.C_below HR0.out BB.out) (i : Int) (by omega) (by omega)
          rw [Int.toNat_natCast] at hc
          have HS : Aside0 ((l0.take (i + 1)).flatten = (l0.take i).flatten ++ rd_L3 l0 (i : Int)) := ⟨by rw [take_flat l0 i h]; rfl⟩
          have hb1 := take_flat_le l0 (i + 1)
          obtain ⟨L, hL⟩ : ∃ x, rd_L3 l0 (i : Int) = x := ⟨_, rfl⟩
          obtain ⟨F, hF⟩ : ∃ x, (l0.take i).flatten = x := ⟨_, rfl⟩
          rw [hL] at hc hl HS hC
          rw [hF] at HS RR ⊢
          rw [HS.out, List.length_append] at hb1
          subst hA
          have CC := Aside0.mk hC
          have HL : Aside0 ((F.length + L.length) * 32 ≤ 140737488355328) := ⟨by have := hTT.out; omega⟩
          have hw4 : IntKind.i64.wrap ((i : Int) + 1) = (i : Int) + 1 := by rw [IntKind.wrap_i64]; omega
          have d1 : decide ((i : Int) < (l0.length : Int)) = true := decide_eq_true (by omega)
          have HN := Aside0.mk h
          clear hL hF hb1 hC hl
          go_wp2_with (first | ((with_reducible refine gate_builtin (b := .append) (xs := #[.tmp 31, .tmp 32]) rfl ?_); (try (refine gate_guard (by rfl) ?_; dsimp only)); at_builtin; refine Kd.R_append_rows k48 (w0 := w) w.heap.size rfl (.tmp 31) (.tmp 32) 22 48 (.agg #[(.string ⟨#[]⟩), (.string ⟨#[]⟩)]) 32 rfl Try.underlying22 info48 rfl (by decide) (by decide) (.slice A2 F.length c2) F L A1 L.length c1 (fun _ => True) (fun _ => False) rfl rfl RR.out CC.out (fun _ _ h => h) (fun _ h => h.elim) (fun _ _ => trivial) BB.out BB.out.size HL.out ?_; intro v1 w1 ho hb hg hat; have HO := Aside0.mk ho; have HB := Aside0.mk hb; clear hg hat ho hb RR CC BB; obtain ⟨A', c', rfl⟩ := Kd.R_slice HO.out) | fail)
          go_roundw
          case rel => exact ⟨i + 1, A', c', HN.out, by rw [HS.out, List.length_append], rfl, ⟨by rw [HS.out]; exact HO.out⟩, HB⟩
          case measure => simp [intOf]; omega
        · have hi2 : i = l0.length := by omega
          subst hi2
          rw [List.take_length] at RR ⊢
          obtain ⟨F, hF⟩ : ∃ x, l0.flatten = x := ⟨_, rfl⟩
          rw [hF] at RR ⊢
          have HF := Aside0.mk hF
          clear hF
          go_wp2_with fail
          go_ret
          exact ⟨.slice A2 F.length c2, by first | rfl | simp, by rw [HF.out]; exact RR.out, BB.out⟩
theorem grow_i (n : Nat) (w : World) (h1 : n ≤ 100000) : Calls Try.prog 70 #[.slice none 0 0, .int .i64 (n : Int)] w fun e w' => ∃ A c, e = .returned (.slice A 0 c) ∧ Kd.R (Kd.int .i64) 3 w' w.heap.size (fun _ => True) (.slice A 0 c) [] ∧ Below w.heap.size w w' := by
  have hw : IntKind.i64.wrap (n : Int) = (n : Int) := by rw [IntKind.wrap_i64]; omega
  have d1 : decide ((n : Int) < 0) = false := decide_eq_false (by omega)
  by_cases h0 : 0 < n
  · have d2 : decide ((0 : Int) < (n : Int)) = true := decide_eq_true (by omega)
    go_enter Try.func70, Try.ntmps70
    go_wp2_with (first | ((with_reducible refine gate_builtin (b := .append) (xs := #[.tmp 20, .tmp 21]) rfl ?_); (try (refine gate_guard (by rfl) ?_; dsimp only)); at_builtin; refine Kd.R_append_zeros (Kd.int .i64) (w0 := w) w.heap.size rfl (.tmp 20) (.tmp 21) 24 3 3 (.int .i64 0) 8 rfl Try.underlying24 Try.underlying3 info3 rfl (by decide) (by decide) (.slice none 0 0) [] (0 : Int) (n : Int) (fun _ => True) rfl rfl ?aZ (fun _ _ => trivial) ?aO (by omega) ?aB ?aS ?aL ?_; (case aZ => exact rfl); (case aO => exact Kd.R_nil _ _ _ _ _); (case aB => exact Below.refl _ _); (case aS => exact Nat.le_refl _); (case aL => simp; omega); intro v1 w1 ho hb hg hat; have HO := Aside0.mk ho; have HB := Aside0.mk hb; clear hg hat ho hb; obtain ⟨A, c, rfl⟩ := Kd.R_slice HO.out) | fail)
    go_ret
    exact ⟨_, _, rfl, Kd.R_take (m := 0) HO.out (Nat.zero_le _), HB.out⟩
  · have d2 : decide ((0 : Int) < (n : Int)) = false := decide_eq_false (by omega)
    have d3 : n = 0 := by omega
    subst d3
    go_enter Try.func70, Try.ntmps70
    go_wp2_with fail
    go_ret
    exact ⟨_, _, rfl, Kd.R_nil _ _ _ _ _, Below.refl _ _⟩
set_option maxHeartbeats 4000000 in
set_option maxRecDepth 100000 in
theorem concat_i (A0 : Option Addr) (c0 : Nat) (l0 : List (List Int)) (w : World) (hr0 : Kd.C (Kd.slice 3 (Kd.int .i64)) w A0 l0.length l0) (hc0 : l0.length ≤ c0) (hT : l0.flatten.length ≤ 100000) (hn : l0.length ≤ 1000) :
    Calls Try.prog 47 #[.slice A0 l0.length c0] w fun e w' => ∃ v0_, e = .returned v0_ ∧ Kd.R (Kd.int .i64) 3 w' w.heap.size (fun _ => True) v0_ l0.flatten ∧ Below w.heap.size w w' := by
  have HR0 := Aside0.mk hr0
  have hTT := Aside0.mk hT
  clear hr0
  go_enter Try.func47, Try.ntmps47
  go_wp2_with fail
  go_loopw [3, 5, 11] (fun v3 v5 v11 W => ∃ i : Nat, i ≤ l0.length ∧ v3 = .int .i64 ((l0.take i).flatten.length : Nat) ∧ v11 = .int .i64 (i : Int) ∧ w = W) (fun _ _ v11 _ => (l0.length - intOf v11).toNat)
  case atStart => exact ⟨0, by omega, by simp, rfl, by first | rfl | trivial⟩
  case round =>
    obtain ⟨i, hi, rfl, rfl, hWW⟩ := hrel
    subst hWW
    by_cases h : i < l0.length
    · obtain ⟨ad, A1, c1, hA, hc, hl, _⟩ := at_L6 HR0.out (i : Int) (by omega) (by omega)
      rw [Int.toNat_natCast] at hc
      have HS : Aside0 (((l0.take (i + 1)).flatten.length : Nat) = (l0.take i).flatten.length + (rd_L6 l0 (i : Int)).length) := ⟨by rw [take_flat l0 i h, List.length_append]; rfl⟩
      have hb1 := take_flat_le l0 (i + 1)
      obtain ⟨L, hL⟩ : ∃ x, rd_L6 l0 (i : Int) = x := ⟨_, rfl⟩
      obtain ⟨f, hf⟩ : ∃ x, (l0.take i).flatten.length = x := ⟨_, rfl⟩
      obtain ⟨f', hf'⟩ : ∃ x, (l0.take (i + 1)).flatten.length = x := ⟨_, rfl⟩
      rw [hL] at hc hl HS
      rw [hf] at HS ⊢
      rw [hf'] at HS hb1
      have FF := Aside0.mk hf'
      subst hA
      have hw1 : IntKind.i64.wrap ((f : Int) + (L.length : Int)) = (f' : Int) := by have := HS.out; rw [IntKind.wrap_i64]; omega
      have hw4 : IntKind.i64.wrap ((i : Int) + 1) = (i : Int) + 1 := by rw [IntKind.wrap_i64]; omega
      have d1 : decide ((i : Int) < (l0.length : Int)) = true := decide_eq_true (by omega)
      have d2 : decide ((f' : Int) < 0) = false := decide_eq_false (by omega)
      have HN := Aside0.mk h
      clear hL hf hf' hb1
      go_wp2_with fail
      go_roundw
      case rel => exact ⟨i + 1, HN.out, by rw [FF.out], rfl, by first | rfl | trivial⟩
      case measure => simp [intOf]; omega
    · have hi2 : i = l0.length := by omega
      subst hi2
      have d1 : decide ((l0.length : Int) < (l0.length : Int)) = false := decide_eq_false (by omega)
      rw [List.take_length]
      obtain ⟨f, hf⟩ : ∃ x, l0.flatten.length = x := ⟨_, rfl⟩
      rw [hf] at hT ⊢
      clear hf
      go_wp2_with fail
      refine (grow_i f _ hT).mono ?_
      rintro e w2 ⟨A, c, rfl, hR, hB⟩
      have RR0 := Aside0.mk hR
      have BB0 := Aside0.mk hB
      clear hR hB hT
      go_wp2_with fail
      go_loopw [6, 8, 27] (fun v6 v8 v27 W => ∃ (i : Nat) (A : Option Addr) (c : Nat), i ≤ l0.length ∧ v6 = .slice A ((l0.take i).flatten).length c ∧ v27 = .int .i64 (i : Int) ∧ Aside0 (Kd.R (Kd.int .i64) 3 W w.heap.size (fun _ => True) (.slice A ((l0.take i).flatten).length c) ((l0.take i).flatten)) ∧ Aside0 (Below w.heap.size w W)) (fun _ _ v27 _ => (l0.length - intOf v27).toNat)
      case atStart => exact ⟨0, A, c, by omega, by simp, rfl, ⟨by simpa using RR0.out⟩, BB0⟩
      case round =>
        clear RR0 BB0
        obtain ⟨i, A2, c2, hi, rfl, rfl, RR, BB⟩ := hrel
        by_cases h : i < l0.length
        · obtain ⟨ad, A1, c1, hA, hc, hl, hC⟩ := at_L6 (Kd.C_below HR0.out BB.out) (i : Int) (by omega) (by omega)
          rw [Int.toNat_natCast] at hc
          have HS : Aside0 ((l0.take (i + 1)).flatten = (l0.take i).flatten ++ rd_L6 l0 (i : Int)) := ⟨by rw [take_flat l0 i h]; rfl⟩
          have hb1 := take_flat_le l0 (i + 1)
          obtain ⟨L, hL⟩ : ∃ x, rd_L6 l0 (i : Int) = x := ⟨_, rfl⟩
          obtain ⟨F, hF⟩ : ∃ x, (l0.take i).flatten = x := ⟨_, rfl⟩
          rw [hL] at hc hl HS hC
          rw [hF] at HS RR ⊢
          rw [HS.out, List.length_append] at hb1
          subst hA
          have CC := Aside0.mk hC
          have HL : Aside0 ((F.length + L.length) * 8 ≤ 140737488355328) := ⟨by have := hTT.out; omega⟩
          have hw4 : IntKind.i64.wrap ((i : Int) + 1) = (i : Int) + 1 := by rw [IntKind.wrap_i64]; omega
          have d1 : decide ((i : Int) < (l0.length : Int)) = true := decide_eq_true (by omega)
          have HN := Aside0.mk h
          clear hL hF hb1 hC hl
          go_wp2_with (first | ((with_reducible refine gate_builtin (b := .append) (xs := #[.tmp 31, .tmp 32]) rfl ?_); (try (refine gate_guard (by rfl) ?_; dsimp only)); at_builtin; refine Kd.R_append_rows (Kd.int .i64) (w0 := w) w.heap.size rfl (.tmp 31) (.tmp 32) 24 3 (.int .i64 0) 8 rfl Try.underlying24 info3 rfl (by decide) (by decide) (.slice A2 F.length c2) F L A1 L.length c1 (fun _ => True) (fun _ => False) rfl rfl RR.out CC.out (fun _ _ h => h) (fun _ h => h.elim) (fun _ _ => trivial) BB.out BB.out.size HL.out ?_; intro v1 w1 ho hb hg hat; have HO := Aside0.mk ho; have HB := Aside0.mk hb; clear hg hat ho hb RR CC BB; obtain ⟨A', c', rfl⟩ := Kd.R_slice HO.out) | fail)
          go_roundw
          case rel => exact ⟨i + 1, A', c', HN.out, by rw [HS.out, List.length_append], rfl, ⟨by rw [HS.out]; exact HO.out⟩, HB⟩
          case measure => simp [intOf]; omega
        · have hi2 : i = l0.length := by omega
          subst hi2
          rw [List.take_length] at RR ⊢
          obtain ⟨F, hF⟩ : ∃ x, l0.flatten = x := ⟨_, rfl⟩
          rw [hF] at RR ⊢
          have HF := Aside0.mk hF
          clear hF
          go_wp2_with fail
          go_ret
          exact ⟨.slice A2 F.length c2, by first | rfl | simp, by rw [HF.out]; exact RR.out, BB.out⟩
theorem grow_s (n : Nat) (w : World) (h1 : n ≤ 100000) : Calls Try.prog 71 #[.slice none 0 0, .int .i64 (n : Int)] w fun e w' => ∃ A c, e = .returned (.slice A 0 c) ∧ Kd.R Kd.string 9 w' w.heap.size (fun _ => True) (.slice A 0 c) [] ∧ Below w.heap.size w w' := by
  have hw : IntKind.i64.wrap (n : Int) = (n : Int) := by rw [IntKind.wrap_i64]; omega
  have d1 : decide ((n : Int) < 0) = false := decide_eq_false (by omega)
  by_cases h0 : 0 < n
  · have d2 : decide ((0 : Int) < (n : Int)) = true := decide_eq_true (by omega)
    go_enter Try.func71, Try.ntmps71
    go_wp2_with (first | ((with_reducible refine gate_builtin (b := .append) (xs := #[.tmp 20, .tmp 21]) rfl ?_); (try (refine gate_guard (by rfl) ?_; dsimp only)); at_builtin; refine Kd.R_append_zeros Kd.string (w0 := w) w.heap.size rfl (.tmp 20) (.tmp 21) 23 3 9 (.string ⟨#[]⟩) 16 rfl Try.underlying23 Try.underlying3 info9 rfl (by decide) (by decide) (.slice none 0 0) [] (⟨#[]⟩ : ByteArray) (n : Int) (fun _ => True) rfl rfl ?aZ (fun _ _ => trivial) ?aO (by omega) ?aB ?aS ?aL ?_; (case aZ => exact rfl); (case aO => exact Kd.R_nil _ _ _ _ _); (case aB => exact Below.refl _ _); (case aS => exact Nat.le_refl _); (case aL => simp; omega); intro v1 w1 ho hb hg hat; have HO := Aside0.mk ho; have HB := Aside0.mk hb; clear hg hat ho hb; obtain ⟨A, c, rfl⟩ := Kd.R_slice HO.out) | fail)
    go_ret
    exact ⟨_, _, rfl, Kd.R_take (m := 0) HO.out (Nat.zero_le _), HB.out⟩
  · have d2 : decide ((0 : Int) < (n : Int)) = false := decide_eq_false (by omega)
    have d3 : n = 0 := by omega
    subst d3
    go_enter Try.func71, Try.ntmps71
    go_wp2_with fail
    go_ret
    exact ⟨_, _, rfl, Kd.R_nil _ _ _ _ _, Below.refl _ _⟩
set_option maxHeartbeats 4000000 in
set_option maxRecDepth 100000 in
theorem concat_s (A0 : Option Addr) (c0 : Nat) (l0 : List (List ByteArray)) (w : World) (hr0 : Kd.C (Kd.slice 9 Kd.string) w A0 l0.length l0) (hc0 : l0.length ≤ c0) (hT : l0.flatten.length ≤ 100000) (hn : l0.length ≤ 1000) :
    Calls Try.prog 48 #[.slice A0 l0.length c0] w fun e w' => ∃ v0_, e = .returned v0_ ∧ Kd.R Kd.string 9 w' w.heap.size (fun _ => True) v0_ l0.flatten ∧ Below w.heap.size w w' := by
  have HR0 := Aside0.mk hr0
  have hTT := Aside0.mk hT
  clear hr0
  go_enter Try.func48, Try.ntmps48
  go_wp2_with fail
  go_loopw [3, 5, 11] (fun v3 v5 v11 W => ∃ i : Nat, i ≤ l0.length ∧ v3 = .int .i64 ((l0.take i).flatten.length : Nat) ∧ v11 = .int .i64 (i : Int) ∧ w = W) (fun _ _ v11 _ => (l0.length - intOf v11).toNat)
  case atStart => exact ⟨0, by omega, by simp, rfl, by first | rfl | trivial⟩
  case round =>
    obtain ⟨i, hi, rfl, rfl, hWW⟩ := hrel
    subst hWW
    by_cases h : i < l0.length
    · obtain ⟨ad, A1, c1, hA, hc, hl, _⟩ := at_L4 HR0.out (i : Int) (by omega) (by omega)
      rw [Int.toNat_natCast] at hc
      have HS : Aside0 (((l0.take (i + 1)).flatten.length : Nat) = (l0.take i).flatten.length + (rd_L4 l0 (i : Int)).length) := ⟨by rw [take_flat l0 i h, List.length_append]; rfl⟩
      have hb1 := take_flat_le l0 (i + 1)
      obtain ⟨L, hL⟩ : ∃ x, rd_L4 l0 (i : Int) = x := ⟨_, rfl⟩
      obtain ⟨f, hf⟩ : ∃ x, (l0.take i).flatten.length = x := ⟨_, rfl⟩
      obtain ⟨f', hf'⟩ : ∃ x, (l0.take (i + 1)).flatten.length = x := ⟨_, rfl⟩
      rw [hL] at hc hl HS
      rw [hf] at HS ⊢
      rw [hf'] at HS hb1
      have FF := Aside0.mk hf'
      subst hA
      have hw1 : IntKind.i64.wrap ((f : Int) + (L.length : Int)) = (f' : Int) := by have := HS.out; rw [IntKind.wrap_i64]; omega
      have hw4 : IntKind.i64.wrap ((i : Int) + 1) = (i : Int) + 1 := by rw [IntKind.wrap_i64]; omega
      have d1 : decide ((i : Int) < (l0.length : Int)) = true := decide_eq_true (by omega)
      have d2 : decide ((f' : Int) < 0) = false := decide_eq_false (by omega)
      have HN := Aside0.mk h
      clear hL hf hf' hb1
      go_wp2_with fail
      go_roundw
      case rel => exact ⟨i + 1, HN.out, by rw [FF.out], rfl, by first | rfl | trivial⟩
      case measure => simp [intOf]; omega
    · have hi2 : i = l0.length := by omega
      subst hi2
      have d1 : decide ((l0.length : Int) < (l0.length : Int)) = false := decide_eq_false (by omega)
      rw [List.take_length]
      obtain ⟨f, hf⟩ : ∃ x, l0.flatten.length = x := ⟨_, rfl⟩
      rw [hf] at hT ⊢
      clear hf
      go_wp2_with fail
      refine (grow_s f _ hT).mono ?_
      rintro e w2 ⟨A, c, rfl, hR, hB⟩
      have RR0 := Aside0.mk hR
      have BB0 := Aside0.mk hB
      clear hR hB hT
      go_wp2_with fail
      go_loopw [6, 8, 27] (fun v6 v8 v27 W => ∃ (i : Nat) (A : Option Addr) (c : Nat), i ≤ l0.length ∧ v6 = .slice A ((l0.take i).flatten).length c ∧ v27 = .int .i64 (i : Int) ∧ Aside0 (Kd.R Kd.string 9 W w.heap.size (fun _ => True) (.slice A ((l0.take i).flatten).length c) ((l0.take i).flatten)) ∧ Aside0 (Below w.heap.size w W)) (fun _ _ v27 _ => (l0.length - intOf v27).toNat)
      case atStart => exact ⟨0, A, c, by omega, by simp, rfl, ⟨by simpa using RR0.out⟩, BB0⟩
      case round =>
        clear RR0 BB0
        obtain ⟨i, A2, c2, hi, rfl, rfl, RR, BB⟩ := hrel
        by_cases h : i < l0.length
        · obtain ⟨ad, A1, c1, hA, hc, hl, hC⟩ := at_L4 (Kd.C_below HR0.out BB.out) (i : Int) (by omega) (by omega)
          rw [Int.toNat_natCast] at hc
          have HS : Aside0 ((l0.take (i + 1)).flatten = (l0.take i).flatten ++ rd_L4 l0 (i : Int)) := ⟨by rw [take_flat l0 i h]; rfl⟩
          have hb1 := take_flat_le l0 (i + 1)
          obtain ⟨L, hL⟩ : ∃ x, rd_L4 l0 (i : Int) = x := ⟨_, rfl⟩
          obtain ⟨F, hF⟩ : ∃ x, (l0.take i).flatten = x := ⟨_, rfl⟩
          rw [hL] at hc hl HS hC
          rw [hF] at HS RR ⊢
          rw [HS.out, List.length_append] at hb1
          subst hA
          have CC := Aside0.mk hC
          have HL : Aside0 ((F.length + L.length) * 16 ≤ 140737488355328) := ⟨by have := hTT.out; omega⟩
          have hw4 : IntKind.i64.wrap ((i : Int) + 1) = (i : Int) + 1 := by rw [IntKind.wrap_i64]; omega
          have d1 : decide ((i : Int) < (l0.length : Int)) = true := decide_eq_true (by omega)
          have HN := Aside0.mk h
          clear hL hF hb1 hC hl
          go_wp2_with (first | ((with_reducible refine gate_builtin (b := .append) (xs := #[.tmp 31, .tmp 32]) rfl ?_); (try (refine gate_guard (by rfl) ?_; dsimp only)); at_builtin; refine Kd.R_append_rows Kd.string (w0 := w) w.heap.size rfl (.tmp 31) (.tmp 32) 23 9 (.string ⟨#[]⟩) 16 rfl Try.underlying23 info9 rfl (by decide) (by decide) (.slice A2 F.length c2) F L A1 L.length c1 (fun _ => True) (fun _ => False) rfl rfl RR.out CC.out (fun _ _ h => h) (fun _ h => h.elim) (fun _ _ => trivial) BB.out BB.out.size HL.out ?_; intro v1 w1 ho hb hg hat; have HO := Aside0.mk ho; have HB := Aside0.mk hb; clear hg hat ho hb RR CC BB; obtain ⟨A', c', rfl⟩ := Kd.R_slice HO.out) | fail)
          go_roundw
          case rel => exact ⟨i + 1, A', c', HN.out, by rw [HS.out, List.length_append], rfl, ⟨by rw [HS.out]; exact HO.out⟩, HB⟩
          case measure => simp [intOf]; omega
        · have hi2 : i = l0.length := by omega
          subst hi2
          rw [List.take_length] at RR ⊢
          obtain ⟨F, hF⟩ : ∃ x, l0.flatten = x := ⟨_, rfl⟩
          rw [hF] at RR ⊢
          have HF := Aside0.mk hF
          clear hF
          go_wp2_with fail
          go_ret
          exact ⟨.slice A2 F.length c2, by first | rfl | simp, by rw [HF.out]; exact RR.out, BB.out⟩
theorem rows2 {α : Type} {e : Nat} {kd : Kd α} {W : World} {g t : Nat} {A B : Option Addr} {P Q : List α} {c d : Nat} (T : W.heap[g]? = some (.cells #[.slice A P.length c, .slice B Q.length d] t (0, 0)))
    (h1 : kd.C W A P.length P) (c1 : P.length ≤ c) (h2 : kd.C W B Q.length Q) (c2 : Q.length ≤ d) : Kd.C (Kd.slice e kd) W (some ⟨g, 0, none⟩) ([P, Q] : List (List α)).length [P, Q] := ⟨rfl, by simp, fun _ => ⟨_, rfl, fun j q hj => by
  match j, hj with
  | 0, hj =>
    obtain rfl := Option.some.inj hj
    refine ⟨_, rfl, ⟨A, c, rfl, c1, h1⟩, fun i u hu => ?_⟩
    match i, hu with
    | 0, hu => rw [add_plain]; exact (blk_cell T 0).trans hu
  | 1, hj =>
    obtain rfl := Option.some.inj hj
    refine ⟨_, rfl, ⟨B, d, rfl, c2, h2⟩, fun i u hu => ?_⟩
    match i, hu with
    | 0, hu => rw [add_plain]; exact (blk_cell T 1).trans hu⟩⟩
theorem rows3 {α : Type} {e : Nat} {kd : Kd α} {W : World} {g t : Nat} {A B D : Option Addr} {P Q R : List α} {c d f : Nat} (T : W.heap[g]? = some (.cells #[.slice A P.length c, .slice B Q.length d, .slice D R.length f] t (0, 0)))
    (h1 : kd.C W A P.length P) (c1 : P.length ≤ c) (h2 : kd.C W B Q.length Q) (c2 : Q.length ≤ d) (h3 : kd.C W D R.length R) (c3 : R.length ≤ f) : Kd.C (Kd.slice e kd) W (some ⟨g, 0, none⟩) ([P, Q, R] : List (List α)).length [P, Q, R] := ⟨rfl, by simp, fun _ => ⟨_, rfl, fun j q hj => by
  match j, hj with
  | 0, hj =>
    obtain rfl := Option.some.inj hj
    refine ⟨_, rfl, ⟨A, c, rfl, c1, h1⟩, fun i u hu => ?_⟩
    match i, hu with
    | 0, hu => rw [add_plain]; exact (blk_cell T 0).trans hu
  | 1, hj =>
    obtain rfl := Option.some.inj hj
    refine ⟨_, rfl, ⟨B, d, rfl, c2, h2⟩, fun i u hu => ?_⟩
    match i, hu with
    | 0, hu => rw [add_plain]; exact (blk_cell T 1).trans hu
  | 2, hj =>
    obtain rfl := Option.some.inj hj
    refine ⟨_, rfl, ⟨D, f, rfl, c3, h3⟩, fun i u hu => ?_⟩
    match i, hu with
    | 0, hu => rw [add_plain]; exact (blk_cell T 2).trans hu⟩⟩
theorem row1s {W : World} {g t : Nat} {p : ByteArray} (T : W.heap[g]? = some (.cells #[.string p] t (0, 0))) : Kd.C Kd.string W (some ⟨g, 0, none⟩) ([p] : List ByteArray).length [p] := one_sc T
theorem flat3 {α : Type} (x y z : List α) : [x, y, z].flatten = x ++ (y ++ z) := by simp
abbrev MgR := Bool × List S48 × List ByteArray × List Int × Int
def mergeN (a : Bool) (K : List ByteArray) (k : ByteArray) (K' : List ByteArray) : List ByteArray := if a then [] else K ++ ([k] ++ K')
def mergeV (a : Bool) (P : List S48) (K : List ByteArray) (D : List Int) (k : ByteArray) (b : Bool) (P' : List S48) (K' : List ByteArray) (D' : List Int) : MgR :=
  if (leafV a P K D || innerV a P K D) = true ∧ (leafV b P' K' D' || innerV b P' K' D') = true ∧ a = b ∧ keyB k = true ∧ (leafV a (P ++ P') (mergeN a K k K') (D ++ D') || innerV a (P ++ P') (mergeN a K k K') (D ++ D')) = true then (a, P ++ P', mergeN a K k K', D ++ D', 0)
  else (false, [], [], [], 2)
theorem valid_len {a : Bool} {P : List S48} {K : List ByteArray} {D : List Int} (h : (leafV a P K D || innerV a P K D) = true) : P.length ≤ 255 ∧ K.length ≤ 255 ∧ D.length ≤ 255 := by
  rcases Bool.or_eq_true_iff.1 h with h | h
  · obtain ⟨_, rfl, rfl, h, _⟩ := leafV_true h
    exact ⟨h, Nat.zero_le _, Nat.zero_le _⟩
  · obtain ⟨_, h1, h2, h3, h4, _⟩ := innerV_true h
    simp_all
    omega
set_option maxHeartbeats 4000000 in
set_option maxRecDepth 100000 in
theorem merge_bad1 (a : Bool) (A1 : Option Addr) (c1 : Nat) (l1 : List S48) (A2 : Option Addr) (c2 : Nat) (l2 : List ByteArray) (A3 : Option Addr) (c3 : Nat) (l3 : List Int) (k : ByteArray) (b : Bool) (B1 : Option Addr) (d1 : Nat) (m1 : List S48) (B2 : Option Addr) (d2 : Nat) (m2 : List ByteArray) (B3 : Option Addr) (d3 : Nat) (m3 : List Int) (w : World) (hr1 : Kd.C k48 w A1 l1.length l1) (hc1 : l1.length ≤ c1) (hr2 : Kd.C Kd.string w A2 l2.length l2) (hc2 : l2.length ≤ c2) (hr3 : Kd.C (Kd.int .i64) w A3 l3.length l3) (hc3 : l3.length ≤ c3) (hs1 : Kd.C k48 w B1 m1.length m1) (hd1 : m1.length ≤ d1) (hs2 : Kd.C Kd.string w B2 m2.length m2) (hd2 : m2.length ≤ d2) (hs3 : Kd.C (Kd.int .i64) w B3 m3.length m3) (hd3 : m3.length ≤ d3) (hfa : ¬ (leafV a l1 l2 l3 || innerV a l1 l2 l3) = true) :
    Calls Try.prog 22 #[.agg #[.bool a, .slice A1 l1.length c1, .slice A2 l2.length c2, .slice A3 l3.length c3], .string k, .agg #[.bool b, .slice B1 m1.length d1, .slice B2 m2.length d2, .slice B3 m3.length d3]] w fun e w' => ∃ v1_ v2_ v3_ : Value, e = .returned (.tuple #[.agg #[.bool false, v1_, v2_, v3_], .int .i64 2]) ∧ Kd.R k48 48 w' w.heap.size (fun _ => True) v1_ ([] : List S48) ∧ Kd.R Kd.string 9 w' w.heap.size (fun _ => True) v2_ ([] : List ByteArray) ∧ Kd.R (Kd.int .i64) 3 w' w.heap.size (fun _ => True) v3_ ([] : List Int) ∧ Below w.heap.size w w' := by
  have CK := Aside0.mk (fun W hw => node_Check.calls a A1 c1 l1 A2 c2 l2 A3 c3 l3 2 W (Kd.C_below hr1 hw) hc1 (Kd.C_below hr2 hw) hc2 (Kd.C_below hr3 hw) hc3 (by have := check_val a l1 l2 l3; rwa [if_neg hfa] at this))
  have HR1 := Aside0.mk hr1
  have HR2 := Aside0.mk hr2
  have HR3 := Aside0.mk hr3
  have HS1 := Aside0.mk hs1
  have HS2 := Aside0.mk hs2
  have HS3 := Aside0.mk hs3
  clear hr1 hr2 hr3 hs1 hs2 hs3
  clear hfa
  have BB0 := Below.refl w.heap.size w
  obtain ⟨wp0, hwp0⟩ : ∃ x, x = w.alloc (.cells #[.bool a, .slice A1 l1.length c1, .slice A2 l2.length c2, .slice A3 l3.length c3] 31) := ⟨_, rfl⟩
  have t_n := heap_alloc_new w (.cells #[.bool a, .slice A1 l1.length c1, .slice A2 l2.length c2, .slice A3 l3.length c3] 31)
  rw [← hwp0] at t_n
  have BB1 : Below w.heap.size w wp0 := by rw [hwp0]; exact below_alloc BB0 _
  have sz0 : wp0.heap.size = w.heap.size + 1 := by rw [hwp0]; simp
  obtain ⟨wp1, hwp1⟩ : ∃ x, x = wp0.alloc (.cells #[.bool b, .slice B1 m1.length d1, .slice B2 m2.length d2, .slice B3 m3.length d3] 31) := ⟨_, rfl⟩
  have t_m := heap_alloc_new wp0 (.cells #[.bool b, .slice B1 m1.length d1, .slice B2 m2.length d2, .slice B3 m3.length d3] 31)
  rw [← hwp1] at t_m
  rw [sz0] at t_m
  have BB2 : Below w.heap.size w wp1 := by rw [hwp1]; exact below_alloc BB1 _
  have sz1 : wp1.heap.size = w.heap.size + 2 := by rw [hwp1]; simp [sz0]
  replace t_n := (show wp1.heap[_]? = wp0.heap[_]? by rw [hwp1]; exact Lib.alloc_old wp0 (.cells #[.bool b, .slice B1 m1.length d1, .slice B2 m2.length d2, .slice B3 m3.length d3] 31) _ (blk_lt t_n)).trans t_n
  obtain ⟨wp2, hwp2⟩ : ∃ x, x = wp1.alloc (.cells #[.bool false, .slice none 0 0, .slice none 0 0, .slice none 0 0] 31) := ⟨_, rfl⟩
  have t_r := heap_alloc_new wp1 (.cells #[.bool false, .slice none 0 0, .slice none 0 0, .slice none 0 0] 31)
  rw [← hwp2] at t_r
  rw [sz1] at t_r
  have BB3 : Below w.heap.size w wp2 := by rw [hwp2]; exact below_alloc BB2 _
  have sz2 : wp2.heap.size = w.heap.size + 3 := by rw [hwp2]; simp [sz1]
  replace t_n := (show wp2.heap[_]? = wp1.heap[_]? by rw [hwp2]; exact Lib.alloc_old wp1 (.cells #[.bool false, .slice none 0 0, .slice none 0 0, .slice none 0 0] 31) _ (blk_lt t_n)).trans t_n
  replace t_m := (show wp2.heap[_]? = wp1.heap[_]? by rw [hwp2]; exact Lib.alloc_old wp1 (.cells #[.bool false, .slice none 0 0, .slice none 0 0, .slice none 0 0] 31) _ (blk_lt t_m)).trans t_m
  have HW0 : Aside0 (wp2 = (((w.alloc (.cells #[.bool a, .slice A1 l1.length c1, .slice A2 l2.length c2, .slice A3 l3.length c3] 31)).alloc (.cells #[.bool b, .slice B1 m1.length d1, .slice B2 m2.length d2, .slice B3 m3.length d3] 31)).alloc (.cells #[.bool false, .slice none 0 0, .slice none 0 0, .slice none 0 0] 31))) := ⟨by rw [hwp2, hwp1, hwp0]⟩
  have T_n := Aside0.mk t_n
  have T_m := Aside0.mk t_m
  have T_r := Aside0.mk t_r
  have BB := Aside0.mk BB3
  have SZ0 := Aside0.mk sz2
  clear t_n t_m t_r BB0 BB1 BB2 BB3 sz0 sz1 sz2 hwp0 hwp1 hwp2
  go_enter Try.func22, Try.ntmps22
  have c_n0 := bc T_n 0 rfl; have c_n1 := bc T_n 1 rfl; have c_n2 := bc T_n 2 rfl; have c_n3 := bc T_n 3 rfl
  have c_m0 := bc T_m 0 rfl; have c_m1 := bc T_m 1 rfl; have c_m2 := bc T_m 2 rfl; have c_m3 := bc T_m 3 rfl
  go_wp2_with fail
  rw [← HW0.out]
  refine (CK.out _ BB.out).mono ?_
  rintro e w1 ⟨rfl, hB⟩
  replace T_n := bm hB T_n; replace T_m := bm hB T_m; replace T_r := bm hB T_r; replace BB := xm hB BB
  clear hB
  clear c_n0 c_n1 c_n2 c_n3 c_m0 c_m1 c_m2 c_m3
  have c_r0 := bc T_r 0 rfl; have f_r0 := bf T_r 0; have c_r1 := bc T_r 1 rfl; have f_r1 := bf T_r 1; have c_r2 := bc T_r 2 rfl; have f_r2 := bf T_r 2; have c_r3 := bc T_r 3 rfl; have f_r3 := bf T_r 3
  go_wp2_with fail
  clear c_r0 f_r0 c_r1 f_r1 c_r2 f_r2 c_r3 f_r3
  have hg := nd_grown4 w1 (w.heap.size + 2) (.bool false) (.slice none 0 0) (.slice none 0 0) (.slice none 0 0)
  have tn := nd_put4 w1 (w.heap.size + 2) 31 _ _ _ _ (.bool false) (.slice none 0 0) (.slice none 0 0) (.slice none 0 0) T_r.out
  obtain ⟨w2, hw2⟩ : ∃ x, x = ((((w1.setCell ⟨(w.heap.size + 2), 0, none⟩ (.bool false)).setCell ⟨(w.heap.size + 2), 1, none⟩ (.slice none 0 0)).setCell ⟨(w.heap.size + 2), 2, none⟩ (.slice none 0 0)).setCell ⟨(w.heap.size + 2), 3, none⟩ (.slice none 0 0)) := ⟨_, rfl⟩
  rw [← hw2] at hg tn
  rw [← hw2]
  clear hw2
  replace T_n := bg hg T_n (by omega)
  replace T_m := bg hg T_m (by omega)
  replace BB := Aside0.mk (nd_grown_below hg BB.out BB.out.size (by omega))
  replace T_r := Aside0.mk tn
  clear tn hg
  refine bodyPost_ret (results_ct rfl _ _ (w.heap.size + 2) 31 #[.bool false, .slice none 0 0, .slice none 0 0, .slice none 0 0] (0, 0) _ rfl T_r.out Try.underlying31 rfl (by kernel_rfl)) rfl ?_
  exact ⟨_, _, _, rfl, Kd.R_nil _ _ _ _ _, Kd.R_nil _ _ _ _ _, Kd.R_nil _ _ _ _ _, BB.out⟩
set_option maxHeartbeats 4000000 in
set_option maxRecDepth 100000 in
theorem merge_bad2 (a : Bool) (A1 : Option Addr) (c1 : Nat) (l1 : List S48) (A2 : Option Addr) (c2 : Nat) (l2 : List ByteArray) (A3 : Option Addr) (c3 : Nat) (l3 : List Int) (k : ByteArray) (b : Bool) (B1 : Option Addr) (d1 : Nat) (m1 : List S48) (B2 : Option Addr) (d2 : Nat) (m2 : List ByteArray) (B3 : Option Addr) (d3 : Nat) (m3 : List Int) (w : World) (hr1 : Kd.C k48 w A1 l1.length l1) (hc1 : l1.length ≤ c1) (hr2 : Kd.C Kd.string w A2 l2.length l2) (hc2 : l2.length ≤ c2) (hr3 : Kd.C (Kd.int .i64) w A3 l3.length l3) (hc3 : l3.length ≤ c3) (hs1 : Kd.C k48 w B1 m1.length m1) (hd1 : m1.length ≤ d1) (hs2 : Kd.C Kd.string w B2 m2.length m2) (hd2 : m2.length ≤ d2) (hs3 : Kd.C (Kd.int .i64) w B3 m3.length m3) (hd3 : m3.length ≤ d3) (hfa : (leafV a l1 l2 l3 || innerV a l1 l2 l3) = true) (hfb : ¬ (leafV b m1 m2 m3 || innerV b m1 m2 m3) = true) :
    Calls Try.prog 22 #[.agg #[.bool a, .slice A1 l1.length c1, .slice A2 l2.length c2, .slice A3 l3.length c3], .string k, .agg #[.bool b, .slice B1 m1.length d1, .slice B2 m2.length d2, .slice B3 m3.length d3]] w fun e w' => ∃ v1_ v2_ v3_ : Value, e = .returned (.tuple #[.agg #[.bool false, v1_, v2_, v3_], .int .i64 2]) ∧ Kd.R k48 48 w' w.heap.size (fun _ => True) v1_ ([] : List S48) ∧ Kd.R Kd.string 9 w' w.heap.size (fun _ => True) v2_ ([] : List ByteArray) ∧ Kd.R (Kd.int .i64) 3 w' w.heap.size (fun _ => True) v3_ ([] : List Int) ∧ Below w.heap.size w w' := by
  have CK := Aside0.mk (fun W hw => node_Check.calls a A1 c1 l1 A2 c2 l2 A3 c3 l3 0 W (Kd.C_below hr1 hw) hc1 (Kd.C_below hr2 hw) hc2 (Kd.C_below hr3 hw) hc3 (by have := check_val a l1 l2 l3; rwa [if_pos hfa] at this))
  have CKb := Aside0.mk (fun W hw => node_Check.calls b B1 d1 m1 B2 d2 m2 B3 d3 m3 2 W (Kd.C_below hs1 hw) hd1 (Kd.C_below hs2 hw) hd2 (Kd.C_below hs3 hw) hd3 (by have := check_val b m1 m2 m3; rwa [if_neg hfb] at this))
  have HR1 := Aside0.mk hr1
  have HR2 := Aside0.mk hr2
  have HR3 := Aside0.mk hr3
  have HS1 := Aside0.mk hs1
  have HS2 := Aside0.mk hs2
  have HS3 := Aside0.mk hs3
  clear hr1 hr2 hr3 hs1 hs2 hs3
  clear hfa hfb
  have BB0 := Below.refl w.heap.size w
  obtain ⟨wp0, hwp0⟩ : ∃ x, x = w.alloc (.cells #[.bool a, .slice A1 l1.length c1, .slice A2 l2.length c2, .slice A3 l3.length c3] 31) := ⟨_, rfl⟩
  have t_n := heap_alloc_new w (.cells #[.bool a, .slice A1 l1.length c1, .slice A2 l2.length c2, .slice A3 l3.length c3] 31)
  rw [← hwp0] at t_n
  have BB1 : Below w.heap.size w wp0 := by rw [hwp0]; exact below_alloc BB0 _
  have sz0 : wp0.heap.size = w.heap.size + 1 := by rw [hwp0]; simp
  obtain ⟨wp1, hwp1⟩ : ∃ x, x = wp0.alloc (.cells #[.bool b, .slice B1 m1.length d1, .slice B2 m2.length d2, .slice B3 m3.length d3] 31) := ⟨_, rfl⟩
  have t_m := heap_alloc_new wp0 (.cells #[.bool b, .slice B1 m1.length d1, .slice B2 m2.length d2, .slice B3 m3.length d3] 31)
  rw [← hwp1] at t_m
  rw [sz0] at t_m
  have BB2 : Below w.heap.size w wp1 := by rw [hwp1]; exact below_alloc BB1 _
  have sz1 : wp1.heap.size = w.heap.size + 2 := by rw [hwp1]; simp [sz0]
  replace t_n := (show wp1.heap[_]? = wp0.heap[_]? by rw [hwp1]; exact Lib.alloc_old wp0 (.cells #[.bool b, .slice B1 m1.length d1, .slice B2 m2.length d2, .slice B3 m3.length d3] 31) _ (blk_lt t_n)).trans t_n
  obtain ⟨wp2, hwp2⟩ : ∃ x, x = wp1.alloc (.cells #[.bool false, .slice none 0 0, .slice none 0 0, .slice none 0 0] 31) := ⟨_, rfl⟩
  have t_r := heap_alloc_new wp1 (.cells #[.bool false, .slice none 0 0, .slice none 0 0, .slice none 0 0] 31)
  rw [← hwp2] at t_r
  rw [sz1] at t_r
  have BB3 : Below w.heap.size w wp2 := by rw [hwp2]; exact below_alloc BB2 _
  have sz2 : wp2.heap.size = w.heap.size + 3 := by rw [hwp2]; simp [sz1]
  replace t_n := (show wp2.heap[_]? = wp1.heap[_]? by rw [hwp2]; exact Lib.alloc_old wp1 (.cells #[.bool false, .slice none 0 0, .slice none 0 0, .slice none 0 0] 31) _ (blk_lt t_n)).trans t_n
  replace t_m := (show wp2.heap[_]? = wp1.heap[_]? by rw [hwp2]; exact Lib.alloc_old wp1 (.cells #[.bool false, .slice none 0 0, .slice none 0 0, .slice none 0 0] 31) _ (blk_lt t_m)).trans t_m
  have HW0 : Aside0 (wp2 = (((w.alloc (.cells #[.bool a, .slice A1 l1.length c1, .slice A2 l2.length c2, .slice A3 l3.length c3] 31)).alloc (.cells #[.bool b, .slice B1 m1.length d1, .slice B2 m2.length d2, .slice B3 m3.length d3] 31)).alloc (.cells #[.bool false, .slice none 0 0, .slice none 0 0, .slice none 0 0] 31))) := ⟨by rw [hwp2, hwp1, hwp0]⟩
  have T_n := Aside0.mk t_n
  have T_m := Aside0.mk t_m
  have T_r := Aside0.mk t_r
  have BB := Aside0.mk BB3
  have SZ0 := Aside0.mk sz2
  clear t_n t_m t_r BB0 BB1 BB2 BB3 sz0 sz1 sz2 hwp0 hwp1 hwp2
  go_enter Try.func22, Try.ntmps22
  have c_n0 := bc T_n 0 rfl; have c_n1 := bc T_n 1 rfl; have c_n2 := bc T_n 2 rfl; have c_n3 := bc T_n 3 rfl
  have c_m0 := bc T_m 0 rfl; have c_m1 := bc T_m 1 rfl; have c_m2 := bc T_m 2 rfl; have c_m3 := bc T_m 3 rfl
  go_wp2_with fail
  rw [← HW0.out]
  refine (CK.out _ BB.out).mono ?_
  rintro e w3 ⟨rfl, hB⟩
  replace T_n := bm hB T_n; replace T_m := bm hB T_m; replace T_r := bm hB T_r; replace BB := xm hB BB
  clear hB
  clear c_n0 c_n1 c_n2 c_n3 c_m0 c_m1 c_m2 c_m3
  have c_n0 := bc T_n 0 rfl; have c_n1 := bc T_n 1 rfl; have c_n2 := bc T_n 2 rfl; have c_n3 := bc T_n 3 rfl
  have c_m0 := bc T_m 0 rfl; have c_m1 := bc T_m 1 rfl; have c_m2 := bc T_m 2 rfl; have c_m3 := bc T_m 3 rfl
  go_wp2_with fail
  refine (CKb.out _ BB.out).mono ?_
  rintro e w4 ⟨rfl, hB⟩
  replace T_n := bm hB T_n; replace T_m := bm hB T_m; replace T_r := bm hB T_r; replace BB := xm hB BB
  clear hB
  clear c_n0 c_n1 c_n2 c_n3 c_m0 c_m1 c_m2 c_m3
  have c_r0 := bc T_r 0 rfl; have f_r0 := bf T_r 0; have c_r1 := bc T_r 1 rfl; have f_r1 := bf T_r 1; have c_r2 := bc T_r 2 rfl; have f_r2 := bf T_r 2; have c_r3 := bc T_r 3 rfl; have f_r3 := bf T_r 3
  go_wp2_with fail
  clear c_r0 f_r0 c_r1 f_r1 c_r2 f_r2 c_r3 f_r3
  have hg := nd_grown4 w4 (w.heap.size + 2) (.bool false) (.slice none 0 0) (.slice none 0 0) (.slice none 0 0)
  have tn := nd_put4 w4 (w.heap.size + 2) 31 _ _ _ _ (.bool false) (.slice none 0 0) (.slice none 0 0) (.slice none 0 0) T_r.out
  obtain ⟨w5, hw5⟩ : ∃ x, x = ((((w4.setCell ⟨(w.heap.size + 2), 0, none⟩ (.bool false)).setCell ⟨(w.heap.size + 2), 1, none⟩ (.slice none 0 0)).setCell ⟨(w.heap.size + 2), 2, none⟩ (.slice none 0 0)).setCell ⟨(w.heap.size + 2), 3, none⟩ (.slice none 0 0)) := ⟨_, rfl⟩
  rw [← hw5] at hg tn
  rw [← hw5]
  clear hw5
  replace T_n := bg hg T_n (by omega)
  replace T_m := bg hg T_m (by omega)
  replace BB := Aside0.mk (nd_grown_below hg BB.out BB.out.size (by omega))
  replace T_r := Aside0.mk tn
  clear tn hg
  refine bodyPost_ret (results_ct rfl _ _ (w.heap.size + 2) 31 #[.bool false, .slice none 0 0, .slice none 0 0, .slice none 0 0] (0, 0) _ rfl T_r.out Try.underlying31 rfl (by kernel_rfl)) rfl ?_
  exact ⟨_, _, _, rfl, Kd.R_nil _ _ _ _ _, Kd.R_nil _ _ _ _ _, Kd.R_nil _ _ _ _ _, BB.out⟩
set_option maxHeartbeats 4000000 in
set_option maxRecDepth 100000 in
theorem merge_bad3 (a : Bool) (A1 : Option Addr) (c1 : Nat) (l1 : List S48) (A2 : Option Addr) (c2 : Nat) (l2 : List ByteArray) (A3 : Option Addr) (c3 : Nat) (l3 : List Int) (k : ByteArray) (b : Bool) (B1 : Option Addr) (d1 : Nat) (m1 : List S48) (B2 : Option Addr) (d2 : Nat) (m2 : List ByteArray) (B3 : Option Addr) (d3 : Nat) (m3 : List Int) (w : World) (hr1 : Kd.C k48 w A1 l1.length l1) (hc1 : l1.length ≤ c1) (hr2 : Kd.C Kd.string w A2 l2.length l2) (hc2 : l2.length ≤ c2) (hr3 : Kd.C (Kd.int .i64) w A3 l3.length l3) (hc3 : l3.length ≤ c3) (hs1 : Kd.C k48 w B1 m1.length m1) (hd1 : m1.length ≤ d1) (hs2 : Kd.C Kd.string w B2 m2.length m2) (hd2 : m2.length ≤ d2) (hs3 : Kd.C (Kd.int .i64) w B3 m3.length m3) (hd3 : m3.length ≤ d3) (hfa : (leafV a l1 l2 l3 || innerV a l1 l2 l3) = true) (hfb : (leafV b m1 m2 m3 || innerV b m1 m2 m3) = true) (hab : ¬ a = b) :
    Calls Try.prog 22 #[.agg #[.bool a, .slice A1 l1.length c1, .slice A2 l2.length c2, .slice A3 l3.length c3], .string k, .agg #[.bool b, .slice B1 m1.length d1, .slice B2 m2.length d2, .slice B3 m3.length d3]] w fun e w' => ∃ v1_ v2_ v3_ : Value, e = .returned (.tuple #[.agg #[.bool false, v1_, v2_, v3_], .int .i64 2]) ∧ Kd.R k48 48 w' w.heap.size (fun _ => True) v1_ ([] : List S48) ∧ Kd.R Kd.string 9 w' w.heap.size (fun _ => True) v2_ ([] : List ByteArray) ∧ Kd.R (Kd.int .i64) 3 w' w.heap.size (fun _ => True) v3_ ([] : List Int) ∧ Below w.heap.size w w' := by
  have CK := Aside0.mk (fun W hw => node_Check.calls a A1 c1 l1 A2 c2 l2 A3 c3 l3 0 W (Kd.C_below hr1 hw) hc1 (Kd.C_below hr2 hw) hc2 (Kd.C_below hr3 hw) hc3 (by have := check_val a l1 l2 l3; rwa [if_pos hfa] at this))
  have CKb := Aside0.mk (fun W hw => node_Check.calls b B1 d1 m1 B2 d2 m2 B3 d3 m3 0 W (Kd.C_below hs1 hw) hd1 (Kd.C_below hs2 hw) hd2 (Kd.C_below hs3 hw) hd3 (by have := check_val b m1 m2 m3; rwa [if_pos hfb] at this))
  have HR1 := Aside0.mk hr1
  have HR2 := Aside0.mk hr2
  have HR3 := Aside0.mk hr3
  have HS1 := Aside0.mk hs1
  have HS2 := Aside0.mk hs2
  have HS3 := Aside0.mk hs3
  clear hr1 hr2 hr3 hs1 hs2 hs3
  clear hfa hfb
  have hne : (a != b) = true := by simpa using hab
  have BB0 := Below.refl w.heap.size w
  obtain ⟨wp0, hwp0⟩ : ∃ x, x = w.alloc (.cells #[.bool a, .slice A1 l1.length c1, .slice A2 l2.length c2, .slice A3 l3.length c3] 31) := ⟨_, rfl⟩
  have t_n := heap_alloc_new w (.cells #[.bool a, .slice A1 l1.length c1, .slice A2 l2.length c2, .slice A3 l3.length c3] 31)
  rw [← hwp0] at t_n
  have BB1 : Below w.heap.size w wp0 := by rw [hwp0]; exact below_alloc BB0 _
  have sz0 : wp0.heap.size = w.heap.size + 1 := by rw [hwp0]; simp
  obtain ⟨wp1, hwp1⟩ : ∃ x, x = wp0.alloc (.cells #[.bool b, .slice B1 m1.length d1, .slice B2 m2.length d2, .slice B3 m3.length d3] 31) := ⟨_, rfl⟩
  have t_m := heap_alloc_new wp0 (.cells #[.bool b, .slice B1 m1.length d1, .slice B2 m2.length d2, .slice B3 m3.length d3] 31)
  rw [← hwp1] at t_m
  rw [sz0] at t_m
  have BB2 : Below w.heap.size w wp1 := by rw [hwp1]; exact below_alloc BB1 _
  have sz1 : wp1.heap.size = w.heap.size + 2 := by rw [hwp1]; simp [sz0]
  replace t_n := (show wp1.heap[_]? = wp0.heap[_]? by rw [hwp1]; exact Lib.alloc_old wp0 (.cells #[.bool b, .slice B1 m1.length d1, .slice B2 m2.length d2, .slice B3 m3.length d3] 31) _ (blk_lt t_n)).trans t_n
  obtain ⟨wp2, hwp2⟩ : ∃ x, x = wp1.alloc (.cells #[.bool false, .slice none 0 0, .slice none 0 0, .slice none 0 0] 31) := ⟨_, rfl⟩
  have t_r := heap_alloc_new wp1 (.cells #[.bool false, .slice none 0 0, .slice none 0 0, .slice none 0 0] 31)
  rw [← hwp2] at t_r
  rw [sz1] at t_r
  have BB3 : Below w.heap.size w wp2 := by rw [hwp2]; exact below_alloc BB2 _
  have sz2 : wp2.heap.size = w.heap.size + 3 := by rw [hwp2]; simp [sz1]
  replace t_n := (show wp2.heap[_]? = wp1.heap[_]? by rw [hwp2]; exact Lib.alloc_old wp1 (.cells #[.bool false, .slice none 0 0, .slice none 0 0, .slice none 0 0] 31) _ (blk_lt t_n)).trans t_n
  replace t_m := (show wp2.heap[_]? = wp1.heap[_]? by rw [hwp2]; exact Lib.alloc_old wp1 (.cells #[.bool false, .slice none 0 0, .slice none 0 0, .slice none 0 0] 31) _ (blk_lt t_m)).trans t_m
  have HW0 : Aside0 (wp2 = (((w.alloc (.cells #[.bool a, .slice A1 l1.length c1, .slice A2 l2.length c2, .slice A3 l3.length c3] 31)).alloc (.cells #[.bool b, .slice B1 m1.length d1, .slice B2 m2.length d2, .slice B3 m3.length d3] 31)).alloc (.cells #[.bool false, .slice none 0 0, .slice none 0 0, .slice none 0 0] 31))) := ⟨by rw [hwp2, hwp1, hwp0]⟩
  have T_n := Aside0.mk t_n
  have T_m := Aside0.mk t_m
  have T_r := Aside0.mk t_r
  have BB := Aside0.mk BB3
  have SZ0 := Aside0.mk sz2
  clear t_n t_m t_r BB0 BB1 BB2 BB3 sz0 sz1 sz2 hwp0 hwp1 hwp2
  go_enter Try.func22, Try.ntmps22
  have c_n0 := bc T_n 0 rfl; have c_n1 := bc T_n 1 rfl; have c_n2 := bc T_n 2 rfl; have c_n3 := bc T_n 3 rfl
  have c_m0 := bc T_m 0 rfl; have c_m1 := bc T_m 1 rfl; have c_m2 := bc T_m 2 rfl; have c_m3 := bc T_m 3 rfl
  go_wp2_with fail
  rw [← HW0.out]
  refine (CK.out _ BB.out).mono ?_
  rintro e w6 ⟨rfl, hB⟩
  replace T_n := bm hB T_n; replace T_m := bm hB T_m; replace T_r := bm hB T_r; replace BB := xm hB BB
  clear hB
  clear c_n0 c_n1 c_n2 c_n3 c_m0 c_m1 c_m2 c_m3
  have c_n0 := bc T_n 0 rfl; have c_n1 := bc T_n 1 rfl; have c_n2 := bc T_n 2 rfl; have c_n3 := bc T_n 3 rfl
  have c_m0 := bc T_m 0 rfl; have c_m1 := bc T_m 1 rfl; have c_m2 := bc T_m 2 rfl; have c_m3 := bc T_m 3 rfl
  go_wp2_with fail
  refine (CKb.out _ BB.out).mono ?_
  rintro e w7 ⟨rfl, hB⟩
  replace T_n := bm hB T_n; replace T_m := bm hB T_m; replace T_r := bm hB T_r; replace BB := xm hB BB
  clear hB
  clear c_n0 c_n1 c_n2 c_n3 c_m0 c_m1 c_m2 c_m3
  have c_n0 := bc T_n 0 rfl; have c_n1 := bc T_n 1 rfl; have c_n2 := bc T_n 2 rfl; have c_n3 := bc T_n 3 rfl
  have c_m0 := bc T_m 0 rfl; have c_m1 := bc T_m 1 rfl; have c_m2 := bc T_m 2 rfl; have c_m3 := bc T_m 3 rfl
  have c_r0 := bc T_r 0 rfl; have f_r0 := bf T_r 0; have c_r1 := bc T_r 1 rfl; have f_r1 := bf T_r 1; have c_r2 := bc T_r 2 rfl; have f_r2 := bf T_r 2; have c_r3 := bc T_r 3 rfl; have f_r3 := bf T_r 3
  go_wp2_with fail
  clear c_r0 f_r0 c_r1 f_r1 c_r2 f_r2 c_r3 f_r3
  have hg := nd_grown4 w7 (w.heap.size + 2) (.bool false) (.slice none 0 0) (.slice none 0 0) (.slice none 0 0)
  have tn := nd_put4 w7 (w.heap.size + 2) 31 _ _ _ _ (.bool false) (.slice none 0 0) (.slice none 0 0) (.slice none 0 0) T_r.out
  obtain ⟨w8, hw8⟩ : ∃ x, x = ((((w7.setCell ⟨(w.heap.size + 2), 0, none⟩ (.bool false)).setCell ⟨(w.heap.size + 2), 1, none⟩ (.slice none 0 0)).setCell ⟨(w.heap.size + 2), 2, none⟩ (.slice none 0 0)).setCell ⟨(w.heap.size + 2), 3, none⟩ (.slice none 0 0)) := ⟨_, rfl⟩
  rw [← hw8] at hg tn
  rw [← hw8]
  clear hw8
  replace T_n := bg hg T_n (by omega)
  replace T_m := bg hg T_m (by omega)
  replace BB := Aside0.mk (nd_grown_below hg BB.out BB.out.size (by omega))
  replace T_r := Aside0.mk tn
  clear tn hg
  refine bodyPost_ret (results_ct rfl _ _ (w.heap.size + 2) 31 #[.bool false, .slice none 0 0, .slice none 0 0, .slice none 0 0] (0, 0) _ rfl T_r.out Try.underlying31 rfl (by kernel_rfl)) rfl ?_
  exact ⟨_, _, _, rfl, Kd.R_nil _ _ _ _ _, Kd.R_nil _ _ _ _ _, Kd.R_nil _ _ _ _ _, BB.out⟩
set_option maxHeartbeats 4000000 in
set_option maxRecDepth 100000 in
theorem merge_bad4 (a : Bool) (A1 : Option Addr) (c1 : Nat) (l1 : List S48) (A2 : Option Addr) (c2 : Nat) (l2 : List ByteArray) (A3 : Option Addr) (c3 : Nat) (l3 : List Int) (k : ByteArray) (B1 : Option Addr) (d1 : Nat) (m1 : List S48) (B2 : Option Addr) (d2 : Nat) (m2 : List ByteArray) (B3 : Option Addr) (d3 : Nat) (m3 : List Int) (w : World) (hr1 : Kd.C k48 w A1 l1.length l1) (hc1 : l1.length ≤ c1) (hr2 : Kd.C Kd.string w A2 l2.length l2) (hc2 : l2.length ≤ c2) (hr3 : Kd.C (Kd.int .i64) w A3 l3.length l3) (hc3 : l3.length ≤ c3) (hs1 : Kd.C k48 w B1 m1.length m1) (hd1 : m1.length ≤ d1) (hs2 : Kd.C Kd.string w B2 m2.length m2) (hd2 : m2.length ≤ d2) (hs3 : Kd.C (Kd.int .i64) w B3 m3.length m3) (hd3 : m3.length ≤ d3) (hfa : (leafV a l1 l2 l3 || innerV a l1 l2 l3) = true) (hfb : (leafV a m1 m2 m3 || innerV a m1 m2 m3) = true) (hk : keyB k = false) :
    Calls Try.prog 22 #[.agg #[.bool a, .slice A1 l1.length c1, .slice A2 l2.length c2, .slice A3 l3.length c3], .string k, .agg #[.bool a, .slice B1 m1.length d1, .slice B2 m2.length d2, .slice B3 m3.length d3]] w fun e w' => ∃ v1_ v2_ v3_ : Value, e = .returned (.tuple #[.agg #[.bool false, v1_, v2_, v3_], .int .i64 2]) ∧ Kd.R k48 48 w' w.heap.size (fun _ => True) v1_ ([] : List S48) ∧ Kd.R Kd.string 9 w' w.heap.size (fun _ => True) v2_ ([] : List ByteArray) ∧ Kd.R (Kd.int .i64) 3 w' w.heap.size (fun _ => True) v3_ ([] : List Int) ∧ Below w.heap.size w w' := by
  have KY := Aside0.mk (fun W => node_isKey.calls k (keyB k) W (isKey_val k))
  rw [hk] at KY
  clear hk
  have CK := Aside0.mk (fun W hw => node_Check.calls a A1 c1 l1 A2 c2 l2 A3 c3 l3 0 W (Kd.C_below hr1 hw) hc1 (Kd.C_below hr2 hw) hc2 (Kd.C_below hr3 hw) hc3 (by have := check_val a l1 l2 l3; rwa [if_pos hfa] at this))
  have CKb := Aside0.mk (fun W hw => node_Check.calls a B1 d1 m1 B2 d2 m2 B3 d3 m3 0 W (Kd.C_below hs1 hw) hd1 (Kd.C_below hs2 hw) hd2 (Kd.C_below hs3 hw) hd3 (by have := check_val a m1 m2 m3; rwa [if_pos hfb] at this))
  have HR1 := Aside0.mk hr1
  have HR2 := Aside0.mk hr2
  have HR3 := Aside0.mk hr3
  have HS1 := Aside0.mk hs1
  have HS2 := Aside0.mk hs2
  have HS3 := Aside0.mk hs3
  clear hr1 hr2 hr3 hs1 hs2 hs3
  clear hfa hfb
  have BB0 := Below.refl w.heap.size w
  obtain ⟨wp0, hwp0⟩ : ∃ x, x = w.alloc (.cells #[.bool a, .slice A1 l1.length c1, .slice A2 l2.length c2, .slice A3 l3.length c3] 31) := ⟨_, rfl⟩
  have t_n := heap_alloc_new w (.cells #[.bool a, .slice A1 l1.length c1, .slice A2 l2.length c2, .slice A3 l3.length c3] 31)
  rw [← hwp0] at t_n
  have BB1 : Below w.heap.size w wp0 := by rw [hwp0]; exact below_alloc BB0 _
  have sz0 : wp0.heap.size = w.heap.size + 1 := by rw [hwp0]; simp
  obtain ⟨wp1, hwp1⟩ : ∃ x, x = wp0.alloc (.cells #[.bool a, .slice B1 m1.length d1, .slice B2 m2.length d2, .slice B3 m3.length d3] 31) := ⟨_, rfl⟩
  have t_m := heap_alloc_new wp0 (.cells #[.bool a, .slice B1 m1.length d1, .slice B2 m2.length d2, .slice B3 m3.length d3] 31)
  rw [← hwp1] at t_m
  rw [sz0] at t_m
  have BB2 : Below w.heap.size w wp1 := by rw [hwp1]; exact below_alloc BB1 _
  have sz1 : wp1.heap.size = w.heap.size + 2 := by rw [hwp1]; simp [sz0]
  replace t_n := (show wp1.heap[_]? = wp0.heap[_]? by rw [hwp1]; exact Lib.alloc_old wp0 (.cells #[.bool a, .slice B1 m1.length d1, .slice B2 m2.length d2, .slice B3 m3.length d3] 31) _ (blk_lt t_n)).trans t_n
  obtain ⟨wp2, hwp2⟩ : ∃ x, x = wp1.alloc (.cells #[.bool false, .slice none 0 0, .slice none 0 0, .slice none 0 0] 31) := ⟨_, rfl⟩
  have t_r := heap_alloc_new wp1 (.cells #[.bool false, .slice none 0 0, .slice none 0 0, .slice none 0 0] 31)
  rw [← hwp2] at t_r
  rw [sz1] at t_r
  have BB3 : Below w.heap.size w wp2 := by rw [hwp2]; exact below_alloc BB2 _
  have sz2 : wp2.heap.size = w.heap.size + 3 := by rw [hwp2]; simp [sz1]
  replace t_n := (show wp2.heap[_]? = wp1.heap[_]? by rw [hwp2]; exact Lib.alloc_old wp1 (.cells #[.bool false, .slice none 0 0, .slice none 0 0, .slice none 0 0] 31) _ (blk_lt t_n)).trans t_n
  replace t_m := (show wp2.heap[_]? = wp1.heap[_]? by rw [hwp2]; exact Lib.alloc_old wp1 (.cells #[.bool false, .slice none 0 0, .slice none 0 0, .slice none 0 0] 31) _ (blk_lt t_m)).trans t_m
  have HW0 : Aside0 (wp2 = (((w.alloc (.cells #[.bool a, .slice A1 l1.length c1, .slice A2 l2.length c2, .slice A3 l3.length c3] 31)).alloc (.cells #[.bool a, .slice B1 m1.length d1, .slice B2 m2.length d2, .slice B3 m3.length d3] 31)).alloc (.cells #[.bool false, .slice none 0 0, .slice none 0 0, .slice none 0 0] 31))) := ⟨by rw [hwp2, hwp1, hwp0]⟩
  have T_n := Aside0.mk t_n
  have T_m := Aside0.mk t_m
  have T_r := Aside0.mk t_r
  have BB := Aside0.mk BB3
  have SZ0 := Aside0.mk sz2
  clear t_n t_m t_r BB0 BB1 BB2 BB3 sz0 sz1 sz2 hwp0 hwp1 hwp2
  go_enter Try.func22, Try.ntmps22
  have c_n0 := bc T_n 0 rfl; have c_n1 := bc T_n 1 rfl; have c_n2 := bc T_n 2 rfl; have c_n3 := bc T_n 3 rfl
  have c_m0 := bc T_m 0 rfl; have c_m1 := bc T_m 1 rfl; have c_m2 := bc T_m 2 rfl; have c_m3 := bc T_m 3 rfl
  go_wp2_with fail
  rw [← HW0.out]
  refine (CK.out _ BB.out).mono ?_
  rintro e w9 ⟨rfl, hB⟩
  replace T_n := bm hB T_n; replace T_m := bm hB T_m; replace T_r := bm hB T_r; replace BB := xm hB BB
  clear hB
  clear c_n0 c_n1 c_n2 c_n3 c_m0 c_m1 c_m2 c_m3
  have c_n0 := bc T_n 0 rfl; have c_n1 := bc T_n 1 rfl; have c_n2 := bc T_n 2 rfl; have c_n3 := bc T_n 3 rfl
  have c_m0 := bc T_m 0 rfl; have c_m1 := bc T_m 1 rfl; have c_m2 := bc T_m 2 rfl; have c_m3 := bc T_m 3 rfl
  go_wp2_with fail
  refine (CKb.out _ BB.out).mono ?_
  rintro e w10 ⟨rfl, hB⟩
  replace T_n := bm hB T_n; replace T_m := bm hB T_m; replace T_r := bm hB T_r; replace BB := xm hB BB
  clear hB
  clear c_n0 c_n1 c_n2 c_n3 c_m0 c_m1 c_m2 c_m3
  have c_n0 := bc T_n 0 rfl; have c_n1 := bc T_n 1 rfl; have c_n2 := bc T_n 2 rfl; have c_n3 := bc T_n 3 rfl
  have c_m0 := bc T_m 0 rfl; have c_m1 := bc T_m 1 rfl; have c_m2 := bc T_m 2 rfl; have c_m3 := bc T_m 3 rfl
  go_wp2_with fail
  clear c_n0 c_n1 c_n2 c_n3 c_m0 c_m1 c_m2 c_m3
  refine (KY.out _).mono ?_
  rintro e w11 ⟨rfl, hDR⟩
  have hB := hDR.below
  clear hDR
  replace T_n := bm hB T_n; replace T_m := bm hB T_m; replace T_r := bm hB T_r; replace BB := xm hB BB
  clear hB
  have c_r0 := bc T_r 0 rfl; have f_r0 := bf T_r 0; have c_r1 := bc T_r 1 rfl; have f_r1 := bf T_r 1; have c_r2 := bc T_r 2 rfl; have f_r2 := bf T_r 2; have c_r3 := bc T_r 3 rfl; have f_r3 := bf T_r 3
  go_wp2_with fail
  clear c_r0 f_r0 c_r1 f_r1 c_r2 f_r2 c_r3 f_r3
  have hg := nd_grown4 w11 (w.heap.size + 2) (.bool false) (.slice none 0 0) (.slice none 0 0) (.slice none 0 0)
  have tn := nd_put4 w11 (w.heap.size + 2) 31 _ _ _ _ (.bool false) (.slice none 0 0) (.slice none 0 0) (.slice none 0 0) T_r.out
  obtain ⟨w12, hw12⟩ : ∃ x, x = ((((w11.setCell ⟨(w.heap.size + 2), 0, none⟩ (.bool false)).setCell ⟨(w.heap.size + 2), 1, none⟩ (.slice none 0 0)).setCell ⟨(w.heap.size + 2), 2, none⟩ (.slice none 0 0)).setCell ⟨(w.heap.size + 2), 3, none⟩ (.slice none 0 0)) := ⟨_, rfl⟩
  rw [← hw12] at hg tn
  rw [← hw12]
  clear hw12
  replace T_n := bg hg T_n (by omega)
  replace T_m := bg hg T_m (by omega)
  replace BB := Aside0.mk (nd_grown_below hg BB.out BB.out.size (by omega))
  replace T_r := Aside0.mk tn
  clear tn hg
  refine bodyPost_ret (results_ct rfl _ _ (w.heap.size + 2) 31 #[.bool false, .slice none 0 0, .slice none 0 0, .slice none 0 0] (0, 0) _ rfl T_r.out Try.underlying31 rfl (by kernel_rfl)) rfl ?_
  exact ⟨_, _, _, rfl, Kd.R_nil _ _ _ _ _, Kd.R_nil _ _ _ _ _, Kd.R_nil _ _ _ _ _, BB.out⟩
end
end Go.Proofs.Ytjjfeoigjhbbpaa.PA
namespace Go.Proofs.Ytjjfeoigjhbbpaa.PA
section

open Go.RowKit Go.Proofs.YtjjfeoigjhbbpaaW.PrintWords Go.Proofs.YtjjfeoigjhbbpaaW.PrintLast Go.Proofs.YtjjfeoigjhbbpaaW.PrintMore
attribute [local go_sem] pr_leq pr_geq pr_gtr max2_int min2_int max_two min_two max_three min_three max_four min_four
set_option linter.unusedVariables false
set_option linter.unusedSimpArgs false
set_option maxHeartbeats 4000000 in
set_option maxRecDepth 100000 in
theorem merge_ok (a : Bool) (A1 : Option Addr) (c1 : Nat) (l1 : List S48) (A2 : Option Addr) (c2 : Nat) (l2 : List ByteArray) (A3 : Option Addr) (c3 : Nat) (l3 : List Int) (k : ByteArray) (B1 : Option Addr) (d1 : Nat) (m1 : List S48) (B2 : Option Addr) (d2 : Nat) (m2 : List ByteArray) (B3 : Option Addr) (d3 : Nat) (m3 : List Int) (r1 : Bool) (r2 : List S48) (r3 : List ByteArray) (r4 : List Int) (re : Int) (w : World) (hr1 : Kd.C k48 w A1 l1.length l1) (hc1 : l1.length ≤ c1) (hr2 : Kd.C Kd.string w A2 l2.length l2) (hc2 : l2.length ≤ c2) (hr3 : Kd.C (Kd.int .i64) w A3 l3.length l3) (hc3 : l3.length ≤ c3) (hs1 : Kd.C k48 w B1 m1.length m1) (hd1 : m1.length ≤ d1) (hs2 : Kd.C Kd.string w B2 m2.length m2) (hd2 : m2.length ≤ d2) (hs3 : Kd.C (Kd.int .i64) w B3 m3.length m3) (hd3 : m3.length ≤ d3) (hfa : (leafV a l1 l2 l3 || innerV a l1 l2 l3) = true) (hfb : (leafV a m1 m2 m3 || innerV a m1 m2 m3) = true) (hk : keyB k = true) (hres : (if (leafV a (l1 ++ m1) (mergeN a l2 k m2) (l3 ++ m3) || innerV a (l1 ++ m1) (mergeN a l2 k m2) (l3 ++ m3)) = true then (a, l1 ++ m1, mergeN a l2 k m2, l3 ++ m3, 0) else (false, [], [], [], 2) : MgR) = (r1, r2, r3, r4, re)) :
    Calls Try.prog 22 #[.agg #[.bool a, .slice A1 l1.length c1, .slice A2 l2.length c2, .slice A3 l3.length c3], .string k, .agg #[.bool a, .slice B1 m1.length d1, .slice B2 m2.length d2, .slice B3 m3.length d3]] w fun e w' => ∃ v1_ v2_ v3_ : Value, e = .returned (.tuple #[.agg #[.bool r1, v1_, v2_, v3_], .int .i64 re]) ∧ Kd.R k48 48 w' w.heap.size (fun _ => True) v1_ r2 ∧ Kd.R Kd.string 9 w' w.heap.size (fun _ => True) v2_ r3 ∧ Kd.R (Kd.int .i64) 3 w' w.heap.size (fun _ => True) v3_ r4 ∧ Below w.heap.size w w' := by
  have KY := Aside0.mk (fun W => node_isKey.calls k (keyB k) W (isKey_val k))
  rw [hk] at KY
  clear hk
  have HLEN : Aside0 (l1.length ≤ 255 ∧ l2.length ≤ 255 ∧ l3.length ≤ 255 ∧ m1.length ≤ 255 ∧ m2.length ≤ 255 ∧ m3.length ≤ 255) := ⟨by have x := valid_len hfa; have y := valid_len hfb; exact ⟨x.1, x.2.1, x.2.2, y.1, y.2.1, y.2.2⟩⟩
  have Hl1 := Aside0.mk hc1
  have Hl2 := Aside0.mk hc2
  have Hl3 := Aside0.mk hc3
  have Hm1 := Aside0.mk hd1
  have Hm2 := Aside0.mk hd2
  have Hm3 := Aside0.mk hd3
  have CK := Aside0.mk (fun W hw => node_Check.calls a A1 c1 l1 A2 c2 l2 A3 c3 l3 0 W (Kd.C_below hr1 hw) hc1 (Kd.C_below hr2 hw) hc2 (Kd.C_below hr3 hw) hc3 (by have := check_val a l1 l2 l3; rwa [if_pos hfa] at this))
  have CKb := Aside0.mk (fun W hw => node_Check.calls a B1 d1 m1 B2 d2 m2 B3 d3 m3 0 W (Kd.C_below hs1 hw) hd1 (Kd.C_below hs2 hw) hd2 (Kd.C_below hs3 hw) hd3 (by have := check_val a m1 m2 m3; rwa [if_pos hfb] at this))
  have HR1 := Aside0.mk hr1
  have HR2 := Aside0.mk hr2
  have HR3 := Aside0.mk hr3
  have HS1 := Aside0.mk hs1
  have HS2 := Aside0.mk hs2
  have HS3 := Aside0.mk hs3
  clear hr1 hr2 hr3 hs1 hs2 hs3
  clear hfa hfb hc1 hc2 hc3 hd1 hd2 hd3
  obtain ⟨v, hv⟩ : ∃ x : Int, (if (leafV a (l1 ++ m1) (mergeN a l2 k m2) (l3 ++ m3) || innerV a (l1 ++ m1) (mergeN a l2 k m2) (l3 ++ m3)) = true then 0 else 2) = x := ⟨_, rfl⟩
  have HCV0 := check_val a (l1 ++ m1) (mergeN a l2 k m2) (l3 ++ m3)
  rw [hv] at HCV0
  have HV : Aside0 ((v = 0 ∧ a = r1 ∧ l1 ++ m1 = r2 ∧ mergeN a l2 k m2 = r3 ∧ l3 ++ m3 = r4 ∧ 0 = re) ∨ (v = 2 ∧ false = r1 ∧ [] = r2 ∧ [] = r3 ∧ [] = r4 ∧ 2 = re)) := ⟨by
    by_cases hh : (leafV a (l1 ++ m1) (mergeN a l2 k m2) (l3 ++ m3) || innerV a (l1 ++ m1) (mergeN a l2 k m2) (l3 ++ m3)) = true
    · rw [if_pos hh] at hv hres
      injection hres with e1 e2; injection e2 with e2 e3; injection e3 with e3 e4; injection e4 with e4 e5
      exact .inl ⟨hv.symm, e1, e2, e3, e4, e5⟩
    · rw [if_neg hh] at hv hres
      injection hres with e1 e2; injection e2 with e2 e3; injection e3 with e3 e4; injection e4 with e4 e5
      exact .inr ⟨hv.symm, e1, e2, e3, e4, e5⟩⟩
  clear hv hres
  obtain ⟨PP, hPP⟩ : ∃ x, l1 ++ m1 = x := ⟨_, rfl⟩
  obtain ⟨DD, hDD⟩ : ∃ x, l3 ++ m3 = x := ⟨_, rfl⟩
  obtain ⟨NN, hNN⟩ : ∃ x, mergeN a l2 k m2 = x := ⟨_, rfl⟩
  rw [hPP, hDD, hNN] at HCV0 HV
  have HCV := Aside0.mk HCV0
  have PPE := Aside0.mk hPP
  have DDE := Aside0.mk hDD
  have KNE := Aside0.mk hNN
  clear HCV0 hPP hDD hNN
  have BB0 := Below.refl w.heap.size w
  obtain ⟨wp0, hwp0⟩ : ∃ x, x = w.alloc (.cells #[.bool a, .slice A1 l1.length c1, .slice A2 l2.length c2, .slice A3 l3.length c3] 31) := ⟨_, rfl⟩
  have t_n := heap_alloc_new w (.cells #[.bool a, .slice A1 l1.length c1, .slice A2 l2.length c2, .slice A3 l3.length c3] 31)
  rw [← hwp0] at t_n
  have BB1 : Below w.heap.size w wp0 := by rw [hwp0]; exact below_alloc BB0 _
  have sz0 : wp0.heap.size = w.heap.size + 1 := by rw [hwp0]; simp
  obtain ⟨wp1, hwp1⟩ : ∃ x, x = wp0.alloc (.cells #[.bool a, .slice B1 m1.length d1, .slice B2 m2.length d2, .slice B3 m3.length d3] 31) := ⟨_, rfl⟩
  have t_m := heap_alloc_new wp0 (.cells #[.bool a, .slice B1 m1.length d1, .slice B2 m2.length d2, .slice B3 m3.length d3] 31)
  rw [← hwp1] at t_m
  rw [sz0] at t_m
  have BB2 : Below w.heap.size w wp1 := by rw [hwp1]; exact below_alloc BB1 _
  have sz1 : wp1.heap.size = w.heap.size + 2 := by rw [hwp1]; simp [sz0]
  replace t_n := (show wp1.heap[_]? = wp0.heap[_]? by rw [hwp1]; exact Lib.alloc_old wp0 (.cells #[.bool a, .slice B1 m1.length d1, .slice B2 m2.length d2, .slice B3 m3.length d3] 31) _ (blk_lt t_n)).trans t_n
  obtain ⟨wp2, hwp2⟩ : ∃ x, x = wp1.alloc (.cells #[.bool false, .slice none 0 0, .slice none 0 0, .slice none 0 0] 31) := ⟨_, rfl⟩
  have t_r := heap_alloc_new wp1 (.cells #[.bool false, .slice none 0 0, .slice none 0 0, .slice none 0 0] 31)
  rw [← hwp2] at t_r
  rw [sz1] at t_r
  have BB3 : Below w.heap.size w wp2 := by rw [hwp2]; exact below_alloc BB2 _
  have sz2 : wp2.heap.size = w.heap.size + 3 := by rw [hwp2]; simp [sz1]
  replace t_n := (show wp2.heap[_]? = wp1.heap[_]? by rw [hwp2]; exact Lib.alloc_old wp1 (.cells #[.bool false, .slice none 0 0, .slice none 0 0, .slice none 0 0] 31) _ (blk_lt t_n)).trans t_n
  replace t_m := (show wp2.heap[_]? = wp1.heap[_]? by rw [hwp2]; exact Lib.alloc_old wp1 (.cells #[.bool false, .slice none 0 0, .slice none 0 0, .slice none 0 0] 31) _ (blk_lt t_m)).trans t_m
  have HW0 : Aside0 (wp2 = (((w.alloc (.cells #[.bool a, .slice A1 l1.length c1, .slice A2 l2.length c2, .slice A3 l3.length c3] 31)).alloc (.cells #[.bool a, .slice B1 m1.length d1, .slice B2 m2.length d2, .slice B3 m3.length d3] 31)).alloc (.cells #[.bool false, .slice none 0 0, .slice none 0 0, .slice none 0 0] 31))) := ⟨by rw [hwp2, hwp1, hwp0]⟩
  have T_n := Aside0.mk t_n
  have T_m := Aside0.mk t_m
  have T_r := Aside0.mk t_r
  have BB := Aside0.mk BB3
  have SZ0 := Aside0.mk sz2
  clear t_n t_m t_r BB0 BB1 BB2 BB3 sz0 sz1 sz2 hwp0 hwp1 hwp2
  go_enter Try.func22, Try.ntmps22
  have c_n0 := bc T_n 0 rfl; have c_n1 := bc T_n 1 rfl; have c_n2 := bc T_n 2 rfl; have c_n3 := bc T_n 3 rfl
  have c_m0 := bc T_m 0 rfl; have c_m1 := bc T_m 1 rfl; have c_m2 := bc T_m 2 rfl; have c_m3 := bc T_m 3 rfl
  go_wp2_with fail
  rw [← HW0.out]
  refine (CK.out _ BB.out).mono ?_
  rintro e w1 ⟨rfl, hB⟩
  replace T_n := bm hB T_n; replace T_m := bm hB T_m; replace T_r := bm hB T_r; replace BB := xm hB BB
  clear hB
  clear c_n0 c_n1 c_n2 c_n3 c_m0 c_m1 c_m2 c_m3
  have c_n0 := bc T_n 0 rfl; have c_n1 := bc T_n 1 rfl; have c_n2 := bc T_n 2 rfl; have c_n3 := bc T_n 3 rfl
  have c_m0 := bc T_m 0 rfl; have c_m1 := bc T_m 1 rfl; have c_m2 := bc T_m 2 rfl; have c_m3 := bc T_m 3 rfl
  go_wp2_with fail
  refine (CKb.out _ BB.out).mono ?_
  rintro e w2 ⟨rfl, hB⟩
  replace T_n := bm hB T_n; replace T_m := bm hB T_m; replace T_r := bm hB T_r; replace BB := xm hB BB
  clear hB
  clear c_n0 c_n1 c_n2 c_n3 c_m0 c_m1 c_m2 c_m3
  have c_n0 := bc T_n 0 rfl; have c_n1 := bc T_n 1 rfl; have c_n2 := bc T_n 2 rfl; have c_n3 := bc T_n 3 rfl
  have c_m0 := bc T_m 0 rfl; have c_m1 := bc T_m 1 rfl; have c_m2 := bc T_m 2 rfl; have c_m3 := bc T_m 3 rfl
  go_wp2_with fail
  clear c_n0 c_n1 c_n2 c_n3 c_m0 c_m1 c_m2 c_m3
  refine (KY.out _).mono ?_
  rintro e w3 ⟨rfl, hDR⟩
  have hB := hDR.below
  clear hDR
  replace T_n := bm hB T_n; replace T_m := bm hB T_m; replace T_r := bm hB T_r; replace BB := xm hB BB
  clear hB
  have c_n0 := bc T_n 0 rfl; have c_n1 := bc T_n 1 rfl; have c_n2 := bc T_n 2 rfl; have c_n3 := bc T_n 3 rfl
  have c_m0 := bc T_m 0 rfl; have c_m1 := bc T_m 1 rfl; have c_m2 := bc T_m 2 rfl; have c_m3 := bc T_m 3 rfl
  go_upto_region 3 with fail
  clear c_n0 c_n1 c_n2 c_n3 c_m0 c_m1 c_m2 c_m3
  have hB : Below w3.heap.size w3 w3.drew := below_drew1 (Below.refl _ _)
  have MK0 : ∀ W, Below w3.drew.heap.size w3.drew W → Below w.heap.size w W ∧ W.cell? ⟨w.heap.size, 0, none⟩ = some (.bool a) ∧ W.cell? ⟨w.heap.size, 1, none⟩ = some (.slice A1 l1.length c1) ∧ W.cell? ⟨w.heap.size, 2, none⟩ = some (.slice A2 l2.length c2) ∧ W.cell? ⟨w.heap.size, 3, none⟩ = some (.slice A3 l3.length c3) ∧ W.cell? ⟨(w.heap.size + 1), 0, none⟩ = some (.bool a) ∧ W.cell? ⟨(w.heap.size + 1), 1, none⟩ = some (.slice B1 m1.length d1) ∧ W.cell? ⟨(w.heap.size + 1), 2, none⟩ = some (.slice B2 m2.length d2) ∧ W.cell? ⟨(w.heap.size + 1), 3, none⟩ = some (.slice B3 m3.length d3) := fun W hb => ⟨(xm hb (xm hB BB)).out, nd_cell hb (bc (bm hB T_n) 0 rfl), nd_cell hb (bc (bm hB T_n) 1 rfl), nd_cell hb (bc (bm hB T_n) 2 rfl), nd_cell hb (bc (bm hB T_n) 3 rfl), nd_cell hb (bc (bm hB T_m) 0 rfl), nd_cell hb (bc (bm hB T_m) 1 rfl), nd_cell hb (bc (bm hB T_m) 2 rfl), nd_cell hb (bc (bm hB T_m) 3 rfl)⟩
  refine wp_region_held_drew (S := fun W => Below w.heap.size w W ∧ W.cell? ⟨w.heap.size, 0, none⟩ = some (.bool a) ∧ W.cell? ⟨w.heap.size, 1, none⟩ = some (.slice A1 l1.length c1) ∧ W.cell? ⟨w.heap.size, 2, none⟩ = some (.slice A2 l2.length c2) ∧ W.cell? ⟨w.heap.size, 3, none⟩ = some (.slice A3 l3.length c3) ∧ W.cell? ⟨(w.heap.size + 1), 0, none⟩ = some (.bool a) ∧ W.cell? ⟨(w.heap.size + 1), 1, none⟩ = some (.slice B1 m1.length d1) ∧ W.cell? ⟨(w.heap.size + 1), 2, none⟩ = some (.slice B2 m2.length d2) ∧ W.cell? ⟨(w.heap.size + 1), 3, none⟩ = some (.slice B3 m3.length d3)) (by kernel_rfl) (MK0 _ (Below.refl _ _)) (fun hHeld => ?_)
  clear hHeld
  have MK := Aside0.mk MK0
  clear MK0
  obtain ⟨w4, hw4⟩ : ∃ x, x = w3.drew := ⟨_, rfl⟩
  rw [← hw4] at hB MK ⊢
  clear hw4
  replace T_n := bm hB T_n; replace T_m := bm hB T_m; replace T_r := bm hB T_r; replace BB := xm hB BB
  clear hB
  have SB := Aside0.mk (Below.refl w4.heap.size w4)
  have hHeld := MK.out _ SB.out
  refine sp_take 0 hHeld ?_
  refine sp_take 1 hHeld ?_
  refine sp_take 2 hHeld ?_
  refine sp_take 3 hHeld ?_
  refine sp_take 4 hHeld ?_
  refine sp_take 5 hHeld ?_
  refine sp_take 8 hHeld ?_
  refine sp_take 9 hHeld ?_
  refine sp_take 10 hHeld ?_
  refine sp_take 11 hHeld ?_
  clear hHeld
  refine wpAnyH_dag (fun A0 qf ql qa W => (qf = 7 ∧ ql = #[true, true, true, true, true, true, false, false, true, true, true, true, false, false, false, false, false] ∧ qa = A0 ∧ Aside0 (Below w4.heap.size w4 W))
   ∨ (∃ (g6 : Nat), qf = 6 ∧ ql = #[true, true, true, true, true, true, true, false, true, true, true, true, false, false, false, false, false] ∧ qa = (A0.put (some 36) (.slice (some ⟨g6, 0, none⟩) 2 2)) ∧ Aside0 (Below w4.heap.size w4 W) ∧ Aside0 (W.heap[g6]? = some (.cells #[.slice A1 l1.length c1, .slice B1 m1.length d1] 22 (0, 0))))
   ∨ (∃ (g12 : Nat), qf = 6 ∧ ql = #[true, true, true, true, true, true, false, false, true, true, true, true, true, false, false, false, false] ∧ qa = (A0.put (some 42) (.slice (some ⟨g12, 0, none⟩) 2 2)) ∧ Aside0 (Below w4.heap.size w4 W) ∧ Aside0 (W.heap[g12]? = some (.cells #[.slice A3 l3.length c3, .slice B3 m3.length d3] 24 (0, 0))))
   ∨ (∃ (g15 : Nat), qf = 6 ∧ ql = #[true, true, true, true, true, true, false, false, true, true, true, true, false, false, false, true, false] ∧ qa = (A0.put (some 8) (.pointer (some ⟨g15, 0, none⟩))) ∧ Aside0 (Below w4.heap.size w4 W) ∧ Aside0 (W.heap[g15]? = some (.cells #[.bool false, .slice none 0 0, .slice none 0 0, .slice none 0 0] 31 (0, 0))) ∧ Aside0 (w4.heap.size ≤ g15))
   ∨ (∃ (g6 : Nat) (A7_ : Option Addr) (c7_ : Nat), qf = 5 ∧ ql = #[true, true, true, true, true, true, true, true, true, true, true, true, false, false, false, false, false] ∧ qa = ((A0.put (some 36) (.slice (some ⟨g6, 0, none⟩) 2 2)).put (some 37) (.slice A7_ PP.length c7_)) ∧ Aside0 (Below w4.heap.size w4 W) ∧ Aside0 (Kd.R k48 48 W w4.heap.size (fun _ => True) (.slice A7_ PP.length c7_) PP))
   ∨ (∃ (g6 : Nat) (g12 : Nat), qf = 5 ∧ ql = #[true, true, true, true, true, true, true, false, true, true, true, true, true, false, false, false, false] ∧ qa = ((A0.put (some 36) (.slice (some ⟨g6, 0, none⟩) 2 2)).put (some 42) (.slice (some ⟨g12, 0, none⟩) 2 2)) ∧ Aside0 (Below w4.heap.size w4 W) ∧ Aside0 (W.heap[g6]? = some (.cells #[.slice A1 l1.length c1, .slice B1 m1.length d1] 22 (0, 0))) ∧ Aside0 (W.heap[g12]? = some (.cells #[.slice A3 l3.length c3, .slice B3 m3.length d3] 24 (0, 0))))
   ∨ (∃ (g6 : Nat) (g15 : Nat), qf = 5 ∧ ql = #[true, true, true, true, true, true, true, false, true, true, true, true, false, false, false, true, false] ∧ qa = ((A0.put (some 36) (.slice (some ⟨g6, 0, none⟩) 2 2)).put (some 8) (.pointer (some ⟨g15, 0, none⟩))) ∧ Aside0 (Below w4.heap.size w4 W) ∧ Aside0 (W.heap[g6]? = some (.cells #[.slice A1 l1.length c1, .slice B1 m1.length d1] 22 (0, 0))) ∧ Aside0 (W.heap[g15]? = some (.cells #[.bool false, .slice none 0 0, .slice none 0 0, .slice none 0 0] 31 (0, 0))) ∧ Aside0 (w4.heap.size ≤ g15))
   ∨ (∃ (g12 : Nat) (g15 : Nat), qf = 5 ∧ ql = #[true, true, true, true, true, true, false, false, true, true, true, true, true, false, false, true, false] ∧ qa = ((A0.put (some 42) (.slice (some ⟨g12, 0, none⟩) 2 2)).put (some 8) (.pointer (some ⟨g15, 0, none⟩))) ∧ Aside0 (Below w4.heap.size w4 W) ∧ Aside0 (W.heap[g12]? = some (.cells #[.slice A3 l3.length c3, .slice B3 m3.length d3] 24 (0, 0))) ∧ Aside0 (W.heap[g15]? = some (.cells #[.bool false, .slice none 0 0, .slice none 0 0, .slice none 0 0] 31 (0, 0))) ∧ Aside0 (w4.heap.size ≤ g15))
   ∨ (∃ (g6 : Nat) (A7_ : Option Addr) (c7_ : Nat) (g12 : Nat), qf = 4 ∧ ql = #[true, true, true, true, true, true, true, true, true, true, true, true, true, false, false, false, false] ∧ qa = (((A0.put (some 36) (.slice (some ⟨g6, 0, none⟩) 2 2)).put (some 37) (.slice A7_ PP.length c7_)).put (some 42) (.slice (some ⟨g12, 0, none⟩) 2 2)) ∧ Aside0 (Below w4.heap.size w4 W) ∧ Aside0 (W.heap[g12]? = some (.cells #[.slice A3 l3.length c3, .slice B3 m3.length d3] 24 (0, 0))) ∧ Aside0 (Kd.R k48 48 W w4.heap.size (fun _ => True) (.slice A7_ PP.length c7_) PP))
   ∨ (∃ (g6 : Nat) (A7_ : Option Addr) (c7_ : Nat) (g15 : Nat), qf = 4 ∧ ql = #[true, true, true, true, true, true, true, true, true, true, true, true, false, false, false, true, false] ∧ qa = (((A0.put (some 36) (.slice (some ⟨g6, 0, none⟩) 2 2)).put (some 37) (.slice A7_ PP.length c7_)).put (some 8) (.pointer (some ⟨g15, 0, none⟩))) ∧ Aside0 (Below w4.heap.size w4 W) ∧ Aside0 (W.heap[g15]? = some (.cells #[.bool false, .slice none 0 0, .slice none 0 0, .slice none 0 0] 31 (0, 0))) ∧ Aside0 (w4.heap.size ≤ g15) ∧ Aside0 (Kd.R k48 48 W w4.heap.size (fun _ => True) (.slice A7_ PP.length c7_) PP))
   ∨ (∃ (g6 : Nat) (g12 : Nat) (g15 : Nat), qf = 4 ∧ ql = #[true, true, true, true, true, true, true, false, true, true, true, true, true, false, false, true, false] ∧ qa = (((A0.put (some 36) (.slice (some ⟨g6, 0, none⟩) 2 2)).put (some 42) (.slice (some ⟨g12, 0, none⟩) 2 2)).put (some 8) (.pointer (some ⟨g15, 0, none⟩))) ∧ Aside0 (Below w4.heap.size w4 W) ∧ Aside0 (W.heap[g6]? = some (.cells #[.slice A1 l1.length c1, .slice B1 m1.length d1] 22 (0, 0))) ∧ Aside0 (W.heap[g12]? = some (.cells #[.slice A3 l3.length c3, .slice B3 m3.length d3] 24 (0, 0))) ∧ Aside0 (W.heap[g15]? = some (.cells #[.bool false, .slice none 0 0, .slice none 0 0, .slice none 0 0] 31 (0, 0))) ∧ Aside0 (w4.heap.size ≤ g15))
   ∨ (∃ (g6 : Nat) (A7_ : Option Addr) (c7_ : Nat) (g12 : Nat) (A13_ : Option Addr) (c13_ : Nat), qf = 2 ∧ ql = #[true, true, true, true, true, true, true, true, true, true, true, true, true, true, true, false, false] ∧ qa = (((((A0.put (some 36) (.slice (some ⟨g6, 0, none⟩) 2 2)).put (some 37) (.slice A7_ PP.length c7_)).put (some 42) (.slice (some ⟨g12, 0, none⟩) 2 2)).put (some 43) (.slice A13_ DD.length c13_)).put (some 44) (.agg #[.bool a, .slice A7_ PP.length c7_, .slice none 0 0, .slice A13_ DD.length c13_])) ∧ Aside0 (Below w4.heap.size w4 W) ∧ Aside0 (Kd.R k48 48 W w4.heap.size (fun _ => True) (.slice A7_ PP.length c7_) PP) ∧ Aside0 (Kd.R (Kd.int .i64) 3 W w4.heap.size (fun _ => True) (.slice A13_ DD.length c13_) DD))
   ∨ (∃ (g6 : Nat) (A7_ : Option Addr) (c7_ : Nat) (g12 : Nat) (g15 : Nat), qf = 3 ∧ ql = #[true, true, true, true, true, true, true, true, true, true, true, true, true, false, false, true, false] ∧ qa = ((((A0.put (some 36) (.slice (some ⟨g6, 0, none⟩) 2 2)).put (some 37) (.slice A7_ PP.length c7_)).put (some 42) (.slice (some ⟨g12, 0, none⟩) 2 2)).put (some 8) (.pointer (some ⟨g15, 0, none⟩))) ∧ Aside0 (Below w4.heap.size w4 W) ∧ Aside0 (W.heap[g12]? = some (.cells #[.slice A3 l3.length c3, .slice B3 m3.length d3] 24 (0, 0))) ∧ Aside0 (W.heap[g15]? = some (.cells #[.bool false, .slice none 0 0, .slice none 0 0, .slice none 0 0] 31 (0, 0))) ∧ Aside0 (w4.heap.size ≤ g15) ∧ Aside0 (Kd.R k48 48 W w4.heap.size (fun _ => True) (.slice A7_ PP.length c7_) PP))
   ∨ (∃ (g6 : Nat) (A7_ : Option Addr) (c7_ : Nat) (g12 : Nat) (A13_ : Option Addr) (c13_ : Nat) (g15 : Nat), qf = 1 ∧ ql = #[true, true, true, true, true, true, true, true, true, true, true, true, true, true, true, true, false] ∧ qa = ((((((A0.put (some 36) (.slice (some ⟨g6, 0, none⟩) 2 2)).put (some 37) (.slice A7_ PP.length c7_)).put (some 42) (.slice (some ⟨g12, 0, none⟩) 2 2)).put (some 43) (.slice A13_ DD.length c13_)).put (some 8) (.pointer (some ⟨g15, 0, none⟩))).put (some 44) (.agg #[.bool a, .slice A7_ PP.length c7_, .slice none 0 0, .slice A13_ DD.length c13_])) ∧ Aside0 (Below w4.heap.size w4 W) ∧ Aside0 (W.heap[g15]? = some (.cells #[.bool false, .slice none 0 0, .slice none 0 0, .slice none 0 0] 31 (0, 0))) ∧ Aside0 (w4.heap.size ≤ g15) ∧ Aside0 (Kd.R k48 48 W w4.heap.size (fun _ => True) (.slice A7_ PP.length c7_) PP) ∧ Aside0 (Kd.R (Kd.int .i64) 3 W w4.heap.size (fun _ => True) (.slice A13_ DD.length c13_) DD))) ?_ (.inl ⟨rfl, by kernel_rfl, rfl, SB⟩)
  clear SB
  intro qf ql qa W hJ ih
  rcases hJ with J | J | J | J | J | J | J | J | J | J | J | J | J | J
  · obtain ⟨rfl, rfl, rfl, SB⟩ := J
    refine wpAnyH_ready (rs := [6, 12, 15]) (by kernel_rfl) (by simp) ?_
    refine (AllReadyH.cons rfl (fun K hK => ?_) (AllReadyH.cons rfl (fun K hK => ?_) (AllReadyH.cons rfl (fun K hK => ?_) AllReadyH.nil)))
    · go_simp
      obtain ⟨g6, hg6⟩ : ∃ n, n = W.heap.size := ⟨_, rfl⟩
      obtain ⟨w5, hw5⟩ : ∃ x, x = W.alloc (.cells #[.slice A1 l1.length c1, .slice B1 m1.length d1] 22) := ⟨_, rfl⟩
      have tn := heap_alloc_new W (.cells #[.slice A1 l1.length c1, .slice B1 m1.length d1] 22)
      have hB := below_alloc (Below.refl W.heap.size W) (.cells #[.slice A1 l1.length c1, .slice B1 m1.length d1] 22)
      rw [← hw5] at tn hB
      rw [← hg6] at tn
      have GSB_s1 : Aside0 (w4.heap.size ≤ g6) := ⟨by rw [hg6]; exact SB.out.size⟩
      replace SB := xm hB SB
      have T_s1 := Aside0.mk tn
      clear tn hB
      rw [← hw5]
      try rw [← hg6]
      clear hw5 hg6
      refine hK.out _ _ (MK.out _ SB.out) (fun hNew => ?_)
      clear hK K hNew
      exact ih _ _ _ _ (by decide) (.inr (.inl ⟨g6, rfl, by kernel_rfl, by simp only [Act.put, List.getElem_toArray, List.getElem_cons_zero, List.getElem_cons_succ, List.setIfInBounds_toArray, List.set_cons_zero, List.set_cons_succ], SB, T_s1⟩))
    · go_simp
      obtain ⟨g8, hg8⟩ : ∃ n, n = W.heap.size := ⟨_, rfl⟩
      obtain ⟨w7, hw7⟩ : ∃ x, x = W.alloc (.cells #[.slice A3 l3.length c3, .slice B3 m3.length d3] 24) := ⟨_, rfl⟩
      have tn := heap_alloc_new W (.cells #[.slice A3 l3.length c3, .slice B3 m3.length d3] 24)
      have hB := below_alloc (Below.refl W.heap.size W) (.cells #[.slice A3 l3.length c3, .slice B3 m3.length d3] 24)
      rw [← hw7] at tn hB
      rw [← hg8] at tn
      have GSB_s2 : Aside0 (w4.heap.size ≤ g8) := ⟨by rw [hg8]; exact SB.out.size⟩
      replace SB := xm hB SB
      have T_s2 := Aside0.mk tn
      clear tn hB
      rw [← hw7]
      try rw [← hg8]
      clear hw7 hg8
      refine hK.out _ _ (MK.out _ SB.out) (fun hNew => ?_)
      clear hK K hNew
      exact ih _ _ _ _ (by decide) (.inr (.inr (.inl ⟨g8, rfl, by kernel_rfl, by simp only [Act.put, List.getElem_toArray, List.getElem_cons_zero, List.getElem_cons_succ, List.setIfInBounds_toArray, List.set_cons_zero, List.set_cons_succ], SB, T_s2⟩)))
    · go_simp
      obtain ⟨g10, hg10⟩ : ∃ n, n = W.heap.size := ⟨_, rfl⟩
      obtain ⟨w9, hw9⟩ : ∃ x, x = W.alloc (.cells #[.bool false, .slice none 0 0, .slice none 0 0, .slice none 0 0] 31) := ⟨_, rfl⟩
      have tn := heap_alloc_new W (.cells #[.bool false, .slice none 0 0, .slice none 0 0, .slice none 0 0] 31)
      have hB := below_alloc (Below.refl W.heap.size W) (.cells #[.bool false, .slice none 0 0, .slice none 0 0, .slice none 0 0] 31)
      rw [← hw9] at tn hB
      rw [← hg10] at tn
      have GSB_g8 : Aside0 (w4.heap.size ≤ g10) := ⟨by rw [hg10]; exact SB.out.size⟩
      replace SB := xm hB SB
      have T_g8 := Aside0.mk tn
      clear tn hB
      rw [← hw9]
      try rw [← hg10]
      clear hw9 hg10
      refine hK.out _ _ (MK.out _ SB.out) (fun hNew => ?_)
      clear hK K hNew
      exact ih _ _ _ _ (by decide) (.inr (.inr (.inr (.inl ⟨g10, rfl, by kernel_rfl, by simp only [Act.put, List.getElem_toArray, List.getElem_cons_zero, List.getElem_cons_succ, List.setIfInBounds_toArray, List.set_cons_zero, List.set_cons_succ], SB, T_g8, GSB_g8⟩))))
  · obtain ⟨g6, rfl, rfl, rfl, SB, T_s1⟩ := J
    simp only [Act.put, List.getElem_toArray, List.getElem_cons_zero, List.getElem_cons_succ, List.setIfInBounds_toArray, List.set_cons_zero, List.set_cons_succ]
    refine wpAnyH_ready (rs := [7, 12, 15]) (by kernel_rfl) (by simp) ?_
    refine (AllReadyH.cons rfl (fun K hK => ?_) (AllReadyH.cons rfl (fun K hK => ?_) (AllReadyH.cons rfl (fun K hK => ?_) AllReadyH.nil)))
    · have SBo := SB
      have CC := concat_p (some ⟨g6, 0, none⟩) 2 [l1, m1] W (rows2 T_s1.out (Kd.C_below HR1.out (BB.out.trans (SB.out.mono BB.out.size))) Hl1.out (Kd.C_below HS1.out (BB.out.trans (SB.out.mono BB.out.size))) Hm1.out) (Nat.le_refl _) (by have := HLEN.out; simp only [flat2, List.length_append]; omega) (by simp)
      go_simp
      refine (CC).mono ?_
      rintro e w11 ⟨v0, rfl, hR, hB⟩
      replace T_s1 := bm hB T_s1; replace SB := xm hB SB
      clear hB
      have hR' := Kd.R_lower hR SBo.out.size
      rw [flat2, PPE.out] at hR'
      obtain ⟨A12, c13, rfl⟩ := Kd.R_slice hR'
      have R_p := Aside0.mk hR'
      clear hR hR' SBo CC
      go_simp
      refine hK.out _ _ (MK.out _ SB.out) (fun hNew => ?_)
      clear hK K hNew
      exact ih _ _ _ _ (by decide) (.inr (.inr (.inr (.inr (.inl ⟨g6, A12, c13, rfl, by kernel_rfl, by simp only [Act.put, List.getElem_toArray, List.getElem_cons_zero, List.getElem_cons_succ, List.setIfInBounds_toArray, List.set_cons_zero, List.set_cons_succ], SB, R_p⟩)))))
    · go_simp
      obtain ⟨g15, hg15⟩ : ∃ n, n = W.heap.size := ⟨_, rfl⟩
      obtain ⟨w14, hw14⟩ : ∃ x, x = W.alloc (.cells #[.slice A3 l3.length c3, .slice B3 m3.length d3] 24) := ⟨_, rfl⟩
      have tn := heap_alloc_new W (.cells #[.slice A3 l3.length c3, .slice B3 m3.length d3] 24)
      have hB := below_alloc (Below.refl W.heap.size W) (.cells #[.slice A3 l3.length c3, .slice B3 m3.length d3] 24)
      rw [← hw14] at tn hB
      rw [← hg15] at tn
      have GSB_s2 : Aside0 (w4.heap.size ≤ g15) := ⟨by rw [hg15]; exact SB.out.size⟩
      have NE_s2_s1 : Aside0 (g6 ≠ g15) := ⟨by have := blk_lt T_s1.out; omega⟩
      replace T_s1 := bm hB T_s1; replace SB := xm hB SB
      have T_s2 := Aside0.mk tn
      clear tn hB
      rw [← hw14]
      try rw [← hg15]
      clear hw14 hg15
      refine hK.out _ _ (MK.out _ SB.out) (fun hNew => ?_)
      clear hK K hNew
      exact ih _ _ _ _ (by decide) (.inr (.inr (.inr (.inr (.inr (.inl ⟨g6, g15, rfl, by kernel_rfl, by simp only [Act.put, List.getElem_toArray, List.getElem_cons_zero, List.getElem_cons_succ, List.setIfInBounds_toArray, List.set_cons_zero, List.set_cons_succ], SB, T_s1, T_s2⟩))))))
    · go_simp
      obtain ⟨g17, hg17⟩ : ∃ n, n = W.heap.size := ⟨_, rfl⟩
      obtain ⟨w16, hw16⟩ : ∃ x, x = W.alloc (.cells #[.bool false, .slice none 0 0, .slice none 0 0, .slice none 0 0] 31) := ⟨_, rfl⟩
      have tn := heap_alloc_new W (.cells #[.bool false, .slice none 0 0, .slice none 0 0, .slice none 0 0] 31)
      have hB := below_alloc (Below.refl W.heap.size W) (.cells #[.bool false, .slice none 0 0, .slice none 0 0, .slice none 0 0] 31)
      rw [← hw16] at tn hB
      rw [← hg17] at tn
      have GSB_g8 : Aside0 (w4.heap.size ≤ g17) := ⟨by rw [hg17]; exact SB.out.size⟩
      have NE_g8_s1 : Aside0 (g6 ≠ g17) := ⟨by have := blk_lt T_s1.out; omega⟩
      replace T_s1 := bm hB T_s1; replace SB := xm hB SB
      have T_g8 := Aside0.mk tn
      clear tn hB
      rw [← hw16]
      try rw [← hg17]
      clear hw16 hg17
      refine hK.out _ _ (MK.out _ SB.out) (fun hNew => ?_)
      clear hK K hNew
      exact ih _ _ _ _ (by decide) (.inr (.inr (.inr (.inr (.inr (.inr (.inl ⟨g6, g17, rfl, by kernel_rfl, by simp only [Act.put, List.getElem_toArray, List.getElem_cons_zero, List.getElem_cons_succ, List.setIfInBounds_toArray, List.set_cons_zero, List.set_cons_succ], SB, T_s1, T_g8, GSB_g8⟩)))))))
  · obtain ⟨g12, rfl, rfl, rfl, SB, T_s2⟩ := J
    simp only [Act.put, List.getElem_toArray, List.getElem_cons_zero, List.getElem_cons_succ, List.setIfInBounds_toArray, List.set_cons_zero, List.set_cons_succ]
    refine wpAnyH_ready (rs := [6, 15]) (by kernel_rfl) (by simp) ?_
    refine (AllReadyH.cons rfl (fun K hK => ?_) (AllReadyH.cons rfl (fun K hK => ?_) AllReadyH.nil))
    · go_simp
      obtain ⟨g19, hg19⟩ : ∃ n, n = W.heap.size := ⟨_, rfl⟩
      obtain ⟨w18, hw18⟩ : ∃ x, x = W.alloc (.cells #[.slice A1 l1.length c1, .slice B1 m1.length d1] 22) := ⟨_, rfl⟩
      have tn := heap_alloc_new W (.cells #[.slice A1 l1.length c1, .slice B1 m1.length d1] 22)
      have hB := below_alloc (Below.refl W.heap.size W) (.cells #[.slice A1 l1.length c1, .slice B1 m1.length d1] 22)
      rw [← hw18] at tn hB
      rw [← hg19] at tn
      have GSB_s1 : Aside0 (w4.heap.size ≤ g19) := ⟨by rw [hg19]; exact SB.out.size⟩
      have NE_s1_s2 : Aside0 (g12 ≠ g19) := ⟨by have := blk_lt T_s2.out; omega⟩
      replace T_s2 := bm hB T_s2; replace SB := xm hB SB
      have T_s1 := Aside0.mk tn
      clear tn hB
      rw [← hw18]
      try rw [← hg19]
      clear hw18 hg19
      refine hK.out _ _ (MK.out _ SB.out) (fun hNew => ?_)
      clear hK K hNew
      exact ih _ _ _ _ (by decide) (.inr (.inr (.inr (.inr (.inr (.inl ⟨g19, g12, rfl, by kernel_rfl, by simp only [Act.put, List.getElem_toArray, List.getElem_cons_zero, List.getElem_cons_succ, List.setIfInBounds_toArray, List.set_cons_zero, List.set_cons_succ], SB, T_s1, T_s2⟩))))))
    · go_simp
      obtain ⟨g21, hg21⟩ : ∃ n, n = W.heap.size := ⟨_, rfl⟩
      obtain ⟨w20, hw20⟩ : ∃ x, x = W.alloc (.cells #[.bool false, .slice none 0 0, .slice none 0 0, .slice none 0 0] 31) := ⟨_, rfl⟩
      have tn := heap_alloc_new W (.cells #[.bool false, .slice none 0 0, .slice none 0 0, .slice none 0 0] 31)
      have hB := below_alloc (Below.refl W.heap.size W) (.cells #[.bool false, .slice none 0 0, .slice none 0 0, .slice none 0 0] 31)
      rw [← hw20] at tn hB
      rw [← hg21] at tn
      have GSB_g8 : Aside0 (w4.heap.size ≤ g21) := ⟨by rw [hg21]; exact SB.out.size⟩
      have NE_g8_s2 : Aside0 (g12 ≠ g21) := ⟨by have := blk_lt T_s2.out; omega⟩
      replace T_s2 := bm hB T_s2; replace SB := xm hB SB
      have T_g8 := Aside0.mk tn
      clear tn hB
      rw [← hw20]
      try rw [← hg21]
      clear hw20 hg21
      refine hK.out _ _ (MK.out _ SB.out) (fun hNew => ?_)
      clear hK K hNew
      exact ih _ _ _ _ (by decide) (.inr (.inr (.inr (.inr (.inr (.inr (.inr (.inl ⟨g12, g21, rfl, by kernel_rfl, by simp only [Act.put, List.getElem_toArray, List.getElem_cons_zero, List.getElem_cons_succ, List.setIfInBounds_toArray, List.set_cons_zero, List.set_cons_succ], SB, T_s2, T_g8, GSB_g8⟩))))))))
  · obtain ⟨g15, rfl, rfl, rfl, SB, T_g8, GSB_g8⟩ := J
    simp only [Act.put, List.getElem_toArray, List.getElem_cons_zero, List.getElem_cons_succ, List.setIfInBounds_toArray, List.set_cons_zero, List.set_cons_succ]
    refine wpAnyH_ready (rs := [6, 12]) (by kernel_rfl) (by simp) ?_
    refine (AllReadyH.cons rfl (fun K hK => ?_) (AllReadyH.cons rfl (fun K hK => ?_) AllReadyH.nil))
    · go_simp
      obtain ⟨g23, hg23⟩ : ∃ n, n = W.heap.size := ⟨_, rfl⟩
      obtain ⟨w22, hw22⟩ : ∃ x, x = W.alloc (.cells #[.slice A1 l1.length c1, .slice B1 m1.length d1] 22) := ⟨_, rfl⟩
      have tn := heap_alloc_new W (.cells #[.slice A1 l1.length c1, .slice B1 m1.length d1] 22)
      have hB := below_alloc (Below.refl W.heap.size W) (.cells #[.slice A1 l1.length c1, .slice B1 m1.length d1] 22)
      rw [← hw22] at tn hB
      rw [← hg23] at tn
      have GSB_s1 : Aside0 (w4.heap.size ≤ g23) := ⟨by rw [hg23]; exact SB.out.size⟩
      have NE_s1_g8 : Aside0 (g15 ≠ g23) := ⟨by have := blk_lt T_g8.out; omega⟩
      replace T_g8 := bm hB T_g8; replace SB := xm hB SB
      have T_s1 := Aside0.mk tn
      clear tn hB
      rw [← hw22]
      try rw [← hg23]
      clear hw22 hg23
      refine hK.out _ _ (MK.out _ SB.out) (fun hNew => ?_)
      clear hK K hNew
      exact ih _ _ _ _ (by decide) (.inr (.inr (.inr (.inr (.inr (.inr (.inl ⟨g23, g15, rfl, by kernel_rfl, by simp only [Act.put, List.getElem_toArray, List.getElem_cons_zero, List.getElem_cons_succ, List.setIfInBounds_toArray, List.set_cons_zero, List.set_cons_succ], SB, T_s1, T_g8, GSB_g8⟩)))))))
    · go_simp
      obtain ⟨g25, hg25⟩ : ∃ n, n = W.heap.size := ⟨_, rfl⟩
      obtain ⟨w24, hw24⟩ : ∃ x, x = W.alloc (.cells #[.slice A3 l3.length c3, .slice B3 m3.length d3] 24) := ⟨_, rfl⟩
      have tn := heap_alloc_new W (.cells #[.slice A3 l3.length c3, .slice B3 m3.length d3] 24)
      have hB := below_alloc (Below.refl W.heap.size W) (.cells #[.slice A3 l3.length c3, .slice B3 m3.length d3] 24)
      rw [← hw24] at tn hB
      rw [← hg25] at tn
      have GSB_s2 : Aside0 (w4.heap.size ≤ g25) := ⟨by rw [hg25]; exact SB.out.size⟩
      have NE_s2_g8 : Aside0 (g15 ≠ g25) := ⟨by have := blk_lt T_g8.out; omega⟩
      replace T_g8 := bm hB T_g8; replace SB := xm hB SB
      have T_s2 := Aside0.mk tn
      clear tn hB
      rw [← hw24]
      try rw [← hg25]
      clear hw24 hg25
      refine hK.out _ _ (MK.out _ SB.out) (fun hNew => ?_)
      clear hK K hNew
      exact ih _ _ _ _ (by decide) (.inr (.inr (.inr (.inr (.inr (.inr (.inr (.inl ⟨g25, g15, rfl, by kernel_rfl, by simp only [Act.put, List.getElem_toArray, List.getElem_cons_zero, List.getElem_cons_succ, List.setIfInBounds_toArray, List.set_cons_zero, List.set_cons_succ], SB, T_s2, T_g8, GSB_g8⟩))))))))
  · obtain ⟨g6, A7_, c7_, rfl, rfl, rfl, SB, R_p⟩ := J
    simp only [Act.put, List.getElem_toArray, List.getElem_cons_zero, List.getElem_cons_succ, List.setIfInBounds_toArray, List.set_cons_zero, List.set_cons_succ]
    refine wpAnyH_ready (rs := [12, 15]) (by kernel_rfl) (by simp) ?_
    refine (AllReadyH.cons rfl (fun K hK => ?_) (AllReadyH.cons rfl (fun K hK => ?_) AllReadyH.nil))
    · go_simp
      obtain ⟨g27, hg27⟩ : ∃ n, n = W.heap.size := ⟨_, rfl⟩
      obtain ⟨w26, hw26⟩ : ∃ x, x = W.alloc (.cells #[.slice A3 l3.length c3, .slice B3 m3.length d3] 24) := ⟨_, rfl⟩
      have tn := heap_alloc_new W (.cells #[.slice A3 l3.length c3, .slice B3 m3.length d3] 24)
      have hB := below_alloc (Below.refl W.heap.size W) (.cells #[.slice A3 l3.length c3, .slice B3 m3.length d3] 24)
      rw [← hw26] at tn hB
      rw [← hg27] at tn
      have GSB_s2 : Aside0 (w4.heap.size ≤ g27) := ⟨by rw [hg27]; exact SB.out.size⟩
      replace R_p := rm hB R_p; replace SB := xm hB SB
      have T_s2 := Aside0.mk tn
      clear tn hB
      rw [← hw26]
      try rw [← hg27]
      clear hw26 hg27
      refine hK.out _ _ (MK.out _ SB.out) (fun hNew => ?_)
      clear hK K hNew
      exact ih _ _ _ _ (by decide) (.inr (.inr (.inr (.inr (.inr (.inr (.inr (.inr (.inl ⟨g6, A7_, c7_, g27, rfl, by kernel_rfl, by simp only [Act.put, List.getElem_toArray, List.getElem_cons_zero, List.getElem_cons_succ, List.setIfInBounds_toArray, List.set_cons_zero, List.set_cons_succ], SB, T_s2, R_p⟩)))))))))
    · go_simp
      obtain ⟨g29, hg29⟩ : ∃ n, n = W.heap.size := ⟨_, rfl⟩
      obtain ⟨w28, hw28⟩ : ∃ x, x = W.alloc (.cells #[.bool false, .slice none 0 0, .slice none 0 0, .slice none 0 0] 31) := ⟨_, rfl⟩
      have tn := heap_alloc_new W (.cells #[.bool false, .slice none 0 0, .slice none 0 0, .slice none 0 0] 31)
      have hB := below_alloc (Below.refl W.heap.size W) (.cells #[.bool false, .slice none 0 0, .slice none 0 0, .slice none 0 0] 31)
      rw [← hw28] at tn hB
      rw [← hg29] at tn
      have GSB_g8 : Aside0 (w4.heap.size ≤ g29) := ⟨by rw [hg29]; exact SB.out.size⟩
      replace R_p := rm hB R_p; replace SB := xm hB SB
      have T_g8 := Aside0.mk tn
      clear tn hB
      rw [← hw28]
      try rw [← hg29]
      clear hw28 hg29
      refine hK.out _ _ (MK.out _ SB.out) (fun hNew => ?_)
      clear hK K hNew
      exact ih _ _ _ _ (by decide) (.inr (.inr (.inr (.inr (.inr (.inr (.inr (.inr (.inr (.inl ⟨g6, A7_, c7_, g29, rfl, by kernel_rfl, by simp only [Act.put, List.getElem_toArray, List.getElem_cons_zero, List.getElem_cons_succ, List.setIfInBounds_toArray, List.set_cons_zero, List.set_cons_succ], SB, T_g8, GSB_g8, R_p⟩))))))))))
  · obtain ⟨g6, g12, rfl, rfl, rfl, SB, T_s1, T_s2⟩ := J
    simp only [Act.put, List.getElem_toArray, List.getElem_cons_zero, List.getElem_cons_succ, List.setIfInBounds_toArray, List.set_cons_zero, List.set_cons_succ]
    refine wpAnyH_ready (rs := [7, 15]) (by kernel_rfl) (by simp) ?_
    refine (AllReadyH.cons rfl (fun K hK => ?_) (AllReadyH.cons rfl (fun K hK => ?_) AllReadyH.nil))
    · have SBo := SB
      have CC := concat_p (some ⟨g6, 0, none⟩) 2 [l1, m1] W (rows2 T_s1.out (Kd.C_below HR1.out (BB.out.trans (SB.out.mono BB.out.size))) Hl1.out (Kd.C_below HS1.out (BB.out.trans (SB.out.mono BB.out.size))) Hm1.out) (Nat.le_refl _) (by have := HLEN.out; simp only [flat2, List.length_append]; omega) (by simp)
      go_simp
      refine (CC).mono ?_
      rintro e w30 ⟨v0, rfl, hR, hB⟩
      replace T_s1 := bm hB T_s1; replace T_s2 := bm hB T_s2; replace SB := xm hB SB
      clear hB
      have hR' := Kd.R_lower hR SBo.out.size
      rw [flat2, PPE.out] at hR'
      obtain ⟨A31, c32, rfl⟩ := Kd.R_slice hR'
      have R_p := Aside0.mk hR'
      clear hR hR' SBo CC
      go_simp
      refine hK.out _ _ (MK.out _ SB.out) (fun hNew => ?_)
      clear hK K hNew
      exact ih _ _ _ _ (by decide) (.inr (.inr (.inr (.inr (.inr (.inr (.inr (.inr (.inl ⟨g6, A31, c32, g12, rfl, by kernel_rfl, by simp only [Act.put, List.getElem_toArray, List.getElem_cons_zero, List.getElem_cons_succ, List.setIfInBounds_toArray, List.set_cons_zero, List.set_cons_succ], SB, T_s2, R_p⟩)))))))))
    · go_simp
      obtain ⟨g34, hg34⟩ : ∃ n, n = W.heap.size := ⟨_, rfl⟩
      obtain ⟨w33, hw33⟩ : ∃ x, x = W.alloc (.cells #[.bool false, .slice none 0 0, .slice none 0 0, .slice none 0 0] 31) := ⟨_, rfl⟩
      have tn := heap_alloc_new W (.cells #[.bool false, .slice none 0 0, .slice none 0 0, .slice none 0 0] 31)
      have hB := below_alloc (Below.refl W.heap.size W) (.cells #[.bool false, .slice none 0 0, .slice none 0 0, .slice none 0 0] 31)
      rw [← hw33] at tn hB
      rw [← hg34] at tn
      have GSB_g8 : Aside0 (w4.heap.size ≤ g34) := ⟨by rw [hg34]; exact SB.out.size⟩
      have NE_g8_s1 : Aside0 (g6 ≠ g34) := ⟨by have := blk_lt T_s1.out; omega⟩
      have NE_g8_s2 : Aside0 (g12 ≠ g34) := ⟨by have := blk_lt T_s2.out; omega⟩
      replace T_s1 := bm hB T_s1; replace T_s2 := bm hB T_s2; replace SB := xm hB SB
      have T_g8 := Aside0.mk tn
      clear tn hB
      rw [← hw33]
      try rw [← hg34]
      clear hw33 hg34
      refine hK.out _ _ (MK.out _ SB.out) (fun hNew => ?_)
      clear hK K hNew
      exact ih _ _ _ _ (by decide) (.inr (.inr (.inr (.inr (.inr (.inr (.inr (.inr (.inr (.inr (.inl ⟨g6, g12, g34, rfl, by kernel_rfl, by simp only [Act.put, List.getElem_toArray, List.getElem_cons_zero, List.getElem_cons_succ, List.setIfInBounds_toArray, List.set_cons_zero, List.set_cons_succ], SB, T_s1, T_s2, T_g8, GSB_g8⟩)))))))))))
  · obtain ⟨g6, g15, rfl, rfl, rfl, SB, T_s1, T_g8, GSB_g8⟩ := J
    simp only [Act.put, List.getElem_toArray, List.getElem_cons_zero, List.getElem_cons_succ, List.setIfInBounds_toArray, List.set_cons_zero, List.set_cons_succ]
    refine wpAnyH_ready (rs := [7, 12]) (by kernel_rfl) (by simp) ?_
    refine (AllReadyH.cons rfl (fun K hK => ?_) (AllReadyH.cons rfl (fun K hK => ?_) AllReadyH.nil))
    · have SBo := SB
      have CC := concat_p (some ⟨g6, 0, none⟩) 2 [l1, m1] W (rows2 T_s1.out (Kd.C_below HR1.out (BB.out.trans (SB.out.mono BB.out.size))) Hl1.out (Kd.C_below HS1.out (BB.out.trans (SB.out.mono BB.out.size))) Hm1.out) (Nat.le_refl _) (by have := HLEN.out; simp only [flat2, List.length_append]; omega) (by simp)
      go_simp
      refine (CC).mono ?_
      rintro e w35 ⟨v0, rfl, hR, hB⟩
      replace T_s1 := bm hB T_s1; replace T_g8 := bm hB T_g8; replace SB := xm hB SB
      clear hB
      have hR' := Kd.R_lower hR SBo.out.size
      rw [flat2, PPE.out] at hR'
      obtain ⟨A36, c37, rfl⟩ := Kd.R_slice hR'
      have R_p := Aside0.mk hR'
      clear hR hR' SBo CC
      go_simp
      refine hK.out _ _ (MK.out _ SB.out) (fun hNew => ?_)
      clear hK K hNew
      exact ih _ _ _ _ (by decide) (.inr (.inr (.inr (.inr (.inr (.inr (.inr (.inr (.inr (.inl ⟨g6, A36, c37, g15, rfl, by kernel_rfl, by simp only [Act.put, List.getElem_toArray, List.getElem_cons_zero, List.getElem_cons_succ, List.setIfInBounds_toArray, List.set_cons_zero, List.set_cons_succ], SB, T_g8, GSB_g8, R_p⟩))))))))))
    · go_simp
      obtain ⟨g39, hg39⟩ : ∃ n, n = W.heap.size := ⟨_, rfl⟩
      obtain ⟨w38, hw38⟩ : ∃ x, x = W.alloc (.cells #[.slice A3 l3.length c3, .slice B3 m3.length d3] 24) := ⟨_, rfl⟩
      have tn := heap_alloc_new W (.cells #[.slice A3 l3.length c3, .slice B3 m3.length d3] 24)
      have hB := below_alloc (Below.refl W.heap.size W) (.cells #[.slice A3 l3.length c3, .slice B3 m3.length d3] 24)
      rw [← hw38] at tn hB
      rw [← hg39] at tn
      have GSB_s2 : Aside0 (w4.heap.size ≤ g39) := ⟨by rw [hg39]; exact SB.out.size⟩
      have NE_s2_s1 : Aside0 (g6 ≠ g39) := ⟨by have := blk_lt T_s1.out; omega⟩
      have NE_s2_g8 : Aside0 (g15 ≠ g39) := ⟨by have := blk_lt T_g8.out; omega⟩
      replace T_s1 := bm hB T_s1; replace T_g8 := bm hB T_g8; replace SB := xm hB SB
      have T_s2 := Aside0.mk tn
      clear tn hB
      rw [← hw38]
      try rw [← hg39]
      clear hw38 hg39
      refine hK.out _ _ (MK.out _ SB.out) (fun hNew => ?_)
      clear hK K hNew
      exact ih _ _ _ _ (by decide) (.inr (.inr (.inr (.inr (.inr (.inr (.inr (.inr (.inr (.inr (.inl ⟨g6, g39, g15, rfl, by kernel_rfl, by simp only [Act.put, List.getElem_toArray, List.getElem_cons_zero, List.getElem_cons_succ, List.setIfInBounds_toArray, List.set_cons_zero, List.set_cons_succ], SB, T_s1, T_s2, T_g8, GSB_g8⟩)))))))))))
  · obtain ⟨g12, g15, rfl, rfl, rfl, SB, T_s2, T_g8, GSB_g8⟩ := J
    simp only [Act.put, List.getElem_toArray, List.getElem_cons_zero, List.getElem_cons_succ, List.setIfInBounds_toArray, List.set_cons_zero, List.set_cons_succ]
    refine wpAnyH_ready (rs := [6]) (by kernel_rfl) (by simp) ?_
    refine (AllReadyH.cons rfl (fun K hK => ?_) AllReadyH.nil)
    go_simp
    obtain ⟨g41, hg41⟩ : ∃ n, n = W.heap.size := ⟨_, rfl⟩
    obtain ⟨w40, hw40⟩ : ∃ x, x = W.alloc (.cells #[.slice A1 l1.length c1, .slice B1 m1.length d1] 22) := ⟨_, rfl⟩
    have tn := heap_alloc_new W (.cells #[.slice A1 l1.length c1, .slice B1 m1.length d1] 22)
    have hB := below_alloc (Below.refl W.heap.size W) (.cells #[.slice A1 l1.length c1, .slice B1 m1.length d1] 22)
    rw [← hw40] at tn hB
    rw [← hg41] at tn
    have GSB_s1 : Aside0 (w4.heap.size ≤ g41) := ⟨by rw [hg41]; exact SB.out.size⟩
    have NE_s1_s2 : Aside0 (g12 ≠ g41) := ⟨by have := blk_lt T_s2.out; omega⟩
    have NE_s1_g8 : Aside0 (g15 ≠ g41) := ⟨by have := blk_lt T_g8.out; omega⟩
    replace T_s2 := bm hB T_s2; replace T_g8 := bm hB T_g8; replace SB := xm hB SB
    have T_s1 := Aside0.mk tn
    clear tn hB
    rw [← hw40]
    try rw [← hg41]
    clear hw40 hg41
    refine hK.out _ _ (MK.out _ SB.out) (fun hNew => ?_)
    clear hK K hNew
    exact ih _ _ _ _ (by decide) (.inr (.inr (.inr (.inr (.inr (.inr (.inr (.inr (.inr (.inr (.inl ⟨g41, g12, g15, rfl, by kernel_rfl, by simp only [Act.put, List.getElem_toArray, List.getElem_cons_zero, List.getElem_cons_succ, List.setIfInBounds_toArray, List.set_cons_zero, List.set_cons_succ], SB, T_s1, T_s2, T_g8, GSB_g8⟩)))))))))))
  · obtain ⟨g6, A7_, c7_, g12, rfl, rfl, rfl, SB, T_s2, R_p⟩ := J
    simp only [Act.put, List.getElem_toArray, List.getElem_cons_zero, List.getElem_cons_succ, List.setIfInBounds_toArray, List.set_cons_zero, List.set_cons_succ]
    refine wpAnyH_ready (rs := [13, 15]) (by kernel_rfl) (by simp) ?_
    refine (AllReadyH.cons rfl (fun K hK => ?_) (AllReadyH.cons rfl (fun K hK => ?_) AllReadyH.nil))
    · have SBo := SB
      have CC := concat_i (some ⟨g12, 0, none⟩) 2 [l3, m3] W (rows2 T_s2.out (Kd.C_below HR3.out (BB.out.trans (SB.out.mono BB.out.size))) Hl3.out (Kd.C_below HS3.out (BB.out.trans (SB.out.mono BB.out.size))) Hm3.out) (Nat.le_refl _) (by have := HLEN.out; simp only [flat2, List.length_append]; omega) (by simp)
      go_simp
      refine (CC).mono ?_
      rintro e w42 ⟨v0, rfl, hR, hB⟩
      replace T_s2 := bm hB T_s2; replace R_p := rm hB R_p; replace SB := xm hB SB
      clear hB
      have hR' := Kd.R_lower hR SBo.out.size
      rw [flat2, DDE.out] at hR'
      obtain ⟨A43, c44, rfl⟩ := Kd.R_slice hR'
      have R_d := Aside0.mk hR'
      clear hR hR' SBo CC
      go_simp
      refine hK.out _ _ (MK.out _ SB.out) (fun hNew => ?_)
      clear hK K hNew
      have hHeld := MK.out _ SB.out
      refine sp_take 14 hHeld ?_
      clear hHeld
      exact ih _ _ _ _ (by decide) (.inr (.inr (.inr (.inr (.inr (.inr (.inr (.inr (.inr (.inr (.inr (.inl ⟨g6, A7_, c7_, g12, A43, c44, rfl, by kernel_rfl, by simp only [Act.put, List.getElem_toArray, List.getElem_cons_zero, List.getElem_cons_succ, List.setIfInBounds_toArray, List.set_cons_zero, List.set_cons_succ], SB, R_p, R_d⟩))))))))))))
    · go_simp
      obtain ⟨g46, hg46⟩ : ∃ n, n = W.heap.size := ⟨_, rfl⟩
      obtain ⟨w45, hw45⟩ : ∃ x, x = W.alloc (.cells #[.bool false, .slice none 0 0, .slice none 0 0, .slice none 0 0] 31) := ⟨_, rfl⟩
      have tn := heap_alloc_new W (.cells #[.bool false, .slice none 0 0, .slice none 0 0, .slice none 0 0] 31)
      have hB := below_alloc (Below.refl W.heap.size W) (.cells #[.bool false, .slice none 0 0, .slice none 0 0, .slice none 0 0] 31)
      rw [← hw45] at tn hB
      rw [← hg46] at tn
      have GSB_g8 : Aside0 (w4.heap.size ≤ g46) := ⟨by rw [hg46]; exact SB.out.size⟩
      have NE_g8_s2 : Aside0 (g12 ≠ g46) := ⟨by have := blk_lt T_s2.out; omega⟩
      replace T_s2 := bm hB T_s2; replace R_p := rm hB R_p; replace SB := xm hB SB
      have T_g8 := Aside0.mk tn
      clear tn hB
      rw [← hw45]
      try rw [← hg46]
      clear hw45 hg46
      refine hK.out _ _ (MK.out _ SB.out) (fun hNew => ?_)
      clear hK K hNew
      exact ih _ _ _ _ (by decide) (.inr (.inr (.inr (.inr (.inr (.inr (.inr (.inr (.inr (.inr (.inr (.inr (.inl ⟨g6, A7_, c7_, g12, g46, rfl, by kernel_rfl, by simp only [Act.put, List.getElem_toArray, List.getElem_cons_zero, List.getElem_cons_succ, List.setIfInBounds_toArray, List.set_cons_zero, List.set_cons_succ], SB, T_s2, T_g8, GSB_g8, R_p⟩)))))))))))))
  · obtain ⟨g6, A7_, c7_, g15, rfl, rfl, rfl, SB, T_g8, GSB_g8, R_p⟩ := J
    simp only [Act.put, List.getElem_toArray, List.getElem_cons_zero, List.getElem_cons_succ, List.setIfInBounds_toArray, List.set_cons_zero, List.set_cons_succ]
    refine wpAnyH_ready (rs := [12]) (by kernel_rfl) (by simp) ?_
    refine (AllReadyH.cons rfl (fun K hK => ?_) AllReadyH.nil)
    go_simp
    obtain ⟨g48, hg48⟩ : ∃ n, n = W.heap.size := ⟨_, rfl⟩
    obtain ⟨w47, hw47⟩ : ∃ x, x = W.alloc (.cells #[.slice A3 l3.length c3, .slice B3 m3.length d3] 24) := ⟨_, rfl⟩
    have tn := heap_alloc_new W (.cells #[.slice A3 l3.length c3, .slice B3 m3.length d3] 24)
    have hB := below_alloc (Below.refl W.heap.size W) (.cells #[.slice A3 l3.length c3, .slice B3 m3.length d3] 24)
    rw [← hw47] at tn hB
    rw [← hg48] at tn
    have GSB_s2 : Aside0 (w4.heap.size ≤ g48) := ⟨by rw [hg48]; exact SB.out.size⟩
    have NE_s2_g8 : Aside0 (g15 ≠ g48) := ⟨by have := blk_lt T_g8.out; omega⟩
    replace T_g8 := bm hB T_g8; replace R_p := rm hB R_p; replace SB := xm hB SB
    have T_s2 := Aside0.mk tn
    clear tn hB
    rw [← hw47]
    try rw [← hg48]
    clear hw47 hg48
    refine hK.out _ _ (MK.out _ SB.out) (fun hNew => ?_)
    clear hK K hNew
    exact ih _ _ _ _ (by decide) (.inr (.inr (.inr (.inr (.inr (.inr (.inr (.inr (.inr (.inr (.inr (.inr (.inl ⟨g6, A7_, c7_, g48, g15, rfl, by kernel_rfl, by simp only [Act.put, List.getElem_toArray, List.getElem_cons_zero, List.getElem_cons_succ, List.setIfInBounds_toArray, List.set_cons_zero, List.set_cons_succ], SB, T_s2, T_g8, GSB_g8, R_p⟩)))))))))))))
  · obtain ⟨g6, g12, g15, rfl, rfl, rfl, SB, T_s1, T_s2, T_g8, GSB_g8⟩ := J
    simp only [Act.put, List.getElem_toArray, List.getElem_cons_zero, List.getElem_cons_succ, List.setIfInBounds_toArray, List.set_cons_zero, List.set_cons_succ]
    refine wpAnyH_ready (rs := [7]) (by kernel_rfl) (by simp) ?_
    refine (AllReadyH.cons rfl (fun K hK => ?_) AllReadyH.nil)
    have SBo := SB
    have CC := concat_p (some ⟨g6, 0, none⟩) 2 [l1, m1] W (rows2 T_s1.out (Kd.C_below HR1.out (BB.out.trans (SB.out.mono BB.out.size))) Hl1.out (Kd.C_below HS1.out (BB.out.trans (SB.out.mono BB.out.size))) Hm1.out) (Nat.le_refl _) (by have := HLEN.out; simp only [flat2, List.length_append]; omega) (by simp)
    go_simp
    refine (CC).mono ?_
    rintro e w49 ⟨v0, rfl, hR, hB⟩
    replace T_s1 := bm hB T_s1; replace T_s2 := bm hB T_s2; replace T_g8 := bm hB T_g8; replace SB := xm hB SB
    clear hB
    have hR' := Kd.R_lower hR SBo.out.size
    rw [flat2, PPE.out] at hR'
    obtain ⟨A50, c51, rfl⟩ := Kd.R_slice hR'
    have R_p := Aside0.mk hR'
    clear hR hR' SBo CC
    go_simp
    refine hK.out _ _ (MK.out _ SB.out) (fun hNew => ?_)
    clear hK K hNew
    exact ih _ _ _ _ (by decide) (.inr (.inr (.inr (.inr (.inr (.inr (.inr (.inr (.inr (.inr (.inr (.inr (.inl ⟨g6, A50, c51, g12, g15, rfl, by kernel_rfl, by simp only [Act.put, List.getElem_toArray, List.getElem_cons_zero, List.getElem_cons_succ, List.setIfInBounds_toArray, List.set_cons_zero, List.set_cons_succ], SB, T_s2, T_g8, GSB_g8, R_p⟩)))))))))))))
  · obtain ⟨g6, A7_, c7_, g12, A13_, c13_, rfl, rfl, rfl, SB, R_p, R_d⟩ := J
    simp only [Act.put, List.getElem_toArray, List.getElem_cons_zero, List.getElem_cons_succ, List.setIfInBounds_toArray, List.set_cons_zero, List.set_cons_succ]
    refine wpAnyH_ready (rs := [15]) (by kernel_rfl) (by simp) ?_
    refine (AllReadyH.cons rfl (fun K hK => ?_) AllReadyH.nil)
    go_simp
    obtain ⟨g53, hg53⟩ : ∃ n, n = W.heap.size := ⟨_, rfl⟩
    obtain ⟨w52, hw52⟩ : ∃ x, x = W.alloc (.cells #[.bool false, .slice none 0 0, .slice none 0 0, .slice none 0 0] 31) := ⟨_, rfl⟩
    have tn := heap_alloc_new W (.cells #[.bool false, .slice none 0 0, .slice none 0 0, .slice none 0 0] 31)
    have hB := below_alloc (Below.refl W.heap.size W) (.cells #[.bool false, .slice none 0 0, .slice none 0 0, .slice none 0 0] 31)
    rw [← hw52] at tn hB
    rw [← hg53] at tn
    have GSB_g8 : Aside0 (w4.heap.size ≤ g53) := ⟨by rw [hg53]; exact SB.out.size⟩
    replace R_p := rm hB R_p; replace R_d := rm hB R_d; replace SB := xm hB SB
    have T_g8 := Aside0.mk tn
    clear tn hB
    rw [← hw52]
    try rw [← hg53]
    clear hw52 hg53
    refine hK.out _ _ (MK.out _ SB.out) (fun hNew => ?_)
    clear hK K hNew
    exact ih _ _ _ _ (by decide) (.inr (.inr (.inr (.inr (.inr (.inr (.inr (.inr (.inr (.inr (.inr (.inr (.inr (⟨g6, A7_, c7_, g12, A13_, c13_, g53, rfl, by kernel_rfl, by simp only [Act.put, List.getElem_toArray, List.getElem_cons_zero, List.getElem_cons_succ, List.setIfInBounds_toArray, List.set_cons_zero, List.set_cons_succ], SB, T_g8, GSB_g8, R_p, R_d⟩))))))))))))))
  · obtain ⟨g6, A7_, c7_, g12, g15, rfl, rfl, rfl, SB, T_s2, T_g8, GSB_g8, R_p⟩ := J
    simp only [Act.put, List.getElem_toArray, List.getElem_cons_zero, List.getElem_cons_succ, List.setIfInBounds_toArray, List.set_cons_zero, List.set_cons_succ]
    refine wpAnyH_ready (rs := [13]) (by kernel_rfl) (by simp) ?_
    refine (AllReadyH.cons rfl (fun K hK => ?_) AllReadyH.nil)
    have SBo := SB
    have CC := concat_i (some ⟨g12, 0, none⟩) 2 [l3, m3] W (rows2 T_s2.out (Kd.C_below HR3.out (BB.out.trans (SB.out.mono BB.out.size))) Hl3.out (Kd.C_below HS3.out (BB.out.trans (SB.out.mono BB.out.size))) Hm3.out) (Nat.le_refl _) (by have := HLEN.out; simp only [flat2, List.length_append]; omega) (by simp)
    go_simp
    refine (CC).mono ?_
    rintro e w54 ⟨v0, rfl, hR, hB⟩
    replace T_s2 := bm hB T_s2; replace T_g8 := bm hB T_g8; replace R_p := rm hB R_p; replace SB := xm hB SB
    clear hB
    have hR' := Kd.R_lower hR SBo.out.size
    rw [flat2, DDE.out] at hR'
    obtain ⟨A55, c56, rfl⟩ := Kd.R_slice hR'
    have R_d := Aside0.mk hR'
    clear hR hR' SBo CC
    go_simp
    refine hK.out _ _ (MK.out _ SB.out) (fun hNew => ?_)
    clear hK K hNew
    have hHeld := MK.out _ SB.out
    refine sp_take 14 hHeld ?_
    clear hHeld
    exact ih _ _ _ _ (by decide) (.inr (.inr (.inr (.inr (.inr (.inr (.inr (.inr (.inr (.inr (.inr (.inr (.inr (⟨g6, A7_, c7_, g12, A55, c56, g15, rfl, by kernel_rfl, by simp only [Act.put, List.getElem_toArray, List.getElem_cons_zero, List.getElem_cons_succ, List.setIfInBounds_toArray, List.set_cons_zero, List.set_cons_succ], SB, T_g8, GSB_g8, R_p, R_d⟩))))))))))))))
  · obtain ⟨g6, A7_, c7_, g12, A13_, c13_, g15, rfl, rfl, rfl, SB, T_g8, GSB_g8, R_p, R_d⟩ := J
    simp only [Act.put, List.getElem_toArray, List.getElem_cons_zero, List.getElem_cons_succ, List.setIfInBounds_toArray, List.set_cons_zero, List.set_cons_succ]
    clear ih
    have GBB_g8 : Aside0 (w.heap.size ≤ g15) := ⟨Nat.le_trans BB.out.size GSB_g8.out⟩
    have NE_g8_n : Aside0 (w.heap.size ≠ g15) := ⟨by have := blk_lt T_n.out; have := GSB_g8.out; omega⟩
    have NE_g8_m : Aside0 ((w.heap.size + 1) ≠ g15) := ⟨by have := blk_lt T_m.out; have := GSB_g8.out; omega⟩
    have NE_g8_r : Aside0 ((w.heap.size + 2) ≠ g15) := ⟨by have := blk_lt T_r.out; have := GSB_g8.out; omega⟩
    replace R_p := Aside0.mk (Kd.R_lower R_p.out BB.out.size)
    replace R_d := Aside0.mk (Kd.R_lower R_d.out BB.out.size)
    replace T_n := bm SB.out T_n; replace T_m := bm SB.out T_m; replace T_r := bm SB.out T_r; replace BB := xm SB.out BB
    have hHeld := MK.out _ SB.out
    refine wpAnyH_ready (rs := [16]) (by kernel_rfl) (by simp) ?_
    refine (AllReadyH.cons rfl (fun K hK => ?_) AllReadyH.nil)
    have c_g80 := bc T_g8 0 rfl; have f_g80 := bf T_g8 0; have c_g81 := bc T_g8 1 rfl; have f_g81 := bf T_g8 1; have c_g82 := bc T_g8 2 rfl; have f_g82 := bf T_g8 2; have c_g83 := bc T_g8 3 rfl; have f_g83 := bf T_g8 3
    go_simp
    clear c_g80 f_g80 c_g81 f_g81 c_g82 f_g82 c_g83 f_g83
    have hg := nd_grown4 W (g15) (.bool a) (.slice A7_ PP.length c7_) (.slice none 0 0) (.slice A13_ DD.length c13_)
    have tn := nd_put4 W (g15) 31 _ _ _ _ (.bool a) (.slice A7_ PP.length c7_) (.slice none 0 0) (.slice A13_ DD.length c13_) T_g8.out
    obtain ⟨w57, hw57⟩ : ∃ x, x = ((((W.setCell ⟨g15, 0, none⟩ (.bool a)).setCell ⟨g15, 1, none⟩ (.slice A7_ PP.length c7_)).setCell ⟨g15, 2, none⟩ (.slice none 0 0)).setCell ⟨g15, 3, none⟩ (.slice A13_ DD.length c13_)) := ⟨_, rfl⟩
    rw [← hw57] at hg tn
    rw [← hw57]
    clear hw57
    replace R_p := rg hg T_g8 R_p (by decide)
    replace R_d := rg hg T_g8 R_d (by decide)
    replace T_n := bg hg T_n NE_g8_n.out
    replace T_m := bg hg T_m NE_g8_m.out
    replace T_r := bg hg T_r NE_g8_r.out
    replace BB := Aside0.mk (nd_grown_below hg BB.out BB.out.size GBB_g8.out)
    replace SB := Aside0.mk (nd_grown_below hg SB.out SB.out.size GSB_g8.out)
    replace T_g8 := Aside0.mk tn
    clear tn hg
    refine hK.out _ _ (MK.out _ SB.out) (fun hNew => ?_)
    clear hK K hHeld hNew
    refine wpAnyH_done (by kernel_rfl) ?_ _
    clear MK SB
    cases a
    · have NNE : Aside0 (l2 ++ ([k] ++ m2) = NN) := ⟨KNE.out⟩
      have c_n0 := bc T_n 0 rfl; have c_n1 := bc T_n 1 rfl; have c_n2 := bc T_n 2 rfl; have c_n3 := bc T_n 3 rfl
      have c_m0 := bc T_m 0 rfl; have c_m1 := bc T_m 1 rfl; have c_m2 := bc T_m 2 rfl; have c_m3 := bc T_m 3 rfl
      have c_g80 := bc T_g8 0 rfl; have f_g80 := bf T_g8 0; have c_g81 := bc T_g8 1 rfl; have f_g81 := bf T_g8 1; have c_g82 := bc T_g8 2 rfl; have f_g82 := bf T_g8 2; have c_g83 := bc T_g8 3 rfl; have f_g83 := bf T_g8 3
      have c_m2x : (w57.alloc (.cells #[.string k] 9)).cell? ⟨(w.heap.size + 1), 2, none⟩ = some (.slice B2 m2.length d2) := nd_cell (below_alloc (Below.refl _ _) _) c_m2
      go_wp2_with fail
      clear c_n0 c_n1 c_n2 c_n3 c_m0 c_m1 c_m2 c_m3
      clear c_g80 f_g80 c_g81 f_g81 c_g82 f_g82 c_g83 f_g83
      clear c_m2x
      obtain ⟨wq1, hwq1⟩ : ∃ x, x = w57.alloc (.cells #[.string k] 9) := ⟨_, rfl⟩
      have tn1 := heap_alloc_new w57 (.cells #[.string k] 9)
      have hB1 := below_alloc (Below.refl w57.heap.size w57) (.cells #[.string k] 9)
      have sz1 : wq1.heap.size = w57.heap.size + 1 := by rw [hwq1]; simp
      rw [← hwq1] at tn1 hB1 ⊢
      obtain ⟨wq2, hwq2⟩ : ∃ x, x = wq1.alloc (.cells #[.slice A2 l2.length c2, .slice (some ⟨w57.heap.size, 0, none⟩) 1 1, .slice B2 m2.length d2] 23) := ⟨_, rfl⟩
      have tn2 := heap_alloc_new wq1 (.cells #[.slice A2 l2.length c2, .slice (some ⟨w57.heap.size, 0, none⟩) 1 1, .slice B2 m2.length d2] 23)
      rw [sz1] at tn2
      have hB2 := below_alloc (Below.refl wq1.heap.size wq1) (.cells #[.slice A2 l2.length c2, .slice (some ⟨w57.heap.size, 0, none⟩) 1 1, .slice B2 m2.length d2] 23)
      rw [← hwq2] at tn2 hB2 ⊢
      have hB : Below w57.heap.size w57 wq2 := hB1.trans (hB2.mono hB1.size)
      have tn1' := (hB2.block _ (blk_lt tn1)).trans tn1
      replace T_n := bm hB T_n; replace T_m := bm hB T_m; replace T_r := bm hB T_r; replace T_g8 := bm hB T_g8; replace R_p := rm hB R_p; replace R_d := rm hB R_d; replace BB := xm hB BB
      have BBo := BB
      have CC := concat_s (some ⟨w57.heap.size + 1, 0, none⟩) 3 [l2, [k], m2] wq2 (rows3 (P := l2) (Q := [k]) (R := m2) tn2 (Kd.C_below HR2.out BB.out) Hl2.out (row1s tn1') (Nat.le_refl _) (Kd.C_below HS2.out BB.out) Hm2.out) (Nat.le_refl _) (by have := HLEN.out; simp only [flat3, List.length_append, List.length_singleton]; omega) (by simp)
      clear tn1 tn1' tn2 hB1 hB2 hB sz1 hwq1 hwq2
      refine (CC).mono ?_
      rintro e w58 ⟨v0, rfl, hR, hB⟩
      replace T_n := bm hB T_n; replace T_m := bm hB T_m; replace T_r := bm hB T_r; replace T_g8 := bm hB T_g8; replace R_p := rm hB R_p; replace R_d := rm hB R_d; replace BB := xm hB BB
      clear hB
      have hR' := Kd.R_lower hR BBo.out.size
      rw [flat3, NNE.out] at hR'
      obtain ⟨A59, c60, rfl⟩ := Kd.R_slice hR'
      have R_k := Aside0.mk hR'
      clear hR hR' BBo CC
      have c_g80 := bc T_g8 0 rfl; have f_g80 := bf T_g8 0; have c_g81 := bc T_g8 1 rfl; have f_g81 := bf T_g8 1; have c_g82 := bc T_g8 2 rfl; have f_g82 := bf T_g8 2; have c_g83 := bc T_g8 3 rfl; have f_g83 := bf T_g8 3
      go_upto_region 6 with fail
      clear c_g80 f_g80 c_g81 f_g81 c_g82 f_g82 c_g83 f_g83
      have hg : w58.grownBy (w58.setCell ⟨g15, 2, none⟩ (.slice A59 NN.length c60)) (some g15) := grown_setCells g15 [.slice A59 NN.length c60] 2 w58 w58 ⟨rfl, rfl, rfl, Nat.le_refl _, fun _ _ _ => rfl⟩
      have tn := heap_setCell_same w58 g15 2 _ 31 (.slice A59 NN.length c60) T_g8.out
      obtain ⟨w61, hw61⟩ : ∃ x, x = w58.setCell ⟨g15, 2, none⟩ (.slice A59 NN.length c60) := ⟨_, rfl⟩
      rw [← hw61] at hg tn
      rw [← hw61]
      clear hw61
      replace R_p := rg hg T_g8 R_p (by decide)
      replace R_d := rg hg T_g8 R_d (by decide)
      replace R_k := rg hg T_g8 R_k (by decide)
      replace T_n := bg hg T_n NE_g8_n.out
      replace T_m := bg hg T_m NE_g8_m.out
      replace T_r := bg hg T_r NE_g8_r.out
      replace BB := Aside0.mk (nd_grown_below hg BB.out BB.out.size GBB_g8.out)
      replace T_g8 := Aside0.mk (show w61.heap[g15]? = some (.cells #[.bool false, .slice A7_ PP.length c7_, .slice A59 NN.length c60, .slice A13_ DD.length c13_] 31 (0, 0)) from tn)
      clear tn hg
      have c_g80 := bc T_g8 0 rfl; have c_g81 := bc T_g8 1 rfl; have c_g82 := bc T_g8 2 rfl; have c_g83 := bc T_g8 3 rfl
      go_wp2_with fail
      have CC := node_Check.calls false A7_ c7_ PP A59 c60 NN A13_ c13_ DD v w61 (Kd.R_reads' R_p.out).2.2 (Kd.R_reads' R_p.out).2.1 (Kd.R_reads' R_k.out).2.2 (Kd.R_reads' R_k.out).2.1 (Kd.R_reads' R_d.out).2.2 (Kd.R_reads' R_d.out).2.1 HCV.out
      refine (CC).mono ?_
      rintro e w62 ⟨rfl, hB⟩
      replace T_n := bm hB T_n; replace T_m := bm hB T_m; replace T_r := bm hB T_r; replace T_g8 := bm hB T_g8; replace R_p := rm hB R_p; replace R_d := rm hB R_d; replace R_k := rm hB R_k; replace BB := xm hB BB
      clear hB
      clear c_g80 c_g81 c_g82 c_g83
      clear CC
      rcases HV.out with ⟨rfl, HE⟩ | ⟨rfl, HE⟩
      · have HE := Aside0.mk HE
        obtain ⟨rfl, rfl, rfl, rfl, rfl⟩ := HE.out
        have c_g80 := bc T_g8 0 rfl; have c_g81 := bc T_g8 1 rfl; have c_g82 := bc T_g8 2 rfl; have c_g83 := bc T_g8 3 rfl
        have c_r0 := bc T_r 0 rfl; have f_r0 := bf T_r 0; have c_r1 := bc T_r 1 rfl; have f_r1 := bf T_r 1; have c_r2 := bc T_r 2 rfl; have f_r2 := bf T_r 2; have c_r3 := bc T_r 3 rfl; have f_r3 := bf T_r 3
        go_wp2_with fail
        clear c_r0 f_r0 c_r1 f_r1 c_r2 f_r2 c_r3 f_r3
        have hg := nd_grown4 w62 (w.heap.size + 2) (.bool false) (.slice A7_ PP.length c7_) (.slice A59 NN.length c60) (.slice A13_ DD.length c13_)
        have tn := nd_put4 w62 (w.heap.size + 2) 31 _ _ _ _ (.bool false) (.slice A7_ PP.length c7_) (.slice A59 NN.length c60) (.slice A13_ DD.length c13_) T_r.out
        obtain ⟨w63, hw63⟩ : ∃ x, x = ((((w62.setCell ⟨(w.heap.size + 2), 0, none⟩ (.bool false)).setCell ⟨(w.heap.size + 2), 1, none⟩ (.slice A7_ PP.length c7_)).setCell ⟨(w.heap.size + 2), 2, none⟩ (.slice A59 NN.length c60)).setCell ⟨(w.heap.size + 2), 3, none⟩ (.slice A13_ DD.length c13_)) := ⟨_, rfl⟩
        rw [← hw63] at hg tn
        rw [← hw63]
        clear hw63
        replace R_p := rg hg T_r R_p (by decide)
        replace R_d := rg hg T_r R_d (by decide)
        replace R_k := rg hg T_r R_k (by decide)
        replace T_n := bg hg T_n (by omega)
        replace T_m := bg hg T_m (by omega)
        replace T_g8 := bg hg T_g8 (fun e => NE_g8_r.out e.symm)
        replace BB := Aside0.mk (nd_grown_below hg BB.out BB.out.size (by omega))
        replace T_r := Aside0.mk tn
        clear tn hg
        refine bodyPost_ret (results_ct rfl _ _ (w.heap.size + 2) 31 #[.bool false, .slice A7_ PP.length c7_, .slice A59 NN.length c60, .slice A13_ DD.length c13_] (0, 0) _ rfl T_r.out Try.underlying31 rfl (by kernel_rfl)) rfl ?_
        exact ⟨_, _, _, rfl, R_p.out, R_k.out, R_d.out, BB.out⟩
      · have HE := Aside0.mk HE
        obtain ⟨rfl, rfl, rfl, rfl, rfl⟩ := HE.out
        have c_r0 := bc T_r 0 rfl; have f_r0 := bf T_r 0; have c_r1 := bc T_r 1 rfl; have f_r1 := bf T_r 1; have c_r2 := bc T_r 2 rfl; have f_r2 := bf T_r 2; have c_r3 := bc T_r 3 rfl; have f_r3 := bf T_r 3
        go_wp2_with fail
        clear c_r0 f_r0 c_r1 f_r1 c_r2 f_r2 c_r3 f_r3
        have hg := nd_grown4 w62 (w.heap.size + 2) (.bool false) (.slice none 0 0) (.slice none 0 0) (.slice none 0 0)
        have tn := nd_put4 w62 (w.heap.size + 2) 31 _ _ _ _ (.bool false) (.slice none 0 0) (.slice none 0 0) (.slice none 0 0) T_r.out
        obtain ⟨w64, hw64⟩ : ∃ x, x = ((((w62.setCell ⟨(w.heap.size + 2), 0, none⟩ (.bool false)).setCell ⟨(w.heap.size + 2), 1, none⟩ (.slice none 0 0)).setCell ⟨(w.heap.size + 2), 2, none⟩ (.slice none 0 0)).setCell ⟨(w.heap.size + 2), 3, none⟩ (.slice none 0 0)) := ⟨_, rfl⟩
        rw [← hw64] at hg tn
        rw [← hw64]
        clear hw64
        replace R_p := rg hg T_r R_p (by decide)
        replace R_d := rg hg T_r R_d (by decide)
        replace R_k := rg hg T_r R_k (by decide)
        replace T_n := bg hg T_n (by omega)
        replace T_m := bg hg T_m (by omega)
        replace T_g8 := bg hg T_g8 (fun e => NE_g8_r.out e.symm)
        replace BB := Aside0.mk (nd_grown_below hg BB.out BB.out.size (by omega))
        replace T_r := Aside0.mk tn
        clear tn hg
        refine bodyPost_ret (results_ct rfl _ _ (w.heap.size + 2) 31 #[.bool false, .slice none 0 0, .slice none 0 0, .slice none 0 0] (0, 0) _ rfl T_r.out Try.underlying31 rfl (by kernel_rfl)) rfl ?_
        exact ⟨_, _, _, rfl, Kd.R_nil _ _ _ _ _, Kd.R_nil _ _ _ _ _, Kd.R_nil _ _ _ _ _, BB.out⟩
    · obtain rfl : ([] : List ByteArray) = NN := KNE.out
      have c_g80 := bc T_g8 0 rfl; have c_g81 := bc T_g8 1 rfl; have c_g82 := bc T_g8 2 rfl; have c_g83 := bc T_g8 3 rfl
      go_wp2_with fail
      have CC := node_Check.calls true A7_ c7_ PP none 0 ([] : List ByteArray) A13_ c13_ DD v w57 (Kd.R_reads' R_p.out).2.2 (Kd.R_reads' R_p.out).2.1 (Kd.C_nil _ _) (Nat.le_refl _) (Kd.R_reads' R_d.out).2.2 (Kd.R_reads' R_d.out).2.1 HCV.out
      refine (CC).mono ?_
      rintro e w65 ⟨rfl, hB⟩
      replace T_n := bm hB T_n; replace T_m := bm hB T_m; replace T_r := bm hB T_r; replace T_g8 := bm hB T_g8; replace R_p := rm hB R_p; replace R_d := rm hB R_d; replace BB := xm hB BB
      clear hB
      clear c_g80 c_g81 c_g82 c_g83
      clear CC
      rcases HV.out with ⟨rfl, HE⟩ | ⟨rfl, HE⟩
      · have HE := Aside0.mk HE
        obtain ⟨rfl, rfl, rfl, rfl, rfl⟩ := HE.out
        have c_g80 := bc T_g8 0 rfl; have c_g81 := bc T_g8 1 rfl; have c_g82 := bc T_g8 2 rfl; have c_g83 := bc T_g8 3 rfl
        have c_r0 := bc T_r 0 rfl; have f_r0 := bf T_r 0; have c_r1 := bc T_r 1 rfl; have f_r1 := bf T_r 1; have c_r2 := bc T_r 2 rfl; have f_r2 := bf T_r 2; have c_r3 := bc T_r 3 rfl; have f_r3 := bf T_r 3
        go_wp2_with fail
        clear c_r0 f_r0 c_r1 f_r1 c_r2 f_r2 c_r3 f_r3
        have hg := nd_grown4 w65 (w.heap.size + 2) (.bool true) (.slice A7_ PP.length c7_) (.slice none 0 0) (.slice A13_ DD.length c13_)
        have tn := nd_put4 w65 (w.heap.size + 2) 31 _ _ _ _ (.bool true) (.slice A7_ PP.length c7_) (.slice none 0 0) (.slice A13_ DD.length c13_) T_r.out
        obtain ⟨w66, hw66⟩ : ∃ x, x = ((((w65.setCell ⟨(w.heap.size + 2), 0, none⟩ (.bool true)).setCell ⟨(w.heap.size + 2), 1, none⟩ (.slice A7_ PP.length c7_)).setCell ⟨(w.heap.size + 2), 2, none⟩ (.slice none 0 0)).setCell ⟨(w.heap.size + 2), 3, none⟩ (.slice A13_ DD.length c13_)) := ⟨_, rfl⟩
        rw [← hw66] at hg tn
        rw [← hw66]
        clear hw66
        replace R_p := rg hg T_r R_p (by decide)
        replace R_d := rg hg T_r R_d (by decide)
        replace T_n := bg hg T_n (by omega)
        replace T_m := bg hg T_m (by omega)
        replace T_g8 := bg hg T_g8 (fun e => NE_g8_r.out e.symm)
        replace BB := Aside0.mk (nd_grown_below hg BB.out BB.out.size (by omega))
        replace T_r := Aside0.mk tn
        clear tn hg
        refine bodyPost_ret (results_ct rfl _ _ (w.heap.size + 2) 31 #[.bool true, .slice A7_ PP.length c7_, .slice none 0 0, .slice A13_ DD.length c13_] (0, 0) _ rfl T_r.out Try.underlying31 rfl (by kernel_rfl)) rfl ?_
        exact ⟨_, _, _, rfl, R_p.out, Kd.R_nil _ _ _ _ _, R_d.out, BB.out⟩
      · have HE := Aside0.mk HE
        obtain ⟨rfl, rfl, rfl, rfl, rfl⟩ := HE.out
        have c_r0 := bc T_r 0 rfl; have f_r0 := bf T_r 0; have c_r1 := bc T_r 1 rfl; have f_r1 := bf T_r 1; have c_r2 := bc T_r 2 rfl; have f_r2 := bf T_r 2; have c_r3 := bc T_r 3 rfl; have f_r3 := bf T_r 3
        go_wp2_with fail
        clear c_r0 f_r0 c_r1 f_r1 c_r2 f_r2 c_r3 f_r3
        have hg := nd_grown4 w65 (w.heap.size + 2) (.bool false) (.slice none 0 0) (.slice none 0 0) (.slice none 0 0)
        have tn := nd_put4 w65 (w.heap.size + 2) 31 _ _ _ _ (.bool false) (.slice none 0 0) (.slice none 0 0) (.slice none 0 0) T_r.out
        obtain ⟨w67, hw67⟩ : ∃ x, x = ((((w65.setCell ⟨(w.heap.size + 2), 0, none⟩ (.bool false)).setCell ⟨(w.heap.size + 2), 1, none⟩ (.slice none 0 0)).setCell ⟨(w.heap.size + 2), 2, none⟩ (.slice none 0 0)).setCell ⟨(w.heap.size + 2), 3, none⟩ (.slice none 0 0)) := ⟨_, rfl⟩
        rw [← hw67] at hg tn
        rw [← hw67]
        clear hw67
        replace R_p := rg hg T_r R_p (by decide)
        replace R_d := rg hg T_r R_d (by decide)
        replace T_n := bg hg T_n (by omega)
        replace T_m := bg hg T_m (by omega)
        replace T_g8 := bg hg T_g8 (fun e => NE_g8_r.out e.symm)
        replace BB := Aside0.mk (nd_grown_below hg BB.out BB.out.size (by omega))
        replace T_r := Aside0.mk tn
        clear tn hg
        refine bodyPost_ret (results_ct rfl _ _ (w.heap.size + 2) 31 #[.bool false, .slice none 0 0, .slice none 0 0, .slice none 0 0] (0, 0) _ rfl T_r.out Try.underlying31 rfl (by kernel_rfl)) rfl ?_
        exact ⟨_, _, _, rfl, Kd.R_nil _ _ _ _ _, Kd.R_nil _ _ _ _ _, Kd.R_nil _ _ _ _ _, BB.out⟩
def node_Merge.f (a : Bool) (l1 : List S48) (l2 : List ByteArray) (l3 : List Int) (k : ByteArray) (b : Bool) (m1 : List S48) (m2 : List ByteArray) (m3 : List Int) : Option MgR := some (mergeV a l1 l2 l3 k b m1 m2 m3)
theorem node_Merge.calls (a : Bool) (A1 : Option Addr) (c1 : Nat) (l1 : List S48) (A2 : Option Addr) (c2 : Nat) (l2 : List ByteArray) (A3 : Option Addr) (c3 : Nat) (l3 : List Int) (k : ByteArray) (b : Bool) (B1 : Option Addr) (d1 : Nat) (m1 : List S48) (B2 : Option Addr) (d2 : Nat) (m2 : List ByteArray) (B3 : Option Addr) (d3 : Nat) (m3 : List Int) (r1 : Bool) (r2 : List S48) (r3 : List ByteArray) (r4 : List Int) (re : Int) (w : World) (hr1 : Kd.C k48 w A1 l1.length l1) (hc1 : l1.length ≤ c1) (hr2 : Kd.C Kd.string w A2 l2.length l2) (hc2 : l2.length ≤ c2) (hr3 : Kd.C (Kd.int .i64) w A3 l3.length l3) (hc3 : l3.length ≤ c3) (hs1 : Kd.C k48 w B1 m1.length m1) (hd1 : m1.length ≤ d1) (hs2 : Kd.C Kd.string w B2 m2.length m2) (hd2 : m2.length ≤ d2) (hs3 : Kd.C (Kd.int .i64) w B3 m3.length m3) (hd3 : m3.length ≤ d3) (h : node_Merge.f a l1 l2 l3 k b m1 m2 m3 = some (r1, r2, r3, r4, re)) :
    Calls Try.prog 22 #[.agg #[.bool a, .slice A1 l1.length c1, .slice A2 l2.length c2, .slice A3 l3.length c3], .string k, .agg #[.bool b, .slice B1 m1.length d1, .slice B2 m2.length d2, .slice B3 m3.length d3]] w fun e w' => ∃ v1_ v2_ v3_ : Value, e = .returned (.tuple #[.agg #[.bool r1, v1_, v2_, v3_], .int .i64 re]) ∧ Kd.R k48 48 w' w.heap.size (fun _ => True) v1_ r2 ∧ Kd.R Kd.string 9 w' w.heap.size (fun _ => True) v2_ r3 ∧ Kd.R (Kd.int .i64) 3 w' w.heap.size (fun _ => True) v3_ r4 ∧ Below w.heap.size w w' := by
  replace h := Option.some.inj h
  unfold mergeV at h
  by_cases hfa : (leafV a l1 l2 l3 || innerV a l1 l2 l3) = true
  · by_cases hfb : (leafV b m1 m2 m3 || innerV b m1 m2 m3) = true
    · by_cases hab : a = b
      · subst hab
        cases hk : keyB k
        · rw [if_neg (fun x => by have := x.2.2.2.1; rw [hk] at this; cases this)] at h
          cases h
          exact merge_bad4 a A1 c1 l1 A2 c2 l2 A3 c3 l3 k B1 d1 m1 B2 d2 m2 B3 d3 m3 w hr1 hc1 hr2 hc2 hr3 hc3 hs1 hd1 hs2 hd2 hs3 hd3 hfa hfb hk
        · exact merge_ok a A1 c1 l1 A2 c2 l2 A3 c3 l3 k B1 d1 m1 B2 d2 m2 B3 d3 m3 r1 r2 r3 r4 re w hr1 hc1 hr2 hc2 hr3 hc3 hs1 hd1 hs2 hd2 hs3 hd3 hfa hfb hk (by
          by_cases hv : (leafV a (l1 ++ m1) (mergeN a l2 k m2) (l3 ++ m3) || innerV a (l1 ++ m1) (mergeN a l2 k m2) (l3 ++ m3)) = true
          · rw [if_pos hv]
            rw [if_pos ⟨hfa, hfb, rfl, hk, hv⟩] at h
            exact h
          · rw [if_neg hv]
            rw [if_neg (fun x => hv x.2.2.2.2)] at h
            exact h)
      · rw [if_neg (fun x => hab x.2.2.1)] at h
        cases h
        exact merge_bad3 a A1 c1 l1 A2 c2 l2 A3 c3 l3 k b B1 d1 m1 B2 d2 m2 B3 d3 m3 w hr1 hc1 hr2 hc2 hr3 hc3 hs1 hd1 hs2 hd2 hs3 hd3 hfa hfb hab
    · rw [if_neg (fun x => hfb x.2.1)] at h
      cases h
      exact merge_bad2 a A1 c1 l1 A2 c2 l2 A3 c3 l3 k b B1 d1 m1 B2 d2 m2 B3 d3 m3 w hr1 hc1 hr2 hc2 hr3 hc3 hs1 hd1 hs2 hd2 hs3 hd3 hfa hfb
  · rw [if_neg (fun x => hfa x.1)] at h
    cases h
    exact merge_bad1 a A1 c1 l1 A2 c2 l2 A3 c3 l3 k b B1 d1 m1 B2 d2 m2 B3 d3 m3 w hr1 hc1 hr2 hc2 hr3 hc3 hs1 hd1 hs2 hd2 hs3 hd3 hfa
end
end Go.Proofs.Ytjjfeoigjhbbpaa.PA
namespace Go.Proofs.Ytjjfeoigjhbbpaa.PA
section

open Go.RowKit Go.Proofs.YtjjfeoigjhbbpaaW.PrintWords Go.Proofs.YtjjfeoigjhbbpaaW.PrintLast Go.Proofs.YtjjfeoigjhbbpaaW.PrintMore
attribute [local go_sem] pr_leq pr_geq pr_gtr max2_int min2_int max_two min_two max_three min_three max_four min_four
set_option linter.unusedVariables false
set_option linter.unusedSimpArgs false
def kl (a b : ByteArray) : Prop := Op.bytesLess a.toList b.toList = true
instance (a b : ByteArray) : Decidable (kl a b) := inferInstanceAs (Decidable (_ = true))
end
end Go.Proofs.Ytjjfeoigjhbbpaa.PA
namespace Go.Proofs.Ytjjfeoigjhbbpaa.PA
section

open Go.RowKit Go.Proofs.YtjjfeoigjhbbpaaW.PrintWords Go.Proofs.YtjjfeoigjhbbpaaW.PrintLast Go.Proofs.YtjjfeoigjhbbpaaW.PrintMore
attribute [local go_sem] pr_leq pr_geq pr_gtr max2_int min2_int max_two min_two max_three min_three max_four min_four
set_option linter.unusedVariables false
set_option linter.unusedSimpArgs false
theorem rd48 {P : List S48} {i : Nat} (h : i < P.length) : rd_T48 P (i : Int) = P[i] := by unfold rd_T48; rw [Int.toNat_natCast, List.getD_eq_getElem?_getD, List.getElem?_eq_getElem h]; rfl
end
end Go.Proofs.Ytjjfeoigjhbbpaa.PA
namespace Go.Proofs.Ytjjfeoigjhbbpaa.PA
section

open Go.RowKit Go.Proofs.YtjjfeoigjhbbpaaW.PrintWords Go.Proofs.YtjjfeoigjhbbpaaW.PrintLast Go.Proofs.YtjjfeoigjhbbpaaW.PrintMore
attribute [local go_sem] pr_leq pr_geq pr_gtr max2_int min2_int max_two min_two max_three min_three max_four min_four
set_option linter.unusedVariables false
set_option linter.unusedSimpArgs false
def cisternlaw11_known.f  : Option (Bool) := (node_Encode.f true (([(⟨(⟨#[97]⟩ : ByteArray), (⟨#[49]⟩ : ByteArray)⟩ : S48)] : List (S48))) ([] : List ByteArray) ([] : List Int)).bind fun bt113 => (if bt113.2 = 0 then (some (bt113.1.toList == ([1, 1, 1, 97, 1, 49] : List UInt8))) else (some false))
set_option maxHeartbeats 8000000 in
set_option maxRecDepth 100000 in
theorem cisternlaw11_known.calls  (r : Bool) (w : World) (h : cisternlaw11_known.f  = some r) :
    Calls Try.prog 12 #[] w fun e w' => e = .returned (.bool r) ∧ Below w.heap.size w w' := by
  have hu48 := Try.underlying48
  have hu31 := Try.underlying31
  have HB := Aside0.mk (Below.refl w.heap.size w)
  have H : ((node_Encode.f true (([(⟨(⟨#[97]⟩ : ByteArray), (⟨#[49]⟩ : ByteArray)⟩ : S48)] : List (S48))) ([] : List ByteArray) ([] : List Int)).bind fun bt113 => (if bt113.2 = 0 then (some (bt113.1.toList == ([1, 1, 1, 97, 1, 49] : List UInt8))) else (some false))) = some r := h
  clear h
  obtain ⟨y110, hy110⟩ : ∃ y_ : List (S48), y_ = (([(⟨(⟨#[97]⟩ : ByteArray), (⟨#[49]⟩ : ByteArray)⟩ : S48)] : List (S48))) := ⟨_, rfl⟩
  replace H : ((node_Encode.f true y110 ([] : List ByteArray) ([] : List Int)).bind fun bt113 => (if bt113.2 = 0 then (some (bt113.1.toList == ([1, 1, 1, 97, 1, 49] : List UInt8))) else (some false))) = some r := by first | (rw [hy110]; with_reducible exact H) | (have H2_ := (Option.bind_some _ _).symm.trans H; rw [hy110]; with_reducible exact H2_) | (have H2_ := (Option.bind_some _ _).symm.trans H; with_reducible exact H2_) | with_reducible exact H | (rw [hy110]; exact H) | exact H
  have Ny110 := Aside0.mk hy110
  clear hy110
  replace H := Option.bind_eq_some_iff.mp H
  obtain ⟨⟨t113, t114⟩, A10, H⟩ := H
  replace H : (if t114 = 0 then (some (t113.toList == ([1, 1, 1, 97, 1, 49] : List UInt8))) else (some false)) = some r := H
  have A1 := Aside0.mk A10
  clear A10
  by_cases c2 : t114 = 0
  · rw [if_pos c2] at H
    have c2b0 : (t114 == 0) = true := beq_iff_eq.mpr c2
    have c2b1 : (t114 != 0) = false := bne_eq_false_iff_eq.mpr c2
    clear c2
    obtain rfl := Option.some.inj H
    go_enter Try.func12, Try.ntmps12
    go_wp2_with (first | ((with_reducible refine gate_dst (N := 5) rfl ?_); refine Kd.R_lit k48 _ 48 ?hg (N := 5) ?hd (xs := ([(⟨(⟨#[97]⟩ : ByteArray), (⟨#[49]⟩ : ByteArray)⟩ : S48)] : List (S48))) (inner := [.string (⟨#[97]⟩ : ByteArray), .string (⟨#[49]⟩ : ByteArray)]) (ok := fun _ => True) (okp := fun _ => True) ?hr ?hp (fun _ hk => hk) trivial (Below.refl _ _) (Nat.le_refl _) (by simp) ?_; (case hd => rfl); (case hg => rfl); (case hr => first | (go_simp; done) | (go_simp; rfl)); (case hp => exact (Reps.c2 (show Kd.M k48 _ _ _ (⟨(⟨#[97]⟩ : ByteArray), (⟨#[49]⟩ : ByteArray)⟩ : S48) [.string (⟨#[97]⟩ : ByteArray), .string (⟨#[49]⟩ : ByteArray)] from (k48_mkM _ _ _ (⟨(⟨#[97]⟩ : ByteArray), (⟨#[49]⟩ : ByteArray)⟩ : S48) )) (Reps.none _ _))); intro v111 w3 ho4 hb hg_ hnew_; clear hg_ hnew_; (first | rw [← Ny110.out] at ho4 | (simp only [Int.reduceToNat] at ho4; rw [← Ny110.out] at ho4)); have n0_ := Aside0.mk (Kd.R_lower ho4 (below_size (by repeat (first | (with_reducible first | exact HB.out | apply below_alloc | apply pw_below_drewN | apply below_drew1) | exact HB.out)))); have n1_ := Aside0.mk (below_step (by repeat (first | (with_reducible first | exact HB.out | apply below_alloc | apply pw_below_drewN | apply below_drew1) | exact HB.out)) hb); clear HB; have HO112 := n0_; have HB := n1_; clear n0_ n1_; clear hb ho4; obtain ⟨Ao5, co5, eo5⟩ := Kd.R_slice HO112.out; subst eo5) | ((with_reducible refine gate_callee (f := 13) rfl ?_); refine goesL_ (some 7) rfl rfl Try.func13 (by kernel_rfl) rfl #[.agg #[.bool true, .slice Ao5 y110.length co5, .slice none 0 0, .slice none 0 0]] rfl (by (try simp only [List.map_toArray, List.map_cons, List.map_nil]); first | done | rfl | (simp only [List.length_drop, List.length_take]; rfl)) ?_; (refine (node_Encode.calls true _ _ y110 _ _ ([] : List ByteArray) _ _ ([] : List Int) t113 t114 _ ?side1 ?side2 ?side3 ?side4 ?side5 ?side6 A1.out).mono ?_); (case side1 => repeat (first | exact (Kd.R_reads' HO112.out).2.2 | (with_reducible refine Kd.C_alloc ?_ _) | (with_reducible refine Kd.C_drewN ?_ _) | (with_reducible refine Kd.C_drew ?_))); (case side2 => exact (Kd.R_reads' HO112.out).2.1); (case side3 => exact Kd.C_nil _ _); (case side4 => exact Nat.le_refl _); (case side5 => exact Kd.C_nil _ _); (case side6 => exact Nat.le_refl _); rintro e w6 ⟨rfl, hb⟩; refine ⟨_, rfl, ?_⟩; have n0_ := Aside0.mk (Kd.R_below (by (with_reducible repeat (first | apply Kd.R_alloc | apply Kd.R_drewN | apply Kd.R_drew)); exact HO112.out) hb); have n1_ := Aside0.mk (below_step (by repeat (first | (with_reducible first | exact HB.out | apply below_alloc | apply pw_below_drewN | apply below_drew1) | exact HB.out)) hb); clear HO112; clear HB; have HO112 := n0_; have HB := n1_; clear n0_ n1_; (try clear hb); (try clear hb2); (try clear hk); (try clear hi)))
    go_ret
    exact ⟨by first | rfl | (simp [errW_none, errW_some] <;> rfl) | (simp [*, errW_none, errW_some] <;> rfl), by repeat (first | (with_reducible first | exact HB.out | apply below_alloc | apply pw_below_drewN | apply below_drew1) | exact HB.out)⟩
  · rw [if_neg c2] at H
    have c2b0 : (t114 == 0) = false := beq_eq_false_iff_ne.mpr c2
    have c2b1 : (t114 != 0) = true := bne_iff_ne.mpr c2
    obtain rfl := Option.some.inj H
    go_enter Try.func12, Try.ntmps12
    go_wp2_with (first | ((with_reducible refine gate_dst (N := 5) rfl ?_); refine Kd.R_lit k48 _ 48 ?hg (N := 5) ?hd (xs := ([(⟨(⟨#[97]⟩ : ByteArray), (⟨#[49]⟩ : ByteArray)⟩ : S48)] : List (S48))) (inner := [.string (⟨#[97]⟩ : ByteArray), .string (⟨#[49]⟩ : ByteArray)]) (ok := fun _ => True) (okp := fun _ => True) ?hr ?hp (fun _ hk => hk) trivial (Below.refl _ _) (Nat.le_refl _) (by simp) ?_; (case hd => rfl); (case hg => rfl); (case hr => first | (go_simp; done) | (go_simp; rfl)); (case hp => exact (Reps.c2 (show Kd.M k48 _ _ _ (⟨(⟨#[97]⟩ : ByteArray), (⟨#[49]⟩ : ByteArray)⟩ : S48) [.string (⟨#[97]⟩ : ByteArray), .string (⟨#[49]⟩ : ByteArray)] from (k48_mkM _ _ _ (⟨(⟨#[97]⟩ : ByteArray), (⟨#[49]⟩ : ByteArray)⟩ : S48) )) (Reps.none _ _))); intro v111 w7 ho8 hb hg_ hnew_; clear hg_ hnew_; (first | rw [← Ny110.out] at ho8 | (simp only [Int.reduceToNat] at ho8; rw [← Ny110.out] at ho8)); have n0_ := Aside0.mk (Kd.R_lower ho8 (below_size (by repeat (first | (with_reducible first | exact HB.out | apply below_alloc | apply pw_below_drewN | apply below_drew1) | exact HB.out)))); have n1_ := Aside0.mk (below_step (by repeat (first | (with_reducible first | exact HB.out | apply below_alloc | apply pw_below_drewN | apply below_drew1) | exact HB.out)) hb); clear HB; have HO112 := n0_; have HB := n1_; clear n0_ n1_; clear hb ho8; obtain ⟨Ao9, co9, eo9⟩ := Kd.R_slice HO112.out; subst eo9) | ((with_reducible refine gate_callee (f := 13) rfl ?_); refine goesL_ (some 7) rfl rfl Try.func13 (by kernel_rfl) rfl #[.agg #[.bool true, .slice Ao9 y110.length co9, .slice none 0 0, .slice none 0 0]] rfl (by (try simp only [List.map_toArray, List.map_cons, List.map_nil]); first | done | rfl | (simp only [List.length_drop, List.length_take]; rfl)) ?_; (refine (node_Encode.calls true _ _ y110 _ _ ([] : List ByteArray) _ _ ([] : List Int) t113 t114 _ ?side1 ?side2 ?side3 ?side4 ?side5 ?side6 A1.out).mono ?_); (case side1 => repeat (first | exact (Kd.R_reads' HO112.out).2.2 | (with_reducible refine Kd.C_alloc ?_ _) | (with_reducible refine Kd.C_drewN ?_ _) | (with_reducible refine Kd.C_drew ?_))); (case side2 => exact (Kd.R_reads' HO112.out).2.1); (case side3 => exact Kd.C_nil _ _); (case side4 => exact Nat.le_refl _); (case side5 => exact Kd.C_nil _ _); (case side6 => exact Nat.le_refl _); rintro e w10 ⟨rfl, hb⟩; refine ⟨_, rfl, ?_⟩; have n0_ := Aside0.mk (Kd.R_below (by (with_reducible repeat (first | apply Kd.R_alloc | apply Kd.R_drewN | apply Kd.R_drew)); exact HO112.out) hb); have n1_ := Aside0.mk (below_step (by repeat (first | (with_reducible first | exact HB.out | apply below_alloc | apply pw_below_drewN | apply below_drew1) | exact HB.out)) hb); clear HO112; clear HB; have HO112 := n0_; have HB := n1_; clear n0_ n1_; (try clear hb); (try clear hb2); (try clear hk); (try clear hi)))
    go_ret
    exact ⟨by first | rfl | (simp [errW_none, errW_some] <;> rfl) | (simp [*, errW_none, errW_some] <;> rfl), by repeat (first | (with_reducible first | exact HB.out | apply below_alloc | apply pw_below_drewN | apply below_drew1) | exact HB.out)⟩
end
end Go.Proofs.Ytjjfeoigjhbbpaa.PA
namespace Go.Proofs.Ytjjfeoigjhbbpaa.PA
section

open Go.RowKit Go.Proofs.YtjjfeoigjhbbpaaW.PrintWords Go.Proofs.YtjjfeoigjhbbpaaW.PrintLast Go.Proofs.YtjjfeoigjhbbpaaW.PrintMore
attribute [local go_sem] pr_leq pr_geq pr_gtr max2_int min2_int max_two min_two max_three min_three max_four min_four
set_option linter.unusedVariables false
set_option linter.unusedSimpArgs false
def cisternref11_Key.f (a0 : ByteArray) : Option (Bool) := if a0.toList = ([] : List UInt8) then (some false) else (some (decide ((a0.size : Int) ≤ 32)))
set_option maxHeartbeats 8000000 in
set_option maxRecDepth 100000 in
theorem cisternref11_Key.calls (a0 : ByteArray) (r : Bool) (w : World) (h : cisternref11_Key.f a0 = some r) :
    Calls Try.prog 29 #[.string a0] w fun e w' => e = .returned (.bool r) ∧ Drawn0 w w' := by
  have H : (if a0.toList = ([] : List UInt8) then (some false) else (some (decide ((a0.size : Int) ≤ 32)))) = some r := h
  clear h
  by_cases c2 : a0.toList = ([] : List UInt8)
  · rw [if_pos c2] at H
    have c2b0 : (a0.toList == ([] : List UInt8)) = true := beq_iff_eq.mpr c2
    have c2b1 : (a0.toList != ([] : List UInt8)) = false := bne_eq_false_iff_eq.mpr c2
    clear c2
    obtain rfl := Option.some.inj H
    go_enter Try.func29, Try.ntmps29
    go_wp2
    go_ret
    exact ⟨by first | rfl | (simp; done) | (simp [*]; done), by repeat (first | exact Drawn0.refl _ | apply Drawn0.step)⟩
  · rw [if_neg c2] at H
    have c2b0 : (a0.toList == ([] : List UInt8)) = false := beq_eq_false_iff_ne.mpr c2
    have c2b1 : (a0.toList != ([] : List UInt8)) = true := bne_iff_ne.mpr c2
    obtain rfl := Option.some.inj H
    go_enter Try.func29, Try.ntmps29
    go_wp2
    go_ret
    exact ⟨by first | rfl | (simp; done) | (simp [*]; done), by repeat (first | exact Drawn0.refl _ | apply Drawn0.step)⟩
end
end Go.Proofs.Ytjjfeoigjhbbpaa.PA
