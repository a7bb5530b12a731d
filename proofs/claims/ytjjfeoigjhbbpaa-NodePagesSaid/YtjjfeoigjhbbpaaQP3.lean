/- Texts of this claim: contracts of the functions that the statement reaches, and plain laws of what they compute. -/
import Derived.Test.YtjjfeoigjhbbpaaQP2
set_option linter.unusedVariables false
set_option linter.unusedSimpArgs false
namespace Go.Proofs.Ytjjfeoigjhbbpaa.PA
section

open Go.RowKit Go.Proofs.YtjjfeoigjhbbpaaW.PrintWords Go.Proofs.YtjjfeoigjhbbpaaW.PrintLast Go.Proofs.YtjjfeoigjhbbpaaW.PrintMore
attribute [local go_sem] pr_leq pr_geq pr_gtr max2_int min2_int max_two min_two max_three min_three max_four min_four
set_option linter.unusedVariables false
set_option linter.unusedSimpArgs false
def rdb (s : ByteArray) (b : Bool) : Nat × ByteArray × Bool := if s.size = 0 then (0, s, true) else ((bt (s.extract 0 1) 0).toNat, s.extract 1 s.size, b)
def zerosB (n : Nat) : ByteArray := ⟨(Lib.repeatL [0] n).toArray⟩
def rdt (s : ByteArray) (b : Bool) : ByteArray × ByteArray × Bool := if (rdb s b).2.1.size < (rdb s b).1 then (zerosB (rdb s b).1, (rdb s b).2.1, true) else ((rdb s b).2.1.extract 0 (rdb s b).1, (rdb s b).2.1.extract (rdb s b).1 (rdb s b).2.1.size, (rdb s b).2.2)
theorem rdb_le (s : ByteArray) (b : Bool) : (rdb s b).1 ≤ 255 := by
  unfold rdb
  split
  · exact Nat.zero_le _
  · have := bt_range (s.extract 0 1) 0
    show (bt (s.extract 0 1) 0).toNat ≤ 255
    omega
theorem byte_val (s : ByteArray) (b : Bool) : node_reader_byte.f s b = some (((rdb s b).1 : Int), (rdb s b).2.1, (rdb s b).2.2) := by
  unfold node_reader_byte.f node_reader_bytes.f rdb
  by_cases h : s.size = 0
  · have h1 : strings_Repeat.f ⟨#[0]⟩ 1 = some ⟨#[0]⟩ := by
      unfold strings_Repeat.f
      rw [if_pos ⟨by decide, by decide, by decide⟩]
      rfl
    have h2 : wrap64 (bt ⟨#[0]⟩ 0) = 0 := by
      have : bt ⟨#[0]⟩ 0 = 0 := rfl
      rw [this]
      unfold wrap64
      omega
    rw [if_pos h, if_pos (by omega), h1, Option.bind_some, Option.bind_some]
    show (if (0 : Int) < 1 then some (wrap64 (bt ⟨#[0]⟩ 0), s, true) else none) = _
    rw [if_pos (by decide), h2]
    rfl
  · have he : (s.extract 0 1).size = 1 := by simp; omega
    have hr := bt_range (s.extract 0 1) 0
    rw [if_neg h, if_neg (by omega), if_pos (by omega), if_pos (by omega), Option.bind_some]
    show (if (0 : Int) < ((s.extract 0 1).size : Int) then some (wrap64 (bt (s.extract 0 1) 0), s.extract 1 s.size, b) else none) = _
    rw [if_pos (by rw [he]; decide)]
    congr 2
    unfold wrap64
    omega
theorem text_val (s : ByteArray) (b : Bool) : node_reader_text.f s b = some (rdt s b) := by
  have hle := rdb_le s b
  unfold node_reader_text.f
  rw [byte_val, Option.bind_some]
  unfold node_reader_bytes.f rdt
  dsimp only
  by_cases h : (rdb s b).2.1.size < (rdb s b).1
  · rw [if_pos (by omega), if_pos h]
    have : strings_Repeat.f ⟨#[0]⟩ (((rdb s b).1 : Nat) : Int) = some (zerosB (rdb s b).1) := by
      unfold strings_Repeat.f
      rw [Int.toNat_natCast, if_pos ⟨by omega, by omega, by show 1 * _ ≤ _; omega⟩]
      rfl
    show ((strings_Repeat.f ⟨#[0]⟩ (((rdb s b).1 : Nat) : Int)).bind _).bind _ = _
    rw [this]
    rfl
  · rw [if_neg (by omega), if_pos (by omega), if_pos (by omega), if_neg h]
    rfl
/-- So many pairs, keys, kids, as far as the reader isn't bad. -/
def decP : Nat → ByteArray → Bool → List S48 → ByteArray × Bool × List S48
  | 0, s, b, l => (s, b, l)
  | n + 1, s, b, l => if b then (s, b, l) else decP n (rdt (rdt s b).2.1 (rdt s b).2.2).2.1 (rdt (rdt s b).2.1 (rdt s b).2.2).2.2 (l ++ [⟨(rdt s b).1, (rdt (rdt s b).2.1 (rdt s b).2.2).1⟩])
def decK : Nat → ByteArray → Bool → List ByteArray → ByteArray × Bool × List ByteArray
  | 0, s, b, l => (s, b, l)
  | n + 1, s, b, l => if b then (s, b, l) else decK n (rdt s b).2.1 (rdt s b).2.2 (l ++ [(rdt s b).1])
def decD : Nat → ByteArray → Bool → List Int → ByteArray × Bool × List Int
  | 0, s, b, l => (s, b, l)
  | n + 1, s, b, l => if b then (s, b, l) else decD n (rdb (rdb s b).2.1 (rdb s b).2.2).2.1 (rdb (rdb s b).2.1 (rdb s b).2.2).2.2 (l ++ [(((rdb s b).1 + 256 * (rdb (rdb s b).2.1 (rdb s b).2.2).1 : Nat) : Int)])
theorem dc_take {P : Program} {md : Region.Mode} {ops : Array Oper} {Q : Exit → Act → World → Prop} {S : World → Prop} {fuel : Nat} {listed : Array Bool} {a : Act} {w : World} (i : Nat) {oi : Oper} {v : Value} {a' : Act} (hS : S w)
    (h : wpAnyH P md ops Q S fuel (listed.setIfInBounds i true) a' w) (hi : ops[i]? = some oi := by rfl) (hs : Region.noSelect ops = true := by kernel_rfl) (hf : Region.free md ops listed i = true := by kernel_rfl) (hr : (Region.ready md ops listed).contains i = true := by kernel_rfl)
    (hQ : ∀ c a w, Q (.panic c) (a.put oi.dst v) w → Q (.panic c) a w := by exact fun _ _ _ h => h)
    (hy : YieldsIf P ops S oi v a := by exact Or.inl ⟨by rfl, by (intro w hSw; (try dsimp only at hSw); go_simp; try with_reducible rfl)⟩)
    (ha : a.put oi.dst v = a' := by (first | (simp only [Act.put, List.getElem_toArray, List.getElem_cons_zero, List.getElem_cons_succ, List.setIfInBounds_toArray, List.set_cons_zero, List.set_cons_succ]; done) | (simp only [Act.put, List.getElem_toArray, List.getElem_cons_zero, List.getElem_cons_succ, List.setIfInBounds_toArray, List.set_cons_zero, List.set_cons_succ]; rfl))) :
    wpAnyH P md ops Q S (fuel + 1) listed a w := by
  subst ha
  exact wpAnyH_take hi hs hf hr hQ hy hS h
theorem nd_keep {w w' : World} {g k T : Nat} {cs : Array Value} (hk : KeepBut w w' g none) (h : w.heap[k]? = some (.cells cs T (0, 0))) (hn : k ≠ g) : w'.heap[k]? = some (.cells cs T (0, 0)) := (hk.2 k (blk_lt h) hn (by simp)).trans h
def outL (s s3 : ByteArray) (b3 : Bool) (P : List S48) : Bool × List S48 × List ByteArray × List Int × Int := if b3 = false ∧ s3.toList = [] ∧ s.size ≤ 160 ∧ leafV true P [] [] = true then (true, P, [], [], 0) else (false, [], [], [], 2)
theorem one_row {w : World} {vb : Nat} {p : S48} (hv : w.heap[vb]? = some (.cells #[.string p.f0, .string p.f1] 48 (0, 0))) : ReadsRow (k48.K w) k48.sz w (some ⟨vb, 0, none⟩) 1 [p] := ⟨rfl, by decide, fun _ => ⟨_, rfl, fun j q hj => by
  cases j with
  | zero =>
    cases hj
    refine ⟨[.string p.f0, .string p.f1], rfl, ⟨[_], [_], rfl, rfl, rfl⟩, fun i u hu => ?_⟩
    rw [add_plain, blk_cell hv]
    match i, hu with
    | 0, hu => exact hu
    | 1, hu => exact hu
  | succ j => cases hj⟩⟩
set_option maxHeartbeats 4000000 in
set_option maxRecDepth 100000 in
theorem dec_leaf (s s1 s2 s3 : ByteArray) (b1 b2 b3 : Bool) (cn : Nat) (P : List S48) (w : World) (e1 : rdb s false = (1, s1, b1)) (e2 : rdb s1 b1 = (cn, s2, b2)) (e3 : decP cn s2 b2 [] = (s3, b3, P)) (r1 : Bool) (r2 : List (S48)) (r3 : List ByteArray) (r4 : List Int) (r5 : Int) (hr : (r1, r2, r3, r4, r5) = outL s s3 b3 P) : Calls Try.prog 25 #[.string s] w fun e w' => ∃ v1_ v2_ v3_ : Value, e = .returned (.tuple #[.agg #[.bool r1, v1_, v2_, v3_], .int .i64 r5]) ∧ Kd.R k48 48 w' w.heap.size (fun _ => True) v1_ r2 ∧ Kd.R Kd.string 9 w' w.heap.size (fun _ => True) v2_ r3 ∧ Kd.R (Kd.int .i64) 3 w' w.heap.size (fun _ => True) v3_ r4 ∧ Below w.heap.size w w' := by
  have HR0 := Aside0.mk hr
  clear hr
  have F1 : Aside0 (node_reader_byte.f s false = some ((1 : Int), s1, b1)) := ⟨by rw [byte_val, e1]; rfl⟩
  have F2 : Aside0 (node_reader_byte.f s1 b1 = some ((cn : Int), s2, b2)) := ⟨by rw [byte_val, e2]⟩
  have hcn : cn ≤ 255 := by have := rdb_le s1 b1; rw [e2] at this; exact this
  have E3 := Aside0.mk e3
  clear e1 e2 e3
  obtain ⟨wy, hwy⟩ : ∃ wy, wy = w.alloc (.cells #[.bool false, .slice none 0 0, .slice none 0 0, .slice none 0 0] 31) := ⟨_, rfl⟩
  obtain ⟨w0, hw0⟩ : ∃ w0, w0 = wy.alloc (.cells #[.string s, .bool false] 89) := ⟨_, rfl⟩
  have ny : wy.heap.size = w.heap.size + 1 := by rw [hwy]; simp
  have t0y := heap_alloc_new w (.cells #[.bool false, .slice none 0 0, .slice none 0 0, .slice none 0 0] 31)
  have bel := below_alloc (Below.refl w.heap.size w) (.cells #[.bool false, .slice none 0 0, .slice none 0 0, .slice none 0 0] 31)
  rw [← hwy] at t0y bel
  have TR := Aside0.mk ((Lib.alloc_old wy (.cells #[.string s, .bool false] 89) w.heap.size (blk_lt t0y)).trans t0y)
  have i0 := IsS89.new w wy s false bel
  rw [← hw0] at TR i0
  rw [ny] at i0
  have I0 := Aside0.mk i0
  have B0 : Aside0 (Below w.heap.size w w0) := ⟨by rw [hw0]; exact below_alloc bel _⟩
  have HW0 : Aside0 (w0 = (w.alloc (.cells #[.bool false, .slice none 0 0, .slice none 0 0, .slice none 0 0] 31)).alloc (.cells #[.string s, .bool false] 89)) := ⟨by rw [hw0, hwy]⟩
  clear hwy hw0 ny t0y bel i0
  go_enter Try.func25, Try.ntmps25
  go_wp2_with fail
  rw [← HW0.out]
  refine (node_reader_byte.calls (w.heap.size + 1) s false _ s1 b1 w w0 I0.out B0.out F1.out).mono ?_
  rintro e w1 ⟨rfl, hI, hB, hK⟩
  have I1 := Aside0.mk hI
  have B1 := Aside0.mk hB
  replace TR := Aside0.mk (nd_keep hK TR.out (by omega))
  clear hI hB hK I0 B0
  go_wp2_with fail
  refine (node_reader_byte.calls (w.heap.size + 1) s1 b1 _ s2 b2 w w1 I1.out B1.out F2.out).mono ?_
  rintro e w2 ⟨rfl, hI, hB, hK⟩
  have I2 := Aside0.mk hI
  have B2 := Aside0.mk hB
  replace TR := Aside0.mk (nd_keep hK TR.out (by omega))
  clear hI hB hK I1 B1

  have hB := below_alloc (Below.refl w2.heap.size w2) (.cells #[.bool true, .slice none 0 0, .slice none 0 0, .slice none 0 0] 31)
  have tn := heap_alloc_new w2 (.cells #[.bool true, .slice none 0 0, .slice none 0 0, .slice none 0 0] 31)
  obtain ⟨w3, hw3⟩ : ∃ x, x = w2.alloc (.cells #[.bool true, .slice none 0 0, .slice none 0 0, .slice none 0 0] 31) := ⟨_, rfl⟩
  have HW3 := Aside0.mk hw3
  rw [← hw3] at hB tn
  have TN0 := Aside0.mk tn
  have I3 := Aside0.mk (I2.out.below hB)
  have TR3 := Aside0.mk ((hB.block _ (blk_lt TR.out)).trans TR.out)
  have B3 := Aside0.mk (B2.out.trans (hB.mono B2.out.size))
  have NNE : Aside0 (w2.heap.size ≠ (w.heap.size + 1)) := ⟨by have := I2.out.lt; omega⟩
  have NNW : Aside0 (w.heap.size ≠ w2.heap.size) := ⟨by have := I2.out.lt; omega⟩
  have NNL : Aside0 (w.heap.size ≤ w2.heap.size) := ⟨B2.out.size⟩
  clear hw3 hB tn
  go_wp2_with fail
  rw [← HW3.out]
  clear TR I2
  go_loopw [8] (fun v8 W => ∃ (i : Nat) (sC : ByteArray) (bC : Bool) (l : List S48) (A : Option Addr) (c : Nat), i ≤ cn ∧ v8 = .int .i64 (i : Int) ∧ Aside0 (IsS89 w W (w.heap.size + 1) sC bC) ∧ Aside0 (W.heap[w.heap.size]? = some (.cells #[.bool false, .slice none 0 0, .slice none 0 0, .slice none 0 0] 31 (0, 0))) ∧ Aside0 (W.heap[w2.heap.size]? = some (.cells #[.bool true, .slice A l.length c, .slice none 0 0, .slice none 0 0] 31 (0, 0))) ∧ Aside0 (k48.R 48 W w.heap.size (fun _ => True) (.slice A l.length c) l) ∧ Aside0 (Below w.heap.size w W) ∧ Aside0 (decP (cn - i) sC bC l = (s3, b3, P)) ∧ l.length ≤ i) (fun v8 _ => (cn - intOf v8).toNat)
  case atStart => exact ⟨0, s2, b2, [], none, 0, by omega, rfl, I3, TR3, TN0, ⟨Kd.R_nil _ _ _ _ _⟩, B3, E3, by simp⟩
  case round =>
    obtain ⟨i, sC, bC, l, A, c, hi, rfl, I, TR, TNf, RR, BB, HD, hll⟩ := hrel
    have n0 : wr.cell? ⟨w2.heap.size, 0, none⟩ = some (.bool true) := blk_cell TNf.out 0
    have y1 : wr.cell? ⟨(w.heap.size + 1), 1, none⟩ = some (.bool bC) := blk_cell I.out.1 1
    by_cases h : i < cn
    · have d1 : decide (i < cn) = true := decide_eq_true h
      have d1' : decide ((i : Int) < (cn : Int)) = true := decide_eq_true (by omega)
      cases bC
      · obtain ⟨key, sK, bK, ek⟩ : ∃ x y z, rdt sC false = (x, y, z) := ⟨_, _, _, rfl⟩
        obtain ⟨val, sV, bV, ev⟩ : ∃ x y z, rdt sK bK = (x, y, z) := ⟨_, _, _, rfl⟩
        have T1 : Aside0 (node_reader_text.f sC false = some (key, sK, bK)) := ⟨by rw [text_val, ek]⟩
        have T2 : Aside0 (node_reader_text.f sK bK = some (val, sV, bV)) := ⟨by rw [text_val, ev]⟩
        have DS : Aside0 (decP (cn - i) sC false l = decP (cn - (i + 1)) sV bV (l ++ [(⟨key, val⟩ : S48)])) := ⟨by
          rw [show cn - i = (cn - (i + 1)) + 1 by omega, decP, if_neg (by decide), ek, ev]⟩
        clear ek ev
        go_wp2_with fail
        have TX := T1
        refine (node_reader_text.calls (w.heap.size + 1) sC false key sK bK w wr I.out BB.out TX.out).mono ?_
        rintro e w5 ⟨rfl, hI, hB, hK2⟩
        replace TR := Aside0.mk (nd_keep hK2 TR.out (by omega))
        replace TNf := Aside0.mk (nd_keep hK2 TNf.out NNE.out)
        replace RR := Aside0.mk (Kd.R_mono (Kd.R_step (I.out.apart RR.out (by decide)) (fun k hk hl => hK2.2 k hl hk.2 (by simp))) (fun _ _ => trivial))
        replace I := Aside0.mk hI
        replace BB := Aside0.mk hB
        clear hI hB hK2
        go_wp2_with fail
        clear TX
        have TX := T2
        refine wp_region_held_drew (S := fun _ => True) (by kernel_rfl) trivial (fun hHeld => ?_)
        have dB : Below w5.heap.size w5 w5.drew := below_drew1 (Below.refl _ _)
        obtain ⟨w6, hw6⟩ : ∃ x, x = w5.drew := ⟨_, rfl⟩
        rw [← hw6] at dB ⊢
        replace TR := Aside0.mk ((dB.block _ (blk_lt TR.out)).trans TR.out)
        replace TNf := Aside0.mk ((dB.block _ (blk_lt TNf.out)).trans TNf.out)
        replace RR := Aside0.mk (Kd.R_below RR.out dB)
        replace I := Aside0.mk (I.out.below dB)
        replace BB := Aside0.mk (BB.out.trans (dB.mono BB.out.size))
        clear dB hw6 hHeld
        refine dc_take 0 trivial ?_
        refine dc_take 2 trivial ?_
        refine dc_take 3 trivial ?_
        refine wpAnyH_ready (rs := [1, 4]) (by kernel_rfl) (by simp) ?_
        refine (AllReadyH.cons rfl (fun K hK => ?_) (AllReadyH.cons rfl (fun K hK => ?_) AllReadyH.nil))
        · have cN : w6.cell? ⟨w2.heap.size, 1, none⟩ = some (.slice A l.length c) := blk_cell TNf.out 1
          go_simp
          clear cN
          refine hK.out _ _ trivial (fun hNew => ?_)
          clear hK K hNew
          refine wpAnyH_ready (rs := [4]) (by kernel_rfl) (by simp) ?_
          refine (AllReadyH.cons rfl (fun K hK => ?_) AllReadyH.nil)
          go_simp
          refine (node_reader_text.calls (w.heap.size + 1) sK bK val sV bV w w6 I.out BB.out TX.out).mono ?_
          rintro e w7 ⟨rfl, hI, hB, hK2⟩
          replace TR := Aside0.mk (nd_keep hK2 TR.out (by omega))
          replace TNf := Aside0.mk (nd_keep hK2 TNf.out NNE.out)
          replace RR := Aside0.mk (Kd.R_mono (Kd.R_step (I.out.apart RR.out (by decide)) (fun k hk hl => hK2.2 k hl hk.2 (by simp))) (fun _ _ => trivial))
          replace I := Aside0.mk hI
          replace BB := Aside0.mk hB
          clear hI hB hK2
          go_simp
          refine hK.out _ _ trivial (fun hNew => ?_)
          clear hK K hNew
          refine dc_take 5 trivial ?_
          refine wpAnyH_ready (rs := [6]) (by kernel_rfl) (by simp) ?_
          refine (AllReadyH.cons rfl (fun K hK => ?_) AllReadyH.nil)
          have hB := below_alloc (Below.refl w7.heap.size w7) (.cells #[.string key, .string val] 48)
          have HVB := Aside0.mk (heap_alloc_new w7 (.cells #[.string key, .string val] 48))
          go_simp
          obtain ⟨vb, hvb⟩ : ∃ n, n = w7.heap.size := ⟨_, rfl⟩
          obtain ⟨w8, hwV⟩ : ∃ x, x = w7.alloc (.cells #[.string key, .string val] 48) := ⟨_, rfl⟩
          rw [← hwV] at HVB hB ⊢
          rw [← hvb] at HVB ⊢
          replace TR := Aside0.mk ((hB.block _ (blk_lt TR.out)).trans TR.out)
          replace TNf := Aside0.mk ((hB.block _ (blk_lt TNf.out)).trans TNf.out)
          replace RR := Aside0.mk (Kd.R_below RR.out hB)
          replace I := Aside0.mk (I.out.below hB)
          replace BB := Aside0.mk (BB.out.trans (hB.mono BB.out.size))
          clear hB hwV hvb
          refine hK.out _ _ trivial (fun hNew => ?_)
          clear hK K hNew
          refine wpAnyH_ready (rs := [7]) (by kernel_rfl) (by simp) ?_
          refine (AllReadyH.cons rfl (fun K hK => ?_) AllReadyH.nil)
          refine Kd.R_append_rows_step k48 (Rr := Kd.K k48 w8) (w0 := w) (W := w8) w.heap.size (by kernel_rfl) (.tmp 42) (.tmp 47) 22 48 (.agg #[(.string ⟨#[]⟩), (.string ⟨#[]⟩)]) 32 rfl Try.underlying22 (by kernel_rfl) rfl (by decide) (by decide) (.slice A l.length c) l [(⟨key, val⟩ : S48)] (some ⟨vb, 0, none⟩) 1 1 (fun _ => True) (fun _ => False) rfl rfl RR.out (one_row (p := (⟨key, val⟩ : S48)) HVB.out) (fun x cs hx => flat48 _ _ _ _ _ _ hx) (fun k hk => hk.elim) (fun _ _ => trivial) BB.out BB.out.size (by omega) ?_
          intro v1 wA hR hB hg _
          simp only [Act.put, List.getElem_toArray, List.getElem_cons_zero, List.getElem_cons_succ, List.setIfInBounds_toArray, List.set_cons_zero, List.set_cons_succ]
          obtain ⟨A', c', rfl⟩ := Kd.R_slice hR
          obtain ⟨lN, hlN⟩ : ∃ x, x = l ++ [(⟨key, val⟩ : S48)] := ⟨_, rfl⟩
          have hlenN : lN.length ≤ i + 1 := by rw [hlN, List.length_append]; simp; omega
          rw [← hlN] at hR ⊢
          have HLN := Aside0.mk hlN
          clear hlN
          have I' := I.out.grown hg (I.out.own_ne RR.out (by decide))
          have TR' := (hg.block _ (blk_lt TR.out) (Kd.R_ne RR.out TR.out (by decide))).trans TR.out
          have TN' := (hg.block _ (blk_lt TNf.out) (Kd.R_ne RR.out TNf.out (by decide))).trans TNf.out
          refine hK.out _ _ trivial (fun hNew => ?_)
          clear hK K hNew
          refine dc_take 8 trivial ?_
          have cN : wA.cell? ⟨w2.heap.size, 1, none⟩ = some (.slice A l.length c) := blk_cell TN' 1
          have fN : wA.frozen? ⟨w2.heap.size, 1, none⟩ = false := blk_frozen TN' 1
          refine wpAnyH_ready (rs := [9]) (by kernel_rfl) (by simp) ?_
          refine (AllReadyH.cons rfl (fun K hK => ?_) AllReadyH.nil)
          go_simp
          have TNn := Aside0.mk (heap_setCell_same wA w2.heap.size 1 _ 31 (.slice A' lN.length c') TN')
          have TRn := Aside0.mk ((Below.heap_setCell wA ⟨w2.heap.size, 1, none⟩ (.slice A' lN.length c') w.heap.size NNW.out).trans TR')
          have In := Aside0.mk (I'.far (p := ⟨w2.heap.size, 1, none⟩) (fun e => NNE.out e.symm) (.slice A' lN.length c'))
          have RRn := Aside0.mk (Kd.R_set hR TN' (by decide) 1 (.slice A' lN.length c'))
          have BBn := Aside0.mk (hB.setCell (p := ⟨w2.heap.size, 1, none⟩) NNL.out (.slice A' lN.length c'))
          clear hR hB hg I' TR' TN' cN fN I TR TNf RR BB HVB
          refine hK.out _ _ trivial (fun hNew => ?_)
          clear hK K hNew
          refine wpAnyH_done (by kernel_rfl) ?_ _
          go_wp2_with fail
          go_roundw
          case rel => exact ⟨i + 1, _, _, lN, A', c', by omega, by first | rfl | go_num, In, TRn, TNn, RRn, BBn, ⟨by rw [← HD.out, DS.out, HLN.out]⟩, hlenN⟩
          case measure => simp [intOf]; omega

        · go_simp
          refine (node_reader_text.calls (w.heap.size + 1) sK bK val sV bV w w6 I.out BB.out TX.out).mono ?_
          rintro e w7 ⟨rfl, hI, hB, hK2⟩
          replace TR := Aside0.mk (nd_keep hK2 TR.out (by omega))
          replace TNf := Aside0.mk (nd_keep hK2 TNf.out NNE.out)
          replace RR := Aside0.mk (Kd.R_mono (Kd.R_step (I.out.apart RR.out (by decide)) (fun k hk hl => hK2.2 k hl hk.2 (by simp))) (fun _ _ => trivial))
          replace I := Aside0.mk hI
          replace BB := Aside0.mk hB
          clear hI hB hK2
          go_simp
          refine hK.out _ _ trivial (fun hNew => ?_)
          clear hK K hNew
          refine dc_take 5 trivial ?_
          refine wpAnyH_ready (rs := [1, 6]) (by kernel_rfl) (by simp) ?_
          refine (AllReadyH.cons rfl (fun K hK => ?_) (AllReadyH.cons rfl (fun K hK => ?_) AllReadyH.nil))

          · have cN : w7.cell? ⟨w2.heap.size, 1, none⟩ = some (.slice A l.length c) := blk_cell TNf.out 1
            go_simp
            clear cN
            refine hK.out _ _ trivial (fun hNew => ?_)
            clear hK K hNew
            refine wpAnyH_ready (rs := [6]) (by kernel_rfl) (by simp) ?_
            refine (AllReadyH.cons rfl (fun K hK => ?_) AllReadyH.nil)
            have hB := below_alloc (Below.refl w7.heap.size w7) (.cells #[.string key, .string val] 48)
            have HVB := Aside0.mk (heap_alloc_new w7 (.cells #[.string key, .string val] 48))
            go_simp
            obtain ⟨vb, hvb⟩ : ∃ n, n = w7.heap.size := ⟨_, rfl⟩
            obtain ⟨w8, hwV⟩ : ∃ x, x = w7.alloc (.cells #[.string key, .string val] 48) := ⟨_, rfl⟩
            rw [← hwV] at HVB hB ⊢
            rw [← hvb] at HVB ⊢
            replace TR := Aside0.mk ((hB.block _ (blk_lt TR.out)).trans TR.out)
            replace TNf := Aside0.mk ((hB.block _ (blk_lt TNf.out)).trans TNf.out)
            replace RR := Aside0.mk (Kd.R_below RR.out hB)
            replace I := Aside0.mk (I.out.below hB)
            replace BB := Aside0.mk (BB.out.trans (hB.mono BB.out.size))
            clear hB hwV hvb
            refine hK.out _ _ trivial (fun hNew => ?_)
            clear hK K hNew
            refine wpAnyH_ready (rs := [7]) (by kernel_rfl) (by simp) ?_
            refine (AllReadyH.cons rfl (fun K hK => ?_) AllReadyH.nil)
            refine Kd.R_append_rows_step k48 (Rr := Kd.K k48 w8) (w0 := w) (W := w8) w.heap.size (by kernel_rfl) (.tmp 42) (.tmp 47) 22 48 (.agg #[(.string ⟨#[]⟩), (.string ⟨#[]⟩)]) 32 rfl Try.underlying22 (by kernel_rfl) rfl (by decide) (by decide) (.slice A l.length c) l [(⟨key, val⟩ : S48)] (some ⟨vb, 0, none⟩) 1 1 (fun _ => True) (fun _ => False) rfl rfl RR.out (one_row (p := (⟨key, val⟩ : S48)) HVB.out) (fun x cs hx => flat48 _ _ _ _ _ _ hx) (fun k hk => hk.elim) (fun _ _ => trivial) BB.out BB.out.size (by omega) ?_
            intro v1 wA hR hB hg _
            simp only [Act.put, List.getElem_toArray, List.getElem_cons_zero, List.getElem_cons_succ, List.setIfInBounds_toArray, List.set_cons_zero, List.set_cons_succ]
            obtain ⟨A', c', rfl⟩ := Kd.R_slice hR
            obtain ⟨lN, hlN⟩ : ∃ x, x = l ++ [(⟨key, val⟩ : S48)] := ⟨_, rfl⟩
            have hlenN : lN.length ≤ i + 1 := by rw [hlN, List.length_append]; simp; omega
            rw [← hlN] at hR ⊢
            have HLN := Aside0.mk hlN
            clear hlN
            have I' := I.out.grown hg (I.out.own_ne RR.out (by decide))
            have TR' := (hg.block _ (blk_lt TR.out) (Kd.R_ne RR.out TR.out (by decide))).trans TR.out
            have TN' := (hg.block _ (blk_lt TNf.out) (Kd.R_ne RR.out TNf.out (by decide))).trans TNf.out
            refine hK.out _ _ trivial (fun hNew => ?_)
            clear hK K hNew
            refine dc_take 8 trivial ?_
            have cN : wA.cell? ⟨w2.heap.size, 1, none⟩ = some (.slice A l.length c) := blk_cell TN' 1
            have fN : wA.frozen? ⟨w2.heap.size, 1, none⟩ = false := blk_frozen TN' 1
            refine wpAnyH_ready (rs := [9]) (by kernel_rfl) (by simp) ?_
            refine (AllReadyH.cons rfl (fun K hK => ?_) AllReadyH.nil)
            go_simp
            have TNn := Aside0.mk (heap_setCell_same wA w2.heap.size 1 _ 31 (.slice A' lN.length c') TN')
            have TRn := Aside0.mk ((Below.heap_setCell wA ⟨w2.heap.size, 1, none⟩ (.slice A' lN.length c') w.heap.size NNW.out).trans TR')
            have In := Aside0.mk (I'.far (p := ⟨w2.heap.size, 1, none⟩) (fun e => NNE.out e.symm) (.slice A' lN.length c'))
            have RRn := Aside0.mk (Kd.R_set hR TN' (by decide) 1 (.slice A' lN.length c'))
            have BBn := Aside0.mk (hB.setCell (p := ⟨w2.heap.size, 1, none⟩) NNL.out (.slice A' lN.length c'))
            clear hR hB hg I' TR' TN' cN fN I TR TNf RR BB HVB
            refine hK.out _ _ trivial (fun hNew => ?_)
            clear hK K hNew
            refine wpAnyH_done (by kernel_rfl) ?_ _
            go_wp2_with fail
            go_roundw
            case rel => exact ⟨i + 1, _, _, lN, A', c', by omega, by first | rfl | go_num, In, TRn, TNn, RRn, BBn, ⟨by rw [← HD.out, DS.out, HLN.out]⟩, hlenN⟩
            case measure => simp [intOf]; omega

          · have hB := below_alloc (Below.refl w7.heap.size w7) (.cells #[.string key, .string val] 48)
            have HVB := Aside0.mk (heap_alloc_new w7 (.cells #[.string key, .string val] 48))
            go_simp
            obtain ⟨vb, hvb⟩ : ∃ n, n = w7.heap.size := ⟨_, rfl⟩
            obtain ⟨w8, hwV⟩ : ∃ x, x = w7.alloc (.cells #[.string key, .string val] 48) := ⟨_, rfl⟩
            rw [← hwV] at HVB hB ⊢
            rw [← hvb] at HVB ⊢
            replace TR := Aside0.mk ((hB.block _ (blk_lt TR.out)).trans TR.out)
            replace TNf := Aside0.mk ((hB.block _ (blk_lt TNf.out)).trans TNf.out)
            replace RR := Aside0.mk (Kd.R_below RR.out hB)
            replace I := Aside0.mk (I.out.below hB)
            replace BB := Aside0.mk (BB.out.trans (hB.mono BB.out.size))
            clear hB hwV hvb
            refine hK.out _ _ trivial (fun hNew => ?_)
            clear hK K hNew
            refine wpAnyH_ready (rs := [1]) (by kernel_rfl) (by simp) ?_
            refine (AllReadyH.cons rfl (fun K hK => ?_) AllReadyH.nil)
            have cN : w8.cell? ⟨w2.heap.size, 1, none⟩ = some (.slice A l.length c) := blk_cell TNf.out 1
            go_simp
            clear cN
            refine hK.out _ _ trivial (fun hNew => ?_)
            clear hK K hNew
            refine wpAnyH_ready (rs := [7]) (by kernel_rfl) (by simp) ?_
            refine (AllReadyH.cons rfl (fun K hK => ?_) AllReadyH.nil)
            refine Kd.R_append_rows_step k48 (Rr := Kd.K k48 w8) (w0 := w) (W := w8) w.heap.size (by kernel_rfl) (.tmp 42) (.tmp 47) 22 48 (.agg #[(.string ⟨#[]⟩), (.string ⟨#[]⟩)]) 32 rfl Try.underlying22 (by kernel_rfl) rfl (by decide) (by decide) (.slice A l.length c) l [(⟨key, val⟩ : S48)] (some ⟨vb, 0, none⟩) 1 1 (fun _ => True) (fun _ => False) rfl rfl RR.out (one_row (p := (⟨key, val⟩ : S48)) HVB.out) (fun x cs hx => flat48 _ _ _ _ _ _ hx) (fun k hk => hk.elim) (fun _ _ => trivial) BB.out BB.out.size (by omega) ?_
            intro v1 wA hR hB hg _
            simp only [Act.put, List.getElem_toArray, List.getElem_cons_zero, List.getElem_cons_succ, List.setIfInBounds_toArray, List.set_cons_zero, List.set_cons_succ]
            obtain ⟨A', c', rfl⟩ := Kd.R_slice hR
            obtain ⟨lN, hlN⟩ : ∃ x, x = l ++ [(⟨key, val⟩ : S48)] := ⟨_, rfl⟩
            have hlenN : lN.length ≤ i + 1 := by rw [hlN, List.length_append]; simp; omega
            rw [← hlN] at hR ⊢
            have HLN := Aside0.mk hlN
            clear hlN
            have I' := I.out.grown hg (I.out.own_ne RR.out (by decide))
            have TR' := (hg.block _ (blk_lt TR.out) (Kd.R_ne RR.out TR.out (by decide))).trans TR.out
            have TN' := (hg.block _ (blk_lt TNf.out) (Kd.R_ne RR.out TNf.out (by decide))).trans TNf.out
            refine hK.out _ _ trivial (fun hNew => ?_)
            clear hK K hNew
            refine dc_take 8 trivial ?_
            have cN : wA.cell? ⟨w2.heap.size, 1, none⟩ = some (.slice A l.length c) := blk_cell TN' 1
            have fN : wA.frozen? ⟨w2.heap.size, 1, none⟩ = false := blk_frozen TN' 1
            refine wpAnyH_ready (rs := [9]) (by kernel_rfl) (by simp) ?_
            refine (AllReadyH.cons rfl (fun K hK => ?_) AllReadyH.nil)
            go_simp
            have TNn := Aside0.mk (heap_setCell_same wA w2.heap.size 1 _ 31 (.slice A' lN.length c') TN')
            have TRn := Aside0.mk ((Below.heap_setCell wA ⟨w2.heap.size, 1, none⟩ (.slice A' lN.length c') w.heap.size NNW.out).trans TR')
            have In := Aside0.mk (I'.far (p := ⟨w2.heap.size, 1, none⟩) (fun e => NNE.out e.symm) (.slice A' lN.length c'))
            have RRn := Aside0.mk (Kd.R_set hR TN' (by decide) 1 (.slice A' lN.length c'))
            have BBn := Aside0.mk (hB.setCell (p := ⟨w2.heap.size, 1, none⟩) NNL.out (.slice A' lN.length c'))
            clear hR hB hg I' TR' TN' cN fN I TR TNf RR BB HVB
            refine hK.out _ _ trivial (fun hNew => ?_)
            clear hK K hNew
            refine wpAnyH_done (by kernel_rfl) ?_ _
            go_wp2_with fail
            go_roundw
            case rel => exact ⟨i + 1, _, _, lN, A', c', by omega, by first | rfl | go_num, In, TRn, TNn, RRn, BBn, ⟨by rw [← HD.out, DS.out, HLN.out]⟩, hlenN⟩
            case measure => simp [intOf]; omega

      · have HEQ : Aside0 (sC = s3 ∧ true = b3 ∧ l = P) := ⟨by
          have := HD.out
          rw [show cn - i = (cn - (i + 1)) + 1 by omega, decP, if_pos rfl] at this
          simpa using this⟩
        have HRV : Aside0 ((r1, r2, r3, r4, r5) = outL s sC true l) := ⟨by rw [HEQ.out.1, HEQ.out.2.1, HEQ.out.2.2]; exact HR0.out⟩
        clear HD E3 HEQ HR0
        obtain ⟨q0, z0⟩ : ∃ q, decide ((0 : Int) < (cn : Int)) = q := ⟨_, rfl⟩
        have z0' : decide (0 < cn) = q0 := by rw [← z0]; simp
        obtain ⟨q1, z1⟩ : ∃ q, decide ((1 : Int) < (cn : Int)) = q := ⟨_, rfl⟩
        have z1' : decide (1 < cn) = q1 := by rw [← z1]; congr 1; apply propext; omega
        rcases q0 with _ | _ <;> rcases q1 with _ | _
        all_goals
          go_wp2_with fail
          obtain ⟨wE, hwE⟩ : ∃ x, x = wr := ⟨_, rfl⟩
          subst hwE
          go_loopw [10] (fun v W => v = .int .i64 0 ∧ W = wE) (fun _ _ => 0)
          case atStart => exact ⟨rfl, rfl⟩
          case round =>
            obtain ⟨rfl, hW⟩ := hrel
            subst hW
            go_wp2_with fail
            obtain ⟨wE, hwE⟩ : ∃ x, x = wr := ⟨_, rfl⟩
            subst hwE
            go_loopw [12] (fun v W => v = .int .i64 1 ∧ W = wE) (fun _ _ => 0)
            case atStart => exact ⟨rfl, rfl⟩
            case round =>
              obtain ⟨rfl, hW⟩ := hrel
              subst hW
              have y0 : wr.cell? ⟨(w.heap.size + 1), 0, none⟩ = some (.string sC) := blk_cell I.out.1 0
              have hv := HRV.out
              unfold outL at hv
              rw [if_neg (fun h => by cases h.1)] at hv
              cases hv
              have c0 : wr.cell? ⟨w.heap.size, 0, none⟩ = some (.bool false) := blk_cell TR.out 0
              have c1 : wr.cell? ⟨w.heap.size, 1, none⟩ = some (.slice none 0 0) := blk_cell TR.out 1
              have c2 : wr.cell? ⟨w.heap.size, 2, none⟩ = some (.slice none 0 0) := blk_cell TR.out 2
              have c3 : wr.cell? ⟨w.heap.size, 3, none⟩ = some (.slice none 0 0) := blk_cell TR.out 3
              have f0 : wr.frozen? ⟨w.heap.size, 0, none⟩ = false := blk_frozen TR.out 0
              have f1 : wr.frozen? ⟨w.heap.size, 1, none⟩ = false := blk_frozen TR.out 1
              have f2 : wr.frozen? ⟨w.heap.size, 2, none⟩ = false := blk_frozen TR.out 2
              have f3 : wr.frozen? ⟨w.heap.size, 3, none⟩ = false := blk_frozen TR.out 3
              go_wp2
              have hg4 := nd_grown4 wr w.heap.size (.bool false) (.slice none 0 0) (.slice none 0 0) (.slice none 0 0)
              refine bodyPost_ret (results_ct rfl _ _ w.heap.size 31 #[.bool false, .slice none 0 0, .slice none 0 0, .slice none 0 0] (0, 0) _ rfl (nd_put4 wr w.heap.size 31 _ _ _ _ (.bool false) (.slice none 0 0) (.slice none 0 0) (.slice none 0 0) TR.out) Try.underlying31 rfl (by kernel_rfl)) rfl ?_
              exact ⟨_, _, _, rfl, Kd.R_nil _ _ _ _ _, Kd.R_nil _ _ _ _ _, Kd.R_nil _ _ _ _ _, nd_grown_below hg4 BB.out BB.out.size (Nat.le_refl _)⟩

    · have d1 : decide (i < cn) = false := decide_eq_false h
      have d1' : decide ((i : Int) < (cn : Int)) = false := decide_eq_false (by omega)
      have HEQ : Aside0 (sC = s3 ∧ bC = b3 ∧ l = P) := ⟨by
        have := HD.out
        rw [show cn - i = 0 by omega, decP] at this
        simpa using this⟩
      have HRV : Aside0 ((r1, r2, r3, r4, r5) = outL s sC bC l) := ⟨by rw [HEQ.out.1, HEQ.out.2.1, HEQ.out.2.2]; exact HR0.out⟩
      clear HD E3 HEQ HR0
      obtain ⟨q0, z0⟩ : ∃ q, decide ((0 : Int) < (cn : Int)) = q := ⟨_, rfl⟩
      have z0' : decide (0 < cn) = q0 := by rw [← z0]; simp
      obtain ⟨q1, z1⟩ : ∃ q, decide ((1 : Int) < (cn : Int)) = q := ⟨_, rfl⟩
      have z1' : decide (1 < cn) = q1 := by rw [← z1]; congr 1; apply propext; omega
      rcases q0 with _ | _ <;> rcases q1 with _ | _
      all_goals
        go_wp2_with fail
        obtain ⟨wE, hwE⟩ : ∃ x, x = wr := ⟨_, rfl⟩
        subst hwE
        go_loopw [10] (fun v W => v = .int .i64 0 ∧ W = wE) (fun _ _ => 0)
        case atStart => exact ⟨rfl, rfl⟩
        case round =>
          obtain ⟨rfl, hW⟩ := hrel
          subst hW
          go_wp2_with fail
          obtain ⟨wE, hwE⟩ : ∃ x, x = wr := ⟨_, rfl⟩
          subst hwE
          go_loopw [12] (fun v W => v = .int .i64 1 ∧ W = wE) (fun _ _ => 0)
          case atStart => exact ⟨rfl, rfl⟩
          case round =>
            obtain ⟨rfl, hW⟩ := hrel
            subst hW
            have y0 : wr.cell? ⟨(w.heap.size + 1), 0, none⟩ = some (.string sC) := blk_cell I.out.1 0
            cases bC
            · by_cases hs : sC.toList = []
              · have g0 : (sC.toList == ([] : List UInt8)) = true := beq_iff_eq.2 hs
                have g0' : (sC.toList != ([] : List UInt8)) = false := by rw [hs]; rfl
                by_cases h160 : 160 < s.size
                · have g1 : decide ((160 : Int) < (s.size : Int)) = true := decide_eq_true (by omega)
                  have hv := HRV.out
                  unfold outL at hv
                  rw [if_neg (fun h => by have := h.2.2.1; omega)] at hv
                  cases hv
                  clear hs h160
                  have c0 : wr.cell? ⟨w.heap.size, 0, none⟩ = some (.bool false) := blk_cell TR.out 0
                  have c1 : wr.cell? ⟨w.heap.size, 1, none⟩ = some (.slice none 0 0) := blk_cell TR.out 1
                  have c2 : wr.cell? ⟨w.heap.size, 2, none⟩ = some (.slice none 0 0) := blk_cell TR.out 2
                  have c3 : wr.cell? ⟨w.heap.size, 3, none⟩ = some (.slice none 0 0) := blk_cell TR.out 3
                  have f0 : wr.frozen? ⟨w.heap.size, 0, none⟩ = false := blk_frozen TR.out 0
                  have f1 : wr.frozen? ⟨w.heap.size, 1, none⟩ = false := blk_frozen TR.out 1
                  have f2 : wr.frozen? ⟨w.heap.size, 2, none⟩ = false := blk_frozen TR.out 2
                  have f3 : wr.frozen? ⟨w.heap.size, 3, none⟩ = false := blk_frozen TR.out 3
                  go_wp2
                  have hg4 := nd_grown4 wr w.heap.size (.bool false) (.slice none 0 0) (.slice none 0 0) (.slice none 0 0)
                  refine bodyPost_ret (results_ct rfl _ _ w.heap.size 31 #[.bool false, .slice none 0 0, .slice none 0 0, .slice none 0 0] (0, 0) _ rfl (nd_put4 wr w.heap.size 31 _ _ _ _ (.bool false) (.slice none 0 0) (.slice none 0 0) (.slice none 0 0) TR.out) Try.underlying31 rfl (by kernel_rfl)) rfl ?_
                  exact ⟨_, _, _, rfl, Kd.R_nil _ _ _ _ _, Kd.R_nil _ _ _ _ _, Kd.R_nil _ _ _ _ _, nd_grown_below hg4 BB.out BB.out.size (Nat.le_refl _)⟩

                · have g1 : decide ((160 : Int) < (s.size : Int)) = false := decide_eq_false (by omega)
                  have n1 : wr.cell? ⟨w2.heap.size, 1, none⟩ = some (.slice A l.length c) := blk_cell TNf.out 1
                  have n2 : wr.cell? ⟨w2.heap.size, 2, none⟩ = some (.slice none 0 0) := blk_cell TNf.out 2
                  have n3 : wr.cell? ⟨w2.heap.size, 3, none⟩ = some (.slice none 0 0) := blk_cell TNf.out 3
                  by_cases hl : leafV true l [] [] = true
                  · have CK := Aside0.mk (node_Check.calls true A c l none 0 [] none 0 [] 0 wr (Kd.R_reads' RR.out).2.2 (Kd.R_reads' RR.out).2.1 ⟨rfl, by decide, fun h => absurd h (by decide)⟩ (Nat.le_refl _) ⟨rfl, by decide, fun h => absurd h (by decide)⟩ (Nat.le_refl _) (by rw [check_val, hl]; rfl))
                    have hv := HRV.out
                    unfold outL at hv
                    rw [if_pos ⟨rfl, hs, by omega, hl⟩] at hv
                    cases hv
                    clear h160 hl hs
                    go_wp2_with fail
                    refine CK.out.mono ?_
                    rintro e w9 ⟨rfl, hB⟩
                    replace TR := Aside0.mk ((hB.block _ (blk_lt TR.out)).trans TR.out)
                    replace TNf := Aside0.mk ((hB.block _ (blk_lt TNf.out)).trans TNf.out)
                    replace RR := Aside0.mk (Kd.R_below RR.out hB)
                    replace BB := Aside0.mk (BB.out.trans (hB.mono BB.out.size))
                    have x0 : w9.cell? ⟨w2.heap.size, 0, none⟩ = some (.bool true) := blk_cell TNf.out 0
                    have x1 : w9.cell? ⟨w2.heap.size, 1, none⟩ = some (.slice A r2.length c) := blk_cell TNf.out 1
                    have x2 : w9.cell? ⟨w2.heap.size, 2, none⟩ = some (.slice none 0 0) := blk_cell TNf.out 2
                    have x3 : w9.cell? ⟨w2.heap.size, 3, none⟩ = some (.slice none 0 0) := blk_cell TNf.out 3
                    clear hB n0 n1 n2 n3 y0 y1 I
                    have c0 : w9.cell? ⟨w.heap.size, 0, none⟩ = some (.bool false) := blk_cell TR.out 0
                    have c1 : w9.cell? ⟨w.heap.size, 1, none⟩ = some (.slice none 0 0) := blk_cell TR.out 1
                    have c2 : w9.cell? ⟨w.heap.size, 2, none⟩ = some (.slice none 0 0) := blk_cell TR.out 2
                    have c3 : w9.cell? ⟨w.heap.size, 3, none⟩ = some (.slice none 0 0) := blk_cell TR.out 3
                    have f0 : w9.frozen? ⟨w.heap.size, 0, none⟩ = false := blk_frozen TR.out 0
                    have f1 : w9.frozen? ⟨w.heap.size, 1, none⟩ = false := blk_frozen TR.out 1
                    have f2 : w9.frozen? ⟨w.heap.size, 2, none⟩ = false := blk_frozen TR.out 2
                    have f3 : w9.frozen? ⟨w.heap.size, 3, none⟩ = false := blk_frozen TR.out 3
                    go_wp2
                    have hg4 := nd_grown4 w9 w.heap.size (.bool true) (.slice A r2.length c) (.slice none 0 0) (.slice none 0 0)
                    refine bodyPost_ret (results_ct rfl _ _ w.heap.size 31 #[.bool true, .slice A r2.length c, .slice none 0 0, .slice none 0 0] (0, 0) _ rfl (nd_put4 w9 w.heap.size 31 _ _ _ _ (.bool true) (.slice A r2.length c) (.slice none 0 0) (.slice none 0 0) TR.out) Try.underlying31 rfl (by kernel_rfl)) rfl ?_
                    exact ⟨_, _, _, rfl, (Kd.R_mono (Kd.R_step (Kd.R_types RR.out TR.out (by decide)) (fun k hk hl => hg4.block k hl (fun e => hk.2 (Option.some.inj e)))) (fun _ _ => trivial)), Kd.R_nil _ _ _ _ _, Kd.R_nil _ _ _ _ _, nd_grown_below hg4 BB.out BB.out.size (Nat.le_refl _)⟩

                  · have CK := Aside0.mk (node_Check.calls true A c l none 0 [] none 0 [] 2 wr (Kd.R_reads' RR.out).2.2 (Kd.R_reads' RR.out).2.1 ⟨rfl, by decide, fun h => absurd h (by decide)⟩ (Nat.le_refl _) ⟨rfl, by decide, fun h => absurd h (by decide)⟩ (Nat.le_refl _) (by rw [check_val]; rw [Bool.not_eq_true] at hl; rw [hl]; rfl))
                    have hv := HRV.out
                    unfold outL at hv
                    rw [if_neg (fun h => hl h.2.2.2)] at hv
                    cases hv
                    clear h160 hl hs
                    go_wp2_with fail
                    refine CK.out.mono ?_
                    rintro e w9 ⟨rfl, hB⟩
                    replace TR := Aside0.mk ((hB.block _ (blk_lt TR.out)).trans TR.out)
                    replace BB := Aside0.mk (BB.out.trans (hB.mono BB.out.size))
                    clear hB n0 n1 n2 n3 y0 y1 I
                    have c0 : w9.cell? ⟨w.heap.size, 0, none⟩ = some (.bool false) := blk_cell TR.out 0
                    have c1 : w9.cell? ⟨w.heap.size, 1, none⟩ = some (.slice none 0 0) := blk_cell TR.out 1
                    have c2 : w9.cell? ⟨w.heap.size, 2, none⟩ = some (.slice none 0 0) := blk_cell TR.out 2
                    have c3 : w9.cell? ⟨w.heap.size, 3, none⟩ = some (.slice none 0 0) := blk_cell TR.out 3
                    have f0 : w9.frozen? ⟨w.heap.size, 0, none⟩ = false := blk_frozen TR.out 0
                    have f1 : w9.frozen? ⟨w.heap.size, 1, none⟩ = false := blk_frozen TR.out 1
                    have f2 : w9.frozen? ⟨w.heap.size, 2, none⟩ = false := blk_frozen TR.out 2
                    have f3 : w9.frozen? ⟨w.heap.size, 3, none⟩ = false := blk_frozen TR.out 3
                    go_wp2
                    have hg4 := nd_grown4 w9 w.heap.size (.bool false) (.slice none 0 0) (.slice none 0 0) (.slice none 0 0)
                    refine bodyPost_ret (results_ct rfl _ _ w.heap.size 31 #[.bool false, .slice none 0 0, .slice none 0 0, .slice none 0 0] (0, 0) _ rfl (nd_put4 w9 w.heap.size 31 _ _ _ _ (.bool false) (.slice none 0 0) (.slice none 0 0) (.slice none 0 0) TR.out) Try.underlying31 rfl (by kernel_rfl)) rfl ?_
                    exact ⟨_, _, _, rfl, Kd.R_nil _ _ _ _ _, Kd.R_nil _ _ _ _ _, Kd.R_nil _ _ _ _ _, nd_grown_below hg4 BB.out BB.out.size (Nat.le_refl _)⟩

              · have g0 : (sC.toList == ([] : List UInt8)) = false := beq_eq_false_iff_ne.2 hs
                have g0' : (sC.toList != ([] : List UInt8)) = true := bne_iff_ne.2 hs
                have hv := HRV.out
                unfold outL at hv
                rw [if_neg (fun h => hs h.2.1)] at hv
                cases hv
                clear hs
                have c0 : wr.cell? ⟨w.heap.size, 0, none⟩ = some (.bool false) := blk_cell TR.out 0
                have c1 : wr.cell? ⟨w.heap.size, 1, none⟩ = some (.slice none 0 0) := blk_cell TR.out 1
                have c2 : wr.cell? ⟨w.heap.size, 2, none⟩ = some (.slice none 0 0) := blk_cell TR.out 2
                have c3 : wr.cell? ⟨w.heap.size, 3, none⟩ = some (.slice none 0 0) := blk_cell TR.out 3
                have f0 : wr.frozen? ⟨w.heap.size, 0, none⟩ = false := blk_frozen TR.out 0
                have f1 : wr.frozen? ⟨w.heap.size, 1, none⟩ = false := blk_frozen TR.out 1
                have f2 : wr.frozen? ⟨w.heap.size, 2, none⟩ = false := blk_frozen TR.out 2
                have f3 : wr.frozen? ⟨w.heap.size, 3, none⟩ = false := blk_frozen TR.out 3
                go_wp2
                have hg4 := nd_grown4 wr w.heap.size (.bool false) (.slice none 0 0) (.slice none 0 0) (.slice none 0 0)
                refine bodyPost_ret (results_ct rfl _ _ w.heap.size 31 #[.bool false, .slice none 0 0, .slice none 0 0, .slice none 0 0] (0, 0) _ rfl (nd_put4 wr w.heap.size 31 _ _ _ _ (.bool false) (.slice none 0 0) (.slice none 0 0) (.slice none 0 0) TR.out) Try.underlying31 rfl (by kernel_rfl)) rfl ?_
                exact ⟨_, _, _, rfl, Kd.R_nil _ _ _ _ _, Kd.R_nil _ _ _ _ _, Kd.R_nil _ _ _ _ _, nd_grown_below hg4 BB.out BB.out.size (Nat.le_refl _)⟩

            · have hv := HRV.out
              unfold outL at hv
              rw [if_neg (fun h => by cases h.1)] at hv
              cases hv
              have c0 : wr.cell? ⟨w.heap.size, 0, none⟩ = some (.bool false) := blk_cell TR.out 0
              have c1 : wr.cell? ⟨w.heap.size, 1, none⟩ = some (.slice none 0 0) := blk_cell TR.out 1
              have c2 : wr.cell? ⟨w.heap.size, 2, none⟩ = some (.slice none 0 0) := blk_cell TR.out 2
              have c3 : wr.cell? ⟨w.heap.size, 3, none⟩ = some (.slice none 0 0) := blk_cell TR.out 3
              have f0 : wr.frozen? ⟨w.heap.size, 0, none⟩ = false := blk_frozen TR.out 0
              have f1 : wr.frozen? ⟨w.heap.size, 1, none⟩ = false := blk_frozen TR.out 1
              have f2 : wr.frozen? ⟨w.heap.size, 2, none⟩ = false := blk_frozen TR.out 2
              have f3 : wr.frozen? ⟨w.heap.size, 3, none⟩ = false := blk_frozen TR.out 3
              go_wp2
              have hg4 := nd_grown4 wr w.heap.size (.bool false) (.slice none 0 0) (.slice none 0 0) (.slice none 0 0)
              refine bodyPost_ret (results_ct rfl _ _ w.heap.size 31 #[.bool false, .slice none 0 0, .slice none 0 0, .slice none 0 0] (0, 0) _ rfl (nd_put4 wr w.heap.size 31 _ _ _ _ (.bool false) (.slice none 0 0) (.slice none 0 0) (.slice none 0 0) TR.out) Try.underlying31 rfl (by kernel_rfl)) rfl ?_
              exact ⟨_, _, _, rfl, Kd.R_nil _ _ _ _ _, Kd.R_nil _ _ _ _ _, Kd.R_nil _ _ _ _ _, nd_grown_below hg4 BB.out BB.out.size (Nat.le_refl _)⟩
theorem one_sc {α : Type} {enc : α → Value} {h1 : ∀ x, (enc x).oneCell' = true} {w : World} {vb t : Nat} {p : α} (hv : w.heap[vb]? = some (.cells #[enc p] t (0, 0))) : ReadsRow ((Kd.scalar enc h1).K w) (Kd.scalar enc h1).sz w (some ⟨vb, 0, none⟩) 1 [p] := ⟨rfl, by decide, fun _ => ⟨_, rfl, fun j q hj => by
  cases j with
  | zero =>
    cases hj
    refine ⟨[enc p], rfl, rfl, fun i u hu => ?_⟩
    rw [add_plain, blk_cell hv]
    match i, hu with
    | 0, hu => exact hu
  | succ j => cases hj⟩⟩
theorem dec_or (lo hi : Nat) (h1 : lo ≤ 255) (h2 : hi ≤ 255) : bits .or .i64 (lo : Int) (IntKind.i64.wrap ((hi : Int) * 256)) = ((lo + 256 * hi : Nat) : Int) := by
  have hp : (2 : Nat) ^ 63 = 9223372036854775808 := by decide
  rw [IntKind.wrap_i64, show ((hi : Int) * 256 + 9223372036854775808) % 18446744073709551616 - 9223372036854775808 = ((256 * hi : Nat) : Int) by omega]
  rw [(bits_nat .i64 63 (by decide) (fun n h0 h1 => by rw [IntKind.wrap_i64]; omega) lo (256 * hi) (by omega) (by omega)).2, nat_join8' (256 * hi) lo (by omega) (by omega), Nat.add_comm]
def outI (k : Nat) (s s4 : ByteArray) (b4 : Bool) (K : List ByteArray) (D : List Int) : Bool × List S48 × List ByteArray × List Int × Int := if b4 = false ∧ s4.toList = [] ∧ k = 2 ∧ s.size ≤ 160 ∧ innerV false [] K D = true then (false, [], K, D, 0) else (false, [], [], [], 2)
set_option maxHeartbeats 4000000 in
set_option maxRecDepth 100000 in
theorem dec_inner (k : Nat) (hk : k ≠ 1) (s s1 s2 s3 s4 : ByteArray) (b1 b2 b3 b4 : Bool) (cn : Nat) (D : List Int) (K : List ByteArray) (w : World) (e1 : rdb s false = (k, s1, b1)) (e2 : rdb s1 b1 = (cn, s2, b2)) (e3 : decD cn s2 b2 [] = (s3, b3, D)) (e4 : decK (cn - 1) s3 b3 [] = (s4, b4, K)) (r1 : Bool) (r2 : List (S48)) (r3 : List ByteArray) (r4 : List Int) (r5 : Int) (hr : (r1, r2, r3, r4, r5) = outI k s s4 b4 K D) : Calls Try.prog 25 #[.string s] w fun e w' => ∃ v1_ v2_ v3_ : Value, e = .returned (.tuple #[.agg #[.bool r1, v1_, v2_, v3_], .int .i64 r5]) ∧ Kd.R k48 48 w' w.heap.size (fun _ => True) v1_ r2 ∧ Kd.R Kd.string 9 w' w.heap.size (fun _ => True) v2_ r3 ∧ Kd.R (Kd.int .i64) 3 w' w.heap.size (fun _ => True) v3_ r4 ∧ Below w.heap.size w w' := by
  have HR0 := Aside0.mk hr
  clear hr
  have F1 : Aside0 (node_reader_byte.f s false = some ((k : Int), s1, b1)) := ⟨by rw [byte_val, e1]⟩
  have F2 : Aside0 (node_reader_byte.f s1 b1 = some ((cn : Int), s2, b2)) := ⟨by rw [byte_val, e2]⟩
  have hcn : cn ≤ 255 := by have := rdb_le s1 b1; rw [e2] at this; exact this
  have hkk : k ≤ 255 := by have := rdb_le s false; rw [e1] at this; exact this
  have E3 := Aside0.mk e3
  have E4 := Aside0.mk e4
  have k1 : ((k : Int) == 1) = false := beq_eq_false_iff_ne.2 (by omega)
  have k1' : ((k : Int) != 1) = true := bne_iff_ne.2 (by omega)
  clear e1 e2 e3 e4
  obtain ⟨wy, hwy⟩ : ∃ wy, wy = w.alloc (.cells #[.bool false, .slice none 0 0, .slice none 0 0, .slice none 0 0] 31) := ⟨_, rfl⟩
  obtain ⟨w0, hw0⟩ : ∃ w0, w0 = wy.alloc (.cells #[.string s, .bool false] 89) := ⟨_, rfl⟩
  have ny : wy.heap.size = w.heap.size + 1 := by rw [hwy]; simp
  have t0y := heap_alloc_new w (.cells #[.bool false, .slice none 0 0, .slice none 0 0, .slice none 0 0] 31)
  have bel := below_alloc (Below.refl w.heap.size w) (.cells #[.bool false, .slice none 0 0, .slice none 0 0, .slice none 0 0] 31)
  rw [← hwy] at t0y bel
  have TR := Aside0.mk ((Lib.alloc_old wy (.cells #[.string s, .bool false] 89) w.heap.size (blk_lt t0y)).trans t0y)
  have i0 := IsS89.new w wy s false bel
  rw [← hw0] at TR i0
  rw [ny] at i0
  have I0 := Aside0.mk i0
  have B0 : Aside0 (Below w.heap.size w w0) := ⟨by rw [hw0]; exact below_alloc bel _⟩
  have HW0 : Aside0 (w0 = (w.alloc (.cells #[.bool false, .slice none 0 0, .slice none 0 0, .slice none 0 0] 31)).alloc (.cells #[.string s, .bool false] 89)) := ⟨by rw [hw0, hwy]⟩
  clear hwy hw0 ny t0y bel i0
  go_enter Try.func25, Try.ntmps25
  go_wp2_with fail
  rw [← HW0.out]
  refine (node_reader_byte.calls (w.heap.size + 1) s false (k : Int) s1 b1 w w0 I0.out B0.out F1.out).mono ?_
  rintro e w1 ⟨rfl, hI, hB, hK⟩
  have I1 := Aside0.mk hI
  have B1 := Aside0.mk hB
  replace TR := Aside0.mk (nd_keep hK TR.out (by omega))
  clear hI hB hK I0 B0
  go_wp2_with fail
  refine (node_reader_byte.calls (w.heap.size + 1) s1 b1 (cn : Int) s2 b2 w w1 I1.out B1.out F2.out).mono ?_
  rintro e w2 ⟨rfl, hI, hB, hK⟩
  have I2 := Aside0.mk hI
  have B2 := Aside0.mk hB
  replace TR := Aside0.mk (nd_keep hK TR.out (by omega))
  clear hI hB hK I1 B1

  have hB := below_alloc (Below.refl w2.heap.size w2) (.cells #[.bool false, .slice none 0 0, .slice none 0 0, .slice none 0 0] 31)
  have tn := heap_alloc_new w2 (.cells #[.bool false, .slice none 0 0, .slice none 0 0, .slice none 0 0] 31)
  obtain ⟨w3, hw3⟩ : ∃ x, x = w2.alloc (.cells #[.bool false, .slice none 0 0, .slice none 0 0, .slice none 0 0] 31) := ⟨_, rfl⟩
  have HW3 := Aside0.mk hw3
  rw [← hw3] at hB tn
  have TN0 := Aside0.mk tn
  have I3 := Aside0.mk (I2.out.below hB)
  have TR3 := Aside0.mk ((hB.block _ (blk_lt TR.out)).trans TR.out)
  have B3 := Aside0.mk (B2.out.trans (hB.mono B2.out.size))
  have NNE : Aside0 (w2.heap.size ≠ (w.heap.size + 1)) := ⟨by have := I2.out.lt; omega⟩
  have NNW : Aside0 (w.heap.size ≠ w2.heap.size) := ⟨by have := I2.out.lt; omega⟩
  have NNL : Aside0 (w.heap.size ≤ w2.heap.size) := ⟨B2.out.size⟩
  clear hw3 hB tn
  go_wp2_with fail
  rw [← HW3.out]
  clear TR I2
  obtain ⟨q0, z0⟩ : ∃ q, decide ((0 : Int) < (cn : Int)) = q := ⟨_, rfl⟩
  have z0' : decide (0 < cn) = q0 := by rw [← z0]; simp
  rcases q0 with _ | _
  all_goals
    obtain ⟨wE, hwE⟩ : ∃ x, x = w3 := ⟨_, rfl⟩
    subst hwE
    go_loopw [8] (fun v W => v = .int .i64 0 ∧ W = wE) (fun _ _ => 0)
    case atStart => exact ⟨rfl, rfl⟩
    case round =>
      obtain ⟨rfl, hW⟩ := hrel
      subst hW
      have n0 : wr.cell? ⟨w2.heap.size, 0, none⟩ = some (.bool false) := blk_cell TN0.out 0
      go_wp2_with fail
      go_loopw [10] (fun v10 W => ∃ (i : Nat) (sC : ByteArray) (bC : Bool) (l : List Int) (A : Option Addr) (c : Nat), i ≤ cn ∧ v10 = .int .i64 (i : Int) ∧ Aside0 (IsS89 w W (w.heap.size + 1) sC bC) ∧ Aside0 (W.heap[w.heap.size]? = some (.cells #[.bool false, .slice none 0 0, .slice none 0 0, .slice none 0 0] 31 (0, 0))) ∧ Aside0 (W.heap[w2.heap.size]? = some (.cells #[.bool false, .slice none 0 0, .slice none 0 0, .slice A l.length c] 31 (0, 0))) ∧ Aside0 ((Kd.int .i64).R 3 W w.heap.size (fun _ => True) (.slice A l.length c) l) ∧ Aside0 (Below w.heap.size w W) ∧ Aside0 (decD (cn - i) sC bC l = (s3, b3, D)) ∧ l.length ≤ i) (fun v10 _ => (cn - intOf v10).toNat)
      case atStart => exact ⟨0, s2, b2, [], none, 0, by omega, rfl, I3, TR3, TN0, ⟨Kd.R_nil _ _ _ _ _⟩, B3, E3, by simp⟩
      case round =>
        clear n0 I3 TR3 TN0 B3
        obtain ⟨i, sC, bC, l, A, c, hi, rfl, I, TR, TNf, RR, BB, HD, hll⟩ := hrel
        have n0 : wr.cell? ⟨w2.heap.size, 0, none⟩ = some (.bool false) := blk_cell TNf.out 0
        have y1 : wr.cell? ⟨(w.heap.size + 1), 1, none⟩ = some (.bool bC) := blk_cell I.out.1 1
        by_cases h : i < cn
        · have d1 : decide (i < cn) = true := decide_eq_true h
          have d1' : decide ((i : Int) < (cn : Int)) = true := decide_eq_true (by omega)
          cases bC
          · obtain ⟨kl, sK, bK, ek⟩ : ∃ x y z, rdb sC false = (x, y, z) := ⟨_, _, _, rfl⟩
            obtain ⟨kh, sV, bV, ev⟩ : ∃ x y z, rdb sK bK = (x, y, z) := ⟨_, _, _, rfl⟩
            have T1 : Aside0 (node_reader_byte.f sC false = some ((kl : Int), sK, bK)) := ⟨by rw [byte_val, ek]⟩
            have T2 : Aside0 (node_reader_byte.f sK bK = some ((kh : Int), sV, bV)) := ⟨by rw [byte_val, ev]⟩
            have hkl : kl ≤ 255 := by have := rdb_le sC false; rw [ek] at this; exact this
            have hkh : kh ≤ 255 := by have := rdb_le sK bK; rw [ev] at this; exact this
            obtain ⟨kv, hkv⟩ : ∃ n : Nat, kl + 256 * kh = n := ⟨_, rfl⟩
            have DS : Aside0 (decD (cn - i) sC false l = decD (cn - (i + 1)) sV bV (l ++ [(kv : Int)])) := ⟨by
              rw [show cn - i = (cn - (i + 1)) + 1 by omega, decD, if_neg (by decide), ek, ev, ← hkv]⟩
            clear ek ev
            go_wp2_with fail
            refine (node_reader_byte.calls (w.heap.size + 1) sC false (kl : Int) sK bK w wr I.out BB.out T1.out).mono ?_
            rintro e w5 ⟨rfl, hI, hB, hK2⟩
            replace TR := Aside0.mk (nd_keep hK2 TR.out (by omega))
            replace TNf := Aside0.mk (nd_keep hK2 TNf.out NNE.out)
            replace RR := Aside0.mk (Kd.R_mono (Kd.R_step (I.out.apart RR.out (by decide)) (fun k hk hl => hK2.2 k hl hk.2 (by simp))) (fun _ _ => trivial))
            replace I := Aside0.mk hI
            replace BB := Aside0.mk hB
            clear hI hB hK2
            go_wp2_with fail
            refine wp_region_held_drew (S := fun _ => True) (by kernel_rfl) trivial (fun hHeld => ?_)
            have dB : Below w5.heap.size w5 w5.drew := below_drew1 (Below.refl _ _)
            obtain ⟨w6, hw6⟩ : ∃ x, x = w5.drew := ⟨_, rfl⟩
            rw [← hw6] at dB ⊢
            replace TR := Aside0.mk ((dB.block _ (blk_lt TR.out)).trans TR.out)
            replace TNf := Aside0.mk ((dB.block _ (blk_lt TNf.out)).trans TNf.out)
            replace RR := Aside0.mk (Kd.R_below RR.out dB)
            replace I := Aside0.mk (I.out.below dB)
            replace BB := Aside0.mk (BB.out.trans (dB.mono BB.out.size))
            clear dB hw6 hHeld
            refine dc_take 0 trivial ?_
            refine dc_take 2 trivial ?_
            refine dc_take 3 trivial ?_
            refine wpAnyH_ready (rs := [1, 4]) (by kernel_rfl) (by simp) ?_
            refine (AllReadyH.cons rfl (fun K hK => ?_) (AllReadyH.cons rfl (fun K hK => ?_) AllReadyH.nil))
            · have cN : w6.cell? ⟨w2.heap.size, 3, none⟩ = some ((.slice A l.length c)) := blk_cell TNf.out 3
              go_simp
              clear cN
              refine hK.out _ _ trivial (fun hNew => ?_)
              clear hK K hNew
              refine wpAnyH_ready (rs := [4]) (by kernel_rfl) (by simp) ?_
              refine (AllReadyH.cons rfl (fun K hK => ?_) AllReadyH.nil)
              go_simp
              refine (node_reader_byte.calls (w.heap.size + 1) sK bK (kh : Int) sV bV w w6 I.out BB.out T2.out).mono ?_
              rintro e w7 ⟨rfl, hI, hB, hK2⟩
              replace TR := Aside0.mk (nd_keep hK2 TR.out (by omega))
              replace TNf := Aside0.mk (nd_keep hK2 TNf.out NNE.out)
              replace RR := Aside0.mk (Kd.R_mono (Kd.R_step (I.out.apart RR.out (by decide)) (fun k hk hl => hK2.2 k hl hk.2 (by simp))) (fun _ _ => trivial))
              replace I := Aside0.mk hI
              replace BB := Aside0.mk hB
              clear hI hB hK2
              go_simp
              refine hK.out _ _ trivial (fun hNew => ?_)
              clear hK K hNew
              refine dc_take 5 trivial ?_
              refine dc_take 6 trivial ?_
              refine wpAnyH_ready (rs := [7]) (by kernel_rfl) (by simp) ?_
              refine (AllReadyH.cons rfl (fun K hK => ?_) AllReadyH.nil)
              rw [dec_or kl kh hkl hkh, hkv]
              have hB := below_alloc (Below.refl w7.heap.size w7) (.cells #[.int .i64 (kv : Int)] 3)
              have HVB := Aside0.mk (heap_alloc_new w7 (.cells #[.int .i64 (kv : Int)] 3))
              go_simp
              obtain ⟨vb, hvb⟩ : ∃ n, n = w7.heap.size := ⟨_, rfl⟩
              obtain ⟨w8, hwV⟩ : ∃ x, x = w7.alloc (.cells #[.int .i64 (kv : Int)] 3) := ⟨_, rfl⟩
              rw [← hwV] at HVB hB ⊢
              rw [← hvb] at HVB ⊢
              replace TR := Aside0.mk ((hB.block _ (blk_lt TR.out)).trans TR.out)
              replace TNf := Aside0.mk ((hB.block _ (blk_lt TNf.out)).trans TNf.out)
              replace RR := Aside0.mk (Kd.R_below RR.out hB)
              replace I := Aside0.mk (I.out.below hB)
              replace BB := Aside0.mk (BB.out.trans (hB.mono BB.out.size))
              clear hB hwV hvb
              refine hK.out _ _ trivial (fun hNew => ?_)
              clear hK K hNew
              refine wpAnyH_ready (rs := [8]) (by kernel_rfl) (by simp) ?_
              refine (AllReadyH.cons rfl (fun K hK => ?_) AllReadyH.nil)
              refine Kd.R_append_rows_step (Kd.int .i64) (Rr := Kd.K (Kd.int .i64) w8) (w0 := w) (W := w8) w.heap.size (by kernel_rfl) (.tmp 70) (.tmp 76) 24 3 (.int .i64 0) 8 rfl Try.underlying24 (by kernel_rfl) rfl (by decide) (by decide) (.slice A l.length c) l [(kv : Int)] (some ⟨vb, 0, none⟩) 1 1 (fun _ => True) (fun _ => False) rfl rfl RR.out (one_sc HVB.out) (fun x cs hx => hx) (fun k hk => hk.elim) (fun _ _ => trivial) BB.out BB.out.size (by omega) ?_
              intro v1 wA hR hB hg _
              simp only [Act.put, List.getElem_toArray, List.getElem_cons_zero, List.getElem_cons_succ, List.setIfInBounds_toArray, List.set_cons_zero, List.set_cons_succ]
              obtain ⟨A', c', rfl⟩ := Kd.R_slice hR
              obtain ⟨lN, hlN⟩ : ∃ x, x = l ++ [(kv : Int)] := ⟨_, rfl⟩
              have hlenN : lN.length ≤ i + 1 := by rw [hlN, List.length_append]; simp; omega
              rw [← hlN] at hR ⊢
              have HLN := Aside0.mk hlN
              clear hlN
              have I' := I.out.grown hg (I.out.own_ne RR.out (by decide))
              have TR' := (hg.block _ (blk_lt TR.out) (Kd.R_ne RR.out TR.out (by decide))).trans TR.out
              have TN' := (hg.block _ (blk_lt TNf.out) (Kd.R_ne RR.out TNf.out (by decide))).trans TNf.out

              refine hK.out _ _ trivial (fun hNew => ?_)
              clear hK K hNew
              refine dc_take 9 trivial ?_
              have cN : wA.cell? ⟨w2.heap.size, 3, none⟩ = some (.slice A l.length c) := blk_cell TN' 3
              have fN : wA.frozen? ⟨w2.heap.size, 3, none⟩ = false := blk_frozen TN' 3
              refine wpAnyH_ready (rs := [10]) (by kernel_rfl) (by simp) ?_
              refine (AllReadyH.cons rfl (fun K hK => ?_) AllReadyH.nil)
              go_simp
              have TNn := Aside0.mk (heap_setCell_same wA w2.heap.size 3 _ 31 (.slice A' lN.length c') TN')
              have TRn := Aside0.mk ((Below.heap_setCell wA ⟨w2.heap.size, 3, none⟩ (.slice A' lN.length c') w.heap.size NNW.out).trans TR')
              have In := Aside0.mk (I'.far (p := ⟨w2.heap.size, 3, none⟩) (fun e => NNE.out e.symm) (.slice A' lN.length c'))
              have RRn := Aside0.mk (Kd.R_set hR TN' (by decide) 3 (.slice A' lN.length c'))

              have BBn := Aside0.mk (hB.setCell (p := ⟨w2.heap.size, 3, none⟩) NNL.out (.slice A' lN.length c'))
              clear hR hB hg I' TR' TN' cN fN I TR TNf RR BB HVB 
              refine hK.out _ _ trivial (fun hNew => ?_)
              clear hK K hNew
              refine wpAnyH_done (by kernel_rfl) ?_ _
              go_wp2_with fail
              go_roundw
              case rel => exact ⟨i + 1, sV, bV, lN, A', c', by omega, by first | rfl | go_num, In, TRn, TNn, RRn, BBn, ⟨by rw [← HD.out, DS.out, HLN.out]⟩, hlenN⟩
              case measure => simp [intOf]; omega

            · go_simp
              refine (node_reader_byte.calls (w.heap.size + 1) sK bK (kh : Int) sV bV w w6 I.out BB.out T2.out).mono ?_
              rintro e w7 ⟨rfl, hI, hB, hK2⟩
              replace TR := Aside0.mk (nd_keep hK2 TR.out (by omega))
              replace TNf := Aside0.mk (nd_keep hK2 TNf.out NNE.out)
              replace RR := Aside0.mk (Kd.R_mono (Kd.R_step (I.out.apart RR.out (by decide)) (fun k hk hl => hK2.2 k hl hk.2 (by simp))) (fun _ _ => trivial))
              replace I := Aside0.mk hI
              replace BB := Aside0.mk hB
              clear hI hB hK2
              go_simp
              refine hK.out _ _ trivial (fun hNew => ?_)
              clear hK K hNew
              refine dc_take 5 trivial ?_
              refine dc_take 6 trivial ?_
              refine wpAnyH_ready (rs := [1, 7]) (by kernel_rfl) (by simp) ?_
              refine (AllReadyH.cons rfl (fun K hK => ?_) (AllReadyH.cons rfl (fun K hK => ?_) AllReadyH.nil))

              · have cN : w7.cell? ⟨w2.heap.size, 3, none⟩ = some ((.slice A l.length c)) := blk_cell TNf.out 3
                go_simp
                clear cN
                refine hK.out _ _ trivial (fun hNew => ?_)
                clear hK K hNew
                refine wpAnyH_ready (rs := [7]) (by kernel_rfl) (by simp) ?_
                refine (AllReadyH.cons rfl (fun K hK => ?_) AllReadyH.nil)
                rw [dec_or kl kh hkl hkh, hkv]
                have hB := below_alloc (Below.refl w7.heap.size w7) (.cells #[.int .i64 (kv : Int)] 3)
                have HVB := Aside0.mk (heap_alloc_new w7 (.cells #[.int .i64 (kv : Int)] 3))
                go_simp
                obtain ⟨vb, hvb⟩ : ∃ n, n = w7.heap.size := ⟨_, rfl⟩
                obtain ⟨w8, hwV⟩ : ∃ x, x = w7.alloc (.cells #[.int .i64 (kv : Int)] 3) := ⟨_, rfl⟩
                rw [← hwV] at HVB hB ⊢
                rw [← hvb] at HVB ⊢
                replace TR := Aside0.mk ((hB.block _ (blk_lt TR.out)).trans TR.out)
                replace TNf := Aside0.mk ((hB.block _ (blk_lt TNf.out)).trans TNf.out)
                replace RR := Aside0.mk (Kd.R_below RR.out hB)
                replace I := Aside0.mk (I.out.below hB)
                replace BB := Aside0.mk (BB.out.trans (hB.mono BB.out.size))
                clear hB hwV hvb
                refine hK.out _ _ trivial (fun hNew => ?_)
                clear hK K hNew
                refine wpAnyH_ready (rs := [8]) (by kernel_rfl) (by simp) ?_
                refine (AllReadyH.cons rfl (fun K hK => ?_) AllReadyH.nil)
                refine Kd.R_append_rows_step (Kd.int .i64) (Rr := Kd.K (Kd.int .i64) w8) (w0 := w) (W := w8) w.heap.size (by kernel_rfl) (.tmp 70) (.tmp 76) 24 3 (.int .i64 0) 8 rfl Try.underlying24 (by kernel_rfl) rfl (by decide) (by decide) (.slice A l.length c) l [(kv : Int)] (some ⟨vb, 0, none⟩) 1 1 (fun _ => True) (fun _ => False) rfl rfl RR.out (one_sc HVB.out) (fun x cs hx => hx) (fun k hk => hk.elim) (fun _ _ => trivial) BB.out BB.out.size (by omega) ?_
                intro v1 wA hR hB hg _
                simp only [Act.put, List.getElem_toArray, List.getElem_cons_zero, List.getElem_cons_succ, List.setIfInBounds_toArray, List.set_cons_zero, List.set_cons_succ]
                obtain ⟨A', c', rfl⟩ := Kd.R_slice hR
                obtain ⟨lN, hlN⟩ : ∃ x, x = l ++ [(kv : Int)] := ⟨_, rfl⟩
                have hlenN : lN.length ≤ i + 1 := by rw [hlN, List.length_append]; simp; omega
                rw [← hlN] at hR ⊢
                have HLN := Aside0.mk hlN
                clear hlN
                have I' := I.out.grown hg (I.out.own_ne RR.out (by decide))
                have TR' := (hg.block _ (blk_lt TR.out) (Kd.R_ne RR.out TR.out (by decide))).trans TR.out
                have TN' := (hg.block _ (blk_lt TNf.out) (Kd.R_ne RR.out TNf.out (by decide))).trans TNf.out

                refine hK.out _ _ trivial (fun hNew => ?_)
                clear hK K hNew
                refine dc_take 9 trivial ?_
                have cN : wA.cell? ⟨w2.heap.size, 3, none⟩ = some (.slice A l.length c) := blk_cell TN' 3
                have fN : wA.frozen? ⟨w2.heap.size, 3, none⟩ = false := blk_frozen TN' 3
                refine wpAnyH_ready (rs := [10]) (by kernel_rfl) (by simp) ?_
                refine (AllReadyH.cons rfl (fun K hK => ?_) AllReadyH.nil)
                go_simp
                have TNn := Aside0.mk (heap_setCell_same wA w2.heap.size 3 _ 31 (.slice A' lN.length c') TN')
                have TRn := Aside0.mk ((Below.heap_setCell wA ⟨w2.heap.size, 3, none⟩ (.slice A' lN.length c') w.heap.size NNW.out).trans TR')
                have In := Aside0.mk (I'.far (p := ⟨w2.heap.size, 3, none⟩) (fun e => NNE.out e.symm) (.slice A' lN.length c'))
                have RRn := Aside0.mk (Kd.R_set hR TN' (by decide) 3 (.slice A' lN.length c'))

                have BBn := Aside0.mk (hB.setCell (p := ⟨w2.heap.size, 3, none⟩) NNL.out (.slice A' lN.length c'))
                clear hR hB hg I' TR' TN' cN fN I TR TNf RR BB HVB 
                refine hK.out _ _ trivial (fun hNew => ?_)
                clear hK K hNew
                refine wpAnyH_done (by kernel_rfl) ?_ _
                go_wp2_with fail
                go_roundw
                case rel => exact ⟨i + 1, sV, bV, lN, A', c', by omega, by first | rfl | go_num, In, TRn, TNn, RRn, BBn, ⟨by rw [← HD.out, DS.out, HLN.out]⟩, hlenN⟩
                case measure => simp [intOf]; omega

              · rw [dec_or kl kh hkl hkh, hkv]
                have hB := below_alloc (Below.refl w7.heap.size w7) (.cells #[.int .i64 (kv : Int)] 3)
                have HVB := Aside0.mk (heap_alloc_new w7 (.cells #[.int .i64 (kv : Int)] 3))
                go_simp
                obtain ⟨vb, hvb⟩ : ∃ n, n = w7.heap.size := ⟨_, rfl⟩
                obtain ⟨w8, hwV⟩ : ∃ x, x = w7.alloc (.cells #[.int .i64 (kv : Int)] 3) := ⟨_, rfl⟩
                rw [← hwV] at HVB hB ⊢
                rw [← hvb] at HVB ⊢
                replace TR := Aside0.mk ((hB.block _ (blk_lt TR.out)).trans TR.out)
                replace TNf := Aside0.mk ((hB.block _ (blk_lt TNf.out)).trans TNf.out)
                replace RR := Aside0.mk (Kd.R_below RR.out hB)
                replace I := Aside0.mk (I.out.below hB)
                replace BB := Aside0.mk (BB.out.trans (hB.mono BB.out.size))
                clear hB hwV hvb
                refine hK.out _ _ trivial (fun hNew => ?_)
                clear hK K hNew
                refine wpAnyH_ready (rs := [1]) (by kernel_rfl) (by simp) ?_
                refine (AllReadyH.cons rfl (fun K hK => ?_) AllReadyH.nil)
                have cN : w8.cell? ⟨w2.heap.size, 3, none⟩ = some ((.slice A l.length c)) := blk_cell TNf.out 3
                go_simp
                clear cN
                refine hK.out _ _ trivial (fun hNew => ?_)
                clear hK K hNew
                refine wpAnyH_ready (rs := [8]) (by kernel_rfl) (by simp) ?_
                refine (AllReadyH.cons rfl (fun K hK => ?_) AllReadyH.nil)
                refine Kd.R_append_rows_step (Kd.int .i64) (Rr := Kd.K (Kd.int .i64) w8) (w0 := w) (W := w8) w.heap.size (by kernel_rfl) (.tmp 70) (.tmp 76) 24 3 (.int .i64 0) 8 rfl Try.underlying24 (by kernel_rfl) rfl (by decide) (by decide) (.slice A l.length c) l [(kv : Int)] (some ⟨vb, 0, none⟩) 1 1 (fun _ => True) (fun _ => False) rfl rfl RR.out (one_sc HVB.out) (fun x cs hx => hx) (fun k hk => hk.elim) (fun _ _ => trivial) BB.out BB.out.size (by omega) ?_
                intro v1 wA hR hB hg _
                simp only [Act.put, List.getElem_toArray, List.getElem_cons_zero, List.getElem_cons_succ, List.setIfInBounds_toArray, List.set_cons_zero, List.set_cons_succ]
                obtain ⟨A', c', rfl⟩ := Kd.R_slice hR
                obtain ⟨lN, hlN⟩ : ∃ x, x = l ++ [(kv : Int)] := ⟨_, rfl⟩
                have hlenN : lN.length ≤ i + 1 := by rw [hlN, List.length_append]; simp; omega
                rw [← hlN] at hR ⊢
                have HLN := Aside0.mk hlN
                clear hlN
                have I' := I.out.grown hg (I.out.own_ne RR.out (by decide))
                have TR' := (hg.block _ (blk_lt TR.out) (Kd.R_ne RR.out TR.out (by decide))).trans TR.out
                have TN' := (hg.block _ (blk_lt TNf.out) (Kd.R_ne RR.out TNf.out (by decide))).trans TNf.out

                refine hK.out _ _ trivial (fun hNew => ?_)
                clear hK K hNew
                refine dc_take 9 trivial ?_
                have cN : wA.cell? ⟨w2.heap.size, 3, none⟩ = some (.slice A l.length c) := blk_cell TN' 3
                have fN : wA.frozen? ⟨w2.heap.size, 3, none⟩ = false := blk_frozen TN' 3
                refine wpAnyH_ready (rs := [10]) (by kernel_rfl) (by simp) ?_
                refine (AllReadyH.cons rfl (fun K hK => ?_) AllReadyH.nil)
                go_simp
                have TNn := Aside0.mk (heap_setCell_same wA w2.heap.size 3 _ 31 (.slice A' lN.length c') TN')
                have TRn := Aside0.mk ((Below.heap_setCell wA ⟨w2.heap.size, 3, none⟩ (.slice A' lN.length c') w.heap.size NNW.out).trans TR')
                have In := Aside0.mk (I'.far (p := ⟨w2.heap.size, 3, none⟩) (fun e => NNE.out e.symm) (.slice A' lN.length c'))
                have RRn := Aside0.mk (Kd.R_set hR TN' (by decide) 3 (.slice A' lN.length c'))

                have BBn := Aside0.mk (hB.setCell (p := ⟨w2.heap.size, 3, none⟩) NNL.out (.slice A' lN.length c'))
                clear hR hB hg I' TR' TN' cN fN I TR TNf RR BB HVB 
                refine hK.out _ _ trivial (fun hNew => ?_)
                clear hK K hNew
                refine wpAnyH_done (by kernel_rfl) ?_ _
                go_wp2_with fail
                go_roundw
                case rel => exact ⟨i + 1, sV, bV, lN, A', c', by omega, by first | rfl | go_num, In, TRn, TNn, RRn, BBn, ⟨by rw [← HD.out, DS.out, HLN.out]⟩, hlenN⟩
                case measure => simp [intOf]; omega

          · have HRV : Aside0 ((r1, r2, r3, r4, r5) = outI k s sC true [] l) := ⟨by
              have := HD.out
              rw [show cn - i = (cn - (i + 1)) + 1 by omega, decD, if_pos rfl] at this
              obtain ⟨q1, q2, q3⟩ : sC = s3 ∧ true = b3 ∧ l = D := by simpa using this
              have e4 : b4 = true := by
                have h4 := E4.out
                rw [← q2] at h4
                cases hc : cn - 1 with
                | zero => rw [hc] at h4; simp only [decK, Prod.mk.injEq] at h4; exact h4.2.1.symm
                | succ m => rw [hc] at h4; simp only [decK, if_true, Prod.mk.injEq] at h4; exact h4.2.1.symm
              have := HR0.out
              unfold outI at this ⊢
              rw [if_neg (fun h => by rw [e4] at h; cases h.1)] at this
              rw [if_neg (fun h => by cases h.1)]
              exact this⟩
            clear HD E3 E4 HR0
            obtain ⟨q1, z1⟩ : ∃ q, decide ((1 : Int) < (cn : Int)) = q := ⟨_, rfl⟩
            have z1' : decide (1 < cn) = q1 := by rw [← z1]; congr 1; apply propext; omega
            rcases q1 with _ | _
            all_goals
              go_wp2_with fail
              obtain ⟨wE, hwE⟩ : ∃ x, x = wr := ⟨_, rfl⟩
              subst hwE
              go_loopw [12] (fun v W => v = .int .i64 1 ∧ W = wE) (fun _ _ => 0)
              case atStart => exact ⟨rfl, rfl⟩
              case round =>
                obtain ⟨rfl, hW⟩ := hrel
                subst hW
                have y0 : wr.cell? ⟨(w.heap.size + 1), 0, none⟩ = some (.string sC) := blk_cell I.out.1 0
                have hv := HRV.out
                unfold outI at hv
                rw [if_neg (fun h => by cases h.1)] at hv
                cases hv
                have c0 : wr.cell? ⟨w.heap.size, 0, none⟩ = some (.bool false) := blk_cell TR.out 0
                have c1 : wr.cell? ⟨w.heap.size, 1, none⟩ = some (.slice none 0 0) := blk_cell TR.out 1
                have c2 : wr.cell? ⟨w.heap.size, 2, none⟩ = some (.slice none 0 0) := blk_cell TR.out 2
                have c3 : wr.cell? ⟨w.heap.size, 3, none⟩ = some (.slice none 0 0) := blk_cell TR.out 3
                have f0 : wr.frozen? ⟨w.heap.size, 0, none⟩ = false := blk_frozen TR.out 0
                have f1 : wr.frozen? ⟨w.heap.size, 1, none⟩ = false := blk_frozen TR.out 1
                have f2 : wr.frozen? ⟨w.heap.size, 2, none⟩ = false := blk_frozen TR.out 2
                have f3 : wr.frozen? ⟨w.heap.size, 3, none⟩ = false := blk_frozen TR.out 3
                go_wp2
                have hg4 := nd_grown4 wr w.heap.size (.bool false) (.slice none 0 0) (.slice none 0 0) (.slice none 0 0)
                refine bodyPost_ret (results_ct rfl _ _ w.heap.size 31 #[.bool false, .slice none 0 0, .slice none 0 0, .slice none 0 0] (0, 0) _ rfl (nd_put4 wr w.heap.size 31 _ _ _ _ (.bool false) (.slice none 0 0) (.slice none 0 0) (.slice none 0 0) TR.out) Try.underlying31 rfl (by kernel_rfl)) rfl ?_
                exact ⟨_, _, _, rfl, Kd.R_nil _ _ _ _ _, Kd.R_nil _ _ _ _ _, Kd.R_nil _ _ _ _ _, nd_grown_below hg4 BB.out BB.out.size (Nat.le_refl _)⟩

        · have d1 : decide (i < cn) = false := decide_eq_false h
          have d1' : decide ((i : Int) < (cn : Int)) = false := decide_eq_false (by omega)
          have HEQ : Aside0 (sC = s3 ∧ bC = b3 ∧ l = D) := ⟨by
            have := HD.out
            rw [show cn - i = 0 by omega, decD] at this
            simpa using this⟩
          have RD := RR
          go_wp2_with fail
          go_loopw [12] (fun v12 W => ∃ (j : Nat) (sE : ByteArray) (bE : Bool) (kk : List ByteArray) (B : Option Addr) (d : Nat), j ≤ cn + 1 ∧ v12 = .int .i64 (j : Int) ∧ Aside0 (IsS89 w W (w.heap.size + 1) sE bE) ∧ Aside0 (W.heap[w.heap.size]? = some (.cells #[.bool false, .slice none 0 0, .slice none 0 0, .slice none 0 0] 31 (0, 0))) ∧ Aside0 (W.heap[w2.heap.size]? = some (.cells #[.bool false, .slice none 0 0, .slice B kk.length d, .slice A l.length c] 31 (0, 0))) ∧ Aside0 (Kd.string.R 9 W w.heap.size (fun _ => True) (.slice B kk.length d) kk) ∧ Aside0 ((Kd.int .i64).R 3 W w.heap.size (fun _ => True) (.slice A l.length c) l) ∧ Aside0 (Below w.heap.size w W) ∧ Aside0 (decK (cn - j) sE bE kk = (s4, b4, K)) ∧ kk.length ≤ j) (fun v12 _ => (cn - intOf v12).toNat)
          case atStart => exact ⟨1, sC, bC, [], none, 0, by omega, rfl, I, TR, TNf, ⟨Kd.R_nil _ _ _ _ _⟩, RD, BB, ⟨by rw [HEQ.out.1, HEQ.out.2.1]; exact E4.out⟩, by simp⟩
          case round =>
            clear I TR TNf RR RD BB n0 y1
            obtain ⟨j, sE, bE, kk, B, d, hj, rfl, I, TR, TNf, RR, RD, BB, HD, hkl⟩ := hrel
            have n0 : wr.cell? ⟨w2.heap.size, 0, none⟩ = some (.bool false) := blk_cell TNf.out 0
            have y1 : wr.cell? ⟨(w.heap.size + 1), 1, none⟩ = some (.bool bE) := blk_cell I.out.1 1
            by_cases h : j < cn
            · have d1 : decide (j < cn) = true := decide_eq_true h
              have d1' : decide ((j : Int) < (cn : Int)) = true := decide_eq_true (by omega)
              cases bE
              · obtain ⟨key, sV, bV, ek⟩ : ∃ x y z, rdt sE false = (x, y, z) := ⟨_, _, _, rfl⟩
                have T1 : Aside0 (node_reader_text.f sE false = some (key, sV, bV)) := ⟨by rw [text_val, ek]⟩
                have DS : Aside0 (decK (cn - j) sE false kk = decK (cn - (j + 1)) sV bV (kk ++ [key])) := ⟨by
                  rw [show cn - j = (cn - (j + 1)) + 1 by omega, decK, if_neg (by decide), ek]⟩
                clear ek
                go_wp2_with fail
                refine wp_region_held_drew (S := fun _ => True) (by kernel_rfl) trivial (fun hHeld => ?_)
                have dB : Below wr.heap.size wr wr.drew := below_drew1 (Below.refl _ _)
                obtain ⟨w6, hw6⟩ : ∃ x, x = wr.drew := ⟨_, rfl⟩
                rw [← hw6] at dB ⊢
                replace TR := Aside0.mk ((dB.block _ (blk_lt TR.out)).trans TR.out)
                replace TNf := Aside0.mk ((dB.block _ (blk_lt TNf.out)).trans TNf.out)
                replace RR := Aside0.mk (Kd.R_below RR.out dB)
                replace RD := Aside0.mk (Kd.R_below RD.out dB)
                replace I := Aside0.mk (I.out.below dB)
                replace BB := Aside0.mk (BB.out.trans (dB.mono BB.out.size))
                clear dB hw6 hHeld
                refine dc_take 0 trivial ?_
                refine dc_take 2 trivial ?_
                refine wpAnyH_ready (rs := [1, 3]) (by kernel_rfl) (by simp) ?_
                refine (AllReadyH.cons rfl (fun K hK => ?_) (AllReadyH.cons rfl (fun K hK => ?_) AllReadyH.nil))
                · have cN : w6.cell? ⟨w2.heap.size, 2, none⟩ = some ((.slice B kk.length d)) := blk_cell TNf.out 2
                  go_simp
                  clear cN
                  refine hK.out _ _ trivial (fun hNew => ?_)
                  clear hK K hNew
                  refine wpAnyH_ready (rs := [3]) (by kernel_rfl) (by simp) ?_
                  refine (AllReadyH.cons rfl (fun K hK => ?_) AllReadyH.nil)
                  go_simp
                  refine (node_reader_text.calls (w.heap.size + 1) sE false key sV bV w w6 I.out BB.out T1.out).mono ?_
                  rintro e w7 ⟨rfl, hI, hB, hK2⟩
                  replace TR := Aside0.mk (nd_keep hK2 TR.out (by omega))
                  replace TNf := Aside0.mk (nd_keep hK2 TNf.out NNE.out)
                  replace RR := Aside0.mk (Kd.R_mono (Kd.R_step (I.out.apart RR.out (by decide)) (fun k hk hl => hK2.2 k hl hk.2 (by simp))) (fun _ _ => trivial))
                  replace RD := Aside0.mk (Kd.R_mono (Kd.R_step (I.out.apart RD.out (by decide)) (fun k hk hl => hK2.2 k hl hk.2 (by simp))) (fun _ _ => trivial))
                  replace I := Aside0.mk hI
                  replace BB := Aside0.mk hB
                  clear hI hB hK2
                  go_simp
                  refine hK.out _ _ trivial (fun hNew => ?_)
                  clear hK K hNew
                  refine wpAnyH_ready (rs := [4]) (by kernel_rfl) (by simp) ?_
                  refine (AllReadyH.cons rfl (fun K hK => ?_) AllReadyH.nil)
                  have hB := below_alloc (Below.refl w7.heap.size w7) (.cells #[.string key] 9)
                  have HVB := Aside0.mk (heap_alloc_new w7 (.cells #[.string key] 9))
                  go_simp
                  obtain ⟨vb, hvb⟩ : ∃ n, n = w7.heap.size := ⟨_, rfl⟩
                  obtain ⟨w8, hwV⟩ : ∃ x, x = w7.alloc (.cells #[.string key] 9) := ⟨_, rfl⟩
                  rw [← hwV] at HVB hB ⊢
                  rw [← hvb] at HVB ⊢
                  replace TR := Aside0.mk ((hB.block _ (blk_lt TR.out)).trans TR.out)
                  replace TNf := Aside0.mk ((hB.block _ (blk_lt TNf.out)).trans TNf.out)
                  replace RR := Aside0.mk (Kd.R_below RR.out hB)
                  replace RD := Aside0.mk (Kd.R_below RD.out hB)
                  replace I := Aside0.mk (I.out.below hB)
                  replace BB := Aside0.mk (BB.out.trans (hB.mono BB.out.size))
                  clear hB hwV hvb
                  refine hK.out _ _ trivial (fun hNew => ?_)
                  clear hK K hNew
                  refine wpAnyH_ready (rs := [5]) (by kernel_rfl) (by simp) ?_
                  refine (AllReadyH.cons rfl (fun K hK => ?_) AllReadyH.nil)
                  refine Kd.R_append_rows_step (Kd.string) (Rr := Kd.K (Kd.string) w8) (w0 := w) (W := w8) w.heap.size (by kernel_rfl) (.tmp 97) (.tmp 100) 23 9 (.string ⟨#[]⟩) 16 rfl Try.underlying23 (by kernel_rfl) rfl (by decide) (by decide) (.slice B kk.length d) kk [key] (some ⟨vb, 0, none⟩) 1 1 (fun _ => True) (fun _ => False) rfl rfl RR.out (one_sc HVB.out) (fun x cs hx => hx) (fun k hk => hk.elim) (fun _ _ => trivial) BB.out BB.out.size (by omega) ?_
                  intro v1 wA hR hB hg _
                  simp only [Act.put, List.getElem_toArray, List.getElem_cons_zero, List.getElem_cons_succ, List.setIfInBounds_toArray, List.set_cons_zero, List.set_cons_succ]
                  obtain ⟨A', c', rfl⟩ := Kd.R_slice hR
                  obtain ⟨lN, hlN⟩ : ∃ x, x = kk ++ [key] := ⟨_, rfl⟩
                  have hlenN : lN.length ≤ j + 1 := by rw [hlN, List.length_append]; simp; omega
                  rw [← hlN] at hR ⊢
                  have HLN := Aside0.mk hlN
                  clear hlN
                  have I' := I.out.grown hg (I.out.own_ne RR.out (by decide))
                  have TR' := (hg.block _ (blk_lt TR.out) (Kd.R_ne RR.out TR.out (by decide))).trans TR.out
                  have TN' := (hg.block _ (blk_lt TNf.out) (Kd.R_ne RR.out TNf.out (by decide))).trans TNf.out
                  have RD' := Kd.R_over RD.out RR.out (by decide) hg
                  refine hK.out _ _ trivial (fun hNew => ?_)
                  clear hK K hNew
                  refine dc_take 6 trivial ?_
                  have cN : wA.cell? ⟨w2.heap.size, 2, none⟩ = some (.slice B kk.length d) := blk_cell TN' 2
                  have fN : wA.frozen? ⟨w2.heap.size, 2, none⟩ = false := blk_frozen TN' 2
                  refine wpAnyH_ready (rs := [7]) (by kernel_rfl) (by simp) ?_
                  refine (AllReadyH.cons rfl (fun K hK => ?_) AllReadyH.nil)
                  go_simp
                  have TNn := Aside0.mk (heap_setCell_same wA w2.heap.size 2 _ 31 (.slice A' lN.length c') TN')
                  have TRn := Aside0.mk ((Below.heap_setCell wA ⟨w2.heap.size, 2, none⟩ (.slice A' lN.length c') w.heap.size NNW.out).trans TR')
                  have In := Aside0.mk (I'.far (p := ⟨w2.heap.size, 2, none⟩) (fun e => NNE.out e.symm) (.slice A' lN.length c'))
                  have RRn := Aside0.mk (Kd.R_set hR TN' (by decide) 2 (.slice A' lN.length c'))
                  have RDn := Aside0.mk (Kd.R_set RD' TN' (by decide) 2 (.slice A' lN.length c'))
                  have BBn := Aside0.mk (hB.setCell (p := ⟨w2.heap.size, 2, none⟩) NNL.out (.slice A' lN.length c'))
                  clear hR hB hg I' TR' TN' cN fN I TR TNf RR BB HVB RD RD'
                  refine hK.out _ _ trivial (fun hNew => ?_)
                  clear hK K hNew
                  refine wpAnyH_done (by kernel_rfl) ?_ _
                  go_wp2_with fail
                  go_roundw
                  case rel => exact ⟨j + 1, sV, bV, lN, A', c', by omega, by first | rfl | go_num, In, TRn, TNn, RRn, RDn, BBn, ⟨by rw [← HD.out, DS.out, HLN.out]⟩, hlenN⟩
                  case measure => simp [intOf]; omega

                · go_simp
                  refine (node_reader_text.calls (w.heap.size + 1) sE false key sV bV w w6 I.out BB.out T1.out).mono ?_
                  rintro e w7 ⟨rfl, hI, hB, hK2⟩
                  replace TR := Aside0.mk (nd_keep hK2 TR.out (by omega))
                  replace TNf := Aside0.mk (nd_keep hK2 TNf.out NNE.out)
                  replace RR := Aside0.mk (Kd.R_mono (Kd.R_step (I.out.apart RR.out (by decide)) (fun k hk hl => hK2.2 k hl hk.2 (by simp))) (fun _ _ => trivial))
                  replace RD := Aside0.mk (Kd.R_mono (Kd.R_step (I.out.apart RD.out (by decide)) (fun k hk hl => hK2.2 k hl hk.2 (by simp))) (fun _ _ => trivial))
                  replace I := Aside0.mk hI
                  replace BB := Aside0.mk hB
                  clear hI hB hK2
                  go_simp
                  refine hK.out _ _ trivial (fun hNew => ?_)
                  clear hK K hNew
                  refine wpAnyH_ready (rs := [1, 4]) (by kernel_rfl) (by simp) ?_
                  refine (AllReadyH.cons rfl (fun K hK => ?_) (AllReadyH.cons rfl (fun K hK => ?_) AllReadyH.nil))

                  · have cN : w7.cell? ⟨w2.heap.size, 2, none⟩ = some ((.slice B kk.length d)) := blk_cell TNf.out 2
                    go_simp
                    clear cN
                    refine hK.out _ _ trivial (fun hNew => ?_)
                    clear hK K hNew
                    refine wpAnyH_ready (rs := [4]) (by kernel_rfl) (by simp) ?_
                    refine (AllReadyH.cons rfl (fun K hK => ?_) AllReadyH.nil)
                    have hB := below_alloc (Below.refl w7.heap.size w7) (.cells #[.string key] 9)
                    have HVB := Aside0.mk (heap_alloc_new w7 (.cells #[.string key] 9))
                    go_simp
                    obtain ⟨vb, hvb⟩ : ∃ n, n = w7.heap.size := ⟨_, rfl⟩
                    obtain ⟨w8, hwV⟩ : ∃ x, x = w7.alloc (.cells #[.string key] 9) := ⟨_, rfl⟩
                    rw [← hwV] at HVB hB ⊢
                    rw [← hvb] at HVB ⊢
                    replace TR := Aside0.mk ((hB.block _ (blk_lt TR.out)).trans TR.out)
                    replace TNf := Aside0.mk ((hB.block _ (blk_lt TNf.out)).trans TNf.out)
                    replace RR := Aside0.mk (Kd.R_below RR.out hB)
                    replace RD := Aside0.mk (Kd.R_below RD.out hB)
                    replace I := Aside0.mk (I.out.below hB)
                    replace BB := Aside0.mk (BB.out.trans (hB.mono BB.out.size))
                    clear hB hwV hvb
                    refine hK.out _ _ trivial (fun hNew => ?_)
                    clear hK K hNew
                    refine wpAnyH_ready (rs := [5]) (by kernel_rfl) (by simp) ?_
                    refine (AllReadyH.cons rfl (fun K hK => ?_) AllReadyH.nil)
                    refine Kd.R_append_rows_step (Kd.string) (Rr := Kd.K (Kd.string) w8) (w0 := w) (W := w8) w.heap.size (by kernel_rfl) (.tmp 97) (.tmp 100) 23 9 (.string ⟨#[]⟩) 16 rfl Try.underlying23 (by kernel_rfl) rfl (by decide) (by decide) (.slice B kk.length d) kk [key] (some ⟨vb, 0, none⟩) 1 1 (fun _ => True) (fun _ => False) rfl rfl RR.out (one_sc HVB.out) (fun x cs hx => hx) (fun k hk => hk.elim) (fun _ _ => trivial) BB.out BB.out.size (by omega) ?_
                    intro v1 wA hR hB hg _
                    simp only [Act.put, List.getElem_toArray, List.getElem_cons_zero, List.getElem_cons_succ, List.setIfInBounds_toArray, List.set_cons_zero, List.set_cons_succ]
                    obtain ⟨A', c', rfl⟩ := Kd.R_slice hR
                    obtain ⟨lN, hlN⟩ : ∃ x, x = kk ++ [key] := ⟨_, rfl⟩
                    have hlenN : lN.length ≤ j + 1 := by rw [hlN, List.length_append]; simp; omega
                    rw [← hlN] at hR ⊢
                    have HLN := Aside0.mk hlN
                    clear hlN
                    have I' := I.out.grown hg (I.out.own_ne RR.out (by decide))
                    have TR' := (hg.block _ (blk_lt TR.out) (Kd.R_ne RR.out TR.out (by decide))).trans TR.out
                    have TN' := (hg.block _ (blk_lt TNf.out) (Kd.R_ne RR.out TNf.out (by decide))).trans TNf.out
                    have RD' := Kd.R_over RD.out RR.out (by decide) hg
                    refine hK.out _ _ trivial (fun hNew => ?_)
                    clear hK K hNew
                    refine dc_take 6 trivial ?_
                    have cN : wA.cell? ⟨w2.heap.size, 2, none⟩ = some (.slice B kk.length d) := blk_cell TN' 2
                    have fN : wA.frozen? ⟨w2.heap.size, 2, none⟩ = false := blk_frozen TN' 2
                    refine wpAnyH_ready (rs := [7]) (by kernel_rfl) (by simp) ?_
                    refine (AllReadyH.cons rfl (fun K hK => ?_) AllReadyH.nil)
                    go_simp
                    have TNn := Aside0.mk (heap_setCell_same wA w2.heap.size 2 _ 31 (.slice A' lN.length c') TN')
                    have TRn := Aside0.mk ((Below.heap_setCell wA ⟨w2.heap.size, 2, none⟩ (.slice A' lN.length c') w.heap.size NNW.out).trans TR')
                    have In := Aside0.mk (I'.far (p := ⟨w2.heap.size, 2, none⟩) (fun e => NNE.out e.symm) (.slice A' lN.length c'))
                    have RRn := Aside0.mk (Kd.R_set hR TN' (by decide) 2 (.slice A' lN.length c'))
                    have RDn := Aside0.mk (Kd.R_set RD' TN' (by decide) 2 (.slice A' lN.length c'))
                    have BBn := Aside0.mk (hB.setCell (p := ⟨w2.heap.size, 2, none⟩) NNL.out (.slice A' lN.length c'))
                    clear hR hB hg I' TR' TN' cN fN I TR TNf RR BB HVB RD RD'
                    refine hK.out _ _ trivial (fun hNew => ?_)
                    clear hK K hNew
                    refine wpAnyH_done (by kernel_rfl) ?_ _
                    go_wp2_with fail
                    go_roundw
                    case rel => exact ⟨j + 1, sV, bV, lN, A', c', by omega, by first | rfl | go_num, In, TRn, TNn, RRn, RDn, BBn, ⟨by rw [← HD.out, DS.out, HLN.out]⟩, hlenN⟩
                    case measure => simp [intOf]; omega

                  · have hB := below_alloc (Below.refl w7.heap.size w7) (.cells #[.string key] 9)
                    have HVB := Aside0.mk (heap_alloc_new w7 (.cells #[.string key] 9))
                    go_simp
                    obtain ⟨vb, hvb⟩ : ∃ n, n = w7.heap.size := ⟨_, rfl⟩
                    obtain ⟨w8, hwV⟩ : ∃ x, x = w7.alloc (.cells #[.string key] 9) := ⟨_, rfl⟩
                    rw [← hwV] at HVB hB ⊢
                    rw [← hvb] at HVB ⊢
                    replace TR := Aside0.mk ((hB.block _ (blk_lt TR.out)).trans TR.out)
                    replace TNf := Aside0.mk ((hB.block _ (blk_lt TNf.out)).trans TNf.out)
                    replace RR := Aside0.mk (Kd.R_below RR.out hB)
                    replace RD := Aside0.mk (Kd.R_below RD.out hB)
                    replace I := Aside0.mk (I.out.below hB)
                    replace BB := Aside0.mk (BB.out.trans (hB.mono BB.out.size))
                    clear hB hwV hvb
                    refine hK.out _ _ trivial (fun hNew => ?_)
                    clear hK K hNew
                    refine wpAnyH_ready (rs := [1]) (by kernel_rfl) (by simp) ?_
                    refine (AllReadyH.cons rfl (fun K hK => ?_) AllReadyH.nil)
                    have cN : w8.cell? ⟨w2.heap.size, 2, none⟩ = some ((.slice B kk.length d)) := blk_cell TNf.out 2
                    go_simp
                    clear cN
                    refine hK.out _ _ trivial (fun hNew => ?_)
                    clear hK K hNew
                    refine wpAnyH_ready (rs := [5]) (by kernel_rfl) (by simp) ?_
                    refine (AllReadyH.cons rfl (fun K hK => ?_) AllReadyH.nil)
                    refine Kd.R_append_rows_step (Kd.string) (Rr := Kd.K (Kd.string) w8) (w0 := w) (W := w8) w.heap.size (by kernel_rfl) (.tmp 97) (.tmp 100) 23 9 (.string ⟨#[]⟩) 16 rfl Try.underlying23 (by kernel_rfl) rfl (by decide) (by decide) (.slice B kk.length d) kk [key] (some ⟨vb, 0, none⟩) 1 1 (fun _ => True) (fun _ => False) rfl rfl RR.out (one_sc HVB.out) (fun x cs hx => hx) (fun k hk => hk.elim) (fun _ _ => trivial) BB.out BB.out.size (by omega) ?_
                    intro v1 wA hR hB hg _
                    simp only [Act.put, List.getElem_toArray, List.getElem_cons_zero, List.getElem_cons_succ, List.setIfInBounds_toArray, List.set_cons_zero, List.set_cons_succ]
                    obtain ⟨A', c', rfl⟩ := Kd.R_slice hR
                    obtain ⟨lN, hlN⟩ : ∃ x, x = kk ++ [key] := ⟨_, rfl⟩
                    have hlenN : lN.length ≤ j + 1 := by rw [hlN, List.length_append]; simp; omega
                    rw [← hlN] at hR ⊢
                    have HLN := Aside0.mk hlN
                    clear hlN
                    have I' := I.out.grown hg (I.out.own_ne RR.out (by decide))
                    have TR' := (hg.block _ (blk_lt TR.out) (Kd.R_ne RR.out TR.out (by decide))).trans TR.out
                    have TN' := (hg.block _ (blk_lt TNf.out) (Kd.R_ne RR.out TNf.out (by decide))).trans TNf.out
                    have RD' := Kd.R_over RD.out RR.out (by decide) hg
                    refine hK.out _ _ trivial (fun hNew => ?_)
                    clear hK K hNew
                    refine dc_take 6 trivial ?_
                    have cN : wA.cell? ⟨w2.heap.size, 2, none⟩ = some (.slice B kk.length d) := blk_cell TN' 2
                    have fN : wA.frozen? ⟨w2.heap.size, 2, none⟩ = false := blk_frozen TN' 2
                    refine wpAnyH_ready (rs := [7]) (by kernel_rfl) (by simp) ?_
                    refine (AllReadyH.cons rfl (fun K hK => ?_) AllReadyH.nil)
                    go_simp
                    have TNn := Aside0.mk (heap_setCell_same wA w2.heap.size 2 _ 31 (.slice A' lN.length c') TN')
                    have TRn := Aside0.mk ((Below.heap_setCell wA ⟨w2.heap.size, 2, none⟩ (.slice A' lN.length c') w.heap.size NNW.out).trans TR')
                    have In := Aside0.mk (I'.far (p := ⟨w2.heap.size, 2, none⟩) (fun e => NNE.out e.symm) (.slice A' lN.length c'))
                    have RRn := Aside0.mk (Kd.R_set hR TN' (by decide) 2 (.slice A' lN.length c'))
                    have RDn := Aside0.mk (Kd.R_set RD' TN' (by decide) 2 (.slice A' lN.length c'))
                    have BBn := Aside0.mk (hB.setCell (p := ⟨w2.heap.size, 2, none⟩) NNL.out (.slice A' lN.length c'))
                    clear hR hB hg I' TR' TN' cN fN I TR TNf RR BB HVB RD RD'
                    refine hK.out _ _ trivial (fun hNew => ?_)
                    clear hK K hNew
                    refine wpAnyH_done (by kernel_rfl) ?_ _
                    go_wp2_with fail
                    go_roundw
                    case rel => exact ⟨j + 1, sV, bV, lN, A', c', by omega, by first | rfl | go_num, In, TRn, TNn, RRn, RDn, BBn, ⟨by rw [← HD.out, DS.out, HLN.out]⟩, hlenN⟩
                    case measure => simp [intOf]; omega

              · have HRV : Aside0 ((r1, r2, r3, r4, r5) = outI k s sE true kk l) := ⟨by
                  have := HD.out
                  rw [show cn - j = (cn - (j + 1)) + 1 by omega, decK, if_pos rfl] at this
                  obtain ⟨q1, q2, q3⟩ : sE = s4 ∧ true = b4 ∧ kk = K := by simpa using this
                  rw [HEQ.out.2.2, q1, q2, q3]
                  exact HR0.out⟩
                have y0 : wr.cell? ⟨(w.heap.size + 1), 0, none⟩ = some (.string sE) := blk_cell I.out.1 0
                have hv := HRV.out
                unfold outI at hv
                rw [if_neg (fun h => by cases h.1)] at hv
                cases hv
                have c0 : wr.cell? ⟨w.heap.size, 0, none⟩ = some (.bool false) := blk_cell TR.out 0
                have c1 : wr.cell? ⟨w.heap.size, 1, none⟩ = some (.slice none 0 0) := blk_cell TR.out 1
                have c2 : wr.cell? ⟨w.heap.size, 2, none⟩ = some (.slice none 0 0) := blk_cell TR.out 2
                have c3 : wr.cell? ⟨w.heap.size, 3, none⟩ = some (.slice none 0 0) := blk_cell TR.out 3
                have f0 : wr.frozen? ⟨w.heap.size, 0, none⟩ = false := blk_frozen TR.out 0
                have f1 : wr.frozen? ⟨w.heap.size, 1, none⟩ = false := blk_frozen TR.out 1
                have f2 : wr.frozen? ⟨w.heap.size, 2, none⟩ = false := blk_frozen TR.out 2
                have f3 : wr.frozen? ⟨w.heap.size, 3, none⟩ = false := blk_frozen TR.out 3
                go_wp2
                have hg4 := nd_grown4 wr w.heap.size (.bool false) (.slice none 0 0) (.slice none 0 0) (.slice none 0 0)
                refine bodyPost_ret (results_ct rfl _ _ w.heap.size 31 #[.bool false, .slice none 0 0, .slice none 0 0, .slice none 0 0] (0, 0) _ rfl (nd_put4 wr w.heap.size 31 _ _ _ _ (.bool false) (.slice none 0 0) (.slice none 0 0) (.slice none 0 0) TR.out) Try.underlying31 rfl (by kernel_rfl)) rfl ?_
                exact ⟨_, _, _, rfl, Kd.R_nil _ _ _ _ _, Kd.R_nil _ _ _ _ _, Kd.R_nil _ _ _ _ _, nd_grown_below hg4 BB.out BB.out.size (Nat.le_refl _)⟩

            · have d1 : decide (j < cn) = false := decide_eq_false h
              have d1' : decide ((j : Int) < (cn : Int)) = false := decide_eq_false (by omega)
              have HRV : Aside0 ((r1, r2, r3, r4, r5) = outI k s sE bE kk l) := ⟨by
                have := HD.out
                rw [show cn - j = 0 by omega, decK] at this
                obtain ⟨q1, q2, q3⟩ : sE = s4 ∧ bE = b4 ∧ kk = K := by simpa using this
                rw [HEQ.out.2.2, q1, q2, q3]
                exact HR0.out⟩
              clear HD HEQ HR0 E4 E3
              have y0 : wr.cell? ⟨(w.heap.size + 1), 0, none⟩ = some (.string sE) := blk_cell I.out.1 0
              cases bE
              · by_cases hs : sE.toList = []
                · have g0 : (sE.toList == ([] : List UInt8)) = true := beq_iff_eq.2 hs
                  have g0' : (sE.toList != ([] : List UInt8)) = false := by rw [hs]; rfl
                  by_cases h2 : k = 2
                  · have k2 : ((k : Int) == 2) = true := by rw [h2]; rfl
                    have k2' : ((k : Int) != 2) = false := by rw [h2]; rfl
                    by_cases h160 : 160 < s.size
                    · have g1 : decide ((160 : Int) < (s.size : Int)) = true := decide_eq_true (by omega)
                      have hv := HRV.out
                      unfold outI at hv
                      rw [if_neg (fun h => by have := h.2.2.2.1; omega)] at hv
                      cases hv
                      clear hs h160 h2
                      have c0 : wr.cell? ⟨w.heap.size, 0, none⟩ = some (.bool false) := blk_cell TR.out 0
                      have c1 : wr.cell? ⟨w.heap.size, 1, none⟩ = some (.slice none 0 0) := blk_cell TR.out 1
                      have c2 : wr.cell? ⟨w.heap.size, 2, none⟩ = some (.slice none 0 0) := blk_cell TR.out 2
                      have c3 : wr.cell? ⟨w.heap.size, 3, none⟩ = some (.slice none 0 0) := blk_cell TR.out 3
                      have f0 : wr.frozen? ⟨w.heap.size, 0, none⟩ = false := blk_frozen TR.out 0
                      have f1 : wr.frozen? ⟨w.heap.size, 1, none⟩ = false := blk_frozen TR.out 1
                      have f2 : wr.frozen? ⟨w.heap.size, 2, none⟩ = false := blk_frozen TR.out 2
                      have f3 : wr.frozen? ⟨w.heap.size, 3, none⟩ = false := blk_frozen TR.out 3
                      go_wp2
                      have hg4 := nd_grown4 wr w.heap.size (.bool false) (.slice none 0 0) (.slice none 0 0) (.slice none 0 0)
                      refine bodyPost_ret (results_ct rfl _ _ w.heap.size 31 #[.bool false, .slice none 0 0, .slice none 0 0, .slice none 0 0] (0, 0) _ rfl (nd_put4 wr w.heap.size 31 _ _ _ _ (.bool false) (.slice none 0 0) (.slice none 0 0) (.slice none 0 0) TR.out) Try.underlying31 rfl (by kernel_rfl)) rfl ?_
                      exact ⟨_, _, _, rfl, Kd.R_nil _ _ _ _ _, Kd.R_nil _ _ _ _ _, Kd.R_nil _ _ _ _ _, nd_grown_below hg4 BB.out BB.out.size (Nat.le_refl _)⟩

                    · have g1 : decide ((160 : Int) < (s.size : Int)) = false := decide_eq_false (by omega)
                      have n1 : wr.cell? ⟨w2.heap.size, 1, none⟩ = some (.slice none 0 0) := blk_cell TNf.out 1
                      have n2 : wr.cell? ⟨w2.heap.size, 2, none⟩ = some (.slice B kk.length d) := blk_cell TNf.out 2
                      have n3 : wr.cell? ⟨w2.heap.size, 3, none⟩ = some (.slice A l.length c) := blk_cell TNf.out 3
                      by_cases hl : innerV false [] kk l = true
                      · have CK := Aside0.mk (node_Check.calls false none 0 [] B d kk A c l 0 wr (⟨rfl, by decide, fun h => absurd h (by decide)⟩) (Nat.le_refl _) (Kd.R_reads' RR.out).2.2 (Kd.R_reads' RR.out).2.1 (Kd.R_reads' RD.out).2.2 (Kd.R_reads' RD.out).2.1 (by rw [check_val, hl]; rfl))
                        have hv := HRV.out
                        unfold outI at hv
                        rw [if_pos ⟨rfl, hs, h2, by omega, hl⟩] at hv
                        cases hv
                        clear h160 hl hs h2
                        go_wp2_with fail
                        refine CK.out.mono ?_
                        rintro e w9 ⟨rfl, hB⟩
                        replace TR := Aside0.mk ((hB.block _ (blk_lt TR.out)).trans TR.out)
                        replace TNf := Aside0.mk ((hB.block _ (blk_lt TNf.out)).trans TNf.out)
                        replace RR := Aside0.mk (Kd.R_below RR.out hB)
                        replace RD := Aside0.mk (Kd.R_below RD.out hB)
                        replace BB := Aside0.mk (BB.out.trans (hB.mono BB.out.size))
                        have x0 : w9.cell? ⟨w2.heap.size, 0, none⟩ = some (.bool false) := blk_cell TNf.out 0
                        have x1 : w9.cell? ⟨w2.heap.size, 1, none⟩ = some (.slice none 0 0) := blk_cell TNf.out 1
                        have x2 : w9.cell? ⟨w2.heap.size, 2, none⟩ = some (.slice B r3.length d) := blk_cell TNf.out 2
                        have x3 : w9.cell? ⟨w2.heap.size, 3, none⟩ = some (.slice A r4.length c) := blk_cell TNf.out 3
                        clear hB n0 n1 n2 n3 y0 y1 I
                        have c0 : w9.cell? ⟨w.heap.size, 0, none⟩ = some (.bool false) := blk_cell TR.out 0
                        have c1 : w9.cell? ⟨w.heap.size, 1, none⟩ = some (.slice none 0 0) := blk_cell TR.out 1
                        have c2 : w9.cell? ⟨w.heap.size, 2, none⟩ = some (.slice none 0 0) := blk_cell TR.out 2
                        have c3 : w9.cell? ⟨w.heap.size, 3, none⟩ = some (.slice none 0 0) := blk_cell TR.out 3
                        have f0 : w9.frozen? ⟨w.heap.size, 0, none⟩ = false := blk_frozen TR.out 0
                        have f1 : w9.frozen? ⟨w.heap.size, 1, none⟩ = false := blk_frozen TR.out 1
                        have f2 : w9.frozen? ⟨w.heap.size, 2, none⟩ = false := blk_frozen TR.out 2
                        have f3 : w9.frozen? ⟨w.heap.size, 3, none⟩ = false := blk_frozen TR.out 3
                        go_wp2
                        have hg4 := nd_grown4 w9 w.heap.size (.bool false) (.slice none 0 0) (.slice B r3.length d) (.slice A r4.length c)
                        refine bodyPost_ret (results_ct rfl _ _ w.heap.size 31 #[.bool false, .slice none 0 0, .slice B r3.length d, .slice A r4.length c] (0, 0) _ rfl (nd_put4 w9 w.heap.size 31 _ _ _ _ (.bool false) (.slice none 0 0) (.slice B r3.length d) (.slice A r4.length c) TR.out) Try.underlying31 rfl (by kernel_rfl)) rfl ?_
                        exact ⟨_, _, _, rfl, Kd.R_nil _ _ _ _ _, (Kd.R_mono (Kd.R_step (Kd.R_types RR.out TR.out (by decide)) (fun k hk hl => hg4.block k hl (fun e => hk.2 (Option.some.inj e)))) (fun _ _ => trivial)), (Kd.R_mono (Kd.R_step (Kd.R_types RD.out TR.out (by decide)) (fun k hk hl => hg4.block k hl (fun e => hk.2 (Option.some.inj e)))) (fun _ _ => trivial)), nd_grown_below hg4 BB.out BB.out.size (Nat.le_refl _)⟩

                      · have CK := Aside0.mk (node_Check.calls false none 0 [] B d kk A c l 2 wr (⟨rfl, by decide, fun h => absurd h (by decide)⟩) (Nat.le_refl _) (Kd.R_reads' RR.out).2.2 (Kd.R_reads' RR.out).2.1 (Kd.R_reads' RD.out).2.2 (Kd.R_reads' RD.out).2.1 (by rw [check_val]; rw [Bool.not_eq_true] at hl; rw [hl]; rfl))
                        have hv := HRV.out
                        unfold outI at hv
                        rw [if_neg (fun h => hl h.2.2.2.2)] at hv
                        cases hv
                        clear h160 hl hs h2
                        go_wp2_with fail
                        refine CK.out.mono ?_
                        rintro e w9 ⟨rfl, hB⟩
                        replace TR := Aside0.mk ((hB.block _ (blk_lt TR.out)).trans TR.out)
                        replace BB := Aside0.mk (BB.out.trans (hB.mono BB.out.size))
                        clear hB n0 n1 n2 n3 y0 y1 I
                        have c0 : w9.cell? ⟨w.heap.size, 0, none⟩ = some (.bool false) := blk_cell TR.out 0
                        have c1 : w9.cell? ⟨w.heap.size, 1, none⟩ = some (.slice none 0 0) := blk_cell TR.out 1
                        have c2 : w9.cell? ⟨w.heap.size, 2, none⟩ = some (.slice none 0 0) := blk_cell TR.out 2
                        have c3 : w9.cell? ⟨w.heap.size, 3, none⟩ = some (.slice none 0 0) := blk_cell TR.out 3
                        have f0 : w9.frozen? ⟨w.heap.size, 0, none⟩ = false := blk_frozen TR.out 0
                        have f1 : w9.frozen? ⟨w.heap.size, 1, none⟩ = false := blk_frozen TR.out 1
                        have f2 : w9.frozen? ⟨w.heap.size, 2, none⟩ = false := blk_frozen TR.out 2
                        have f3 : w9.frozen? ⟨w.heap.size, 3, none⟩ = false := blk_frozen TR.out 3
                        go_wp2
                        have hg4 := nd_grown4 w9 w.heap.size (.bool false) (.slice none 0 0) (.slice none 0 0) (.slice none 0 0)
                        refine bodyPost_ret (results_ct rfl _ _ w.heap.size 31 #[.bool false, .slice none 0 0, .slice none 0 0, .slice none 0 0] (0, 0) _ rfl (nd_put4 w9 w.heap.size 31 _ _ _ _ (.bool false) (.slice none 0 0) (.slice none 0 0) (.slice none 0 0) TR.out) Try.underlying31 rfl (by kernel_rfl)) rfl ?_
                        exact ⟨_, _, _, rfl, Kd.R_nil _ _ _ _ _, Kd.R_nil _ _ _ _ _, Kd.R_nil _ _ _ _ _, nd_grown_below hg4 BB.out BB.out.size (Nat.le_refl _)⟩

                  · have k2 : ((k : Int) == 2) = false := beq_eq_false_iff_ne.2 (by omega)
                    have k2' : ((k : Int) != 2) = true := bne_iff_ne.2 (by omega)
                    have hv := HRV.out
                    unfold outI at hv
                    rw [if_neg (fun h => h2 h.2.2.1)] at hv
                    cases hv
                    clear hs h2
                    have c0 : wr.cell? ⟨w.heap.size, 0, none⟩ = some (.bool false) := blk_cell TR.out 0
                    have c1 : wr.cell? ⟨w.heap.size, 1, none⟩ = some (.slice none 0 0) := blk_cell TR.out 1
                    have c2 : wr.cell? ⟨w.heap.size, 2, none⟩ = some (.slice none 0 0) := blk_cell TR.out 2
                    have c3 : wr.cell? ⟨w.heap.size, 3, none⟩ = some (.slice none 0 0) := blk_cell TR.out 3
                    have f0 : wr.frozen? ⟨w.heap.size, 0, none⟩ = false := blk_frozen TR.out 0
                    have f1 : wr.frozen? ⟨w.heap.size, 1, none⟩ = false := blk_frozen TR.out 1
                    have f2 : wr.frozen? ⟨w.heap.size, 2, none⟩ = false := blk_frozen TR.out 2
                    have f3 : wr.frozen? ⟨w.heap.size, 3, none⟩ = false := blk_frozen TR.out 3
                    go_wp2
                    have hg4 := nd_grown4 wr w.heap.size (.bool false) (.slice none 0 0) (.slice none 0 0) (.slice none 0 0)
                    refine bodyPost_ret (results_ct rfl _ _ w.heap.size 31 #[.bool false, .slice none 0 0, .slice none 0 0, .slice none 0 0] (0, 0) _ rfl (nd_put4 wr w.heap.size 31 _ _ _ _ (.bool false) (.slice none 0 0) (.slice none 0 0) (.slice none 0 0) TR.out) Try.underlying31 rfl (by kernel_rfl)) rfl ?_
                    exact ⟨_, _, _, rfl, Kd.R_nil _ _ _ _ _, Kd.R_nil _ _ _ _ _, Kd.R_nil _ _ _ _ _, nd_grown_below hg4 BB.out BB.out.size (Nat.le_refl _)⟩

                · have g0 : (sE.toList == ([] : List UInt8)) = false := beq_eq_false_iff_ne.2 hs
                  have g0' : (sE.toList != ([] : List UInt8)) = true := bne_iff_ne.2 hs
                  have hv := HRV.out
                  unfold outI at hv
                  rw [if_neg (fun h => hs h.2.1)] at hv
                  cases hv
                  clear hs
                  have c0 : wr.cell? ⟨w.heap.size, 0, none⟩ = some (.bool false) := blk_cell TR.out 0
                  have c1 : wr.cell? ⟨w.heap.size, 1, none⟩ = some (.slice none 0 0) := blk_cell TR.out 1
                  have c2 : wr.cell? ⟨w.heap.size, 2, none⟩ = some (.slice none 0 0) := blk_cell TR.out 2
                  have c3 : wr.cell? ⟨w.heap.size, 3, none⟩ = some (.slice none 0 0) := blk_cell TR.out 3
                  have f0 : wr.frozen? ⟨w.heap.size, 0, none⟩ = false := blk_frozen TR.out 0
                  have f1 : wr.frozen? ⟨w.heap.size, 1, none⟩ = false := blk_frozen TR.out 1
                  have f2 : wr.frozen? ⟨w.heap.size, 2, none⟩ = false := blk_frozen TR.out 2
                  have f3 : wr.frozen? ⟨w.heap.size, 3, none⟩ = false := blk_frozen TR.out 3
                  go_wp2
                  have hg4 := nd_grown4 wr w.heap.size (.bool false) (.slice none 0 0) (.slice none 0 0) (.slice none 0 0)
                  refine bodyPost_ret (results_ct rfl _ _ w.heap.size 31 #[.bool false, .slice none 0 0, .slice none 0 0, .slice none 0 0] (0, 0) _ rfl (nd_put4 wr w.heap.size 31 _ _ _ _ (.bool false) (.slice none 0 0) (.slice none 0 0) (.slice none 0 0) TR.out) Try.underlying31 rfl (by kernel_rfl)) rfl ?_
                  exact ⟨_, _, _, rfl, Kd.R_nil _ _ _ _ _, Kd.R_nil _ _ _ _ _, Kd.R_nil _ _ _ _ _, nd_grown_below hg4 BB.out BB.out.size (Nat.le_refl _)⟩

              · have hv := HRV.out
                unfold outI at hv
                rw [if_neg (fun h => by cases h.1)] at hv
                cases hv
                have c0 : wr.cell? ⟨w.heap.size, 0, none⟩ = some (.bool false) := blk_cell TR.out 0
                have c1 : wr.cell? ⟨w.heap.size, 1, none⟩ = some (.slice none 0 0) := blk_cell TR.out 1
                have c2 : wr.cell? ⟨w.heap.size, 2, none⟩ = some (.slice none 0 0) := blk_cell TR.out 2
                have c3 : wr.cell? ⟨w.heap.size, 3, none⟩ = some (.slice none 0 0) := blk_cell TR.out 3
                have f0 : wr.frozen? ⟨w.heap.size, 0, none⟩ = false := blk_frozen TR.out 0
                have f1 : wr.frozen? ⟨w.heap.size, 1, none⟩ = false := blk_frozen TR.out 1
                have f2 : wr.frozen? ⟨w.heap.size, 2, none⟩ = false := blk_frozen TR.out 2
                have f3 : wr.frozen? ⟨w.heap.size, 3, none⟩ = false := blk_frozen TR.out 3
                go_wp2
                have hg4 := nd_grown4 wr w.heap.size (.bool false) (.slice none 0 0) (.slice none 0 0) (.slice none 0 0)
                refine bodyPost_ret (results_ct rfl _ _ w.heap.size 31 #[.bool false, .slice none 0 0, .slice none 0 0, .slice none 0 0] (0, 0) _ rfl (nd_put4 wr w.heap.size 31 _ _ _ _ (.bool false) (.slice none 0 0) (.slice none 0 0) (.slice none 0 0) TR.out) Try.underlying31 rfl (by kernel_rfl)) rfl ?_
                exact ⟨_, _, _, rfl, Kd.R_nil _ _ _ _ _, Kd.R_nil _ _ _ _ _, Kd.R_nil _ _ _ _ _, nd_grown_below hg4 BB.out BB.out.size (Nat.le_refl _)⟩
/-- What Decode answers. -/
def decV (s : ByteArray) : Bool × List S48 × List ByteArray × List Int × Int :=
  if (rdb s false).1 = 1 then
    outL s (decP (rdb (rdb s false).2.1 (rdb s false).2.2).1 (rdb (rdb s false).2.1 (rdb s false).2.2).2.1 (rdb (rdb s false).2.1 (rdb s false).2.2).2.2 []).1 (decP (rdb (rdb s false).2.1 (rdb s false).2.2).1 (rdb (rdb s false).2.1 (rdb s false).2.2).2.1 (rdb (rdb s false).2.1 (rdb s false).2.2).2.2 []).2.1 (decP (rdb (rdb s false).2.1 (rdb s false).2.2).1 (rdb (rdb s false).2.1 (rdb s false).2.2).2.1 (rdb (rdb s false).2.1 (rdb s false).2.2).2.2 []).2.2
  else
    let D := decD (rdb (rdb s false).2.1 (rdb s false).2.2).1 (rdb (rdb s false).2.1 (rdb s false).2.2).2.1 (rdb (rdb s false).2.1 (rdb s false).2.2).2.2 []
    let K := decK ((rdb (rdb s false).2.1 (rdb s false).2.2).1 - 1) D.1 D.2.1 []
    outI (rdb s false).1 s K.1 K.2.1 K.2.2 D.2.2
def node_Decode.f (a0 : ByteArray) : Option (Bool × List S48 × List ByteArray × List Int × Int) := some (decV a0)
theorem node_Decode.calls (a0 : ByteArray) (r1 : Bool) (r2 : List (S48)) (r3 : List ByteArray) (r4 : List Int) (r5 : Int) (w : World) (h : node_Decode.f a0 = some (r1, r2, r3, r4, r5)) :
    Calls Try.prog 25 #[.string a0] w fun e w' => ∃ v1_ v2_ v3_ : Value, e = .returned (.tuple #[.agg #[.bool r1, v1_, v2_, v3_], .int .i64 r5]) ∧ Kd.R k48 48 w' w.heap.size (fun _ => True) v1_ r2 ∧ Kd.R Kd.string 9 w' w.heap.size (fun _ => True) v2_ r3 ∧ Kd.R (Kd.int .i64) 3 w' w.heap.size (fun _ => True) v3_ r4 ∧ Below w.heap.size w w' := by
  have h' : decV a0 = (r1, r2, r3, r4, r5) := Option.some.inj h
  unfold decV at h'
  by_cases hk : (rdb a0 false).1 = 1
  · rw [if_pos hk] at h'
    exact dec_leaf a0 _ _ _ _ _ _ _ _ w (Prod.ext hk rfl) rfl rfl r1 r2 r3 r4 r5 h'.symm
  · rw [if_neg hk] at h'
    exact dec_inner _ hk a0 _ _ _ _ _ _ _ _ _ _ _ w rfl rfl rfl rfl r1 r2 r3 r4 r5 h'.symm
end
end Go.Proofs.Ytjjfeoigjhbbpaa.PA
namespace Go.Proofs.Ytjjfeoigjhbbpaa.PA
section

open Go.RowKit Go.Proofs.YtjjfeoigjhbbpaaW.PrintWords Go.Proofs.YtjjfeoigjhbbpaaW.PrintLast Go.Proofs.YtjjfeoigjhbbpaaW.PrintMore
attribute [local go_sem] pr_leq pr_geq pr_gtr max2_int min2_int max_two min_two max_three min_three max_four min_four
set_option linter.unusedVariables false
set_option linter.unusedSimpArgs false
def kl (a b : ByteArray) : Prop := Op.bytesLess a.toList b.toList = true
instance (a b : ByteArray) : Decidable (kl a b) := inferInstanceAs (Decidable (_ = true))
end
end Go.Proofs.Ytjjfeoigjhbbpaa.PA
namespace Go.Proofs.Ytjjfeoigjhbbpaa.PA
section

open Go.RowKit Go.Proofs.YtjjfeoigjhbbpaaW.PrintWords Go.Proofs.YtjjfeoigjhbbpaaW.PrintLast Go.Proofs.YtjjfeoigjhbbpaaW.PrintMore
attribute [local go_sem] pr_leq pr_geq pr_gtr max2_int min2_int max_two min_two max_three min_three max_four min_four
set_option linter.unusedVariables false
set_option linter.unusedSimpArgs false
theorem rd48 {P : List S48} {i : Nat} (h : i < P.length) : rd_T48 P (i : Int) = P[i] := by unfold rd_T48; rw [Int.toNat_natCast, List.getD_eq_getElem?_getD, List.getElem?_eq_getElem h]; rfl
end
end Go.Proofs.Ytjjfeoigjhbbpaa.PA
namespace Go.Proofs.Ytjjfeoigjhbbpaa.PA
section

open Go.RowKit Go.Proofs.YtjjfeoigjhbbpaaW.PrintWords Go.Proofs.YtjjfeoigjhbbpaaW.PrintLast Go.Proofs.YtjjfeoigjhbbpaaW.PrintMore
attribute [local go_sem] pr_leq pr_geq pr_gtr max2_int min2_int max_two min_two max_three min_three max_four min_four
set_option linter.unusedVariables false
set_option linter.unusedSimpArgs false
def cisternlaw11_known.f  : Option (Bool) := (node_Encode.f true (([(⟨(⟨#[97]⟩ : ByteArray), (⟨#[49]⟩ : ByteArray)⟩ : S48)] : List (S48))) ([] : List ByteArray) ([] : List Int)).bind fun bt113 => (if bt113.2 = 0 then (some (bt113.1.toList == ([1, 1, 1, 97, 1, 49] : List UInt8))) else (some false))
set_option maxHeartbeats 8000000 in
set_option maxRecDepth 100000 in
theorem cisternlaw11_known.calls  (r : Bool) (w : World) (h : cisternlaw11_known.f  = some r) :
    Calls Try.prog 12 #[] w fun e w' => e = .returned (.bool r) ∧ Below w.heap.size w w' := by
  have hu48 := Try.underlying48
  have hu31 := Try.underlying31
  have HB := Aside0.mk (Below.refl w.heap.size w)
  have H : ((node_Encode.f true (([(⟨(⟨#[97]⟩ : ByteArray), (⟨#[49]⟩ : ByteArray)⟩ : S48)] : List (S48))) ([] : List ByteArray) ([] : List Int)).bind fun bt113 => (if bt113.2 = 0 then (some (bt113.1.toList == ([1, 1, 1, 97, 1, 49] : List UInt8))) else (some false))) = some r := h
  clear h
  obtain ⟨y110, hy110⟩ : ∃ y_ : List (S48), y_ = (([(⟨(⟨#[97]⟩ : ByteArray), (⟨#[49]⟩ : ByteArray)⟩ : S48)] : List (S48))) := ⟨_, rfl⟩
  replace H : ((node_Encode.f true y110 ([] : List ByteArray) ([] : List Int)).bind fun bt113 => (if bt113.2 = 0 then (some (bt113.1.toList == ([1, 1, 1, 97, 1, 49] : List UInt8))) else (some false))) = some r := by first | (rw [hy110]; with_reducible exact H) | (have H2_ := (Option.bind_some _ _).symm.trans H; rw [hy110]; with_reducible exact H2_) | (have H2_ := (Option.bind_some _ _).symm.trans H; with_reducible exact H2_) | with_reducible exact H | (rw [hy110]; exact H) | exact H
  have Ny110 := Aside0.mk hy110
  clear hy110
  replace H := Option.bind_eq_some_iff.mp H
  obtain ⟨⟨t113, t114⟩, A10, H⟩ := H
  replace H : (if t114 = 0 then (some (t113.toList == ([1, 1, 1, 97, 1, 49] : List UInt8))) else (some false)) = some r := H
  have A1 := Aside0.mk A10
  clear A10
  by_cases c2 : t114 = 0
  · rw [if_pos c2] at H
    have c2b0 : (t114 == 0) = true := beq_iff_eq.mpr c2
    have c2b1 : (t114 != 0) = false := bne_eq_false_iff_eq.mpr c2
    clear c2
    obtain rfl := Option.some.inj H
    go_enter Try.func12, Try.ntmps12
    go_wp2_with (first | ((with_reducible refine gate_dst (N := 5) rfl ?_); refine Kd.R_lit k48 _ 48 ?hg (N := 5) ?hd (xs := ([(⟨(⟨#[97]⟩ : ByteArray), (⟨#[49]⟩ : ByteArray)⟩ : S48)] : List (S48))) (inner := [.string (⟨#[97]⟩ : ByteArray), .string (⟨#[49]⟩ : ByteArray)]) (ok := fun _ => True) (okp := fun _ => True) ?hr ?hp (fun _ hk => hk) trivial (Below.refl _ _) (Nat.le_refl _) (by simp) ?_; (case hd => rfl); (case hg => rfl); (case hr => first | (go_simp; done) | (go_simp; rfl)); (case hp => exact (Reps.c2 (show Kd.M k48 _ _ _ (⟨(⟨#[97]⟩ : ByteArray), (⟨#[49]⟩ : ByteArray)⟩ : S48) [.string (⟨#[97]⟩ : ByteArray), .string (⟨#[49]⟩ : ByteArray)] from (k48_mkM _ _ _ (⟨(⟨#[97]⟩ : ByteArray), (⟨#[49]⟩ : ByteArray)⟩ : S48) )) (Reps.none _ _))); intro v111 w3 ho4 hb hg_ hnew_; clear hg_ hnew_; (first | rw [← Ny110.out] at ho4 | (simp only [Int.reduceToNat] at ho4; rw [← Ny110.out] at ho4)); have n0_ := Aside0.mk (Kd.R_lower ho4 (below_size (by repeat (first | (with_reducible first | exact HB.out | apply below_alloc | apply pw_below_drewN | apply below_drew1) | exact HB.out)))); have n1_ := Aside0.mk (below_step (by repeat (first | (with_reducible first | exact HB.out | apply below_alloc | apply pw_below_drewN | apply below_drew1) | exact HB.out)) hb); clear HB; have HO112 := n0_; have HB := n1_; clear n0_ n1_; clear hb ho4; obtain ⟨Ao5, co5, eo5⟩ := Kd.R_slice HO112.out; subst eo5) | ((with_reducible refine gate_callee (f := 13) rfl ?_); refine goesL_ (some 7) rfl rfl Try.func13 (by kernel_rfl) rfl #[.agg #[.bool true, .slice Ao5 y110.length co5, .slice none 0 0, .slice none 0 0]] rfl (by (try simp only [List.map_toArray, List.map_cons, List.map_nil]); first | done | rfl | (simp only [List.length_drop, List.length_take]; rfl)) ?_; (refine (node_Encode.calls true _ _ y110 _ _ ([] : List ByteArray) _ _ ([] : List Int) t113 t114 _ ?side1 ?side2 ?side3 ?side4 ?side5 ?side6 A1.out).mono ?_); (case side1 => repeat (first | exact (Kd.R_reads' HO112.out).2.2 | (with_reducible refine Kd.C_alloc ?_ _) | (with_reducible refine Kd.C_drewN ?_ _) | (with_reducible refine Kd.C_drew ?_))); (case side2 => exact (Kd.R_reads' HO112.out).2.1); (case side3 => exact Kd.C_nil _ _); (case side4 => exact Nat.le_refl _); (case side5 => exact Kd.C_nil _ _); (case side6 => exact Nat.le_refl _); rintro e w6 ⟨rfl, hb⟩; refine ⟨_, rfl, ?_⟩; have n0_ := Aside0.mk (Kd.R_below (by (with_reducible repeat (first | apply Kd.R_alloc | apply Kd.R_drewN | apply Kd.R_drew)); exact HO112.out) hb); have n1_ := Aside0.mk (below_step (by repeat (first | (with_reducible first | exact HB.out | apply below_alloc | apply pw_below_drewN | apply below_drew1) | exact HB.out)) hb); clear HO112; clear HB; have HO112 := n0_; have HB := n1_; clear n0_ n1_; (try clear hb); (try clear hb2); (try clear hk); (try clear hi)))
    go_ret
    exact ⟨by first | rfl | (simp [errW_none, errW_some] <;> rfl) | (simp [*, errW_none, errW_some] <;> rfl), by repeat (first | (with_reducible first | exact HB.out | apply below_alloc | apply pw_below_drewN | apply below_drew1) | exact HB.out)⟩
  · rw [if_neg c2] at H
    have c2b0 : (t114 == 0) = false := beq_eq_false_iff_ne.mpr c2
    have c2b1 : (t114 != 0) = true := bne_iff_ne.mpr c2
    obtain rfl := Option.some.inj H
    go_enter Try.func12, Try.ntmps12
    go_wp2_with (first | ((with_reducible refine gate_dst (N := 5) rfl ?_); refine Kd.R_lit k48 _ 48 ?hg (N := 5) ?hd (xs := ([(⟨(⟨#[97]⟩ : ByteArray), (⟨#[49]⟩ : ByteArray)⟩ : S48)] : List (S48))) (inner := [.string (⟨#[97]⟩ : ByteArray), .string (⟨#[49]⟩ : ByteArray)]) (ok := fun _ => True) (okp := fun _ => True) ?hr ?hp (fun _ hk => hk) trivial (Below.refl _ _) (Nat.le_refl _) (by simp) ?_; (case hd => rfl); (case hg => rfl); (case hr => first | (go_simp; done) | (go_simp; rfl)); (case hp => exact (Reps.c2 (show Kd.M k48 _ _ _ (⟨(⟨#[97]⟩ : ByteArray), (⟨#[49]⟩ : ByteArray)⟩ : S48) [.string (⟨#[97]⟩ : ByteArray), .string (⟨#[49]⟩ : ByteArray)] from (k48_mkM _ _ _ (⟨(⟨#[97]⟩ : ByteArray), (⟨#[49]⟩ : ByteArray)⟩ : S48) )) (Reps.none _ _))); intro v111 w7 ho8 hb hg_ hnew_; clear hg_ hnew_; (first | rw [← Ny110.out] at ho8 | (simp only [Int.reduceToNat] at ho8; rw [← Ny110.out] at ho8)); have n0_ := Aside0.mk (Kd.R_lower ho8 (below_size (by repeat (first | (with_reducible first | exact HB.out | apply below_alloc | apply pw_below_drewN | apply below_drew1) | exact HB.out)))); have n1_ := Aside0.mk (below_step (by repeat (first | (with_reducible first | exact HB.out | apply below_alloc | apply pw_below_drewN | apply below_drew1) | exact HB.out)) hb); clear HB; have HO112 := n0_; have HB := n1_; clear n0_ n1_; clear hb ho8; obtain ⟨Ao9, co9, eo9⟩ := Kd.R_slice HO112.out; subst eo9) | ((with_reducible refine gate_callee (f := 13) rfl ?_); refine goesL_ (some 7) rfl rfl Try.func13 (by kernel_rfl) rfl #[.agg #[.bool true, .slice Ao9 y110.length co9, .slice none 0 0, .slice none 0 0]] rfl (by (try simp only [List.map_toArray, List.map_cons, List.map_nil]); first | done | rfl | (simp only [List.length_drop, List.length_take]; rfl)) ?_; (refine (node_Encode.calls true _ _ y110 _ _ ([] : List ByteArray) _ _ ([] : List Int) t113 t114 _ ?side1 ?side2 ?side3 ?side4 ?side5 ?side6 A1.out).mono ?_); (case side1 => repeat (first | exact (Kd.R_reads' HO112.out).2.2 | (with_reducible refine Kd.C_alloc ?_ _) | (with_reducible refine Kd.C_drewN ?_ _) | (with_reducible refine Kd.C_drew ?_))); (case side2 => exact (Kd.R_reads' HO112.out).2.1); (case side3 => exact Kd.C_nil _ _); (case side4 => exact Nat.le_refl _); (case side5 => exact Kd.C_nil _ _); (case side6 => exact Nat.le_refl _); rintro e w10 ⟨rfl, hb⟩; refine ⟨_, rfl, ?_⟩; have n0_ := Aside0.mk (Kd.R_below (by (with_reducible repeat (first | apply Kd.R_alloc | apply Kd.R_drewN | apply Kd.R_drew)); exact HO112.out) hb); have n1_ := Aside0.mk (below_step (by repeat (first | (with_reducible first | exact HB.out | apply below_alloc | apply pw_below_drewN | apply below_drew1) | exact HB.out)) hb); clear HO112; clear HB; have HO112 := n0_; have HB := n1_; clear n0_ n1_; (try clear hb); (try clear hb2); (try clear hk); (try clear hi)))
    go_ret
    exact ⟨by first | rfl | (simp [errW_none, errW_some] <;> rfl) | (simp [*, errW_none, errW_some] <;> rfl), by repeat (first | (with_reducible first | exact HB.out | apply below_alloc | apply pw_below_drewN | apply below_drew1) | exact HB.out)⟩
end
end Go.Proofs.Ytjjfeoigjhbbpaa.PA
namespace Go.Proofs.Ytjjfeoigjhbbpaa.PA
section

open Go.RowKit Go.Proofs.YtjjfeoigjhbbpaaW.PrintWords Go.Proofs.YtjjfeoigjhbbpaaW.PrintLast Go.Proofs.YtjjfeoigjhbbpaaW.PrintMore
attribute [local go_sem] pr_leq pr_geq pr_gtr max2_int min2_int max_two min_two max_three min_three max_four min_four
set_option linter.unusedVariables false
set_option linter.unusedSimpArgs false
def cisternref11_Key.f (a0 : ByteArray) : Option (Bool) := if a0.toList = ([] : List UInt8) then (some false) else (some (decide ((a0.size : Int) ≤ 32)))
set_option maxHeartbeats 8000000 in
set_option maxRecDepth 100000 in
theorem cisternref11_Key.calls (a0 : ByteArray) (r : Bool) (w : World) (h : cisternref11_Key.f a0 = some r) :
    Calls Try.prog 29 #[.string a0] w fun e w' => e = .returned (.bool r) ∧ Drawn0 w w' := by
  have H : (if a0.toList = ([] : List UInt8) then (some false) else (some (decide ((a0.size : Int) ≤ 32)))) = some r := h
  clear h
  by_cases c2 : a0.toList = ([] : List UInt8)
  · rw [if_pos c2] at H
    have c2b0 : (a0.toList == ([] : List UInt8)) = true := beq_iff_eq.mpr c2
    have c2b1 : (a0.toList != ([] : List UInt8)) = false := bne_eq_false_iff_eq.mpr c2
    clear c2
    obtain rfl := Option.some.inj H
    go_enter Try.func29, Try.ntmps29
    go_wp2
    go_ret
    exact ⟨by first | rfl | (simp; done) | (simp [*]; done), by repeat (first | exact Drawn0.refl _ | apply Drawn0.step)⟩
  · rw [if_neg c2] at H
    have c2b0 : (a0.toList == ([] : List UInt8)) = false := beq_eq_false_iff_ne.mpr c2
    have c2b1 : (a0.toList != ([] : List UInt8)) = true := bne_iff_ne.mpr c2
    obtain rfl := Option.some.inj H
    go_enter Try.func29, Try.ntmps29
    go_wp2
    go_ret
    exact ⟨by first | rfl | (simp; done) | (simp [*]; done), by repeat (first | exact Drawn0.refl _ | apply Drawn0.step)⟩
end
end Go.Proofs.Ytjjfeoigjhbbpaa.PA
