/- Texts of this claim: contracts of the functions that the statement reaches, and plain laws of what they compute. -/
import Derived.Test.YtjjfeoigjhbbpaaQI2
set_option linter.unusedVariables false
set_option linter.unusedSimpArgs false
namespace Go.Proofs.Ytjjfeoigjhbbpaa.PA
section

open Go.RowKit Go.Proofs.YtjjfeoigjhbbpaaW.PrintWords Go.Proofs.YtjjfeoigjhbbpaaW.PrintLast Go.Proofs.YtjjfeoigjhbbpaaW.PrintMore
attribute [local go_sem] pr_leq pr_geq pr_gtr max2_int min2_int max_two min_two max_three min_three max_four min_four
set_option linter.unusedVariables false
set_option linter.unusedSimpArgs false
def rdb (s : ByteArray) (b : Bool) : Nat × ByteArray × Bool := if s.size = 0 then (0, s, true) else ((bt (s.extract 0 1) 0).toNat, s.extract 1 s.size, b)
def zerosB (n : Nat) : ByteArray := ⟨(Lib.repeatL [0] n).toArray⟩
def rdt (s : ByteArray) (b : Bool) : ByteArray × ByteArray × Bool := if (rdb s b).2.1.size < (rdb s b).1 then (zerosB (rdb s b).1, (rdb s b).2.1, true) else ((rdb s b).2.1.extract 0 (rdb s b).1, (rdb s b).2.1.extract (rdb s b).1 (rdb s b).2.1.size, (rdb s b).2.2)
theorem rdb_le (s : ByteArray) (b : Bool) : (rdb s b).1 ≤ 255 := by
  unfold rdb
  split
  · exact Nat.zero_le _
  · have := bt_range (s.extract 0 1) 0
    show (bt (s.extract 0 1) 0).toNat ≤ 255
    omega
theorem byte_val (s : ByteArray) (b : Bool) : node_reader_byte.f s b = some (((rdb s b).1 : Int), (rdb s b).2.1, (rdb s b).2.2) := by
  unfold node_reader_byte.f node_reader_bytes.f rdb
  by_cases h : s.size = 0
  · have h1 : strings_Repeat.f ⟨#[0]⟩ 1 = some ⟨#[0]⟩ := by
      unfold strings_Repeat.f
      rw [if_pos ⟨by decide, by decide, by decide⟩]
      rfl
    have h2 : wrap64 (bt ⟨#[0]⟩ 0) = 0 := by
      have : bt ⟨#[0]⟩ 0 = 0 := rfl
      rw [this]
      unfold wrap64
      omega
    rw [if_pos h, if_pos (by omega), h1, Option.bind_some, Option.bind_some]
    show (if (0 : Int) < 1 then some (wrap64 (bt ⟨#[0]⟩ 0), s, true) else none) = _
    rw [if_pos (by decide), h2]
    rfl
  · have he : (s.extract 0 1).size = 1 := by simp; omega
    have hr := bt_range (s.extract 0 1) 0
    rw [if_neg h, if_neg (by omega), if_pos (by omega), if_pos (by omega), Option.bind_some]
    show (if (0 : Int) < ((s.extract 0 1).size : Int) then some (wrap64 (bt (s.extract 0 1) 0), s.extract 1 s.size, b) else none) = _
    rw [if_pos (by rw [he]; decide)]
    congr 2
    unfold wrap64
    omega
theorem text_val (s : ByteArray) (b : Bool) : node_reader_text.f s b = some (rdt s b) := by
  have hle := rdb_le s b
  unfold node_reader_text.f
  rw [byte_val, Option.bind_some]
  unfold node_reader_bytes.f rdt
  dsimp only
  by_cases h : (rdb s b).2.1.size < (rdb s b).1
  · rw [if_pos (by omega), if_pos h]
    have : strings_Repeat.f ⟨#[0]⟩ (((rdb s b).1 : Nat) : Int) = some (zerosB (rdb s b).1) := by
      unfold strings_Repeat.f
      rw [Int.toNat_natCast, if_pos ⟨by omega, by omega, by show 1 * _ ≤ _; omega⟩]
      rfl
    show ((strings_Repeat.f ⟨#[0]⟩ (((rdb s b).1 : Nat) : Int)).bind _).bind _ = _
    rw [this]
    rfl
  · rw [if_neg (by omega), if_pos (by omega), if_pos (by omega), if_neg h]
    rfl
/-- So many pairs, keys, kids, as far as the reader isn't bad. -/
def decP : Nat → ByteArray → Bool → List S48 → ByteArray × Bool × List S48
  | 0, s, b, l => (s, b, l)
  | n + 1, s, b, l => if b then (s, b, l) else decP n (rdt (rdt s b).2.1 (rdt s b).2.2).2.1 (rdt (rdt s b).2.1 (rdt s b).2.2).2.2 (l ++ [⟨(rdt s b).1, (rdt (rdt s b).2.1 (rdt s b).2.2).1⟩])
def decK : Nat → ByteArray → Bool → List ByteArray → ByteArray × Bool × List ByteArray
  | 0, s, b, l => (s, b, l)
  | n + 1, s, b, l => if b then (s, b, l) else decK n (rdt s b).2.1 (rdt s b).2.2 (l ++ [(rdt s b).1])
def decD : Nat → ByteArray → Bool → List Int → ByteArray × Bool × List Int
  | 0, s, b, l => (s, b, l)
  | n + 1, s, b, l => if b then (s, b, l) else decD n (rdb (rdb s b).2.1 (rdb s b).2.2).2.1 (rdb (rdb s b).2.1 (rdb s b).2.2).2.2 (l ++ [(((rdb s b).1 + 256 * (rdb (rdb s b).2.1 (rdb s b).2.2).1 : Nat) : Int)])
theorem dc_take {P : Program} {md : Region.Mode} {ops : Array Oper} {Q : Exit → Act → World → Prop} {S : World → Prop} {fuel : Nat} {listed : Array Bool} {a : Act} {w : World} (i : Nat) {oi : Oper} {v : Value} {a' : Act} (hS : S w)
    (h : wpAnyH P md ops Q S fuel (listed.setIfInBounds i true) a' w) (hi : ops[i]? = some oi := by rfl) (hs : Region.noSelect ops = true := by kernel_rfl) (hf : Region.free md ops listed i = true := by kernel_rfl) (hr : (Region.ready md ops listed).contains i = true := by kernel_rfl)
    (hQ : ∀ c a w, Q (.panic c) (a.put oi.dst v) w → Q (.panic c) a w := by exact fun _ _ _ h => h)
    (hy : YieldsIf P ops S oi v a := by exact Or.inl ⟨by rfl, by (intro w hSw; (try dsimp only at hSw); go_simp; try with_reducible rfl)⟩)
    (ha : a.put oi.dst v = a' := by (first | (simp only [Act.put, List.getElem_toArray, List.getElem_cons_zero, List.getElem_cons_succ, List.setIfInBounds_toArray, List.set_cons_zero, List.set_cons_succ]; done) | (simp only [Act.put, List.getElem_toArray, List.getElem_cons_zero, List.getElem_cons_succ, List.setIfInBounds_toArray, List.set_cons_zero, List.set_cons_succ]; rfl))) :
    wpAnyH P md ops Q S (fuel + 1) listed a w := by
  subst ha
  exact wpAnyH_take hi hs hf hr hQ hy hS h
theorem nd_keep {w w' : World} {g k T : Nat} {cs : Array Value} (hk : KeepBut w w' g none) (h : w.heap[k]? = some (.cells cs T (0, 0))) (hn : k ≠ g) : w'.heap[k]? = some (.cells cs T (0, 0)) := (hk.2 k (blk_lt h) hn (by simp)).trans h
def outL (s s3 : ByteArray) (b3 : Bool) (P : List S48) : Bool × List S48 × List ByteArray × List Int × Int := if b3 = false ∧ s3.toList = [] ∧ s.size ≤ 160 ∧ leafV true P [] [] = true then (true, P, [], [], 0) else (false, [], [], [], 2)
theorem one_row {w : World} {vb : Nat} {p : S48} (hv : w.heap[vb]? = some (.cells #[.string p.f0, .string p.f1] 48 (0, 0))) : ReadsRow (k48.K w) k48.sz w (some ⟨vb, 0, none⟩) 1 [p] := ⟨rfl, by decide, fun _ => ⟨_, rfl, fun j q hj => by
  cases j with
  | zero =>
    cases hj
    refine ⟨[.string p.f0, .string p.f1], rfl, ⟨[_], [_], rfl, rfl, rfl⟩, fun i u hu => ?_⟩
    rw [add_plain, blk_cell hv]
    match i, hu with
    | 0, hu => exact hu
    | 1, hu => exact hu
  | succ j => cases hj⟩⟩
set_option maxHeartbeats 4000000 in
set_option maxRecDepth 100000 in
theorem dec_leaf (s s1 s2 s3 : ByteArray) (b1 b2 b3 : Bool) (cn : Nat) (P : List S48) (w : World) (e1 : rdb s false = (1, s1, b1)) (e2 : rdb s1 b1 = (cn, s2, b2)) (e3 : decP cn s2 b2 [] = (s3, b3, P)) (r1 : Bool) (r2 : List (S48)) (r3 : List ByteArray) (r4 : List Int) (r5 : Int) (hr : (r1, r2, r3, r4, r5) = outL s s3 b3 P) : Calls Try.prog 25 #[.string s] w fun e w' => ∃ v1_ v2_ v3_ : Value, e = .returned (.tuple #[.agg #[.bool r1, v1_, v2_, v3_], .int .i64 r5]) ∧ Kd.R k48 48 w' w.heap.size (fun _ => True) v1_ r2 ∧ Kd.R Kd.string 9 w' w.heap.size (fun _ => True) v2_ r3 ∧ Kd.R (Kd.int .i64) 3 w' w.heap.size (fun _ => True) v3_ r4 ∧ Below w.heap.size w w' := by
  have HR0 := Aside0.mk hr
  clear hr
  have F1 : Aside0 (node_reader_byte.f s false = some ((1 : Int), s1, b1)) := ⟨by rw [byte_val, e1]; rfl⟩
  have F2 : Aside0 (node_reader_byte.f s1 b1 = some ((cn : Int), s2, b2)) := ⟨by rw [byte_val, e2]⟩
  have hcn : cn ≤ 255 := by have := rdb_le s1 b1; rw [e2] at this; exact this
  have E3 := Aside0.mk e3
  clear e1 e2 e3
  obtain ⟨wy, hwy⟩ : ∃ wy, wy = w.alloc (.cells #[.bool false, .slice none 0 0, .slice none 0 0, .slice none 0 0] 31) := ⟨_, rfl⟩
  obtain ⟨w0, hw0⟩ : ∃ w0, w0 = wy.alloc (.cells #[.string s, .bool false] 89) := ⟨_, rfl⟩
  have ny : wy.heap.size = w.heap.size + 1 := by rw [hwy]; simp
  have t0y := heap_alloc_new w (.cells #[.bool false, .slice none 0 0, .slice none 0 0, .slice none 0 0] 31)
  have bel := below_alloc (Below.refl w.heap.size w) (.cells #[.bool false, .slice none 0 0, .slice none 0 0, .slice none 0 0] 31)
  rw [← hwy] at t0y bel
  have TR := Aside0.mk ((Lib.alloc_old wy (.cells #[.string s, .bool false] 89) w.heap.size (blk_lt t0y)).trans t0y)
  have i0 := IsS89.new w wy s false bel
  rw [← hw0] at TR i0
  rw [ny] at i0
  have I0 := Aside0.mk i0
  have B0 : Aside0 (Below w.heap.size w w0) := ⟨by rw [hw0]; exact below_alloc bel _⟩
  have HW0 : Aside0 (w0 = (w.alloc (.cells #[.bool false, .slice none 0 0, .slice none 0 0, .slice none 0 0] 31)).alloc (.cells #[.string s, .bool false] 89)) := ⟨by rw [hw0, hwy]⟩
  clear hwy hw0 ny t0y bel i0
  go_enter Try.func25, Try.ntmps25
  go_wp2_with fail
  rw [← HW0.out]
  refine (node_reader_byte.calls (w.heap.size + 1) s false _ s1 b1 w w0 I0.out B0.out F1.out).mono ?_
  rintro e w1 ⟨rfl, hI, hB, hK⟩
  have I1 := Aside0.mk hI
  have B1 := Aside0.mk hB
  replace TR := Aside0.mk (nd_keep hK TR.out (by omega))
  clear hI hB hK I0 B0
  go_wp2_with fail
  refine (node_reader_byte.calls (w.heap.size + 1) s1 b1 _ s2 b2 w w1 I1.out B1.out F2.out).mono ?_
  rintro e w2 ⟨rfl, hI, hB, hK⟩
  have I2 := Aside0.mk hI
  have B2 := Aside0.mk hB
  replace TR := Aside0.mk (nd_keep hK TR.out (by omega))
  clear hI hB hK I1 B1

  have hB := below_alloc (Below.refl w2.heap.size w2) (.cells #[.bool true, .slice none 0 0, .slice none 0 0, .slice none 0 0] 31)
  have tn := heap_alloc_new w2 (.cells #[.bool true, .slice none 0 0, .slice none 0 0, .slice none 0 0] 31)
  obtain ⟨w3, hw3⟩ : ∃ x, x = w2.alloc (.cells #[.bool true, .slice none 0 0, .slice none 0 0, .slice none 0 0] 31) := ⟨_, rfl⟩
  have HW3 := Aside0.mk hw3
  rw [← hw3] at hB tn
  have TN0 := Aside0.mk tn
  have I3 := Aside0.mk (I2.out.below hB)
  have TR3 := Aside0.mk ((hB.block _ (blk_lt TR.out)).trans TR.out)
  have B3 := Aside0.mk (B2.out.trans (hB.mono B2.out.size))
  have NNE : Aside0 (w2.heap.size ≠ (w.heap.size + 1)) := ⟨by have := I2.out.lt; omega⟩
  have NNW : Aside0 (w.heap.size ≠ w2.heap.size) := ⟨by have := I2.out.lt; omega⟩
  have NNL : Aside0 (w.heap.size ≤ w2.heap.size) := ⟨B2.out.size⟩
  clear hw3 hB tn
  go_wp2_with fail
  rw [← HW3.out]
  clear TR I2
  go_loopw [8] (fun v8 W => ∃ (i : Nat) (sC : ByteArray) (bC : Bool) (l : List S48) (A : Option Addr) (c : Nat), i ≤ cn ∧ v8 = .int .i64 (i : Int) ∧ Aside0 (IsS89 w W (w.heap.size + 1) sC bC) ∧ Aside0 (W.heap[w.heap.size]? = some (.cells #[.bool false, .slice none 0 0, .slice none 0 0, .slice none 0 0] 31 (0, 0))) ∧ Aside0 (W.heap[w2.heap.size]? = some (.cells #[.bool true, .slice A l.length c, .slice none 0 0, .slice none 0 0] 31 (0, 0))) ∧ Aside0 (k48.R 48 W w.heap.size (fun _ => True) (.slice A l.length c) l) ∧ Aside0 (Below w.heap.size w W) ∧ Aside0 (decP (cn - i) sC bC l = (s3, b3, P)) ∧ l.length ≤ i) (fun v8 _ => (cn - intOf v8).toNat)
  case atStart => exact ⟨0, s2, b2, [], none, 0, by omega, rfl, I3, TR3, TN0, ⟨Kd.R_nil _ _ _ _ _⟩, B3, E3, by simp⟩
  case round =>
    obtain ⟨i, sC, bC, l, A, c, hi, rfl, I, TR, TNf, RR, BB, HD, hll⟩ := hrel
    have n0 : wr.cell? ⟨w2.heap.size, 0, none⟩ = some (.bool true) := blk_cell TNf.out 0
    have y1 : wr.cell? ⟨(w.heap.size + 1), 1, none⟩ = some (.bool bC) := blk_cell I.out.1 1
    by_cases h : i < cn
    · have d1 : decide (i < cn) = true := decide_eq_true h
      have d1' : decide ((i : Int) < (cn : Int)) = true := decide_eq_true (by omega)
      cases bC
      · obtain ⟨key, sK, bK, ek⟩ : ∃ x y z, rdt sC false = (x, y, z) := ⟨_, _, _, rfl⟩
        obtain ⟨val, sV, bV, ev⟩ : ∃ x y z, rdt sK bK = (x, y, z) := ⟨_, _, _, rfl⟩
        have T1 : Aside0 (node_reader_text.f sC false = some (key, sK, bK)) := ⟨by rw [text_val, ek]⟩
        have T2 : Aside0 (node_reader_text.f sK bK = some (val, sV, bV)) := ⟨by rw [text_val, ev]⟩
        have DS : Aside0 (decP (cn - i) sC false l = decP (cn - (i + 1)) sV bV (l ++ [(⟨key, val⟩ : S48)])) := ⟨by
          rw [show cn - i = (cn - (i + 1)) + 1 by omega, decP, if_neg (by decide), ek, ev]⟩
        clear ek ev
        go_wp2_with fail
        have TX := T1
        refine (node_reader_text.calls (w.heap.size + 1) sC false key sK bK w wr I.out BB.out TX.out).mono ?_
        rintro e w5 ⟨rfl, hI, hB, hK2⟩
        replace TR := Aside0.mk (nd_keep hK2 TR.out (by omega))
        replace TNf := Aside0.mk (nd_keep hK2 TNf.out NNE.out)
        replace RR := Aside0.mk (Kd.R_mono (Kd.R_step (I.out.apart RR.out (by decide)) (fun k hk hl => hK2.2 k hl hk.2 (by simp))) (fun _ _ => trivial))
        replace I := Aside0.mk hI
        replace BB := Aside0.mk hB
        clear hI hB hK2
        go_wp2_with fail
        clear TX
        have TX := T2
        refine wp_region_held_drew (S := fun _ => True) (by kernel_rfl) trivial (fun hHeld => ?_)
        have dB : Below w5.heap.size w5 w5.drew := below_drew1 (Below.refl _ _)
        obtain ⟨w6, hw6⟩ : ∃ x, x = w5.drew := ⟨_, rfl⟩
        rw [← hw6] at dB ⊢
        replace TR := Aside0.mk ((dB.block _ (blk_lt TR.out)).trans TR.out)
        replace TNf := Aside0.mk ((dB.block _ (blk_lt TNf.out)).trans TNf.out)
        replace RR := Aside0.mk (Kd.R_below RR.out dB)
        replace I := Aside0.mk (I.out.below dB)
        replace BB := Aside0.mk (BB.out.trans (dB.mono BB.out.size))
        clear dB hw6 hHeld
        refine dc_take 0 trivial ?_
        refine dc_take 2 trivial ?_
        refine dc_take 3 trivial ?_
        refine wpAnyH_ready (rs := [1, 4]) (by kernel_rfl) (by simp) ?_
        refine (AllReadyH.cons rfl (fun K hK => ?_) (AllReadyH.cons rfl (fun K hK => ?_) AllReadyH.nil))
        · have cN : w6.cell? ⟨w2.heap.size, 1, none⟩ = some (.slice A l.length c) := blk_cell TNf.out 1
          go_simp
          clear cN
          refine hK.out _ _ trivial (fun hNew => ?_)
          clear hK K hNew
          refine wpAnyH_ready (rs := [4]) (by kernel_rfl) (by simp) ?_
          refine (AllReadyH.cons rfl (fun K hK => ?_) AllReadyH.nil)
          go_simp
          refine (node_reader_text.calls (w.heap.size + 1) sK bK val sV bV w w6 I.out BB.out TX.out).mono ?_
          rintro e w7 ⟨rfl, hI, hB, hK2⟩
          replace TR := Aside0.mk (nd_keep hK2 TR.out (by omega))
          replace TNf := Aside0.mk (nd_keep hK2 TNf.out NNE.out)
          replace RR := Aside0.mk (Kd.R_mono (Kd.R_step (I.out.apart RR.out (by decide)) (fun k hk hl => hK2.2 k hl hk.2 (by simp))) (fun _ _ => trivial))
          replace I := Aside0.mk hI
          replace BB := Aside0.mk hB
          clear hI hB hK2
          go_simp
          refine hK.out _ _ trivial (fun hNew => ?_)
          clear hK K hNew
          refine dc_take 5 trivial ?_
          refine wpAnyH_ready (rs := [6]) (by kernel_rfl) (by simp) ?_
          refine (AllReadyH.cons rfl (fun K hK => ?_) AllReadyH.nil)
          have hB := below_alloc (Below.refl w7.heap.size w7) (.cells #[.string key, .string val] 48)
          have HVB := Aside0.mk (heap_alloc_new w7 (.cells #[.string key, .string val] 48))
          go_simp
          obtain ⟨vb, hvb⟩ : ∃ n, n = w7.heap.size := ⟨_, rfl⟩
          obtain ⟨w8, hwV⟩ : ∃ x, x = w7.alloc (.cells #[.string key, .string val] 48) := ⟨_, rfl⟩
          rw [← hwV] at HVB hB ⊢
          rw [← hvb] at HVB ⊢
          replace TR := Aside0.mk ((hB.block _ (blk_lt TR.out)).trans TR.out)
          replace TNf := Aside0.mk ((hB.block _ (blk_lt TNf.out)).trans TNf.out)
          replace RR := Aside0.mk (Kd.R_below RR.out hB)
          replace I := Aside0.mk (I.out.below hB)
          replace BB := Aside0.mk (BB.out.trans (hB.mono BB.out.size))
          clear hB hwV hvb
          refine hK.out _ _ trivial (fun hNew => ?_)
          clear hK K hNew
          refine wpAnyH_ready (rs := [7]) (by kernel_rfl) (by simp) ?_
          refine (AllReadyH.cons rfl (fun K hK => ?_) AllReadyH.nil)
          refine Kd.R_append_rows_step k48 (Rr := Kd.K k48 w8) (w0 := w) (W := w8) w.heap.size (by kernel_rfl) (.tmp 42) (.tmp 47) 22 48 (.agg #[(.string ⟨#[]⟩), (.string ⟨#[]⟩)]) 32 rfl Try.underlying22 (by kernel_rfl) rfl (by decide) (by decide) (.slice A l.length c) l [(⟨key, val⟩ : S48)] (some ⟨vb, 0, none⟩) 1 1 (fun _ => True) (fun _ => False) rfl rfl RR.out (one_row (p := (⟨key, val⟩ : S48)) HVB.out) (fun x cs hx => flat48 _ _ _ _ _ _ hx) (fun k hk => hk.elim) (fun _ _ => trivial) BB.out BB.out.size (by omega) ?_
          intro v1 wA hR hB hg _
          simp only [Act.put, List.getElem_toArray, List.getElem_cons_zero, List.getElem_cons_succ, List.setIfInBounds_toArray, List.set_cons_zero, List.set_cons_succ]
          obtain ⟨A', c', rfl⟩ := Kd.R_slice hR
          obtain ⟨lN, hlN⟩ : ∃ x, x = l ++ [(⟨key, val⟩ : S48)] := ⟨_, rfl⟩
          have hlenN : lN.length ≤ i + 1 := by rw [hlN, List.length_append]; simp; omega
          rw [← hlN] at hR ⊢
          have HLN := Aside0.mk hlN
          clear hlN
          have I' := I.out.grown hg (I.out.own_ne RR.out (by decide))
          have TR' := (hg.block _ (blk_lt TR.out) (Kd.R_ne RR.out TR.out (by decide))).trans TR.out
          have TN' := (hg.block _ (blk_lt TNf.out) (Kd.R_ne RR.out TNf.out (by decide))).trans TNf.out
          refine hK.out _ _ trivial (fun hNew => ?_)
          clear hK K hNew
          refine dc_take 8 trivial ?_
          have cN : wA.cell? ⟨w2.heap.size, 1, none⟩ = some (.slice A l.length c) := blk_cell TN' 1
          have fN : wA.frozen? ⟨w2.heap.size, 1, none⟩ = false := blk_frozen TN' 1
          refine wpAnyH_ready (rs := [9]) (by kernel_rfl) (by simp) ?_
          refine (AllReadyH.cons rfl (fun K hK => ?_) AllReadyH.nil)
          go_simp
          have TNn := Aside0.mk (heap_setCell_same wA w2.heap.size 1 _ 31 (.slice A' lN.length c') TN')
          have TRn := Aside0.mk ((Below.heap_setCell wA ⟨w2.heap.size, 1, none⟩ (.slice A' lN.length c') w.heap.size NNW.out).trans TR')
          have In := Aside0.mk (I'.far (p := ⟨w2.heap.size, 1, none⟩) (fun e => NNE.out e.symm) (.slice A' lN.length c'))
          have RRn := Aside0.mk (Kd.R_set hR TN' (by decide) 1 (.slice A' lN.length c'))
          have BBn := Aside0.mk (hB.setCell (p := ⟨w2.heap.size, 1, none⟩) NNL.out (.slice A' lN.length c'))
          clear hR hB hg I' TR' TN' cN fN I TR TNf RR BB HVB
          refine hK.out _ _ trivial (fun hNew => ?_)
          clear hK K hNew
          refine wpAnyH_done (by kernel_rfl) ?_ _
          go_wp2_with fail
          go_roundw
          case rel => exact ⟨i + 1, _, _, lN, A', c', by omega, by first | rfl | go_num, In, TRn, TNn, RRn, BBn, ⟨by rw [← HD.out, DS.out, HLN.out]⟩, hlenN⟩
          case measure => simp [intOf]; omega

        · go_simp
          refine (node_reader_text.calls (w.heap.size + 1) sK bK val sV bV w w6 I.out BB.out TX.out).mono ?_
          rintro e w7 ⟨rfl, hI, hB, hK2⟩
          replace TR := Aside0.mk (nd_keep hK2 TR.out (by omega))
          replace TNf := Aside0.mk (nd_keep hK2 TNf.out NNE.out)
          replace RR := Aside0.mk (Kd.R_mono (Kd.R_step (I.out.apart RR.out (by decide)) (fun k hk hl => hK2.2 k hl hk.2 (by simp))) (fun _ _ => trivial))
          replace I := Aside0.mk hI
          replace BB := Aside0.mk hB
          clear hI hB hK2
          go_simp
          refine hK.out _ _ trivial (fun hNew => ?_)
          clear hK K hNew
          refine dc_take 5 trivial ?_
          refine wpAnyH_ready (rs := [1, 6]) (by kernel_rfl) (by simp) ?_
          refine (AllReadyH.cons rfl (fun K hK => ?_) (AllReadyH.cons rfl (fun K hK => ?_) AllReadyH.nil))

          · have cN : w7.cell? ⟨w2.heap.size, 1, none⟩ = some (.slice A l.length c) := blk_cell TNf.out 1
            go_simp
            clear cN
            refine hK.out _ _ trivial (fun hNew => ?_)
            clear hK K hNew
            refine wpAnyH_ready (rs := [6]) (by kernel_rfl) (by simp) ?_
            refine (AllReadyH.cons rfl (fun K hK => ?_) AllReadyH.nil)
            have hB := below_alloc (Below.refl w7.heap.size w7) (.cells #[.string key, .string val] 48)
            have HVB := Aside0.mk (heap_alloc_new w7 (.cells #[.string key, .string val] 48))
            go_simp
            obtain ⟨vb, hvb⟩ : ∃ n, n = w7.heap.size := ⟨_, rfl⟩
            obtain ⟨w8, hwV⟩ : ∃ x, x = w7.alloc (.cells #[.string key, .string val] 48) := ⟨_, rfl⟩
            rw [← hwV] at HVB hB ⊢
            rw [← hvb] at HVB ⊢
            replace TR := Aside0.mk ((hB.block _ (blk_lt TR.out)).trans TR.out)
            replace TNf := Aside0.mk ((hB.block _ (blk_lt TNf.out)).trans TNf.out)
            replace RR := Aside0.mk (Kd.R_below RR.out hB)
            replace I := Aside0.mk (I.out.below hB)
            replace BB := Aside0.mk (BB.out.trans (hB.mono BB.out.size))
            clear hB hwV hvb
            refine hK.out _ _ trivial (fun hNew => ?_)
            clear hK K hNew
            refine wpAnyH_ready (rs := [7]) (by kernel_rfl) (by simp) ?_
            refine (AllReadyH.cons rfl (fun K hK => ?_) AllReadyH.nil)
            refine Kd.R_append_rows_step k48 (Rr := Kd.K k48 w8) (w0 := w) (W := w8) w.heap.size (by kernel_rfl) (.tmp 42) (.tmp 47) 22 48 (.agg #[(.string ⟨#[]⟩), (.string ⟨#[]⟩)]) 32 rfl Try.underlying22 (by kernel_rfl) rfl (by decide) (by decide) (.slice A l.length c) l [(⟨key, val⟩ : S48)] (some ⟨vb, 0, none⟩) 1 1 (fun _ => True) (fun _ => False) rfl rfl RR.out (one_row (p := (⟨key, val⟩ : S48)) HVB.out) (fun x cs hx => flat48 _ _ _ _ _ _ hx) (fun k hk => hk.elim) (fun _ _ => trivial) BB.out BB.out.size (by omega) ?_
            intro v1 wA hR hB hg _
            simp only [Act.put, List.getElem_toArray, List.getElem_cons_zero, List.getElem_cons_succ, List.setIfInBounds_toArray, List.set_cons_zero, List.set_cons_succ]
            obtain ⟨A', c', rfl⟩ := Kd.R_slice hR
            obtain ⟨lN, hlN⟩ : ∃ x, x = l ++ [(⟨key, val⟩ : S48)] := ⟨_, rfl⟩
            have hlenN : lN.length ≤ i + 1 := by rw [hlN, List.length_append]; simp; omega
            rw [← hlN] at hR ⊢
            have HLN := Aside0.mk hlN
            clear hlN
            have I' := I.out.grown hg (I.out.own_ne RR.out (by decide))
            have TR' := (hg.block _ (blk_lt TR.out) (Kd.R_ne RR.out TR.out (by decide))).trans TR.out
            have TN' := (hg.block _ (blk_lt TNf.out) (Kd.R_ne RR.out TNf.out (by decide))).trans TNf.out
            refine hK.out _ _ trivial (fun hNew => ?_)
            clear hK K hNew
            refine dc_take 8 trivial ?_
            have cN : wA.cell? ⟨w2.heap.size, 1, none⟩ = some (.slice A l.length c) := blk_cell TN' 1
            have fN : wA.frozen? ⟨w2.heap.size, 1, none⟩ = false := blk_frozen TN' 1
            refine wpAnyH_ready (rs := [9]) (by kernel_rfl) (by simp) ?_
            refine (AllReadyH.cons rfl (fun K hK => ?_) AllReadyH.nil)
            go_simp
            have TNn := Aside0.mk (heap_setCell_same wA w2.heap.size 1 _ 31 (.slice A' lN.length c') TN')
            have TRn := Aside0.mk ((Below.heap_setCell wA ⟨w2.heap.size, 1, none⟩ (.slice A' lN.length c') w.heap.size NNW.out).trans TR')
            have In := Aside0.mk (I'.far (p := ⟨w2.heap.size, 1, none⟩) (fun e => NNE.out e.symm) (.slice A' lN.length c'))
            have RRn := Aside0.mk (Kd.R_set hR TN' (by decide) 1 (.slice A' lN.length c'))
            have BBn := Aside0.mk (hB.setCell (p := ⟨w2.heap.size, 1, none⟩) NNL.out (.slice A' lN.length c'))
            clear hR hB hg I' TR' TN' cN fN I TR TNf RR BB HVB
            refine hK.out _ _ trivial (fun hNew => ?_)
            clear hK K hNew
            refine wpAnyH_done (by kernel_rfl) ?_ _
            go_wp2_with fail
            go_roundw
            case rel => exact ⟨i + 1, _, _, lN, A', c', by omega, by first | rfl | go_num, In, TRn, TNn, RRn, BBn, ⟨by rw [← HD.out, DS.out, HLN.out]⟩, hlenN⟩
            case measure => simp [intOf]; omega

          · have hB := below_alloc (Below.refl w7.heap.size w7) (.cells #[.string key, .string val] 48)
            have HVB := Aside0.mk (heap_alloc_new w7 (.cells #[.string key, .string val] 48))
            go_simp
            obtain ⟨vb, hvb⟩ : ∃ n, n = w7.heap.size := ⟨_, rfl⟩
            obtain ⟨w8, hwV⟩ : ∃ x, x = w7.alloc (.cells #[.string key, .string val] 48) := ⟨_, rfl⟩
            rw [← hwV] at HVB hB ⊢
            rw [← hvb] at HVB ⊢
            replace TR := Aside0.mk ((hB.block _ (blk_lt TR.out)).trans TR.out)
            replace TNf := Aside0.mk ((hB.block _ (blk_lt TNf.out)).trans TNf.out)
            replace RR := Aside0.mk (Kd.R_below RR.out hB)
            replace I := Aside0.mk (I.out.below hB)
            replace BB := Aside0.mk (BB.out.trans (hB.mono BB.out.size))
            clear hB hwV hvb
            refine hK.out _ _ trivial (fun hNew => ?_)
            clear hK K hNew
            refine wpAnyH_ready (rs := [1]) (by kernel_rfl) (by simp) ?_
            refine (AllReadyH.cons rfl (fun K hK => ?_) AllReadyH.nil)
            have cN : w8.cell? ⟨w2.heap.size, 1, none⟩ = some (.slice A l.length c) := blk_cell TNf.out 1
            go_simp
            clear cN
            refine hK.out _ _ trivial (fun hNew => ?_)
            clear hK K hNew
            refine wpAnyH_ready (rs := [7]) (by kernel_rfl) (by simp) ?_
            refine (AllReadyH.cons rfl (fun K hK => ?_) AllReadyH.nil)
            refine Kd.R_append_rows_step k48 (Rr := Kd.K k48 w8) (w0 := w) (W := w8) w.heap.size (by kernel_rfl) (.tmp 42) (.tmp 47) 22 48 (.agg #[(.string ⟨#[]⟩), (.string ⟨#[]⟩)]) 32 rfl Try.underlying22 (by kernel_rfl) rfl (by decide) (by decide) (.slice A l.length c) l [(⟨key, val⟩ : S48)] (some ⟨vb, 0, none⟩) 1 1 (fun _ => True) (fun _ => False) rfl rfl RR.out (one_row (p := (⟨key, val⟩ : S48)) HVB.out) (fun x cs hx => flat48 _ _ _ _ _ _ hx) (fun k hk => hk.elim) (fun _ _ => trivial) BB.out BB.out.size (by omega) ?_
            intro v1 wA hR hB hg _
            simp only [Act.put, List.getElem_toArray, List.getElem_cons_zero, List.getElem_cons_succ, List.setIfInBounds_toArray, List.set_cons_zero, List.set_cons_succ]
            obtain ⟨A', c', rfl⟩ := Kd.R_slice hR
            obtain ⟨lN, hlN⟩ : ∃ x, x = l ++ [(⟨key, val⟩ : S48)] := ⟨_, rfl⟩
            have hlenN : lN.length ≤ i + 1 := by rw [hlN, List.length_append]; simp; omega
            rw [← hlN] at hR ⊢
            have HLN := Aside0.mk hlN
            clear hlN
            have I' := I.out.grown hg (I.out.own_ne RR.out (by decide))
            have TR' := (hg.block _ (blk_lt TR.out) (Kd.R_ne RR.out TR.out (by decide))).trans TR.out
            have TN' := (hg.block _ (blk_lt TNf.out) (Kd.R_ne RR.out TNf.out (by decide))).trans TNf.out
            refine hK.out _ _ trivial (fun hNew => ?_)
            clear hK K hNew
            refine dc_take 8 trivial ?_
            have cN : wA.cell? ⟨w2.heap.size, 1, none⟩ = some (.slice A l.length c) := blk_cell TN' 1
            have fN : wA.frozen? ⟨w2.heap.size, 1, none⟩ = false := blk_frozen TN' 1
            refine wpAnyH_ready (rs := [9]) (by kernel_rfl) (by simp) ?_
            refine (AllReadyH.cons rfl (fun K hK => ?_) AllReadyH.nil)
            go_simp
            have TNn := Aside0.mk (heap_setCell_same wA w2.heap.size 1 _ 31 (.slice A' lN.length c') TN')
            have TRn := Aside0.mk ((Below.heap_setCell wA ⟨w2.heap.size, 1, none⟩ (.slice A' lN.length c') w.heap.size NNW.out).trans TR')
            have In := Aside0.mk (I'.far (p := ⟨w2.heap.size, 1, none⟩) (fun e => NNE.out e.symm) (.slice A' lN.length c'))
            have RRn := Aside0.mk (Kd.R_set hR TN' (by decide) 1 (.slice A' lN.length c'))
            have BBn := Aside0.mk (hB.setCell (p := ⟨w2.heap.size, 1, none⟩) NNL.out (.slice A' lN.length c'))
            clear hR hB hg I' TR' TN' cN fN I TR TNf RR BB HVB
            refine hK.out _ _ trivial (fun hNew => ?_)
            clear hK K hNew
            refine wpAnyH_done (by kernel_rfl) ?_ _
            go_wp2_with fail
            go_roundw
            case rel => exact ⟨i + 1, _, _, lN, A', c', by omega, by first | rfl | go_num, In, TRn, TNn, RRn, BBn, ⟨by rw [← HD.out, DS.out, HLN.out]⟩, hlenN⟩
            case measure => simp [intOf]; omega

      · have HEQ : Aside0 (sC = s3 ∧ true = b3 ∧ l = P) := ⟨by
          have := HD.out
          rw [show cn - i = (cn - (i + 1)) + 1 by omega, decP, if_pos rfl] at this
          simpa using this⟩
        have HRV : Aside0 ((r1, r2, r3, r4, r5) = outL s sC true l) := ⟨by rw [HEQ.out.1, HEQ.out.2.1, HEQ.out.2.2]; exact HR0.out⟩
        clear HD E3 HEQ HR0
        obtain ⟨q0, z0⟩ : ∃ q, decide ((0 : Int) < (cn : Int)) = q := ⟨_, rfl⟩
        have z0' : decide (0 < cn) = q0 := by rw [← z0]; simp
        obtain ⟨q1, z1⟩ : ∃ q, decide ((1 : Int) < (cn : Int)) = q := ⟨_, rfl⟩
        have z1' : decide (1 < cn) = q1 := by rw [← z1]; congr 1; apply propext; omega
        rcases q0 with _ | _ <;> rcases q1 with _ | _
        all_goals
          go_wp2_with fail
          obtain ⟨wE, hwE⟩ : ∃ x, x = wr := ⟨_, rfl⟩
          subst hwE
          go_loopw [10] (fun v W => v = .int .i64 0 ∧ W = wE) (fun _ _ => 0)
          case atStart => exact ⟨rfl, rfl⟩
          case round =>
            obtain ⟨rfl, hW⟩ := hrel
            subst hW
            go_wp2_with fail
            obtain ⟨wE, hwE⟩ : ∃ x, x = wr := ⟨_, rfl⟩
            subst hwE
            go_loopw [12] (fun v W => v = .int .i64 1 ∧ W = wE) (fun _ _ => 0)
            case atStart => exact ⟨rfl, rfl⟩
            case round =>
              obtain ⟨rfl, hW⟩ := hrel
              subst hW
              have y0 : wr.cell? ⟨(w.heap.size + 1), 0, none⟩ = some (.string sC) := blk_cell I.out.1 0
              have hv := HRV.out
              unfold outL at hv
              rw [if_neg (fun h => by cases h.1)] at hv
              cases hv
              have c0 : wr.cell? ⟨w.heap.size, 0, none⟩ = some (.bool false) := blk_cell TR.out 0
              have c1 : wr.cell? ⟨w.heap.size, 1, none⟩ = some (.slice none 0 0) := blk_cell TR.out 1
              have c2 : wr.cell? ⟨w.heap.size, 2, none⟩ = some (.slice none 0 0) := blk_cell TR.out 2
              have c3 : wr.cell? ⟨w.heap.size, 3, none⟩ = some (.slice none 0 0) := blk_cell TR.out 3
              have f0 : wr.frozen? ⟨w.heap.size, 0, none⟩ = false := blk_frozen TR.out 0
              have f1 : wr.frozen? ⟨w.heap.size, 1, none⟩ = false := blk_frozen TR.out 1
              have f2 : wr.frozen? ⟨w.heap.size, 2, none⟩ = false := blk_frozen TR.out 2
              have f3 : wr.frozen? ⟨w.heap.size, 3, none⟩ = false := blk_frozen TR.out 3
              go_wp2
              have hg4 := nd_grown4 wr w.heap.size (.bool false) (.slice none 0 0) (.slice none 0 0) (.slice none 0 0)
              refine bodyPost_ret (results_ct rfl _ _ w.heap.size 31 #[.bool false, .slice none 0 0, .slice none 0 0, .slice none 0 0] (0, 0) _ rfl (nd_put4 wr w.heap.size 31 _ _ _ _ (.bool false) (.slice none 0 0) (.slice none 0 0) (.slice none 0 0) TR.out) Try.underlying31 rfl (by kernel_rfl)) rfl ?_
              exact ⟨_, _, _, rfl, Kd.R_nil _ _ _ _ _, Kd.R_nil _ _ _ _ _, Kd.R_nil _ _ _ _ _, nd_grown_below hg4 BB.out BB.out.size (Nat.le_refl _)⟩

    · have d1 : decide (i < cn) = false := decide_eq_false h
      have d1' : decide ((i : Int) < (cn : Int)) = false := decide_eq_false (by omega)
      have HEQ : Aside0 (sC = s3 ∧ bC = b3 ∧ l = P) := ⟨by
        have := HD.out
        rw [show cn - i = 0 by omega, decP] at this
        simpa using this⟩
      have HRV : Aside0 ((r1, r2, r3, r4, r5) = outL s sC bC l) := ⟨by rw [HEQ.out.1, HEQ.out.2.1, HEQ.out.2.2]; exact HR0.out⟩
      clear HD E3 HEQ HR0
      obtain ⟨q0, z0⟩ : ∃ q, decide ((0 : Int) < (cn : Int)) = q := ⟨_, rfl⟩
      have z0' : decide (0 < cn) = q0 := by rw [← z0]; simp
      obtain ⟨q1, z1⟩ : ∃ q, decide ((1 : Int) < (cn : Int)) = q := ⟨_, rfl⟩
      have z1' : decide (1 < cn) = q1 := by rw [← z1]; congr 1; apply propext; omega
      rcases q0 with _ | _ <;> rcases q1 with _ | _
      all_goals
        go_wp2_with fail
        obtain ⟨wE, hwE⟩ : ∃ x, x = wr := ⟨_, rfl⟩
        subst hwE
        go_loopw [10] (fun v W => v = .int .i64 0 ∧ W = wE) (fun _ _ => 0)
        case atStart => exact ⟨rfl, rfl⟩
        case round =>
          obtain ⟨rfl, hW⟩ := hrel
          subst hW
          go_wp2_with fail
          obtain ⟨wE, hwE⟩ : ∃ x, x = wr := ⟨_, rfl⟩
          subst hwE
          go_loopw [12] (fun v W => v = .int .i64 1 ∧ W = wE) (fun _ _ => 0)
          case atStart => exact ⟨rfl, rfl⟩
          case round =>
            obtain ⟨rfl, hW⟩ := hrel
            subst hW
            have y0 : wr.cell? ⟨(w.heap.size + 1), 0, none⟩ = some (.string sC) := blk_cell I.out.1 0
            cases bC
            · by_cases hs : sC.toList = []
              · have g0 : (sC.toList == ([] : List UInt8)) = true := beq_iff_eq.2 hs
                have g0' : (sC.toList != ([] : List UInt8)) = false := by rw [hs]; rfl
                by_cases h160 : 160 < s.size
                · have g1 : decide ((160 : Int) < (s.size : Int)) = true := decide_eq_true (by omega)
                  have hv := HRV.out
                  unfold outL at hv
                  rw [if_neg (fun h => by have := h.2.2.1; omega)] at hv
                  cases hv
                  clear hs h160
                  have c0 : wr.cell? ⟨w.heap.size, 0, none⟩ = some (.bool false) := blk_cell TR.out 0
                  have c1 : wr.cell? ⟨w.heap.size, 1, none⟩ = some (.slice none 0 0) := blk_cell TR.out 1
                  have c2 : wr.cell? ⟨w.heap.size, 2, none⟩ = some (.slice none 0 0) := blk_cell TR.out 2
                  have c3 : wr.cell? ⟨w.heap.size, 3, none⟩ = some (.slice none 0 0) := blk_cell TR.out 3
                  have f0 : wr.frozen? ⟨w.heap.size, 0, none⟩ = false := blk_frozen TR.out 0
                  have f1 : wr.frozen? ⟨w.heap.size, 1, none⟩ = false := blk_frozen TR.out 1
                  have f2 : wr.frozen? ⟨w.heap.size, 2, none⟩ = false := blk_frozen TR.out 2
                  have f3 : wr.frozen? ⟨w.heap.size, 3, none⟩ = false := blk_frozen TR.out 3
                  go_wp2
                  have hg4 := nd_grown4 wr w.heap.size (.bool false) (.slice none 0 0) (.slice none 0 0) (.slice none 0 0)
                  refine bodyPost_ret (results_ct rfl _ _ w.heap.size 31 #[.bool false, .slice none 0 0, .slice none 0 0, .slice none 0 0] (0, 0) _ rfl (nd_put4 wr w.heap.size 31 _ _ _ _ (.bool false) (.slice none 0 0) (.slice none 0 0) (.slice none 0 0) TR.out) Try.underlying31 rfl (by kernel_rfl)) rfl ?_
                  exact ⟨_, _, _, rfl, Kd.R_nil _ _ _ _ _, Kd.R_nil _ _ _ _ _, Kd.R_nil _ _ _ _ _, nd_grown_below hg4 BB.out BB.out.size (Nat.le_refl _)⟩

                · have g1 : decide ((160 : Int) < (s.size : Int)) = false := decide_eq_false (by omega)
                  have n1 : wr.cell? ⟨w2.heap.size, 1, none⟩ = some (.slice A l.length c) := blk_cell TNf.out 1
                  have n2 : wr.cell? ⟨w2.heap.size, 2, none⟩ = some (.slice none 0 0) := blk_cell TNf.out 2
                  have n3 : wr.cell? ⟨w2.heap.size, 3, none⟩ = some (.slice none 0 0) := blk_cell TNf.out 3
                  by_cases hl : leafV true l [] [] = true
                  · have CK := Aside0.mk (node_Check.calls true A c l none 0 [] none 0 [] 0 wr (Kd.R_reads' RR.out).2.2 (Kd.R_reads' RR.out).2.1 ⟨rfl, by decide, fun h => absurd h (by decide)⟩ (Nat.le_refl _) ⟨rfl, by decide, fun h => absurd h (by decide)⟩ (Nat.le_refl _) (by rw [check_val, hl]; rfl))
                    have hv := HRV.out
                    unfold outL at hv
                    rw [if_pos ⟨rfl, hs, by omega, hl⟩] at hv
                    cases hv
                    clear h160 hl hs
                    go_wp2_with fail
                    refine CK.out.mono ?_
                    rintro e w9 ⟨rfl, hB⟩
                    replace TR := Aside0.mk ((hB.block _ (blk_lt TR.out)).trans TR.out)
                    replace TNf := Aside0.mk ((hB.block _ (blk_lt TNf.out)).trans TNf.out)
                    replace RR := Aside0.mk (Kd.R_below RR.out hB)
                    replace BB := Aside0.mk (BB.out.trans (hB.mono BB.out.size))
                    have x0 : w9.cell? ⟨w2.heap.size, 0, none⟩ = some (.bool true) := blk_cell TNf.out 0
                    have x1 : w9.cell? ⟨w2.heap.size, 1, none⟩ = some (.slice A r2.length c) := blk_cell TNf.out 1
                    have x2 : w9.cell? ⟨w2.heap.size, 2, none⟩ = some (.slice none 0 0) := blk_cell TNf.out 2
                    have x3 : w9.cell? ⟨w2.heap.size, 3, none⟩ = some (.slice none 0 0) := blk_cell TNf.out 3
                    clear hB n0 n1 n2 n3 y0 y1 I
                    have c0 : w9.cell? ⟨w.heap.size, 0, none⟩ = some (.bool false) := blk_cell TR.out 0
                    have c1 : w9.cell? ⟨w.heap.size, 1, none⟩ = some (.slice none 0 0) := blk_cell TR.out 1
                    have c2 : w9.cell? ⟨w.heap.size, 2, none⟩ = some (.slice none 0 0) := blk_cell TR.out 2
                    have c3 : w9.cell? ⟨w.heap.size, 3, none⟩ = some (.slice none 0 0) := blk_cell TR.out 3
                    have f0 : w9.frozen? ⟨w.heap.size, 0, none⟩ = false := blk_frozen TR.out 0
                    have f1 : w9.frozen? ⟨w.heap.size, 1, none⟩ = false := blk_frozen TR.out 1
                    have f2 : w9.frozen? ⟨w.heap.size, 2, none⟩ = false := blk_frozen TR.out 2
                    have f3 : w9.frozen? ⟨w.heap.size, 3, none⟩ = false := blk_frozen TR.out 3
                    go_wp2
                    have hg4 := nd_grown4 w9 w.heap.size (.bool true) (.slice A r2.length c) (.slice none 0 0) (.slice none 0 0)
                    refine bodyPost_ret (results_ct rfl _ _ w.heap.size 31 #[.bool true, .slice A r2.length c, .slice none 0 0, .slice none 0 0] (0, 0) _ rfl (nd_put4 w9 w.heap.size 31 _ _ _ _ (.bool true) (.slice A r2.length c) (.slice none 0 0) (.slice none 0 0) TR.out) Try.underlying31 rfl (by kernel_rfl)) rfl ?_
                    exact ⟨_, _, _, rfl, (Kd.R_mono (Kd.R_step (Kd.R_types RR.out TR.out (by decide)) (fun k hk hl => hg4.block k hl (fun e => hk.2 (Option.some.inj e)))) (fun _ _ => trivial)), Kd.R_nil _ _ _ _ _, Kd.R_nil _ _ _ _ _, nd_grown_below hg4 BB.out BB.out.size (Nat.le_refl _)⟩

                  · have CK := Aside0.mk (node_Check.calls true A c l none 0 [] none 0 [] 2 wr (Kd.R_reads' RR.out).2.2 (Kd.R_reads' RR.out).2.1 ⟨rfl, by decide, fun h => absurd h (by decide)⟩ (Nat.le_refl _) ⟨rfl, by decide, fun h => absurd h (by decide)⟩ (Nat.le_refl _) (by rw [check_val]; rw [Bool.not_eq_true] at hl; rw [hl]; rfl))
                    have hv := HRV.out
                    unfold outL at hv
                    rw [if_neg (fun h => hl h.2.2.2)] at hv
                    cases hv
                    clear h160 hl hs
                    go_wp2_with fail
                    refine CK.out.mono ?_
                    rintro e w9 ⟨rfl, hB⟩
                    replace TR := Aside0.mk ((hB.block _ (blk_lt TR.out)).trans TR.out)
                    replace BB := Aside0.mk (BB.out.trans (hB.mono BB.out.size))
                    clear hB n0 n1 n2 n3 y0 y1 I
                    have c0 : w9.cell? ⟨w.heap.size, 0, none⟩ = some (.bool false) := blk_cell TR.out 0
                    have c1 : w9.cell? ⟨w.heap.size, 1, none⟩ = some (.slice none 0 0) := blk_cell TR.out 1
                    have c2 : w9.cell? ⟨w.heap.size, 2, none⟩ = some (.slice none 0 0) := blk_cell TR.out 2
                    have c3 : w9.cell? ⟨w.heap.size, 3, none⟩ = some (.slice none 0 0) := blk_cell TR.out 3
                    have f0 : w9.frozen? ⟨w.heap.size, 0, none⟩ = false := blk_frozen TR.out 0
                    have f1 : w9.frozen? ⟨w.heap.size, 1, none⟩ = false := blk_frozen TR.out 1
                    have f2 : w9.frozen? ⟨w.heap.size, 2, none⟩ = false := blk_frozen TR.out 2
                    have f3 : w9.frozen? ⟨w.heap.size, 3, none⟩ = false := blk_frozen TR.out 3
                    go_wp2
                    have hg4 := nd_grown4 w9 w.heap.size (.bool false) (.slice none 0 0) (.slice none 0 0) (.slice none 0 0)
                    refine bodyPost_ret (results_ct rfl _ _ w.heap.size 31 #[.bool false, .slice none 0 0, .slice none 0 0, .slice none 0 0] (0, 0) _ rfl (nd_put4 w9 w.heap.size 31 _ _ _ _ (.bool false) (.slice none 0 0) (.slice none 0 0) (.slice none 0 0) TR.out) Try.underlying31 rfl (by kernel_rfl)) rfl ?_
                    exact ⟨_, _, _, rfl, Kd.R_nil _ _ _ _ _, Kd.R_nil _ _ _ _ _, Kd.R_nil _ _ _ _ _, nd_grown_below hg4 BB.out BB.out.size (Nat.le_refl _)⟩

              · have g0 : (sC.toList == ([] : List UInt8)) = false := beq_eq_false_iff_ne.2 hs
                have g0' : (sC.toList != ([] : List UInt8)) = true := bne_iff_ne.2 hs
                have hv := HRV.out
                unfold outL at hv
                rw [if_neg (fun h => hs h.2.1)] at hv
                cases hv
                clear hs
                have c0 : wr.cell? ⟨w.heap.size, 0, none⟩ = some (.bool false) := blk_cell TR.out 0
                have c1 : wr.cell? ⟨w.heap.size, 1, none⟩ = some (.slice none 0 0) := blk_cell TR.out 1
                have c2 : wr.cell? ⟨w.heap.size, 2, none⟩ = some (.slice none 0 0) := blk_cell TR.out 2
                have c3 : wr.cell? ⟨w.heap.size, 3, none⟩ = some (.slice none 0 0) := blk_cell TR.out 3
                have f0 : wr.frozen? ⟨w.heap.size, 0, none⟩ = false := blk_frozen TR.out 0
                have f1 : wr.frozen? ⟨w.heap.size, 1, none⟩ = false := blk_frozen TR.out 1
                have f2 : wr.frozen? ⟨w.heap.size, 2, none⟩ = false := blk_frozen TR.out 2
                have f3 : wr.frozen? ⟨w.heap.size, 3, none⟩ = false := blk_frozen TR.out 3
                go_wp2
                have hg4 := nd_grown4 wr w.heap.size (.bool false) (.slice none 0 0) (.slice none 0 0) (.slice none 0 0)
                refine bodyPost_ret (results_ct rfl _ _ w.heap.size 31 #[.bool false, .slice none 0 0, .slice none 0 0, .slice none 0 0] (0, 0) _ rfl (nd_put4 wr w.heap.size 31 _ _ _ _ (.bool false) (.slice none 0 0) (.slice none 0 0) (.slice none 0 0) TR.out) Try.underlying31 rfl (by kernel_rfl)) rfl ?_
                exact ⟨_, _, _, rfl, Kd.R_nil _ _ _ _ _, Kd.R_nil _ _ _ _ _, Kd.R_nil _ _ _ _ _, nd_grown_below hg4 BB.out BB.out.size (Nat.le_refl _)⟩

            · have hv := HRV.out
              unfold outL at hv
              rw [if_neg (fun h => by cases h.1)] at hv
              cases hv
              have c0 : wr.cell? ⟨w.heap.size, 0, none⟩ = some (.bool false) := blk_cell TR.out 0
              have c1 : wr.cell? ⟨w.heap.size, 1, none⟩ = some (.slice none 0 0) := blk_cell TR.out 1
              have c2 : wr.cell? ⟨w.heap.size, 2, none⟩ = some (.slice none 0 0) := blk_cell TR.out 2
              have c3 : wr.cell? ⟨w.heap.size, 3, none⟩ = some (.slice none 0 0) := blk_cell TR.out 3
              have f0 : wr.frozen? ⟨w.heap.size, 0, none⟩ = false := blk_frozen TR.out 0
              have f1 : wr.frozen? ⟨w.heap.size, 1, none⟩ = false := blk_frozen TR.out 1
              have f2 : wr.frozen? ⟨w.heap.size, 2, none⟩ = false := blk_frozen TR.out 2
              have f3 : wr.frozen? ⟨w.heap.size, 3, none⟩ = false := blk_frozen TR.out 3
              go_wp2
              have hg4 := nd_grown4 wr w.heap.size (.bool false) (.slice none 0 0) (.slice none 0 0) (.slice none 0 0)
              refine bodyPost_ret (results_ct rfl _ _ w.heap.size 31 #[.bool false, .slice none 0 0, .slice none 0 0, .slice none 0 0] (0, 0) _ rfl (nd_put4 wr w.heap.size 31 _ _ _ _ (.bool false) (.slice none 0 0) (.slice none 0 0) (.slice none 0 0) TR.out) Try.underlying31 rfl (by kernel_rfl)) rfl ?_
              exact ⟨_, _, _, rfl, Kd.R_nil _ _ _ _ _, Kd.R_nil _ _ _ _ _, Kd.R_nil _ _ _ _ _, nd_grown_below hg4 BB.out BB.out.size (Nat.le_refl _)⟩
theorem one_sc {α : Type} {enc : α → Value} {h1 : ∀ x, (enc x).oneCell' = true} {w : World} {vb t : Nat} {p : α} (hv : w.heap[vb]? = some (.cells #[enc p] t (0, 0))) : ReadsRow ((Kd.scalar enc h1).K w) (Kd.scalar enc h1).sz w (some ⟨vb, 0, none⟩) 1 [p] := ⟨rfl, by decide, fun _ => ⟨_, rfl, fun j q hj => by
  cases j with
  | zero =>
    cases hj
    refine ⟨[enc p], rfl, rfl, fun i u hu => ?_⟩
    rw [add_plain, blk_cell hv]
    match i, hu with
    | 0, hu => exact hu
  | succ j => cases hj⟩⟩
theorem dec_or (lo hi : Nat) (h1 : lo ≤ 255) (h2 : hi ≤ 255) : bits .or .i64 (lo : Int) (IntKind.i64.wrap ((hi : Int) * 256)) = ((lo + 256 * hi : Nat) : Int) := by
  have hp : (2 : Nat) ^ 63 = 9223372036854775808 := by decide
  rw [IntKind.wrap_i64, show ((hi : Int) * 256 + 9223372036854775808) % 18446744073709551616 - 9223372036854775808 = ((256 * hi : Nat) : Int) by omega]
  rw [(bits_nat .i64 63 (by decide) (fun n h0 h1 => by rw [IntKind.wrap_i64]; omega) lo (256 * hi) (by omega) (by omega)).2, nat_join8' (256 * hi) lo (by omega) (by omega), Nat.add_comm]
def outI (k : Nat) (s s4 : ByteArray) (b4 : Bool) (K : List ByteArray) (D : List Int) : Bool × List S48 × List ByteArray × List Int × Int := if b4 = false ∧ s4.toList = [] ∧ k = 2 ∧ s.size ≤ 160 ∧ innerV false [] K D = true then (false, [], K, D, 0) else (false, [], [], [], 2)
set_option maxHeartbeats 4000000 in
set_option maxRecDepth 100000 in
theorem dec_inner (k : Nat) (hk : k ≠ 1) (s s1 s2 s3 s4 : ByteArray) (b1 b2 b3 b4 : Bool) (cn : Nat) (D : List Int) (K : List ByteArray) (w : World) (e1 : rdb s false = (k, s1, b1)) (e2 : rdb s1 b1 = (cn, s2, b2)) (e3 : decD cn s2 b2 [] = (s3, b3, D)) (e4 : decK (cn - 1) s3 b3 [] = (s4, b4, K)) (r1 : Bool) (r2 : List (S48)) (r3 : List ByteArray) (r4 : List Int) (r5 : Int) (hr : (r1, r2, r3, r4, r5) = outI k s s4 b4 K D) : Calls Try.prog 25 #[.string s] w fun e w' => ∃ v1_ v2_ v3_ : Value, e = .returned (.tuple #[.agg #[.bool r1, v1_, v2_, v3_], .int .i64 r5]) ∧ Kd.R k48 48 w' w.heap.size (fun _ => True) v1_ r2 ∧ Kd.R Kd.string 9 w' w.heap.size (fun _ => True) v2_ r3 ∧ Kd.R (Kd.int .i64) 3 w' w.heap.size (fun _ => True) v3_ r4 ∧ Below w.heap.size w w' := by
  have HR0 := Aside0.mk hr
  clear hr
  have F1 : Aside0 (node_reader_byte.f s false = some ((k : Int), s1, b1)) := ⟨by rw [byte_val, e1]⟩
  have F2 : Aside0 (node_reader_byte.f s1 b1 = some ((cn : Int), s2, b2)) := ⟨by rw [byte_val, e2]⟩
  have hcn : cn ≤ 255 := by have := rdb_le s1 b1; rw [e2] at this; exact this
  have hkk : k ≤ 255 := by have := rdb_le s false; rw [e1] at this; exact this
  have E3 := Aside0.mk e3
  have E4 := Aside0.mk e4
  have k1 : ((k : Int) == 1) = false := beq_eq_false_iff_ne.2 (by omega)
  have k1' : ((k : Int) != 1) = true := bne_iff_ne.2 (by omega)
  clear e1 e2 e3 e4
  obtain ⟨wy, hwy⟩ : ∃ wy, wy = w.alloc (.cells #[.bool false, .slice none 0 0, .slice none 0 0, .slice none 0 0] 31) := ⟨_, rfl⟩
  obtain ⟨w0, hw0⟩ : ∃ w0, w0 = wy.alloc (.cells #[.string s, .bool false] 89) := ⟨_, rfl⟩
  have ny : wy.heap.size = w.heap.size + 1 := by rw [hwy]; simp
  have t0y := heap_alloc_new w (.cells #[.bool false, .slice none 0 0, .slice none 0 0, .slice none 0 0] 31)
  have bel := below_alloc (Below.refl w.heap.size w) (.cells #[.bool false, .slice none 0 0, .slice none 0 0, .slice none 0 0] 31)
  rw [← hwy] at t0y bel
  have TR := Aside0.mk ((Lib.alloc_old wy (.cells #[.string s, .bool false] 89) w.heap.size (blk_lt t0y)).trans t0y)
  have i0 := IsS89.new w wy s false bel
  rw [← hw0] at TR i0
  rw [ny] at i0
  have I0 := Aside0.mk i0
  have B0 : Aside0 (Below w.heap.size w w0) := ⟨by rw [hw0]; exact below_alloc bel _⟩
  have HW0 : Aside0 (w0 = (w.alloc (.cells #[.bool false, .slice none 0 0, .slice none 0 0, .slice none 0 0] 31)).alloc (.cells #[.string s, .bool false] 89)) := ⟨by rw [hw0, hwy]⟩
  clear hwy hw0 ny t0y bel i0
  go_enter Try.func25, Try.ntmps25
  go_wp2_with fail
  rw [← HW0.out]
  refine (node_reader_byte.calls (w.heap.size + 1) s false (k : Int) s1 b1 w w0 I0.out B0.out F1.out).mono ?_
  rintro e w1 ⟨rfl, hI, hB, hK⟩
  have I1 := Aside0.mk hI
  have B1 := Aside0.mk hB
  replace TR := Aside0.mk (nd_keep hK TR.out (by omega))
  clear hI hB hK I0 B0
  go_wp2_with fail
  refine (node_reader_byte.calls (w.heap.size + 1) s1 b1 (cn : Int) s2 b2 w w1 I1.out B1.out F2.out).mono ?_
  rintro e w2 ⟨rfl, hI, hB, hK⟩
  have I2 := Aside0.mk hI
  have B2 := Aside0.mk hB
  replace TR := Aside0.mk (nd_keep hK TR.out (by omega))
  clear hI hB hK I1 B1

  have hB := below_alloc (Below.refl w2.heap.size w2) (.cells #[.bool false, .slice none 0 0, .slice none 0 0, .slice none 0 0] 31)
  have tn := heap_alloc_new w2 (.cells #[.bool false, .slice none 0 0, .slice none 0 0, .slice none 0 0] 31)
  obtain ⟨w3, hw3⟩ : ∃ x, x = w2.alloc (.cells #[.bool false, .slice none 0 0, .slice none 0 0, .slice none 0 0] 31) := ⟨_, rfl⟩
  have HW3 := Aside0.mk hw3
  rw [← hw3] at hB tn
  have TN0 := Aside0.mk tn
  have I3 := Aside0.mk (I2.out.below hB)
  have TR3 := Aside0.mk ((hB.block _ (blk_lt TR.out)).trans TR.out)
  have B3 := Aside0.mk (B2.out.trans (hB.mono B2.out.size))
  have NNE : Aside0 (w2.heap.size ≠ (w.heap.size + 1)) := ⟨by have := I2.out.lt; omega⟩
  have NNW : Aside0 (w.heap.size ≠ w2.heap.size) := ⟨by have := I2.out.lt; omega⟩
  have NNL : Aside0 (w.heap.size ≤ w2.heap.size) := ⟨B2.out.size⟩
  clear hw3 hB tn
  go_wp2_with fail
  rw [← HW3.out]
  clear TR I2
  obtain ⟨q0, z0⟩ : ∃ q, decide ((0 : Int) < (cn : Int)) = q := ⟨_, rfl⟩
  have z0' : decide (0 < cn) = q0 := by rw [← z0]; simp
  rcases q0 with _ | _
  all_goals
    obtain ⟨wE, hwE⟩ : ∃ x, x = w3 := ⟨_, rfl⟩
    subst hwE
    go_loopw [8] (fun v W => v = .int .i64 0 ∧ W = wE) (fun _ _ => 0)
    case atStart => exact ⟨rfl, rfl⟩
    case round =>
      obtain ⟨rfl, hW⟩ := hrel
      subst hW
      have n0 : wr.cell? ⟨w2.heap.size, 0, none⟩ = some (.bool false) := blk_cell TN0.out 0
      go_wp2_with fail
      go_loopw [10] (fun v10 W => ∃ (i : Nat) (sC : ByteArray) (bC : Bool) (l : List Int) (A : Option Addr) (c : Nat), i ≤ cn ∧ v10 = .int .i64 (i : Int) ∧ Aside0 (IsS89 w W (w.heap.size + 1) sC bC) ∧ Aside0 (W.heap[w.heap.size]? = some (.cells #[.bool false, .slice none 0 0, .slice none 0 0, .slice none 0 0] 31 (0, 0))) ∧ Aside0 (W.heap[w2.heap.size]? = some (.cells #[.bool false, .slice none 0 0, .slice none 0 0, .slice A l.length c] 31 (0, 0))) ∧ Aside0 ((Kd.int .i64).R 3 W w.heap.size (fun _ => True) (.slice A l.length c) l) ∧ Aside0 (Below w.heap.size w W) ∧ Aside0 (decD (cn - i) sC bC l = (s3, b3, D)) ∧ l.length ≤ i) (fun v10 _ => (cn - intOf v10).toNat)
      case atStart => exact ⟨0, s2, b2, [], none, 0, by omega, rfl, I3, TR3, TN0, ⟨Kd.R_nil _ _ _ _ _⟩, B3, E3, by simp⟩
      case round =>
        clear n0 I3 TR3 TN0 B3
        obtain ⟨i, sC, bC, l, A, c, hi, rfl, I, TR, TNf, RR, BB, HD, hll⟩ := hrel
        have n0 : wr.cell? ⟨w2.heap.size, 0, none⟩ = some (.bool false) := blk_cell TNf.out 0
        have y1 : wr.cell? ⟨(w.heap.size + 1), 1, none⟩ = some (.bool bC) := blk_cell I.out.1 1
        by_cases h : i < cn
        · have d1 : decide (i < cn) = true := decide_eq_true h
          have d1' : decide ((i : Int) < (cn : Int)) = true := decide_eq_true (by omega)
          cases bC
          · obtain ⟨kl, sK, bK, ek⟩ : ∃ x y z, rdb sC false = (x, y, z) := ⟨_, _, _, rfl⟩
            obtain ⟨kh, sV, bV, ev⟩ : ∃ x y z, rdb sK bK = (x, y, z) := ⟨_, _, _, rfl⟩
            have T1 : Aside0 (node_reader_byte.f sC false = some ((kl : Int), sK, bK)) := ⟨by rw [byte_val, ek]⟩
            have T2 : Aside0 (node_reader_byte.f sK bK = some ((kh : Int), sV, bV)) := ⟨by rw [byte_val, ev]⟩
            have hkl : kl ≤ 255 := by have := rdb_le sC false; rw [ek] at this; exact this
            have hkh : kh ≤ 255 := by have := rdb_le sK bK; rw [ev] at this; exact this
            obtain ⟨kv, hkv⟩ : ∃ n : Nat, kl + 256 * kh = n := ⟨_, rfl⟩
            have DS : Aside0 (decD (cn - i) sC false l = decD (cn - (i + 1)) sV bV (l ++ [(kv : Int)])) := ⟨by
              rw [show cn - i = (cn - (i + 1)) + 1 by omega, decD, if_neg (by decide), ek, ev, ← hkv]⟩
            clear ek ev
            go_wp2_with fail
            refine (node_reader_byte.calls (w.heap.size + 1) sC false (kl : Int) sK bK w wr I.out BB.out T1.out).mono ?_
            rintro e w5 ⟨rfl, hI, hB, hK2⟩
            replace TR := Aside0.mk (nd_keep hK2 TR.out (by omega))
            replace TNf := Aside0.mk (nd_keep hK2 TNf.out NNE.out)
            replace RR := Aside0.mk (Kd.R_mono (Kd.R_step (I.out.apart RR.out (by decide)) (fun k hk hl => hK2.2 k hl hk.2 (by simp))) (fun _ _ => trivial))
            replace I := Aside0.mk hI
            replace BB := Aside0.mk hB
            clear hI hB hK2
            go_wp2_with fail
            refine wp_region_held_drew (S := fun _ => True) (by kernel_rfl) trivial (fun hHeld => ?_)
            have dB : Below w5.heap.size w5 w5.drew := below_drew1 (Below.refl _ _)
            obtain ⟨w6, hw6⟩ : ∃ x, x = w5.drew := ⟨_, rfl⟩
            rw [← hw6] at dB ⊢
            replace TR := Aside0.mk ((dB.block _ (blk_lt TR.out)).trans TR.out)
            replace TNf := Aside0.mk ((dB.block _ (blk_lt TNf.out)).trans TNf.out)
            replace RR := Aside0.mk (Kd.R_below RR.out dB)
            replace I := Aside0.mk (I.out.below dB)
            replace BB := Aside0.mk (BB.out.trans (dB.mono BB.out.size))
            clear dB hw6 hHeld
            refine dc_take 0 trivial ?_
            refine dc_take 2 trivial ?_
            refine dc_take 3 trivial ?_
            refine wpAnyH_ready (rs := [1, 4]) (by kernel_rfl) (by simp) ?_
            refine (AllReadyH.cons rfl (fun K hK => ?_) (AllReadyH.cons rfl (fun K hK => ?_) AllReadyH.nil))
            · have cN : w6.cell? ⟨w2.heap.size, 3, none⟩ = some ((.slice A l.length c)) := blk_cell TNf.out 3
              go_simp
              clear cN
              refine hK.out _ _ trivial (fun hNew => ?_)
              clear hK K hNew
              refine wpAnyH_ready (rs := [4]) (by kernel_rfl) (by simp) ?_
              refine (AllReadyH.cons rfl (fun K hK => ?_) AllReadyH.nil)
              go_simp
              refine (node_reader_byte.calls (w.heap.size + 1) sK bK (kh : Int) sV bV w w6 I.out BB.out T2.out).mono ?_
              rintro e w7 ⟨rfl, hI, hB, hK2⟩
              replace TR := Aside0.mk (nd_keep hK2 TR.out (by omega))
              replace TNf := Aside0.mk (nd_keep hK2 TNf.out NNE.out)
              replace RR := Aside0.mk (Kd.R_mono (Kd.R_step (I.out.apart RR.out (by decide)) (fun k hk hl => hK2.2 k hl hk.2 (by simp))) (fun _ _ => trivial))
              replace I := Aside0.mk hI
              replace BB := Aside0.mk hB
              clear hI hB hK2
              go_simp
              refine hK.out _ _ trivial (fun hNew => ?_)
              clear hK K hNew
              refine dc_take 5 trivial ?_
              refine dc_take 6 trivial ?_
              refine wpAnyH_ready (rs := [7]) (by kernel_rfl) (by simp) ?_
              refine (AllReadyH.cons rfl (fun K hK => ?_) AllReadyH.nil)
              rw [dec_or kl kh hkl hkh, hkv]
              have hB := below_alloc (Below.refl w7.heap.size w7) (.cells #[.int .i64 (kv : Int)] 3)
              have HVB := Aside0.mk (heap_alloc_new w7 (.cells #[.int .i64 (kv : Int)] 3))
              go_simp
              obtain ⟨vb, hvb⟩ : ∃ n, n = w7.heap.size := ⟨_, rfl⟩
              obtain ⟨w8, hwV⟩ : ∃ x, x = w7.alloc (.cells #[.int .i64 (kv : Int)] 3) := ⟨_, rfl⟩
              rw [← hwV] at HVB hB ⊢
              rw [← hvb] at HVB ⊢
              replace TR := Aside0.mk ((hB.block _ (blk_lt TR.out)).trans TR.out)
              replace TNf := Aside0.mk ((hB.block _ (blk_lt TNf.out)).trans TNf.out)
              replace RR := Aside0.mk (Kd.R_below RR.out hB)
              replace I := Aside0.mk (I.out.below hB)
              replace BB := Aside0.mk (BB.out.trans (hB.mono BB.out.size))
              clear hB hwV hvb
              refine hK.out _ _ trivial (fun hNew => ?_)
              clear hK K hNew
              refine wpAnyH_ready (rs := [8]) (by kernel_rfl) (by simp) ?_
              refine (AllReadyH.cons rfl (fun K hK => ?_) AllReadyH.nil)
              refine Kd.R_append_rows_step (Kd.int .i64) (Rr := Kd.K (Kd.int .i64) w8) (w0 := w) (W := w8) w.heap.size (by kernel_rfl) (.tmp 70) (.tmp 76) 24 3 (.int .i64 0) 8 rfl Try.underlying24 (by kernel_rfl) rfl (by decide) (by decide) (.slice A l.length c) l [(kv : Int)] (some ⟨vb, 0, none⟩) 1 1 (fun _ => True) (fun _ => False) rfl rfl RR.out (one_sc HVB.out) (fun x cs hx => hx) (fun k hk => hk.elim) (fun _ _ => trivial) BB.out BB.out.size (by omega) ?_
              intro v1 wA hR hB hg _
              simp only [Act.put, List.getElem_toArray, List.getElem_cons_zero, List.getElem_cons_succ, List.setIfInBounds_toArray, List.set_cons_zero, List.set_cons_succ]
              obtain ⟨A', c', rfl⟩ := Kd.R_slice hR
              obtain ⟨lN, hlN⟩ : ∃ x, x = l ++ [(kv : Int)] := ⟨_, rfl⟩
              have hlenN : lN.length ≤ i + 1 := by rw [hlN, List.length_append]; simp; omega
              rw [← hlN] at hR ⊢
              have HLN := Aside0.mk hlN
              clear hlN
              have I' := I.out.grown hg (I.out.own_ne RR.out (by decide))
              have TR' := (hg.block _ (blk_lt TR.out) (Kd.R_ne RR.out TR.out (by decide))).trans TR.out
              have TN' := (hg.block _ (blk_lt TNf.out) (Kd.R_ne RR.out TNf.out (by decide))).trans TNf.out

              refine hK.out _ _ trivial (fun hNew => ?_)
              clear hK K hNew
              refine dc_take 9 trivial ?_
              have cN : wA.cell? ⟨w2.heap.size, 3, none⟩ = some (.slice A l.length c) := blk_cell TN' 3
              have fN : wA.frozen? ⟨w2.heap.size, 3, none⟩ = false := blk_frozen TN' 3
              refine wpAnyH_ready (rs := [10]) (by kernel_rfl) (by simp) ?_
              refine (AllReadyH.cons rfl (fun K hK => ?_) AllReadyH.nil)
              go_simp
              have TNn := Aside0.mk (heap_setCell_same wA w2.heap.size 3 _ 31 (.slice A' lN.length c') TN')
              have TRn := Aside0.mk ((Below.heap_setCell wA ⟨w2.heap.size, 3, none⟩ (.slice A' lN.length c') w.heap.size NNW.out).trans TR')
              have In := Aside0.mk (I'.far (p := ⟨w2.heap.size, 3, none⟩) (fun e => NNE.out e.symm) (.slice A' lN.length c'))
              have RRn := Aside0.mk (Kd.R_set hR TN' (by decide) 3 (.slice A' lN.length c'))

              have BBn := Aside0.mk (hB.setCell (p := ⟨w2.heap.size, 3, none⟩) NNL.out (.slice A' lN.length c'))
              clear hR hB hg I' TR' TN' cN fN I TR TNf RR BB HVB 
              refine hK.out _ _ trivial (fun hNew => ?_)
              clear hK K hNew
              refine wpAnyH_done (by kernel_rfl) ?_ _
              go_wp2_with fail
              go_roundw
              case rel => exact ⟨i + 1, sV, bV, lN, A', c', by omega, by first | rfl | go_num, In, TRn, TNn, RRn, BBn, ⟨by rw [← HD.out, DS.out, HLN.out]⟩, hlenN⟩
              case measure => simp [intOf]; omega

            · go_simp
              refine (node_reader_byte.calls (w.heap.size + 1) sK bK (kh : Int) sV bV w w6 I.out BB.out T2.out).mono ?_
              rintro e w7 ⟨rfl, hI, hB, hK2⟩
              replace TR := Aside0.mk (nd_keep hK2 TR.out (by omega))
              replace TNf := Aside0.mk (nd_keep hK2 TNf.out NNE.out)
              replace RR := Aside0.mk (Kd.R_mono (Kd.R_step (I.out.apart RR.out (by decide)) (fun k hk hl => hK2.2 k hl hk.2 (by simp))) (fun _ _ => trivial))
              replace I := Aside0.mk hI
              replace BB := Aside0.mk hB
              clear hI hB hK2
              go_simp
              refine hK.out _ _ trivial (fun hNew => ?_)
              clear hK K hNew
              refine dc_take 5 trivial ?_
              refine dc_take 6 trivial ?_
              refine wpAnyH_ready (rs := [1, 7]) (by kernel_rfl) (by simp) ?_
              refine (AllReadyH.cons rfl (fun K hK => ?_) (AllReadyH.cons rfl (fun K hK => ?_) AllReadyH.nil))

              · have cN : w7.cell? ⟨w2.heap.size, 3, none⟩ = some ((.slice A l.length c)) := blk_cell TNf.out 3
                go_simp
                clear cN
                refine hK.out _ _ trivial (fun hNew => ?_)
                clear hK K hNew
                refine wpAnyH_ready (rs := [7]) (by kernel_rfl) (by simp) ?_
                refine (AllReadyH.cons rfl (fun K hK => ?_) AllReadyH.nil)
                rw [dec_or kl kh hkl hkh, hkv]
                have hB := below_alloc (Below.refl w7.heap.size w7) (.cells #[.int .i64 (kv : Int)] 3)
                have HVB := Aside0.mk (heap_alloc_new w7 (.cells #[.int .i64 (kv : Int)] 3))
                go_simp
                obtain ⟨vb, hvb⟩ : ∃ n, n = w7.heap.size := ⟨_, rfl⟩
                obtain ⟨w8, hwV⟩ : ∃ x, x = w7.alloc (.cells #[.int .i64 (kv : Int)] 3) := ⟨_, rfl⟩
                rw [← hwV] at HVB hB ⊢
                rw [← hvb] at HVB ⊢
                replace TR := Aside0.mk ((hB.block _ (blk_lt TR.out)).trans TR.out)
                replace TNf := Aside0.mk ((hB.block _ (blk_lt TNf.out)).trans TNf.out)
                replace RR := Aside0.mk (Kd.R_below RR.out hB)
                replace I := Aside0.mk (I.out.below hB)
                replace BB := Aside0.mk (BB.out.trans (hB.mono BB.out.size))
                clear hB hwV hvb
                refine hK.out _ _ trivial (fun hNew => ?_)
                clear hK K hNew
                refine wpAnyH_ready (rs := [8]) (by kernel_rfl) (by simp) ?_
                refine (AllReadyH.cons rfl (fun K hK => ?_) AllReadyH.nil)
                refine Kd.R_append_rows_step (Kd.int .i64) (Rr := Kd.K (Kd.int .i64) w8) (w0 := w) (W := w8) w.heap.size (by kernel_rfl) (.tmp 70) (.tmp 76) 24 3 (.int .i64 0) 8 rfl Try.underlying24 (by kernel_rfl) rfl (by decide) (by decide) (.slice A l.length c) l [(kv : Int)] (some ⟨vb, 0, none⟩) 1 1 (fun _ => True) (fun _ => False) rfl rfl RR.out (one_sc HVB.out) (fun x cs hx => hx) (fun k hk => hk.elim) (fun _ _ => trivial) BB.out BB.out.size (by omega) ?_
                intro v1 wA hR hB hg _
                simp only [Act.put, List.getElem_toArray, List.getElem_cons_zero, List.getElem_cons_succ, List.setIfInBounds_toArray, List.set_cons_zero, List.set_cons_succ]
                obtain ⟨A', c', rfl⟩ := Kd.R_slice hR
                obtain ⟨lN, hlN⟩ : ∃ x, x = l ++ [(kv : Int)] := ⟨_, rfl⟩
                have hlenN : lN.length ≤ i + 1 := by rw [hlN, List.length_append]; simp; omega
                rw [← hlN] at hR ⊢
                have HLN := Aside0.mk hlN
                clear hlN
                have I' := I.out.grown hg (I.out.own_ne RR.out (by decide))
                have TR' := (hg.block _ (blk_lt TR.out) (Kd.R_ne RR.out TR.out (by decide))).trans TR.out
                have TN' := (hg.block _ (blk_lt TNf.out) (Kd.R_ne RR.out TNf.out (by decide))).trans TNf.out

                refine hK.out _ _ trivial (fun hNew => ?_)
                clear hK K hNew
                refine dc_take 9 trivial ?_
                have cN : wA.cell? ⟨w2.heap.size, 3, none⟩ = some (.slice A l.length c) := blk_cell TN' 3
                have fN : wA.frozen? ⟨w2.heap.size, 3, none⟩ = false := blk_frozen TN' 3
                refine wpAnyH_ready (rs := [10]) (by kernel_rfl) (by simp) ?_
                refine (AllReadyH.cons rfl (fun K hK => ?_) AllReadyH.nil)
                go_simp
                have TNn := Aside0.mk (heap_setCell_same wA w2.heap.size 3 _ 31 (.slice A' lN.length c') TN')
                have TRn := Aside0.mk ((Below.heap_setCell wA ⟨w2.heap.size, 3, none⟩ (.slice A' lN.length c') w.heap.size NNW.out).trans TR')
                have In := Aside0.mk (I'.far (p := ⟨w2.heap.size, 3, none⟩) (fun e => NNE.out e.symm) (.slice A' lN.length c'))
                have RRn := Aside0.mk (Kd.R_set hR TN' (by decide) 3 (.slice A' lN.length c'))

                have BBn := Aside0.mk (hB.setCell (p := ⟨w2.heap.size, 3, none⟩) NNL.out (.slice A' lN.length c'))
                clear hR hB hg I' TR' TN' cN fN I TR TNf RR BB HVB 
                refine hK.out _ _ trivial (fun hNew => ?_)
                clear hK K hNew
                refine wpAnyH_done (by kernel_rfl) ?_ _
                go_wp2_with fail
                go_roundw
                case rel => exact ⟨i + 1, sV, bV, lN, A', c', by omega, by first | rfl | go_num, In, TRn, TNn, RRn, BBn, ⟨by rw [← HD.out, DS.out, HLN.out]⟩, hlenN⟩
                case measure => simp [intOf]; omega

              · rw [dec_or kl kh hkl hkh, hkv]
                have hB := below_alloc (Below.refl w7.heap.size w7) (.cells #[.int .i64 (kv : Int)] 3)
                have HVB := Aside0.mk (heap_alloc_new w7 (.cells #[.int .i64 (kv : Int)] 3))
                go_simp
                obtain ⟨vb, hvb⟩ : ∃ n, n = w7.heap.size := ⟨_, rfl⟩
                obtain ⟨w8, hwV⟩ : ∃ x, x = w7.alloc (.cells #[.int .i64 (kv : Int)] 3) := ⟨_, rfl⟩
                rw [← hwV] at HVB hB ⊢
                rw [← hvb] at HVB ⊢
                replace TR := Aside0.mk ((hB.block _ (blk_lt TR.out)).trans TR.out)
                replace TNf := Aside0.mk ((hB.block _ (blk_lt TNf.out)).trans TNf.out)
                replace RR := Aside0.mk (Kd.R_below RR.out hB)
                replace I := Aside0.mk (I.out.below hB)
                replace BB := Aside0.mk (BB.out.trans (hB.mono BB.out.size))
                clear hB hwV hvb
                refine hK.out _ _ trivial (fun hNew => ?_)
                clear hK K hNew
                refine wpAnyH_ready (rs := [1]) (by kernel_rfl) (by simp) ?_
                refine (AllReadyH.cons rfl (fun K hK => ?_) AllReadyH.nil)
                have cN : w8.cell? ⟨w2.heap.size, 3, none⟩ = some ((.slice A l.length c)) := blk_cell TNf.out 3
                go_simp
                clear cN
                refine hK.out _ _ trivial (fun hNew => ?_)
                clear hK K hNew
                refine wpAnyH_ready (rs := [8]) (by kernel_rfl) (by simp) ?_
                refine (AllReadyH.cons rfl (fun K hK => ?_) AllReadyH.nil)
                refine Kd.R_append_rows_step (Kd.int .i64) (Rr := Kd.K (Kd.int .i64) w8) (w0 := w) (W := w8) w.heap.size (by kernel_rfl) (.tmp 70) (.tmp 76) 24 3 (.int .i64 0) 8 rfl Try.underlying24 (by kernel_rfl) rfl (by decide) (by decide) (.slice A l.length c) l [(kv : Int)] (some ⟨vb, 0, none⟩) 1 1 (fun _ => True) (fun _ => False) rfl rfl RR.out (one_sc HVB.out) (fun x cs hx => hx) (fun k hk => hk.elim) (fun _ _ => trivial) BB.out BB.out.size (by omega) ?_
                intro v1 wA hR hB hg _
                simp only [Act.put, List.getElem_toArray, List.getElem_cons_zero, List.getElem_cons_succ, List.setIfInBounds_toArray, List.set_cons_zero, List.set_cons_succ]
                obtain ⟨A', c', rfl⟩ := Kd.R_slice hR
                obtain ⟨lN, hlN⟩ : ∃ x, x = l ++ [(kv : Int)] := ⟨_, rfl⟩
                have hlenN : lN.length ≤ i + 1 := by rw [hlN, List.length_append]; simp; omega
                rw [← hlN] at hR ⊢
                have HLN := Aside0.mk hlN
                clear hlN
                have I' := I.out.grown hg (I.out.own_ne RR.out (by decide))
                have TR' := (hg.block _ (blk_lt TR.out) (Kd.R_ne RR.out TR.out (by decide))).trans TR.out
                have TN' := (hg.block _ (blk_lt TNf.out) (Kd.R_ne RR.out TNf.out (by decide))).trans TNf.out

                refine hK.out _ _ trivial (fun hNew => ?_)
                clear hK K hNew
                refine dc_take 9 trivial ?_
                have cN : wA.cell? ⟨w2.heap.size, 3, none⟩ = some (.slice A l.length c) := blk_cell TN' 3
                have fN : wA.frozen? ⟨w2.heap.size, 3, none⟩ = false := blk_frozen TN' 3
                refine wpAnyH_ready (rs := [10]) (by kernel_rfl) (by simp) ?_
                refine (AllReadyH.cons rfl (fun K hK => ?_) AllReadyH.nil)
                go_simp
                have TNn := Aside0.mk (heap_setCell_same wA w2.heap.size 3 _ 31 (.slice A' lN.length c') TN')
                have TRn := Aside0.mk ((Below.heap_setCell wA ⟨w2.heap.size, 3, none⟩ (.slice A' lN.length c') w.heap.size NNW.out).trans TR')
                have In := Aside0.mk (I'.far (p := ⟨w2.heap.size, 3, none⟩) (fun e => NNE.out e.symm) (.slice A' lN.length c'))
                have RRn := Aside0.mk (Kd.R_set hR TN' (by decide) 3 (.slice A' lN.length c'))

                have BBn := Aside0.mk (hB.setCell (p := ⟨w2.heap.size, 3, none⟩) NNL.out (.slice A' lN.length c'))
                clear hR hB hg I' TR' TN' cN fN I TR TNf RR BB HVB 
                refine hK.out _ _ trivial (fun hNew => ?_)
                clear hK K hNew
                refine wpAnyH_done (by kernel_rfl) ?_ _
                go_wp2_with fail
                go_roundw
                case rel => exact ⟨i + 1, sV, bV, lN, A', c', by omega, by first | rfl | go_num, In, TRn, TNn, RRn, BBn, ⟨by rw [← HD.out, DS.out, HLN.out]⟩, hlenN⟩
                case measure => simp [intOf]; omega

          · have HRV : Aside0 ((r1, r2, r3, r4, r5) = outI k s sC true [] l) := ⟨by
              have := HD.out
              rw [show cn - i = (cn - (i + 1)) + 1 by omega, decD, if_pos rfl] at this
              obtain ⟨q1, q2, q3⟩ : sC = s3 ∧ true = b3 ∧ l = D := by simpa using this
              have e4 : b4 = true := by
                have h4 := E4.out
                rw [← q2] at h4
                cases hc : cn - 1 with
                | zero => rw [hc] at h4; simp only [decK, Prod.mk.injEq] at h4; exact h4.2.1.symm
                | succ m => rw [hc] at h4; simp only [decK, if_true, Prod.mk.injEq] at h4; exact h4.2.1.symm
              have := HR0.out
              unfold outI at this ⊢
              rw [if_neg (fun h => by rw [e4] at h; cases h.1)] at this
              rw [if_neg (fun h => by cases h.1)]
              exact this⟩
            clear HD E3 E4 HR0
            obtain ⟨q1, z1⟩ : ∃ q, decide ((1 : Int) < (cn : Int)) = q := ⟨_, rfl⟩
            have z1' : decide (1 < cn) = q1 := by rw [← z1]; congr 1; apply propext; omega
            rcases q1 with _ | _
            all_goals
              go_wp2_with fail
              obtain ⟨wE, hwE⟩ : ∃ x, x = wr := ⟨_, rfl⟩
              subst hwE
              go_loopw [12] (fun v W => v = .int .i64 1 ∧ W = wE) (fun _ _ => 0)
              case atStart => exact ⟨rfl, rfl⟩
              case round =>
                obtain ⟨rfl, hW⟩ := hrel
                subst hW
                have y0 : wr.cell? ⟨(w.heap.size + 1), 0, none⟩ = some (.string sC) := blk_cell I.out.1 0
                have hv := HRV.out
                unfold outI at hv
                rw [if_neg (fun h => by cases h.1)] at hv
                cases hv
                have c0 : wr.cell? ⟨w.heap.size, 0, none⟩ = some (.bool false) := blk_cell TR.out 0
                have c1 : wr.cell? ⟨w.heap.size, 1, none⟩ = some (.slice none 0 0) := blk_cell TR.out 1
                have c2 : wr.cell? ⟨w.heap.size, 2, none⟩ = some (.slice none 0 0) := blk_cell TR.out 2
                have c3 : wr.cell? ⟨w.heap.size, 3, none⟩ = some (.slice none 0 0) := blk_cell TR.out 3
                have f0 : wr.frozen? ⟨w.heap.size, 0, none⟩ = false := blk_frozen TR.out 0
                have f1 : wr.frozen? ⟨w.heap.size, 1, none⟩ = false := blk_frozen TR.out 1
                have f2 : wr.frozen? ⟨w.heap.size, 2, none⟩ = false := blk_frozen TR.out 2
                have f3 : wr.frozen? ⟨w.heap.size, 3, none⟩ = false := blk_frozen TR.out 3
                go_wp2
                have hg4 := nd_grown4 wr w.heap.size (.bool false) (.slice none 0 0) (.slice none 0 0) (.slice none 0 0)
                refine bodyPost_ret (results_ct rfl _ _ w.heap.size 31 #[.bool false, .slice none 0 0, .slice none 0 0, .slice none 0 0] (0, 0) _ rfl (nd_put4 wr w.heap.size 31 _ _ _ _ (.bool false) (.slice none 0 0) (.slice none 0 0) (.slice none 0 0) TR.out) Try.underlying31 rfl (by kernel_rfl)) rfl ?_
                exact ⟨_, _, _, rfl, Kd.R_nil _ _ _ _ _, Kd.R_nil _ _ _ _ _, Kd.R_nil _ _ _ _ _, nd_grown_below hg4 BB.out BB.out.size (Nat.le_refl _)⟩

        · have d1 : decide (i < cn) = false := decide_eq_false h
          have d1' : decide ((i : Int) < (cn : Int)) = false := decide_eq_false (by omega)
          have HEQ : Aside0 (sC = s3 ∧ bC = b3 ∧ l = D) := ⟨by
            have := HD.out
            rw [show cn - i = 0 by omega, decD] at this
            simpa using this⟩
          have RD := RR
          go_wp2_with fail
          go_loopw [12] (fun v12 W => ∃ (j : Nat) (sE : ByteArray) (bE : Bool) (kk : List ByteArray) (B : Option Addr) (d : Nat), j ≤ cn + 1 ∧ v12 = .int .i64 (j : Int) ∧ Aside0 (IsS89 w W (w.heap.size + 1) sE bE) ∧ Aside0 (W.heap[w.heap.size]? = some (.cells #[.bool false, .slice none 0 0, .slice none 0 0, .slice none 0 0] 31 (0, 0))) ∧ Aside0 (W.heap[w2.heap.size]? = some (.cells #[.bool false, .slice none 0 0, .slice B kk.length d, .slice A l.length c] 31 (0, 0))) ∧ Aside0 (Kd.string.R 9 W w.heap.size (fun _ => True) (.slice B kk.length d) kk) ∧ Aside0 ((Kd.int .i64).R 3 W w.heap.size (fun _ => True) (.slice A l.length c) l) ∧ Aside0 (Below w.heap.size w W) ∧ Aside0 (decK (cn - j) sE bE kk = (s4, b4, K)) ∧ kk.length ≤ j) (fun v12 _ => (cn - intOf v12).toNat)
          case atStart => exact ⟨1, sC, bC, [], none, 0, by omega, rfl, I, TR, TNf, ⟨Kd.R_nil _ _ _ _ _⟩, RD, BB, ⟨by rw [HEQ.out.1, HEQ.out.2.1]; exact E4.out⟩, by simp⟩
          case round =>
            clear I TR TNf RR RD BB n0 y1
            obtain ⟨j, sE, bE, kk, B, d, hj, rfl, I, TR, TNf, RR, RD, BB, HD, hkl⟩ := hrel
            have n0 : wr.cell? ⟨w2.heap.size, 0, none⟩ = some (.bool false) := blk_cell TNf.out 0
            have y1 : wr.cell? ⟨(w.heap.size + 1), 1, none⟩ = some (.bool bE) := blk_cell I.out.1 1
            by_cases h : j < cn
            · have d1 : decide (j < cn) = true := decide_eq_true h
              have d1' : decide ((j : Int) < (cn : Int)) = true := decide_eq_true (by omega)
              cases bE
              · obtain ⟨key, sV, bV, ek⟩ : ∃ x y z, rdt sE false = (x, y, z) := ⟨_, _, _, rfl⟩
                have T1 : Aside0 (node_reader_text.f sE false = some (key, sV, bV)) := ⟨by rw [text_val, ek]⟩
                have DS : Aside0 (decK (cn - j) sE false kk = decK (cn - (j + 1)) sV bV (kk ++ [key])) := ⟨by
                  rw [show cn - j = (cn - (j + 1)) + 1 by omega, decK, if_neg (by decide), ek]⟩
                clear ek
                go_wp2_with fail
                refine wp_region_held_drew (S := fun _ => True) (by kernel_rfl) trivial (fun hHeld => ?_)
                have dB : Below wr.heap.size wr wr.drew := below_drew1 (Below.refl _ _)
                obtain ⟨w6, hw6⟩ : ∃ x, x = wr.drew := ⟨_, rfl⟩
                rw [← hw6] at dB ⊢
                replace TR := Aside0.mk ((dB.block _ (blk_lt TR.out)).trans TR.out)
                replace TNf := Aside0.mk ((dB.block _ (blk_lt TNf.out)).trans TNf.out)
                replace RR := Aside0.mk (Kd.R_below RR.out dB)
                replace RD := Aside0.mk (Kd.R_below RD.out dB)
                replace I := Aside0.mk (I.out.below dB)
                replace BB := Aside0.mk (BB.out.trans (dB.mono BB.out.size))
                clear dB hw6 hHeld
                refine dc_take 0 trivial ?_
                refine dc_take 2 trivial ?_
                refine wpAnyH_ready (rs := [1, 3]) (by kernel_rfl) (by simp) ?_
                refine (AllReadyH.cons rfl (fun K hK => ?_) (AllReadyH.cons rfl (fun K hK => ?_) AllReadyH.nil))
                · have cN : w6.cell? ⟨w2.heap.size, 2, none⟩ = some ((.slice B kk.length d)) := blk_cell TNf.out 2
                  go_simp
                  clear cN
                  refine hK.out _ _ trivial (fun hNew => ?_)
                  clear hK K hNew
                  refine wpAnyH_ready (rs := [3]) (by kernel_rfl) (by simp) ?_
                  refine (AllReadyH.cons rfl (fun K hK => ?_) AllReadyH.nil)
                  go_simp
                  refine (node_reader_text.calls (w.heap.size + 1) sE false key sV bV w w6 I.out BB.out T1.out).mono ?_
                  rintro e w7 ⟨rfl, hI, hB, hK2⟩
                  replace TR := Aside0.mk (nd_keep hK2 TR.out (by omega))
                  replace TNf := Aside0.mk (nd_keep hK2 TNf.out NNE.out)
                  replace RR := Aside0.mk (Kd.R_mono (Kd.R_step (I.out.apart RR.out (by decide)) (fun k hk hl => hK2.2 k hl hk.2 (by simp))) (fun _ _ => trivial))
                  replace RD := Aside0.mk (Kd.R_mono (Kd.R_step (I.out.apart RD.out (by decide)) (fun k hk hl => hK2.2 k hl hk.2 (by simp))) (fun _ _ => trivial))
                  replace I := Aside0.mk hI
                  replace BB := Aside0.mk hB
                  clear hI hB hK2
                  go_simp
                  refine hK.out _ _ trivial (fun hNew => ?_)
                  clear hK K hNew
                  refine wpAnyH_ready (rs := [4]) (by kernel_rfl) (by simp) ?_
                  refine (AllReadyH.cons rfl (fun K hK => ?_) AllReadyH.nil)
                  have hB := below_alloc (Below.refl w7.heap.size w7) (.cells #[.string key] 9)
                  have HVB := Aside0.mk (heap_alloc_new w7 (.cells #[.string key] 9))
                  go_simp
                  obtain ⟨vb, hvb⟩ : ∃ n, n = w7.heap.size := ⟨_, rfl⟩
                  obtain ⟨w8, hwV⟩ : ∃ x, x = w7.alloc (.cells #[.string key] 9) := ⟨_, rfl⟩
                  rw [← hwV] at HVB hB ⊢
                  rw [← hvb] at HVB ⊢
                  replace TR := Aside0.mk ((hB.block _ (blk_lt TR.out)).trans TR.out)
                  replace TNf := Aside0.mk ((hB.block _ (blk_lt TNf.out)).trans TNf.out)
                  replace RR := Aside0.mk (Kd.R_below RR.out hB)
                  replace RD := Aside0.mk (Kd.R_below RD.out hB)
                  replace I := Aside0.mk (I.out.below hB)
                  replace BB := Aside0.mk (BB.out.trans (hB.mono BB.out.size))
                  clear hB hwV hvb
                  refine hK.out _ _ trivial (fun hNew => ?_)
                  clear hK K hNew
                  refine wpAnyH_ready (rs := [5]) (by kernel_rfl) (by simp) ?_
                  refine (AllReadyH.cons rfl (fun K hK => ?_) AllReadyH.nil)
                  refine Kd.R_append_rows_step (Kd.string) (Rr := Kd.K (Kd.string) w8) (w0 := w) (W := w8) w.heap.size (by kernel_rfl) (.tmp 97) (.tmp 100) 23 9 (.string ⟨#[]⟩) 16 rfl Try.underlying23 (by kernel_rfl) rfl (by decide) (by decide) (.slice B kk.length d) kk [key] (some ⟨vb, 0, none⟩) 1 1 (fun _ => True) (fun _ => False) rfl rfl RR.out (one_sc HVB.out) (fun x cs hx => hx) (fun k hk => hk.elim) (fun _ _ => trivial) BB.out BB.out.size (by omega) ?_
                  intro v1 wA hR hB hg _
                  simp only [Act.put, List.getElem_toArray, List.getElem_cons_zero, List.getElem_cons_succ, List.setIfInBounds_toArray, List.set_cons_zero, List.set_cons_succ]
                  obtain ⟨A', c', rfl⟩ := Kd.R_slice hR
                  obtain ⟨lN, hlN⟩ : ∃ x, x = kk ++ [key] := ⟨_, rfl⟩
                  have hlenN : lN.length ≤ j + 1 := by rw [hlN, List.length_append]; simp; omega
                  rw [← hlN] at hR ⊢
                  have HLN := Aside0.mk hlN
                  clear hlN
                  have I' := I.out.grown hg (I.out.own_ne RR.out (by decide))
                  have TR' := (hg.block _ (blk_lt TR.out) (Kd.R_ne RR.out TR.out (by decide))).trans TR.out
                  have TN' := (hg.block _ (blk_lt TNf.out) (Kd.R_ne RR.out TNf.out (by decide))).trans TNf.out
                  have RD' := Kd.R_over RD.out RR.out (by decide) hg
                  refine hK.out _ _ trivial (fun hNew => ?_)
                  clear hK K hNew
                  refine dc_take 6 trivial ?_
                  have cN : wA.cell? ⟨w2.heap.size, 2, none⟩ = some (.slice B kk.length d) := blk_cell TN' 2
                  have fN : wA.frozen? ⟨w2.heap.size, 2, none⟩ = false := blk_frozen TN' 2
                  refine wpAnyH_ready (rs := [7]) (by kernel_rfl) (by simp) ?_
                  refine (AllReadyH.cons rfl (fun K hK => ?_) AllReadyH.nil)
                  go_simp
                  have TNn := Aside0.mk (heap_setCell_same wA w2.heap.size 2 _ 31 (.slice A' lN.length c') TN')
                  have TRn := Aside0.mk ((Below.heap_setCell wA ⟨w2.heap.size, 2, none⟩ (.slice A' lN.length c') w.heap.size NNW.out).trans TR')
                  have In := Aside0.mk (I'.far (p := ⟨w2.heap.size, 2, none⟩) (fun e => NNE.out e.symm) (.slice A' lN.length c'))
                  have RRn := Aside0.mk (Kd.R_set hR TN' (by decide) 2 (.slice A' lN.length c'))
                  have RDn := Aside0.mk (Kd.R_set RD' TN' (by decide) 2 (.slice A' lN.length c'))
                  have BBn := Aside0.mk (hB.setCell (p := ⟨w2.heap.size, 2, none⟩) NNL.out (.slice A' lN.length c'))
                  clear hR hB hg I' TR' TN' cN fN I TR TNf RR BB HVB RD RD'
                  refine hK.out _ _ trivial (fun hNew => ?_)
                  clear hK K hNew
                  refine wpAnyH_done (by kernel_rfl) ?_ _
                  go_wp2_with fail
                  go_roundw
                  case rel => exact ⟨j + 1, sV, bV, lN, A', c', by omega, by first | rfl | go_num, In, TRn, TNn, RRn, RDn, BBn, ⟨by rw [← HD.out, DS.out, HLN.out]⟩, hlenN⟩
                  case measure => simp [intOf]; omega

                · go_simp
                  refine (node_reader_text.calls (w.heap.size + 1) sE false key sV bV w w6 I.out BB.out T1.out).mono ?_
                  rintro e w7 ⟨rfl, hI, hB, hK2⟩
                  replace TR := Aside0.mk (nd_keep hK2 TR.out (by omega))
                  replace TNf := Aside0.mk (nd_keep hK2 TNf.out NNE.out)
                  replace RR := Aside0.mk (Kd.R_mono (Kd.R_step (I.out.apart RR.out (by decide)) (fun k hk hl => hK2.2 k hl hk.2 (by simp))) (fun _ _ => trivial))
                  replace RD := Aside0.mk (Kd.R_mono (Kd.R_step (I.out.apart RD.out (by decide)) (fun k hk hl => hK2.2 k hl hk.2 (by simp))) (fun _ _ => trivial))
                  replace I := Aside0.mk hI
                  replace BB := Aside0.mk hB
                  clear hI hB hK2
                  go_simp
                  refine hK.out _ _ trivial (fun hNew => ?_)
                  clear hK K hNew
                  refine wpAnyH_ready (rs := [1, 4]) (by kernel_rfl) (by simp) ?_
                  refine (AllReadyH.cons rfl (fun K hK => ?_) (AllReadyH.cons rfl (fun K hK => ?_) AllReadyH.nil))

                  · have cN : w7.cell? ⟨w2.heap.size, 2, none⟩ = some ((.slice B kk.length d)) := blk_cell TNf.out 2
                    go_simp
                    clear cN
                    refine hK.out _ _ trivial (fun hNew => ?_)
                    clear hK K hNew
                    refine wpAnyH_ready (rs := [4]) (by kernel_rfl) (by simp) ?_
                    refine (AllReadyH.cons rfl (fun K hK => ?_) AllReadyH.nil)
                    have hB := below_alloc (Below.refl w7.heap.size w7) (.cells #[.string key] 9)
                    have HVB := Aside0.mk (heap_alloc_new w7 (.cells #[.string key] 9))
                    go_simp
                    obtain ⟨vb, hvb⟩ : ∃ n, n = w7.heap.size := ⟨_, rfl⟩
                    obtain ⟨w8, hwV⟩ : ∃ x, x = w7.alloc (.cells #[.string key] 9) := ⟨_, rfl⟩
                    rw [← hwV] at HVB hB ⊢
                    rw [← hvb] at HVB ⊢
                    replace TR := Aside0.mk ((hB.block _ (blk_lt TR.out)).trans TR.out)
                    replace TNf := Aside0.mk ((hB.block _ (blk_lt TNf.out)).trans TNf.out)
                    replace RR := Aside0.mk (Kd.R_below RR.out hB)
                    replace RD := Aside0.mk (Kd.R_below RD.out hB)
                    replace I := Aside0.mk (I.out.below hB)
                    replace BB := Aside0.mk (BB.out.trans (hB.mono BB.out.size))
                    clear hB hwV hvb
                    refine hK.out _ _ trivial (fun hNew => ?_)
                    clear hK K hNew
                    refine wpAnyH_ready (rs := [5]) (by kernel_rfl) (by simp) ?_
                    refine (AllReadyH.cons rfl (fun K hK => ?_) AllReadyH.nil)
                    refine Kd.R_append_rows_step (Kd.string) (Rr := Kd.K (Kd.string) w8) (w0 := w) (W := w8) w.heap.size (by kernel_rfl) (.tmp 97) (.tmp 100) 23 9 (.string ⟨#[]⟩) 16 rfl Try.underlying23 (by kernel_rfl) rfl (by decide) (by decide) (.slice B kk.length d) kk [key] (some ⟨vb, 0, none⟩) 1 1 (fun _ => True) (fun _ => False) rfl rfl RR.out (one_sc HVB.out) (fun x cs hx => hx) (fun k hk => hk.elim) (fun _ _ => trivial) BB.out BB.out.size (by omega) ?_
                    intro v1 wA hR hB hg _
                    simp only [Act.put, List.getElem_toArray, List.getElem_cons_zero, List.getElem_cons_succ, List.setIfInBounds_toArray, List.set_cons_zero, List.set_cons_succ]
                    obtain ⟨A', c', rfl⟩ := Kd.R_slice hR
                    obtain ⟨lN, hlN⟩ : ∃ x, x = kk ++ [key] := ⟨_, rfl⟩
                    have hlenN : lN.length ≤ j + 1 := by rw [hlN, List.length_append]; simp; omega
                    rw [← hlN] at hR ⊢
                    have HLN := Aside0.mk hlN
                    clear hlN
                    have I' := I.out.grown hg (I.out.own_ne RR.out (by decide))
                    have TR' := (hg.block _ (blk_lt TR.out) (Kd.R_ne RR.out TR.out (by decide))).trans TR.out
                    have TN' := (hg.block _ (blk_lt TNf.out) (Kd.R_ne RR.out TNf.out (by decide))).trans TNf.out
                    have RD' := Kd.R_over RD.out RR.out (by decide) hg
                    refine hK.out _ _ trivial (fun hNew => ?_)
                    clear hK K hNew
                    refine dc_take 6 trivial ?_
                    have cN : wA.cell? ⟨w2.heap.size, 2, none⟩ = some (.slice B kk.length d) := blk_cell TN' 2
                    have fN : wA.frozen? ⟨w2.heap.size, 2, none⟩ = false := blk_frozen TN' 2
                    refine wpAnyH_ready (rs := [7]) (by kernel_rfl) (by simp) ?_
                    refine (AllReadyH.cons rfl (fun K hK => ?_) AllReadyH.nil)
                    go_simp
                    have TNn := Aside0.mk (heap_setCell_same wA w2.heap.size 2 _ 31 (.slice A' lN.length c') TN')
                    have TRn := Aside0.mk ((Below.heap_setCell wA ⟨w2.heap.size, 2, none⟩ (.slice A' lN.length c') w.heap.size NNW.out).trans TR')
                    have In := Aside0.mk (I'.far (p := ⟨w2.heap.size, 2, none⟩) (fun e => NNE.out e.symm) (.slice A' lN.length c'))
                    have RRn := Aside0.mk (Kd.R_set hR TN' (by decide) 2 (.slice A' lN.length c'))
                    have RDn := Aside0.mk (Kd.R_set RD' TN' (by decide) 2 (.slice A' lN.length c'))
                    have BBn := Aside0.mk (hB.setCell (p := ⟨w2.heap.size, 2, none⟩) NNL.out (.slice A' lN.length c'))
                    clear hR hB hg I' TR' TN' cN fN I TR TNf RR BB HVB RD RD'
                    refine hK.out _ _ trivial (fun hNew => ?_)
                    clear hK K hNew
                    refine wpAnyH_done (by kernel_rfl) ?_ _
                    go_wp2_with fail
                    go_roundw
                    case rel => exact ⟨j + 1, sV, bV, lN, A', c', by omega, by first | rfl | go_num, In, TRn, TNn, RRn, RDn, BBn, ⟨by rw [← HD.out, DS.out, HLN.out]⟩, hlenN⟩
                    case measure => simp [intOf]; omega

                  · have hB := below_alloc (Below.refl w7.heap.size w7) (.cells #[.string key] 9)
                    have HVB := Aside0.mk (heap_alloc_new w7 (.cells #[.string key] 9))
                    go_simp
                    obtain ⟨vb, hvb⟩ : ∃ n, n = w7.heap.size := ⟨_, rfl⟩
                    obtain ⟨w8, hwV⟩ : ∃ x, x = w7.alloc (.cells #[.string key] 9) := ⟨_, rfl⟩
                    rw [← hwV] at HVB hB ⊢
                    rw [← hvb] at HVB ⊢
                    replace TR := Aside0.mk ((hB.block _ (blk_lt TR.out)).trans TR.out)
                    replace TNf := Aside0.mk ((hB.block _ (blk_lt TNf.out)).trans TNf.out)
                    replace RR := Aside0.mk (Kd.R_below RR.out hB)
                    replace RD := Aside0.mk (Kd.R_below RD.out hB)
                    replace I := Aside0.mk (I.out.below hB)
                    replace BB := Aside0.mk (BB.out.trans (hB.mono BB.out.size))
                    clear hB hwV hvb
                    refine hK.out _ _ trivial (fun hNew => ?_)
                    clear hK K hNew
                    refine wpAnyH_ready (rs := [1]) (by kernel_rfl) (by simp) ?_
                    refine (AllReadyH.cons rfl (fun K hK => ?_) AllReadyH.nil)
                    have cN : w8.cell? ⟨w2.heap.size, 2, none⟩ = some ((.slice B kk.length d)) := blk_cell TNf.out 2
                    go_simp
                    clear cN
                    refine hK.out _ _ trivial (fun hNew => ?_)
                    clear hK K hNew
                    refine wpAnyH_ready (rs := [5]) (by kernel_rfl) (by simp) ?_
                    refine (AllReadyH.cons rfl (fun K hK => ?_) AllReadyH.nil)
                    refine Kd.R_append_rows_step (Kd.string) (Rr := Kd.K (Kd.string) w8) (w0 := w) (W := w8) w.heap.size (by kernel_rfl) (.tmp 97) (.tmp 100) 23 9 (.string ⟨#[]⟩) 16 rfl Try.underlying23 (by kernel_rfl) rfl (by decide) (by decide) (.slice B kk.length d) kk [key] (some ⟨vb, 0, none⟩) 1 1 (fun _ => True) (fun _ => False) rfl rfl RR.out (one_sc HVB.out) (fun x cs hx => hx) (fun k hk => hk.elim) (fun _ _ => trivial) BB.out BB.out.size (by omega) ?_
                    intro v1 wA hR hB hg _
                    simp only [Act.put, List.getElem_toArray, List.getElem_cons_zero, List.getElem_cons_succ, List.setIfInBounds_toArray, List.set_cons_zero, List.set_cons_succ]
                    obtain ⟨A', c', rfl⟩ := Kd.R_slice hR
                    obtain ⟨lN, hlN⟩ : ∃ x, x = kk ++ [key] := ⟨_, rfl⟩
                    have hlenN : lN.length ≤ j + 1 := by rw [hlN, List.length_append]; simp; omega
                    rw [← hlN] at hR ⊢
                    have HLN := Aside0.mk hlN
                    clear hlN
                    have I' := I.out.grown hg (I.out.own_ne RR.out (by decide))
                    have TR' := (hg.block _ (blk_lt TR.out) (Kd.R_ne RR.out TR.out (by decide))).trans TR.out
                    have TN' := (hg.block _ (blk_lt TNf.out) (Kd.R_ne RR.out TNf.out (by decide))).trans TNf.out
                    have RD' := Kd.R_over RD.out RR.out (by decide) hg
                    refine hK.out _ _ trivial (fun hNew => ?_)
                    clear hK K hNew
                    refine dc_take 6 trivial ?_
                    have cN : wA.cell? ⟨w2.heap.size, 2, none⟩ = some (.slice B kk.length d) := blk_cell TN' 2
                    have fN : wA.frozen? ⟨w2.heap.size, 2, none⟩ = false := blk_frozen TN' 2
                    refine wpAnyH_ready (rs := [7]) (by kernel_rfl) (by simp) ?_
                    refine (AllReadyH.cons rfl (fun K hK => ?_) AllReadyH.nil)
                    go_simp
                    have TNn := Aside0.mk (heap_setCell_same wA w2.heap.size 2 _ 31 (.slice A' lN.length c') TN')
                    have TRn := Aside0.mk ((Below.heap_setCell wA ⟨w2.heap.size, 2, none⟩ (.slice A' lN.length c') w.heap.size NNW.out).trans TR')
                    have In := Aside0.mk (I'.far (p := ⟨w2.heap.size, 2, none⟩) (fun e => NNE.out e.symm) (.slice A' lN.length c'))
                    have RRn := Aside0.mk (Kd.R_set hR TN' (by decide) 2 (.slice A' lN.length c'))
                    have RDn := Aside0.mk (Kd.R_set RD' TN' (by decide) 2 (.slice A' lN.length c'))
                    have BBn := Aside0.mk (hB.setCell (p := ⟨w2.heap.size, 2, none⟩) NNL.out (.slice A' lN.length c'))
                    clear hR hB hg I' TR' TN' cN fN I TR TNf RR BB HVB RD RD'
                    refine hK.out _ _ trivial (fun hNew => ?_)
                    clear hK K hNew
                    refine wpAnyH_done (by kernel_rfl) ?_ _
                    go_wp2_with fail
                    go_roundw
                    case rel => exact ⟨j + 1, sV, bV, lN, A', c', by omega, by first | rfl | go_num, In, TRn, TNn, RRn, RDn, BBn, ⟨by rw [← HD.out, DS.out, HLN.out]⟩, hlenN⟩
                    case measure => simp [intOf]; omega

              · have HRV : Aside0 ((r1, r2, r3, r4, r5) = outI k s sE true kk l) := ⟨by
                  have := HD.out
                  rw [show cn - j = (cn - (j + 1)) + 1 by omega, decK, if_pos rfl] at this
                  obtain ⟨q1, q2, q3⟩ : sE = s4 ∧ true = b4 ∧ kk = K := by simpa using this
                  rw [HEQ.out.2.2, q1, q2, q3]
                  exact HR0.out⟩
                have y0 : wr.cell? ⟨(w.heap.size + 1), 0, none⟩ = some (.string sE) := blk_cell I.out.1 0
                have hv := HRV.out
                unfold outI at hv
                rw [if_neg (fun h => by cases h.1)] at hv
                cases hv
                have c0 : wr.cell? ⟨w.heap.size, 0, none⟩ = some (.bool false) := blk_cell TR.out 0
                have c1 : wr.cell? ⟨w.heap.size, 1, none⟩ = some (.slice none 0 0) := blk_cell TR.out 1
                have c2 : wr.cell? ⟨w.heap.size, 2, none⟩ = some (.slice none 0 0) := blk_cell TR.out 2
                have c3 : wr.cell? ⟨w.heap.size, 3, none⟩ = some (.slice none 0 0) := blk_cell TR.out 3
                have f0 : wr.frozen? ⟨w.heap.size, 0, none⟩ = false := blk_frozen TR.out 0
                have f1 : wr.frozen? ⟨w.heap.size, 1, none⟩ = false := blk_frozen TR.out 1
                have f2 : wr.frozen? ⟨w.heap.size, 2, none⟩ = false := blk_frozen TR.out 2
                have f3 : wr.frozen? ⟨w.heap.size, 3, none⟩ = false := blk_frozen TR.out 3
                go_wp2
                have hg4 := nd_grown4 wr w.heap.size (.bool false) (.slice none 0 0) (.slice none 0 0) (.slice none 0 0)
                refine bodyPost_ret (results_ct rfl _ _ w.heap.size 31 #[.bool false, .slice none 0 0, .slice none 0 0, .slice none 0 0] (0, 0) _ rfl (nd_put4 wr w.heap.size 31 _ _ _ _ (.bool false) (.slice none 0 0) (.slice none 0 0) (.slice none 0 0) TR.out) Try.underlying31 rfl (by kernel_rfl)) rfl ?_
                exact ⟨_, _, _, rfl, Kd.R_nil _ _ _ _ _, Kd.R_nil _ _ _ _ _, Kd.R_nil _ _ _ _ _, nd_grown_below hg4 BB.out BB.out.size (Nat.le_refl _)⟩

            · have d1 : decide (j < cn) = false := decide_eq_false h
              have d1' : decide ((j : Int) < (cn : Int)) = false := decide_eq_false (by omega)
              have HRV : Aside0 ((r1, r2, r3, r4, r5) = outI k s sE bE kk l) := ⟨by
                have := HD.out
                rw [show cn - j = 0 by omega, decK] at this
                obtain ⟨q1, q2, q3⟩ : sE = s4 ∧ bE = b4 ∧ kk = K := by simpa using this
                rw [HEQ.out.2.2, q1, q2, q3]
                exact HR0.out⟩
              clear HD HEQ HR0 E4 E3
              have y0 : wr.cell? ⟨(w.heap.size + 1), 0, none⟩ = some (.string sE) := blk_cell I.out.1 0
              cases bE
              · by_cases hs : sE.toList = []
                · have g0 : (sE.toList == ([] : List UInt8)) = true := beq_iff_eq.2 hs
                  have g0' : (sE.toList != ([] : List UInt8)) = false := by rw [hs]; rfl
                  by_cases h2 : k = 2
                  · have k2 : ((k : Int) == 2) = true := by rw [h2]; rfl
                    have k2' : ((k : Int) != 2) = false := by rw [h2]; rfl
                    by_cases h160 : 160 < s.size
                    · have g1 : decide ((160 : Int) < (s.size : Int)) = true := decide_eq_true (by omega)
                      have hv := HRV.out
                      unfold outI at hv
                      rw [if_neg (fun h => by have := h.2.2.2.1; omega)] at hv
                      cases hv
                      clear hs h160 h2
                      have c0 : wr.cell? ⟨w.heap.size, 0, none⟩ = some (.bool false) := blk_cell TR.out 0
                      have c1 : wr.cell? ⟨w.heap.size, 1, none⟩ = some (.slice none 0 0) := blk_cell TR.out 1
                      have c2 : wr.cell? ⟨w.heap.size, 2, none⟩ = some (.slice none 0 0) := blk_cell TR.out 2
                      have c3 : wr.cell? ⟨w.heap.size, 3, none⟩ = some (.slice none 0 0) := blk_cell TR.out 3
                      have f0 : wr.frozen? ⟨w.heap.size, 0, none⟩ = false := blk_frozen TR.out 0
                      have f1 : wr.frozen? ⟨w.heap.size, 1, none⟩ = false := blk_frozen TR.out 1
                      have f2 : wr.frozen? ⟨w.heap.size, 2, none⟩ = false := blk_frozen TR.out 2
                      have f3 : wr.frozen? ⟨w.heap.size, 3, none⟩ = false := blk_frozen TR.out 3
                      go_wp2
                      have hg4 := nd_grown4 wr w.heap.size (.bool false) (.slice none 0 0) (.slice none 0 0) (.slice none 0 0)
                      refine bodyPost_ret (results_ct rfl _ _ w.heap.size 31 #[.bool false, .slice none 0 0, .slice none 0 0, .slice none 0 0] (0, 0) _ rfl (nd_put4 wr w.heap.size 31 _ _ _ _ (.bool false) (.slice none 0 0) (.slice none 0 0) (.slice none 0 0) TR.out) Try.underlying31 rfl (by kernel_rfl)) rfl ?_
                      exact ⟨_, _, _, rfl, Kd.R_nil _ _ _ _ _, Kd.R_nil _ _ _ _ _, Kd.R_nil _ _ _ _ _, nd_grown_below hg4 BB.out BB.out.size (Nat.le_refl _)⟩

                    · have g1 : decide ((160 : Int) < (s.size : Int)) = false := decide_eq_false (by omega)
                      have n1 : wr.cell? ⟨w2.heap.size, 1, none⟩ = some (.slice none 0 0) := blk_cell TNf.out 1
                      have n2 : wr.cell? ⟨w2.heap.size, 2, none⟩ = some (.slice B kk.length d) := blk_cell TNf.out 2
                      have n3 : wr.cell? ⟨w2.heap.size, 3, none⟩ = some (.slice A l.length c) := blk_cell TNf.out 3
                      by_cases hl : innerV false [] kk l = true
                      · have CK := Aside0.mk (node_Check.calls false none 0 [] B d kk A c l 0 wr (⟨rfl, by decide, fun h => absurd h (by decide)⟩) (Nat.le_refl _) (Kd.R_reads' RR.out).2.2 (Kd.R_reads' RR.out).2.1 (Kd.R_reads' RD.out).2.2 (Kd.R_reads' RD.out).2.1 (by rw [check_val, hl]; rfl))
                        have hv := HRV.out
                        unfold outI at hv
                        rw [if_pos ⟨rfl, hs, h2, by omega, hl⟩] at hv
                        cases hv
                        clear h160 hl hs h2
                        go_wp2_with fail
                        refine CK.out.mono ?_
                        rintro e w9 ⟨rfl, hB⟩
                        replace TR := Aside0.mk ((hB.block _ (blk_lt TR.out)).trans TR.out)
                        replace TNf := Aside0.mk ((hB.block _ (blk_lt TNf.out)).trans TNf.out)
                        replace RR := Aside0.mk (Kd.R_below RR.out hB)
                        replace RD := Aside0.mk (Kd.R_below RD.out hB)
                        replace BB := Aside0.mk (BB.out.trans (hB.mono BB.out.size))
                        have x0 : w9.cell? ⟨w2.heap.size, 0, none⟩ = some (.bool false) := blk_cell TNf.out 0
                        have x1 : w9.cell? ⟨w2.heap.size, 1, none⟩ = some (.slice none 0 0) := blk_cell TNf.out 1
                        have x2 : w9.cell? ⟨w2.heap.size, 2, none⟩ = some (.slice B r3.length d) := blk_cell TNf.out 2
                        have x3 : w9.cell? ⟨w2.heap.size, 3, none⟩ = some (.slice A r4.length c) := blk_cell TNf.out 3
                        clear hB n0 n1 n2 n3 y0 y1 I
                        have c0 : w9.cell? ⟨w.heap.size, 0, none⟩ = some (.bool false) := blk_cell TR.out 0
                        have c1 : w9.cell? ⟨w.heap.size, 1, none⟩ = some (.slice none 0 0) := blk_cell TR.out 1
                        have c2 : w9.cell? ⟨w.heap.size, 2, none⟩ = some (.slice none 0 0) := blk_cell TR.out 2
                        have c3 : w9.cell? ⟨w.heap.size, 3, none⟩ = some (.slice none 0 0) := blk_cell TR.out 3
                        have f0 : w9.frozen? ⟨w.heap.size, 0, none⟩ = false := blk_frozen TR.out 0
                        have f1 : w9.frozen? ⟨w.heap.size, 1, none⟩ = false := blk_frozen TR.out 1
                        have f2 : w9.frozen? ⟨w.heap.size, 2, none⟩ = false := blk_frozen TR.out 2
                        have f3 : w9.frozen? ⟨w.heap.size, 3, none⟩ = false := blk_frozen TR.out 3
                        go_wp2
                        have hg4 := nd_grown4 w9 w.heap.size (.bool false) (.slice none 0 0) (.slice B r3.length d) (.slice A r4.length c)
                        refine bodyPost_ret (results_ct rfl _ _ w.heap.size 31 #[.bool false, .slice none 0 0, .slice B r3.length d, .slice A r4.length c] (0, 0) _ rfl (nd_put4 w9 w.heap.size 31 _ _ _ _ (.bool false) (.slice none 0 0) (.slice B r3.length d) (.slice A r4.length c) TR.out) Try.underlying31 rfl (by kernel_rfl)) rfl ?_
                        exact ⟨_, _, _, rfl, Kd.R_nil _ _ _ _ _, (Kd.R_mono (Kd.R_step (Kd.R_types RR.out TR.out (by decide)) (fun k hk hl => hg4.block k hl (fun e => hk.2 (Option.some.inj e)))) (fun _ _ => trivial)), (Kd.R_mono (Kd.R_step (Kd.R_types RD.out TR.out (by decide)) (fun k hk hl => hg4.block k hl (fun e => hk.2 (Option.some.inj e)))) (fun _ _ => trivial)), nd_grown_below hg4 BB.out BB.out.size (Nat.le_refl _)⟩

                      · have CK := Aside0.mk (node_Check.calls false none 0 [] B d kk A c l 2 wr (⟨rfl, by decide, fun h => absurd h (by decide)⟩) (Nat.le_refl _) (Kd.R_reads' RR.out).2.2 (Kd.R_reads' RR.out).2.1 (Kd.R_reads' RD.out).2.2 (Kd.R_reads' RD.out).2.1 (by rw [check_val]; rw [Bool.not_eq_true] at hl; rw [hl]; rfl))
                        have hv := HRV.out
                        unfold outI at hv
                        rw [if_neg (fun h => hl h.2.2.2.2)] at hv
                        cases hv
                        clear h160 hl hs h2
                        go_wp2_with fail
                        refine CK.out.mono ?_
                        rintro e w9 ⟨rfl, hB⟩
                        replace TR := Aside0.mk ((hB.block _ (blk_lt TR.out)).trans TR.out)
                        replace BB := Aside0.mk (BB.out.trans (hB.mono BB.out.size))
                        clear hB n0 n1 n2 n3 y0 y1 I
                        have c0 : w9.cell? ⟨w.heap.size, 0, none⟩ = some (.bool false) := blk_cell TR.out 0
                        have c1 : w9.cell? ⟨w.heap.size, 1, none⟩ = some (.slice none 0 0) := blk_cell TR.out 1
                        have c2 : w9.cell? ⟨w.heap.size, 2, none⟩ = some (.slice none 0 0) := blk_cell TR.out 2
                        have c3 : w9.cell? ⟨w.heap.size, 3, none⟩ = some (.slice none 0 0) := blk_cell TR.out 3
                        have f0 : w9.frozen? ⟨w.heap.size, 0, none⟩ = false := blk_frozen TR.out 0
                        have f1 : w9.frozen? ⟨w.heap.size, 1, none⟩ = false := blk_frozen TR.out 1
                        have f2 : w9.frozen? ⟨w.heap.size, 2, none⟩ = false := blk_frozen TR.out 2
                        have f3 : w9.frozen? ⟨w.heap.size, 3, none⟩ = false := blk_frozen TR.out 3
                        go_wp2
                        have hg4 := nd_grown4 w9 w.heap.size (.bool false) (.slice none 0 0) (.slice none 0 0) (.slice none 0 0)
                        refine bodyPost_ret (results_ct rfl _ _ w.heap.size 31 #[.bool false, .slice none 0 0, .slice none 0 0, .slice none 0 0] (0, 0) _ rfl (nd_put4 w9 w.heap.size 31 _ _ _ _ (.bool false) (.slice none 0 0) (.slice none 0 0) (.slice none 0 0) TR.out) Try.underlying31 rfl (by kernel_rfl)) rfl ?_
                        exact ⟨_, _, _, rfl, Kd.R_nil _ _ _ _ _, Kd.R_nil _ _ _ _ _, Kd.R_nil _ _ _ _ _, nd_grown_below hg4 BB.out BB.out.size (Nat.le_refl _)⟩

                  · have k2 : ((k : Int) == 2) = false := beq_eq_false_iff_ne.2 (by omega)
                    have k2' : ((k : Int) != 2) = true := bne_iff_ne.2 (by omega)
                    have hv := HRV.out
                    unfold outI at hv
                    rw [if_neg (fun h => h2 h.2.2.1)] at hv
                    cases hv
                    clear hs h2
                    have c0 : wr.cell? ⟨w.heap.size, 0, none⟩ = some (.bool false) := blk_cell TR.out 0
                    have c1 : wr.cell? ⟨w.heap.size, 1, none⟩ = some (.slice none 0 0) := blk_cell TR.out 1
                    have c2 : wr.cell? ⟨w.heap.size, 2, none⟩ = some (.slice none 0 0) := blk_cell TR.out 2
                    have c3 : wr.cell? ⟨w.heap.size, 3, none⟩ = some (.slice none 0 0) := blk_cell TR.out 3
                    have f0 : wr.frozen? ⟨w.heap.size, 0, none⟩ = false := blk_frozen TR.out 0
                    have f1 : wr.frozen? ⟨w.heap.size, 1, none⟩ = false := blk_frozen TR.out 1
                    have f2 : wr.frozen? ⟨w.heap.size, 2, none⟩ = false := blk_frozen TR.out 2
                    have f3 : wr.frozen? ⟨w.heap.size, 3, none⟩ = false := blk_frozen TR.out 3
                    go_wp2
                    have hg4 := nd_grown4 wr w.heap.size (.bool false) (.slice none 0 0) (.slice none 0 0) (.slice none 0 0)
                    refine bodyPost_ret (results_ct rfl _ _ w.heap.size 31 #[.bool false, .slice none 0 0, .slice none 0 0, .slice none 0 0] (0, 0) _ rfl (nd_put4 wr w.heap.size 31 _ _ _ _ (.bool false) (.slice none 0 0) (.slice none 0 0) (.slice none 0 0) TR.out) Try.underlying31 rfl (by kernel_rfl)) rfl ?_
                    exact ⟨_, _, _, rfl, Kd.R_nil _ _ _ _ _, Kd.R_nil _ _ _ _ _, Kd.R_nil _ _ _ _ _, nd_grown_below hg4 BB.out BB.out.size (Nat.le_refl _)⟩

                · have g0 : (sE.toList == ([] : List UInt8)) = false := beq_eq_false_iff_ne.2 hs
                  have g0' : (sE.toList != ([] : List UInt8)) = true := bne_iff_ne.2 hs
                  have hv := HRV.out
                  unfold outI at hv
                  rw [if_neg (fun h => hs h.2.1)] at hv
                  cases hv
                  clear hs
                  have c0 : wr.cell? ⟨w.heap.size, 0, none⟩ = some (.bool false) := blk_cell TR.out 0
                  have c1 : wr.cell? ⟨w.heap.size, 1, none⟩ = some (.slice none 0 0) := blk_cell TR.out 1
                  have c2 : wr.cell? ⟨w.heap.size, 2, none⟩ = some (.slice none 0 0) := blk_cell TR.out 2
                  have c3 : wr.cell? ⟨w.heap.size, 3, none⟩ = some (.slice none 0 0) := blk_cell TR.out 3
                  have f0 : wr.frozen? ⟨w.heap.size, 0, none⟩ = false := blk_frozen TR.out 0
                  have f1 : wr.frozen? ⟨w.heap.size, 1, none⟩ = false := blk_frozen TR.out 1
                  have f2 : wr.frozen? ⟨w.heap.size, 2, none⟩ = false := blk_frozen TR.out 2
                  have f3 : wr.frozen? ⟨w.heap.size, 3, none⟩ = false := blk_frozen TR.out 3
                  go_wp2
                  have hg4 := nd_grown4 wr w.heap.size (.bool false) (.slice none 0 0) (.slice none 0 0) (.slice none 0 0)
                  refine bodyPost_ret (results_ct rfl _ _ w.heap.size 31 #[.bool false, .slice none 0 0, .slice none 0 0, .slice none 0 0] (0, 0) _ rfl (nd_put4 wr w.heap.size 31 _ _ _ _ (.bool false) (.slice none 0 0) (.slice none 0 0) (.slice none 0 0) TR.out) Try.underlying31 rfl (by kernel_rfl)) rfl ?_
                  exact ⟨_, _, _, rfl, Kd.R_nil _ _ _ _ _, Kd.R_nil _ _ _ _ _, Kd.R_nil _ _ _ _ _, nd_grown_below hg4 BB.out BB.out.size (Nat.le_refl _)⟩

              · have hv := HRV.out
                unfold outI at hv
                rw [if_neg (fun h => by cases h.1)] at hv
                cases hv
                have c0 : wr.cell? ⟨w.heap.size, 0, none⟩ = some (.bool false) := blk_cell TR.out 0
                have c1 : wr.cell? ⟨w.heap.size, 1, none⟩ = some (.slice none 0 0) := blk_cell TR.out 1
                have c2 : wr.cell? ⟨w.heap.size, 2, none⟩ = some (.slice none 0 0) := blk_cell TR.out 2
                have c3 : wr.cell? ⟨w.heap.size, 3, none⟩ = some (.slice none 0 0) := blk_cell TR.out 3
                have f0 : wr.frozen? ⟨w.heap.size, 0, none⟩ = false := blk_frozen TR.out 0
                have f1 : wr.frozen? ⟨w.heap.size, 1, none⟩ = false := blk_frozen TR.out 1
                have f2 : wr.frozen? ⟨w.heap.size, 2, none⟩ = false := blk_frozen TR.out 2
                have f3 : wr.frozen? ⟨w.heap.size, 3, none⟩ = false := blk_frozen TR.out 3
                go_wp2
                have hg4 := nd_grown4 wr w.heap.size (.bool false) (.slice none 0 0) (.slice none 0 0) (.slice none 0 0)
                refine bodyPost_ret (results_ct rfl _ _ w.heap.size 31 #[.bool false, .slice none 0 0, .slice none 0 0, .slice none 0 0] (0, 0) _ rfl (nd_put4 wr w.heap.size 31 _ _ _ _ (.bool false) (.slice none 0 0) (.slice none 0 0) (.slice none 0 0) TR.out) Try.underlying31 rfl (by kernel_rfl)) rfl ?_
                exact ⟨_, _, _, rfl, Kd.R_nil _ _ _ _ _, Kd.R_nil _ _ _ _ _, Kd.R_nil _ _ _ _ _, nd_grown_below hg4 BB.out BB.out.size (Nat.le_refl _)⟩
/-- What Decode answers. -/
def decV (s : ByteArray) : Bool × List S48 × List ByteArray × List Int × Int :=
  if (rdb s false).1 = 1 then
    outL s (decP (rdb (rdb s false).2.1 (rdb s false).2.2).1 (rdb (rdb s false).2.1 (rdb s false).2.2).2.1 (rdb (rdb s false).2.1 (rdb s false).2.2).2.2 []).1 (decP (rdb (rdb s false).2.1 (rdb s false).2.2).1 (rdb (rdb s false).2.1 (rdb s false).2.2).2.1 (rdb (rdb s false).2.1 (rdb s false).2.2).2.2 []).2.1 (decP (rdb (rdb s false).2.1 (rdb s false).2.2).1 (rdb (rdb s false).2.1 (rdb s false).2.2).2.1 (rdb (rdb s false).2.1 (rdb s false).2.2).2.2 []).2.2
  else
    let D := decD (rdb (rdb s false).2.1 (rdb s false).2.2).1 (rdb (rdb s false).2.1 (rdb s false).2.2).2.1 (rdb (rdb s false).2.1 (rdb s false).2.2).2.2 []
    let K := decK ((rdb (rdb s false).2.1 (rdb s false).2.2).1 - 1) D.1 D.2.1 []
    outI (rdb s false).1 s K.1 K.2.1 K.2.2 D.2.2
def node_Decode.f (a0 : ByteArray) : Option (Bool × List S48 × List ByteArray × List Int × Int) := some (decV a0)
theorem node_Decode.calls (a0 : ByteArray) (r1 : Bool) (r2 : List (S48)) (r3 : List ByteArray) (r4 : List Int) (r5 : Int) (w : World) (h : node_Decode.f a0 = some (r1, r2, r3, r4, r5)) :
    Calls Try.prog 25 #[.string a0] w fun e w' => ∃ v1_ v2_ v3_ : Value, e = .returned (.tuple #[.agg #[.bool r1, v1_, v2_, v3_], .int .i64 r5]) ∧ Kd.R k48 48 w' w.heap.size (fun _ => True) v1_ r2 ∧ Kd.R Kd.string 9 w' w.heap.size (fun _ => True) v2_ r3 ∧ Kd.R (Kd.int .i64) 3 w' w.heap.size (fun _ => True) v3_ r4 ∧ Below w.heap.size w w' := by
  have h' : decV a0 = (r1, r2, r3, r4, r5) := Option.some.inj h
  unfold decV at h'
  by_cases hk : (rdb a0 false).1 = 1
  · rw [if_pos hk] at h'
    exact dec_leaf a0 _ _ _ _ _ _ _ _ w (Prod.ext hk rfl) rfl rfl r1 r2 r3 r4 r5 h'.symm
  · rw [if_neg hk] at h'
    exact dec_inner _ hk a0 _ _ _ _ _ _ _ _ _ _ _ w rfl rfl rfl rfl r1 r2 r3 r4 r5 h'.symm
end
end Go.Proofs.Ytjjfeoigjhbbpaa.PA
namespace Go.Proofs.Ytjjfeoigjhbbpaa.PA
section

open Go.RowKit Go.Proofs.YtjjfeoigjhbbpaaW.PrintWords Go.Proofs.YtjjfeoigjhbbpaaW.PrintLast Go.Proofs.YtjjfeoigjhbbpaaW.PrintMore
attribute [local go_sem] pr_leq pr_geq pr_gtr max2_int min2_int max_two min_two max_three min_three max_four min_four
set_option linter.unusedVariables false
set_option linter.unusedSimpArgs false
def kl (a b : ByteArray) : Prop := Op.bytesLess a.toList b.toList = true
instance (a b : ByteArray) : Decidable (kl a b) := inferInstanceAs (Decidable (_ = true))
end
end Go.Proofs.Ytjjfeoigjhbbpaa.PA
namespace Go.Proofs.Ytjjfeoigjhbbpaa.PA
section

open Go.RowKit Go.Proofs.YtjjfeoigjhbbpaaW.PrintWords Go.Proofs.YtjjfeoigjhbbpaaW.PrintLast Go.Proofs.YtjjfeoigjhbbpaaW.PrintMore
attribute [local go_sem] pr_leq pr_geq pr_gtr max2_int min2_int max_two min_two max_three min_three max_four min_four
set_option linter.unusedVariables false
set_option linter.unusedSimpArgs false
def cisternlaw11_known.f  : Option (Bool) := (node_Encode.f true (([(⟨(⟨#[97]⟩ : ByteArray), (⟨#[49]⟩ : ByteArray)⟩ : S48)] : List (S48))) ([] : List ByteArray) ([] : List Int)).bind fun bt113 => (if bt113.2 = 0 then (some (bt113.1.toList == ([1, 1, 1, 97, 1, 49] : List UInt8))) else (some false))
set_option maxHeartbeats 8000000 in
set_option maxRecDepth 100000 in
theorem cisternlaw11_known.calls  (r : Bool) (w : World) (h : cisternlaw11_known.f  = some r) :
    Calls Try.prog 12 #[] w fun e w' => e = .returned (.bool r) ∧ Below w.heap.size w w' := by
  have hu48 := Try.underlying48
  have hu31 := Try.underlying31
  have HB := Aside0.mk (Below.refl w.heap.size w)
  have H : ((node_Encode.f true (([(⟨(⟨#[97]⟩ : ByteArray), (⟨#[49]⟩ : ByteArray)⟩ : S48)] : List (S48))) ([] : List ByteArray) ([] : List Int)).bind fun bt113 => (if bt113.2 = 0 then (some (bt113.1.toList == ([1, 1, 1, 97, 1, 49] : List UInt8))) else (some false))) = some r := h
  clear h
  obtain ⟨y110, hy110⟩ : ∃ y_ : List (S48), y_ = (([(⟨(⟨#[97]⟩ : ByteArray), (⟨#[49]⟩ : ByteArray)⟩ : S48)] : List (S48))) := ⟨_, rfl⟩
  replace H : ((node_Encode.f true y110 ([] : List ByteArray) ([] : List Int)).bind fun bt113 => (if bt113.2 = 0 then (some (bt113.1.toList == ([1, 1, 1, 97, 1, 49] : List UInt8))) else (some false))) = some r := by first | (rw [hy110]; with_reducible exact H) | (have H2_ := (Option.bind_some _ _).symm.trans H; rw [hy110]; with_reducible exact H2_) | (have H2_ := (Option.bind_some _ _).symm.trans H; with_reducible exact H2_) | with_reducible exact H | (rw [hy110]; exact H) | exact H
  have Ny110 := Aside0.mk hy110
  clear hy110
  replace H := Option.bind_eq_some_iff.mp H
  obtain ⟨⟨t113, t114⟩, A10, H⟩ := H
  replace H : (if t114 = 0 then (some (t113.toList == ([1, 1, 1, 97, 1, 49] : List UInt8))) else (some false)) = some r := H
  have A1 := Aside0.mk A10
  clear A10
  by_cases c2 : t114 = 0
  · rw [if_pos c2] at H
    have c2b0 : (t114 == 0) = true := beq_iff_eq.mpr c2
    have c2b1 : (t114 != 0) = false := bne_eq_false_iff_eq.mpr c2
    clear c2
    obtain rfl := Option.some.inj H
    go_enter Try.func12, Try.ntmps12
    go_wp2_with (first | ((with_reducible refine gate_dst (N := 5) rfl ?_); refine Kd.R_lit k48 _ 48 ?hg (N := 5) ?hd (xs := ([(⟨(⟨#[97]⟩ : ByteArray), (⟨#[49]⟩ : ByteArray)⟩ : S48)] : List (S48))) (inner := [.string (⟨#[97]⟩ : ByteArray), .string (⟨#[49]⟩ : ByteArray)]) (ok := fun _ => True) (okp := fun _ => True) ?hr ?hp (fun _ hk => hk) trivial (Below.refl _ _) (Nat.le_refl _) (by simp) ?_; (case hd => rfl); (case hg => rfl); (case hr => first | (go_simp; done) | (go_simp; rfl)); (case hp => exact (Reps.c2 (show Kd.M k48 _ _ _ (⟨(⟨#[97]⟩ : ByteArray), (⟨#[49]⟩ : ByteArray)⟩ : S48) [.string (⟨#[97]⟩ : ByteArray), .string (⟨#[49]⟩ : ByteArray)] from (k48_mkM _ _ _ (⟨(⟨#[97]⟩ : ByteArray), (⟨#[49]⟩ : ByteArray)⟩ : S48) )) (Reps.none _ _))); intro v111 w3 ho4 hb hg_ hnew_; clear hg_ hnew_; (first | rw [← Ny110.out] at ho4 | (simp only [Int.reduceToNat] at ho4; rw [← Ny110.out] at ho4)); have n0_ := Aside0.mk (Kd.R_lower ho4 (below_size (by repeat (first | (with_reducible first | exact HB.out | apply below_alloc | apply pw_below_drewN | apply below_drew1) | exact HB.out)))); have n1_ := Aside0.mk (below_step (by repeat (first | (with_reducible first | exact HB.out | apply below_alloc | apply pw_below_drewN | apply below_drew1) | exact HB.out)) hb); clear HB; have HO112 := n0_; have HB := n1_; clear n0_ n1_; clear hb ho4; obtain ⟨Ao5, co5, eo5⟩ := Kd.R_slice HO112.out; subst eo5) | ((with_reducible refine gate_callee (f := 13) rfl ?_); refine goesL_ (some 7) rfl rfl Try.func13 (by kernel_rfl) rfl #[.agg #[.bool true, .slice Ao5 y110.length co5, .slice none 0 0, .slice none 0 0]] rfl (by (try simp only [List.map_toArray, List.map_cons, List.map_nil]); first | done | rfl | (simp only [List.length_drop, List.length_take]; rfl)) ?_; (refine (node_Encode.calls true _ _ y110 _ _ ([] : List ByteArray) _ _ ([] : List Int) t113 t114 _ ?side1 ?side2 ?side3 ?side4 ?side5 ?side6 A1.out).mono ?_); (case side1 => repeat (first | exact (Kd.R_reads' HO112.out).2.2 | (with_reducible refine Kd.C_alloc ?_ _) | (with_reducible refine Kd.C_drewN ?_ _) | (with_reducible refine Kd.C_drew ?_))); (case side2 => exact (Kd.R_reads' HO112.out).2.1); (case side3 => exact Kd.C_nil _ _); (case side4 => exact Nat.le_refl _); (case side5 => exact Kd.C_nil _ _); (case side6 => exact Nat.le_refl _); rintro e w6 ⟨rfl, hb⟩; refine ⟨_, rfl, ?_⟩; have n0_ := Aside0.mk (Kd.R_below (by (with_reducible repeat (first | apply Kd.R_alloc | apply Kd.R_drewN | apply Kd.R_drew)); exact HO112.out) hb); have n1_ := Aside0.mk (below_step (by repeat (first | (with_reducible first | exact HB.out | apply below_alloc | apply pw_below_drewN | apply below_drew1) | exact HB.out)) hb); clear HO112; clear HB; have HO112 := n0_; have HB := n1_; clear n0_ n1_; (try clear hb); (try clear hb2); (try clear hk); (try clear hi)))
    go_ret
    exact ⟨by first | rfl | (simp [errW_none, errW_some] <;> rfl) | (simp [*, errW_none, errW_some] <;> rfl), by repeat (first | (with_reducible first | exact HB.out | apply below_alloc | apply pw_below_drewN | apply below_drew1) | exact HB.out)⟩
  · rw [if_neg c2] at H
    have c2b0 : (t114 == 0) = false := beq_eq_false_iff_ne.mpr c2
    have c2b1 : (t114 != 0) = true := bne_iff_ne.mpr c2
    obtain rfl := Option.some.inj H
    go_enter Try.func12, Try.ntmps12
    go_wp2_with (first | ((with_reducible refine gate_dst (N := 5) rfl ?_); refine Kd.R_lit k48 _ 48 ?hg (N := 5) ?hd (xs := ([(⟨(⟨#[97]⟩ : ByteArray), (⟨#[49]⟩ : ByteArray)⟩ : S48)] : List (S48))) (inner := [.string (⟨#[97]⟩ : ByteArray), .string (⟨#[49]⟩ : ByteArray)]) (ok := fun _ => True) (okp := fun _ => True) ?hr ?hp (fun _ hk => hk) trivial (Below.refl _ _) (Nat.le_refl _) (by simp) ?_; (case hd => rfl); (case hg => rfl); (case hr => first | (go_simp; done) | (go_simp; rfl)); (case hp => exact (Reps.c2 (show Kd.M k48 _ _ _ (⟨(⟨#[97]⟩ : ByteArray), (⟨#[49]⟩ : ByteArray)⟩ : S48) [.string (⟨#[97]⟩ : ByteArray), .string (⟨#[49]⟩ : ByteArray)] from (k48_mkM _ _ _ (⟨(⟨#[97]⟩ : ByteArray), (⟨#[49]⟩ : ByteArray)⟩ : S48) )) (Reps.none _ _))); intro v111 w7 ho8 hb hg_ hnew_; clear hg_ hnew_; (first | rw [← Ny110.out] at ho8 | (simp only [Int.reduceToNat] at ho8; rw [← Ny110.out] at ho8)); have n0_ := Aside0.mk (Kd.R_lower ho8 (below_size (by repeat (first | (with_reducible first | exact HB.out | apply below_alloc | apply pw_below_drewN | apply below_drew1) | exact HB.out)))); have n1_ := Aside0.mk (below_step (by repeat (first | (with_reducible first | exact HB.out | apply below_alloc | apply pw_below_drewN | apply below_drew1) | exact HB.out)) hb); clear HB; have HO112 := n0_; have HB := n1_; clear n0_ n1_; clear hb ho8; obtain ⟨Ao9, co9, eo9⟩ := Kd.R_slice HO112.out; subst eo9) | ((with_reducible refine gate_callee (f := 13) rfl ?_); refine goesL_ (some 7) rfl rfl Try.func13 (by kernel_rfl) rfl #[.agg #[.bool true, .slice Ao9 y110.length co9, .slice none 0 0, .slice none 0 0]] rfl (by (try simp only [List.map_toArray, List.map_cons, List.map_nil]); first | done | rfl | (simp only [List.length_drop, List.length_take]; rfl)) ?_; (refine (node_Encode.calls true _ _ y110 _ _ ([] : List ByteArray) _ _ ([] : List Int) t113 t114 _ ?side1 ?side2 ?side3 ?side4 ?side5 ?side6 A1.out).mono ?_); (case side1 => repeat (first | exact (Kd.R_reads' HO112.out).2.2 | (with_reducible refine Kd.C_alloc ?_ _) | (with_reducible refine Kd.C_drewN ?_ _) | (with_reducible refine Kd.C_drew ?_))); (case side2 => exact (Kd.R_reads' HO112.out).2.1); (case side3 => exact Kd.C_nil _ _); (case side4 => exact Nat.le_refl _); (case side5 => exact Kd.C_nil _ _); (case side6 => exact Nat.le_refl _); rintro e w10 ⟨rfl, hb⟩; refine ⟨_, rfl, ?_⟩; have n0_ := Aside0.mk (Kd.R_below (by (with_reducible repeat (first | apply Kd.R_alloc | apply Kd.R_drewN | apply Kd.R_drew)); exact HO112.out) hb); have n1_ := Aside0.mk (below_step (by repeat (first | (with_reducible first | exact HB.out | apply below_alloc | apply pw_below_drewN | apply below_drew1) | exact HB.out)) hb); clear HO112; clear HB; have HO112 := n0_; have HB := n1_; clear n0_ n1_; (try clear hb); (try clear hb2); (try clear hk); (try clear hi)))
    go_ret
    exact ⟨by first | rfl | (simp [errW_none, errW_some] <;> rfl) | (simp [*, errW_none, errW_some] <;> rfl), by repeat (first | (with_reducible first | exact HB.out | apply below_alloc | apply pw_below_drewN | apply below_drew1) | exact HB.out)⟩
end
end Go.Proofs.Ytjjfeoigjhbbpaa.PA
namespace Go.Proofs.Ytjjfeoigjhbbpaa.PA
section

open Go.RowKit Go.Proofs.YtjjfeoigjhbbpaaW.PrintWords Go.Proofs.YtjjfeoigjhbbpaaW.PrintLast Go.Proofs.YtjjfeoigjhbbpaaW.PrintMore
attribute [local go_sem] pr_leq pr_geq pr_gtr max2_int min2_int max_two min_two max_three min_three max_four min_four
set_option linter.unusedVariables false
set_option linter.unusedSimpArgs false
theorem eqA48 (d : Nat) (w : World) (x0 y0 : ByteArray) (x1 y1 : ByteArray) :
    (Op.equalIn (d + 2) 48 (.agg #[.string x0, .string x1]) (.agg #[.string y0, .string y1])).run Try.prog w = .ok (x0.toList == y0.toList && (x1.toList == y1.toList)) w := by
  refine eqA_of Try.underlying48 (by kernel_rfl) ?_
  refine eqf_cons (by rfl) (by go_simp; rfl) (by go_simp; rfl) (by go_simp) ?_
  exact eqf_last (by rfl) (by go_simp; rfl) (by go_simp; rfl) (by go_simp)
end
end Go.Proofs.Ytjjfeoigjhbbpaa.PA
namespace Go.Proofs.Ytjjfeoigjhbbpaa.PA
section

open Go.RowKit Go.Proofs.YtjjfeoigjhbbpaaW.PrintWords Go.Proofs.YtjjfeoigjhbbpaaW.PrintLast Go.Proofs.YtjjfeoigjhbbpaaW.PrintMore
attribute [local go_sem] pr_leq pr_geq pr_gtr max2_int min2_int max_two min_two max_three min_three max_four min_four
set_option linter.unusedVariables false
set_option linter.unusedSimpArgs false
attribute [local go_sem high] eqA48
mutual
def cisternref11_Same.j0 : Nat → Bool → Bool → List (S48) → List ByteArray → List Int → Bool → List (S48) → List ByteArray → List Int → Option (Bool)
  | 0, _, _, _, _, _, _, _, _, _ => none
  | k + 1, x39, x326000, x326001, x326002, x326003, x327000, x327001, x327002, x327003 => if x39 = true then (some false) else (cisternref11_Same.l0 k 0 x326000 x326001 x326002 x326003 x327000 x327001 x327002 x327003)
def cisternref11_Same.l0 : Nat → Int → Bool → List (S48) → List ByteArray → List Int → Bool → List (S48) → List ByteArray → List Int → Option (Bool)
  | 0, _, _, _, _, _, _, _, _, _ => none
  | k + 1, x5, x326000, x326001, x326002, x326003, x327000, x327001, x327002, x327003 => if x5 < (x326001.length : Int) then (if 0 ≤ x5 then (if x5 < (x327001.length : Int) then (if (!((((rd_T48 x326001 x5).f0).toList) == (((rd_T48 x327001 x5).f0).toList)) || (!((((rd_T48 x326001 x5).f1).toList) == (((rd_T48 x327001 x5).f1).toList)))) = true then (some false) else (cisternref11_Same.l0 k (wrap64 (x5 + 1)) x326000 x326001 x326002 x326003 x327000 x327001 x327002 x327003)) else (none)) else (none)) else (cisternref11_Same.l1 k 0 x326000 x326001 x326002 x326003 x327000 x327001 x327002 x327003)
def cisternref11_Same.l1 : Nat → Int → Bool → List (S48) → List ByteArray → List Int → Bool → List (S48) → List ByteArray → List Int → Option (Bool)
  | 0, _, _, _, _, _, _, _, _, _ => none
  | k + 1, x6, x326000, x326001, x326002, x326003, x327000, x327001, x327002, x327003 => if x6 < (x326002.length : Int) then (if 0 ≤ x6 then (if x6 < (x327002.length : Int) then (if (rdOf ByteArray.empty x326002 x6).toList = (rdOf ByteArray.empty x327002 x6).toList then (cisternref11_Same.l1 k (wrap64 (x6 + 1)) x326000 x326001 x326002 x326003 x327000 x327001 x327002 x327003) else (some false)) else (none)) else (none)) else (cisternref11_Same.l2 k 0 x326000 x326001 x326002 x326003 x327000 x327001 x327002 x327003)
def cisternref11_Same.l2 : Nat → Int → Bool → List (S48) → List ByteArray → List Int → Bool → List (S48) → List ByteArray → List Int → Option (Bool)
  | 0, _, _, _, _, _, _, _, _, _ => none
  | k + 1, x7, x326000, x326001, x326002, x326003, x327000, x327001, x327002, x327003 => if x7 < (x326003.length : Int) then (if 0 ≤ x7 then (if x7 < (x327003.length : Int) then (if (rd x326003 x7) = (rd x327003 x7) then (cisternref11_Same.l2 k (wrap64 (x7 + 1)) x326000 x326001 x326002 x326003 x327000 x327001 x327002 x327003) else (some false)) else (none)) else (none)) else (some true)
end
def cisternref11_Same.f (k : Nat) (a0_0 : Bool) (l0_1 : List (S48)) (l0_2 : List ByteArray) (l0_3 : List Int) (a1_0 : Bool) (l1_1 : List (S48)) (l1_2 : List ByteArray) (l1_3 : List Int) : Option (Bool) := if (a0_0 != a1_0) = true then (cisternref11_Same.j0 k true a0_0 l0_1 l0_2 l0_3 a1_0 l1_1 l1_2 l1_3) else (if (l0_1.length : Int) = (l1_1.length : Int) then (if (l0_2.length : Int) = (l1_2.length : Int) then (cisternref11_Same.j0 k ((l0_3.length : Int) != (l1_3.length : Int)) a0_0 l0_1 l0_2 l0_3 a1_0 l1_1 l1_2 l1_3) else (cisternref11_Same.j0 k true a0_0 l0_1 l0_2 l0_3 a1_0 l1_1 l1_2 l1_3)) else (cisternref11_Same.j0 k true a0_0 l0_1 l0_2 l0_3 a1_0 l1_1 l1_2 l1_3))
set_option maxHeartbeats 8000000 in
set_option maxRecDepth 100000 in
theorem cisternref11_Same.calls (k : Nat) (a0_0 : Bool) (A0_1 : Option Addr) (c0_1 : Nat) (l0_1 : List (S48)) (A0_2 : Option Addr) (c0_2 : Nat) (l0_2 : List ByteArray) (A0_3 : Option Addr) (c0_3 : Nat) (l0_3 : List Int) (a1_0 : Bool) (A1_1 : Option Addr) (c1_1 : Nat) (l1_1 : List (S48)) (A1_2 : Option Addr) (c1_2 : Nat) (l1_2 : List ByteArray) (A1_3 : Option Addr) (c1_3 : Nat) (l1_3 : List Int) (r : Bool) (w : World) (hr0_1 : Kd.C k48 w A0_1 l0_1.length l0_1) (hc0_1 : l0_1.length ≤ c0_1) (hr0_2 : Kd.C Kd.string w A0_2 l0_2.length l0_2) (hc0_2 : l0_2.length ≤ c0_2) (hr0_3 : Kd.C (Kd.int .i64) w A0_3 l0_3.length l0_3) (hc0_3 : l0_3.length ≤ c0_3) (hr1_1 : Kd.C k48 w A1_1 l1_1.length l1_1) (hc1_1 : l1_1.length ≤ c1_1) (hr1_2 : Kd.C Kd.string w A1_2 l1_2.length l1_2) (hc1_2 : l1_2.length ≤ c1_2) (hr1_3 : Kd.C (Kd.int .i64) w A1_3 l1_3.length l1_3) (hc1_3 : l1_3.length ≤ c1_3) (h : cisternref11_Same.f k a0_0 l0_1 l0_2 l0_3 a1_0 l1_1 l1_2 l1_3 = some r) :
    Calls Try.prog 19 #[.agg #[.bool a0_0, .slice A0_1 l0_1.length c0_1, .slice A0_2 l0_2.length c0_2, .slice A0_3 l0_3.length c0_3], .agg #[.bool a1_0, .slice A1_1 l1_1.length c1_1, .slice A1_2 l1_2.length c1_2, .slice A1_3 l1_3.length c1_3]] w fun e w' => e = .returned (.bool r) ∧ Below w.heap.size w w' := by
  have hu26 := Try.underlying26
  have hu48 := Try.underlying48
  have HR0_1 := Aside0.mk hr0_1
  have HC0_1 := Aside0.mk hc0_1
  clear hr0_1 hc0_1
  have HR0_2 := Aside0.mk hr0_2
  have HC0_2 := Aside0.mk hc0_2
  clear hr0_2 hc0_2
  have HR0_3 := Aside0.mk hr0_3
  have HC0_3 := Aside0.mk hc0_3
  clear hr0_3 hc0_3
  have HR1_1 := Aside0.mk hr1_1
  have HC1_1 := Aside0.mk hc1_1
  clear hr1_1 hc1_1
  have HR1_2 := Aside0.mk hr1_2
  have HC1_2 := Aside0.mk hc1_2
  clear hr1_2 hc1_2
  have HR1_3 := Aside0.mk hr1_3
  have HC1_3 := Aside0.mk hc1_3
  clear hr1_3 hc1_3
  have HB := Aside0.mk (Below.refl w.heap.size w)
  have H : (if (a0_0 != a1_0) = true then (cisternref11_Same.j0 k true a0_0 l0_1 l0_2 l0_3 a1_0 l1_1 l1_2 l1_3) else (if (l0_1.length : Int) = (l1_1.length : Int) then (if (l0_2.length : Int) = (l1_2.length : Int) then (cisternref11_Same.j0 k ((l0_3.length : Int) != (l1_3.length : Int)) a0_0 l0_1 l0_2 l0_3 a1_0 l1_1 l1_2 l1_3) else (cisternref11_Same.j0 k true a0_0 l0_1 l0_2 l0_3 a1_0 l1_1 l1_2 l1_3)) else (cisternref11_Same.j0 k true a0_0 l0_1 l0_2 l0_3 a1_0 l1_1 l1_2 l1_3))) = some r := h
  clear h
  have HC3 := Aside0.mk H
  clear H
  go_enter Try.func19, Try.ntmps19
  go_upto_region 1 with (first | ((with_reducible refine gate_dst (N := 2) rfl ?_); (try (refine gate_guard (by rfl) ?_; dsimp only)); refine box_event ?hg (N := 2) ?hd (cs := #[.bool a0_0, .slice A0_1 l0_1.length c0_1, .slice A0_2 l0_2.length c0_2, .slice A0_3 l0_3.length c0_3]) (t := 26) ?hr ?_; (case hd => rfl); (case hg => rfl); (case hr => first | (go_simp; done) | (go_simp; rfl)); intro gb325 hg w4 hbox hb; have n0_ := Aside0.mk (below_step (by repeat (first | (with_reducible first | exact HB.out | apply below_alloc | apply pw_below_drewN | apply below_drew1) | exact HB.out)) hb); have n1_ := Aside0.mk (hbox); have n2_ := Aside0.mk ((by rw [hg]; exact (below_size (by repeat (first | (with_reducible first | exact HB.out | apply below_alloc | apply pw_below_drewN | apply below_drew1) | exact HB.out))) : w.heap.size ≤ gb325)); have n3_ := Aside0.mk ((by rw [hg]; exact (below_size (by repeat (first | (with_reducible first | exact HB.out | apply below_alloc | apply pw_below_drewN | apply below_drew1) | exact HB.out))) : w.heap.size ≤ gb325)); clear HB; have HB := n0_; have BK325 := n1_; have GW325 := n2_; have GE325 := n3_; clear n0_ n1_ n2_ n3_; clear hb hbox hg) | ((with_reducible refine gate_dst (N := 3) rfl ?_); (try (refine gate_guard (by rfl) ?_; dsimp only)); refine box_event ?hg (N := 3) ?hd (cs := #[.bool a1_0, .slice A1_1 l1_1.length c1_1, .slice A1_2 l1_2.length c1_2, .slice A1_3 l1_3.length c1_3]) (t := 26) ?hr ?_; (case hd => rfl); (case hg => rfl); (case hr => first | (go_simp; done) | (go_simp; rfl)); intro gb326 hg w5 hbox hb; have n0_ := Aside0.mk (blk_below (g := gb325) (o := .cells #[.bool a0_0, .slice A0_1 l0_1.length c0_1, .slice A0_2 l0_2.length c0_2, .slice A0_3 l0_3.length c0_3] 26 (0, 0)) (by (with_reducible repeat (first | refine blk_drewN ?_ _ | refine blk_drew ?_ | refine blk_alloc ?_ _)); exact BK325.out) hb); have n1_ := Aside0.mk (below_step (by repeat (first | (with_reducible first | exact HB.out | apply below_alloc | apply pw_below_drewN | apply below_drew1 | refine below_set ?_ GE325.out) | exact HB.out)) hb); have n2_ := Aside0.mk (hbox); have n3_ := Aside0.mk ((by rw [hg]; exact (below_size (by repeat (first | (with_reducible first | exact HB.out | apply below_alloc | apply pw_below_drewN | apply below_drew1 | refine below_set ?_ GE325.out) | exact HB.out))) : w.heap.size ≤ gb326)); have n4_ := Aside0.mk ((by rw [hg]; exact (below_size (by repeat (first | (with_reducible first | exact HB.out | apply below_alloc | apply pw_below_drewN | apply below_drew1 | refine below_set ?_ GE325.out) | exact HB.out))) : w.heap.size ≤ gb326)); have n5_ := Aside0.mk ((by rw [hg]; exact Nat.ne_of_lt (blk_lt (g := gb325) (o := .cells #[.bool a0_0, .slice A0_1 l0_1.length c0_1, .slice A0_2 l0_2.length c0_2, .slice A0_3 l0_3.length c0_3] 26 (0, 0)) (by (with_reducible repeat (first | refine blk_drewN ?_ _ | refine blk_drew ?_ | refine blk_alloc ?_ _)); exact BK325.out)) : gb325 ≠ gb326)); have n6_ := Aside0.mk ((by rw [hg]; exact Nat.ne_of_gt (blk_lt (g := gb325) (o := .cells #[.bool a0_0, .slice A0_1 l0_1.length c0_1, .slice A0_2 l0_2.length c0_2, .slice A0_3 l0_3.length c0_3] 26 (0, 0)) (by (with_reducible repeat (first | refine blk_drewN ?_ _ | refine blk_drew ?_ | refine blk_alloc ?_ _)); exact BK325.out)) : gb326 ≠ gb325)); clear BK325; clear HB; have BK325 := n0_; have HB := n1_; have BK326 := n2_; have GW326 := n3_; have GE326 := n4_; have NB325_326 := n5_; have NB326_325 := n6_; clear n0_ n1_ n2_ n3_ n4_ n5_ n6_; clear hb hbox hg))
  repeat (go_quiet (first | ((with_reducible refine gate_dst (N := 2) rfl ?_); (try (refine gate_guard (by rfl) ?_; dsimp only)); refine box_event ?hg (N := 2) ?hd (cs := #[.bool a0_0, .slice A0_1 l0_1.length c0_1, .slice A0_2 l0_2.length c0_2, .slice A0_3 l0_3.length c0_3]) (t := 26) ?hr ?_; (case hd => rfl); (case hg => rfl); (case hr => first | (go_simp; done) | (go_simp; rfl)); intro gb325 hg w4 hbox hb; have n0_ := Aside0.mk (below_step (by repeat (first | (with_reducible first | exact HB.out | apply below_alloc | apply pw_below_drewN | apply below_drew1) | exact HB.out)) hb); have n1_ := Aside0.mk (hbox); have n2_ := Aside0.mk ((by rw [hg]; exact (below_size (by repeat (first | (with_reducible first | exact HB.out | apply below_alloc | apply pw_below_drewN | apply below_drew1) | exact HB.out))) : w.heap.size ≤ gb325)); have n3_ := Aside0.mk ((by rw [hg]; exact (below_size (by repeat (first | (with_reducible first | exact HB.out | apply below_alloc | apply pw_below_drewN | apply below_drew1) | exact HB.out))) : w.heap.size ≤ gb325)); clear HB; have HB := n0_; have BK325 := n1_; have GW325 := n2_; have GE325 := n3_; clear n0_ n1_ n2_ n3_; clear hb hbox hg) | ((with_reducible refine gate_dst (N := 3) rfl ?_); (try (refine gate_guard (by rfl) ?_; dsimp only)); refine box_event ?hg (N := 3) ?hd (cs := #[.bool a1_0, .slice A1_1 l1_1.length c1_1, .slice A1_2 l1_2.length c1_2, .slice A1_3 l1_3.length c1_3]) (t := 26) ?hr ?_; (case hd => rfl); (case hg => rfl); (case hr => first | (go_simp; done) | (go_simp; rfl)); intro gb326 hg w5 hbox hb; have n0_ := Aside0.mk (blk_below (g := gb325) (o := .cells #[.bool a0_0, .slice A0_1 l0_1.length c0_1, .slice A0_2 l0_2.length c0_2, .slice A0_3 l0_3.length c0_3] 26 (0, 0)) (by (with_reducible repeat (first | refine blk_drewN ?_ _ | refine blk_drew ?_ | refine blk_alloc ?_ _)); exact BK325.out) hb); have n1_ := Aside0.mk (below_step (by repeat (first | (with_reducible first | exact HB.out | apply below_alloc | apply pw_below_drewN | apply below_drew1 | refine below_set ?_ GE325.out) | exact HB.out)) hb); have n2_ := Aside0.mk (hbox); have n3_ := Aside0.mk ((by rw [hg]; exact (below_size (by repeat (first | (with_reducible first | exact HB.out | apply below_alloc | apply pw_below_drewN | apply below_drew1 | refine below_set ?_ GE325.out) | exact HB.out))) : w.heap.size ≤ gb326)); have n4_ := Aside0.mk ((by rw [hg]; exact (below_size (by repeat (first | (with_reducible first | exact HB.out | apply below_alloc | apply pw_below_drewN | apply below_drew1 | refine below_set ?_ GE325.out) | exact HB.out))) : w.heap.size ≤ gb326)); have n5_ := Aside0.mk ((by rw [hg]; exact Nat.ne_of_lt (blk_lt (g := gb325) (o := .cells #[.bool a0_0, .slice A0_1 l0_1.length c0_1, .slice A0_2 l0_2.length c0_2, .slice A0_3 l0_3.length c0_3] 26 (0, 0)) (by (with_reducible repeat (first | refine blk_drewN ?_ _ | refine blk_drew ?_ | refine blk_alloc ?_ _)); exact BK325.out)) : gb325 ≠ gb326)); have n6_ := Aside0.mk ((by rw [hg]; exact Nat.ne_of_gt (blk_lt (g := gb325) (o := .cells #[.bool a0_0, .slice A0_1 l0_1.length c0_1, .slice A0_2 l0_2.length c0_2, .slice A0_3 l0_3.length c0_3] 26 (0, 0)) (by (with_reducible repeat (first | refine blk_drewN ?_ _ | refine blk_drew ?_ | refine blk_alloc ?_ _)); exact BK325.out)) : gb326 ≠ gb325)); clear BK325; clear HB; have BK325 := n0_; have HB := n1_; have BK326 := n2_; have GW326 := n3_; have GE326 := n4_; have NB325_326 := n5_; have NB326_325 := n6_; clear n0_ n1_ n2_ n3_ n4_ n5_ n6_; clear hb hbox hg)); go_upto_region 1 with (first | ((with_reducible refine gate_dst (N := 2) rfl ?_); (try (refine gate_guard (by rfl) ?_; dsimp only)); refine box_event ?hg (N := 2) ?hd (cs := #[.bool a0_0, .slice A0_1 l0_1.length c0_1, .slice A0_2 l0_2.length c0_2, .slice A0_3 l0_3.length c0_3]) (t := 26) ?hr ?_; (case hd => rfl); (case hg => rfl); (case hr => first | (go_simp; done) | (go_simp; rfl)); intro gb325 hg w4 hbox hb; have n0_ := Aside0.mk (below_step (by repeat (first | (with_reducible first | exact HB.out | apply below_alloc | apply pw_below_drewN | apply below_drew1) | exact HB.out)) hb); have n1_ := Aside0.mk (hbox); have n2_ := Aside0.mk ((by rw [hg]; exact (below_size (by repeat (first | (with_reducible first | exact HB.out | apply below_alloc | apply pw_below_drewN | apply below_drew1) | exact HB.out))) : w.heap.size ≤ gb325)); have n3_ := Aside0.mk ((by rw [hg]; exact (below_size (by repeat (first | (with_reducible first | exact HB.out | apply below_alloc | apply pw_below_drewN | apply below_drew1) | exact HB.out))) : w.heap.size ≤ gb325)); clear HB; have HB := n0_; have BK325 := n1_; have GW325 := n2_; have GE325 := n3_; clear n0_ n1_ n2_ n3_; clear hb hbox hg) | ((with_reducible refine gate_dst (N := 3) rfl ?_); (try (refine gate_guard (by rfl) ?_; dsimp only)); refine box_event ?hg (N := 3) ?hd (cs := #[.bool a1_0, .slice A1_1 l1_1.length c1_1, .slice A1_2 l1_2.length c1_2, .slice A1_3 l1_3.length c1_3]) (t := 26) ?hr ?_; (case hd => rfl); (case hg => rfl); (case hr => first | (go_simp; done) | (go_simp; rfl)); intro gb326 hg w5 hbox hb; have n0_ := Aside0.mk (blk_below (g := gb325) (o := .cells #[.bool a0_0, .slice A0_1 l0_1.length c0_1, .slice A0_2 l0_2.length c0_2, .slice A0_3 l0_3.length c0_3] 26 (0, 0)) (by (with_reducible repeat (first | refine blk_drewN ?_ _ | refine blk_drew ?_ | refine blk_alloc ?_ _)); exact BK325.out) hb); have n1_ := Aside0.mk (below_step (by repeat (first | (with_reducible first | exact HB.out | apply below_alloc | apply pw_below_drewN | apply below_drew1 | refine below_set ?_ GE325.out) | exact HB.out)) hb); have n2_ := Aside0.mk (hbox); have n3_ := Aside0.mk ((by rw [hg]; exact (below_size (by repeat (first | (with_reducible first | exact HB.out | apply below_alloc | apply pw_below_drewN | apply below_drew1 | refine below_set ?_ GE325.out) | exact HB.out))) : w.heap.size ≤ gb326)); have n4_ := Aside0.mk ((by rw [hg]; exact (below_size (by repeat (first | (with_reducible first | exact HB.out | apply below_alloc | apply pw_below_drewN | apply below_drew1 | refine below_set ?_ GE325.out) | exact HB.out))) : w.heap.size ≤ gb326)); have n5_ := Aside0.mk ((by rw [hg]; exact Nat.ne_of_lt (blk_lt (g := gb325) (o := .cells #[.bool a0_0, .slice A0_1 l0_1.length c0_1, .slice A0_2 l0_2.length c0_2, .slice A0_3 l0_3.length c0_3] 26 (0, 0)) (by (with_reducible repeat (first | refine blk_drewN ?_ _ | refine blk_drew ?_ | refine blk_alloc ?_ _)); exact BK325.out)) : gb325 ≠ gb326)); have n6_ := Aside0.mk ((by rw [hg]; exact Nat.ne_of_gt (blk_lt (g := gb325) (o := .cells #[.bool a0_0, .slice A0_1 l0_1.length c0_1, .slice A0_2 l0_2.length c0_2, .slice A0_3 l0_3.length c0_3] 26 (0, 0)) (by (with_reducible repeat (first | refine blk_drewN ?_ _ | refine blk_drew ?_ | refine blk_alloc ?_ _)); exact BK325.out)) : gb326 ≠ gb325)); clear BK325; clear HB; have BK325 := n0_; have HB := n1_; have BK326 := n2_; have GW326 := n3_; have GE326 := n4_; have NB325_326 := n5_; have NB326_325 := n6_; clear n0_ n1_ n2_ n3_ n4_ n5_ n6_; clear hb hbox hg)))
  (try simp only [Act.put, List.setIfInBounds_toArray, List.set_cons_zero, List.set_cons_succ])
  go_cut [39] (fun v39 wc => ∃ (kq : Nat) (x39_2 : Bool), v39 = .bool x39_2 ∧ Aside0 (cisternref11_Same.j0 kq x39_2 a0_0 l0_1 l0_2 l0_3 a1_0 l1_1 l1_2 l1_3 = some r) ∧ Aside0 (kq ≤ k) ∧ Aside0 (wc.heap[gb325]? = some (.cells #[.bool a0_0, (.slice A0_1 l0_1.length c0_1), (.slice A0_2 l0_2.length c0_2), (.slice A0_3 l0_3.length c0_3)] 26 (0, 0))) ∧ Aside0 (wc.heap[gb326]? = some (.cells #[.bool a1_0, (.slice A1_1 l1_1.length c1_1), (.slice A1_2 l1_2.length c1_2), (.slice A1_3 l1_3.length c1_3)] 26 (0, 0))) ∧ Aside0 (Below w.heap.size w wc))
  case first =>
    have H := HC3.out
    clear HC3
    by_cases c6 : (a0_0 != a1_0) = true
    · rw [if_pos c6] at H
      have c6b0 : (a0_0 != a1_0) = true := c6
      (try (have c6b1 : decide (a0_0 = a1_0) = false := by simpa using c6))
      (try (have c6b2 : (a0_0 == a1_0) = false := by simpa using c6))
      (try (have c6b3 : ¬ (a0_0 = a1_0) := by simpa using c6))
      clear c6
      (first | rw [c6b0] | (simp only [i64_w, i32_w]; rw [c6b0]) | skip)
      have H' := Aside0.mk H
      clear H
      have hnb7 := NB325_326.out
      have hnc7 := NB326_325.out
      have hcz8_0 : w5.cell? ⟨gb325, 0, none⟩ = some (.bool a0_0) := (blk_cell BK325.out 0).trans rfl
      have hcz8_1 : w5.cell? ⟨gb325, 1, none⟩ = some (.slice A0_1 l0_1.length c0_1) := (blk_cell BK325.out 1).trans rfl
      have hcz8_2 : w5.cell? ⟨gb325, 2, none⟩ = some (.slice A0_2 l0_2.length c0_2) := (blk_cell BK325.out 2).trans rfl
      have hcz8_3 : w5.cell? ⟨gb325, 3, none⟩ = some (.slice A0_3 l0_3.length c0_3) := (blk_cell BK325.out 3).trans rfl
      have hfz8_0 := blk_frozen BK325.out 0
      have hfz8_1 := blk_frozen BK325.out 1
      have hfz8_2 := blk_frozen BK325.out 2
      have hfz8_3 := blk_frozen BK325.out 3
      have hcz9_0 : w5.cell? ⟨gb326, 0, none⟩ = some (.bool a1_0) := (blk_cell BK326.out 0).trans rfl
      have hcz9_1 : w5.cell? ⟨gb326, 1, none⟩ = some (.slice A1_1 l1_1.length c1_1) := (blk_cell BK326.out 1).trans rfl
      have hcz9_2 : w5.cell? ⟨gb326, 2, none⟩ = some (.slice A1_2 l1_2.length c1_2) := (blk_cell BK326.out 2).trans rfl
      have hcz9_3 : w5.cell? ⟨gb326, 3, none⟩ = some (.slice A1_3 l1_3.length c1_3) := (blk_cell BK326.out 3).trans rfl
      have hfz9_0 := blk_frozen BK326.out 0
      have hfz9_1 := blk_frozen BK326.out 1
      have hfz9_2 := blk_frozen BK326.out 2
      have hfz9_3 := blk_frozen BK326.out 3
      go_wp2
      repeat (go_quiet (fail); try go_wp2)
      go_meet
      case rel => exact ⟨_, (true), (by first | rfl | (simp; done) | (simp [*]; done)), H', ⟨by first | omega | exact Nat.le_refl _⟩, ⟨by (with_reducible repeat (first | refine blk_drewN ?_ _ | refine blk_drew ?_ | refine blk_alloc ?_ _)); exact BK325.out⟩, ⟨by (with_reducible repeat (first | refine blk_drewN ?_ _ | refine blk_drew ?_ | refine blk_alloc ?_ _)); exact BK326.out⟩, ⟨by repeat (first | (with_reducible first | exact HB.out | apply below_alloc | apply pw_below_drewN | apply below_drew1 | refine below_set ?_ GE325.out | refine below_set ?_ GE326.out) | exact HB.out)⟩⟩
    · rw [if_neg c6] at H
      have c6b0 : (a0_0 != a1_0) = false := by simpa using c6
      (try (have c6b1 : decide (a0_0 = a1_0) = true := by simpa using c6))
      (try (have c6b2 : (a0_0 == a1_0) = true := by simpa using c6))
      clear c6
      (first | rw [c6b0] | (simp only [i64_w, i32_w]; rw [c6b0]) | skip)
      by_cases c10 : (l0_1.length : Int) = (l1_1.length : Int)
      · rw [if_pos c10] at H
        have c10b0 : ((l0_1.length : Int) == (l1_1.length : Int)) = true := beq_iff_eq.mpr c10
        have c10b1 : ((l0_1.length : Int) != (l1_1.length : Int)) = false := bne_eq_false_iff_eq.mpr c10
        have c10b2 : (l0_1.length == l1_1.length) = true := by first | simpa using c10 | (simp at c10 ⊢; omega)
        clear c10
        by_cases c11 : (l0_2.length : Int) = (l1_2.length : Int)
        · rw [if_pos c11] at H
          have c11b0 : ((l0_2.length : Int) == (l1_2.length : Int)) = true := beq_iff_eq.mpr c11
          have c11b1 : ((l0_2.length : Int) != (l1_2.length : Int)) = false := bne_eq_false_iff_eq.mpr c11
          have c11b2 : (l0_2.length == l1_2.length) = true := by first | simpa using c11 | (simp at c11 ⊢; omega)
          clear c11
          have H' := Aside0.mk H
          clear H
          have hnb12 := NB325_326.out
          have hnc12 := NB326_325.out
          have hcz13_0 : w5.cell? ⟨gb325, 0, none⟩ = some (.bool a0_0) := (blk_cell BK325.out 0).trans rfl
          have hcz13_1 : w5.cell? ⟨gb325, 1, none⟩ = some (.slice A0_1 l0_1.length c0_1) := (blk_cell BK325.out 1).trans rfl
          have hcz13_2 : w5.cell? ⟨gb325, 2, none⟩ = some (.slice A0_2 l0_2.length c0_2) := (blk_cell BK325.out 2).trans rfl
          have hcz13_3 : w5.cell? ⟨gb325, 3, none⟩ = some (.slice A0_3 l0_3.length c0_3) := (blk_cell BK325.out 3).trans rfl
          have hfz13_0 := blk_frozen BK325.out 0
          have hfz13_1 := blk_frozen BK325.out 1
          have hfz13_2 := blk_frozen BK325.out 2
          have hfz13_3 := blk_frozen BK325.out 3
          have hcz14_0 : w5.cell? ⟨gb326, 0, none⟩ = some (.bool a1_0) := (blk_cell BK326.out 0).trans rfl
          have hcz14_1 : w5.cell? ⟨gb326, 1, none⟩ = some (.slice A1_1 l1_1.length c1_1) := (blk_cell BK326.out 1).trans rfl
          have hcz14_2 : w5.cell? ⟨gb326, 2, none⟩ = some (.slice A1_2 l1_2.length c1_2) := (blk_cell BK326.out 2).trans rfl
          have hcz14_3 : w5.cell? ⟨gb326, 3, none⟩ = some (.slice A1_3 l1_3.length c1_3) := (blk_cell BK326.out 3).trans rfl
          have hfz14_0 := blk_frozen BK326.out 0
          have hfz14_1 := blk_frozen BK326.out 1
          have hfz14_2 := blk_frozen BK326.out 2
          have hfz14_3 := blk_frozen BK326.out 3
          go_wp2
          repeat (go_quiet (fail); try go_wp2)
          go_meet
          case rel => exact ⟨_, (((l0_3.length : Int) != (l1_3.length : Int))), (by first | rfl | (simp; done) | (simp [*]; done)), H', ⟨by first | omega | exact Nat.le_refl _⟩, ⟨by (with_reducible repeat (first | refine blk_drewN ?_ _ | refine blk_drew ?_ | refine blk_alloc ?_ _)); exact BK325.out⟩, ⟨by (with_reducible repeat (first | refine blk_drewN ?_ _ | refine blk_drew ?_ | refine blk_alloc ?_ _)); exact BK326.out⟩, ⟨by repeat (first | (with_reducible first | exact HB.out | apply below_alloc | apply pw_below_drewN | apply below_drew1 | refine below_set ?_ GE325.out | refine below_set ?_ GE326.out) | exact HB.out)⟩⟩
        · rw [if_neg c11] at H
          have c11b0 : ((l0_2.length : Int) == (l1_2.length : Int)) = false := beq_eq_false_iff_ne.mpr c11
          have c11b1 : ((l0_2.length : Int) != (l1_2.length : Int)) = true := bne_iff_ne.mpr c11
          have c11b2 : (l0_2.length == l1_2.length) = false := by first | simpa using c11 | (simp at c11 ⊢; omega)
          have H' := Aside0.mk H
          clear H
          have hnb15 := NB325_326.out
          have hnc15 := NB326_325.out
          have hcz16_0 : w5.cell? ⟨gb325, 0, none⟩ = some (.bool a0_0) := (blk_cell BK325.out 0).trans rfl
          have hcz16_1 : w5.cell? ⟨gb325, 1, none⟩ = some (.slice A0_1 l0_1.length c0_1) := (blk_cell BK325.out 1).trans rfl
          have hcz16_2 : w5.cell? ⟨gb325, 2, none⟩ = some (.slice A0_2 l0_2.length c0_2) := (blk_cell BK325.out 2).trans rfl
          have hcz16_3 : w5.cell? ⟨gb325, 3, none⟩ = some (.slice A0_3 l0_3.length c0_3) := (blk_cell BK325.out 3).trans rfl
          have hfz16_0 := blk_frozen BK325.out 0
          have hfz16_1 := blk_frozen BK325.out 1
          have hfz16_2 := blk_frozen BK325.out 2
          have hfz16_3 := blk_frozen BK325.out 3
          have hcz17_0 : w5.cell? ⟨gb326, 0, none⟩ = some (.bool a1_0) := (blk_cell BK326.out 0).trans rfl
          have hcz17_1 : w5.cell? ⟨gb326, 1, none⟩ = some (.slice A1_1 l1_1.length c1_1) := (blk_cell BK326.out 1).trans rfl
          have hcz17_2 : w5.cell? ⟨gb326, 2, none⟩ = some (.slice A1_2 l1_2.length c1_2) := (blk_cell BK326.out 2).trans rfl
          have hcz17_3 : w5.cell? ⟨gb326, 3, none⟩ = some (.slice A1_3 l1_3.length c1_3) := (blk_cell BK326.out 3).trans rfl
          have hfz17_0 := blk_frozen BK326.out 0
          have hfz17_1 := blk_frozen BK326.out 1
          have hfz17_2 := blk_frozen BK326.out 2
          have hfz17_3 := blk_frozen BK326.out 3
          go_wp2
          repeat (go_quiet (fail); try go_wp2)
          go_meet
          case rel => exact ⟨_, (true), (by first | rfl | (simp; done) | (simp [*]; done)), H', ⟨by first | omega | exact Nat.le_refl _⟩, ⟨by (with_reducible repeat (first | refine blk_drewN ?_ _ | refine blk_drew ?_ | refine blk_alloc ?_ _)); exact BK325.out⟩, ⟨by (with_reducible repeat (first | refine blk_drewN ?_ _ | refine blk_drew ?_ | refine blk_alloc ?_ _)); exact BK326.out⟩, ⟨by repeat (first | (with_reducible first | exact HB.out | apply below_alloc | apply pw_below_drewN | apply below_drew1 | refine below_set ?_ GE325.out | refine below_set ?_ GE326.out) | exact HB.out)⟩⟩
      · rw [if_neg c10] at H
        have c10b0 : ((l0_1.length : Int) == (l1_1.length : Int)) = false := beq_eq_false_iff_ne.mpr c10
        have c10b1 : ((l0_1.length : Int) != (l1_1.length : Int)) = true := bne_iff_ne.mpr c10
        have c10b2 : (l0_1.length == l1_1.length) = false := by first | simpa using c10 | (simp at c10 ⊢; omega)
        have H' := Aside0.mk H
        clear H
        have hnb18 := NB325_326.out
        have hnc18 := NB326_325.out
        have hcz19_0 : w5.cell? ⟨gb325, 0, none⟩ = some (.bool a0_0) := (blk_cell BK325.out 0).trans rfl
        have hcz19_1 : w5.cell? ⟨gb325, 1, none⟩ = some (.slice A0_1 l0_1.length c0_1) := (blk_cell BK325.out 1).trans rfl
        have hcz19_2 : w5.cell? ⟨gb325, 2, none⟩ = some (.slice A0_2 l0_2.length c0_2) := (blk_cell BK325.out 2).trans rfl
        have hcz19_3 : w5.cell? ⟨gb325, 3, none⟩ = some (.slice A0_3 l0_3.length c0_3) := (blk_cell BK325.out 3).trans rfl
        have hfz19_0 := blk_frozen BK325.out 0
        have hfz19_1 := blk_frozen BK325.out 1
        have hfz19_2 := blk_frozen BK325.out 2
        have hfz19_3 := blk_frozen BK325.out 3
        have hcz20_0 : w5.cell? ⟨gb326, 0, none⟩ = some (.bool a1_0) := (blk_cell BK326.out 0).trans rfl
        have hcz20_1 : w5.cell? ⟨gb326, 1, none⟩ = some (.slice A1_1 l1_1.length c1_1) := (blk_cell BK326.out 1).trans rfl
        have hcz20_2 : w5.cell? ⟨gb326, 2, none⟩ = some (.slice A1_2 l1_2.length c1_2) := (blk_cell BK326.out 2).trans rfl
        have hcz20_3 : w5.cell? ⟨gb326, 3, none⟩ = some (.slice A1_3 l1_3.length c1_3) := (blk_cell BK326.out 3).trans rfl
        have hfz20_0 := blk_frozen BK326.out 0
        have hfz20_1 := blk_frozen BK326.out 1
        have hfz20_2 := blk_frozen BK326.out 2
        have hfz20_3 := blk_frozen BK326.out 3
        go_wp2
        repeat (go_quiet (fail); try go_wp2)
        go_meet
        case rel => exact ⟨_, (true), (by first | rfl | (simp; done) | (simp [*]; done)), H', ⟨by first | omega | exact Nat.le_refl _⟩, ⟨by (with_reducible repeat (first | refine blk_drewN ?_ _ | refine blk_drew ?_ | refine blk_alloc ?_ _)); exact BK325.out⟩, ⟨by (with_reducible repeat (first | refine blk_drewN ?_ _ | refine blk_drew ?_ | refine blk_alloc ?_ _)); exact BK326.out⟩, ⟨by repeat (first | (with_reducible first | exact HB.out | apply below_alloc | apply pw_below_drewN | apply below_drew1 | refine below_set ?_ GE325.out | refine below_set ?_ GE326.out) | exact HB.out)⟩⟩
  case rest =>
    clear HC3
    try clear c1
    try clear p2
    try clear c6
    try clear c6b0
    try clear c6b1
    try clear c6b2
    try clear c7
    try clear c10
    try clear c10b0
    try clear c10b1
    try clear c10b2
    try clear c11
    try clear c11b0
    try clear c11b1
    try clear c11b2
    try clear c12
    try clear c15
    try clear c18
    try clear c19
    try clear hcz13_0
    try clear hcz13_1
    try clear hcz13_2
    try clear hcz13_3
    try clear hcz14_0
    try clear hcz14_1
    try clear hcz14_2
    try clear hcz14_3
    try clear hcz16_0
    try clear hcz16_1
    try clear hcz16_2
    try clear hcz16_3
    try clear hcz17_0
    try clear hcz17_1
    try clear hcz17_2
    try clear hcz17_3
    try clear hcz19_0
    try clear hcz19_1
    try clear hcz19_2
    try clear hcz19_3
    try clear hcz20_0
    try clear hcz20_1
    try clear hcz20_2
    try clear hcz20_3
    try clear hcz8_0
    try clear hcz8_1
    try clear hcz8_2
    try clear hcz8_3
    try clear hcz9_0
    try clear hcz9_1
    try clear hcz9_2
    try clear hcz9_3
    try clear hfz13_0
    try clear hfz13_1
    try clear hfz13_2
    try clear hfz13_3
    try clear hfz14_0
    try clear hfz14_1
    try clear hfz14_2
    try clear hfz14_3
    try clear hfz16_0
    try clear hfz16_1
    try clear hfz16_2
    try clear hfz16_3
    try clear hfz17_0
    try clear hfz17_1
    try clear hfz17_2
    try clear hfz17_3
    try clear hfz19_0
    try clear hfz19_1
    try clear hfz19_2
    try clear hfz19_3
    try clear hfz20_0
    try clear hfz20_1
    try clear hfz20_2
    try clear hfz20_3
    try clear hfz8_0
    try clear hfz8_1
    try clear hfz8_2
    try clear hfz8_3
    try clear hfz9_0
    try clear hfz9_1
    try clear hfz9_2
    try clear hfz9_3
    obtain ⟨kq, x39_2, rfl, HA, HJ2, BK325, BK326, HB⟩ := hcut
    cases kq with
    | zero => exact absurd HA.out (by simp [cisternref11_Same.j0])
    | succ kj2 =>
      have H := HA.out
      clear HA
      simp only [cisternref11_Same.j0] at H
      by_cases c21 : x39_2 = true
      · subst c21
        have H1 : (some false) = some r := by rw [if_pos rfl] at H; exact H
        clear H
        have H := H1
        clear H1
        obtain rfl := Option.some.inj H
        go_wp2
        repeat (go_quiet (fail); try go_wp2)
        go_ret
        exact ⟨by first | rfl | (simp [errW_none, errW_some] <;> rfl) | (simp [*, errW_none, errW_some] <;> rfl), by repeat (first | (with_reducible first | exact HB.out | apply below_alloc | apply pw_below_drewN | apply below_drew1 | refine below_set ?_ GE325.out | refine below_set ?_ GE326.out) | exact HB.out)⟩
      · replace c21 := Bool.eq_false_iff.mpr c21
        subst c21
        have H1 : (cisternref11_Same.l0 kj2 0 a0_0 l0_1 l0_2 l0_3 a1_0 l1_1 l1_2 l1_3) = some r := by rw [if_neg (show ¬ (false = true) by decide)] at H; exact H
        clear H
        have H := H1
        clear H1
        have H' := Aside0.mk H
        clear H
        go_wp2
        repeat (go_quiet (fail); try go_wp2)
        go_loopg [5] kj2 (fun kq v5 w' => ∃ (x5_2 : Int), v5 = .int .i64 x5_2 ∧ Aside0 (cisternref11_Same.l0 kq x5_2 a0_0 l0_1 l0_2 l0_3 a1_0 l1_1 l1_2 l1_3 = some r) ∧ Aside0 (kq ≤ kj2) ∧ Aside0 (w'.heap[gb325]? = some (.cells #[.bool a0_0, (.slice A0_1 l0_1.length c0_1), (.slice A0_2 l0_2.length c0_2), (.slice A0_3 l0_3.length c0_3)] 26 (0, 0))) ∧ Aside0 (w'.heap[gb326]? = some (.cells #[.bool a1_0, (.slice A1_1 l1_1.length c1_1), (.slice A1_2 l1_2.length c1_2), (.slice A1_3 l1_3.length c1_3)] 26 (0, 0))) ∧ Aside0 (Below w.heap.size w w'))
        case atStart => exact ⟨(0), (by first | rfl | (simp; done) | (simp [*]; done)), H', ⟨Nat.le_refl _⟩, ⟨by (with_reducible repeat (first | refine blk_drewN ?_ _ | refine blk_drew ?_ | refine blk_alloc ?_ _)); exact BK325.out⟩, ⟨by (with_reducible repeat (first | refine blk_drewN ?_ _ | refine blk_drew ?_ | refine blk_alloc ?_ _)); exact BK326.out⟩, ⟨by repeat (first | (with_reducible first | exact HB.out | apply below_alloc | apply pw_below_drewN | apply below_drew1 | refine below_set ?_ GE325.out | refine below_set ?_ GE326.out) | exact HB.out)⟩⟩
        case round =>
          clear H'
          try clear c1
          try clear c2
          try clear p2
          try clear c6
          try clear c6b0
          try clear c6b1
          try clear c6b2
          try clear c7
          try clear c10
          try clear c10b0
          try clear c10b1
          try clear c10b2
          try clear c11
          try clear c11b0
          try clear c11b1
          try clear c11b2
          try clear c12
          try clear c15
          try clear c18
          try clear c19
          try clear c21
          try clear hcz13_0
          try clear hcz13_1
          try clear hcz13_2
          try clear hcz13_3
          try clear hcz14_0
          try clear hcz14_1
          try clear hcz14_2
          try clear hcz14_3
          try clear hcz16_0
          try clear hcz16_1
          try clear hcz16_2
          try clear hcz16_3
          try clear hcz17_0
          try clear hcz17_1
          try clear hcz17_2
          try clear hcz17_3
          try clear hcz19_0
          try clear hcz19_1
          try clear hcz19_2
          try clear hcz19_3
          try clear hcz20_0
          try clear hcz20_1
          try clear hcz20_2
          try clear hcz20_3
          try clear hcz8_0
          try clear hcz8_1
          try clear hcz8_2
          try clear hcz8_3
          try clear hcz9_0
          try clear hcz9_1
          try clear hcz9_2
          try clear hcz9_3
          try clear hfz13_0
          try clear hfz13_1
          try clear hfz13_2
          try clear hfz13_3
          try clear hfz14_0
          try clear hfz14_1
          try clear hfz14_2
          try clear hfz14_3
          try clear hfz16_0
          try clear hfz16_1
          try clear hfz16_2
          try clear hfz16_3
          try clear hfz17_0
          try clear hfz17_1
          try clear hfz17_2
          try clear hfz17_3
          try clear hfz19_0
          try clear hfz19_1
          try clear hfz19_2
          try clear hfz19_3
          try clear hfz20_0
          try clear hfz20_1
          try clear hfz20_2
          try clear hfz20_3
          try clear hfz8_0
          try clear hfz8_1
          try clear hfz8_2
          try clear hfz8_3
          try clear hfz9_0
          try clear hfz9_1
          try clear hfz9_2
          try clear hfz9_3
          try clear p2
          obtain ⟨x5_2, rfl, HA, HK2, BK325, BK326, HB⟩ := hrel
          cases gk with
          | zero => exact absurd HA.out (by simp [cisternref11_Same.l0])
          | succ k2 =>
            have H := HA.out
            clear HA
            simp only [cisternref11_Same.l0] at H
            by_cases c22 : x5_2 < (l0_1.length : Int)
            · rw [if_pos c22] at H
              have c22b0 : decide (x5_2 < (l0_1.length : Int)) = true := decide_eq_true c22
              clear c22
              by_cases c23 : 0 ≤ x5_2
              · rw [if_pos c23] at H
                have c23b0 : decide (0 ≤ x5_2) = true := decide_eq_true c23
                clear c23
                by_cases c24 : x5_2 < (l1_1.length : Int)
                · rw [if_pos c24] at H
                  have c24b0 : decide (x5_2 < (l1_1.length : Int)) = true := decide_eq_true c24
                  clear c24
                  by_cases c25 : (!((((rd_T48 l0_1 x5_2).f0).toList) == (((rd_T48 l1_1 x5_2).f0).toList)) || (!((((rd_T48 l0_1 x5_2).f1).toList) == (((rd_T48 l1_1 x5_2).f1).toList)))) = true
                  · rw [if_pos c25] at H
                    have c25b0 : (!((((rd_T48 l0_1 x5_2).f0).toList) == (((rd_T48 l1_1 x5_2).f0).toList)) || (!((((rd_T48 l0_1 x5_2).f1).toList) == (((rd_T48 l1_1 x5_2).f1).toList)))) = true := c25
                    clear c25
                    obtain rfl := Option.some.inj H
                    have hnb26 := NB325_326.out
                    have hnc26 := NB326_325.out
                    have hcz27_0 : wr.cell? ⟨gb325, 0, none⟩ = some (.bool a0_0) := (blk_cell BK325.out 0).trans rfl
                    have hcz27_1 : wr.cell? ⟨gb325, 1, none⟩ = some (.slice A0_1 l0_1.length c0_1) := (blk_cell BK325.out 1).trans rfl
                    have hcz27_2 : wr.cell? ⟨gb325, 2, none⟩ = some (.slice A0_2 l0_2.length c0_2) := (blk_cell BK325.out 2).trans rfl
                    have hcz27_3 : wr.cell? ⟨gb325, 3, none⟩ = some (.slice A0_3 l0_3.length c0_3) := (blk_cell BK325.out 3).trans rfl
                    have hfz27_0 := blk_frozen BK325.out 0
                    have hfz27_1 := blk_frozen BK325.out 1
                    have hfz27_2 := blk_frozen BK325.out 2
                    have hfz27_3 := blk_frozen BK325.out 3
                    have p327 : 0 ≤ (x5_2 : Int) := of_decide_eq_true (by first | (with_reducible assumption) | assumption)
                    have q327 : x5_2 < (l0_1.length : Int) := of_decide_eq_true (by first | (with_reducible assumption) | assumption)
                    obtain ⟨ad327, e327, hx327_0, hx327_1⟩ := at_T48 HR0_1.out x5_2 p327 q327
                    cases e327
                    replace hx327_0 := (HB.out.cell (World.block_lt_of_cell? w _ hx327_0)).trans hx327_0
                    replace hx327_1 := (HB.out.cell (World.block_lt_of_cell? w _ hx327_1)).trans hx327_1
                    replace p327 := eq_true p327
                    replace q327 := eq_true q327
                    have hcz28_0 : wr.cell? ⟨gb326, 0, none⟩ = some (.bool a1_0) := (blk_cell BK326.out 0).trans rfl
                    have hcz28_1 : wr.cell? ⟨gb326, 1, none⟩ = some (.slice A1_1 l1_1.length c1_1) := (blk_cell BK326.out 1).trans rfl
                    have hcz28_2 : wr.cell? ⟨gb326, 2, none⟩ = some (.slice A1_2 l1_2.length c1_2) := (blk_cell BK326.out 2).trans rfl
                    have hcz28_3 : wr.cell? ⟨gb326, 3, none⟩ = some (.slice A1_3 l1_3.length c1_3) := (blk_cell BK326.out 3).trans rfl
                    have hfz28_0 := blk_frozen BK326.out 0
                    have hfz28_1 := blk_frozen BK326.out 1
                    have hfz28_2 := blk_frozen BK326.out 2
                    have hfz28_3 := blk_frozen BK326.out 3
                    have p328 : 0 ≤ (x5_2 : Int) := of_decide_eq_true (by first | (with_reducible assumption) | assumption)
                    have q328 : x5_2 < (l1_1.length : Int) := of_decide_eq_true (by first | (with_reducible assumption) | assumption)
                    obtain ⟨ad328, e328, hx328_0, hx328_1⟩ := at_T48 HR1_1.out x5_2 p328 q328
                    cases e328
                    replace hx328_0 := (HB.out.cell (World.block_lt_of_cell? w _ hx328_0)).trans hx328_0
                    replace hx328_1 := (HB.out.cell (World.block_lt_of_cell? w _ hx328_1)).trans hx328_1
                    replace p328 := eq_true p328
                    replace q328 := eq_true q328
                    go_wp2
                    repeat (go_quiet (fail); try go_wp2)
                    go_ret
                    exact ⟨by first | rfl | (simp [errW_none, errW_some] <;> rfl) | (simp [*, errW_none, errW_some] <;> rfl), by repeat (first | (with_reducible first | exact HB.out | apply below_alloc | apply pw_below_drewN | apply below_drew1 | refine below_set ?_ GE325.out | refine below_set ?_ GE326.out) | exact HB.out)⟩
                  · rw [if_neg c25] at H
                    have c25b0 : (!((((rd_T48 l0_1 x5_2).f0).toList) == (((rd_T48 l1_1 x5_2).f0).toList)) || (!((((rd_T48 l0_1 x5_2).f1).toList) == (((rd_T48 l1_1 x5_2).f1).toList)))) = false := by simpa using c25
                    clear c25
                    have H' := Aside0.mk H
                    clear H
                    have hnb29 := NB325_326.out
                    have hnc29 := NB326_325.out
                    have hcz30_0 : wr.cell? ⟨gb325, 0, none⟩ = some (.bool a0_0) := (blk_cell BK325.out 0).trans rfl
                    have hcz30_1 : wr.cell? ⟨gb325, 1, none⟩ = some (.slice A0_1 l0_1.length c0_1) := (blk_cell BK325.out 1).trans rfl
                    have hcz30_2 : wr.cell? ⟨gb325, 2, none⟩ = some (.slice A0_2 l0_2.length c0_2) := (blk_cell BK325.out 2).trans rfl
                    have hcz30_3 : wr.cell? ⟨gb325, 3, none⟩ = some (.slice A0_3 l0_3.length c0_3) := (blk_cell BK325.out 3).trans rfl
                    have hfz30_0 := blk_frozen BK325.out 0
                    have hfz30_1 := blk_frozen BK325.out 1
                    have hfz30_2 := blk_frozen BK325.out 2
                    have hfz30_3 := blk_frozen BK325.out 3
                    have p327 : 0 ≤ (x5_2 : Int) := of_decide_eq_true (by first | (with_reducible assumption) | assumption)
                    have q327 : x5_2 < (l0_1.length : Int) := of_decide_eq_true (by first | (with_reducible assumption) | assumption)
                    obtain ⟨ad327, e327, hx327_0, hx327_1⟩ := at_T48 HR0_1.out x5_2 p327 q327
                    cases e327
                    replace hx327_0 := (HB.out.cell (World.block_lt_of_cell? w _ hx327_0)).trans hx327_0
                    replace hx327_1 := (HB.out.cell (World.block_lt_of_cell? w _ hx327_1)).trans hx327_1
                    replace p327 := eq_true p327
                    replace q327 := eq_true q327
                    have hcz31_0 : wr.cell? ⟨gb326, 0, none⟩ = some (.bool a1_0) := (blk_cell BK326.out 0).trans rfl
                    have hcz31_1 : wr.cell? ⟨gb326, 1, none⟩ = some (.slice A1_1 l1_1.length c1_1) := (blk_cell BK326.out 1).trans rfl
                    have hcz31_2 : wr.cell? ⟨gb326, 2, none⟩ = some (.slice A1_2 l1_2.length c1_2) := (blk_cell BK326.out 2).trans rfl
                    have hcz31_3 : wr.cell? ⟨gb326, 3, none⟩ = some (.slice A1_3 l1_3.length c1_3) := (blk_cell BK326.out 3).trans rfl
                    have hfz31_0 := blk_frozen BK326.out 0
                    have hfz31_1 := blk_frozen BK326.out 1
                    have hfz31_2 := blk_frozen BK326.out 2
                    have hfz31_3 := blk_frozen BK326.out 3
                    have p328 : 0 ≤ (x5_2 : Int) := of_decide_eq_true (by first | (with_reducible assumption) | assumption)
                    have q328 : x5_2 < (l1_1.length : Int) := of_decide_eq_true (by first | (with_reducible assumption) | assumption)
                    obtain ⟨ad328, e328, hx328_0, hx328_1⟩ := at_T48 HR1_1.out x5_2 p328 q328
                    cases e328
                    replace hx328_0 := (HB.out.cell (World.block_lt_of_cell? w _ hx328_0)).trans hx328_0
                    replace hx328_1 := (HB.out.cell (World.block_lt_of_cell? w _ hx328_1)).trans hx328_1
                    replace p328 := eq_true p328
                    replace q328 := eq_true q328
                    go_wp2
                    repeat (go_quiet (fail); try go_wp2)
                    go_roundg k2
                    case measure => have := HJ2.out; have := HK2.out; omega
                    case rel => exact ⟨(wrap64 (x5_2 + 1)), (by first | rfl | (simp; done) | (simp [*]; done)), H', ⟨by have := HJ2.out; have := HK2.out; omega⟩, ⟨by (with_reducible repeat (first | refine blk_drewN ?_ _ | refine blk_drew ?_ | refine blk_alloc ?_ _)); exact BK325.out⟩, ⟨by (with_reducible repeat (first | refine blk_drewN ?_ _ | refine blk_drew ?_ | refine blk_alloc ?_ _)); exact BK326.out⟩, ⟨by repeat (first | (with_reducible first | exact HB.out | apply below_alloc | apply pw_below_drewN | apply below_drew1 | refine below_set ?_ GE325.out | refine below_set ?_ GE326.out) | exact HB.out)⟩⟩
                · rw [if_neg c24] at H
                  exact absurd H (by simp)
              · rw [if_neg c23] at H
                exact absurd H (by simp)
            · rw [if_neg c22] at H
              have c22b0 : decide (x5_2 < (l0_1.length : Int)) = false := decide_eq_false c22
              clear c22
              have H' := Aside0.mk H
              clear H
              have hnb32 := NB325_326.out
              have hnc32 := NB326_325.out
              have hcz33_0 : wr.cell? ⟨gb325, 0, none⟩ = some (.bool a0_0) := (blk_cell BK325.out 0).trans rfl
              have hcz33_1 : wr.cell? ⟨gb325, 1, none⟩ = some (.slice A0_1 l0_1.length c0_1) := (blk_cell BK325.out 1).trans rfl
              have hcz33_2 : wr.cell? ⟨gb325, 2, none⟩ = some (.slice A0_2 l0_2.length c0_2) := (blk_cell BK325.out 2).trans rfl
              have hcz33_3 : wr.cell? ⟨gb325, 3, none⟩ = some (.slice A0_3 l0_3.length c0_3) := (blk_cell BK325.out 3).trans rfl
              have hfz33_0 := blk_frozen BK325.out 0
              have hfz33_1 := blk_frozen BK325.out 1
              have hfz33_2 := blk_frozen BK325.out 2
              have hfz33_3 := blk_frozen BK325.out 3
              go_wp2
              repeat (go_quiet (fail); try go_wp2)
              go_loopg [6] k2 (fun kq v6 w' => ∃ (x6_3 : Int), v6 = .int .i64 x6_3 ∧ Aside0 (cisternref11_Same.l1 kq x6_3 a0_0 l0_1 l0_2 l0_3 a1_0 l1_1 l1_2 l1_3 = some r) ∧ Aside0 (kq ≤ k2) ∧ Aside0 (w'.heap[gb325]? = some (.cells #[.bool a0_0, (.slice A0_1 l0_1.length c0_1), (.slice A0_2 l0_2.length c0_2), (.slice A0_3 l0_3.length c0_3)] 26 (0, 0))) ∧ Aside0 (w'.heap[gb326]? = some (.cells #[.bool a1_0, (.slice A1_1 l1_1.length c1_1), (.slice A1_2 l1_2.length c1_2), (.slice A1_3 l1_3.length c1_3)] 26 (0, 0))) ∧ Aside0 (Below w.heap.size w w'))
              case atStart => exact ⟨(0), (by first | rfl | (simp; done) | (simp [*]; done)), H', ⟨Nat.le_refl _⟩, ⟨by (with_reducible repeat (first | refine blk_drewN ?_ _ | refine blk_drew ?_ | refine blk_alloc ?_ _)); exact BK325.out⟩, ⟨by (with_reducible repeat (first | refine blk_drewN ?_ _ | refine blk_drew ?_ | refine blk_alloc ?_ _)); exact BK326.out⟩, ⟨by repeat (first | (with_reducible first | exact HB.out | apply below_alloc | apply pw_below_drewN | apply below_drew1 | refine below_set ?_ GE325.out | refine below_set ?_ GE326.out) | exact HB.out)⟩⟩
              case round =>
                clear H'
                try clear c1
                try clear c2
                try clear p2
                try clear c3
                try clear p3
                try clear q3
                try clear hx3
                try clear c6
                try clear c6b0
                try clear c6b1
                try clear c6b2
                try clear p6
                try clear c7
                try clear c10
                try clear c10b0
                try clear c10b1
                try clear c10b2
                try clear c11
                try clear c11b0
                try clear c11b1
                try clear c11b2
                try clear c12
                try clear c15
                try clear c18
                try clear c19
                try clear c21
                try clear c22
                try clear c22b0
                try clear c23
                try clear c23b0
                try clear c24
                try clear c24b0
                try clear c25
                try clear c25b0
                try clear c26
                try clear c29
                try clear c32
                try clear p32
                try clear q32
                try clear hx32
                try clear hcz13_0
                try clear hcz13_1
                try clear hcz13_2
                try clear hcz13_3
                try clear hcz14_0
                try clear hcz14_1
                try clear hcz14_2
                try clear hcz14_3
                try clear hcz16_0
                try clear hcz16_1
                try clear hcz16_2
                try clear hcz16_3
                try clear hcz17_0
                try clear hcz17_1
                try clear hcz17_2
                try clear hcz17_3
                try clear hcz19_0
                try clear hcz19_1
                try clear hcz19_2
                try clear hcz19_3
                try clear hcz20_0
                try clear hcz20_1
                try clear hcz20_2
                try clear hcz20_3
                try clear hcz27_0
                try clear hcz27_1
                try clear hcz27_2
                try clear hcz27_3
                try clear hcz28_0
                try clear hcz28_1
                try clear hcz28_2
                try clear hcz28_3
                try clear hcz30_0
                try clear hcz30_1
                try clear hcz30_2
                try clear hcz30_3
                try clear hcz31_0
                try clear hcz31_1
                try clear hcz31_2
                try clear hcz31_3
                try clear hcz33_0
                try clear hcz33_1
                try clear hcz33_2
                try clear hcz33_3
                try clear hcz8_0
                try clear hcz8_1
                try clear hcz8_2
                try clear hcz8_3
                try clear hcz9_0
                try clear hcz9_1
                try clear hcz9_2
                try clear hcz9_3
                try clear hfz13_0
                try clear hfz13_1
                try clear hfz13_2
                try clear hfz13_3
                try clear hfz14_0
                try clear hfz14_1
                try clear hfz14_2
                try clear hfz14_3
                try clear hfz16_0
                try clear hfz16_1
                try clear hfz16_2
                try clear hfz16_3
                try clear hfz17_0
                try clear hfz17_1
                try clear hfz17_2
                try clear hfz17_3
                try clear hfz19_0
                try clear hfz19_1
                try clear hfz19_2
                try clear hfz19_3
                try clear hfz20_0
                try clear hfz20_1
                try clear hfz20_2
                try clear hfz20_3
                try clear hfz27_0
                try clear hfz27_1
                try clear hfz27_2
                try clear hfz27_3
                try clear hfz28_0
                try clear hfz28_1
                try clear hfz28_2
                try clear hfz28_3
                try clear hfz30_0
                try clear hfz30_1
                try clear hfz30_2
                try clear hfz30_3
                try clear hfz31_0
                try clear hfz31_1
                try clear hfz31_2
                try clear hfz31_3
                try clear hfz33_0
                try clear hfz33_1
                try clear hfz33_2
                try clear hfz33_3
                try clear hfz8_0
                try clear hfz8_1
                try clear hfz8_2
                try clear hfz8_3
                try clear hfz9_0
                try clear hfz9_1
                try clear hfz9_2
                try clear hfz9_3
                try clear hx327_0
                try clear hx327_1
                try clear hx328_0
                try clear hx328_1
                try clear p2
                try clear p327
                try clear p328
                try clear q327
                try clear q328
                obtain ⟨x6_3, rfl, HA, HK3, BK325, BK326, HB⟩ := hrel
                cases gk with
                | zero => exact absurd HA.out (by simp [cisternref11_Same.l1])
                | succ k3 =>
                  have H := HA.out
                  clear HA
                  simp only [cisternref11_Same.l1] at H
                  by_cases c34 : x6_3 < (l0_2.length : Int)
                  · rw [if_pos c34] at H
                    have c34b0 : decide (x6_3 < (l0_2.length : Int)) = true := decide_eq_true c34
                    clear c34
                    by_cases c35 : 0 ≤ x6_3
                    · rw [if_pos c35] at H
                      have c35b0 : decide (0 ≤ x6_3) = true := decide_eq_true c35
                      clear c35
                      by_cases c36 : x6_3 < (l1_2.length : Int)
                      · rw [if_pos c36] at H
                        have c36b0 : decide (x6_3 < (l1_2.length : Int)) = true := decide_eq_true c36
                        clear c36
                        by_cases c37 : (rdOf ByteArray.empty l0_2 x6_3).toList = (rdOf ByteArray.empty l1_2 x6_3).toList
                        · rw [if_pos c37] at H
                          have c37b0 : ((rdOf ByteArray.empty l0_2 x6_3).toList == (rdOf ByteArray.empty l1_2 x6_3).toList) = true := beq_iff_eq.mpr c37
                          have c37b1 : ((rdOf ByteArray.empty l0_2 x6_3).toList != (rdOf ByteArray.empty l1_2 x6_3).toList) = false := bne_eq_false_iff_eq.mpr c37
                          clear c37
                          have H' := Aside0.mk H
                          clear H
                          have hnb38 := NB325_326.out
                          have hnc38 := NB326_325.out
                          have hcz39_0 : wr.cell? ⟨gb325, 0, none⟩ = some (.bool a0_0) := (blk_cell BK325.out 0).trans rfl
                          have hcz39_1 : wr.cell? ⟨gb325, 1, none⟩ = some (.slice A0_1 l0_1.length c0_1) := (blk_cell BK325.out 1).trans rfl
                          have hcz39_2 : wr.cell? ⟨gb325, 2, none⟩ = some (.slice A0_2 l0_2.length c0_2) := (blk_cell BK325.out 2).trans rfl
                          have hcz39_3 : wr.cell? ⟨gb325, 3, none⟩ = some (.slice A0_3 l0_3.length c0_3) := (blk_cell BK325.out 3).trans rfl
                          have hfz39_0 := blk_frozen BK325.out 0
                          have hfz39_1 := blk_frozen BK325.out 1
                          have hfz39_2 := blk_frozen BK325.out 2
                          have hfz39_3 := blk_frozen BK325.out 3
                          have p329 : 0 ≤ (x6_3 : Int) := of_decide_eq_true (by first | (with_reducible assumption) | assumption)
                          have q329 : x6_3 < (l0_2.length : Int) := of_decide_eq_true (by first | (with_reducible assumption) | assumption)
                          obtain ⟨ad329, e329, hx329_0⟩ := Kd.at_string HR0_2.out x6_3 p329 q329
                          cases e329
                          replace hx329_0 := (HB.out.cell (World.block_lt_of_cell? w _ hx329_0)).trans hx329_0
                          replace p329 := eq_true p329
                          replace q329 := eq_true q329
                          have hcz40_0 : wr.cell? ⟨gb326, 0, none⟩ = some (.bool a1_0) := (blk_cell BK326.out 0).trans rfl
                          have hcz40_1 : wr.cell? ⟨gb326, 1, none⟩ = some (.slice A1_1 l1_1.length c1_1) := (blk_cell BK326.out 1).trans rfl
                          have hcz40_2 : wr.cell? ⟨gb326, 2, none⟩ = some (.slice A1_2 l1_2.length c1_2) := (blk_cell BK326.out 2).trans rfl
                          have hcz40_3 : wr.cell? ⟨gb326, 3, none⟩ = some (.slice A1_3 l1_3.length c1_3) := (blk_cell BK326.out 3).trans rfl
                          have hfz40_0 := blk_frozen BK326.out 0
                          have hfz40_1 := blk_frozen BK326.out 1
                          have hfz40_2 := blk_frozen BK326.out 2
                          have hfz40_3 := blk_frozen BK326.out 3
                          have p330 : 0 ≤ (x6_3 : Int) := of_decide_eq_true (by first | (with_reducible assumption) | assumption)
                          have q330 : x6_3 < (l1_2.length : Int) := of_decide_eq_true (by first | (with_reducible assumption) | assumption)
                          obtain ⟨ad330, e330, hx330_0⟩ := Kd.at_string HR1_2.out x6_3 p330 q330
                          cases e330
                          replace hx330_0 := (HB.out.cell (World.block_lt_of_cell? w _ hx330_0)).trans hx330_0
                          replace p330 := eq_true p330
                          replace q330 := eq_true q330
                          go_wp2
                          repeat (go_quiet (fail); try go_wp2)
                          go_roundg k3
                          case measure => have := HJ2.out; have := HK2.out; have := HK3.out; omega
                          case rel => exact ⟨(wrap64 (x6_3 + 1)), (by first | rfl | (simp; done) | (simp [*]; done)), H', ⟨by have := HJ2.out; have := HK2.out; have := HK3.out; omega⟩, ⟨by (with_reducible repeat (first | refine blk_drewN ?_ _ | refine blk_drew ?_ | refine blk_alloc ?_ _)); exact BK325.out⟩, ⟨by (with_reducible repeat (first | refine blk_drewN ?_ _ | refine blk_drew ?_ | refine blk_alloc ?_ _)); exact BK326.out⟩, ⟨by repeat (first | (with_reducible first | exact HB.out | apply below_alloc | apply pw_below_drewN | apply below_drew1 | refine below_set ?_ GE325.out | refine below_set ?_ GE326.out) | exact HB.out)⟩⟩
                        · rw [if_neg c37] at H
                          have c37b0 : ((rdOf ByteArray.empty l0_2 x6_3).toList == (rdOf ByteArray.empty l1_2 x6_3).toList) = false := beq_eq_false_iff_ne.mpr c37
                          have c37b1 : ((rdOf ByteArray.empty l0_2 x6_3).toList != (rdOf ByteArray.empty l1_2 x6_3).toList) = true := bne_iff_ne.mpr c37
                          obtain rfl := Option.some.inj H
                          have hnb41 := NB325_326.out
                          have hnc41 := NB326_325.out
                          have hcz42_0 : wr.cell? ⟨gb325, 0, none⟩ = some (.bool a0_0) := (blk_cell BK325.out 0).trans rfl
                          have hcz42_1 : wr.cell? ⟨gb325, 1, none⟩ = some (.slice A0_1 l0_1.length c0_1) := (blk_cell BK325.out 1).trans rfl
                          have hcz42_2 : wr.cell? ⟨gb325, 2, none⟩ = some (.slice A0_2 l0_2.length c0_2) := (blk_cell BK325.out 2).trans rfl
                          have hcz42_3 : wr.cell? ⟨gb325, 3, none⟩ = some (.slice A0_3 l0_3.length c0_3) := (blk_cell BK325.out 3).trans rfl
                          have hfz42_0 := blk_frozen BK325.out 0
                          have hfz42_1 := blk_frozen BK325.out 1
                          have hfz42_2 := blk_frozen BK325.out 2
                          have hfz42_3 := blk_frozen BK325.out 3
                          have p329 : 0 ≤ (x6_3 : Int) := of_decide_eq_true (by first | (with_reducible assumption) | assumption)
                          have q329 : x6_3 < (l0_2.length : Int) := of_decide_eq_true (by first | (with_reducible assumption) | assumption)
                          obtain ⟨ad329, e329, hx329_0⟩ := Kd.at_string HR0_2.out x6_3 p329 q329
                          cases e329
                          replace hx329_0 := (HB.out.cell (World.block_lt_of_cell? w _ hx329_0)).trans hx329_0
                          replace p329 := eq_true p329
                          replace q329 := eq_true q329
                          have hcz43_0 : wr.cell? ⟨gb326, 0, none⟩ = some (.bool a1_0) := (blk_cell BK326.out 0).trans rfl
                          have hcz43_1 : wr.cell? ⟨gb326, 1, none⟩ = some (.slice A1_1 l1_1.length c1_1) := (blk_cell BK326.out 1).trans rfl
                          have hcz43_2 : wr.cell? ⟨gb326, 2, none⟩ = some (.slice A1_2 l1_2.length c1_2) := (blk_cell BK326.out 2).trans rfl
                          have hcz43_3 : wr.cell? ⟨gb326, 3, none⟩ = some (.slice A1_3 l1_3.length c1_3) := (blk_cell BK326.out 3).trans rfl
                          have hfz43_0 := blk_frozen BK326.out 0
                          have hfz43_1 := blk_frozen BK326.out 1
                          have hfz43_2 := blk_frozen BK326.out 2
                          have hfz43_3 := blk_frozen BK326.out 3
                          have p330 : 0 ≤ (x6_3 : Int) := of_decide_eq_true (by first | (with_reducible assumption) | assumption)
                          have q330 : x6_3 < (l1_2.length : Int) := of_decide_eq_true (by first | (with_reducible assumption) | assumption)
                          obtain ⟨ad330, e330, hx330_0⟩ := Kd.at_string HR1_2.out x6_3 p330 q330
                          cases e330
                          replace hx330_0 := (HB.out.cell (World.block_lt_of_cell? w _ hx330_0)).trans hx330_0
                          replace p330 := eq_true p330
                          replace q330 := eq_true q330
                          go_wp2
                          repeat (go_quiet (fail); try go_wp2)
                          go_ret
                          exact ⟨by first | rfl | (simp [errW_none, errW_some] <;> rfl) | (simp [*, errW_none, errW_some] <;> rfl), by repeat (first | (with_reducible first | exact HB.out | apply below_alloc | apply pw_below_drewN | apply below_drew1 | refine below_set ?_ GE325.out | refine below_set ?_ GE326.out) | exact HB.out)⟩
                      · rw [if_neg c36] at H
                        exact absurd H (by simp)
                    · rw [if_neg c35] at H
                      exact absurd H (by simp)
                  · rw [if_neg c34] at H
                    have c34b0 : decide (x6_3 < (l0_2.length : Int)) = false := decide_eq_false c34
                    clear c34
                    have H' := Aside0.mk H
                    clear H
                    have hnb44 := NB325_326.out
                    have hnc44 := NB326_325.out
                    have hcz45_0 : wr.cell? ⟨gb325, 0, none⟩ = some (.bool a0_0) := (blk_cell BK325.out 0).trans rfl
                    have hcz45_1 : wr.cell? ⟨gb325, 1, none⟩ = some (.slice A0_1 l0_1.length c0_1) := (blk_cell BK325.out 1).trans rfl
                    have hcz45_2 : wr.cell? ⟨gb325, 2, none⟩ = some (.slice A0_2 l0_2.length c0_2) := (blk_cell BK325.out 2).trans rfl
                    have hcz45_3 : wr.cell? ⟨gb325, 3, none⟩ = some (.slice A0_3 l0_3.length c0_3) := (blk_cell BK325.out 3).trans rfl
                    have hfz45_0 := blk_frozen BK325.out 0
                    have hfz45_1 := blk_frozen BK325.out 1
                    have hfz45_2 := blk_frozen BK325.out 2
                    have hfz45_3 := blk_frozen BK325.out 3
                    go_wp2
                    repeat (go_quiet (fail); try go_wp2)
                    go_loopg [7] k3 (fun kq v7 w' => ∃ (x7_4 : Int), v7 = .int .i64 x7_4 ∧ Aside0 (cisternref11_Same.l2 kq x7_4 a0_0 l0_1 l0_2 l0_3 a1_0 l1_1 l1_2 l1_3 = some r) ∧ Aside0 (kq ≤ k3) ∧ Aside0 (w'.heap[gb325]? = some (.cells #[.bool a0_0, (.slice A0_1 l0_1.length c0_1), (.slice A0_2 l0_2.length c0_2), (.slice A0_3 l0_3.length c0_3)] 26 (0, 0))) ∧ Aside0 (w'.heap[gb326]? = some (.cells #[.bool a1_0, (.slice A1_1 l1_1.length c1_1), (.slice A1_2 l1_2.length c1_2), (.slice A1_3 l1_3.length c1_3)] 26 (0, 0))) ∧ Aside0 (Below w.heap.size w w'))
                    case atStart => exact ⟨(0), (by first | rfl | (simp; done) | (simp [*]; done)), H', ⟨Nat.le_refl _⟩, ⟨by (with_reducible repeat (first | refine blk_drewN ?_ _ | refine blk_drew ?_ | refine blk_alloc ?_ _)); exact BK325.out⟩, ⟨by (with_reducible repeat (first | refine blk_drewN ?_ _ | refine blk_drew ?_ | refine blk_alloc ?_ _)); exact BK326.out⟩, ⟨by repeat (first | (with_reducible first | exact HB.out | apply below_alloc | apply pw_below_drewN | apply below_drew1 | refine below_set ?_ GE325.out | refine below_set ?_ GE326.out) | exact HB.out)⟩⟩
                    case round =>
                      clear H'
                      try clear c1
                      try clear c2
                      try clear p2
                      try clear c3
                      try clear p3
                      try clear q3
                      try clear hx3
                      try clear c4
                      try clear c6
                      try clear c6b0
                      try clear c6b1
                      try clear c6b2
                      try clear p6
                      try clear c7
                      try clear c10
                      try clear c10b0
                      try clear c10b1
                      try clear c10b2
                      try clear c11
                      try clear c11b0
                      try clear c11b1
                      try clear c11b2
                      try clear c12
                      try clear c15
                      try clear c18
                      try clear c19
                      try clear c21
                      try clear c22
                      try clear c22b0
                      try clear c23
                      try clear c23b0
                      try clear c24
                      try clear c24b0
                      try clear c25
                      try clear c25b0
                      try clear c26
                      try clear c29
                      try clear c32
                      try clear p32
                      try clear q32
                      try clear hx32
                      try clear p33
                      try clear q33
                      try clear hx33
                      try clear c34
                      try clear c34b0
                      try clear c35
                      try clear c35b0
                      try clear c36
                      try clear c36b0
                      try clear c37
                      try clear c37b0
                      try clear c37b1
                      try clear c38
                      try clear c41
                      try clear c44
                      try clear hcz13_0
                      try clear hcz13_1
                      try clear hcz13_2
                      try clear hcz13_3
                      try clear hcz14_0
                      try clear hcz14_1
                      try clear hcz14_2
                      try clear hcz14_3
                      try clear hcz16_0
                      try clear hcz16_1
                      try clear hcz16_2
                      try clear hcz16_3
                      try clear hcz17_0
                      try clear hcz17_1
                      try clear hcz17_2
                      try clear hcz17_3
                      try clear hcz19_0
                      try clear hcz19_1
                      try clear hcz19_2
                      try clear hcz19_3
                      try clear hcz20_0
                      try clear hcz20_1
                      try clear hcz20_2
                      try clear hcz20_3
                      try clear hcz27_0
                      try clear hcz27_1
                      try clear hcz27_2
                      try clear hcz27_3
                      try clear hcz28_0
                      try clear hcz28_1
                      try clear hcz28_2
                      try clear hcz28_3
                      try clear hcz30_0
                      try clear hcz30_1
                      try clear hcz30_2
                      try clear hcz30_3
                      try clear hcz31_0
                      try clear hcz31_1
                      try clear hcz31_2
                      try clear hcz31_3
                      try clear hcz33_0
                      try clear hcz33_1
                      try clear hcz33_2
                      try clear hcz33_3
                      try clear hcz39_0
                      try clear hcz39_1
                      try clear hcz39_2
                      try clear hcz39_3
                      try clear hcz40_0
                      try clear hcz40_1
                      try clear hcz40_2
                      try clear hcz40_3
                      try clear hcz42_0
                      try clear hcz42_1
                      try clear hcz42_2
                      try clear hcz42_3
                      try clear hcz43_0
                      try clear hcz43_1
                      try clear hcz43_2
                      try clear hcz43_3
                      try clear hcz45_0
                      try clear hcz45_1
                      try clear hcz45_2
                      try clear hcz45_3
                      try clear hcz8_0
                      try clear hcz8_1
                      try clear hcz8_2
                      try clear hcz8_3
                      try clear hcz9_0
                      try clear hcz9_1
                      try clear hcz9_2
                      try clear hcz9_3
                      try clear hfz13_0
                      try clear hfz13_1
                      try clear hfz13_2
                      try clear hfz13_3
                      try clear hfz14_0
                      try clear hfz14_1
                      try clear hfz14_2
                      try clear hfz14_3
                      try clear hfz16_0
                      try clear hfz16_1
                      try clear hfz16_2
                      try clear hfz16_3
                      try clear hfz17_0
                      try clear hfz17_1
                      try clear hfz17_2
                      try clear hfz17_3
                      try clear hfz19_0
                      try clear hfz19_1
                      try clear hfz19_2
                      try clear hfz19_3
                      try clear hfz20_0
                      try clear hfz20_1
                      try clear hfz20_2
                      try clear hfz20_3
                      try clear hfz27_0
                      try clear hfz27_1
                      try clear hfz27_2
                      try clear hfz27_3
                      try clear hfz28_0
                      try clear hfz28_1
                      try clear hfz28_2
                      try clear hfz28_3
                      try clear hfz30_0
                      try clear hfz30_1
                      try clear hfz30_2
                      try clear hfz30_3
                      try clear hfz31_0
                      try clear hfz31_1
                      try clear hfz31_2
                      try clear hfz31_3
                      try clear hfz33_0
                      try clear hfz33_1
                      try clear hfz33_2
                      try clear hfz33_3
                      try clear hfz39_0
                      try clear hfz39_1
                      try clear hfz39_2
                      try clear hfz39_3
                      try clear hfz40_0
                      try clear hfz40_1
                      try clear hfz40_2
                      try clear hfz40_3
                      try clear hfz42_0
                      try clear hfz42_1
                      try clear hfz42_2
                      try clear hfz42_3
                      try clear hfz43_0
                      try clear hfz43_1
                      try clear hfz43_2
                      try clear hfz43_3
                      try clear hfz45_0
                      try clear hfz45_1
                      try clear hfz45_2
                      try clear hfz45_3
                      try clear hfz8_0
                      try clear hfz8_1
                      try clear hfz8_2
                      try clear hfz8_3
                      try clear hfz9_0
                      try clear hfz9_1
                      try clear hfz9_2
                      try clear hfz9_3
                      try clear hx327_0
                      try clear hx327_1
                      try clear hx328_0
                      try clear hx328_1
                      try clear hx329_0
                      try clear hx330_0
                      try clear p2
                      try clear p3
                      try clear p32
                      try clear p327
                      try clear p328
                      try clear p329
                      try clear p330
                      try clear p6
                      try clear q3
                      try clear q32
                      try clear q327
                      try clear q328
                      try clear q329
                      try clear q330
                      obtain ⟨x7_4, rfl, HA, HK4, BK325, BK326, HB⟩ := hrel
                      cases gk with
                      | zero => exact absurd HA.out (by simp [cisternref11_Same.l2])
                      | succ k4 =>
                        have H := HA.out
                        clear HA
                        simp only [cisternref11_Same.l2] at H
                        by_cases c46 : x7_4 < (l0_3.length : Int)
                        · rw [if_pos c46] at H
                          have c46b0 : decide (x7_4 < (l0_3.length : Int)) = true := decide_eq_true c46
                          clear c46
                          by_cases c47 : 0 ≤ x7_4
                          · rw [if_pos c47] at H
                            have c47b0 : decide (0 ≤ x7_4) = true := decide_eq_true c47
                            clear c47
                            by_cases c48 : x7_4 < (l1_3.length : Int)
                            · rw [if_pos c48] at H
                              have c48b0 : decide (x7_4 < (l1_3.length : Int)) = true := decide_eq_true c48
                              clear c48
                              by_cases c49 : (rd l0_3 x7_4) = (rd l1_3 x7_4)
                              · rw [if_pos c49] at H
                                have c49b0 : ((rd l0_3 x7_4) == (rd l1_3 x7_4)) = true := beq_iff_eq.mpr c49
                                have c49b1 : ((rd l0_3 x7_4) != (rd l1_3 x7_4)) = false := bne_eq_false_iff_eq.mpr c49
                                clear c49
                                have H' := Aside0.mk H
                                clear H
                                have hnb50 := NB325_326.out
                                have hnc50 := NB326_325.out
                                have hcz51_0 : wr.cell? ⟨gb325, 0, none⟩ = some (.bool a0_0) := (blk_cell BK325.out 0).trans rfl
                                have hcz51_1 : wr.cell? ⟨gb325, 1, none⟩ = some (.slice A0_1 l0_1.length c0_1) := (blk_cell BK325.out 1).trans rfl
                                have hcz51_2 : wr.cell? ⟨gb325, 2, none⟩ = some (.slice A0_2 l0_2.length c0_2) := (blk_cell BK325.out 2).trans rfl
                                have hcz51_3 : wr.cell? ⟨gb325, 3, none⟩ = some (.slice A0_3 l0_3.length c0_3) := (blk_cell BK325.out 3).trans rfl
                                have hfz51_0 := blk_frozen BK325.out 0
                                have hfz51_1 := blk_frozen BK325.out 1
                                have hfz51_2 := blk_frozen BK325.out 2
                                have hfz51_3 := blk_frozen BK325.out 3
                                have p331 : 0 ≤ (x7_4 : Int) := of_decide_eq_true (by first | (with_reducible assumption) | assumption)
                                have q331 : x7_4 < (l0_3.length : Int) := of_decide_eq_true (by first | (with_reducible assumption) | assumption)
                                obtain ⟨ad331, e331, hx331_0⟩ := Kd.at_int HR0_3.out x7_4 p331 q331
                                cases e331
                                replace hx331_0 := (HB.out.cell (World.block_lt_of_cell? w _ hx331_0)).trans hx331_0
                                replace p331 := eq_true p331
                                replace q331 := eq_true q331
                                have hcz52_0 : wr.cell? ⟨gb326, 0, none⟩ = some (.bool a1_0) := (blk_cell BK326.out 0).trans rfl
                                have hcz52_1 : wr.cell? ⟨gb326, 1, none⟩ = some (.slice A1_1 l1_1.length c1_1) := (blk_cell BK326.out 1).trans rfl
                                have hcz52_2 : wr.cell? ⟨gb326, 2, none⟩ = some (.slice A1_2 l1_2.length c1_2) := (blk_cell BK326.out 2).trans rfl
                                have hcz52_3 : wr.cell? ⟨gb326, 3, none⟩ = some (.slice A1_3 l1_3.length c1_3) := (blk_cell BK326.out 3).trans rfl
                                have hfz52_0 := blk_frozen BK326.out 0
                                have hfz52_1 := blk_frozen BK326.out 1
                                have hfz52_2 := blk_frozen BK326.out 2
                                have hfz52_3 := blk_frozen BK326.out 3
                                have p332 : 0 ≤ (x7_4 : Int) := of_decide_eq_true (by first | (with_reducible assumption) | assumption)
                                have q332 : x7_4 < (l1_3.length : Int) := of_decide_eq_true (by first | (with_reducible assumption) | assumption)
                                obtain ⟨ad332, e332, hx332_0⟩ := Kd.at_int HR1_3.out x7_4 p332 q332
                                cases e332
                                replace hx332_0 := (HB.out.cell (World.block_lt_of_cell? w _ hx332_0)).trans hx332_0
                                replace p332 := eq_true p332
                                replace q332 := eq_true q332
                                go_wp2
                                repeat (go_quiet (fail); try go_wp2)
                                go_roundg k4
                                case measure => have := HJ2.out; have := HK2.out; have := HK3.out; have := HK4.out; omega
                                case rel => exact ⟨(wrap64 (x7_4 + 1)), (by first | rfl | (simp; done) | (simp [*]; done)), H', ⟨by have := HJ2.out; have := HK2.out; have := HK3.out; have := HK4.out; omega⟩, ⟨by (with_reducible repeat (first | refine blk_drewN ?_ _ | refine blk_drew ?_ | refine blk_alloc ?_ _)); exact BK325.out⟩, ⟨by (with_reducible repeat (first | refine blk_drewN ?_ _ | refine blk_drew ?_ | refine blk_alloc ?_ _)); exact BK326.out⟩, ⟨by repeat (first | (with_reducible first | exact HB.out | apply below_alloc | apply pw_below_drewN | apply below_drew1 | refine below_set ?_ GE325.out | refine below_set ?_ GE326.out) | exact HB.out)⟩⟩
                              · rw [if_neg c49] at H
                                have c49b0 : ((rd l0_3 x7_4) == (rd l1_3 x7_4)) = false := beq_eq_false_iff_ne.mpr c49
                                have c49b1 : ((rd l0_3 x7_4) != (rd l1_3 x7_4)) = true := bne_iff_ne.mpr c49
                                obtain rfl := Option.some.inj H
                                have hnb53 := NB325_326.out
                                have hnc53 := NB326_325.out
                                have hcz54_0 : wr.cell? ⟨gb325, 0, none⟩ = some (.bool a0_0) := (blk_cell BK325.out 0).trans rfl
                                have hcz54_1 : wr.cell? ⟨gb325, 1, none⟩ = some (.slice A0_1 l0_1.length c0_1) := (blk_cell BK325.out 1).trans rfl
                                have hcz54_2 : wr.cell? ⟨gb325, 2, none⟩ = some (.slice A0_2 l0_2.length c0_2) := (blk_cell BK325.out 2).trans rfl
                                have hcz54_3 : wr.cell? ⟨gb325, 3, none⟩ = some (.slice A0_3 l0_3.length c0_3) := (blk_cell BK325.out 3).trans rfl
                                have hfz54_0 := blk_frozen BK325.out 0
                                have hfz54_1 := blk_frozen BK325.out 1
                                have hfz54_2 := blk_frozen BK325.out 2
                                have hfz54_3 := blk_frozen BK325.out 3
                                have p331 : 0 ≤ (x7_4 : Int) := of_decide_eq_true (by first | (with_reducible assumption) | assumption)
                                have q331 : x7_4 < (l0_3.length : Int) := of_decide_eq_true (by first | (with_reducible assumption) | assumption)
                                obtain ⟨ad331, e331, hx331_0⟩ := Kd.at_int HR0_3.out x7_4 p331 q331
                                cases e331
                                replace hx331_0 := (HB.out.cell (World.block_lt_of_cell? w _ hx331_0)).trans hx331_0
                                replace p331 := eq_true p331
                                replace q331 := eq_true q331
                                have hcz55_0 : wr.cell? ⟨gb326, 0, none⟩ = some (.bool a1_0) := (blk_cell BK326.out 0).trans rfl
                                have hcz55_1 : wr.cell? ⟨gb326, 1, none⟩ = some (.slice A1_1 l1_1.length c1_1) := (blk_cell BK326.out 1).trans rfl
                                have hcz55_2 : wr.cell? ⟨gb326, 2, none⟩ = some (.slice A1_2 l1_2.length c1_2) := (blk_cell BK326.out 2).trans rfl
                                have hcz55_3 : wr.cell? ⟨gb326, 3, none⟩ = some (.slice A1_3 l1_3.length c1_3) := (blk_cell BK326.out 3).trans rfl
                                have hfz55_0 := blk_frozen BK326.out 0
                                have hfz55_1 := blk_frozen BK326.out 1
                                have hfz55_2 := blk_frozen BK326.out 2
                                have hfz55_3 := blk_frozen BK326.out 3
                                have p332 : 0 ≤ (x7_4 : Int) := of_decide_eq_true (by first | (with_reducible assumption) | assumption)
                                have q332 : x7_4 < (l1_3.length : Int) := of_decide_eq_true (by first | (with_reducible assumption) | assumption)
                                obtain ⟨ad332, e332, hx332_0⟩ := Kd.at_int HR1_3.out x7_4 p332 q332
                                cases e332
                                replace hx332_0 := (HB.out.cell (World.block_lt_of_cell? w _ hx332_0)).trans hx332_0
                                replace p332 := eq_true p332
                                replace q332 := eq_true q332
                                go_wp2
                                repeat (go_quiet (fail); try go_wp2)
                                go_ret
                                exact ⟨by first | rfl | (simp [errW_none, errW_some] <;> rfl) | (simp [*, errW_none, errW_some] <;> rfl), by repeat (first | (with_reducible first | exact HB.out | apply below_alloc | apply pw_below_drewN | apply below_drew1 | refine below_set ?_ GE325.out | refine below_set ?_ GE326.out) | exact HB.out)⟩
                            · rw [if_neg c48] at H
                              exact absurd H (by simp)
                          · rw [if_neg c47] at H
                            exact absurd H (by simp)
                        · rw [if_neg c46] at H
                          have c46b0 : decide (x7_4 < (l0_3.length : Int)) = false := decide_eq_false c46
                          clear c46
                          obtain rfl := Option.some.inj H
                          have hnb56 := NB325_326.out
                          have hnc56 := NB326_325.out
                          have hcz57_0 : wr.cell? ⟨gb325, 0, none⟩ = some (.bool a0_0) := (blk_cell BK325.out 0).trans rfl
                          have hcz57_1 : wr.cell? ⟨gb325, 1, none⟩ = some (.slice A0_1 l0_1.length c0_1) := (blk_cell BK325.out 1).trans rfl
                          have hcz57_2 : wr.cell? ⟨gb325, 2, none⟩ = some (.slice A0_2 l0_2.length c0_2) := (blk_cell BK325.out 2).trans rfl
                          have hcz57_3 : wr.cell? ⟨gb325, 3, none⟩ = some (.slice A0_3 l0_3.length c0_3) := (blk_cell BK325.out 3).trans rfl
                          have hfz57_0 := blk_frozen BK325.out 0
                          have hfz57_1 := blk_frozen BK325.out 1
                          have hfz57_2 := blk_frozen BK325.out 2
                          have hfz57_3 := blk_frozen BK325.out 3
                          go_wp2
                          repeat (go_quiet (fail); try go_wp2)
                          go_ret
                          exact ⟨by first | rfl | (simp [errW_none, errW_some] <;> rfl) | (simp [*, errW_none, errW_some] <;> rfl), by repeat (first | (with_reducible first | exact HB.out | apply below_alloc | apply pw_below_drewN | apply below_drew1 | refine below_set ?_ GE325.out | refine below_set ?_ GE326.out) | exact HB.out)⟩
end
end Go.Proofs.Ytjjfeoigjhbbpaa.PA
namespace Go.Proofs.Ytjjfeoigjhbbpaa.PA
section

open Go.RowKit Go.Proofs.YtjjfeoigjhbbpaaW.PrintWords Go.Proofs.YtjjfeoigjhbbpaaW.PrintLast Go.Proofs.YtjjfeoigjhbbpaaW.PrintMore
attribute [local go_sem] pr_leq pr_geq pr_gtr max2_int min2_int max_two min_two max_three min_three max_four min_four
set_option linter.unusedVariables false
set_option linter.unusedSimpArgs false
theorem wsuc {i : Nat} (h : i < 9223372036854775807) : wrap64 ((i : Int) + 1) = ((i + 1 : Nat) : Int) := by unfold wrap64; omega
theorem same_l2 (a b : Bool) (P Q : List S48) (K L : List ByteArray) (D : List Int) (hD : D.length ≤ 9223372036854775807) : ∀ (n i k : Nat), i + n = D.length → n < k → cisternref11_Same.l2 k (i : Int) a P K D b Q L D = some true
  | 0, i, k + 1, hi, _ => by
    unfold cisternref11_Same.l2
    rw [if_neg (by omega)]
  | n + 1, i, k + 1, hi, hk => by
    unfold cisternref11_Same.l2
    rw [if_pos (by omega), if_pos (by omega), if_pos (by omega), if_pos rfl, wsuc (by omega)]
    exact same_l2 a b P Q K L D hD n (i + 1) k (by omega) (by omega)
theorem same_l1 (a b : Bool) (P Q : List S48) (K : List ByteArray) (D : List Int) (hK : K.length ≤ 9223372036854775807) (hD : D.length ≤ 9223372036854775807) : ∀ (n i k : Nat), i + n = K.length → n + D.length + 1 < k → cisternref11_Same.l1 k (i : Int) a P K D b Q K D = some true
  | 0, i, k + 1, hi, hk => by
    unfold cisternref11_Same.l1
    rw [if_neg (by omega)]
    exact same_l2 a b P Q K K D hD D.length 0 k (by omega) (by omega)
  | n + 1, i, k + 1, hi, hk => by
    unfold cisternref11_Same.l1
    rw [if_pos (by omega), if_pos (by omega), if_pos (by omega), if_pos rfl, wsuc (by omega)]
    exact same_l1 a b P Q K D hK hD n (i + 1) k (by omega) (by omega)
theorem same_l0 (a b : Bool) (P : List S48) (K : List ByteArray) (D : List Int) (hP : P.length ≤ 9223372036854775807) (hK : K.length ≤ 9223372036854775807) (hD : D.length ≤ 9223372036854775807) : ∀ (n i k : Nat), i + n = P.length → n + K.length + D.length + 2 < k → cisternref11_Same.l0 k (i : Int) a P K D b P K D = some true
  | 0, i, k + 1, hi, hk => by
    unfold cisternref11_Same.l0
    rw [if_neg (by omega)]
    exact same_l1 a b P P K D hK hD K.length 0 k (by omega) (by omega)
  | n + 1, i, k + 1, hi, hk => by
    unfold cisternref11_Same.l0
    rw [if_pos (by omega), if_pos (by omega), if_pos (by omega), beq_self_eq_true, beq_self_eq_true, if_neg (by decide), wsuc (by omega)]
    exact same_l0 a b P K D hP hK hD n (i + 1) k (by omega) (by omega)
theorem same_self (a : Bool) (P : List S48) (K : List ByteArray) (D : List Int) (hP : P.length ≤ 9223372036854775807) (hK : K.length ≤ 9223372036854775807) (hD : D.length ≤ 9223372036854775807) (k : Nat) (hk : P.length + K.length + D.length + 3 < k) : cisternref11_Same.f k a P K D a P K D = some true := by
  obtain ⟨k, rfl⟩ : ∃ m, k = m + 1 := ⟨k - 1, by omega⟩
  unfold cisternref11_Same.f
  rw [if_neg (by simp), if_pos rfl, if_pos rfl]
  have : ((D.length : Int) != (D.length : Int)) = false := by simp
  rw [this, cisternref11_Same.j0, if_neg (by decide)]
  exact same_l0 a a P K D hP hK hD P.length 0 k (by omega) (by omega)
end
end Go.Proofs.Ytjjfeoigjhbbpaa.PA
namespace Go.Proofs.Ytjjfeoigjhbbpaa.PA
section

open Go.RowKit Go.Proofs.YtjjfeoigjhbbpaaW.PrintWords Go.Proofs.YtjjfeoigjhbbpaaW.PrintLast Go.Proofs.YtjjfeoigjhbbpaaW.PrintMore
attribute [local go_sem] pr_leq pr_geq pr_gtr max2_int min2_int max_two min_two max_three min_three max_four min_four
set_option linter.unusedVariables false
set_option linter.unusedSimpArgs false
set_option maxHeartbeats 4000000 in
set_option maxRecDepth 100000 in
theorem backW (a : Bool) (A1 : Option Addr) (n1 c1 : Nat) (A2 : Option Addr) (n2 c2 : Nat) (A3 : Option Addr) (n3 c3 : Nat) (w : World) : Calls Try.prog 20 #[.agg #[.bool a, .slice A1 n1 c1, .slice A2 n2 c2, .slice A3 n3 c3]] w fun e w' => e = .returned (.agg #[.bool a, .slice A1 n1 c1, .slice A2 n2 c2, .slice A3 n3 c3]) ∧ Below w.heap.size w w' := by
  obtain ⟨wy, hwy⟩ : ∃ wy, wy = w.alloc (.cells #[.bool a, .slice A1 n1 c1, .slice A2 n2 c2, .slice A3 n3 c3] 31) := ⟨_, rfl⟩
  obtain ⟨wx, hwx⟩ : ∃ wx, wx = wy.alloc (.cells #[.bool false, .slice none 0 0, .slice none 0 0, .slice none 0 0] 26) := ⟨_, rfl⟩
  have ny : wy.heap.size = w.heap.size + 1 := by rw [hwy]; simp
  have b0y := heap_alloc_new w (.cells #[.bool a, .slice A1 n1 c1, .slice A2 n2 c2, .slice A3 n3 c3] 31)
  have bel := below_alloc (Below.refl w.heap.size w) (.cells #[.bool a, .slice A1 n1 c1, .slice A2 n2 c2, .slice A3 n3 c3] 31)
  rw [← hwy] at b0y bel
  have bx := (Lib.alloc_old wy (.cells #[.bool false, .slice none 0 0, .slice none 0 0, .slice none 0 0] 26) w.heap.size (blk_lt b0y)).trans b0y
  have tx := heap_alloc_new wy (.cells #[.bool false, .slice none 0 0, .slice none 0 0, .slice none 0 0] 26)
  rw [← hwx] at bx tx
  rw [ny] at tx
  have BXX : Aside0 (Below w.heap.size w wx) := ⟨by rw [hwx]; exact below_alloc bel _⟩
  have HWX : Aside0 (wx = (w.alloc (.cells #[.bool a, .slice A1 n1 c1, .slice A2 n2 c2, .slice A3 n3 c3] 31)).alloc (.cells #[.bool false, .slice none 0 0, .slice none 0 0, .slice none 0 0] 26)) := ⟨by rw [hwx, hwy]⟩
  have b0 : wx.cell? ⟨w.heap.size, 0, none⟩ = some (.bool a) := blk_cell bx 0
  have b1 : wx.cell? ⟨w.heap.size, 1, none⟩ = some (.slice A1 n1 c1) := blk_cell bx 1
  have b2 : wx.cell? ⟨w.heap.size, 2, none⟩ = some (.slice A2 n2 c2) := blk_cell bx 2
  have b3 : wx.cell? ⟨w.heap.size, 3, none⟩ = some (.slice A3 n3 c3) := blk_cell bx 3
  have c0' : wx.cell? ⟨w.heap.size + 1, 0, none⟩ = some (.bool false) := blk_cell tx 0
  have c1' : wx.cell? ⟨w.heap.size + 1, 1, none⟩ = some (.slice none 0 0) := blk_cell tx 1
  have c2' : wx.cell? ⟨w.heap.size + 1, 2, none⟩ = some (.slice none 0 0) := blk_cell tx 2
  have c3' : wx.cell? ⟨w.heap.size + 1, 3, none⟩ = some (.slice none 0 0) := blk_cell tx 3
  have f0 : wx.frozen? ⟨w.heap.size + 1, 0, none⟩ = false := blk_frozen tx 0
  have f1 : wx.frozen? ⟨w.heap.size + 1, 1, none⟩ = false := blk_frozen tx 1
  have f2 : wx.frozen? ⟨w.heap.size + 1, 2, none⟩ = false := blk_frozen tx 2
  have f3 : wx.frozen? ⟨w.heap.size + 1, 3, none⟩ = false := blk_frozen tx 3
  have t7 := nd_put4 wx (w.heap.size + 1) 26 _ _ _ _ (.bool a) (.slice A1 n1 c1) (.slice A2 n2 c2) (.slice A3 n3 c3) tx
  have hg4 := nd_grown4 wx (w.heap.size + 1) (.bool a) (.slice A1 n1 c1) (.slice A2 n2 c2) (.slice A3 n3 c3)
  have T7 := Aside0.mk t7
  have B7 := Aside0.mk (nd_grown_below hg4 BXX.out BXX.out.size (by omega))
  clear hwx hwy ny b0y bel bx tx t7 hg4
  rw [HWX.out] at b0 b1 b2 b3 c0' c1' c2' c3' f0 f1 f2 f3
  go_enter Try.func20, Try.ntmps20
  go_wp2
  refine bodyPost_ret (results_cell_row rfl _ _ (w.heap.size + 1) 26 #[.bool a, .slice A1 n1 c1, .slice A2 n2 c2, .slice A3 n3 c3] (0, 0) _ rfl (by have h := heap_alloc_new (w.alloc (.cells #[.bool a, .slice A1 n1 c1, .slice A2 n2 c2, .slice A3 n3 c3] 31)) (.cells #[.bool a, .slice A1 n1 c1, .slice A2 n2 c2, .slice A3 n3 c3] 26); rw [show (w.alloc (.cells #[.bool a, .slice A1 n1 c1, .slice A2 n2 c2, .slice A3 n3 c3] 31)).heap.size = w.heap.size + 1 by simp] at h; exact h) Try.underlying26 rfl (by kernel_rfl)) rfl ?_
  exact ⟨rfl, below_alloc (below_alloc (Below.refl w.heap.size w) _) _⟩
end
end Go.Proofs.Ytjjfeoigjhbbpaa.PA
namespace Go.Proofs.Ytjjfeoigjhbbpaa.PA
section

open Go.RowKit Go.Proofs.YtjjfeoigjhbbpaaW.PrintWords Go.Proofs.YtjjfeoigjhbbpaaW.PrintLast Go.Proofs.YtjjfeoigjhbbpaaW.PrintMore
attribute [local go_sem] pr_leq pr_geq pr_gtr max2_int min2_int max_two min_two max_three min_three max_four min_four
set_option linter.unusedVariables false
set_option linter.unusedSimpArgs false
section
open Go.ChangeShapes Go.WideShapes Go.Deep
variable {H : Type} {enc : TypeId × Value → H} {P : Program} {w : World} {base : Nat} {spare : Nat → Bool} {held : Bool}
theorem ra_addr (a : Addr) (m i : Nat) : (a.add m).add i = a.add (m + i) := Go.Deep.add_add a m i
theorem open_rows {α : Type} [Inhabited α] (k : Kd α) (Wf : α → Prop) {t e : TypeId} {fuel : Nat} {A : Option Addr} {len cap : Nat} {x : DataW H × List MemPlace} (ht : P.underlying t = some (.slice e)) (hce : P.cellsOf e = k.sz)
    (He : ∀ n cs y, DataW.trod enc P w base spare held n e cs = some y → ∃ v, k.K w v cs ∧ Wf v)
    (h : DataW.trod enc P w base spare held fuel t [.slice A len cap] = some x) : ∃ l : List α, l.length = len ∧ k.C w A len l ∧ len ≤ cap ∧ ∀ v ∈ l, Wf v := by
  rcases open_slice ht h with ⟨hcs, _⟩ | ⟨a, l, c, m, n, D, Pl, hcs, _, hl, hm, hmm, _, hx⟩
  · simp at hcs
    obtain ⟨rfl, rfl, rfl⟩ := hcs
    exact ⟨[], rfl, ⟨rfl, by omega, fun h0 => absurd h0 (by omega)⟩, Nat.le_refl _, by simp⟩
  · simp at hcs
    obtain ⟨rfl, rfl, rfl⟩ := hcs
    have hlm : len ≤ m := by rw [hmm]; split <;> omega
    obtain ⟨f, hf⟩ := choose_lt (α := α) (n := len) (p := fun i v => ∃ cs, w.cells? base (a.add (i * k.sz)) k.sz = some cs ∧ k.K w v cs ∧ Wf v) (fun i hi => by
      obtain ⟨cs', h1, h2⟩ := hx i (by omega)
      rw [hce] at h1
      obtain ⟨v, h3, h4⟩ := He _ _ _ h2
      exact ⟨v, cs', h1, h3, h4⟩)
    refine ⟨(List.range len).map f, by simp, ⟨by simp, by simp only [maxLen] at hm; omega, fun _ => ⟨a, rfl, fun j p hj => ?_⟩⟩, hl, fun v hv => ?_⟩
    · have hjl : j < len := by
        rcases Nat.lt_or_ge j len with h' | h'
        · exact h'
        · rw [List.getElem?_eq_none (by simpa using h')] at hj; cases hj
      simp [hjl] at hj
      subst hj
      obtain ⟨cs, h1, h2, _⟩ := hf j hjl
      obtain ⟨_, h3, h4⟩ := World.cells?_some h1
      refine ⟨cs, h3, h2, fun i u hu => ?_⟩
      have hi : i < k.sz := by rw [← h3]; exact (List.getElem?_eq_some_iff.1 hu).1
      rw [← ra_addr, h4 i hi, hu]
    · simp only [List.mem_map, List.mem_range] at hv
      obtain ⟨j, hj, rfl⟩ := hv
      exact (hf j hj).choose_spec.2.2
end
section
open Go.ChangeShapes Go.WideShapes Go.Deep
variable {H : Type} {enc : TypeId × Value → H} {P : Program} {w : World} {base : Nat} {spare : Nat → Bool} {held : Bool}
theorem struct_rows_sized {ts : List TypeId} {ds : List (DataW H)} {ps : List MemPlace} {d : DataW H} {j i off : Nat} {t ft e : TypeId} {fs : Array Field} {f : Field} {cs : List Value} {v : Value} {A : Option Addr} {len cap : Nat}
    (hsz : (DataW.weightsEach P ts ds).all (· ≤ reachBytes) = true) (htj : ts[j]? = some t) (hdj : ds[j]? = some d) (ht : P.underlying t = some (.struct fs)) (hf : fs[i]? = some f) (hft : f.type = ft) (ho : f.offset = off) (hfe : P.underlying ft = some (.slice e)) (hco : P.cellsOf ft = 1) {B : Nat} (hB : P.bytesOf e = B)
    (h : DataW.Trod enc P w base spare held t v d ps) (hv : v.cells.toList = cs) (hc : cs[off]? = some (.slice A len cap)) : len * B ≤ 140737488351232 := by
  subst hv; subst hft; subst ho
  obtain ⟨fuel, hx⟩ := h
  obtain ⟨xs, n, _, he, _, hl, hh⟩ := DataW.trod_struct ht hx
  have hi := hh i f hf
  have hlt : i < xs.length := by rw [hl]; exact (Array.getElem?_eq_some_iff.1 hf).1
  rw [List.getElem?_eq_getElem hlt, hco] at hi
  have h1 : (v.cells.toList.drop f.offset).take 1 = [.slice A len cap] := by
    obtain ⟨hlo, hco'⟩ := List.getElem?_eq_some_iff.1 hc
    rw [List.drop_eq_getElem_cons hlo, hco']
    rfl
  rw [h1] at hi
  rcases open_slice hfe hi with ⟨hcs, _⟩ | ⟨a, l, c, m, n, D, Pl, hcs, _, hl', hm, hmm, hx', _⟩
  · simp at hcs
    obtain ⟨rfl, rfl, rfl⟩ := hcs
    simp
  · simp at hcs
    obtain ⟨rfl, rfl, rfl⟩ := hcs
    have hd : d = .agg (xs.map (·.1)) := by injection he
    have hmem : (len + (m - len)) * P.bytesOf e ∈ DataW.weightsEach P ts ds := by
      refine DataW.weights_mem_each htj hdj _ ?_
      rw [hd]
      simp only [DataW.weights, ht]
      refine DataW.weights_mem_each (j := i) (t := f.type) (d := xs[i].1) ?_ ?_ _ ?_
      · rw [List.getElem?_map, Array.getElem?_toList, hf]
        rfl
      · rw [List.getElem?_map, List.getElem?_eq_getElem hlt]
        rfl
      · rw [hx']
        simp [DataW.weights, hfe]
    have z := List.all_eq_true.1 hsz _ hmem
    rw [hB] at z
    have z' : (len + (m - len)) * B ≤ reachBytes := by simpa using z
    have h3 : len ≤ len + (m - len) := by omega
    exact Nat.le_trans (Nat.mul_le_mul_right _ h3) z'
end
end
end Go.Proofs.Ytjjfeoigjhbbpaa.PA
namespace Go.Proofs.Ytjjfeoigjhbbpaa.PA
section

open Go.RowKit Go.Proofs.YtjjfeoigjhbbpaaW.PrintWords Go.Proofs.YtjjfeoigjhbbpaaW.PrintLast Go.Proofs.YtjjfeoigjhbbpaaW.PrintMore
attribute [local go_sem] pr_leq pr_geq pr_gtr max2_int min2_int max_two min_two max_three min_three max_four min_four
set_option linter.unusedVariables false
set_option linter.unusedSimpArgs false
theorem of_val (a : Bool) (P : List S48) (K : List ByteArray) (D : List Int) (h1 : P.length * 32 ≤ 140737488351232) (h2 : K.length * 16 ≤ 140737488351232) (h3 : D.length * 8 ≤ 140737488351232) : cisternlaw11_of.f a P K D = some (a, P, K, D) := by
  unfold cisternlaw11_of.f
  rw [if_pos ⟨by omega, by omega, by omega⟩]
theorem known_enc : node_Encode.f true [(⟨⟨#[97]⟩, ⟨#[49]⟩⟩ : S48)] [] [] = some (⟨#[1, 1, 1, 97, 1, 49]⟩, 0) := by
  have e0 : keyB ⟨#[97]⟩ = true := by
    unfold keyB
    rw [nd_toList]
    rfl
  have e1 : leafV true [(⟨⟨#[97]⟩, ⟨#[49]⟩⟩ : S48)] [] [] = true := by
    unfold leafV badP
    simp only [List.any_cons, List.any_nil, e0]
    rfl
  unfold node_Encode.f
  rw [e1]
  rfl
theorem known_val : cisternlaw11_known.f = some true := by
  unfold cisternlaw11_known.f
  rw [known_enc, Option.bind_some, if_pos rfl, nd_toList]
  rfl
end
end Go.Proofs.Ytjjfeoigjhbbpaa.PA
namespace Go.Proofs.Ytjjfeoigjhbbpaa.PA
section

open Go.RowKit Go.Proofs.YtjjfeoigjhbbpaaW.PrintWords Go.Proofs.YtjjfeoigjhbbpaaW.PrintLast Go.Proofs.YtjjfeoigjhbbpaaW.PrintMore
attribute [local go_sem] pr_leq pr_geq pr_gtr max2_int min2_int max_two min_two max_three min_three max_four min_four
set_option linter.unusedVariables false
set_option linter.unusedSimpArgs false
abbrev ba (l : List UInt8) : ByteArray := ⟨l.toArray⟩
theorem ba_size (l : List UInt8) : (ba l).size = l.length := by simp [ByteArray.size]
theorem ba_of (s : ByteArray) : ba s.data.toList = s := rfl
theorem ba_cut (l : List UInt8) (i j : Nat) : (ba l).extract i j = ba ((l.drop i).take (j - i)) := by
  apply ByteArray.ext
  rw [ByteArray.data_extract]
  simp [List.extract_toArray, List.extract_eq_take_drop]
theorem rdb_cons (x : UInt8) (t : List UInt8) (b : Bool) : rdb (ba (x :: t)) b = (x.toNat, ba t, b) := by
  unfold rdb
  rw [if_neg (by rw [ba_size]; simp), ba_cut, ba_cut, ba_size]
  have e1 : ((x :: t).drop 0).take (1 - 0) = [x] := rfl
  have e2 : ((x :: t).drop 1).take ((x :: t).length - 1) = t := by simp
  rw [e1, e2]
  have e3 : bt (ba [x]) 0 = (x.toNat : Int) := by
    unfold bt
    rw [dif_pos (by rw [ba_size]; exact Nat.zero_lt_one)]
    rfl
  rw [e3]
  rfl
theorem rdb_nil (b : Bool) : rdb (ba []) b = (0, ba [], true) := by
  unfold rdb
  rw [if_pos (by rfl)]
theorem rdb_inv {s s' : ByteArray} {b : Bool} {n : Nat} (h : rdb s b = (n, s', false)) : b = false ∧ n ≤ 255 ∧ s.data.toList = UInt8.ofNat n :: s'.data.toList := by
  obtain ⟨l, rfl⟩ : ∃ l, s = ba l := ⟨s.data.toList, rfl⟩
  cases l with
  | nil => rw [rdb_nil] at h; simp at h
  | cons x t =>
    rw [rdb_cons] at h
    simp only [Prod.mk.injEq] at h
    obtain ⟨rfl, rfl, h3⟩ := h
    have := x.toNat_lt
    exact ⟨h3, by omega, by simp⟩
theorem rdt_text (k : ByteArray) (hk : k.size ≤ 255) (t : List UInt8) (b : Bool) : rdt (ba (textL k ++ t)) b = (k, ba t, b) := by
  unfold rdt textL
  rw [List.cons_append, rdb_cons]
  have e : (UInt8.ofNat k.size).toNat = k.size := by simp; omega
  have e2 : k.data.toList.length = k.size := rfl
  dsimp only
  rw [e, ba_size, if_neg (by rw [List.length_append, e2]; omega), ba_cut, ba_cut]
  rw [List.drop_zero, Nat.sub_zero, List.take_left' e2, List.drop_left' e2, List.length_append, e2, Nat.add_sub_cancel_left, List.take_length]
theorem rdt_inv {s s' k : ByteArray} {b : Bool} (h : rdt s b = (k, s', false)) : b = false ∧ k.size ≤ 255 ∧ s.data.toList = textL k ++ s'.data.toList := by
  unfold rdt at h
  obtain ⟨n, s1, b1, h1⟩ : ∃ n s1 b1, rdb s b = (n, s1, b1) := ⟨_, _, _, rfl⟩
  rw [h1] at h
  dsimp only at h
  split at h
  · simp at h
  · rename_i hn
    simp only [Prod.mk.injEq] at h
    obtain ⟨rfl, rfl, rfl⟩ := h
    obtain ⟨hb, hn', hs⟩ := rdb_inv h1
    obtain ⟨l, rfl⟩ : ∃ l, s1 = ba l := ⟨s1.data.toList, rfl⟩
    rw [ba_size] at hn
    rw [ba_cut, ba_cut, hs, ba_size, List.drop_zero, Nat.sub_zero]
    have e : (ba (l.take n)).size = n := by rw [ba_size, List.length_take]; omega
    refine ⟨hb, by show (ba (l.take n)).size ≤ 255; rw [e]; exact hn', ?_⟩
    unfold textL
    rw [e, List.cons_append]
    congr 1
    show l = l.take n ++ (l.drop n).take (l.length - n)
    have e3 : (l.drop n).take (l.length - n) = l.drop n := List.take_of_length_le (by rw [List.length_drop]; exact Nat.le_refl _)
    rw [e3, List.take_append_drop]
theorem decP_enc : ∀ (P : List S48) (l : List S48) (t : List UInt8), (∀ x ∈ P, x.f0.size ≤ 255 ∧ x.f1.size ≤ 255) → decP P.length (ba (P.flatMap pairL ++ t)) false l = (ba t, false, l ++ P)
  | [], l, t, h => by simp [decP]
  | p :: P, l, t, h => by
    have hp := h p List.mem_cons_self
    rw [List.length_cons, decP, if_neg (by decide), List.flatMap_cons, pairL, List.append_assoc, List.append_assoc, rdt_text _ hp.1, rdt_text _ hp.2, decP_enc P _ t (fun x hx => h x (List.mem_cons_of_mem _ hx))]
    simp
theorem decK_enc : ∀ (K : List ByteArray) (l : List ByteArray) (t : List UInt8), (∀ x ∈ K, x.size ≤ 255) → decK K.length (ba (K.flatMap textL ++ t)) false l = (ba t, false, l ++ K)
  | [], l, t, h => by simp [decK]
  | p :: P, l, t, h => by
    have hp := h p List.mem_cons_self
    rw [List.length_cons, decK, if_neg (by decide), List.flatMap_cons, List.append_assoc, rdt_text _ hp, decK_enc P _ t (fun x hx => h x (List.mem_cons_of_mem _ hx))]
    simp
theorem kid_back (k : Int) (h0 : 0 ≤ k) (h1 : k ≤ 65535) : (((UInt8.ofNat (k % 256).toNat).toNat + 256 * (UInt8.ofNat (k / 256 % 256).toNat).toNat : Nat) : Int) = k := by
  have e1 : (UInt8.ofNat (k % 256).toNat).toNat = (k % 256).toNat := by simp; omega
  have e2 : (UInt8.ofNat (k / 256 % 256).toNat).toNat = (k / 256 % 256).toNat := by simp; omega
  rw [e1, e2]
  omega
theorem decD_enc : ∀ (D l : List Int) (t : List UInt8), (∀ x ∈ D, 0 ≤ x ∧ x ≤ 65535) → decD D.length (ba (D.flatMap kidL ++ t)) false l = (ba t, false, l ++ D)
  | [], l, t, h => by simp [decD]
  | p :: P, l, t, h => by
    have hp := h p List.mem_cons_self
    rw [List.length_cons, decD, if_neg (by decide), List.flatMap_cons, kidL]
    simp only [List.cons_append, List.nil_append, rdb_cons]
    rw [decD_enc P _ t (fun x hx => h x (List.mem_cons_of_mem _ hx)), kid_back p hp.1 hp.2]
    simp
theorem decP_inv : ∀ (n : Nat) (s s' : ByteArray) (b : Bool) (l l' : List S48), decP n s b l = (s', false, l') → (0 < n → b = false) ∧ ∃ P : List S48, l' = l ++ P ∧ P.length = n ∧ s.data.toList = P.flatMap pairL ++ s'.data.toList ∧ (n = 0 → b = false)
  | 0, s, s', b, l, l', h => by
    simp only [decP, Prod.mk.injEq] at h
    obtain ⟨rfl, rfl, rfl⟩ := h
    exact ⟨fun h => by omega, [], by simp⟩
  | n + 1, s, s', b, l, l', h => by
    rw [decP] at h
    cases b
    · rw [if_neg (by decide)] at h
      obtain ⟨k, s1, b1, h1⟩ : ∃ n s1 b1, rdt s false = (n, s1, b1) := ⟨_, _, _, rfl⟩
      rw [h1] at h
      dsimp only at h
      obtain ⟨v, s2, b2, h2⟩ : ∃ n s2 b2, rdt s1 b1 = (n, s2, b2) := ⟨_, _, _, rfl⟩
      rw [h2] at h
      obtain ⟨hb, P, rfl, hl, hs, hz⟩ := decP_inv n s2 s' b2 _ l' h
      have hb2 : b2 = false := by rcases Nat.eq_zero_or_pos n with h | h; exact hz h; exact hb h
      subst hb2
      obtain ⟨hb1, hv, e2⟩ := rdt_inv h2
      subst hb1
      obtain ⟨_, hk, e1⟩ := rdt_inv h1
      refine ⟨fun _ => rfl, ⟨k, v⟩ :: P, by simp, by simp [hl], ?_, fun _ => rfl⟩
      rw [e1, e2, hs, List.flatMap_cons, pairL]
      simp
    · rw [if_pos rfl] at h; simp at h
theorem decK_inv : ∀ (n : Nat) (s s' : ByteArray) (b : Bool) (l l' : List ByteArray), decK n s b l = (s', false, l') → b = false ∧ ∃ P : List ByteArray, l' = l ++ P ∧ P.length = n ∧ s.data.toList = P.flatMap textL ++ s'.data.toList
  | 0, s, s', b, l, l', h => by
    simp only [decK, Prod.mk.injEq] at h
    obtain ⟨rfl, rfl, rfl⟩ := h
    exact ⟨rfl, [], by simp⟩
  | n + 1, s, s', b, l, l', h => by
    rw [decK] at h
    cases b
    · rw [if_neg (by decide)] at h
      obtain ⟨k, s1, b1, h1⟩ : ∃ n s1 b1, rdt s false = (n, s1, b1) := ⟨_, _, _, rfl⟩
      rw [h1] at h
      obtain ⟨hb, P, rfl, hl, hs⟩ := decK_inv n s1 s' b1 _ l' h
      subst hb
      obtain ⟨_, hk, e1⟩ := rdt_inv h1
      refine ⟨rfl, k :: P, by simp, by simp [hl], ?_⟩
      rw [e1, hs, List.flatMap_cons]
      simp
    · rw [if_pos rfl] at h; simp at h
theorem kid_split (a b : Nat) (ha : a ≤ 255) (hb : b ≤ 255) : kidL ((a + 256 * b : Nat) : Int) = [UInt8.ofNat a, UInt8.ofNat b] := by
  unfold kidL
  rw [show (((a + 256 * b : Nat) : Int) % 256).toNat = a by omega, show (((a + 256 * b : Nat) : Int) / 256 % 256).toNat = b by omega]
theorem decD_inv : ∀ (n : Nat) (s s' : ByteArray) (b : Bool) (l l' : List Int), decD n s b l = (s', false, l') → b = false ∧ ∃ P : List Int, l' = l ++ P ∧ P.length = n ∧ s.data.toList = P.flatMap kidL ++ s'.data.toList
  | 0, s, s', b, l, l', h => by
    simp only [decD, Prod.mk.injEq] at h
    obtain ⟨rfl, rfl, rfl⟩ := h
    exact ⟨rfl, [], by simp⟩
  | n + 1, s, s', b, l, l', h => by
    rw [decD] at h
    cases b
    · rw [if_neg (by decide)] at h
      obtain ⟨k, s1, b1, h1⟩ : ∃ n s1 b1, rdb s false = (n, s1, b1) := ⟨_, _, _, rfl⟩
      rw [h1] at h
      dsimp only at h
      obtain ⟨v, s2, b2, h2⟩ : ∃ n s2 b2, rdb s1 b1 = (n, s2, b2) := ⟨_, _, _, rfl⟩
      rw [h2] at h
      obtain ⟨hb, P, rfl, hl, hs⟩ := decD_inv n s2 s' b2 _ l' h
      subst hb
      obtain ⟨hb1, hv, e2⟩ := rdb_inv h2
      subst hb1
      obtain ⟨_, hk, e1⟩ := rdb_inv h1
      refine ⟨rfl, ((k + 256 * v : Nat) : Int) :: P, by simp, by simp [hl], ?_⟩
      rw [e1, e2, hs, List.flatMap_cons, kid_split k v hk hv]
      simp
    · rw [if_pos rfl] at h; simp at h
theorem dec_enc {lf : Bool} {P : List S48} {K : List ByteArray} {D : List Int} (h : (leafV lf P K D || innerV lf P K D) = true) (hs : sizeN lf P K D ≤ 160) : decV (ba (encL lf P K D)) = (lf, P, K, D, 0) := by
  have hsz : (ba (encL lf P K D)).size ≤ 160 := by rw [ba_size, encL_length]; exact hs
  have hnil : (ba []).toList = [] := by rw [nd_toList]
  rcases Bool.or_eq_true_iff.1 h with hl | hi
  · obtain ⟨rfl, rfl, rfl, h1, h2, h3⟩ := leafV_true hl
    have e0 : encL true P [] [] = 1 :: UInt8.ofNat P.length :: (P.flatMap pairL ++ []) := by simp [encL]
    have ec : (UInt8.ofNat P.length).toNat = P.length := by simp; omega
    have ep := decP_enc P [] [] (fun x hx => by have := pair_size h2 x hx; omega)
    rw [e0] at hsz ⊢
    unfold decV
    rw [rdb_cons]
    dsimp only
    rw [if_pos (by rfl), rdb_cons]
    dsimp only
    rw [ec, ep]
    unfold outL
    rw [if_pos ⟨rfl, hnil, hsz, hl⟩]
    simp
  · obtain ⟨rfl, rfl, h1, h2, h3, h4, h5, h6⟩ := innerV_true hi
    have e0 : encL false [] K D = 2 :: UInt8.ofNat D.length :: (D.flatMap kidL ++ (K.flatMap textL ++ [])) := by simp [encL]
    have ec : (UInt8.ofNat D.length).toNat = D.length := by simp; omega
    have ed := decD_enc D [] (K.flatMap textL ++ []) (fun x hx => by have := kid_size h5 x hx; omega)
    have ek := decK_enc K [] [] (fun x hx => by have := key_size h4 x hx; omega)
    rw [e0] at hsz ⊢
    unfold decV
    rw [rdb_cons]
    dsimp only
    rw [if_neg (by decide), rdb_cons]
    dsimp only
    rw [ec, ed]
    dsimp only
    rw [show D.length - 1 = K.length by omega, ek]
    unfold outI
    rw [if_pos ⟨rfl, hnil, rfl, hsz, hi⟩]
    simp
theorem nil_of {s : ByteArray} (h : s.toList = []) : s.data.toList = [] := by rw [← nd_toList]; exact h
theorem dec_cases (s : ByteArray) : decV s = (false, [], [], [], 2) ∨ ∃ lf P K D, decV s = (lf, P, K, D, 0) ∧ (leafV lf P K D || innerV lf P K D) = true ∧ sizeN lf P K D ≤ 160 ∧ s = ba (encL lf P K D) := by
  unfold decV
  obtain ⟨k, s1, b1, h1⟩ : ∃ n s1 b1, rdb s false = (n, s1, b1) := ⟨_, _, _, rfl⟩
  rw [h1]
  dsimp only
  obtain ⟨n, s2, b2, h2⟩ : ∃ n s' b', rdb s1 b1 = (n, s', b') := ⟨_, _, _, rfl⟩
  rw [h2]
  dsimp only
  split
  · rename_i hk
    subst hk
    obtain ⟨s3, b3, P, h3⟩ : ∃ s3 b3 P, decP n s2 b2 [] = (s3, b3, P) := ⟨_, _, _, rfl⟩
    rw [h3]
    unfold outL
    dsimp only
    split
    · rename_i h
      obtain ⟨rfl, hz, hs, hl⟩ := h
      right
      obtain ⟨hb, P', rfl, hp, e3, hb0⟩ := decP_inv n s2 s3 b2 [] _ h3
      have hb2 : b2 = false := by rcases Nat.eq_zero_or_pos n with h | h; exact hb0 h; exact hb h
      subst hb2
      obtain ⟨rfl, hn, e2⟩ := rdb_inv h2
      obtain ⟨_, _, e1⟩ := rdb_inv h1
      rw [nil_of hz, List.append_nil] at e3
      have es : s = ba (encL true P [] []) := by
        rw [← ba_of s, e1, e2, e3, ← hp]
        rfl
      refine ⟨true, P, [], [], rfl, by rw [hl]; rfl, ?_, es⟩
      rw [← encL_length, ← ba_size, ← es]
      exact hs
    · exact Or.inl rfl
  · rename_i hk
    obtain ⟨s3, b3, D, h3⟩ : ∃ s3 b3 P, decD n s2 b2 [] = (s3, b3, P) := ⟨_, _, _, rfl⟩
    rw [h3]
    dsimp only
    obtain ⟨s4, b4, K, h4⟩ : ∃ s' b' P', decK (n - 1) s3 b3 [] = (s', b', P') := ⟨_, _, _, rfl⟩
    rw [h4]
    unfold outI
    dsimp only
    split
    · rename_i h
      obtain ⟨rfl, hz, rfl, hs, hl⟩ := h
      right
      obtain ⟨rfl, K', rfl, hp, e4⟩ := decK_inv _ s3 s4 b3 [] _ h4
      obtain ⟨rfl, D', rfl, hd, e3⟩ := decD_inv n s2 s3 b2 [] _ h3
      obtain ⟨rfl, hn, e2⟩ := rdb_inv h2
      obtain ⟨_, _, e1⟩ := rdb_inv h1
      rw [nil_of hz, List.append_nil] at e4
      have es : s = ba (encL false [] K D) := by
        rw [← ba_of s, e1, e2, e3, e4, ← hd]
        rfl
      refine ⟨false, [], K, D, rfl, by rw [hl]; simp, ?_, es⟩
      rw [← encL_length, ← ba_size, ← es]
      exact hs
    · exact Or.inl rfl
theorem form_len {lf : Bool} {P : List S48} {K : List ByteArray} {D : List Int} (h : (leafV lf P K D || innerV lf P K D) = true) : P.length ≤ 255 ∧ K.length ≤ 255 ∧ D.length ≤ 255 := by
  rcases Bool.or_eq_true_iff.1 h with hl | hi
  · obtain ⟨_, rfl, rfl, h1, _, _⟩ := leafV_true hl
    exact ⟨h1, by decide, by decide⟩
  · obtain ⟨_, rfl, h1, h2, h3, _, _, _⟩ := innerV_true hi
    exact ⟨by decide, by omega, h2⟩
set_option maxHeartbeats 4000000 in
set_option maxRecDepth 100000 in
theorem cisternlaw11_NodeInverse.walk (a : Bool) (A1 : Option Addr) (c1 : Nat) (l1 : List S48) (A2 : Option Addr) (c2 : Nat) (l2 : List ByteArray) (A3 : Option Addr) (c3 : Nat) (l3 : List Int) (s : ByteArray) (w : World)
    (_wa0 : True ∧ (∀ x_ ∈ l1, (x_.f0.size ≤ maxLen) ∧ (x_.f1.size ≤ maxLen)) ∧ (∀ x_ ∈ l2, x_.size ≤ maxLen) ∧ (∀ x_ ∈ l3, (Lit.int .i64 x_).wf = true)) (hr1 : Kd.C k48 w A1 l1.length l1) (hc1 : l1.length ≤ c1) (y1 : l1.length * 32 ≤ 140737488351232) (hr2 : Kd.C Kd.string w A2 l2.length l2) (hc2 : l2.length ≤ c2) (y2 : l2.length * 16 ≤ 140737488351232) (hr3 : Kd.C (Kd.int .i64) w A3 l3.length l3) (hc3 : l3.length ≤ c3) (y3 : l3.length * 8 ≤ 140737488351232) (_ws : s.size ≤ 140737488351232) :
    Calls Try.prog 7 #[.agg #[.bool a, .slice A1 l1.length c1, .slice A2 l2.length c2, .slice A3 l3.length c3], .string s] w fun e w' => e = .returned (.bool true) ∧ Below w.heap.size w w' := by
  obtain ⟨KK, hK⟩ : ∃ K : Nat, K = 2000 := ⟨_, rfl⟩
  have OF : Aside0 (cisternlaw11_of.f a l1 l2 l3 = some (a, l1, l2, l3)) := ⟨of_val a l1 l2 l3 y1 y2 y3⟩
  have S0S : Aside0 (cisternref11_Same.f KK false [] [] [] false [] [] [] = some true) := ⟨same_self false [] [] [] (by decide) (by decide) (by decide) KK (by simp; omega)⟩
  have R1 := Aside0.mk hr1
  have R2 := Aside0.mk hr2
  have R3 := Aside0.mk hr3
  clear hr1 hr2 hr3 y1 y2 y3 _wa0 _ws
  have bx := heap_alloc_new w (.cells #[.bool a, .slice A1 l1.length c1, .slice A2 l2.length c2, .slice A3 l3.length c3] 26)
  have BA := below_alloc (Below.refl w.heap.size w) (.cells #[.bool a, .slice A1 l1.length c1, .slice A2 l2.length c2, .slice A3 l3.length c3] 26)
  obtain ⟨w0, hw0⟩ : ∃ w0, w0 = w.alloc (.cells #[.bool a, .slice A1 l1.length c1, .slice A2 l2.length c2, .slice A3 l3.length c3] 26) := ⟨_, rfl⟩
  have HW0 := Aside0.mk hw0
  rw [← hw0] at bx BA
  have B0 := Aside0.mk BA
  clear hw0 BA
  have b0 : w0.cell? ⟨w.heap.size, 0, none⟩ = some (.bool a) := blk_cell bx 0
  have b1 : w0.cell? ⟨w.heap.size, 1, none⟩ = some (.slice A1 l1.length c1) := blk_cell bx 1
  have b2 : w0.cell? ⟨w.heap.size, 2, none⟩ = some (.slice A2 l2.length c2) := blk_cell bx 2
  have b3 : w0.cell? ⟨w.heap.size, 3, none⟩ = some (.slice A3 l3.length c3) := blk_cell bx 3
  clear bx
  go_enter Try.func7, Try.ntmps7
  replace R1 := Aside0.mk (Kd.C_below R1.out B0.out)
  replace R2 := Aside0.mk (Kd.C_below R2.out B0.out)
  replace R3 := Aside0.mk (Kd.C_below R3.out B0.out)
  go_wp2_with fail
  rw [← HW0.out]
  refine (cisternlaw11_known.calls true _ known_val).mono ?_
  rintro e w1 ⟨rfl, hB⟩
  have B1 := Aside0.mk (B0.out.trans (hB.mono B0.out.size))
  replace b0 := nd_cell hB b0
  replace b1 := nd_cell hB b1
  replace b2 := nd_cell hB b2
  replace b3 := nd_cell hB b3
  replace R1 := Aside0.mk (Kd.C_below R1.out hB)
  replace R2 := Aside0.mk (Kd.C_below R2.out hB)
  replace R3 := Aside0.mk (Kd.C_below R3.out hB)
  clear hB
  go_wp2_with fail
  refine (cisternlaw11_of.calls a A1 c1 l1 A2 c2 l2 A3 c3 l3 a l1 l2 l3 _ R1.out hc1 R2.out hc2 R3.out hc3 OF.out).mono ?_
  rintro e w2 ⟨v1, v2, v3, rfl, h1, h2, h3, hB⟩
  have B2 := Aside0.mk (B1.out.trans (hB.mono B1.out.size))
  replace b0 := nd_cell hB b0
  replace b1 := nd_cell hB b1
  replace b2 := nd_cell hB b2
  replace b3 := nd_cell hB b3
  replace R1 := Aside0.mk (Kd.C_below R1.out hB)
  replace R2 := Aside0.mk (Kd.C_below R2.out hB)
  replace R3 := Aside0.mk (Kd.C_below R3.out hB)
  clear hB
  obtain ⟨oA1, oc1, rfl⟩ := Kd.R_slice h1
  have oR1 := Aside0.mk h1
  have oL1 := Aside0.mk (Kd.R_reads' h1).2.1
  obtain ⟨oA2, oc2, rfl⟩ := Kd.R_slice h2
  have oR2 := Aside0.mk h2
  have oL2 := Aside0.mk (Kd.R_reads' h2).2.1
  obtain ⟨oA3, oc3, rfl⟩ := Kd.R_slice h3
  have oR3 := Aside0.mk h3
  have oL3 := Aside0.mk (Kd.R_reads' h3).2.1
  clear h1 h2 h3
  by_cases hgood : (leafV a l1 l2 l3 || innerV a l1 l2 l3) = true ∧ sizeN a l1 l2 l3 ≤ 160
  · obtain ⟨hx, hsz⟩ := hgood
    obtain ⟨p, hp⟩ : ∃ p, ba (encL a l1 l2 l3) = p := ⟨_, rfl⟩
    have EE : Aside0 (node_Encode.f a l1 l2 l3 = some (p, 0)) := ⟨by unfold node_Encode.f; rw [if_pos hx, if_pos hsz]; exact congrArg (fun p => some (p, (0 : Int))) hp⟩
    have DE : Aside0 (node_Decode.f p = some (a, l1, l2, l3, 0)) := ⟨by rw [← hp]; unfold node_Decode.f; exact congrArg some (dec_enc hx hsz)⟩
    have CE : Aside0 (node_Check.f a l1 l2 l3 = some 0) := ⟨by rw [check_val, if_pos hx]⟩
    obtain ⟨z1, z2, z3⟩ := form_len hx
    have SS : Aside0 (cisternref11_Same.f KK a l1 l2 l3 a l1 l2 l3 = some true) := ⟨same_self a l1 l2 l3 (by omega) (by omega) (by omega) KK (by omega)⟩
    have SZ : Aside0 (node_Size.f KK a l1 l2 l3 = some (p.size : Int)) := ⟨by rw [size_val a l1 l2 l3 (by omega) (by omega) KK (by omega) (by omega), ← hp]; rw [ba_size, encL_length]; rw [wrap_small (by omega)]⟩
    clear z1 z2 z3 hp hx hsz hK
    go_wp2_with fail
    refine (node_Encode.calls a oA1 oc1 l1 oA2 oc2 l2 oA3 oc3 l3 p 0 _ (Kd.R_reads' oR1.out).2.2 oL1.out (Kd.R_reads' oR2.out).2.2 oL2.out (Kd.R_reads' oR3.out).2.2 oL3.out EE.out).mono ?_
    rintro e w3 ⟨rfl, hB⟩
    have B3 := Aside0.mk (B2.out.trans (hB.mono B2.out.size))
    replace b0 := nd_cell hB b0
    replace b1 := nd_cell hB b1
    replace b2 := nd_cell hB b2
    replace b3 := nd_cell hB b3
    replace R1 := Aside0.mk (Kd.C_below R1.out hB)
    replace R2 := Aside0.mk (Kd.C_below R2.out hB)
    replace R3 := Aside0.mk (Kd.C_below R3.out hB)
    clear hB
    clear oR1 oR2 oR3 oL1 oL2 oL3
    go_wp2_with fail
    refine (node_Decode.calls p a l1 l2 l3 0 _ DE.out).mono ?_
    rintro e w4 ⟨v1, v2, v3, rfl, h1, h2, h3, hB⟩
    have B4 := Aside0.mk (B3.out.trans (hB.mono B3.out.size))
    replace b0 := nd_cell hB b0
    replace b1 := nd_cell hB b1
    replace b2 := nd_cell hB b2
    replace b3 := nd_cell hB b3
    replace R1 := Aside0.mk (Kd.C_below R1.out hB)
    replace R2 := Aside0.mk (Kd.C_below R2.out hB)
    replace R3 := Aside0.mk (Kd.C_below R3.out hB)
    clear hB
    obtain ⟨mA1, mc1, rfl⟩ := Kd.R_slice h1
    have mR1 := Aside0.mk h1
    have mL1 := Aside0.mk (Kd.R_reads' h1).2.1
    obtain ⟨mA2, mc2, rfl⟩ := Kd.R_slice h2
    have mR2 := Aside0.mk h2
    have mL2 := Aside0.mk (Kd.R_reads' h2).2.1
    obtain ⟨mA3, mc3, rfl⟩ := Kd.R_slice h3
    have mR3 := Aside0.mk h3
    have mL3 := Aside0.mk (Kd.R_reads' h3).2.1
    clear h1 h2 h3
    obtain ⟨nA, hnnA⟩ : ∃ n, n = w4.heap.size := ⟨_, rfl⟩
    have tA := heap_alloc_new w4 (.cells #[.bool a, .slice mA1 l1.length mc1, .slice mA2 l2.length mc2, .slice mA3 l3.length mc3] 31)
    have hB := below_alloc (Below.refl w4.heap.size w4) (.cells #[.bool a, .slice mA1 l1.length mc1, .slice mA2 l2.length mc2, .slice mA3 l3.length mc3] 31)
    obtain ⟨w5, hwn⟩ : ∃ x, x = w4.alloc (.cells #[.bool a, .slice mA1 l1.length mc1, .slice mA2 l2.length mc2, .slice mA3 l3.length mc3] 31) := ⟨_, rfl⟩
    have HWNnA := Aside0.mk hwn
    rw [← hwn] at tA hB
    rw [← hnnA] at tA
    have TA := Aside0.mk tA
    have NnA := Aside0.mk hnnA
    clear tA hwn
    have B5 := Aside0.mk (B4.out.trans (hB.mono B4.out.size))
    replace b0 := nd_cell hB b0
    replace b1 := nd_cell hB b1
    replace b2 := nd_cell hB b2
    replace b3 := nd_cell hB b3
    replace R1 := Aside0.mk (Kd.C_below R1.out hB)
    replace R2 := Aside0.mk (Kd.C_below R2.out hB)
    replace R3 := Aside0.mk (Kd.C_below R3.out hB)
    replace mR1 := Aside0.mk (Kd.R_below mR1.out hB)
    replace mR2 := Aside0.mk (Kd.R_below mR2.out hB)
    replace mR3 := Aside0.mk (Kd.R_below mR3.out hB)
    clear hB
    go_wp2_with fail
    rw [← HWNnA.out]
    rw [← hnnA]
    clear hnnA
    have ca0 : w5.cell? ⟨nA, 0, none⟩ = some (.bool a) := blk_cell TA.out 0
    have ca1 : w5.cell? ⟨nA, 1, none⟩ = some (.slice mA1 l1.length mc1) := blk_cell TA.out 1
    have ca2 : w5.cell? ⟨nA, 2, none⟩ = some (.slice mA2 l2.length mc2) := blk_cell TA.out 2
    have ca3 : w5.cell? ⟨nA, 3, none⟩ = some (.slice mA3 l3.length mc3) := blk_cell TA.out 3
    have MK : Aside0 (∀ W, Below w5.heap.size w5 W → Below w5.heap.size w5 W ∧ W.cell? ⟨nA, 0, none⟩ = some (.bool a) ∧ W.cell? ⟨nA, 1, none⟩ = some (.slice mA1 l1.length mc1) ∧ W.cell? ⟨nA, 2, none⟩ = some (.slice mA2 l2.length mc2) ∧ W.cell? ⟨nA, 3, none⟩ = some (.slice mA3 l3.length mc3) ∧ W.cell? ⟨w.heap.size, 0, none⟩ = some (.bool a) ∧ W.cell? ⟨w.heap.size, 1, none⟩ = some (.slice A1 l1.length c1) ∧ W.cell? ⟨w.heap.size, 2, none⟩ = some (.slice A2 l2.length c2) ∧ W.cell? ⟨w.heap.size, 3, none⟩ = some (.slice A3 l3.length c3)) := ⟨fun W hb => ⟨hb, nd_cell hb ca0, nd_cell hb ca1, nd_cell hb ca2, nd_cell hb ca3, nd_cell hb b0, nd_cell hb b1, nd_cell hb b2, nd_cell hb b3⟩⟩
    clear ca0 ca1 ca2 ca3 b0 b1 b2 b3
    refine wp_region_held_drew (S := fun W => Below w5.heap.size w5 W ∧ W.cell? ⟨nA, 0, none⟩ = some (.bool a) ∧ W.cell? ⟨nA, 1, none⟩ = some (.slice mA1 l1.length mc1) ∧ W.cell? ⟨nA, 2, none⟩ = some (.slice mA2 l2.length mc2) ∧ W.cell? ⟨nA, 3, none⟩ = some (.slice mA3 l3.length mc3) ∧ W.cell? ⟨w.heap.size, 0, none⟩ = some (.bool a) ∧ W.cell? ⟨w.heap.size, 1, none⟩ = some (.slice A1 l1.length c1) ∧ W.cell? ⟨w.heap.size, 2, none⟩ = some (.slice A2 l2.length c2) ∧ W.cell? ⟨w.heap.size, 3, none⟩ = some (.slice A3 l3.length c3)) (by kernel_rfl) ?_ (fun hHeld => ?_)
    · try dsimp only
      first | exact MK.out _ (Below.drew (Below.refl _ _)) | exact MK.out _ SB1.out | assumption
    refine wpAnyH_take (i := 0) (oi := _) (v := _) rfl (by kernel_rfl) (by kernel_rfl) (by kernel_rfl) (fun _ _ _ h => h) (Or.inl ⟨by rfl, by (intro w hSw; (try dsimp only at hSw); go_simp; try with_reducible rfl)⟩) hHeld ?_
    simp only [Act.put, List.getElem_toArray, List.getElem_cons_zero, List.getElem_cons_succ, List.setIfInBounds_toArray, List.set_cons_zero, List.set_cons_succ]
    refine wpAnyH_take (i := 1) (oi := _) (v := _) rfl (by kernel_rfl) (by kernel_rfl) (by kernel_rfl) (fun _ _ _ h => h) (Or.inl ⟨by rfl, by (intro w hSw; (try dsimp only at hSw); go_simp; try with_reducible rfl)⟩) hHeld ?_
    simp only [Act.put, List.getElem_toArray, List.getElem_cons_zero, List.getElem_cons_succ, List.setIfInBounds_toArray, List.set_cons_zero, List.set_cons_succ]
    refine wpAnyH_take (i := 2) (oi := _) (v := _) rfl (by kernel_rfl) (by kernel_rfl) (by kernel_rfl) (fun _ _ _ h => h) (Or.inl ⟨by rfl, by (intro w hSw; (try dsimp only at hSw); go_simp; try with_reducible rfl)⟩) hHeld ?_
    simp only [Act.put, List.getElem_toArray, List.getElem_cons_zero, List.getElem_cons_succ, List.setIfInBounds_toArray, List.set_cons_zero, List.set_cons_succ]
    refine wpAnyH_take (i := 3) (oi := _) (v := _) rfl (by kernel_rfl) (by kernel_rfl) (by kernel_rfl) (fun _ _ _ h => h) (Or.inl ⟨by rfl, by (intro w hSw; (try dsimp only at hSw); go_simp; try with_reducible rfl)⟩) hHeld ?_
    simp only [Act.put, List.getElem_toArray, List.getElem_cons_zero, List.getElem_cons_succ, List.setIfInBounds_toArray, List.set_cons_zero, List.set_cons_succ]
    refine wpAnyH_take (i := 5) (oi := _) (v := _) rfl (by kernel_rfl) (by kernel_rfl) (by kernel_rfl) (fun _ _ _ h => h) (Or.inl ⟨by rfl, by (intro w hSw; (try dsimp only at hSw); go_simp; try with_reducible rfl)⟩) hHeld ?_
    simp only [Act.put, List.getElem_toArray, List.getElem_cons_zero, List.getElem_cons_succ, List.setIfInBounds_toArray, List.set_cons_zero, List.set_cons_succ]
    refine wpAnyH_ready (rs := [4]) (by kernel_rfl) (by simp) ?_
    refine AllReadyH.cons rfl (fun K hK => ?_) AllReadyH.nil
    go_simp
    refine (backW a mA1 _ mc1 mA2 _ mc2 mA3 _ mc3 _).mono ?_
    rintro e wa ⟨rfl, hb6⟩
    have SB1 : Aside0 (Below w5.heap.size w5 wa) := ⟨Below.trans hHeld.1 (hb6.mono hHeld.1.size)⟩
    clear hb6
    go_simp
    refine hK.out _ _ ?_ (fun hNew => ?_)
    · try dsimp only
      first | exact MK.out _ (Below.drew (Below.refl _ _)) | exact MK.out _ SB1.out | assumption
    clear hK K hHeld
    have hHeld := hNew
    clear hNew
    refine wpAnyH_ready (rs := [6]) (by kernel_rfl) (by simp) ?_
    refine AllReadyH.cons rfl (fun K hK => ?_) AllReadyH.nil
    go_simp
    refine (cisternref11_Same.calls KK a mA1 mc1 l1 mA2 mc2 l2 mA3 mc3 l3 a A1 c1 l1 A2 c2 l2 A3 c3 l3 true _ (Kd.C_below (Kd.R_reads' mR1.out).2.2 hHeld.1) mL1.out (Kd.C_below (Kd.R_reads' mR2.out).2.2 hHeld.1) mL2.out (Kd.C_below (Kd.R_reads' mR3.out).2.2 hHeld.1) mL3.out (Kd.C_below R1.out hHeld.1) hc1 (Kd.C_below R2.out hHeld.1) hc2 (Kd.C_below R3.out hHeld.1) hc3 SS.out).mono ?_
    rintro e wb ⟨rfl, hb6⟩
    have SB1 : Aside0 (Below w5.heap.size w5 wb) := ⟨Below.trans hHeld.1 (hb6.mono hHeld.1.size)⟩
    clear hb6
    go_simp
    refine hK.out _ _ ?_ (fun hNew => ?_)
    · try dsimp only
      first | exact MK.out _ (Below.drew (Below.refl _ _)) | exact MK.out _ SB1.out | assumption
    clear hK K hHeld
    have hHeld := hNew
    clear hNew
    refine wpAnyH_take (i := 7) (oi := _) (v := _) rfl (by kernel_rfl) (by kernel_rfl) (by kernel_rfl) (fun _ _ _ h => h) (Or.inl ⟨by rfl, by (intro w hSw; (try dsimp only at hSw); go_simp; try with_reducible rfl)⟩) hHeld ?_
    simp only [Act.put, List.getElem_toArray, List.getElem_cons_zero, List.getElem_cons_succ, List.setIfInBounds_toArray, List.set_cons_zero, List.set_cons_succ]
    refine wpAnyH_take (i := 8) (oi := _) (v := _) rfl (by kernel_rfl) (by kernel_rfl) (by kernel_rfl) (fun _ _ _ h => h) (Or.inl ⟨by rfl, by (intro w hSw; (try dsimp only at hSw); go_simp; try with_reducible rfl)⟩) hHeld ?_
    simp only [Act.put, List.getElem_toArray, List.getElem_cons_zero, List.getElem_cons_succ, List.setIfInBounds_toArray, List.set_cons_zero, List.set_cons_succ]
    refine wpAnyH_take (i := 9) (oi := _) (v := _) rfl (by kernel_rfl) (by kernel_rfl) (by kernel_rfl) (fun _ _ _ h => h) (Or.inl ⟨by rfl, by (intro w hSw; (try dsimp only at hSw); go_simp; try with_reducible rfl)⟩) hHeld ?_
    simp only [Act.put, List.getElem_toArray, List.getElem_cons_zero, List.getElem_cons_succ, List.setIfInBounds_toArray, List.set_cons_zero, List.set_cons_succ]
    refine wpAnyH_take (i := 10) (oi := _) (v := _) rfl (by kernel_rfl) (by kernel_rfl) (by kernel_rfl) (fun _ _ _ h => h) (Or.inl ⟨by rfl, by (intro w hSw; (try dsimp only at hSw); go_simp; try with_reducible rfl)⟩) hHeld ?_
    simp only [Act.put, List.getElem_toArray, List.getElem_cons_zero, List.getElem_cons_succ, List.setIfInBounds_toArray, List.set_cons_zero, List.set_cons_succ]
    refine wpAnyH_take (i := 11) (oi := _) (v := _) rfl (by kernel_rfl) (by kernel_rfl) (by kernel_rfl) (fun _ _ _ h => h) (Or.inl ⟨by rfl, by (intro w hSw; (try dsimp only at hSw); go_simp; try with_reducible rfl)⟩) hHeld ?_
    simp only [Act.put, List.getElem_toArray, List.getElem_cons_zero, List.getElem_cons_succ, List.setIfInBounds_toArray, List.set_cons_zero, List.set_cons_succ]
    refine wpAnyH_take (i := 12) (oi := _) (v := _) rfl (by kernel_rfl) (by kernel_rfl) (by kernel_rfl) (fun _ _ _ h => h) (Or.inl ⟨by rfl, by (intro w hSw; (try dsimp only at hSw); go_simp; try with_reducible rfl)⟩) hHeld ?_
    simp only [Act.put, List.getElem_toArray, List.getElem_cons_zero, List.getElem_cons_succ, List.setIfInBounds_toArray, List.set_cons_zero, List.set_cons_succ]
    refine wpAnyH_ready (rs := [13]) (by kernel_rfl) (by simp) ?_
    refine AllReadyH.cons rfl (fun K hK => ?_) AllReadyH.nil
    go_simp
    refine (cisternlaw11_of.calls a A1 c1 l1 A2 c2 l2 A3 c3 l3 a l1 l2 l3 _ (Kd.C_below R1.out hHeld.1) hc1 (Kd.C_below R2.out hHeld.1) hc2 (Kd.C_below R3.out hHeld.1) hc3 OF.out).mono ?_
    rintro e wc ⟨v1, v2, v3, rfl, h1, h2, h3, hb6⟩
    obtain ⟨uA1, uc1, rfl⟩ := Kd.R_slice h1
    have uR1 := Aside0.mk h1
    have uL1 := Aside0.mk (Kd.R_reads' h1).2.1
    obtain ⟨uA2, uc2, rfl⟩ := Kd.R_slice h2
    have uR2 := Aside0.mk h2
    have uL2 := Aside0.mk (Kd.R_reads' h2).2.1
    obtain ⟨uA3, uc3, rfl⟩ := Kd.R_slice h3
    have uR3 := Aside0.mk h3
    have uL3 := Aside0.mk (Kd.R_reads' h3).2.1
    clear h1 h2 h3
    have SB1 : Aside0 (Below w5.heap.size w5 wc) := ⟨Below.trans hHeld.1 (hb6.mono hHeld.1.size)⟩
    clear hb6
    go_simp
    refine hK.out _ _ ?_ (fun hNew => ?_)
    · try dsimp only
      first | exact MK.out _ (Below.drew (Below.refl _ _)) | exact MK.out _ SB1.out | assumption
    clear hK K hHeld
    have hHeld := hNew
    clear hNew
    refine wpAnyH_ready (rs := [14]) (by kernel_rfl) (by simp) ?_
    refine AllReadyH.cons rfl (fun K hK => ?_) AllReadyH.nil
    go_simp
    refine (node_Size.calls KK a uA1 uc1 l1 uA2 uc2 l2 uA3 uc3 l3 (p.size : Int) _ (Kd.R_reads' uR1.out).2.2 uL1.out (Kd.R_reads' uR2.out).2.2 uL2.out (Kd.R_reads' uR3.out).2.2 uL3.out SZ.out).mono ?_
    rintro e wd ⟨rfl, hb6⟩
    clear uR1 uR2 uR3 uL1 uL2 uL3
    have SB1 : Aside0 (Below w5.heap.size w5 wd) := ⟨Below.trans hHeld.1 (hb6.mono hHeld.1.size)⟩
    clear hb6
    go_simp
    refine hK.out _ _ ?_ (fun hNew => ?_)
    · try dsimp only
      first | exact MK.out _ (Below.drew (Below.refl _ _)) | exact MK.out _ SB1.out | assumption
    clear hK K hHeld
    have hHeld := hNew
    clear hNew
    refine wpAnyH_take (i := 15) (oi := _) (v := _) rfl (by kernel_rfl) (by kernel_rfl) (by kernel_rfl) (fun _ _ _ h => h) (Or.inl ⟨by rfl, by (intro w hSw; (try dsimp only at hSw); go_simp; try with_reducible rfl)⟩) hHeld ?_
    simp only [Act.put, List.getElem_toArray, List.getElem_cons_zero, List.getElem_cons_succ, List.setIfInBounds_toArray, List.set_cons_zero, List.set_cons_succ]
    refine wpAnyH_take (i := 16) (oi := _) (v := _) rfl (by kernel_rfl) (by kernel_rfl) (by kernel_rfl) (fun _ _ _ h => h) (Or.inl ⟨by rfl, by (intro w hSw; (try dsimp only at hSw); go_simp; try with_reducible rfl)⟩) hHeld ?_
    simp only [Act.put, List.getElem_toArray, List.getElem_cons_zero, List.getElem_cons_succ, List.setIfInBounds_toArray, List.set_cons_zero, List.set_cons_succ]
    refine wpAnyH_take (i := 17) (oi := _) (v := _) rfl (by kernel_rfl) (by kernel_rfl) (by kernel_rfl) (fun _ _ _ h => h) (Or.inl ⟨by rfl, by (intro w hSw; (try dsimp only at hSw); go_simp; try with_reducible rfl)⟩) hHeld ?_
    simp only [Act.put, List.getElem_toArray, List.getElem_cons_zero, List.getElem_cons_succ, List.setIfInBounds_toArray, List.set_cons_zero, List.set_cons_succ]
    refine wpAnyH_take (i := 18) (oi := _) (v := _) rfl (by kernel_rfl) (by kernel_rfl) (by kernel_rfl) (fun _ _ _ h => h) (Or.inl ⟨by rfl, by (intro w hSw; (try dsimp only at hSw); go_simp; try with_reducible rfl)⟩) hHeld ?_
    simp only [Act.put, List.getElem_toArray, List.getElem_cons_zero, List.getElem_cons_succ, List.setIfInBounds_toArray, List.set_cons_zero, List.set_cons_succ]
    refine wpAnyH_ready (rs := [19]) (by kernel_rfl) (by simp) ?_
    refine AllReadyH.cons rfl (fun K hK => ?_) AllReadyH.nil
    go_simp
    refine (cisternlaw11_of.calls a A1 c1 l1 A2 c2 l2 A3 c3 l3 a l1 l2 l3 _ (Kd.C_below R1.out hHeld.1) hc1 (Kd.C_below R2.out hHeld.1) hc2 (Kd.C_below R3.out hHeld.1) hc3 OF.out).mono ?_
    rintro e wx ⟨v1, v2, v3, rfl, h1, h2, h3, hb6⟩
    obtain ⟨yA1, yc1, rfl⟩ := Kd.R_slice h1
    have yR1 := Aside0.mk h1
    have yL1 := Aside0.mk (Kd.R_reads' h1).2.1
    obtain ⟨yA2, yc2, rfl⟩ := Kd.R_slice h2
    have yR2 := Aside0.mk h2
    have yL2 := Aside0.mk (Kd.R_reads' h2).2.1
    obtain ⟨yA3, yc3, rfl⟩ := Kd.R_slice h3
    have yR3 := Aside0.mk h3
    have yL3 := Aside0.mk (Kd.R_reads' h3).2.1
    clear h1 h2 h3
    have SB1 : Aside0 (Below w5.heap.size w5 wx) := ⟨Below.trans hHeld.1 (hb6.mono hHeld.1.size)⟩
    clear hb6
    go_simp
    refine hK.out _ _ ?_ (fun hNew => ?_)
    · try dsimp only
      first | exact MK.out _ (Below.drew (Below.refl _ _)) | exact MK.out _ SB1.out | assumption
    clear hK K hHeld
    have hHeld := hNew
    clear hNew
    refine wpAnyH_ready (rs := [20]) (by kernel_rfl) (by simp) ?_
    refine AllReadyH.cons rfl (fun K hK => ?_) AllReadyH.nil
    go_simp
    refine (node_Check.calls a yA1 yc1 l1 yA2 yc2 l2 yA3 yc3 l3 0 _ (Kd.R_reads' yR1.out).2.2 yL1.out (Kd.R_reads' yR2.out).2.2 yL2.out (Kd.R_reads' yR3.out).2.2 yL3.out CE.out).mono ?_
    rintro e w6 ⟨rfl, hb6⟩
    clear yR1 yR2 yR3 yL1 yL2 yL3
    have SB1 : Aside0 (Below w5.heap.size w5 w6) := ⟨Below.trans hHeld.1 (hb6.mono hHeld.1.size)⟩
    clear hb6
    go_simp
    refine hK.out _ _ ?_ (fun hNew => ?_)
    · try dsimp only
      first | exact MK.out _ (Below.drew (Below.refl _ _)) | exact MK.out _ SB1.out | assumption
    clear hK K hHeld
    have hHeld := hNew
    clear hNew
    refine wpAnyH_take (i := 21) (oi := _) (v := _) rfl (by kernel_rfl) (by kernel_rfl) (by kernel_rfl) (fun _ _ _ h => h) (Or.inl ⟨by rfl, by (intro w hSw; (try dsimp only at hSw); go_simp; try with_reducible rfl)⟩) hHeld ?_
    simp only [Act.put, List.getElem_toArray, List.getElem_cons_zero, List.getElem_cons_succ, List.setIfInBounds_toArray, List.set_cons_zero, List.set_cons_succ]
    refine wpAnyH_take (i := 22) (oi := _) (v := _) rfl (by kernel_rfl) (by kernel_rfl) (by kernel_rfl) (fun _ _ _ h => h) (Or.inl ⟨by rfl, by (intro w hSw; (try dsimp only at hSw); go_simp; try with_reducible rfl)⟩) hHeld ?_
    simp only [Act.put, List.getElem_toArray, List.getElem_cons_zero, List.getElem_cons_succ, List.setIfInBounds_toArray, List.set_cons_zero, List.set_cons_succ]
    refine wpAnyH_done (by kernel_rfl) ?_ _
    have hB := hHeld.1
    clear hHeld MK SB1
    have B6 := Aside0.mk (B5.out.trans (hB.mono B5.out.size))
    clear hB
    clear mR1 mR2 mR3 mL1 mL2 mL3 R1 R2 R3 TA SS SZ CE EE DE OF
    rcases dec_cases s with hd | ⟨x0, x1, x2, x3, hd, hx, hsz, hs⟩
    · have DX : Aside0 (node_Decode.f s = some (false, [], [], [], 2)) := ⟨by unfold node_Decode.f; rw [hd]⟩
      clear hd
      go_wp2_with fail
      refine (node_Decode.calls s false [] [] [] 2 _ DX.out).mono ?_
      rintro e w7 ⟨v1, v2, v3, rfl, h1, h2, h3, hB⟩
      have B7 := Aside0.mk (B6.out.trans (hB.mono B6.out.size))
      clear hB
      obtain ⟨dA1, dc1, rfl⟩ := Kd.R_slice h1
      have dR1 := Aside0.mk h1
      have dL1 := Aside0.mk (Kd.R_reads' h1).2.1
      obtain ⟨dA2, dc2, rfl⟩ := Kd.R_slice h2
      have dR2 := Aside0.mk h2
      have dL2 := Aside0.mk (Kd.R_reads' h2).2.1
      obtain ⟨dA3, dc3, rfl⟩ := Kd.R_slice h3
      have dR3 := Aside0.mk h3
      have dL3 := Aside0.mk (Kd.R_reads' h3).2.1
      clear h1 h2 h3
      obtain ⟨nB, hnnB⟩ : ∃ n, n = w7.heap.size := ⟨_, rfl⟩
      have tA := heap_alloc_new w7 (.cells #[.bool false, .slice dA1 0 dc1, .slice dA2 0 dc2, .slice dA3 0 dc3] 31)
      have hB := below_alloc (Below.refl w7.heap.size w7) (.cells #[.bool false, .slice dA1 0 dc1, .slice dA2 0 dc2, .slice dA3 0 dc3] 31)
      obtain ⟨w8, hwn⟩ : ∃ x, x = w7.alloc (.cells #[.bool false, .slice dA1 0 dc1, .slice dA2 0 dc2, .slice dA3 0 dc3] 31) := ⟨_, rfl⟩
      have HWNnB := Aside0.mk hwn
      rw [← hwn] at tA hB
      rw [← hnnB] at tA
      have TB := Aside0.mk tA
      have NnB := Aside0.mk hnnB
      clear tA hwn
      have B8 := Aside0.mk (B7.out.trans (hB.mono B7.out.size))
      replace dR1 := Aside0.mk (Kd.R_below dR1.out hB)
      replace dR2 := Aside0.mk (Kd.R_below dR2.out hB)
      replace dR3 := Aside0.mk (Kd.R_below dR3.out hB)
      clear hB
      go_wp2_with fail
      rw [← HWNnB.out]
      rw [← hnnB]
      clear hnnB
      refine (backW false dA1 _ dc1 dA2 _ dc2 dA3 _ dc3 _).mono ?_
      rintro e w9 ⟨rfl, hB⟩
      have B9 := Aside0.mk (B8.out.trans (hB.mono B8.out.size))
      replace TB := Aside0.mk ((hB.block _ (blk_lt TB.out)).trans TB.out)
      replace dR1 := Aside0.mk (Kd.R_below dR1.out hB)
      replace dR2 := Aside0.mk (Kd.R_below dR2.out hB)
      replace dR3 := Aside0.mk (Kd.R_below dR3.out hB)
      clear hB
      go_wp2_with fail
      refine (cisternref11_Same.calls KK false dA1 dc1 [] dA2 dc2 [] dA3 dc3 [] false none 0 [] none 0 [] none 0 [] true _ (Kd.R_reads' dR1.out).2.2 dL1.out (Kd.R_reads' dR2.out).2.2 dL2.out (Kd.R_reads' dR3.out).2.2 dL3.out ⟨rfl, by decide, fun h => absurd h (by decide)⟩ (Nat.le_refl _) ⟨rfl, by decide, fun h => absurd h (by decide)⟩ (Nat.le_refl _) ⟨rfl, by decide, fun h => absurd h (by decide)⟩ (Nat.le_refl _) S0S.out).mono ?_
      rintro e w10 ⟨rfl, hB⟩
      have B10 := Aside0.mk (B9.out.trans (hB.mono B9.out.size))
      replace TB := Aside0.mk ((hB.block _ (blk_lt TB.out)).trans TB.out)
      replace dR1 := Aside0.mk (Kd.R_below dR1.out hB)
      replace dR2 := Aside0.mk (Kd.R_below dR2.out hB)
      replace dR3 := Aside0.mk (Kd.R_below dR3.out hB)
      clear hB
      go_wp2
      go_ret
      exact ⟨rfl, B10.out⟩
    · have DX : Aside0 (node_Decode.f s = some (x0, x1, x2, x3, 0)) := ⟨by unfold node_Decode.f; rw [hd]⟩
      have EX : Aside0 (node_Encode.f x0 x1 x2 x3 = some (s, 0)) := ⟨by unfold node_Encode.f; rw [if_pos hx, if_pos hsz]; exact congrArg (fun p => some (p, (0 : Int))) hs.symm⟩
      clear hd hx hsz hs
      go_wp2_with fail
      refine (node_Decode.calls s x0 x1 x2 x3 0 _ DX.out).mono ?_
      rintro e w7 ⟨v1, v2, v3, rfl, h1, h2, h3, hB⟩
      have B7 := Aside0.mk (B6.out.trans (hB.mono B6.out.size))
      clear hB
      obtain ⟨dA1, dc1, rfl⟩ := Kd.R_slice h1
      have dR1 := Aside0.mk h1
      have dL1 := Aside0.mk (Kd.R_reads' h1).2.1
      obtain ⟨dA2, dc2, rfl⟩ := Kd.R_slice h2
      have dR2 := Aside0.mk h2
      have dL2 := Aside0.mk (Kd.R_reads' h2).2.1
      obtain ⟨dA3, dc3, rfl⟩ := Kd.R_slice h3
      have dR3 := Aside0.mk h3
      have dL3 := Aside0.mk (Kd.R_reads' h3).2.1
      clear h1 h2 h3
      obtain ⟨nB, hnnB⟩ : ∃ n, n = w7.heap.size := ⟨_, rfl⟩
      have tA := heap_alloc_new w7 (.cells #[.bool x0, .slice dA1 x1.length dc1, .slice dA2 x2.length dc2, .slice dA3 x3.length dc3] 31)
      have hB := below_alloc (Below.refl w7.heap.size w7) (.cells #[.bool x0, .slice dA1 x1.length dc1, .slice dA2 x2.length dc2, .slice dA3 x3.length dc3] 31)
      obtain ⟨w8, hwn⟩ : ∃ x, x = w7.alloc (.cells #[.bool x0, .slice dA1 x1.length dc1, .slice dA2 x2.length dc2, .slice dA3 x3.length dc3] 31) := ⟨_, rfl⟩
      have HWNnB := Aside0.mk hwn
      rw [← hwn] at tA hB
      rw [← hnnB] at tA
      have TB := Aside0.mk tA
      have NnB := Aside0.mk hnnB
      clear tA hwn
      have B8 := Aside0.mk (B7.out.trans (hB.mono B7.out.size))
      replace dR1 := Aside0.mk (Kd.R_below dR1.out hB)
      replace dR2 := Aside0.mk (Kd.R_below dR2.out hB)
      replace dR3 := Aside0.mk (Kd.R_below dR3.out hB)
      clear hB
      go_wp2_with fail
      rw [← HWNnB.out]
      rw [← hnnB]
      clear hnnB
      refine (node_Encode.calls x0 dA1 dc1 x1 dA2 dc2 x2 dA3 dc3 x3 s 0 _ (Kd.R_reads' dR1.out).2.2 dL1.out (Kd.R_reads' dR2.out).2.2 dL2.out (Kd.R_reads' dR3.out).2.2 dL3.out EX.out).mono ?_
      rintro e w9 ⟨rfl, hB⟩
      have B9 := Aside0.mk (B8.out.trans (hB.mono B8.out.size))
      replace TB := Aside0.mk ((hB.block _ (blk_lt TB.out)).trans TB.out)
      replace dR1 := Aside0.mk (Kd.R_below dR1.out hB)
      replace dR2 := Aside0.mk (Kd.R_below dR2.out hB)
      replace dR3 := Aside0.mk (Kd.R_below dR3.out hB)
      clear hB
      go_wp2
      go_ret
      exact ⟨rfl, B9.out⟩
  · obtain ⟨pe, ee, hE, hne⟩ : ∃ (pe : ByteArray) (ee : Int), node_Encode.f a l1 l2 l3 = some (pe, ee) ∧ ee ≠ 0 := by
      unfold node_Encode.f
      by_cases h : (leafV a l1 l2 l3 || innerV a l1 l2 l3) = true
      · rw [if_pos h, if_neg (fun h2 => hgood ⟨h, h2⟩)]
        exact ⟨_, _, rfl, by decide⟩
      · rw [if_neg h]
        exact ⟨_, _, rfl, by decide⟩
    have EE := Aside0.mk hE
    have e0 : (ee == 0) = false := beq_eq_false_iff_ne.2 hne
    clear hE hne hgood
    go_wp2_with fail
    refine (node_Encode.calls a oA1 oc1 l1 oA2 oc2 l2 oA3 oc3 l3 pe ee _ (Kd.R_reads' oR1.out).2.2 oL1.out (Kd.R_reads' oR2.out).2.2 oL2.out (Kd.R_reads' oR3.out).2.2 oL3.out EE.out).mono ?_
    rintro e w3 ⟨rfl, hB⟩
    have B3 := Aside0.mk (B2.out.trans (hB.mono B2.out.size))
    replace b0 := nd_cell hB b0
    replace b1 := nd_cell hB b1
    replace b2 := nd_cell hB b2
    replace b3 := nd_cell hB b3
    replace R1 := Aside0.mk (Kd.C_below R1.out hB)
    replace R2 := Aside0.mk (Kd.C_below R2.out hB)
    replace R3 := Aside0.mk (Kd.C_below R3.out hB)
    clear hB
    clear oR1 oR2 oR3 oL1 oL2 oL3 R1 R2 R3 b0 b1 b2 b3
    rcases dec_cases s with hd | ⟨x0, x1, x2, x3, hd, hx, hsz, hs⟩
    · have DX : Aside0 (node_Decode.f s = some (false, [], [], [], 2)) := ⟨by unfold node_Decode.f; rw [hd]⟩
      clear hd
      go_wp2_with fail
      refine (node_Decode.calls s false [] [] [] 2 _ DX.out).mono ?_
      rintro e w4 ⟨v1, v2, v3, rfl, h1, h2, h3, hB⟩
      have B4 := Aside0.mk (B3.out.trans (hB.mono B3.out.size))
      clear hB
      obtain ⟨dA1, dc1, rfl⟩ := Kd.R_slice h1
      have dR1 := Aside0.mk h1
      have dL1 := Aside0.mk (Kd.R_reads' h1).2.1
      obtain ⟨dA2, dc2, rfl⟩ := Kd.R_slice h2
      have dR2 := Aside0.mk h2
      have dL2 := Aside0.mk (Kd.R_reads' h2).2.1
      obtain ⟨dA3, dc3, rfl⟩ := Kd.R_slice h3
      have dR3 := Aside0.mk h3
      have dL3 := Aside0.mk (Kd.R_reads' h3).2.1
      clear h1 h2 h3
      obtain ⟨nB, hnnB⟩ : ∃ n, n = w4.heap.size := ⟨_, rfl⟩
      have tA := heap_alloc_new w4 (.cells #[.bool false, .slice dA1 0 dc1, .slice dA2 0 dc2, .slice dA3 0 dc3] 31)
      have hB := below_alloc (Below.refl w4.heap.size w4) (.cells #[.bool false, .slice dA1 0 dc1, .slice dA2 0 dc2, .slice dA3 0 dc3] 31)
      obtain ⟨w5, hwn⟩ : ∃ x, x = w4.alloc (.cells #[.bool false, .slice dA1 0 dc1, .slice dA2 0 dc2, .slice dA3 0 dc3] 31) := ⟨_, rfl⟩
      have HWNnB := Aside0.mk hwn
      rw [← hwn] at tA hB
      rw [← hnnB] at tA
      have TB := Aside0.mk tA
      have NnB := Aside0.mk hnnB
      clear tA hwn
      have B5 := Aside0.mk (B4.out.trans (hB.mono B4.out.size))
      replace dR1 := Aside0.mk (Kd.R_below dR1.out hB)
      replace dR2 := Aside0.mk (Kd.R_below dR2.out hB)
      replace dR3 := Aside0.mk (Kd.R_below dR3.out hB)
      clear hB
      go_wp2_with fail
      rw [← HWNnB.out]
      rw [← hnnB]
      clear hnnB
      refine (backW false dA1 _ dc1 dA2 _ dc2 dA3 _ dc3 _).mono ?_
      rintro e w6 ⟨rfl, hB⟩
      have B6 := Aside0.mk (B5.out.trans (hB.mono B5.out.size))
      replace TB := Aside0.mk ((hB.block _ (blk_lt TB.out)).trans TB.out)
      replace dR1 := Aside0.mk (Kd.R_below dR1.out hB)
      replace dR2 := Aside0.mk (Kd.R_below dR2.out hB)
      replace dR3 := Aside0.mk (Kd.R_below dR3.out hB)
      clear hB
      go_wp2_with fail
      refine (cisternref11_Same.calls KK false dA1 dc1 [] dA2 dc2 [] dA3 dc3 [] false none 0 [] none 0 [] none 0 [] true _ (Kd.R_reads' dR1.out).2.2 dL1.out (Kd.R_reads' dR2.out).2.2 dL2.out (Kd.R_reads' dR3.out).2.2 dL3.out ⟨rfl, by decide, fun h => absurd h (by decide)⟩ (Nat.le_refl _) ⟨rfl, by decide, fun h => absurd h (by decide)⟩ (Nat.le_refl _) ⟨rfl, by decide, fun h => absurd h (by decide)⟩ (Nat.le_refl _) S0S.out).mono ?_
      rintro e w7 ⟨rfl, hB⟩
      have B7 := Aside0.mk (B6.out.trans (hB.mono B6.out.size))
      replace TB := Aside0.mk ((hB.block _ (blk_lt TB.out)).trans TB.out)
      replace dR1 := Aside0.mk (Kd.R_below dR1.out hB)
      replace dR2 := Aside0.mk (Kd.R_below dR2.out hB)
      replace dR3 := Aside0.mk (Kd.R_below dR3.out hB)
      clear hB
      go_wp2
      go_ret
      exact ⟨rfl, B7.out⟩
    · have DX : Aside0 (node_Decode.f s = some (x0, x1, x2, x3, 0)) := ⟨by unfold node_Decode.f; rw [hd]⟩
      have EX : Aside0 (node_Encode.f x0 x1 x2 x3 = some (s, 0)) := ⟨by unfold node_Encode.f; rw [if_pos hx, if_pos hsz]; exact congrArg (fun p => some (p, (0 : Int))) hs.symm⟩
      clear hd hx hsz hs
      go_wp2_with fail
      refine (node_Decode.calls s x0 x1 x2 x3 0 _ DX.out).mono ?_
      rintro e w4 ⟨v1, v2, v3, rfl, h1, h2, h3, hB⟩
      have B4 := Aside0.mk (B3.out.trans (hB.mono B3.out.size))
      clear hB
      obtain ⟨dA1, dc1, rfl⟩ := Kd.R_slice h1
      have dR1 := Aside0.mk h1
      have dL1 := Aside0.mk (Kd.R_reads' h1).2.1
      obtain ⟨dA2, dc2, rfl⟩ := Kd.R_slice h2
      have dR2 := Aside0.mk h2
      have dL2 := Aside0.mk (Kd.R_reads' h2).2.1
      obtain ⟨dA3, dc3, rfl⟩ := Kd.R_slice h3
      have dR3 := Aside0.mk h3
      have dL3 := Aside0.mk (Kd.R_reads' h3).2.1
      clear h1 h2 h3
      obtain ⟨nB, hnnB⟩ : ∃ n, n = w4.heap.size := ⟨_, rfl⟩
      have tA := heap_alloc_new w4 (.cells #[.bool x0, .slice dA1 x1.length dc1, .slice dA2 x2.length dc2, .slice dA3 x3.length dc3] 31)
      have hB := below_alloc (Below.refl w4.heap.size w4) (.cells #[.bool x0, .slice dA1 x1.length dc1, .slice dA2 x2.length dc2, .slice dA3 x3.length dc3] 31)
      obtain ⟨w5, hwn⟩ : ∃ x, x = w4.alloc (.cells #[.bool x0, .slice dA1 x1.length dc1, .slice dA2 x2.length dc2, .slice dA3 x3.length dc3] 31) := ⟨_, rfl⟩
      have HWNnB := Aside0.mk hwn
      rw [← hwn] at tA hB
      rw [← hnnB] at tA
      have TB := Aside0.mk tA
      have NnB := Aside0.mk hnnB
      clear tA hwn
      have B5 := Aside0.mk (B4.out.trans (hB.mono B4.out.size))
      replace dR1 := Aside0.mk (Kd.R_below dR1.out hB)
      replace dR2 := Aside0.mk (Kd.R_below dR2.out hB)
      replace dR3 := Aside0.mk (Kd.R_below dR3.out hB)
      clear hB
      go_wp2_with fail
      rw [← HWNnB.out]
      rw [← hnnB]
      clear hnnB
      refine (node_Encode.calls x0 dA1 dc1 x1 dA2 dc2 x2 dA3 dc3 x3 s 0 _ (Kd.R_reads' dR1.out).2.2 dL1.out (Kd.R_reads' dR2.out).2.2 dL2.out (Kd.R_reads' dR3.out).2.2 dL3.out EX.out).mono ?_
      rintro e w6 ⟨rfl, hB⟩
      have B6 := Aside0.mk (B5.out.trans (hB.mono B5.out.size))
      replace TB := Aside0.mk ((hB.block _ (blk_lt TB.out)).trans TB.out)
      replace dR1 := Aside0.mk (Kd.R_below dR1.out hB)
      replace dR2 := Aside0.mk (Kd.R_below dR2.out hB)
      replace dR3 := Aside0.mk (Kd.R_below dR3.out hB)
      clear hB
      go_wp2
      go_ret
      exact ⟨rfl, B6.out⟩
end
end Go.Proofs.Ytjjfeoigjhbbpaa.PA
