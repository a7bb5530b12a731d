-- Laid by a program of this work over the seat's translation.
import Derived.Test.YtgjhhbljbnbjkaaDoorPAx0
namespace Go.Proofs.YtgjhhbljbnbjkaaDoor.PA
open Go.RowKit Go.Proofs.YtgjhhbljbnbjkaaDoorW.PrintWords Go.Proofs.YtgjhhbljbnbjkaaDoorW.PrintLast Go.Proofs.YtgjhhbljbnbjkaaDoorW.PrintMore
attribute [local go_sem] max2_int min2_int max_two min_two max_three min_three max_four min_four   -- for this text's walks alone
set_option linter.unusedVariables false
set_option linter.unusedSimpArgs false

/-! ### pack_check: function 23 (by hand) -/
section
variable {P : Program} {ops : Array Oper} {rest : List Oper} {o : Oper} {a : Act} {Q : Exit → Act → World → Prop} {Kc : Act → World → Prop}
/-- append(v, s...), s a string, as one step of a region that draws its order. -/
theorem R_append_str_step {w0 W : World} (base : Nat) (hw : Region.wanted o (yielded ops a.tmps) = true) (s x : Operand) (t u e : TypeId)
    (ho : o.op = .call { callee := .builtin .append, args := #[s, x], argTypes := #[t, u] })
    (ht : P.underlying t = some (.slice e)) (hu : P.underlying u = some .string) (hinfo : (P.info? e).map (fun i => (i.zero, i.size, i.bytes)) = some (some (.int .u8 0), 1, 1))
    (v : Value) (xs : List Int) (y : ByteArray) (hs : a.eval s = v) (hx : a.eval x = .string y)
    (HO : (Kd.int .u8).R e W base (fun _ => True) v xs) (HB : Below base w0 W) (hbase : base ≤ W.heap.size) (hl : xs.length + y.size ≤ 140737488355328)
    (h : ∀ v1 w1, (Kd.int .u8).R e w1 base (fun _ => True) v1 (xs ++ bytesOf y) → Below base w0 w1 → W.grownBy w1 v.ownBlock → Kc (a.put o.dst v1) w1) :
    if Region.wanted o (yielded ops a.tmps) = true then Oper.wp P o a W Kc Q else Kc (a.put o.dst undef) W := by
  obtain ⟨i0, hi, hzz⟩ := Option.map_eq_some_iff.1 hinfo
  simp only [Prod.mk.injEq] at hzz
  obtain ⟨hz0, hz1, hz2⟩ := hzz
  rw [if_pos hw]
  obtain ⟨v1, w1, hr, hown, hg, _⟩ := Lib.run_append_own_string (P := P) (w := W) base t u o.type e i0 ht hu hi hz0 hz1 hz2 v xs.length (encs (Value.int .u8) xs) (Kd.own_of_R HO) y (by simp only [maxLen]; omega) hl hbase
  unfold Oper.wp execOp
  simp only [ho, resolve, invoke, builtin, Sem.run_bind, Sem.run_pure, Result.andThen_ok, List.map_toArray, List.map_cons, List.map_nil, hs, hx, hr]
  refine h v1 w1 (Kd.R_of_own ?_ (fun _ _ => trivial)) (HB.grown hg hbase (own_base (Kd.own_of_R HO))) hg
  have hl2 : (xs ++ bytesOf y).length = xs.length + y.size := by rw [List.length_append, bytesOf_length]
  have hc : encs (Value.int .u8) (xs ++ bytesOf y) = encs (Value.int .u8) xs ++ Lib.strCells y := by
    simp [encs, bytesOf, Lib.strCells]
  rw [hl2, hc]
  exact hown
end
theorem bytesOf_strOfNums (l : List Int) (h : ∀ b ∈ l, 0 ≤ b ∧ b ≤ 255) : bytesOf (strOfNums l) = l := by
  unfold bytesOf strOfNums
  simp only [List.toList_toArray, List.map_map]
  conv => rhs; rw [← List.map_id l]
  refine List.map_congr_left (fun b hb => ?_)
  have := h b hb
  simp only [Function.comp, UInt8.toNat_ofNat', id]
  omega
theorem size_strOfNums (l : List Int) : (strOfNums l).size = l.length := by
  unfold strOfNums
  simp [ByteArray.size]
/-- A literal of one byte, new. -/
theorem lit_new (W : World) (x : Int) (e : TypeId) (q : Nat) (hq : q = W.heap.size) : (Kd.int .u8).C (W.alloc (.cells #[.int .u8 x] e)) (some ⟨q, 0, none⟩) 1 [x] := by
  subst hq
  refine ⟨rfl, by omega, fun _ => ⟨_, rfl, fun j p hj => ?_⟩⟩
  cases j with
  | zero =>
    cases hj
    refine ⟨[.int .u8 x], rfl, rfl, fun i u hu => ?_⟩
    cases i with
    | zero =>
      cases hu
      show (W.alloc (.cells #[.int .u8 x] e)).cell? ⟨W.heap.size, 0, none⟩ = _
      have hh : (W.alloc (.cells #[.int .u8 x] e)).heap[W.heap.size]? = some (.cells #[.int .u8 x] e) := heap_alloc_new W _
      simp only [World.cell?, hh]
      rfl
    | succ i => simp at hu
  | succ j => simp at hj
theorem add_block (ad : Addr) (n : Nat) : (ad.add n).block = ad.block := by
  unfold Addr.add
  split <;> rfl
theorem box_grown {W w2 : World} {row : Option Nat} {cs : Array Value} {t : TypeId} (hg : (W.alloc (.cells cs t)).grownBy w2 row) (hr : ∀ k, row = some k → k < W.heap.size) : w2.heap[W.heap.size]? = some (.cells cs t) := by
  rw [hg.block W.heap.size (by simp) (fun e => by have := hr _ e.symm; omega)]
  exact heap_alloc_new W _
theorem cell_blk {w : World} {g : Nat} {cs : Array Value} {t : TypeId} {fr : Nat × Nat} (h : w.heap[g]? = some (.cells cs t fr)) (j : Nat) : w.cell? ⟨g, j, none⟩ = cs[j]? := by
  simp [World.cell?, h]
theorem kept_blk {w w' : World} {S : Nat → Prop} {g : Nat} {o : Obj} (h : Kept w w' S) (hb : w.heap[g]? = some o) (hs : ¬ S g) : w'.heap[g]? = some o := by
  have hl : g < w.heap.size := (Array.getElem?_eq_some_iff.1 hb).1
  rw [h.2 g hl hs]
  exact hb
theorem grown_blk {w w' : World} {row : Option Nat} {g : Nat} {o : Obj} (h : w.grownBy w' row) (hb : w.heap[g]? = some o) (hr : some g ≠ row) : w'.heap[g]? = some o := by
  rw [h.block g (Array.getElem?_eq_some_iff.1 hb).1 hr]
  exact hb
/-- A row of bytes, new, whatever its mark. -/
theorem bytes_new (W : World) (xs : List Int) (e q n : Nat) (fr : Nat × Nat) (hq : q = W.heap.size) (hn : n = xs.length) (hl : n ≤ 9223372036854775807) : (Kd.int .u8).C (W.alloc (.cells (xs.map (Value.int .u8)).toArray e fr)) (some ⟨q, 0, none⟩) n xs := by
  subst hq hn
  have hb := heap_alloc_new W (.cells (xs.map (Value.int .u8)).toArray e fr)
  refine ⟨rfl, hl, fun _ => ⟨_, rfl, fun j p hj => ?_⟩⟩
  refine ⟨[.int .u8 p], rfl, rfl, fun i u hu => ?_⟩
  cases i with
  | succ i => simp at hu
  | zero =>
    cases hu
    have e : (⟨W.heap.size, 0, none⟩ : Addr).add (j * (Kd.int .u8).sz + 0) = ⟨W.heap.size, j, none⟩ := by
      unfold Addr.add
      show (if j * 1 + 0 = 0 then _ else _) = _
      split
      · rename_i h0
        have : j = 0 := by omega
        subst this; rfl
      · show (⟨W.heap.size, 0 + (j * 1 + 0), none⟩ : Addr) = _
        congr 1
        omega
    rw [e, cell_blk hb]
    simp [hj]

/-- So many bytes of a number, the lowest first. -/
def leB : Int → Nat → List Int
  | _, 0 => []
  | x, n + 1 => x % 256 :: leB (x / 256) n
theorem leB_length (x : Int) (n : Nat) : (leB x n).length = n := by
  induction n generalizing x with
  | zero => rfl
  | succ n ih => simp [leB, ih]
theorem leB_byte (x : Int) (n : Nat) : ∀ b ∈ leB x n, 0 ≤ b ∧ b ≤ 255 := by
  induction n generalizing x with
  | zero => intro b hb; cases hb
  | succ n ih =>
    intro b hb
    rcases List.mem_cons.1 hb with rfl | hb
    · omega
    · exact ih _ b hb
theorem u64_id (x : Int) (h0 : 0 ≤ x) (h1 : x < 18446744073709551616) : IntKind.u64.wrap x = x := by
  simp only [IntKind.wrap, IntKind.signed, IntKind.bits]
  simp
  omega

def encI (x : S42) : List Int := if x.f0 = 1 then 1 :: leB (IntKind.u64.wrap x.f1) 8 else 2 :: (leB (x.f2.size : Int) 2 ++ bytesOf x.f2)
def encL (l : List S42) : List Int := l.flatMap encI
theorem u64_range (x : Int) : 0 ≤ IntKind.u64.wrap x ∧ IntKind.u64.wrap x < 18446744073709551616 := by
  simp only [IntKind.wrap, IntKind.signed, IntKind.bits]
  simp
  omega
theorem encI_length (x : S42) (h : x.f0 = 1 ∨ x.f2.size ≤ 50000) : (encI x).length ≤ 50003 := by
  unfold encI
  split
  · simp [leB_length]
  · simp [leB_length, bytesOf_length]
    omega
theorem encL_length (l : List S42) (h : ∀ x ∈ l, x.f0 = 1 ∨ x.f2.size ≤ 50000) : (encL l).length ≤ l.length * 50003 := by
  induction l with
  | nil => simp [encL]
  | cons x l ih =>
    have h1 := encI_length x (h x (by simp))
    have h2 := ih (fun y hy => h y (by simp [hy]))
    simp only [encL, List.flatMap_cons, List.length_append, List.length_cons] at *
    omega
theorem encL_take (l : List S42) (i : Int) (h0 : 0 ≤ i) (h : i < l.length) : encL (l.take (i + 1).toNat) = encL (l.take i.toNat) ++ encI (rd_T42 l i) := by
  obtain ⟨k, rfl⟩ := Int.eq_ofNat_of_zero_le h0
  have hk : k < l.length := by omega
  rw [show ((k : Int) + 1).toNat = k + 1 by omega, List.take_succ_eq_append_getElem hk, encL, List.flatMap_append]
  simp [encL, rd_T42, List.getD_eq_getElem?_getD, List.getElem?_eq_getElem hk]
theorem rd_mem {l : List S42} {i : Int} (h0 : 0 ≤ i) (h : i < l.length) : rd_T42 l i ∈ l := by
  obtain ⟨k, rfl⟩ := Int.eq_ofNat_of_zero_le h0
  have hk : k < l.length := by omega
  simp [rd_T42, List.getD_eq_getElem?_getD, List.getElem?_eq_getElem hk]
def encOk (l : List S42) : Bool := decide (l.length ≤ 4000) && l.all (fun x => x.f0 == 1 || decide (x.f2.size ≤ 50000))
theorem encOk_iff {l : List S42} (h : encOk l = true) : l.length ≤ 4000 ∧ ∀ x ∈ l, x.f0 = 1 ∨ x.f2.size ≤ 50000 := by
  simp only [encOk, Bool.and_eq_true, decide_eq_true_eq, List.all_eq_true, Bool.or_eq_true, beq_iff_eq] at h
  exact h
theorem encL_take_len {l : List S42} (h : encOk l = true) (n : Nat) : (encL (l.take n)).length ≤ 200012000 := by
  obtain ⟨h1, h2⟩ := encOk_iff h
  have := encL_length (l.take n) (fun x hx => h2 x (List.mem_of_mem_take hx))
  have h3 : (l.take n).length ≤ 4000 := by rw [List.length_take]; omega
  calc _ ≤ _ := this
    _ ≤ 4000 * 50003 := Nat.mul_le_mul_right _ h3
    _ = _ := rfl

def longB (x : S42) : Bool := x.f0 == 2 && decide (50000 < (x.f2.size : Int))
theorem longB_1 (k n : Int) (s : ByteArray) (h : ¬ k = 2) : longB ⟨k, n, s⟩ = false := by simp [longB, h]
theorem longB_2 (n : Int) (s : ByteArray) : longB ⟨2, n, s⟩ = decide (50000 < (s.size : Int)) := by simp [longB]

set_option maxHeartbeats 400000 in
theorem long_calls (x : S42) (w : World) :
    Calls Tryd.prog 31 #[.agg #[.int .i64 x.f0, .int .i64 x.f1, .string x.f2]] w fun e w' => e = .returned (.bool (longB x)) ∧ Below w.heap.size w w' := by
  obtain ⟨k, n, s⟩ := x
  simp only
  by_cases h2 : k = 2
  · subst h2
    rw [longB_2]
    go_enter Tryd.func31, Tryd.ntmps31
    go_wp2
    go_ret
    exact ⟨rfl, (Below.refl _ _).alloc (Nat.le_refl _) _⟩
  · rw [longB_1 _ _ _ h2]
    have hk : (k == 2) = false := by simpa using h2
    clear h2
    go_enter Tryd.func31, Tryd.ntmps31
    go_wp2
    go_ret
    exact ⟨rfl, (Below.refl _ _).alloc (Nat.le_refl _) _⟩

/-- 'slices.IndexFunc' with a function that answers p: the place of the first. -/
def firstAt (p : S42 → Bool) : List S42 → Int
  | [] => -1
  | x :: l => if p x then 0 else if firstAt p l < 0 then -1 else firstAt p l + 1

theorem any_take_succ (p : S42 → Bool) (l : List S42) (i : Int) (h0 : 0 ≤ i) (h : i < l.length) : Aside0 ((l.take (i + 1).toNat).any p = ((l.take i.toNat).any p || p (rd_T42 l i))) := by
  obtain ⟨k, rfl⟩ := Int.eq_ofNat_of_zero_le h0
  have hk : k < l.length := by omega
  refine ⟨?_⟩
  rw [show ((k : Int) + 1).toNat = k + 1 by omega, List.take_succ_eq_append_getElem hk, List.any_append]
  simp [rd_T42, List.getD_eq_getElem?_getD, List.getElem?_eq_getElem hk]

theorem any_of_at (p : S42 → Bool) (l : List S42) (i : Int) (h0 : 0 ≤ i) (h : i < l.length) (hp : p (rd_T42 l i) = true) : decide (0 ≤ i) = l.any p := by
  obtain ⟨k, rfl⟩ := Int.eq_ofNat_of_zero_le h0
  have hk : k < l.length := by omega
  rw [decide_eq_true h0]
  symm
  rw [List.any_eq_true]
  exact ⟨l[k], List.getElem_mem hk, by simpa [rd_T42, List.getD_eq_getElem?_getD, List.getElem?_eq_getElem hk] using hp⟩
theorem any_none (p : S42 → Bool) (l : List S42) (i : Int) (h : (l.length : Int) ≤ i) (hp : (l.take i.toNat).any p = false) : decide (0 ≤ (-1 : Int)) = l.any p := by
  rw [List.take_of_length_le (by omega)] at hp
  rw [hp]; rfl

set_option maxHeartbeats 400000 in
theorem indexFunc_calls (fv : Value) (p : S42 → Bool) (g : Nat) (hg : fv = .func (.func g) #[] #[]) (eg : ∀ args w, (callFunc g args).run Tryd.prog w = .ok (.enter g args) w)
    (hp : ∀ (x : S42) (w : World), Calls Tryd.prog g #[.agg #[.int .i64 x.f0, .int .i64 x.f1, .string x.f2]] w fun e w' => e = .returned (.bool (p x)) ∧ Below w.heap.size w w')
    (A : Option Addr) (c : Nat) (l : List S42) (w : World) (hr : Kd.C k42 w A l.length l) :
    Calls Tryd.prog 37 #[.slice A l.length c, fv] w fun e w' => ∃ i : Int, e = .returned (.int .i64 i) ∧ (decide (0 ≤ i) = l.any p) ∧ Below w.heap.size w w' := by
  subst hg
  have HP := Aside0.mk hp
  have HR := Aside0.mk hr
  have hlen : l.length ≤ 9223372036854775807 := hr.2.1
  clear hp hr
  go_enter Tryd.func37, Tryd.ntmps37
  go_wp2
  go_loopw [5, 8] (fun _ v w' => ∃ i : Int, 0 ≤ i ∧ i ≤ l.length ∧ v = .int .i64 i ∧ Aside0 ((l.take i.toNat).any p = false) ∧ Below w.heap.size w w') (fun _ v _ => (l.length - intOf v).toNat)
  case atStart => exact ⟨0, by omega, by omega, rfl, ⟨by simp⟩, Below.refl _ _⟩
  case round =>
    obtain ⟨i, hi0, hi1, rfl, hpre, hb⟩ := hrel
    by_cases hlt : i < l.length
    · obtain ⟨ad, e, hx0, hx1, hx2⟩ := at_T42 (Kd.C_below HR.out hb) i hi0 hlt
      subst e
      have hst := any_take_succ p l i hi0 hlt
      cases hpx : p (rd_T42 l i)
      all_goals
        have HPX := Aside0.mk hpx
        clear hpx
        go_wp2_with fail
        refine (HP.out (rd_T42 l i) _).mono ?_
        rintro e w1 ⟨rfl, hb1⟩
        rw [HPX.out]
        go_wp2
      · go_roundw
        case rel => exact ⟨i + 1, by omega, by omega, by first | rfl | go_num, ⟨by rw [hst.out, hpre.out, HPX.out]; rfl⟩, hb.trans (hb1.mono hb.size)⟩
        case measure => simp [intOf]; omega
      · go_ret
        exact ⟨i, rfl, any_of_at p l i hi0 hlt HPX.out, hb.trans (hb1.mono hb.size)⟩
    · go_wp2
      go_ret
      exact ⟨-1, rfl, any_none p l i (by omega) hpre.out, hb⟩
theorem eg30 : ∀ args w, (callFunc 31 args).run Tryd.prog w = .ok (.enter 31 args) w := fun _ _ => by kernel_rfl

set_option maxHeartbeats 400000 in
theorem containsFunc_calls (fv : Value) (p : S42 → Bool) (g : Nat) (hg : fv = .func (.func g) #[] #[]) (eg : ∀ args w, (callFunc g args).run Tryd.prog w = .ok (.enter g args) w)
    (hp : ∀ (x : S42) (w : World), Calls Tryd.prog g #[.agg #[.int .i64 x.f0, .int .i64 x.f1, .string x.f2]] w fun e w' => e = .returned (.bool (p x)) ∧ Below w.heap.size w w')
    (A : Option Addr) (c : Nat) (l : List S42) (w : World) (hr : Kd.C k42 w A l.length l) :
    Calls Tryd.prog 32 #[.slice A l.length c, fv] w fun e w' => e = .returned (.bool (l.any p)) ∧ Below w.heap.size w w' := by
  subst hg
  have HI := Aside0.mk (indexFunc_calls _ p g rfl eg hp A c l w hr)
  clear hp hr eg
  go_enter Tryd.func32, Tryd.ntmps32
  go_wp2_with fail
  refine HI.out.mono ?_
  rintro e w1 ⟨i, rfl, hi, hb⟩
  have Hi := Aside0.mk hi
  clear hi
  go_wp2
  go_ret
  exact ⟨by rw [← Hi.out]; rfl, hb⟩

def okB (x : S42) : Bool := if x.f0 = 1 then x.f2.toList.isEmpty else if x.f0 = 2 then x.f1 == 0 else false
def pack_checkV (l : List S42) : Int := if 4000 < (l.length : Int) then 14 else if l.any longB then 14 else if l.all okB then 0 else 2
def pack_check.f (l0 : List S42) : Option Int := some (pack_checkV l0)
theorem okB_1 {x : S42} (h : x.f0 = 1) : okB x = x.f2.toList.isEmpty := by simp [okB, h]
theorem okB_2 {x : S42} (h : x.f0 = 2) : okB x = (x.f1 == 0) := by simp [okB, h]
theorem okB_3 {x : S42} (h : ¬ x.f0 = 1) (h2 : ¬ x.f0 = 2) : okB x = false := by simp [okB, h, h2]
theorem all_take_succ (p : S42 → Bool) (l : List S42) (i : Int) (h0 : 0 ≤ i) (h : i < l.length) (hp : (l.take i.toNat).all p = true) (hx : p (rd_T42 l i) = true) : (l.take (i + 1).toNat).all p = true := by
  obtain ⟨k, rfl⟩ := Int.eq_ofNat_of_zero_le h0
  have hk : k < l.length := by omega
  rw [show ((k : Int) + 1).toNat = k + 1 by omega, List.take_succ_eq_append_getElem hk, List.all_append]
  have : p l[k] = true := by simpa [rd_T42, List.getD_eq_getElem?_getD, List.getElem?_eq_getElem hk] using hx
  simp only [Int.toNat_natCast] at hp
  simp [hp, this]
theorem not_all (p : S42 → Bool) (l : List S42) (i : Int) (h0 : 0 ≤ i) (h : i < l.length) (hx : p (rd_T42 l i) = false) : l.all p = false := by
  obtain ⟨k, rfl⟩ := Int.eq_ofNat_of_zero_le h0
  have hk : k < l.length := by omega
  have : p l[k] = false := by simpa [rd_T42, List.getD_eq_getElem?_getD, List.getElem?_eq_getElem hk] using hx
  rw [List.all_eq_false]
  exact ⟨l[k], List.getElem_mem hk, by simp [this]⟩
theorem check_bad {l : List S42} {r : Int} (hr : pack_checkV l = r) (h1 : ¬ 4000 < (l.length : Int)) (h2 : l.any longB = false) (i : Int) (h0 : 0 ≤ i) (h : i < l.length) (hx : okB (rd_T42 l i) = false) : Ending.returned (.int .i64 2) = .returned (.int .i64 r) := by
  rw [← hr, pack_checkV, if_neg h1, h2, not_all okB l i h0 h hx]; rfl
theorem check_good {l : List S42} {r : Int} (hr : pack_checkV l = r) (h1 : ¬ 4000 < (l.length : Int)) (h2 : l.any longB = false) (i : Int) (h : (l.length : Int) ≤ i) (hx : (l.take i.toNat).all okB = true) : Ending.returned (.int .i64 0) = .returned (.int .i64 r) := by
  rw [List.take_of_length_le (by omega)] at hx
  rw [← hr, pack_checkV, if_neg h1, h2, hx]; rfl

set_option maxHeartbeats 1000000 in
theorem pack_check.calls (A0 : Option Addr) (c0 : Nat) (l0 : List S42) (r : Int) (w : World) (hr0 : Kd.C k42 w A0 l0.length l0) (hc0 : l0.length ≤ c0) (h : pack_check.f l0 = some r) :
    Calls Tryd.prog 23 #[.slice A0 l0.length c0] w fun e w' => e = .returned (.int .i64 r) ∧ Below w.heap.size w w' := by
  have Hr := Aside0.mk (Option.some.inj h)
  have HR := Aside0.mk hr0
  have hlen : l0.length ≤ 9223372036854775807 := hr0.2.1
  have HC := Aside0.mk hc0
  clear h hr0 hc0
  by_cases h1 : 4000 < (l0.length : Int)
  · go_enter Tryd.func23, Tryd.ntmps23
    go_wp2
    go_ret
    exact ⟨by rw [← Hr.out, pack_checkV, if_pos h1]; rfl, Below.refl _ _⟩
  · have hh := Aside0.mk h1
    go_enter Tryd.func23, Tryd.ntmps23
    go_wp2_with fail
    refine (containsFunc_calls _ longB 31 rfl eg30 long_calls A0 c0 l0 w HR.out).mono ?_
    rintro e w1 ⟨rfl, hb⟩
    cases hany : l0.any longB
    · have Hany := Aside0.mk hany
      clear hany
      go_wp2
      go_loopw [5, 16, 20] (fun _ v _ w' => ∃ i : Int, 0 ≤ i ∧ i ≤ l0.length ∧ v = .int .i64 i ∧ Aside0 ((l0.take i.toNat).all okB = true) ∧ Below w.heap.size w w') (fun _ v _ _ => (l0.length - intOf v).toNat)
      case atStart => exact ⟨0, by omega, by omega, rfl, ⟨by simp⟩, hb⟩
      case round =>
        clear hb
        obtain ⟨i, hi0, hi1, rfl, hpre, hb⟩ := hrel
        by_cases hlt : i < l0.length
        · obtain ⟨ad, e, hx0, hx1, hx2⟩ := at_T42 (Kd.C_below HR.out hb) i hi0 hlt
          subst e
          have HB : Aside0 (∀ o, Below w.heap.size w (wr.alloc o)) := ⟨fun o => hb.alloc hb.size o⟩
          by_cases k1 : (rd_T42 l0 i).f0 = 1
          · have K := Aside0.mk (okB_1 k1)
            have k1b : ((rd_T42 l0 i).f0 == 1) = true := by simpa using k1
            clear k1
            cases he : (rd_T42 l0 i).f2.toList.isEmpty
            · go_wp2
              go_ret
              exact ⟨check_bad Hr.out (by have := hh.out; omega) Hany.out i hi0 hlt (by rw [K.out, he]), HB.out _⟩
            · go_wp2
              go_roundw
              case rel => exact ⟨i + 1, by omega, by omega, by first | rfl | go_num, ⟨all_take_succ okB l0 i hi0 hlt hpre.out (by rw [K.out, he])⟩, HB.out _⟩
              case measure => simp [intOf]; omega
          · have k1b : ((rd_T42 l0 i).f0 == 1) = false := by simpa using k1
            by_cases k2 : (rd_T42 l0 i).f0 = 2
            · have K := Aside0.mk (okB_2 k2)
              have k2b : ((rd_T42 l0 i).f0 == 2) = true := by simpa using k2
              clear k1 k2
              cases he : (rd_T42 l0 i).f1 == 0
              · go_wp2
                go_ret
                exact ⟨check_bad Hr.out (by have := hh.out; omega) Hany.out i hi0 hlt (by rw [K.out, he]), HB.out _⟩
              · go_wp2
                go_roundw
                case rel => exact ⟨i + 1, by omega, by omega, by first | rfl | go_num, ⟨all_take_succ okB l0 i hi0 hlt hpre.out (by rw [K.out, he])⟩, HB.out _⟩
                case measure => simp [intOf]; omega
            · have K := Aside0.mk (okB_3 k1 k2)
              have k2b : ((rd_T42 l0 i).f0 == 2) = false := by simpa using k2
              clear k1 k2
              go_wp2
              go_ret
              exact ⟨check_bad Hr.out (by have := hh.out; omega) Hany.out i hi0 hlt K.out, HB.out _⟩
        · go_wp2
          go_ret
          exact ⟨check_good Hr.out (by have := hh.out; omega) Hany.out i (by omega) hpre.out, hb⟩
    · have Hany := Aside0.mk hany
      clear hany
      go_wp2
      go_ret
      exact ⟨by rw [← Hr.out, pack_checkV, if_neg (by have := hh.out; omega), Hany.out]; rfl, hb⟩


end Go.Proofs.YtgjhhbljbnbjkaaDoor.PA
