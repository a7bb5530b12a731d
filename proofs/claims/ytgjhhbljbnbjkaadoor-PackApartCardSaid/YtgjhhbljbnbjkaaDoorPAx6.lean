-- Laid by a program of this work over the seat's translation.
import Derived.Test.YtgjhhbljbnbjkaaDoorPAx0
import Derived.Test.YtgjhhbljbnbjkaaDoorPAx2
import Derived.Test.YtgjhhbljbnbjkaaDoorPAx4
import Derived.Test.YtgjhhbljbnbjkaaDoorPAx5
namespace Go.Proofs.YtgjhhbljbnbjkaaDoor.PA
open Go.RowKit Go.Proofs.YtgjhhbljbnbjkaaDoorW.PrintWords Go.Proofs.YtgjhhbljbnbjkaaDoorW.PrintLast Go.Proofs.YtgjhhbljbnbjkaaDoorW.PrintMore
attribute [local go_sem] max2_int min2_int max_two min_two max_three min_three max_four min_four   -- for this text's walks alone
set_option linter.unusedVariables false
set_option linter.unusedSimpArgs false

/-! ### pack_Open: function 12 (by hand) -/
/-! ### The checksum on natural numbers -/
theorem xor_u32 (a b : Nat) (ha : a < 4294967296) (hb : b < 4294967296) : Go.bits .xor .u32 (a : Int) (b : Int) = ((a ^^^ b : Nat) : Int) := by
  have hx : a ^^^ b < 4294967296 := Nat.xor_lt_two_pow (n := 32) ha hb
  have e1 : a % 2 ^ IntKind.u32.bits = a := Nat.mod_eq_of_lt ha
  have e2 : b % 2 ^ IntKind.u32.bits = b := Nat.mod_eq_of_lt hb
  simp only [bits, BitVec.ofInt_natCast, BitVec.toNat_xor, BitVec.toNat_ofNat, e1, e2, IntKind.wrap_u32]
  omega
theorem and_u32_one (a : Nat) (ha : a < 4294967296) : Go.bits .and .u32 (a : Int) 1 = ((a % 2 : Nat) : Int) := by
  have h := (bits_nat .u32 32 (by decide) (fun n h0 h1 => by rw [IntKind.wrap_u32]; omega) a 1 ha (by decide)).1
  rw [Nat.and_one_is_mod] at h
  simpa using h
theorem xor_u64 (a b : Nat) (ha : a < 18446744073709551616) (hb : b < 18446744073709551616) : Go.bits .xor .u64 (a : Int) (b : Int) = ((a ^^^ b : Nat) : Int) := by
  have hx : a ^^^ b < 18446744073709551616 := Nat.xor_lt_two_pow (n := 64) ha hb
  have e1 : a % 2 ^ IntKind.u64.bits = a := Nat.mod_eq_of_lt ha
  have e2 : b % 2 ^ IntKind.u64.bits = b := Nat.mod_eq_of_lt hb
  simp only [bits, BitVec.ofInt_natCast, BitVec.toNat_xor, BitVec.toNat_ofNat, e1, e2]
  exact u64_id _ (by omega) (by omega)
def crcBit (s : Nat) : Nat := if s % 2 = 1 then (s / 2) ^^^ 3988292384 else s / 2
def crcBits : Nat → Nat → Nat
  | 0, s => s
  | n + 1, s => crcBits n (crcBit s)
def crcByte (s : Nat) (b : Int) : Nat := crcBits 8 (s ^^^ b.toNat)
def crcL (s : Nat) (l : List Int) : Nat := l.foldl crcByte s
def crcV (l : List Int) : Int := ((crcL 4294967295 l ^^^ 4294967295 : Nat) : Int)
theorem crcBit_lt {s : Nat} (h : s < 4294967296) : crcBit s < 4294967296 := by
  unfold crcBit
  split
  · exact Nat.xor_lt_two_pow (n := 32) (by omega) (by omega)
  · omega
theorem crcBits_lt {n s : Nat} (h : s < 4294967296) : crcBits n s < 4294967296 := by
  induction n generalizing s with
  | zero => exact h
  | succ n ih => exact ih (crcBit_lt h)
theorem crcBits_succ (n s : Nat) : crcBits (n + 1) s = crcBits n (crcBit s) := rfl
theorem crcBits_snoc (n s : Nat) : crcBits (n + 1) s = crcBit (crcBits n s) := by
  induction n generalizing s with
  | zero => rfl
  | succ n ih => rw [crcBits_succ, ih]; rfl
theorem crcL_nil (s : Nat) : crcL s [] = s := rfl
theorem crcL_cons (s : Nat) (b : Int) (l : List Int) : crcL s (b :: l) = crcL (crcByte s b) l := by simp only [crcL, List.foldl_cons]
theorem crcL_snoc (s : Nat) (b : Int) (l : List Int) : crcL s (l ++ [b]) = crcByte (crcL s l) b := by simp only [crcL, List.foldl_append, List.foldl_cons, List.foldl_nil]
theorem crcL_lt {s : Nat} {l : List Int} (h : s < 4294967296) (hl : ∀ b ∈ l, 0 ≤ b ∧ b ≤ 255) : crcL s l < 4294967296 := by
  induction l generalizing s with
  | nil => exact h
  | cons b l ih =>
    have hb := hl b (by simp)
    rw [crcL_cons]
    exact ih (crcBits_lt (Nat.xor_lt_two_pow (n := 32) h (by omega))) (fun c hc => hl c (by simp [hc]))
theorem crcL_append (s : Nat) (l m : List Int) : crcL s (l ++ m) = crcL (crcL s l) m := by
  simp only [crcL, List.foldl_append]
def byteL (l : List Int) : Prop := ∀ b ∈ l, 0 ≤ b ∧ b ≤ 255
def getV : List Int → Int
  | [] => 0
  | b :: l => b + 256 * getV l
theorem getV_range (l : List Int) (h : byteL l) : 0 ≤ getV l ∧ getV l < 256 ^ l.length := by
  induction l with
  | nil => simp [getV]
  | cons b l ih =>
    have hb := h b (by simp)
    have h2 := ih (fun c hc => h c (by simp [hc]))
    simp only [getV, List.length_cons, Int.pow_succ]
    omega
theorem getV_leB (x : Int) (n : Nat) (h0 : 0 ≤ x) (h1 : x < 256 ^ n) : getV (leB x n) = x := by
  induction n generalizing x with
  | zero => simp [leB, getV]; simp at h1; omega
  | succ n ih =>
    simp only [leB, getV]
    rw [ih (x / 256) (by omega) (by rw [Int.pow_succ] at h1; omega)]
    omega
theorem leB_getV (l : List Int) (h : byteL l) : leB (getV l) l.length = l := by
  induction l with
  | nil => rfl
  | cons b l ih =>
    have hb := h b (by simp)
    have h2 := ih (fun c hc => h c (by simp [hc]))
    have e1 : (b + 256 * getV l) % 256 = b := by omega
    have e2 : (b + 256 * getV l) / 256 = getV l := by omega
    simp only [getV, leB, List.length_cons, e1, e2, h2]

/-! ### What get and Crc come to -/
theorem rd_nat (l : List Int) (hl : byteL l) (i : Nat) (h : i < l.length) : rd l (i : Int) = l[i] ∧ 0 ≤ l[i] ∧ l[i] ≤ 255 := by
  refine ⟨by simp [rd, List.getD_eq_getElem?_getD, List.getElem?_eq_getElem h], hl _ (List.getElem_mem h)⟩
theorem or_add (a b i : Nat) (ha : a < 2 ^ i) : a ||| (b * 2 ^ i) = a + b * 2 ^ i := by
  rw [Nat.mul_comm b, Nat.or_comm, ← Nat.two_pow_add_eq_or_of_lt ha b, Nat.add_comm]
theorem getV_snoc (l : List Int) (b : Int) : getV (l ++ [b]) = getV l + b * 256 ^ l.length := by
  induction l with
  | nil => simp [getV]
  | cons c l ih =>
    simp only [List.cons_append, getV, List.length_cons, ih, Int.pow_succ, Int.mul_add]
    rw [Int.add_assoc]
    congr 2
    rw [Int.mul_comm 256, Int.mul_assoc]
theorem take_succ_int (l : List Int) (i : Nat) (h : i < l.length) : l.take (i + 1) = l.take i ++ [l[i]] := List.take_succ_eq_append_getElem h
theorem get_step (l : List Int) (hl : byteL l) (i : Nat) (h : i < l.length) (h8 : l.length ≤ 8) :
    Go.bits .or .u64 (getV (l.take i)) (shl .u64 (IntKind.u64.wrap (rd l i)) (wrap64 (8 * (i : Int)))) = getV (l.take (i + 1)) := by
  obtain ⟨e, b0, b1⟩ := rd_nat l hl i h
  have hr := getV_range (l.take i) (fun b hb => hl b (List.mem_of_mem_take hb))
  rw [List.length_take, Nat.min_eq_left (by omega)] at hr
  rw [take_succ_int l i h, getV_snoc, List.length_take, Nat.min_eq_left (by omega), e, u64_id _ (by omega) (by omega)]
  obtain ⟨a, ha⟩ := Int.eq_ofNat_of_zero_le hr.1
  obtain ⟨b, hb⟩ := Int.eq_ofNat_of_zero_le b0
  rw [ha] at hr ⊢
  rw [hb] at b1 ⊢
  have hw : wrap64 (8 * (i : Int)) = ((8 * i : Nat) : Int) := by unfold wrap64; omega
  have hp : (256 : Nat) ^ i = 2 ^ (8 * i) := by rw [Nat.pow_mul]
  have hp2 : (256 : Int) ^ i = ((2 ^ (8 * i) : Nat) : Int) := by rw [← hp]; simp
  have ha2 : a < 2 ^ (8 * i) := by
    have := hr.2
    rw [hp2] at this
    omega
  have hb2 : b * 2 ^ (8 * i) < 2 ^ 64 := by
    have h1 : b ≤ 255 := by omega
    have h2 : 2 ^ (8 * i) ≤ 2 ^ 56 := Nat.pow_le_pow_right (by decide) (by omega)
    calc b * 2 ^ (8 * i) ≤ 255 * 2 ^ 56 := Nat.mul_le_mul h1 h2
      _ < 2 ^ 64 := by decide
  have hs : shl .u64 (b : Int) (wrap64 (8 * (i : Int))) = ((b * 2 ^ (8 * i) : Nat) : Int) := by
    rw [hw, shl, Int.toNat_natCast, Nat.min_eq_left (by show 8 * i ≤ 64; omega)]
    rw [show ((b : Int) * 2 ^ (8 * i)) = ((b * 2 ^ (8 * i) : Nat) : Int) by simp]
    exact u64_id _ (by omega) (by omega)
  rw [hs]
  have ha3 : a < 2 ^ 64 := Nat.lt_of_lt_of_le ha2 (Nat.pow_le_pow_right (by decide) (by omega))
  have hor := (bits_nat .u64 64 (by decide) (fun n h0 h1 => u64_id n h0 (by simpa using h1)) a (b * 2 ^ (8 * i)) ha3 hb2).2
  rw [hor, or_add a b (8 * i) ha2, hp2]
  simp
theorem get_tells (l : List Int) (hl : byteL l) (h8 : l.length ≤ 8) : ∀ (d k i : Nat), i + d = l.length → d < k → pack_get.l0 k (getV (l.take i)) l (l.length : Int) (i : Int) = some (getV l) := by
  intro d
  induction d with
  | zero =>
    intro k i hd hk
    obtain ⟨k, rfl⟩ : ∃ m, k = m + 1 := ⟨k - 1, by omega⟩
    simp only [pack_get.l0]
    rw [if_neg (by omega), List.take_of_length_le (by omega)]
  | succ d ih =>
    intro k i hd hk
    obtain ⟨k, rfl⟩ : ∃ m, k = m + 1 := ⟨k - 1, by omega⟩
    simp only [pack_get.l0]
    rw [if_pos (by omega), if_pos (by omega), if_pos (by omega), if_pos (by unfold wrap64; omega), get_step l hl i (by omega) h8, show wrap64 ((i : Int) + 1) = ((i + 1 : Nat) : Int) by unfold wrap64; omega]
    exact ih k (i + 1) (by omega) (by omega)
theorem get_val (l : List Int) (hl : byteL l) (h8 : l.length ≤ 8) : pack_get.f 10 l = some (getV l) := by
  have h := get_tells l hl h8 l.length 10 0 (by omega) (by omega)
  simpa [pack_get.f, getV] using h
theorem crc1_tells (l : List Int) (i : Nat) : ∀ (d k j : Nat) (s : Nat), s < 4294967296 → j + d = 8 → d < k → ∀ r, pack_Crc.l0 (k - 1 - d) ((crcBits d s : Nat) : Int) l (l.length : Int) (wrap64 ((i : Int) + 1)) = some r → pack_Crc.l1 k (s : Int) l (l.length : Int) (i : Int) (j : Int) = some r := by
  intro d
  induction d with
  | zero =>
    intro k j s hs hd hk r hr
    obtain ⟨k, rfl⟩ : ∃ m, k = m + 1 := ⟨k - 1, by omega⟩
    simp only [pack_Crc.l1]
    rw [if_neg (by omega)]
    exact hr
  | succ d ih =>
    intro k j s hs hd hk r hr
    obtain ⟨k, rfl⟩ : ∃ m, k = m + 1 := ⟨k - 1, by omega⟩
    have hw : wrap64 ((j : Int) + 1) = ((j + 1 : Nat) : Int) := by unfold wrap64; omega
    have hb := crcBit_lt hs
    rw [crcBits_succ] at hr
    have hr2 := ih k (j + 1) (crcBit s) hb (by omega) (by omega) r (by rw [show k - 1 - d = k + 1 - 1 - (d + 1) by omega]; exact hr)
    simp only [pack_Crc.l1]
    rw [if_pos (by omega), and_u32_one s hs, hw]
    unfold crcBit at hr2
    by_cases h1 : s % 2 = 1
    · rw [if_pos h1] at hr2
      rw [if_pos (by omega), show ((s : Int) / 2) = ((s / 2 : Nat) : Int) by omega, show (3988292384 : Int) = ((3988292384 : Nat) : Int) from rfl, xor_u32 _ _ (by omega) (by omega)]
      exact hr2
    · rw [if_neg h1] at hr2
      rw [if_neg (by omega), show ((s : Int) / 2) = ((s / 2 : Nat) : Int) by omega]
      exact hr2
theorem crc_tells (l : List Int) (hl : byteL l) (hm : l.length ≤ 9223372036854775807) : ∀ (d k i : Nat) (s : Nat), s < 4294967296 → i + d = l.length → 10 * d < k → pack_Crc.l0 k (s : Int) l (l.length : Int) (i : Int) = some ((crcL s (l.drop i) ^^^ 4294967295 : Nat) : Int) := by
  intro d
  induction d with
  | zero =>
    intro k i s hs hd hk
    obtain ⟨k, rfl⟩ : ∃ m, k = m + 1 := ⟨k - 1, by omega⟩
    have hx := Nat.xor_lt_two_pow (n := 32) (show 4294967295 < 2 ^ 32 by decide) hs
    simp only [pack_Crc.l0]
    rw [if_neg (by omega), List.drop_eq_nil_of_le (by omega), crcL_nil, show IntKind.u32.max = ((4294967295 : Nat) : Int) from rfl, xor_u32 _ _ (by decide) hs, Nat.xor_comm]
    rw [Nat.xor_comm] at hx
    congr 1
    unfold wrap64
    omega
  | succ d ih =>
    intro k i s hs hd hk
    obtain ⟨k, rfl⟩ : ∃ m, k = m + 1 := ⟨k - 1, by omega⟩
    have hi : i < l.length := by omega
    obtain ⟨e, b0, b1⟩ := rd_nat l hl i hi
    have e2 : rd l (i : Int) % 4294967296 = ((l[i].toNat : Nat) : Int) := by rw [e]; omega
    have hx : s ^^^ l[i].toNat < 4294967296 := Nat.xor_lt_two_pow (n := 32) hs (by omega)
    simp only [pack_Crc.l0]
    rw [if_pos (by omega), if_pos (by omega), if_pos (by omega), e2, xor_u32 _ _ hs (by omega)]
    refine crc1_tells l i 8 k 0 _ hx rfl (by omega) _ ?_
    rw [show wrap64 ((i : Int) + 1) = ((i + 1 : Nat) : Int) by unfold wrap64; omega]
    rw [ih (k - 1 - 8) (i + 1) _ (crcBits_lt hx) (by omega) (by omega)]
    rw [List.drop_eq_getElem_cons hi, crcL_cons]
    rfl
theorem crc_val (l : List Int) (hl : byteL l) (hm : l.length ≤ 9223372036854775807) : pack_Crc.f (10 * l.length + 1) l = some (crcV l) := by
  have h := crc_tells l hl hm l.length (10 * l.length + 1) 0 4294967295 (by decide) (by omega) (by omega)
  simpa [pack_Crc.f, crcV] using h
theorem crcV_range (l : List Int) (hl : byteL l) : 0 ≤ crcV l ∧ crcV l < 4294967296 := by
  have h := crcL_lt (s := 4294967295) (by decide) hl
  have hx := Nat.xor_lt_two_pow (n := 32) h (show 4294967295 < 2 ^ 32 by decide)
  unfold crcV
  omega

def byteB (l : List Int) : Bool := l.all fun b => decide (0 ≤ b) && decide (b ≤ 255)
theorem byteB_iff {l : List Int} : byteB l = true ↔ byteL l := by
  simp [byteB, byteL]
def openL (l : List Int) : List Int × Int := if l.length < 4 then ([], 2) else if getV (l.drop (l.length - 4)) = crcV (l.take (l.length - 4)) then (l.take (l.length - 4), 0) else ([], 16)
def pack_Open.f (l0 : List Int) : Option (List Int × Int) := if byteB l0 = true ∧ l0.length ≤ 140737488355328 then some (openL l0) else none
theorem byteL_drop {l : List Int} (h : byteL l) (n : Nat) : byteL (l.drop n) := fun b hb => h b (List.mem_of_mem_drop hb)
theorem byteL_take {l : List Int} (h : byteL l) (n : Nat) : byteL (l.take n) := fun b hb => h b (List.mem_of_mem_take hb)
set_option maxHeartbeats 2000000 in
theorem pack_Open.calls (A0 : Option Addr) (c0 : Nat) (l0 : List Int) (r1 : List Int) (r2 : Int) (w : World) (hr0 : Kd.C (Kd.int .u8) w A0 l0.length l0) (hc0 : l0.length ≤ c0) (h : pack_Open.f l0 = some (r1, r2)) :
    Calls Tryd.prog 12 #[.slice A0 l0.length c0] w fun e w' => ∃ v0_ : Value, e = .returned (.tuple #[v0_, .int .i64 r2]) ∧ Kd.R (Kd.int .u8) 5 w' w.heap.size (fun _ => True) v0_ r1 ∧ Below w.heap.size w w' := by
  unfold pack_Open.f at h
  by_cases hok : byteB l0 = true ∧ l0.length ≤ 140737488355328
  · rw [if_pos hok] at h
    obtain ⟨hb, hlen⟩ := hok
    have hby := byteB_iff.1 hb
    simp only [openL, Option.some.injEq] at h
    have HR := Aside0.mk hr0
    have HC := Aside0.mk hc0
    by_cases h4 : l0.length < 4
    · rw [if_pos h4] at h
      simp only [Prod.mk.injEq] at h
      obtain ⟨rfl, rfl⟩ := h
      have hw : wrap64 ((l0.length : Int) - 4) < 0 := by unfold wrap64; omega
      clear hr0 hc0 hb hby
      go_enter Tryd.func12, Tryd.ntmps12
      go_wp2
      go_ret2
      exact ⟨_, rfl, Kd.R_nil _ _ _ _ _, Below.refl _ _⟩
    · rw [if_neg h4] at h
      obtain ⟨n, hn⟩ : ∃ n : Nat, l0.length = n + 4 := ⟨l0.length - 4, by omega⟩
      rw [show l0.length - 4 = n by omega] at h
      obtain ⟨i1, hi1, _, hsz1, _⟩ := info_parts info5
      obtain ⟨A1, hcut1, hA1, hC1⟩ := print_drop_of (P := Tryd.prog) (Value.int .u8) 0 22 5 .i64 Tryd.underlying22 hi1 hsz1 A0 c0 l0 (n : Int) (by omega) (by omega) hc0
      obtain ⟨hcut2, hA2, hC2⟩ := print_take_of (P := Tryd.prog) (Value.int .u8) 0 22 5 .i64 Tryd.underlying22 hi1 hsz1 A0 c0 l0 (n : Int) (by omega) (by omega) hc0
      have G := Aside0.mk (get_val (l0.drop n) (byteL_drop hby n) (by simp; omega))
      have KC := Aside0.mk (crc_val (l0.take n) (byteL_take hby n) (by rw [List.length_take]; omega))
      simp only [Int.toNat_natCast] at hcut1 hA1 hC1 hcut2 hA2 hC2
      have hcut1' : ∀ W : World, (Instr.slice 22 (.slice A0 l0.length c0) (some (.int .i64 (n : Int))) none none).run Tryd.prog W = .ok (.slice A1 4 (c0 - n)) W := by rw [← show (l0.drop n).length = 4 by simp; omega]; exact hcut1
      have hcut2' : ∀ W : World, (Instr.slice 22 (.slice A0 l0.length c0) none (some (.int .i64 (n : Int))) none).run Tryd.prog W = .ok (.slice A0 n c0) W := by
        have e : (l0.take n).length = n := by rw [List.length_take]; omega
        rw [e] at hcut2
        exact hcut2
      clear hcut1 hcut2
      have HR1 := Aside0.mk (Kd.C_of_reads (h1 := fun _ => rfl) (hA1 _ (Kd.reads_of_C (d := (0 : Int)) HR.out)))
      have HR2 := Aside0.mk (Kd.C_of_reads (h1 := fun _ => rfl) (hA2 _ (Kd.reads_of_C (d := (0 : Int)) HR.out)))
      have HC1 := Aside0.mk hC1
      have HC2 := Aside0.mk hC2
      have Hn := Aside0.mk hn
      have L1 : Aside0 ((l0.drop n).length = 4) := ⟨by simp; omega⟩
      have L2 : Aside0 ((l0.take n).length = n) := ⟨by rw [List.length_take]; omega⟩
      have hgr := getV_range (l0.drop n) (byteL_drop hby n)
      have hg64 : wrap64 (getV (l0.drop n)) = getV (l0.drop n) := by
        rw [show (l0.drop n).length = 4 by simp; omega] at hgr
        unfold wrap64
        omega
      have HG := Aside0.mk hg64
      have hw : wrap64 ((l0.length : Int) - 4) = (n : Int) := by unfold wrap64; omega
      have hwn : decide ((n : Int) < 0) = false := by simp
      have HLN := Aside0.mk hlen
      clear hlen h4
      clear hn hgr hg64 hC1 hC2 hA1 hA2 hi1 hsz1 hr0 hb hby hc0
      have G1 : Aside0 (∀ nq : Nat, Calls Tryd.prog 19 #[.slice A1 4 (c0 - n)] (w.drewN nq) fun e w' => e = .returned (.int .u64 (getV (l0.drop n))) ∧ Drawn0 (w.drewN nq) w') := by
        refine ⟨fun nq => ?_⟩
        have h := pack_get.calls 10 A1 (c0 - n) (l0.drop n) _ (w.drewN nq) (Kd.C_drewN HR1.out nq) HC1.out G.out
        rwa [L1.out] at h
      have K1 : Aside0 (∀ nq : Nat, Calls Tryd.prog 13 #[.slice A0 n c0] (w.drewN nq) fun e w' => e = .returned (.int .i64 (crcV (l0.take n))) ∧ Drawn0 (w.drewN nq) w') := by
        refine ⟨fun nq => ?_⟩
        have h := pack_Crc.calls _ A0 c0 (l0.take n) _ (w.drewN nq) (Kd.C_drewN HR2.out nq) HC2.out KC.out
        rwa [L2.out] at h
      have C1 : Aside0 (∀ nq : Nat, Calls Tryd.prog 21 #[.slice A0 n c0] (w.drewN nq) fun e w' => ∃ v0_ : Value, e = .returned v0_ ∧ Kd.R (Kd.int .u8) 5 w' w.heap.size (fun _ => True) v0_ (l0.take n) ∧ Below w.heap.size (w.drewN nq) w') := by
        refine ⟨fun nq => ?_⟩
        have h := bytes_Clone.calls A0 c0 (l0.take n) _ (w.drewN nq) (Kd.C_drewN HR2.out nq) HC2.out (by rw [bytes_Clone.f, if_pos (by rw [L2.out]; have := HLN.out; have := Hn.out; omega)])
        rwa [L2.out] at h
      go_enter Tryd.func12, Tryd.ntmps12
      go_wp2_with fail
      go_quiet (first | (go_at_call 19; refine (G1.out _).mono ?_; rintro e w' ⟨rfl, ⟨nd, rfl⟩⟩; (first | exact ⟨rfl, _, World.drewN_drewN _ _ _⟩ | exact ⟨rfl, _, Eq.trans (World.drewN_drewN _ _ _) (congrArg (World.drewN _) (Nat.add_assoc _ _ _))⟩)) | (go_at_call 13; refine (K1.out _).mono ?_; rintro e w' ⟨rfl, ⟨nd, rfl⟩⟩; (first | exact ⟨rfl, _, World.drewN_drewN _ _ _⟩ | exact ⟨rfl, _, Eq.trans (World.drewN_drewN _ _ _) (congrArg (World.drewN _) (Nat.add_assoc _ _ _))⟩)))
      by_cases heq : getV (l0.drop n) = crcV (l0.take n)
      · rw [if_pos heq] at h
        simp only [Prod.mk.injEq] at h
        have h1 := Aside0.mk h.1
        have h2 := Aside0.mk h.2
        have hd : (wrap64 (getV (l0.drop n)) != crcV (l0.take n)) = false := by rw [HG.out]; simpa using heq
        clear h heq
        go_wp2_with fail
        refine (C1.out _).mono ?_
        rintro e w' ⟨v, rfl, hR, hB⟩
        have HO := Aside0.mk hR
        have HB := Aside0.mk hB
        clear hR hB
        go_wp2
        go_ret2
        exact ⟨_, by rw [← h2.out]; rfl, by rw [← h1.out]; exact HO.out, (pw_below_drewN (Below.refl _ _) _).trans HB.out⟩
      · rw [if_neg heq] at h
        simp only [Prod.mk.injEq] at h
        have h1 := Aside0.mk h.1
        have h2 := Aside0.mk h.2
        have hd : (wrap64 (getV (l0.drop n)) != crcV (l0.take n)) = true := by rw [HG.out]; simpa using heq
        clear h heq
        go_wp2
        go_ret2
        exact ⟨_, by rw [← h2.out]; rfl, by rw [← h1.out]; exact Kd.R_nil _ _ _ _ _, pw_below_drewN (Below.refl _ _) _⟩
  · rw [if_neg hok] at h
    cases h


end Go.Proofs.YtgjhhbljbnbjkaaDoor.PA
