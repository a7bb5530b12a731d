import Derived.Test.YtgjhhbljbnbjkaaLturned
namespace Go.Proofs.Ytgjhhbljbnbjkaa.PA
open Go.RowKit Go.Proofs.YtgjhhbljbnbjkaaW.PrintWords Go.Proofs.YtgjhhbljbnbjkaaW.PrintLast Go.Proofs.YtgjhhbljbnbjkaaW.PrintMore
set_option linter.unusedVariables false
set_option linter.unusedSimpArgs false
/-! ### The reference's checksum is the same, mirrored -/
def mirV (x : Nat) : Nat → Nat
  | 0 => 0
  | n + 1 => 2 * mirV x n + (x / 2 ^ n) % 2
theorem mirV_bit (x n i : Nat) : (mirV x n).testBit i = (decide (i < n) && x.testBit (n - 1 - i)) := by
  induction n generalizing i with
  | zero => simp [mirV]
  | succ n ih =>
    rw [mirV]
    cases i with
    | zero =>
      rw [Nat.testBit_zero]
      have : x.testBit n = decide ((x / 2 ^ n) % 2 = 1) := by rw [Nat.testBit_eq_decide_div_mod_eq]
      simp only [Nat.add_sub_cancel, Nat.sub_zero, this]
      rw [show (2 * mirV x n + x / 2 ^ n % 2) % 2 = x / 2 ^ n % 2 by omega]
      simp
    | succ i =>
      rw [Nat.testBit_add_one, show (2 * mirV x n + x / 2 ^ n % 2) / 2 = mirV x n by omega, ih]
      have e : n + 1 - 1 - (i + 1) = n - 1 - i := by omega
      rw [e]
      simp
theorem mirV_lt (x n : Nat) : mirV x n < 2 ^ n := by
  induction n with
  | zero => simp [mirV]
  | succ n ih => rw [mirV, Nat.pow_succ]; omega
theorem mirV_xor (a b n : Nat) : mirV (a ^^^ b) n = mirV a n ^^^ mirV b n := by
  apply Nat.eq_of_testBit_eq
  intro i
  rw [Nat.testBit_xor, mirV_bit, mirV_bit, mirV_bit, Nat.testBit_xor]
  cases decide (i < n) <;> simp
theorem mirV_mirV (x n : Nat) (h : x < 2 ^ n) : mirV (mirV x n) n = x := by
  apply Nat.eq_of_testBit_eq
  intro i
  rw [mirV_bit, mirV_bit]
  by_cases hi : i < n
  · simp only [hi, decide_true, Bool.true_and]
    rw [show n - 1 - (n - 1 - i) = i by omega]
    simp
    omega
  · simp only [hi, decide_false, Bool.false_and]
    symm
    exact Nat.testBit_lt_two_pow (Nat.lt_of_lt_of_le h (Nat.pow_le_pow_right (by decide) (by omega)))
theorem mirV_byte (b : Nat) (h : b < 256) : mirV b 32 = mirV b 8 * 16777216 := by
  apply Nat.eq_of_testBit_eq
  intro i
  rw [show 16777216 = 2 ^ 24 from rfl, Nat.mul_comm, Nat.testBit_two_pow_mul, mirV_bit, mirV_bit]
  by_cases h1 : 24 ≤ i
  · by_cases h2 : i < 32
    · simp only [h1, h2, show i - 24 < 8 by omega, decide_true, Bool.true_and]
      rw [show 8 - 1 - (i - 24) = 32 - 1 - i by omega]
    · simp only [h2, show ¬ i - 24 < 8 by omega, decide_false, Bool.false_and, Bool.and_false]
  · have : b.testBit (32 - 1 - i) = false := Nat.testBit_lt_two_pow (Nat.lt_of_lt_of_le h (by rw [show 256 = 2 ^ 8 from rfl]; exact Nat.pow_le_pow_right (by decide) (by omega)))
    simp [h1, this]
def refBit (r : Nat) : Nat := if r * 2 / 4294967296 = 0 then r * 2 else (r * 2) ^^^ 4374732215
theorem mirV_half (s : Nat) (h : s < 4294967296) : mirV (s / 2) 32 = (mirV s 32 * 2) % 4294967296 := by
  apply Nat.eq_of_testBit_eq
  intro i
  rw [show 4294967296 = 2 ^ 32 from rfl, Nat.testBit_mod_two_pow, mirV_bit]
  by_cases hi : i < 32
  · simp only [hi, decide_true, Bool.true_and]
    cases i with
    | zero =>
      have : (s / 2).testBit 31 = false := Nat.testBit_lt_two_pow (by omega)
      rw [this]
      simp [Nat.testBit_zero]
    | succ i =>
      rw [Nat.testBit_add_one, Nat.mul_div_cancel _ (by decide), mirV_bit, ← Nat.testBit_add_one]
      simp only [show i < 32 by omega, decide_true, Bool.true_and]
      rw [show 32 - 1 - (i + 1) + 1 = 32 - 1 - i by omega]
  · simp [hi]
theorem mirV_odd (s : Nat) : mirV s 32 / 2147483648 = s % 2 := by
  have h := mirV_bit s 32 31
  have hl := mirV_lt s 32
  rw [Nat.testBit_eq_decide_div_mod_eq, show 32 - 1 - 31 = 0 by rfl, Nat.testBit_zero] at h
  have h2 : mirV s 32 / 2 ^ 31 < 2 := by omega
  have h3 : 2 ^ 31 = 2147483648 := rfl
  rw [h3] at h h2
  simp at h
  omega
theorem mir_step (s : Nat) (h : s < 4294967296) : mirV (crcBit s) 32 = refBit (mirV s 32) := by
  have h1 := mirV_half s h
  have h2 := mirV_odd s
  have h3 := mirV_lt s 32
  unfold crcBit refBit
  by_cases ho : s % 2 = 1
  · rw [if_pos ho, if_neg (by omega), mirV_xor, h1, show mirV 3988292384 32 = 79764919 by decide +kernel]
    have e : mirV s 32 * 2 = (mirV s 32 * 2) % 4294967296 ^^^ 4294967296 := by
      have hm : (mirV s 32 * 2) % 4294967296 < 2 ^ 32 := Nat.mod_lt _ (by decide)
      rw [Nat.xor_comm]
      have := Nat.two_pow_add_eq_or_of_lt hm 1
      rw [show 2 ^ 32 * 1 = 4294967296 by rfl] at this
      have hx : 4294967296 ^^^ (mirV s 32 * 2) % 4294967296 = 4294967296 ||| (mirV s 32 * 2) % 4294967296 := by
        apply Nat.eq_of_testBit_eq
        intro i
        rw [Nat.testBit_xor, Nat.testBit_or, show 4294967296 = 2 ^ 32 from rfl, Nat.testBit_mod_two_pow, Nat.testBit_two_pow]
        by_cases hi : i < 32
        · have : ¬ 32 = i := by omega
          simp [hi, this]
        · simp [hi]
      rw [hx, ← this]
      omega
    conv => rhs; rw [e]
    rw [Nat.xor_assoc, show 4294967296 ^^^ 4374732215 = 79764919 by decide +kernel]
  · rw [if_neg ho, if_pos (by omega), h1]
    omega
theorem mirror_tells (x : Nat) (hx : x < 18446744073709551616) (n : Nat) (hn : n ≤ 32) : ∀ (d k i : Nat), i + d = n → d < k → cisternref03_mirror.l0 k (x : Int) (n : Int) ((mirV x i : Nat) : Int) (i : Int) = some ((mirV x n : Nat) : Int) := by
  intro d
  induction d with
  | zero =>
    intro k i hd hk
    obtain ⟨k, rfl⟩ : ∃ m, k = m + 1 := ⟨k - 1, by omega⟩
    obtain rfl : i = n := by omega
    simp only [cisternref03_mirror.l0]
    rw [if_neg (by omega)]
  | succ d ih =>
    intro k i hd hk
    obtain ⟨k, rfl⟩ : ∃ m, k = m + 1 := ⟨k - 1, by omega⟩
    have hml := mirV_lt x i
    have hp : 2 ^ i ≤ 2 ^ 31 := Nat.pow_le_pow_right (by decide) (by omega)
    have hsh : shr .u64 (x : Int) (i : Int) = ((x / 2 ^ i : Nat) : Int) := by
      unfold shr
      rw [Int.toNat_natCast, Nat.min_eq_left (by show i ≤ 64; omega)]
      simp
    have hxi : x / 2 ^ i < 18446744073709551616 := Nat.lt_of_le_of_lt (Nat.div_le_self _ _) hx
    have hand : Go.bits .and .u64 ((x / 2 ^ i : Nat) : Int) 1 = ((x / 2 ^ i % 2 : Nat) : Int) := by
      have h := (bits_nat .u64 64 (by decide) (fun n h0 h1 => u64_id n h0 (by simpa using h1)) (x / 2 ^ i) 1 hxi (by decide)).1
      rw [Nat.and_one_is_mod] at h
      simpa using h
    simp only [cisternref03_mirror.l0]
    rw [if_pos (by omega), if_pos (by omega), hsh, hand, u64_id (((mirV x i : Nat) : Int) * 2) (by omega) (by omega), u64_id _ (by omega) (by omega), show wrap64 ((i : Int) + 1) = ((i + 1 : Nat) : Int) by unfold wrap64; omega]
    have e : ((mirV x i : Nat) : Int) * 2 + ((x / 2 ^ i % 2 : Nat) : Int) = ((mirV x (i + 1) : Nat) : Int) := by
      rw [mirV]; omega
    rw [e]
    exact ih k (i + 1) (by omega) (by omega)
theorem mirror_val (x : Nat) (hx : x < 18446744073709551616) (n k : Nat) (hn : n ≤ 32) (hk : n < k) : cisternref03_mirror.f k (x : Int) (n : Int) = some ((mirV x n : Nat) : Int) :=
  mirror_tells x hx n hn n k 0 (by omega) hk
def refBits : Nat → Nat → Nat
  | 0, r => r
  | n + 1, r => refBits n (refBit r)
theorem refBit_lt {r : Nat} (h : r < 4294967296) : refBit r < 4294967296 := by
  have := mir_step (mirV r 32) (mirV_lt r 32)
  rw [mirV_mirV r 32 h] at this
  rw [← this]
  exact mirV_lt _ 32
theorem refBits_mir (n s : Nat) (h : s < 4294967296) : refBits n (mirV s 32) = mirV (crcBits n s) 32 := by
  induction n generalizing s with
  | zero => rfl
  | succ n ih => rw [refBits, ← mir_step s h, ih _ (crcBit_lt h), crcBits_succ]
theorem refcrc1_tells (s : ByteArray) (i : Nat) : ∀ (d k j : Nat) (r : Nat), r < 4294967296 → j + d = 8 → d < k → ∀ z, cisternref03_Crc.l0 (k - 1 - d) s ((refBits d r : Nat) : Int) (wrap64 ((i : Int) + 1)) = some z → cisternref03_Crc.l1 k s (r : Int) (i : Int) (j : Int) = some z := by
  intro d
  induction d with
  | zero =>
    intro k j r hr hd hk z hz
    obtain ⟨k, rfl⟩ : ∃ m, k = m + 1 := ⟨k - 1, by omega⟩
    simp only [cisternref03_Crc.l1]
    rw [if_neg (by omega)]
    exact hz
  | succ d ih =>
    intro k j r hr hd hk z hz
    obtain ⟨k, rfl⟩ : ∃ m, k = m + 1 := ⟨k - 1, by omega⟩
    have hz2 := ih k (j + 1) (refBit r) (refBit_lt hr) (by omega) (by omega) z (by rw [show k - 1 - d = k + 1 - 1 - (d + 1) by omega]; exact hz)
    simp only [cisternref03_Crc.l1]
    rw [if_pos (by omega), u64_id ((r : Int) * 2) (by omega) (by omega), show wrap64 ((j : Int) + 1) = ((j + 1 : Nat) : Int) by unfold wrap64; omega]
    unfold refBit at hz2
    by_cases h : r * 2 / 4294967296 = 0
    · rw [if_pos h] at hz2
      rw [if_pos (by omega), show (r : Int) * 2 = ((r * 2 : Nat) : Int) by omega]
      exact hz2
    · rw [if_neg h] at hz2
      rw [if_neg (by omega), show (r : Int) * 2 = ((r * 2 : Nat) : Int) by omega, show (4374732215 : Int) = ((4374732215 : Nat) : Int) from rfl, xor_u64 _ _ (by omega) (by omega)]
      exact hz2
theorem refcrc_tells (s : ByteArray) (hm : s.size ≤ 9223372036854775807) : ∀ (d k i : Nat) (x : Nat), x < 4294967296 → i + d = s.size → 10 * d + 40 < k → cisternref03_Crc.l0 k s ((mirV x 32 : Nat) : Int) (i : Int) = some ((crcL x ((bytesOf s).drop i) ^^^ 4294967295 : Nat) : Int) := by
  have hb := bytesOf_byteL s
  have hlen := bytesOf_length s
  intro d
  induction d with
  | zero =>
    intro k i x hx hd hk
    obtain ⟨k, rfl⟩ : ∃ m, k = m + 1 := ⟨k - 1, by omega⟩
    have hxx := Nat.xor_lt_two_pow (n := 32) hx (show 4294967295 < 2 ^ 32 by decide)
    have hl := mirV_lt x 32
    simp only [cisternref03_Crc.l0]
    rw [if_neg (by omega), List.drop_eq_nil_of_le (by omega), crcL_nil, show (4294967295 : Int) = ((4294967295 : Nat) : Int) from rfl, xor_u64 _ _ (by omega) (by decide)]
    have e : mirV x 32 ^^^ 4294967295 = mirV (x ^^^ 4294967295) 32 := by rw [mirV_xor, show mirV 4294967295 32 = 4294967295 by decide +kernel]
    have := mirror_val (mirV (x ^^^ 4294967295) 32) (by have := mirV_lt (x ^^^ 4294967295) 32; omega) 32 k (by omega) (by omega)
    rw [e, show (32 : Int) = ((32 : Nat) : Int) from rfl, this, mirV_mirV _ 32 hxx]
    simp only [Option.bind_some]
    congr 1
    unfold wrap64
    omega
  | succ d ih =>
    intro k i x hx hd hk
    obtain ⟨k, rfl⟩ : ∃ m, k = m + 1 := ⟨k - 1, by omega⟩
    have hi : i < (bytesOf s).length := by omega
    obtain ⟨e, b0, b1⟩ := rd_nat (bytesOf s) hb i hi
    have hbt : bt s (i : Int) = (((bytesOf s)[i].toNat : Nat) : Int) := by rw [← rd_bytesOf, e]; omega
    generalize hv : (bytesOf s)[i].toNat = v at hbt
    have hv2 : v < 256 := by omega
    have hmb := mirV_lt v 8
    simp only [cisternref03_Crc.l0]
    rw [if_pos (by omega), if_pos (by omega), hbt, u64_id _ (by omega) (by omega), show (8 : Int) = ((8 : Nat) : Int) from rfl, mirror_val v (by omega) 8 k (by omega) (by omega)]
    simp only [Option.bind_some]
    have hl := mirV_lt x 32
    have hxv : x ^^^ v < 4294967296 := Nat.xor_lt_two_pow (n := 32) hx (by omega)
    rw [u64_id (((mirV v 8 : Nat) : Int) * 16777216) (by omega) (by omega), show ((mirV v 8 : Nat) : Int) * 16777216 = ((mirV v 8 * 16777216 : Nat) : Int) by omega, ← mirV_byte v hv2, xor_u64 _ _ (by omega) (by have := mirV_lt v 32; omega), ← mirV_xor]
    refine refcrc1_tells s i 8 k 0 _ (mirV_lt _ 32) rfl (by omega) _ ?_
    rw [refBits_mir 8 _ hxv, show wrap64 ((i : Int) + 1) = ((i + 1 : Nat) : Int) by unfold wrap64; omega]
    rw [ih (k - 1 - 8) (i + 1) _ (crcBits_lt hxv) (by omega) (by omega)]
    rw [List.drop_eq_getElem_cons hi, crcL_cons, ← hv]
    rfl
theorem refcrc_val (s : ByteArray) (hm : s.size ≤ 9223372036854775807) (k : Nat) (hk : 10 * s.size + 50 ≤ k) : cisternref03_Crc.f k s = some (crcV (bytesOf s)) := by
  have h := refcrc_tells s hm s.size k 0 4294967295 (by decide) (by omega) (by omega)
  rw [show mirV 4294967295 32 = 4294967295 by decide +kernel] at h
  simpa [cisternref03_Crc.f, crcV] using h
theorem refseal_val (s : ByteArray) (hm : s.size ≤ 140737488351232) (k : Nat) (hk : 10 * s.size + 50 ≤ k) : cisternref03_Seal.f k s = some (strOfNums (sealL (bytesOf s))) := by
  have hcr := crcV_range (bytesOf s) (bytesOf_byteL s)
  unfold cisternref03_Seal.f
  rw [refcrc_val s (by omega) k hk]
  simp only [Option.bind_some]
  rw [u64_id _ hcr.1 (by omega), cisternref03_little.f, show (4 : Int) = ((4 : Nat) : Int) from rfl, little_tells 4 (by omega) 4 k _ [] 0 hcr.1 (by omega) (by omega) (by omega) (by omega) (by simp)]
  simp only [Option.bind_some, List.nil_append]
  rw [if_pos (by rw [size_strOfNums]; simp [leB_length]; omega), sealL]
  have h1 := strOfNums_append (bytesOf s) (leB (crcV (bytesOf s)) 4)
  rw [strOfNums_bytesOf] at h1
  rw [h1]
theorem sealL_take (l : List Int) : (sealL l).take l.length = l := by simp [sealL]
theorem sealL_drop (l : List Int) : (sealL l).drop l.length = leB (crcV l) 4 := by simp [sealL]
theorem openL_seal (l : List Int) (hl : byteL l) : openL (sealL l) = (l, 0) := by
  have hcr := crcV_range l hl
  unfold openL
  rw [sealL_length, if_neg (by omega), show l.length + 4 - 4 = l.length by omega, sealL_take, sealL_drop, getV_leB _ 4 hcr.1 (by omega), if_pos rfl]
theorem docopen_val (s : ByteArray) (hm : s.size ≤ 140737488351232) (k : Nat) (hk : 10 * s.size + 50 ≤ k) : cisternref03_DocOpen.f k s = some (strOfNums (openL (bytesOf s)).1, (openL (bytesOf s)).2) := by
  have hlen := bytesOf_length s
  have hb := bytesOf_byteL s
  unfold cisternref03_DocOpen.f openL
  by_cases h4 : s.size < 4
  · rw [if_pos (by omega), if_pos (by omega)]; rfl
  · rw [if_neg (by omega), show wrap64 ((s.size : Int) - 4) = ((s.size - 4 : Nat) : Int) by unfold wrap64; omega, if_pos (by omega), if_pos (by omega), Int.toNat_natCast, if_neg (show ¬ (bytesOf s).length < 4 by omega)]
    have ht : s.extract 0 (s.size - 4) = strOfNums ((bytesOf s).take ((bytesOf s).length - 4)) := by
      have h := bytesOf_extract s 0 (s.size - 4)
      rw [List.drop_zero] at h
      rw [hlen, ← h, strOfNums_bytesOf]
    rw [ht]
    generalize htl : (bytesOf s).take ((bytesOf s).length - 4) = t
    have htb : byteL t := by rw [← htl]; intro b h; exact hb b (List.mem_of_mem_take h)
    have htlen : t.length = s.size - 4 := by rw [← htl]; simp; omega
    rw [refseal_val _ (by rw [size_strOfNums]; omega) k (by rw [size_strOfNums]; omega), bytesOf_strOfNums t htb]
    simp only [Option.bind_some]
    have hcr := crcV_range t htb
    have key : (strOfNums (sealL t)).toList = s.toList ↔ getV ((bytesOf s).drop ((bytesOf s).length - 4)) = crcV t := by
      rw [toList_inj']
      constructor
      · intro h
        have h2 : bytesOf s = sealL t := by rw [← h, bytesOf_strOfNums _ (sealL_byteL htb)]
        rw [h2, sealL_length, show t.length + 4 - 4 = t.length by omega, sealL_drop, getV_leB _ 4 hcr.1 (by omega)]
      · intro h
        have h2 : leB (crcV t) 4 = (bytesOf s).drop ((bytesOf s).length - 4) := by
          rw [← h]
          have := leB_getV ((bytesOf s).drop ((bytesOf s).length - 4)) (fun b h => hb b (List.mem_of_mem_drop h))
          rw [List.length_drop, show (bytesOf s).length - ((bytesOf s).length - 4) = 4 by omega] at this
          exact this
        rw [sealL, h2, ← htl, List.take_append_drop, strOfNums_bytesOf]
    by_cases hk : getV ((bytesOf s).drop ((bytesOf s).length - 4)) = crcV t
    · rw [if_pos (key.2 hk), if_pos hk]
    · rw [if_neg (fun h => hk (key.1 h)), if_neg hk]; rfl
end Go.Proofs.Ytgjhhbljbnbjkaa.PA
