import Derived.Test.YtgjhhbljbnbjkaaLnice
namespace Go.Proofs.Ytgjhhbljbnbjkaa.PA
open Go.RowKit Go.Proofs.YtgjhhbljbnbjkaaW.PrintWords Go.Proofs.YtgjhhbljbnbjkaaW.PrintLast Go.Proofs.YtgjhhbljbnbjkaaW.PrintMore
set_option linter.unusedVariables false
set_option linter.unusedSimpArgs false
/-! ### The checksum is linear, and loses nothing -/
theorem crcBit_xor (a b : Nat) : crcBit (a ^^^ b) = crcBit a ^^^ crcBit b := by
  have hm : (a ^^^ b) % 2 = (a % 2 + b % 2) % 2 := by
    have h : (a ^^^ b) % 2 = 1 ↔ ¬ (a % 2 = 1 ↔ b % 2 = 1) := Nat.xor_mod_two_eq_one
    by_cases h1 : a % 2 = 1
    · by_cases h2 : b % 2 = 1
      · have : ¬ (a ^^^ b) % 2 = 1 := fun e => (h.1 e) ⟨fun _ => h2, fun _ => h1⟩
        omega
      · have : (a ^^^ b) % 2 = 1 := h.2 (fun e => h2 (e.1 h1))
        omega
    · by_cases h2 : b % 2 = 1
      · have : (a ^^^ b) % 2 = 1 := h.2 (fun e => h1 (e.2 h2))
        omega
      · have : ¬ (a ^^^ b) % 2 = 1 := fun e => (h.1 e) ⟨fun e => absurd e h1, fun e => absurd e h2⟩
        omega
  have hd : (a ^^^ b) / 2 = a / 2 ^^^ b / 2 := by
    have := Nat.xor_div_two_pow (a := a) (b := b) (n := 1)
    simpa using this
  unfold crcBit
  by_cases h1 : a % 2 = 1
  · by_cases h2 : b % 2 = 1
    · rw [if_neg (by omega), if_pos h1, if_pos h2, hd]
      rw [Nat.xor_assoc, Nat.xor_comm 3988292384, Nat.xor_assoc (b / 2), Nat.xor_self, Nat.xor_zero]
    · rw [if_pos (by omega), if_pos h1, if_neg h2, hd, Nat.xor_assoc, Nat.xor_assoc, Nat.xor_comm (b / 2)]
  · by_cases h2 : b % 2 = 1
    · rw [if_pos (by omega), if_neg h1, if_pos h2, hd, Nat.xor_assoc]
    · rw [if_neg (by omega), if_neg h1, if_neg h2, hd]
theorem crcBits_xor (n a b : Nat) : crcBits n (a ^^^ b) = crcBits n a ^^^ crcBits n b := by
  induction n generalizing a b with
  | zero => rfl
  | succ n ih => rw [crcBits_succ, crcBit_xor, ih]; rfl
theorem crcBits_zero (n : Nat) : crcBits n 0 = 0 := by
  induction n with
  | zero => rfl
  | succ n ih => rw [crcBits_succ, show crcBit 0 = 0 from rfl, ih]
theorem crcBit_ne {s : Nat} (h : s < 4294967296) (h0 : s ≠ 0) : crcBit s ≠ 0 := by
  unfold crcBit
  split
  · intro e
    have : s / 2 = 3988292384 := by
      have h2 := congrArg (· ^^^ 3988292384) e
      simp only [Nat.xor_assoc, Nat.xor_self, Nat.xor_zero, Nat.zero_xor] at h2
      exact h2
    omega
  · omega
theorem crcBits_ne (n : Nat) {s : Nat} (h : s < 4294967296) (h0 : s ≠ 0) : crcBits n s ≠ 0 := by
  induction n generalizing s with
  | zero => exact h0
  | succ n ih => exact ih (crcBit_lt h) (crcBit_ne h h0)
theorem crcBits_even (n : Nat) (s : Nat) (h : s % 2 ^ n = 0) : crcBits n s = s / 2 ^ n := by
  induction n generalizing s with
  | zero => simp [crcBits]
  | succ n ih =>
    have h2 : s % 2 = 0 := by
      have : s % 2 = (s % 2 ^ (n + 1)) % 2 := by rw [Nat.mod_mod_of_dvd _ (by rw [Nat.pow_succ]; exact Nat.dvd_mul_left 2 _)]
      omega
    have e : crcBit s = s / 2 := by unfold crcBit; rw [if_neg (by omega)]
    rw [crcBits_succ, e, ih]
    · rw [Nat.div_div_eq_div_mul, Nat.pow_succ, Nat.mul_comm]
    · have hp : 2 ^ (n + 1) = 2 * 2 ^ n := by rw [Nat.pow_succ, Nat.mul_comm]
      have hdv : 2 * 2 ^ n ∣ s := by rw [← hp]; exact Nat.dvd_of_mod_eq_zero h
      obtain ⟨q, rfl⟩ := hdv
      rw [Nat.mul_assoc, Nat.mul_div_cancel_left _ (by omega), Nat.mul_mod_right]
def xorL : List Int → List Nat → List Int
  | a :: l, b :: m => ((a.toNat ^^^ b : Nat) : Int) :: xorL l m
  | l, _ => l
def natL (e : List Nat) : List Int := e.map (fun x : Nat => ((x : Nat) : Int))
theorem xorL_length (l : List Int) (e : List Nat) : (xorL l e).length = l.length := by
  induction l generalizing e with
  | nil => simp [xorL]
  | cons a l ih => cases e <;> simp [xorL, ih]
theorem crcByte_xor (s t : Nat) (a : Int) (b : Nat) : crcByte (s ^^^ t) ((a.toNat ^^^ b : Nat) : Int) = crcByte s a ^^^ crcByte t (b : Int) := by
  unfold crcByte
  rw [← crcBits_xor]
  congr 1
  rw [Int.toNat_natCast, Int.toNat_natCast, Nat.xor_assoc, Nat.xor_assoc, ← Nat.xor_assoc t, Nat.xor_comm t, Nat.xor_assoc]
theorem crcL_xor (l : List Int) : ∀ (e : List Nat) (s t : Nat), e.length = l.length → crcL (s ^^^ t) (xorL l e) = crcL s l ^^^ crcL t (natL e) := by
  induction l with
  | nil => intro e s t h; have : e = [] := List.eq_nil_of_length_eq_zero (by simpa using h); subst this; rfl
  | cons a l ih =>
    intro e s t h
    match e, h with
    | b :: e, h =>
      simp only [xorL, natL, List.map_cons, crcL_cons, crcByte_xor]
      exact ih e _ _ (by simpa using h)
theorem crcL_zeros (n : Nat) : crcL 0 (List.replicate n 0) = 0 := by
  induction n with
  | zero => rfl
  | succ n ih => rw [List.replicate_succ, crcL_cons, show crcByte 0 0 = 0 from crcBits_zero 8, ih]
theorem crcL_ne (l : List Int) (hl : ∀ b ∈ l, b = 0) {s : Nat} (h : s < 4294967296) (h0 : s ≠ 0) : crcL s l ≠ 0 := by
  induction l generalizing s with
  | nil => exact h0
  | cons b l ih =>
    have hb := hl b (by simp)
    subst hb
    rw [crcL_cons]
    have e : crcByte s 0 = crcBits 8 s := by unfold crcByte; simp
    rw [e]
    exact ih (fun c hc => hl c (by simp [hc])) (crcBits_lt h) (crcBits_ne 8 h h0)
theorem crcByte_low (s : Nat) : crcByte s ((s % 256 : Nat) : Int) = s / 256 := by
  unfold crcByte
  rw [Int.toNat_natCast]
  have e : s ^^^ s % 256 = 256 * (s / 256) := by
    apply Nat.eq_of_testBit_eq
    intro i
    rw [Nat.testBit_xor, show (256 : Nat) = 2 ^ 8 from rfl, Nat.testBit_mod_two_pow, Nat.testBit_two_pow_mul, Nat.testBit_div_two_pow]
    by_cases h : i < 8
    · simp [h]; omega
    · simp [h]
      have : 8 ≤ i := by omega
      simp [this]
  rw [e, crcBits_even 8 _ (by omega)]
  omega
theorem leB_nat (s n : Nat) : leB (s : Int) (n + 1) = ((s % 256 : Nat) : Int) :: leB ((s / 256 : Nat) : Int) n := by
  simp only [leB]
  congr 1
theorem crcL_self (n : Nat) : ∀ s : Nat, s < 256 ^ n → crcL s (leB (s : Int) n) = 0 := by
  induction n with
  | zero => intro s h; simp at h; subst h; rfl
  | succ n ih =>
    intro s h
    rw [leB_nat, crcL_cons, crcByte_low]
    exact ih _ (by rw [Nat.pow_succ] at h; omega)
theorem crcL_self4 (s : Nat) (h : s < 4294967296) : crcL s (leB (s : Int) 4) = 0 := crcL_self 4 s h
/-- The pattern of so many turned bits, byte by byte. -/
def patD (at_ : Nat) : Nat → Nat → Nat
  | 0, _ => 0
  | d + 1, i => patD at_ d i ^^^ (if (at_ + d) / 8 = i then 2 ^ ((at_ + d) % 8) else 0)
theorem patD_shift (p j d i : Nat) : patD (8 * p + j) d (p + i) = patD j d i := by
  induction d with
  | zero => rfl
  | succ d ih =>
    simp only [patD, ih]
    have e1 : (8 * p + j + d) / 8 = p + (j + d) / 8 := by omega
    have e2 : (8 * p + j + d) % 8 = (j + d) % 8 := by omega
    rw [e1, e2]
    by_cases h : (j + d) / 8 = i
    · rw [if_pos (by omega), if_pos h]
    · rw [if_neg (by omega), if_neg h]
theorem patD_low (at_ d i : Nat) (h : i < at_ / 8) : patD at_ d i = 0 := by
  induction d with
  | zero => rfl
  | succ d ih => rw [patD, ih, if_neg (by omega)]; rfl
theorem patD_high (at_ d i : Nat) (h : (at_ + d) / 8 < i) : patD at_ d i = 0 := by
  induction d with
  | zero => rfl
  | succ d ih => rw [patD, ih (by omega), if_neg (by omega)]; rfl
theorem patD_byte (at_ d i : Nat) : patD at_ d i < 256 := by
  induction d with
  | zero => show 0 < 256; decide
  | succ d ih =>
    rw [patD]
    refine Nat.xor_lt_two_pow (n := 8) ih ?_
    split
    · exact Nat.pow_lt_pow_right (by decide) (by omega)
    · decide
def patL (at_ d N : Nat) : List Nat := (List.range' 0 N).map (patD at_ d)
theorem small_pat : ∀ j, j < 8 → ∀ d, d < 4 → 1 ≤ d → patD j d 0 ≠ 0 ∧ crcByte 0 ((patD j d 0 : Nat) : Int) ≠ patD j d 1 := by decide +kernel
theorem natL_append (a b : List Nat) : natL (a ++ b) = natL a ++ natL b := by simp [natL]
theorem natL_zero (l : List Nat) (h : ∀ x ∈ l, x = 0) : ∀ b ∈ natL l, b = 0 := by
  intro b hb
  simp only [natL, List.mem_map] at hb
  obtain ⟨x, hx, rfl⟩ := hb
  rw [h x hx]; rfl
theorem crcL_zero_all (l : List Int) (h : ∀ b ∈ l, b = 0) : crcL 0 l = 0 := by
  have : l = List.replicate l.length 0 := List.eq_replicate_iff.2 ⟨rfl, h⟩
  rw [this]; exact crcL_zeros _
theorem pat_ne (at_ d N : Nat) (h1 : 1 ≤ d) (h3 : d ≤ 3) (hN : at_ + d ≤ 8 * N) : crcL 0 (natL (patL at_ d N)) ≠ 0 := by
  obtain ⟨p, j, hj, rfl⟩ : ∃ p j, j < 8 ∧ at_ = 8 * p + j := ⟨at_ / 8, at_ % 8, by omega, by omega⟩
  obtain ⟨r, rfl⟩ : ∃ r, N = p + (1 + r) := ⟨N - p - 1, by omega⟩
  obtain ⟨s0, s1⟩ := small_pat j hj d (by omega) h1
  have e0 : patD (8 * p + j) d p = patD j d 0 := patD_shift p j d 0
  have hb := patD_byte j d 0
  have hlt : crcByte 0 ((patD j d 0 : Nat) : Int) < 4294967296 := crcBits_lt (Nat.xor_lt_two_pow (n := 32) (by decide) (by simp; omega))
  have hne : crcByte 0 ((patD j d 0 : Nat) : Int) ≠ 0 := by
    unfold crcByte
    simp only [Int.toNat_natCast, Nat.zero_xor]
    exact crcBits_ne 8 (by omega) s0
  have hz : crcL 0 (natL ((List.range' 0 p).map (patD (8 * p + j) d))) = 0 := crcL_zero_all _ (natL_zero _ (fun x hx => by
    simp only [List.mem_map, List.mem_range'_1] at hx
    obtain ⟨i, hi, rfl⟩ := hx
    exact patD_low _ _ _ (by omega)))
  unfold patL
  rw [← List.range'_append_1, List.map_append, natL_append, crcL_append, hz, Nat.zero_add]
  rw [show 1 + r = r + 1 by omega, List.range'_succ, List.map_cons, natL, List.map_cons, crcL_cons, e0]
  cases r with
  | zero => simpa [crcL_nil] using hne
  | succ r =>
    rw [List.range'_succ, List.map_cons, List.map_cons, crcL_cons, patD_shift p j d 1]
    have hb1 := patD_byte j d 1
    refine crcL_ne _ ?_ (crcBits_lt (Nat.xor_lt_two_pow (n := 32) hlt (by simp; omega))) ?_
    · refine natL_zero _ (fun x hx => ?_)
      simp only [List.mem_map, List.mem_range'_1] at hx
      obtain ⟨i, hi, rfl⟩ := hx
      exact patD_high _ _ _ (by omega)
    · refine crcBits_ne 8 (Nat.xor_lt_two_pow (n := 32) hlt (by simp; omega)) ?_
      intro e
      apply s1
      have := congrArg (· ^^^ patD j d 1) e
      simpa [Nat.xor_assoc] using this
theorem xor_cat (a b x y : Nat) (ha : a < 256) (hb : b < 256) : (a + 256 * x) ^^^ (b + 256 * y) = (a ^^^ b) + 256 * (x ^^^ y) := by
  have hab : a ^^^ b < 256 := Nat.xor_lt_two_pow (n := 8) ha hb
  apply Nat.eq_of_testBit_eq
  intro i
  have t : ∀ c z, c < 256 → (c + 256 * z).testBit i = if i < 8 then c.testBit i else z.testBit (i - 8) := fun c z hc => by
    rw [Nat.add_comm]
    exact Nat.testBit_two_pow_mul_add z (i := 8) hc i
  rw [Nat.testBit_xor, t a x ha, t b y hb, t _ _ hab]
  split <;> simp [Nat.testBit_xor]
theorem getV_xor (l : List Int) : ∀ e : List Nat, e.length = l.length → byteL l → (∀ x ∈ e, x < 256) → getV (xorL l e) = (((getV l).toNat ^^^ (getV (natL e)).toNat : Nat) : Int) := by
  induction l with
  | nil => intro e h _ _; have : e = [] := List.eq_nil_of_length_eq_zero (by simpa using h); subst this; rfl
  | cons a l ih =>
    intro e h hb he
    match e, h, he with
    | b :: e, h, he =>
      obtain ⟨a0, a1, hl⟩ := byteL_cons hb
      have hbb := he b (by simp)
      have hee : ∀ x ∈ e, x < 256 := fun x hx => he x (by simp [hx])
      have hne : byteL (natL e) := by
        intro x hx
        simp only [natL, List.mem_map] at hx
        obtain ⟨y, hy, rfl⟩ := hx
        have := hee y hy
        omega
      have g1 := (getV_range l hl).1
      have g2 := (getV_range (natL e) hne).1
      have h2 := ih e (by simpa using h) hl hee
      simp only [xorL, natL, List.map_cons, getV]
      rw [h2]
      have e1 : (a + 256 * getV l).toNat = a.toNat + 256 * (getV l).toNat := by omega
      have e2 : ((b : Int) + 256 * getV (natL e)).toNat = b + 256 * (getV (natL e)).toNat := by omega
      show _ = (((a + 256 * getV l).toNat ^^^ ((b : Int) + 256 * getV (natL e)).toNat : Nat) : Int)
      rw [e1, e2, xor_cat _ _ _ _ (by omega) hbb]
      omega
def sealL (l : List Int) : List Int := l ++ leB (crcV l) 4
theorem xorL_append (a b : List Int) (e f : List Nat) (h : e.length = a.length) : xorL (a ++ b) (e ++ f) = xorL a e ++ xorL b f := by
  induction a generalizing e with
  | nil => have : e = [] := List.eq_nil_of_length_eq_zero (by simpa using h); subst this; rfl
  | cons x a ih =>
    match e, h with
    | y :: e, h => simp only [List.cons_append, xorL]; rw [ih e (by simpa using h)]
theorem turned_open (l : List Int) (hl : byteL l) (e : List Nat) (he : e.length = l.length + 4) (hb : ∀ x ∈ e, x < 256) (hne : crcL 0 (natL e) ≠ 0) : openL (xorL (sealL l) e) = ([], 16) := by
  obtain ⟨em, ec, rfl, hm, hc⟩ : ∃ em ec, e = em ++ ec ∧ em.length = l.length ∧ ec.length = 4 := ⟨e.take l.length, e.drop l.length, by simp, by simp; omega, by simp; omega⟩
  have hbm : ∀ x ∈ em, x < 256 := fun x hx => hb x (by simp [hx])
  have hbc : ∀ x ∈ ec, x < 256 := fun x hx => hb x (by simp [hx])
  have hcl : crcL 4294967295 l < 4294967296 := crcL_lt (by decide) hl
  have hcr := crcV_range l hl
  have hlen : (xorL (sealL l) (em ++ ec)).length = l.length + 4 := by rw [xorL_length]; simp [sealL, leB_length]
  have hxm : (xorL l em).length = l.length := xorL_length _ _
  rw [openL, if_neg (by omega), hlen, show l.length + 4 - 4 = l.length by omega, sealL, xorL_append _ _ _ _ hm]
  rw [List.drop_append_of_le_length (by omega), List.drop_eq_nil_of_le (by omega), List.nil_append, List.take_append_of_le_length (by omega), List.take_of_length_le (by omega)]
  rw [if_neg]
  intro h
  apply hne
  have hnc : byteL (natL ec) := by
    intro x hx
    simp only [natL, List.mem_map] at hx
    obtain ⟨y, hy, rfl⟩ := hx
    have := hbc y hy
    omega
  have hg := getV_range (natL ec) hnc
  rw [show (natL ec).length = 4 by simp [natL, hc]] at hg
  rw [getV_xor _ ec (by rw [leB_length, hc]) (byteL_leB _ _) hbc, getV_leB _ 4 hcr.1 (by omega)] at h
  have hx := crcL_xor l em 4294967295 0 hm
  rw [Nat.xor_zero] at hx
  unfold crcV at h
  rw [hx, Int.toNat_natCast] at h
  have h2 : ((crcL 4294967295 l ^^^ 4294967295) ^^^ (getV (natL ec)).toNat) = ((crcL 4294967295 l ^^^ crcL 0 (natL em)) ^^^ 4294967295) := by exact_mod_cast h
  have h3 : (getV (natL ec)).toNat = crcL 0 (natL em) := by
    have := congrArg (fun z => (crcL 4294967295 l ^^^ 4294967295) ^^^ z) h2
    simp only [← Nat.xor_assoc, Nat.xor_self, Nat.zero_xor] at this
    rw [this]
    rw [Nat.xor_assoc (crcL 4294967295 l), Nat.xor_comm 4294967295, ← Nat.xor_assoc (crcL 4294967295 l), Nat.xor_self, Nat.zero_xor, Nat.xor_comm 4294967295, Nat.xor_assoc, Nat.xor_self, Nat.xor_zero]
  have h4 : natL ec = leB ((crcL 0 (natL em) : Nat) : Int) 4 := by
    rw [← h3]
    have h5 := leB_getV (natL ec) hnc
    rw [show (natL ec).length = 4 by simp [natL, hc]] at h5
    rw [show (((getV (natL ec)).toNat : Nat) : Int) = getV (natL ec) by omega]
    exact h5.symm
  rw [natL_append, crcL_append, h4]
  refine crcL_self4 _ (crcL_lt (by decide) ?_)
  intro x hx
  simp only [natL, List.mem_map] at hx
  obtain ⟨y, hy, rfl⟩ := hx
  have := hbm y hy
  omega
theorem sealL_length (l : List Int) : (sealL l).length = l.length + 4 := by simp [sealL, leB_length]
theorem sealL_byteL {l : List Int} (h : byteL l) : byteL (sealL l) := byteL_append h (byteL_leB _ _)
theorem seal_val (l : List Int) (hl : byteL l) (hm : l.length ≤ 140737488351232) : pack_Seal.f (10 * l.length + 20) l = some (sealL l) := by
  have hcr := crcV_range l hl
  have h1 : pack_Crc.f (10 * l.length + 20) l = some (crcV l) := by
    have h := crc_tells l hl (by omega) l.length (10 * l.length + 20) 0 4294967295 (by decide) (by omega) (by omega)
    simpa [pack_Crc.f, crcV] using h
  have h2 : pack_put.f (10 * l.length + 20) l (crcV l) 4 = some (l ++ leB (crcV l) 4) := by
    rw [pack_put.f]
    exact put_tells 4 (by omega) 4 (10 * l.length + 20) (crcV l) l 0 (by omega) (by omega) (by omega) (by omega)
  unfold pack_Seal.f
  rw [bytes_Clone.f, if_pos (by omega), h1]
  simp only [Option.bind_some]
  rw [u64_id _ hcr.1 (by omega), h2]
  rfl
theorem sealW (A : Option Addr) (c : Nat) (l : List Int) (w : World) (hr : Kd.C (Kd.int .u8) w A l.length l) (hc : l.length ≤ c) (hb : byteL l) (hl : l.length ≤ 140737488351232) :
    Calls Try.prog 13 #[.slice A l.length c] w fun e w' => ∃ g c', e = .returned (.slice (some ⟨g, 0, none⟩) (sealL l).length c') ∧ Aside0 (Kd.R (Kd.int .u8) 5 w' w.heap.size (fun _ => True) (.slice (some ⟨g, 0, none⟩) (sealL l).length c') (sealL l)) ∧ Aside0 (Below w.heap.size w w') := by
  refine (pack_Seal.calls _ A c l _ w hr hc (seal_val l hb hl)).mono ?_
  rintro e w' ⟨v, rfl, hR, hB⟩
  obtain ⟨inner, ho⟩ := Kd.R_own hR
  rcases ho.2 with ⟨rfl, h0⟩ | ⟨g, cap, cur, rfl, _⟩
  · exfalso
    rw [sealL_length] at h0
    omega
  · exact ⟨g, cap, rfl, ⟨hR⟩, ⟨hB⟩⟩
theorem openW (A : Option Addr) (c : Nat) (b : List Int) (w : World) (hr : Kd.C (Kd.int .u8) w A b.length b) (hc : b.length ≤ c) (hb : byteL b) (hl : b.length ≤ 140737488355328) :
    Calls Try.prog 12 #[.slice A b.length c] w fun e w' => ∃ A' c', e = .returned (.tuple #[.slice A' (openL b).1.length c', .int .i64 (openL b).2]) ∧ Aside0 (Kd.C (Kd.int .u8) w' A' (openL b).1.length (openL b).1) ∧ Aside0 ((openL b).1.length ≤ c') ∧ Aside0 (Below w.heap.size w w') := by
  refine (pack_Open.calls A c b _ _ w hr hc (by rw [pack_Open.f, if_pos ⟨byteB_iff.2 hb, hl⟩])).mono ?_
  rintro e w' ⟨v, rfl, hR, hB⟩
  obtain ⟨A', c', rfl, hl, hC⟩ := Kd.R_reads hR
  exact ⟨A', c', rfl, ⟨hC⟩, ⟨hl⟩, ⟨hB⟩⟩
end Go.Proofs.Ytgjhhbljbnbjkaa.PA
