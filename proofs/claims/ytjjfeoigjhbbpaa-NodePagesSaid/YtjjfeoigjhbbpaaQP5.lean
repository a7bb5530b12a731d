/- Texts of this claim: contracts of the functions that the statement reaches, and plain laws of what they compute. -/
import Derived.Test.YtjjfeoigjhbbpaaQP4
set_option linter.unusedVariables false
set_option linter.unusedSimpArgs false
namespace Go.Proofs.Ytjjfeoigjhbbpaa.PA
section

open Go.RowKit Go.Proofs.YtjjfeoigjhbbpaaW.PrintWords Go.Proofs.YtjjfeoigjhbbpaaW.PrintLast Go.Proofs.YtjjfeoigjhbbpaaW.PrintMore
attribute [local go_sem] pr_leq pr_geq pr_gtr max2_int min2_int max_two min_two max_three min_three max_four min_four
set_option linter.unusedVariables false
set_option linter.unusedSimpArgs false
abbrev ba (l : List UInt8) : ByteArray := ⟨l.toArray⟩
theorem ba_size (l : List UInt8) : (ba l).size = l.length := by simp [ByteArray.size]
theorem ba_of (s : ByteArray) : ba s.data.toList = s := rfl
theorem ba_inj {l m : List UInt8} (h : ba l = ba m) : l = m := by
  have := congrArg (fun s : ByteArray => s.data.toList) h
  simpa using this
theorem ba_cut (l : List UInt8) (i j : Nat) : (ba l).extract i j = ba ((l.drop i).take (j - i)) := by
  apply ByteArray.ext
  rw [ByteArray.data_extract]
  simp [List.extract_toArray, List.extract_eq_take_drop]
theorem rdb_cons (x : UInt8) (t : List UInt8) (b : Bool) : rdb (ba (x :: t)) b = (x.toNat, ba t, b) := by
  unfold rdb
  rw [if_neg (by rw [ba_size]; simp), ba_cut, ba_cut, ba_size]
  have e1 : ((x :: t).drop 0).take (1 - 0) = [x] := rfl
  have e2 : ((x :: t).drop 1).take ((x :: t).length - 1) = t := by simp
  rw [e1, e2]
  have e3 : bt (ba [x]) 0 = (x.toNat : Int) := by
    unfold bt
    rw [dif_pos (by rw [ba_size]; exact Nat.zero_lt_one)]
    rfl
  rw [e3]
  rfl
theorem rdb_nil (b : Bool) : rdb (ba []) b = (0, ba [], true) := by
  unfold rdb
  rw [if_pos (by rfl)]
theorem rdb_inv {s s' : ByteArray} {b : Bool} {n : Nat} (h : rdb s b = (n, s', false)) : b = false ∧ n ≤ 255 ∧ s.data.toList = UInt8.ofNat n :: s'.data.toList := by
  obtain ⟨l, rfl⟩ : ∃ l, s = ba l := ⟨s.data.toList, rfl⟩
  cases l with
  | nil => rw [rdb_nil] at h; simp at h
  | cons x t =>
    rw [rdb_cons] at h
    simp only [Prod.mk.injEq] at h
    obtain ⟨rfl, rfl, h3⟩ := h
    have := x.toNat_lt
    exact ⟨h3, by omega, by simp⟩
theorem rdt_text (k : ByteArray) (hk : k.size ≤ 255) (t : List UInt8) (b : Bool) : rdt (ba (textL k ++ t)) b = (k, ba t, b) := by
  unfold rdt textL
  rw [List.cons_append, rdb_cons]
  have e : (UInt8.ofNat k.size).toNat = k.size := by simp; omega
  have e2 : k.data.toList.length = k.size := rfl
  dsimp only
  rw [e, ba_size, if_neg (by rw [List.length_append, e2]; omega), ba_cut, ba_cut]
  rw [List.drop_zero, Nat.sub_zero, List.take_left' e2, List.drop_left' e2, List.length_append, e2, Nat.add_sub_cancel_left, List.take_length]
theorem rdt_inv {s s' k : ByteArray} {b : Bool} (h : rdt s b = (k, s', false)) : b = false ∧ k.size ≤ 255 ∧ s.data.toList = textL k ++ s'.data.toList := by
  unfold rdt at h
  obtain ⟨n, s1, b1, h1⟩ : ∃ n s1 b1, rdb s b = (n, s1, b1) := ⟨_, _, _, rfl⟩
  rw [h1] at h
  dsimp only at h
  split at h
  · simp at h
  · rename_i hn
    simp only [Prod.mk.injEq] at h
    obtain ⟨rfl, rfl, rfl⟩ := h
    obtain ⟨hb, hn', hs⟩ := rdb_inv h1
    obtain ⟨l, rfl⟩ : ∃ l, s1 = ba l := ⟨s1.data.toList, rfl⟩
    rw [ba_size] at hn
    rw [ba_cut, ba_cut, hs, ba_size, List.drop_zero, Nat.sub_zero]
    have e : (ba (l.take n)).size = n := by rw [ba_size, List.length_take]; omega
    refine ⟨hb, by show (ba (l.take n)).size ≤ 255; rw [e]; exact hn', ?_⟩
    unfold textL
    rw [e, List.cons_append]
    congr 1
    show l = l.take n ++ (l.drop n).take (l.length - n)
    have e3 : (l.drop n).take (l.length - n) = l.drop n := List.take_of_length_le (by rw [List.length_drop]; exact Nat.le_refl _)
    rw [e3, List.take_append_drop]
theorem decP_enc : ∀ (P : List S48) (l : List S48) (t : List UInt8), (∀ x ∈ P, x.f0.size ≤ 255 ∧ x.f1.size ≤ 255) → decP P.length (ba (P.flatMap pairL ++ t)) false l = (ba t, false, l ++ P)
  | [], l, t, h => by simp [decP]
  | p :: P, l, t, h => by
    have hp := h p List.mem_cons_self
    rw [List.length_cons, decP, if_neg (by decide), List.flatMap_cons, pairL, List.append_assoc, List.append_assoc, rdt_text _ hp.1, rdt_text _ hp.2, decP_enc P _ t (fun x hx => h x (List.mem_cons_of_mem _ hx))]
    simp
theorem decK_enc : ∀ (K : List ByteArray) (l : List ByteArray) (t : List UInt8), (∀ x ∈ K, x.size ≤ 255) → decK K.length (ba (K.flatMap textL ++ t)) false l = (ba t, false, l ++ K)
  | [], l, t, h => by simp [decK]
  | p :: P, l, t, h => by
    have hp := h p List.mem_cons_self
    rw [List.length_cons, decK, if_neg (by decide), List.flatMap_cons, List.append_assoc, rdt_text _ hp, decK_enc P _ t (fun x hx => h x (List.mem_cons_of_mem _ hx))]
    simp
theorem kid_back (k : Int) (h0 : 0 ≤ k) (h1 : k ≤ 65535) : (((UInt8.ofNat (k % 256).toNat).toNat + 256 * (UInt8.ofNat (k / 256 % 256).toNat).toNat : Nat) : Int) = k := by
  have e1 : (UInt8.ofNat (k % 256).toNat).toNat = (k % 256).toNat := by simp; omega
  have e2 : (UInt8.ofNat (k / 256 % 256).toNat).toNat = (k / 256 % 256).toNat := by simp; omega
  rw [e1, e2]
  omega
theorem decD_enc : ∀ (D l : List Int) (t : List UInt8), (∀ x ∈ D, 0 ≤ x ∧ x ≤ 65535) → decD D.length (ba (D.flatMap kidL ++ t)) false l = (ba t, false, l ++ D)
  | [], l, t, h => by simp [decD]
  | p :: P, l, t, h => by
    have hp := h p List.mem_cons_self
    rw [List.length_cons, decD, if_neg (by decide), List.flatMap_cons, kidL]
    simp only [List.cons_append, List.nil_append, rdb_cons]
    rw [decD_enc P _ t (fun x hx => h x (List.mem_cons_of_mem _ hx)), kid_back p hp.1 hp.2]
    simp
theorem decP_inv : ∀ (n : Nat) (s s' : ByteArray) (b : Bool) (l l' : List S48), decP n s b l = (s', false, l') → (0 < n → b = false) ∧ ∃ P : List S48, l' = l ++ P ∧ P.length = n ∧ s.data.toList = P.flatMap pairL ++ s'.data.toList ∧ (n = 0 → b = false)
  | 0, s, s', b, l, l', h => by
    simp only [decP, Prod.mk.injEq] at h
    obtain ⟨rfl, rfl, rfl⟩ := h
    exact ⟨fun h => by omega, [], by simp⟩
  | n + 1, s, s', b, l, l', h => by
    rw [decP] at h
    cases b
    · rw [if_neg (by decide)] at h
      obtain ⟨k, s1, b1, h1⟩ : ∃ n s1 b1, rdt s false = (n, s1, b1) := ⟨_, _, _, rfl⟩
      rw [h1] at h
      dsimp only at h
      obtain ⟨v, s2, b2, h2⟩ : ∃ n s2 b2, rdt s1 b1 = (n, s2, b2) := ⟨_, _, _, rfl⟩
      rw [h2] at h
      obtain ⟨hb, P, rfl, hl, hs, hz⟩ := decP_inv n s2 s' b2 _ l' h
      have hb2 : b2 = false := by rcases Nat.eq_zero_or_pos n with h | h; exact hz h; exact hb h
      subst hb2
      obtain ⟨hb1, hv, e2⟩ := rdt_inv h2
      subst hb1
      obtain ⟨_, hk, e1⟩ := rdt_inv h1
      refine ⟨fun _ => rfl, ⟨k, v⟩ :: P, by simp, by simp [hl], ?_, fun _ => rfl⟩
      rw [e1, e2, hs, List.flatMap_cons, pairL]
      simp
    · rw [if_pos rfl] at h; simp at h
theorem decK_inv : ∀ (n : Nat) (s s' : ByteArray) (b : Bool) (l l' : List ByteArray), decK n s b l = (s', false, l') → b = false ∧ ∃ P : List ByteArray, l' = l ++ P ∧ P.length = n ∧ s.data.toList = P.flatMap textL ++ s'.data.toList
  | 0, s, s', b, l, l', h => by
    simp only [decK, Prod.mk.injEq] at h
    obtain ⟨rfl, rfl, rfl⟩ := h
    exact ⟨rfl, [], by simp⟩
  | n + 1, s, s', b, l, l', h => by
    rw [decK] at h
    cases b
    · rw [if_neg (by decide)] at h
      obtain ⟨k, s1, b1, h1⟩ : ∃ n s1 b1, rdt s false = (n, s1, b1) := ⟨_, _, _, rfl⟩
      rw [h1] at h
      obtain ⟨hb, P, rfl, hl, hs⟩ := decK_inv n s1 s' b1 _ l' h
      subst hb
      obtain ⟨_, hk, e1⟩ := rdt_inv h1
      refine ⟨rfl, k :: P, by simp, by simp [hl], ?_⟩
      rw [e1, hs, List.flatMap_cons]
      simp
    · rw [if_pos rfl] at h; simp at h
theorem kid_split (a b : Nat) (ha : a ≤ 255) (hb : b ≤ 255) : kidL ((a + 256 * b : Nat) : Int) = [UInt8.ofNat a, UInt8.ofNat b] := by
  unfold kidL
  rw [show (((a + 256 * b : Nat) : Int) % 256).toNat = a by omega, show (((a + 256 * b : Nat) : Int) / 256 % 256).toNat = b by omega]
theorem decD_inv : ∀ (n : Nat) (s s' : ByteArray) (b : Bool) (l l' : List Int), decD n s b l = (s', false, l') → b = false ∧ ∃ P : List Int, l' = l ++ P ∧ P.length = n ∧ s.data.toList = P.flatMap kidL ++ s'.data.toList
  | 0, s, s', b, l, l', h => by
    simp only [decD, Prod.mk.injEq] at h
    obtain ⟨rfl, rfl, rfl⟩ := h
    exact ⟨rfl, [], by simp⟩
  | n + 1, s, s', b, l, l', h => by
    rw [decD] at h
    cases b
    · rw [if_neg (by decide)] at h
      obtain ⟨k, s1, b1, h1⟩ : ∃ n s1 b1, rdb s false = (n, s1, b1) := ⟨_, _, _, rfl⟩
      rw [h1] at h
      dsimp only at h
      obtain ⟨v, s2, b2, h2⟩ : ∃ n s2 b2, rdb s1 b1 = (n, s2, b2) := ⟨_, _, _, rfl⟩
      rw [h2] at h
      obtain ⟨hb, P, rfl, hl, hs⟩ := decD_inv n s2 s' b2 _ l' h
      subst hb
      obtain ⟨hb1, hv, e2⟩ := rdb_inv h2
      subst hb1
      obtain ⟨_, hk, e1⟩ := rdb_inv h1
      refine ⟨rfl, ((k + 256 * v : Nat) : Int) :: P, by simp, by simp [hl], ?_⟩
      rw [e1, e2, hs, List.flatMap_cons, kid_split k v hk hv]
      simp
    · rw [if_pos rfl] at h; simp at h
theorem dec_enc {lf : Bool} {P : List S48} {K : List ByteArray} {D : List Int} (h : (leafV lf P K D || innerV lf P K D) = true) (hs : sizeN lf P K D ≤ 160) : decV (ba (encL lf P K D)) = (lf, P, K, D, 0) := by
  have hsz : (ba (encL lf P K D)).size ≤ 160 := by rw [ba_size, encL_length]; exact hs
  have hnil : (ba []).toList = [] := by rw [nd_toList]
  rcases Bool.or_eq_true_iff.1 h with hl | hi
  · obtain ⟨rfl, rfl, rfl, h1, h2, h3⟩ := leafV_true hl
    have e0 : encL true P [] [] = 1 :: UInt8.ofNat P.length :: (P.flatMap pairL ++ []) := by simp [encL]
    have ec : (UInt8.ofNat P.length).toNat = P.length := by simp; omega
    have ep := decP_enc P [] [] (fun x hx => by have := pair_size h2 x hx; omega)
    rw [e0] at hsz ⊢
    unfold decV
    rw [rdb_cons]
    dsimp only
    rw [if_pos (by rfl), rdb_cons]
    dsimp only
    rw [ec, ep]
    unfold outL
    rw [if_pos ⟨rfl, hnil, hsz, hl⟩]
    simp
  · obtain ⟨rfl, rfl, h1, h2, h3, h4, h5, h6⟩ := innerV_true hi
    have e0 : encL false [] K D = 2 :: UInt8.ofNat D.length :: (D.flatMap kidL ++ (K.flatMap textL ++ [])) := by simp [encL]
    have ec : (UInt8.ofNat D.length).toNat = D.length := by simp; omega
    have ed := decD_enc D [] (K.flatMap textL ++ []) (fun x hx => by have := kid_size h5 x hx; omega)
    have ek := decK_enc K [] [] (fun x hx => by have := key_size h4 x hx; omega)
    rw [e0] at hsz ⊢
    unfold decV
    rw [rdb_cons]
    dsimp only
    rw [if_neg (by decide), rdb_cons]
    dsimp only
    rw [ec, ed]
    dsimp only
    rw [show D.length - 1 = K.length by omega, ek]
    unfold outI
    rw [if_pos ⟨rfl, hnil, rfl, hsz, hi⟩]
    simp
theorem nil_of {s : ByteArray} (h : s.toList = []) : s.data.toList = [] := by rw [← nd_toList]; exact h
theorem dec_cases (s : ByteArray) : decV s = (false, [], [], [], 2) ∨ ∃ lf P K D, decV s = (lf, P, K, D, 0) ∧ (leafV lf P K D || innerV lf P K D) = true ∧ sizeN lf P K D ≤ 160 ∧ s = ba (encL lf P K D) := by
  unfold decV
  obtain ⟨k, s1, b1, h1⟩ : ∃ n s1 b1, rdb s false = (n, s1, b1) := ⟨_, _, _, rfl⟩
  rw [h1]
  dsimp only
  obtain ⟨n, s2, b2, h2⟩ : ∃ n s' b', rdb s1 b1 = (n, s', b') := ⟨_, _, _, rfl⟩
  rw [h2]
  dsimp only
  split
  · rename_i hk
    subst hk
    obtain ⟨s3, b3, P, h3⟩ : ∃ s3 b3 P, decP n s2 b2 [] = (s3, b3, P) := ⟨_, _, _, rfl⟩
    rw [h3]
    unfold outL
    dsimp only
    split
    · rename_i h
      obtain ⟨rfl, hz, hs, hl⟩ := h
      right
      obtain ⟨hb, P', rfl, hp, e3, hb0⟩ := decP_inv n s2 s3 b2 [] _ h3
      have hb2 : b2 = false := by rcases Nat.eq_zero_or_pos n with h | h; exact hb0 h; exact hb h
      subst hb2
      obtain ⟨rfl, hn, e2⟩ := rdb_inv h2
      obtain ⟨_, _, e1⟩ := rdb_inv h1
      rw [nil_of hz, List.append_nil] at e3
      have es : s = ba (encL true P [] []) := by
        rw [← ba_of s, e1, e2, e3, ← hp]
        rfl
      refine ⟨true, P, [], [], rfl, by rw [hl]; rfl, ?_, es⟩
      rw [← encL_length, ← ba_size, ← es]
      exact hs
    · exact Or.inl rfl
  · rename_i hk
    obtain ⟨s3, b3, D, h3⟩ : ∃ s3 b3 P, decD n s2 b2 [] = (s3, b3, P) := ⟨_, _, _, rfl⟩
    rw [h3]
    dsimp only
    obtain ⟨s4, b4, K, h4⟩ : ∃ s' b' P', decK (n - 1) s3 b3 [] = (s', b', P') := ⟨_, _, _, rfl⟩
    rw [h4]
    unfold outI
    dsimp only
    split
    · rename_i h
      obtain ⟨rfl, hz, rfl, hs, hl⟩ := h
      right
      obtain ⟨rfl, K', rfl, hp, e4⟩ := decK_inv _ s3 s4 b3 [] _ h4
      obtain ⟨rfl, D', rfl, hd, e3⟩ := decD_inv n s2 s3 b2 [] _ h3
      obtain ⟨rfl, hn, e2⟩ := rdb_inv h2
      obtain ⟨_, _, e1⟩ := rdb_inv h1
      rw [nil_of hz, List.append_nil] at e4
      have es : s = ba (encL false [] K D) := by
        rw [← ba_of s, e1, e2, e3, e4, ← hd]
        rfl
      refine ⟨false, [], K, D, rfl, by rw [hl]; simp, ?_, es⟩
      rw [← encL_length, ← ba_size, ← es]
      exact hs
    · exact Or.inl rfl
theorem form_len {lf : Bool} {P : List S48} {K : List ByteArray} {D : List Int} (h : (leafV lf P K D || innerV lf P K D) = true) : P.length ≤ 255 ∧ K.length ≤ 255 ∧ D.length ≤ 255 := by
  rcases Bool.or_eq_true_iff.1 h with hl | hi
  · obtain ⟨_, rfl, rfl, h1, _, _⟩ := leafV_true hl
    exact ⟨h1, by decide, by decide⟩
  · obtain ⟨_, rfl, h1, h2, h3, _, _, _⟩ := innerV_true hi
    exact ⟨by decide, by omega, h2⟩
set_option maxHeartbeats 4000000 in
set_option maxRecDepth 100000 in
theorem cisternlaw11_NodeInverse.walk (a : Bool) (A1 : Option Addr) (c1 : Nat) (l1 : List S48) (A2 : Option Addr) (c2 : Nat) (l2 : List ByteArray) (A3 : Option Addr) (c3 : Nat) (l3 : List Int) (s : ByteArray) (w : World)
    (_wa0 : True ∧ (∀ x_ ∈ l1, (x_.f0.size ≤ maxLen) ∧ (x_.f1.size ≤ maxLen)) ∧ (∀ x_ ∈ l2, x_.size ≤ maxLen) ∧ (∀ x_ ∈ l3, (Lit.int .i64 x_).wf = true)) (hr1 : Kd.C k48 w A1 l1.length l1) (hc1 : l1.length ≤ c1) (y1 : l1.length * 32 ≤ 140737488351232) (hr2 : Kd.C Kd.string w A2 l2.length l2) (hc2 : l2.length ≤ c2) (y2 : l2.length * 16 ≤ 140737488351232) (hr3 : Kd.C (Kd.int .i64) w A3 l3.length l3) (hc3 : l3.length ≤ c3) (y3 : l3.length * 8 ≤ 140737488351232) (_ws : s.size ≤ 140737488351232) :
    Calls Try.prog 7 #[.agg #[.bool a, .slice A1 l1.length c1, .slice A2 l2.length c2, .slice A3 l3.length c3], .string s] w fun e w' => e = .returned (.bool true) ∧ Below w.heap.size w w' := by
  obtain ⟨KK, hK⟩ : ∃ K : Nat, K = 2000 := ⟨_, rfl⟩
  have OF : Aside0 (cisternlaw11_of.f a l1 l2 l3 = some (a, l1, l2, l3)) := ⟨of_val a l1 l2 l3 y1 y2 y3⟩
  have S0S : Aside0 (cisternref11_Same.f KK false [] [] [] false [] [] [] = some true) := ⟨same_self false [] [] [] (by decide) (by decide) (by decide) KK (by simp; omega)⟩
  have R1 := Aside0.mk hr1
  have R2 := Aside0.mk hr2
  have R3 := Aside0.mk hr3
  clear hr1 hr2 hr3 y1 y2 y3 _wa0 _ws
  have bx := heap_alloc_new w (.cells #[.bool a, .slice A1 l1.length c1, .slice A2 l2.length c2, .slice A3 l3.length c3] 26)
  have BA := below_alloc (Below.refl w.heap.size w) (.cells #[.bool a, .slice A1 l1.length c1, .slice A2 l2.length c2, .slice A3 l3.length c3] 26)
  obtain ⟨w0, hw0⟩ : ∃ w0, w0 = w.alloc (.cells #[.bool a, .slice A1 l1.length c1, .slice A2 l2.length c2, .slice A3 l3.length c3] 26) := ⟨_, rfl⟩
  have HW0 := Aside0.mk hw0
  rw [← hw0] at bx BA
  have B0 := Aside0.mk BA
  clear hw0 BA
  have b0 : w0.cell? ⟨w.heap.size, 0, none⟩ = some (.bool a) := blk_cell bx 0
  have b1 : w0.cell? ⟨w.heap.size, 1, none⟩ = some (.slice A1 l1.length c1) := blk_cell bx 1
  have b2 : w0.cell? ⟨w.heap.size, 2, none⟩ = some (.slice A2 l2.length c2) := blk_cell bx 2
  have b3 : w0.cell? ⟨w.heap.size, 3, none⟩ = some (.slice A3 l3.length c3) := blk_cell bx 3
  clear bx
  go_enter Try.func7, Try.ntmps7
  replace R1 := Aside0.mk (Kd.C_below R1.out B0.out)
  replace R2 := Aside0.mk (Kd.C_below R2.out B0.out)
  replace R3 := Aside0.mk (Kd.C_below R3.out B0.out)
  go_wp2_with fail
  rw [← HW0.out]
  refine (cisternlaw11_known.calls true _ known_val).mono ?_
  rintro e w1 ⟨rfl, hB⟩
  have B1 := Aside0.mk (B0.out.trans (hB.mono B0.out.size))
  replace b0 := nd_cell hB b0
  replace b1 := nd_cell hB b1
  replace b2 := nd_cell hB b2
  replace b3 := nd_cell hB b3
  replace R1 := Aside0.mk (Kd.C_below R1.out hB)
  replace R2 := Aside0.mk (Kd.C_below R2.out hB)
  replace R3 := Aside0.mk (Kd.C_below R3.out hB)
  clear hB
  go_wp2_with fail
  refine (cisternlaw11_of.calls a A1 c1 l1 A2 c2 l2 A3 c3 l3 a l1 l2 l3 _ R1.out hc1 R2.out hc2 R3.out hc3 OF.out).mono ?_
  rintro e w2 ⟨v1, v2, v3, rfl, h1, h2, h3, hB⟩
  have B2 := Aside0.mk (B1.out.trans (hB.mono B1.out.size))
  replace b0 := nd_cell hB b0
  replace b1 := nd_cell hB b1
  replace b2 := nd_cell hB b2
  replace b3 := nd_cell hB b3
  replace R1 := Aside0.mk (Kd.C_below R1.out hB)
  replace R2 := Aside0.mk (Kd.C_below R2.out hB)
  replace R3 := Aside0.mk (Kd.C_below R3.out hB)
  clear hB
  obtain ⟨oA1, oc1, rfl⟩ := Kd.R_slice h1
  have oR1 := Aside0.mk h1
  have oL1 := Aside0.mk (Kd.R_reads' h1).2.1
  obtain ⟨oA2, oc2, rfl⟩ := Kd.R_slice h2
  have oR2 := Aside0.mk h2
  have oL2 := Aside0.mk (Kd.R_reads' h2).2.1
  obtain ⟨oA3, oc3, rfl⟩ := Kd.R_slice h3
  have oR3 := Aside0.mk h3
  have oL3 := Aside0.mk (Kd.R_reads' h3).2.1
  clear h1 h2 h3
  by_cases hgood : (leafV a l1 l2 l3 || innerV a l1 l2 l3) = true ∧ sizeN a l1 l2 l3 ≤ 160
  · obtain ⟨hx, hsz⟩ := hgood
    obtain ⟨p, hp⟩ : ∃ p, ba (encL a l1 l2 l3) = p := ⟨_, rfl⟩
    have EE : Aside0 (node_Encode.f a l1 l2 l3 = some (p, 0)) := ⟨by unfold node_Encode.f; rw [if_pos hx, if_pos hsz]; exact congrArg (fun p => some (p, (0 : Int))) hp⟩
    have DE : Aside0 (node_Decode.f p = some (a, l1, l2, l3, 0)) := ⟨by rw [← hp]; unfold node_Decode.f; exact congrArg some (dec_enc hx hsz)⟩
    have CE : Aside0 (node_Check.f a l1 l2 l3 = some 0) := ⟨by rw [check_val, if_pos hx]⟩
    obtain ⟨z1, z2, z3⟩ := form_len hx
    have SS : Aside0 (cisternref11_Same.f KK a l1 l2 l3 a l1 l2 l3 = some true) := ⟨same_self a l1 l2 l3 (by omega) (by omega) (by omega) KK (by omega)⟩
    have SZ : Aside0 (node_Size.f KK a l1 l2 l3 = some (p.size : Int)) := ⟨by rw [size_val a l1 l2 l3 (by omega) (by omega) KK (by omega) (by omega), ← hp]; rw [ba_size, encL_length]; rw [wrap_small (by omega)]⟩
    clear z1 z2 z3 hp hx hsz hK
    go_wp2_with fail
    refine (node_Encode.calls a oA1 oc1 l1 oA2 oc2 l2 oA3 oc3 l3 p 0 _ (Kd.R_reads' oR1.out).2.2 oL1.out (Kd.R_reads' oR2.out).2.2 oL2.out (Kd.R_reads' oR3.out).2.2 oL3.out EE.out).mono ?_
    rintro e w3 ⟨rfl, hB⟩
    have B3 := Aside0.mk (B2.out.trans (hB.mono B2.out.size))
    replace b0 := nd_cell hB b0
    replace b1 := nd_cell hB b1
    replace b2 := nd_cell hB b2
    replace b3 := nd_cell hB b3
    replace R1 := Aside0.mk (Kd.C_below R1.out hB)
    replace R2 := Aside0.mk (Kd.C_below R2.out hB)
    replace R3 := Aside0.mk (Kd.C_below R3.out hB)
    clear hB
    clear oR1 oR2 oR3 oL1 oL2 oL3
    go_wp2_with fail
    refine (node_Decode.calls p a l1 l2 l3 0 _ DE.out).mono ?_
    rintro e w4 ⟨v1, v2, v3, rfl, h1, h2, h3, hB⟩
    have B4 := Aside0.mk (B3.out.trans (hB.mono B3.out.size))
    replace b0 := nd_cell hB b0
    replace b1 := nd_cell hB b1
    replace b2 := nd_cell hB b2
    replace b3 := nd_cell hB b3
    replace R1 := Aside0.mk (Kd.C_below R1.out hB)
    replace R2 := Aside0.mk (Kd.C_below R2.out hB)
    replace R3 := Aside0.mk (Kd.C_below R3.out hB)
    clear hB
    obtain ⟨mA1, mc1, rfl⟩ := Kd.R_slice h1
    have mR1 := Aside0.mk h1
    have mL1 := Aside0.mk (Kd.R_reads' h1).2.1
    obtain ⟨mA2, mc2, rfl⟩ := Kd.R_slice h2
    have mR2 := Aside0.mk h2
    have mL2 := Aside0.mk (Kd.R_reads' h2).2.1
    obtain ⟨mA3, mc3, rfl⟩ := Kd.R_slice h3
    have mR3 := Aside0.mk h3
    have mL3 := Aside0.mk (Kd.R_reads' h3).2.1
    clear h1 h2 h3
    obtain ⟨nA, hnnA⟩ : ∃ n, n = w4.heap.size := ⟨_, rfl⟩
    have tA := heap_alloc_new w4 (.cells #[.bool a, .slice mA1 l1.length mc1, .slice mA2 l2.length mc2, .slice mA3 l3.length mc3] 31)
    have hB := below_alloc (Below.refl w4.heap.size w4) (.cells #[.bool a, .slice mA1 l1.length mc1, .slice mA2 l2.length mc2, .slice mA3 l3.length mc3] 31)
    obtain ⟨w5, hwn⟩ : ∃ x, x = w4.alloc (.cells #[.bool a, .slice mA1 l1.length mc1, .slice mA2 l2.length mc2, .slice mA3 l3.length mc3] 31) := ⟨_, rfl⟩
    have HWNnA := Aside0.mk hwn
    rw [← hwn] at tA hB
    rw [← hnnA] at tA
    have TA := Aside0.mk tA
    have NnA := Aside0.mk hnnA
    clear tA hwn
    have B5 := Aside0.mk (B4.out.trans (hB.mono B4.out.size))
    replace b0 := nd_cell hB b0
    replace b1 := nd_cell hB b1
    replace b2 := nd_cell hB b2
    replace b3 := nd_cell hB b3
    replace R1 := Aside0.mk (Kd.C_below R1.out hB)
    replace R2 := Aside0.mk (Kd.C_below R2.out hB)
    replace R3 := Aside0.mk (Kd.C_below R3.out hB)
    replace mR1 := Aside0.mk (Kd.R_below mR1.out hB)
    replace mR2 := Aside0.mk (Kd.R_below mR2.out hB)
    replace mR3 := Aside0.mk (Kd.R_below mR3.out hB)
    clear hB
    go_wp2_with fail
    rw [← HWNnA.out]
    rw [← hnnA]
    clear hnnA
    have ca0 : w5.cell? ⟨nA, 0, none⟩ = some (.bool a) := blk_cell TA.out 0
    have ca1 : w5.cell? ⟨nA, 1, none⟩ = some (.slice mA1 l1.length mc1) := blk_cell TA.out 1
    have ca2 : w5.cell? ⟨nA, 2, none⟩ = some (.slice mA2 l2.length mc2) := blk_cell TA.out 2
    have ca3 : w5.cell? ⟨nA, 3, none⟩ = some (.slice mA3 l3.length mc3) := blk_cell TA.out 3
    have MK : Aside0 (∀ W, Below w5.heap.size w5 W → Below w5.heap.size w5 W ∧ W.cell? ⟨nA, 0, none⟩ = some (.bool a) ∧ W.cell? ⟨nA, 1, none⟩ = some (.slice mA1 l1.length mc1) ∧ W.cell? ⟨nA, 2, none⟩ = some (.slice mA2 l2.length mc2) ∧ W.cell? ⟨nA, 3, none⟩ = some (.slice mA3 l3.length mc3) ∧ W.cell? ⟨w.heap.size, 0, none⟩ = some (.bool a) ∧ W.cell? ⟨w.heap.size, 1, none⟩ = some (.slice A1 l1.length c1) ∧ W.cell? ⟨w.heap.size, 2, none⟩ = some (.slice A2 l2.length c2) ∧ W.cell? ⟨w.heap.size, 3, none⟩ = some (.slice A3 l3.length c3)) := ⟨fun W hb => ⟨hb, nd_cell hb ca0, nd_cell hb ca1, nd_cell hb ca2, nd_cell hb ca3, nd_cell hb b0, nd_cell hb b1, nd_cell hb b2, nd_cell hb b3⟩⟩
    clear ca0 ca1 ca2 ca3 b0 b1 b2 b3
    refine wp_region_held_drew (S := fun W => Below w5.heap.size w5 W ∧ W.cell? ⟨nA, 0, none⟩ = some (.bool a) ∧ W.cell? ⟨nA, 1, none⟩ = some (.slice mA1 l1.length mc1) ∧ W.cell? ⟨nA, 2, none⟩ = some (.slice mA2 l2.length mc2) ∧ W.cell? ⟨nA, 3, none⟩ = some (.slice mA3 l3.length mc3) ∧ W.cell? ⟨w.heap.size, 0, none⟩ = some (.bool a) ∧ W.cell? ⟨w.heap.size, 1, none⟩ = some (.slice A1 l1.length c1) ∧ W.cell? ⟨w.heap.size, 2, none⟩ = some (.slice A2 l2.length c2) ∧ W.cell? ⟨w.heap.size, 3, none⟩ = some (.slice A3 l3.length c3)) (by kernel_rfl) ?_ (fun hHeld => ?_)
    · try dsimp only
      first | exact MK.out _ (Below.drew (Below.refl _ _)) | exact MK.out _ SB1.out | assumption
    refine wpAnyH_take (i := 0) (oi := _) (v := _) rfl (by kernel_rfl) (by kernel_rfl) (by kernel_rfl) (fun _ _ _ h => h) (Or.inl ⟨by rfl, by (intro w hSw; (try dsimp only at hSw); go_simp; try with_reducible rfl)⟩) hHeld ?_
    simp only [Act.put, List.getElem_toArray, List.getElem_cons_zero, List.getElem_cons_succ, List.setIfInBounds_toArray, List.set_cons_zero, List.set_cons_succ]
    refine wpAnyH_take (i := 1) (oi := _) (v := _) rfl (by kernel_rfl) (by kernel_rfl) (by kernel_rfl) (fun _ _ _ h => h) (Or.inl ⟨by rfl, by (intro w hSw; (try dsimp only at hSw); go_simp; try with_reducible rfl)⟩) hHeld ?_
    simp only [Act.put, List.getElem_toArray, List.getElem_cons_zero, List.getElem_cons_succ, List.setIfInBounds_toArray, List.set_cons_zero, List.set_cons_succ]
    refine wpAnyH_take (i := 2) (oi := _) (v := _) rfl (by kernel_rfl) (by kernel_rfl) (by kernel_rfl) (fun _ _ _ h => h) (Or.inl ⟨by rfl, by (intro w hSw; (try dsimp only at hSw); go_simp; try with_reducible rfl)⟩) hHeld ?_
    simp only [Act.put, List.getElem_toArray, List.getElem_cons_zero, List.getElem_cons_succ, List.setIfInBounds_toArray, List.set_cons_zero, List.set_cons_succ]
    refine wpAnyH_take (i := 3) (oi := _) (v := _) rfl (by kernel_rfl) (by kernel_rfl) (by kernel_rfl) (fun _ _ _ h => h) (Or.inl ⟨by rfl, by (intro w hSw; (try dsimp only at hSw); go_simp; try with_reducible rfl)⟩) hHeld ?_
    simp only [Act.put, List.getElem_toArray, List.getElem_cons_zero, List.getElem_cons_succ, List.setIfInBounds_toArray, List.set_cons_zero, List.set_cons_succ]
    refine wpAnyH_take (i := 5) (oi := _) (v := _) rfl (by kernel_rfl) (by kernel_rfl) (by kernel_rfl) (fun _ _ _ h => h) (Or.inl ⟨by rfl, by (intro w hSw; (try dsimp only at hSw); go_simp; try with_reducible rfl)⟩) hHeld ?_
    simp only [Act.put, List.getElem_toArray, List.getElem_cons_zero, List.getElem_cons_succ, List.setIfInBounds_toArray, List.set_cons_zero, List.set_cons_succ]
    refine wpAnyH_ready (rs := [4]) (by kernel_rfl) (by simp) ?_
    refine AllReadyH.cons rfl (fun K hK => ?_) AllReadyH.nil
    go_simp
    refine (backW a mA1 _ mc1 mA2 _ mc2 mA3 _ mc3 _).mono ?_
    rintro e wa ⟨rfl, hb6⟩
    have SB1 : Aside0 (Below w5.heap.size w5 wa) := ⟨Below.trans hHeld.1 (hb6.mono hHeld.1.size)⟩
    clear hb6
    go_simp
    refine hK.out _ _ ?_ (fun hNew => ?_)
    · try dsimp only
      first | exact MK.out _ (Below.drew (Below.refl _ _)) | exact MK.out _ SB1.out | assumption
    clear hK K hHeld
    have hHeld := hNew
    clear hNew
    refine wpAnyH_ready (rs := [6]) (by kernel_rfl) (by simp) ?_
    refine AllReadyH.cons rfl (fun K hK => ?_) AllReadyH.nil
    go_simp
    refine (cisternref11_Same.calls KK a mA1 mc1 l1 mA2 mc2 l2 mA3 mc3 l3 a A1 c1 l1 A2 c2 l2 A3 c3 l3 true _ (Kd.C_below (Kd.R_reads' mR1.out).2.2 hHeld.1) mL1.out (Kd.C_below (Kd.R_reads' mR2.out).2.2 hHeld.1) mL2.out (Kd.C_below (Kd.R_reads' mR3.out).2.2 hHeld.1) mL3.out (Kd.C_below R1.out hHeld.1) hc1 (Kd.C_below R2.out hHeld.1) hc2 (Kd.C_below R3.out hHeld.1) hc3 SS.out).mono ?_
    rintro e wb ⟨rfl, hb6⟩
    have SB1 : Aside0 (Below w5.heap.size w5 wb) := ⟨Below.trans hHeld.1 (hb6.mono hHeld.1.size)⟩
    clear hb6
    go_simp
    refine hK.out _ _ ?_ (fun hNew => ?_)
    · try dsimp only
      first | exact MK.out _ (Below.drew (Below.refl _ _)) | exact MK.out _ SB1.out | assumption
    clear hK K hHeld
    have hHeld := hNew
    clear hNew
    refine wpAnyH_take (i := 7) (oi := _) (v := _) rfl (by kernel_rfl) (by kernel_rfl) (by kernel_rfl) (fun _ _ _ h => h) (Or.inl ⟨by rfl, by (intro w hSw; (try dsimp only at hSw); go_simp; try with_reducible rfl)⟩) hHeld ?_
    simp only [Act.put, List.getElem_toArray, List.getElem_cons_zero, List.getElem_cons_succ, List.setIfInBounds_toArray, List.set_cons_zero, List.set_cons_succ]
    refine wpAnyH_take (i := 8) (oi := _) (v := _) rfl (by kernel_rfl) (by kernel_rfl) (by kernel_rfl) (fun _ _ _ h => h) (Or.inl ⟨by rfl, by (intro w hSw; (try dsimp only at hSw); go_simp; try with_reducible rfl)⟩) hHeld ?_
    simp only [Act.put, List.getElem_toArray, List.getElem_cons_zero, List.getElem_cons_succ, List.setIfInBounds_toArray, List.set_cons_zero, List.set_cons_succ]
    refine wpAnyH_take (i := 9) (oi := _) (v := _) rfl (by kernel_rfl) (by kernel_rfl) (by kernel_rfl) (fun _ _ _ h => h) (Or.inl ⟨by rfl, by (intro w hSw; (try dsimp only at hSw); go_simp; try with_reducible rfl)⟩) hHeld ?_
    simp only [Act.put, List.getElem_toArray, List.getElem_cons_zero, List.getElem_cons_succ, List.setIfInBounds_toArray, List.set_cons_zero, List.set_cons_succ]
    refine wpAnyH_take (i := 10) (oi := _) (v := _) rfl (by kernel_rfl) (by kernel_rfl) (by kernel_rfl) (fun _ _ _ h => h) (Or.inl ⟨by rfl, by (intro w hSw; (try dsimp only at hSw); go_simp; try with_reducible rfl)⟩) hHeld ?_
    simp only [Act.put, List.getElem_toArray, List.getElem_cons_zero, List.getElem_cons_succ, List.setIfInBounds_toArray, List.set_cons_zero, List.set_cons_succ]
    refine wpAnyH_take (i := 11) (oi := _) (v := _) rfl (by kernel_rfl) (by kernel_rfl) (by kernel_rfl) (fun _ _ _ h => h) (Or.inl ⟨by rfl, by (intro w hSw; (try dsimp only at hSw); go_simp; try with_reducible rfl)⟩) hHeld ?_
    simp only [Act.put, List.getElem_toArray, List.getElem_cons_zero, List.getElem_cons_succ, List.setIfInBounds_toArray, List.set_cons_zero, List.set_cons_succ]
    refine wpAnyH_take (i := 12) (oi := _) (v := _) rfl (by kernel_rfl) (by kernel_rfl) (by kernel_rfl) (fun _ _ _ h => h) (Or.inl ⟨by rfl, by (intro w hSw; (try dsimp only at hSw); go_simp; try with_reducible rfl)⟩) hHeld ?_
    simp only [Act.put, List.getElem_toArray, List.getElem_cons_zero, List.getElem_cons_succ, List.setIfInBounds_toArray, List.set_cons_zero, List.set_cons_succ]
    refine wpAnyH_ready (rs := [13]) (by kernel_rfl) (by simp) ?_
    refine AllReadyH.cons rfl (fun K hK => ?_) AllReadyH.nil
    go_simp
    refine (cisternlaw11_of.calls a A1 c1 l1 A2 c2 l2 A3 c3 l3 a l1 l2 l3 _ (Kd.C_below R1.out hHeld.1) hc1 (Kd.C_below R2.out hHeld.1) hc2 (Kd.C_below R3.out hHeld.1) hc3 OF.out).mono ?_
    rintro e wc ⟨v1, v2, v3, rfl, h1, h2, h3, hb6⟩
    obtain ⟨uA1, uc1, rfl⟩ := Kd.R_slice h1
    have uR1 := Aside0.mk h1
    have uL1 := Aside0.mk (Kd.R_reads' h1).2.1
    obtain ⟨uA2, uc2, rfl⟩ := Kd.R_slice h2
    have uR2 := Aside0.mk h2
    have uL2 := Aside0.mk (Kd.R_reads' h2).2.1
    obtain ⟨uA3, uc3, rfl⟩ := Kd.R_slice h3
    have uR3 := Aside0.mk h3
    have uL3 := Aside0.mk (Kd.R_reads' h3).2.1
    clear h1 h2 h3
    have SB1 : Aside0 (Below w5.heap.size w5 wc) := ⟨Below.trans hHeld.1 (hb6.mono hHeld.1.size)⟩
    clear hb6
    go_simp
    refine hK.out _ _ ?_ (fun hNew => ?_)
    · try dsimp only
      first | exact MK.out _ (Below.drew (Below.refl _ _)) | exact MK.out _ SB1.out | assumption
    clear hK K hHeld
    have hHeld := hNew
    clear hNew
    refine wpAnyH_ready (rs := [14]) (by kernel_rfl) (by simp) ?_
    refine AllReadyH.cons rfl (fun K hK => ?_) AllReadyH.nil
    go_simp
    refine (node_Size.calls KK a uA1 uc1 l1 uA2 uc2 l2 uA3 uc3 l3 (p.size : Int) _ (Kd.R_reads' uR1.out).2.2 uL1.out (Kd.R_reads' uR2.out).2.2 uL2.out (Kd.R_reads' uR3.out).2.2 uL3.out SZ.out).mono ?_
    rintro e wd ⟨rfl, hb6⟩
    clear uR1 uR2 uR3 uL1 uL2 uL3
    have SB1 : Aside0 (Below w5.heap.size w5 wd) := ⟨Below.trans hHeld.1 (hb6.mono hHeld.1.size)⟩
    clear hb6
    go_simp
    refine hK.out _ _ ?_ (fun hNew => ?_)
    · try dsimp only
      first | exact MK.out _ (Below.drew (Below.refl _ _)) | exact MK.out _ SB1.out | assumption
    clear hK K hHeld
    have hHeld := hNew
    clear hNew
    refine wpAnyH_take (i := 15) (oi := _) (v := _) rfl (by kernel_rfl) (by kernel_rfl) (by kernel_rfl) (fun _ _ _ h => h) (Or.inl ⟨by rfl, by (intro w hSw; (try dsimp only at hSw); go_simp; try with_reducible rfl)⟩) hHeld ?_
    simp only [Act.put, List.getElem_toArray, List.getElem_cons_zero, List.getElem_cons_succ, List.setIfInBounds_toArray, List.set_cons_zero, List.set_cons_succ]
    refine wpAnyH_take (i := 16) (oi := _) (v := _) rfl (by kernel_rfl) (by kernel_rfl) (by kernel_rfl) (fun _ _ _ h => h) (Or.inl ⟨by rfl, by (intro w hSw; (try dsimp only at hSw); go_simp; try with_reducible rfl)⟩) hHeld ?_
    simp only [Act.put, List.getElem_toArray, List.getElem_cons_zero, List.getElem_cons_succ, List.setIfInBounds_toArray, List.set_cons_zero, List.set_cons_succ]
    refine wpAnyH_take (i := 17) (oi := _) (v := _) rfl (by kernel_rfl) (by kernel_rfl) (by kernel_rfl) (fun _ _ _ h => h) (Or.inl ⟨by rfl, by (intro w hSw; (try dsimp only at hSw); go_simp; try with_reducible rfl)⟩) hHeld ?_
    simp only [Act.put, List.getElem_toArray, List.getElem_cons_zero, List.getElem_cons_succ, List.setIfInBounds_toArray, List.set_cons_zero, List.set_cons_succ]
    refine wpAnyH_take (i := 18) (oi := _) (v := _) rfl (by kernel_rfl) (by kernel_rfl) (by kernel_rfl) (fun _ _ _ h => h) (Or.inl ⟨by rfl, by (intro w hSw; (try dsimp only at hSw); go_simp; try with_reducible rfl)⟩) hHeld ?_
    simp only [Act.put, List.getElem_toArray, List.getElem_cons_zero, List.getElem_cons_succ, List.setIfInBounds_toArray, List.set_cons_zero, List.set_cons_succ]
    refine wpAnyH_ready (rs := [19]) (by kernel_rfl) (by simp) ?_
    refine AllReadyH.cons rfl (fun K hK => ?_) AllReadyH.nil
    go_simp
    refine (cisternlaw11_of.calls a A1 c1 l1 A2 c2 l2 A3 c3 l3 a l1 l2 l3 _ (Kd.C_below R1.out hHeld.1) hc1 (Kd.C_below R2.out hHeld.1) hc2 (Kd.C_below R3.out hHeld.1) hc3 OF.out).mono ?_
    rintro e wx ⟨v1, v2, v3, rfl, h1, h2, h3, hb6⟩
    obtain ⟨yA1, yc1, rfl⟩ := Kd.R_slice h1
    have yR1 := Aside0.mk h1
    have yL1 := Aside0.mk (Kd.R_reads' h1).2.1
    obtain ⟨yA2, yc2, rfl⟩ := Kd.R_slice h2
    have yR2 := Aside0.mk h2
    have yL2 := Aside0.mk (Kd.R_reads' h2).2.1
    obtain ⟨yA3, yc3, rfl⟩ := Kd.R_slice h3
    have yR3 := Aside0.mk h3
    have yL3 := Aside0.mk (Kd.R_reads' h3).2.1
    clear h1 h2 h3
    have SB1 : Aside0 (Below w5.heap.size w5 wx) := ⟨Below.trans hHeld.1 (hb6.mono hHeld.1.size)⟩
    clear hb6
    go_simp
    refine hK.out _ _ ?_ (fun hNew => ?_)
    · try dsimp only
      first | exact MK.out _ (Below.drew (Below.refl _ _)) | exact MK.out _ SB1.out | assumption
    clear hK K hHeld
    have hHeld := hNew
    clear hNew
    refine wpAnyH_ready (rs := [20]) (by kernel_rfl) (by simp) ?_
    refine AllReadyH.cons rfl (fun K hK => ?_) AllReadyH.nil
    go_simp
    refine (node_Check.calls a yA1 yc1 l1 yA2 yc2 l2 yA3 yc3 l3 0 _ (Kd.R_reads' yR1.out).2.2 yL1.out (Kd.R_reads' yR2.out).2.2 yL2.out (Kd.R_reads' yR3.out).2.2 yL3.out CE.out).mono ?_
    rintro e w6 ⟨rfl, hb6⟩
    clear yR1 yR2 yR3 yL1 yL2 yL3
    have SB1 : Aside0 (Below w5.heap.size w5 w6) := ⟨Below.trans hHeld.1 (hb6.mono hHeld.1.size)⟩
    clear hb6
    go_simp
    refine hK.out _ _ ?_ (fun hNew => ?_)
    · try dsimp only
      first | exact MK.out _ (Below.drew (Below.refl _ _)) | exact MK.out _ SB1.out | assumption
    clear hK K hHeld
    have hHeld := hNew
    clear hNew
    refine wpAnyH_take (i := 21) (oi := _) (v := _) rfl (by kernel_rfl) (by kernel_rfl) (by kernel_rfl) (fun _ _ _ h => h) (Or.inl ⟨by rfl, by (intro w hSw; (try dsimp only at hSw); go_simp; try with_reducible rfl)⟩) hHeld ?_
    simp only [Act.put, List.getElem_toArray, List.getElem_cons_zero, List.getElem_cons_succ, List.setIfInBounds_toArray, List.set_cons_zero, List.set_cons_succ]
    refine wpAnyH_take (i := 22) (oi := _) (v := _) rfl (by kernel_rfl) (by kernel_rfl) (by kernel_rfl) (fun _ _ _ h => h) (Or.inl ⟨by rfl, by (intro w hSw; (try dsimp only at hSw); go_simp; try with_reducible rfl)⟩) hHeld ?_
    simp only [Act.put, List.getElem_toArray, List.getElem_cons_zero, List.getElem_cons_succ, List.setIfInBounds_toArray, List.set_cons_zero, List.set_cons_succ]
    refine wpAnyH_done (by kernel_rfl) ?_ _
    have hB := hHeld.1
    clear hHeld MK SB1
    have B6 := Aside0.mk (B5.out.trans (hB.mono B5.out.size))
    clear hB
    clear mR1 mR2 mR3 mL1 mL2 mL3 R1 R2 R3 TA SS SZ CE EE DE OF
    rcases dec_cases s with hd | ⟨x0, x1, x2, x3, hd, hx, hsz, hs⟩
    · have DX : Aside0 (node_Decode.f s = some (false, [], [], [], 2)) := ⟨by unfold node_Decode.f; rw [hd]⟩
      clear hd
      go_wp2_with fail
      refine (node_Decode.calls s false [] [] [] 2 _ DX.out).mono ?_
      rintro e w7 ⟨v1, v2, v3, rfl, h1, h2, h3, hB⟩
      have B7 := Aside0.mk (B6.out.trans (hB.mono B6.out.size))
      clear hB
      obtain ⟨dA1, dc1, rfl⟩ := Kd.R_slice h1
      have dR1 := Aside0.mk h1
      have dL1 := Aside0.mk (Kd.R_reads' h1).2.1
      obtain ⟨dA2, dc2, rfl⟩ := Kd.R_slice h2
      have dR2 := Aside0.mk h2
      have dL2 := Aside0.mk (Kd.R_reads' h2).2.1
      obtain ⟨dA3, dc3, rfl⟩ := Kd.R_slice h3
      have dR3 := Aside0.mk h3
      have dL3 := Aside0.mk (Kd.R_reads' h3).2.1
      clear h1 h2 h3
      obtain ⟨nB, hnnB⟩ : ∃ n, n = w7.heap.size := ⟨_, rfl⟩
      have tA := heap_alloc_new w7 (.cells #[.bool false, .slice dA1 0 dc1, .slice dA2 0 dc2, .slice dA3 0 dc3] 31)
      have hB := below_alloc (Below.refl w7.heap.size w7) (.cells #[.bool false, .slice dA1 0 dc1, .slice dA2 0 dc2, .slice dA3 0 dc3] 31)
      obtain ⟨w8, hwn⟩ : ∃ x, x = w7.alloc (.cells #[.bool false, .slice dA1 0 dc1, .slice dA2 0 dc2, .slice dA3 0 dc3] 31) := ⟨_, rfl⟩
      have HWNnB := Aside0.mk hwn
      rw [← hwn] at tA hB
      rw [← hnnB] at tA
      have TB := Aside0.mk tA
      have NnB := Aside0.mk hnnB
      clear tA hwn
      have B8 := Aside0.mk (B7.out.trans (hB.mono B7.out.size))
      replace dR1 := Aside0.mk (Kd.R_below dR1.out hB)
      replace dR2 := Aside0.mk (Kd.R_below dR2.out hB)
      replace dR3 := Aside0.mk (Kd.R_below dR3.out hB)
      clear hB
      go_wp2_with fail
      rw [← HWNnB.out]
      rw [← hnnB]
      clear hnnB
      refine (backW false dA1 _ dc1 dA2 _ dc2 dA3 _ dc3 _).mono ?_
      rintro e w9 ⟨rfl, hB⟩
      have B9 := Aside0.mk (B8.out.trans (hB.mono B8.out.size))
      replace TB := Aside0.mk ((hB.block _ (blk_lt TB.out)).trans TB.out)
      replace dR1 := Aside0.mk (Kd.R_below dR1.out hB)
      replace dR2 := Aside0.mk (Kd.R_below dR2.out hB)
      replace dR3 := Aside0.mk (Kd.R_below dR3.out hB)
      clear hB
      go_wp2_with fail
      refine (cisternref11_Same.calls KK false dA1 dc1 [] dA2 dc2 [] dA3 dc3 [] false none 0 [] none 0 [] none 0 [] true _ (Kd.R_reads' dR1.out).2.2 dL1.out (Kd.R_reads' dR2.out).2.2 dL2.out (Kd.R_reads' dR3.out).2.2 dL3.out ⟨rfl, by decide, fun h => absurd h (by decide)⟩ (Nat.le_refl _) ⟨rfl, by decide, fun h => absurd h (by decide)⟩ (Nat.le_refl _) ⟨rfl, by decide, fun h => absurd h (by decide)⟩ (Nat.le_refl _) S0S.out).mono ?_
      rintro e w10 ⟨rfl, hB⟩
      have B10 := Aside0.mk (B9.out.trans (hB.mono B9.out.size))
      replace TB := Aside0.mk ((hB.block _ (blk_lt TB.out)).trans TB.out)
      replace dR1 := Aside0.mk (Kd.R_below dR1.out hB)
      replace dR2 := Aside0.mk (Kd.R_below dR2.out hB)
      replace dR3 := Aside0.mk (Kd.R_below dR3.out hB)
      clear hB
      go_wp2
      go_ret
      exact ⟨rfl, B10.out⟩
    · have DX : Aside0 (node_Decode.f s = some (x0, x1, x2, x3, 0)) := ⟨by unfold node_Decode.f; rw [hd]⟩
      have EX : Aside0 (node_Encode.f x0 x1 x2 x3 = some (s, 0)) := ⟨by unfold node_Encode.f; rw [if_pos hx, if_pos hsz]; exact congrArg (fun p => some (p, (0 : Int))) hs.symm⟩
      clear hd hx hsz hs
      go_wp2_with fail
      refine (node_Decode.calls s x0 x1 x2 x3 0 _ DX.out).mono ?_
      rintro e w7 ⟨v1, v2, v3, rfl, h1, h2, h3, hB⟩
      have B7 := Aside0.mk (B6.out.trans (hB.mono B6.out.size))
      clear hB
      obtain ⟨dA1, dc1, rfl⟩ := Kd.R_slice h1
      have dR1 := Aside0.mk h1
      have dL1 := Aside0.mk (Kd.R_reads' h1).2.1
      obtain ⟨dA2, dc2, rfl⟩ := Kd.R_slice h2
      have dR2 := Aside0.mk h2
      have dL2 := Aside0.mk (Kd.R_reads' h2).2.1
      obtain ⟨dA3, dc3, rfl⟩ := Kd.R_slice h3
      have dR3 := Aside0.mk h3
      have dL3 := Aside0.mk (Kd.R_reads' h3).2.1
      clear h1 h2 h3
      obtain ⟨nB, hnnB⟩ : ∃ n, n = w7.heap.size := ⟨_, rfl⟩
      have tA := heap_alloc_new w7 (.cells #[.bool x0, .slice dA1 x1.length dc1, .slice dA2 x2.length dc2, .slice dA3 x3.length dc3] 31)
      have hB := below_alloc (Below.refl w7.heap.size w7) (.cells #[.bool x0, .slice dA1 x1.length dc1, .slice dA2 x2.length dc2, .slice dA3 x3.length dc3] 31)
      obtain ⟨w8, hwn⟩ : ∃ x, x = w7.alloc (.cells #[.bool x0, .slice dA1 x1.length dc1, .slice dA2 x2.length dc2, .slice dA3 x3.length dc3] 31) := ⟨_, rfl⟩
      have HWNnB := Aside0.mk hwn
      rw [← hwn] at tA hB
      rw [← hnnB] at tA
      have TB := Aside0.mk tA
      have NnB := Aside0.mk hnnB
      clear tA hwn
      have B8 := Aside0.mk (B7.out.trans (hB.mono B7.out.size))
      replace dR1 := Aside0.mk (Kd.R_below dR1.out hB)
      replace dR2 := Aside0.mk (Kd.R_below dR2.out hB)
      replace dR3 := Aside0.mk (Kd.R_below dR3.out hB)
      clear hB
      go_wp2_with fail
      rw [← HWNnB.out]
      rw [← hnnB]
      clear hnnB
      refine (node_Encode.calls x0 dA1 dc1 x1 dA2 dc2 x2 dA3 dc3 x3 s 0 _ (Kd.R_reads' dR1.out).2.2 dL1.out (Kd.R_reads' dR2.out).2.2 dL2.out (Kd.R_reads' dR3.out).2.2 dL3.out EX.out).mono ?_
      rintro e w9 ⟨rfl, hB⟩
      have B9 := Aside0.mk (B8.out.trans (hB.mono B8.out.size))
      replace TB := Aside0.mk ((hB.block _ (blk_lt TB.out)).trans TB.out)
      replace dR1 := Aside0.mk (Kd.R_below dR1.out hB)
      replace dR2 := Aside0.mk (Kd.R_below dR2.out hB)
      replace dR3 := Aside0.mk (Kd.R_below dR3.out hB)
      clear hB
      go_wp2
      go_ret
      exact ⟨rfl, B9.out⟩
  · obtain ⟨pe, ee, hE, hne⟩ : ∃ (pe : ByteArray) (ee : Int), node_Encode.f a l1 l2 l3 = some (pe, ee) ∧ ee ≠ 0 := by
      unfold node_Encode.f
      by_cases h : (leafV a l1 l2 l3 || innerV a l1 l2 l3) = true
      · rw [if_pos h, if_neg (fun h2 => hgood ⟨h, h2⟩)]
        exact ⟨_, _, rfl, by decide⟩
      · rw [if_neg h]
        exact ⟨_, _, rfl, by decide⟩
    have EE := Aside0.mk hE
    have e0 : (ee == 0) = false := beq_eq_false_iff_ne.2 hne
    clear hE hne hgood
    go_wp2_with fail
    refine (node_Encode.calls a oA1 oc1 l1 oA2 oc2 l2 oA3 oc3 l3 pe ee _ (Kd.R_reads' oR1.out).2.2 oL1.out (Kd.R_reads' oR2.out).2.2 oL2.out (Kd.R_reads' oR3.out).2.2 oL3.out EE.out).mono ?_
    rintro e w3 ⟨rfl, hB⟩
    have B3 := Aside0.mk (B2.out.trans (hB.mono B2.out.size))
    replace b0 := nd_cell hB b0
    replace b1 := nd_cell hB b1
    replace b2 := nd_cell hB b2
    replace b3 := nd_cell hB b3
    replace R1 := Aside0.mk (Kd.C_below R1.out hB)
    replace R2 := Aside0.mk (Kd.C_below R2.out hB)
    replace R3 := Aside0.mk (Kd.C_below R3.out hB)
    clear hB
    clear oR1 oR2 oR3 oL1 oL2 oL3 R1 R2 R3 b0 b1 b2 b3
    rcases dec_cases s with hd | ⟨x0, x1, x2, x3, hd, hx, hsz, hs⟩
    · have DX : Aside0 (node_Decode.f s = some (false, [], [], [], 2)) := ⟨by unfold node_Decode.f; rw [hd]⟩
      clear hd
      go_wp2_with fail
      refine (node_Decode.calls s false [] [] [] 2 _ DX.out).mono ?_
      rintro e w4 ⟨v1, v2, v3, rfl, h1, h2, h3, hB⟩
      have B4 := Aside0.mk (B3.out.trans (hB.mono B3.out.size))
      clear hB
      obtain ⟨dA1, dc1, rfl⟩ := Kd.R_slice h1
      have dR1 := Aside0.mk h1
      have dL1 := Aside0.mk (Kd.R_reads' h1).2.1
      obtain ⟨dA2, dc2, rfl⟩ := Kd.R_slice h2
      have dR2 := Aside0.mk h2
      have dL2 := Aside0.mk (Kd.R_reads' h2).2.1
      obtain ⟨dA3, dc3, rfl⟩ := Kd.R_slice h3
      have dR3 := Aside0.mk h3
      have dL3 := Aside0.mk (Kd.R_reads' h3).2.1
      clear h1 h2 h3
      obtain ⟨nB, hnnB⟩ : ∃ n, n = w4.heap.size := ⟨_, rfl⟩
      have tA := heap_alloc_new w4 (.cells #[.bool false, .slice dA1 0 dc1, .slice dA2 0 dc2, .slice dA3 0 dc3] 31)
      have hB := below_alloc (Below.refl w4.heap.size w4) (.cells #[.bool false, .slice dA1 0 dc1, .slice dA2 0 dc2, .slice dA3 0 dc3] 31)
      obtain ⟨w5, hwn⟩ : ∃ x, x = w4.alloc (.cells #[.bool false, .slice dA1 0 dc1, .slice dA2 0 dc2, .slice dA3 0 dc3] 31) := ⟨_, rfl⟩
      have HWNnB := Aside0.mk hwn
      rw [← hwn] at tA hB
      rw [← hnnB] at tA
      have TB := Aside0.mk tA
      have NnB := Aside0.mk hnnB
      clear tA hwn
      have B5 := Aside0.mk (B4.out.trans (hB.mono B4.out.size))
      replace dR1 := Aside0.mk (Kd.R_below dR1.out hB)
      replace dR2 := Aside0.mk (Kd.R_below dR2.out hB)
      replace dR3 := Aside0.mk (Kd.R_below dR3.out hB)
      clear hB
      go_wp2_with fail
      rw [← HWNnB.out]
      rw [← hnnB]
      clear hnnB
      refine (backW false dA1 _ dc1 dA2 _ dc2 dA3 _ dc3 _).mono ?_
      rintro e w6 ⟨rfl, hB⟩
      have B6 := Aside0.mk (B5.out.trans (hB.mono B5.out.size))
      replace TB := Aside0.mk ((hB.block _ (blk_lt TB.out)).trans TB.out)
      replace dR1 := Aside0.mk (Kd.R_below dR1.out hB)
      replace dR2 := Aside0.mk (Kd.R_below dR2.out hB)
      replace dR3 := Aside0.mk (Kd.R_below dR3.out hB)
      clear hB
      go_wp2_with fail
      refine (cisternref11_Same.calls KK false dA1 dc1 [] dA2 dc2 [] dA3 dc3 [] false none 0 [] none 0 [] none 0 [] true _ (Kd.R_reads' dR1.out).2.2 dL1.out (Kd.R_reads' dR2.out).2.2 dL2.out (Kd.R_reads' dR3.out).2.2 dL3.out ⟨rfl, by decide, fun h => absurd h (by decide)⟩ (Nat.le_refl _) ⟨rfl, by decide, fun h => absurd h (by decide)⟩ (Nat.le_refl _) ⟨rfl, by decide, fun h => absurd h (by decide)⟩ (Nat.le_refl _) S0S.out).mono ?_
      rintro e w7 ⟨rfl, hB⟩
      have B7 := Aside0.mk (B6.out.trans (hB.mono B6.out.size))
      replace TB := Aside0.mk ((hB.block _ (blk_lt TB.out)).trans TB.out)
      replace dR1 := Aside0.mk (Kd.R_below dR1.out hB)
      replace dR2 := Aside0.mk (Kd.R_below dR2.out hB)
      replace dR3 := Aside0.mk (Kd.R_below dR3.out hB)
      clear hB
      go_wp2
      go_ret
      exact ⟨rfl, B7.out⟩
    · have DX : Aside0 (node_Decode.f s = some (x0, x1, x2, x3, 0)) := ⟨by unfold node_Decode.f; rw [hd]⟩
      have EX : Aside0 (node_Encode.f x0 x1 x2 x3 = some (s, 0)) := ⟨by unfold node_Encode.f; rw [if_pos hx, if_pos hsz]; exact congrArg (fun p => some (p, (0 : Int))) hs.symm⟩
      clear hd hx hsz hs
      go_wp2_with fail
      refine (node_Decode.calls s x0 x1 x2 x3 0 _ DX.out).mono ?_
      rintro e w4 ⟨v1, v2, v3, rfl, h1, h2, h3, hB⟩
      have B4 := Aside0.mk (B3.out.trans (hB.mono B3.out.size))
      clear hB
      obtain ⟨dA1, dc1, rfl⟩ := Kd.R_slice h1
      have dR1 := Aside0.mk h1
      have dL1 := Aside0.mk (Kd.R_reads' h1).2.1
      obtain ⟨dA2, dc2, rfl⟩ := Kd.R_slice h2
      have dR2 := Aside0.mk h2
      have dL2 := Aside0.mk (Kd.R_reads' h2).2.1
      obtain ⟨dA3, dc3, rfl⟩ := Kd.R_slice h3
      have dR3 := Aside0.mk h3
      have dL3 := Aside0.mk (Kd.R_reads' h3).2.1
      clear h1 h2 h3
      obtain ⟨nB, hnnB⟩ : ∃ n, n = w4.heap.size := ⟨_, rfl⟩
      have tA := heap_alloc_new w4 (.cells #[.bool x0, .slice dA1 x1.length dc1, .slice dA2 x2.length dc2, .slice dA3 x3.length dc3] 31)
      have hB := below_alloc (Below.refl w4.heap.size w4) (.cells #[.bool x0, .slice dA1 x1.length dc1, .slice dA2 x2.length dc2, .slice dA3 x3.length dc3] 31)
      obtain ⟨w5, hwn⟩ : ∃ x, x = w4.alloc (.cells #[.bool x0, .slice dA1 x1.length dc1, .slice dA2 x2.length dc2, .slice dA3 x3.length dc3] 31) := ⟨_, rfl⟩
      have HWNnB := Aside0.mk hwn
      rw [← hwn] at tA hB
      rw [← hnnB] at tA
      have TB := Aside0.mk tA
      have NnB := Aside0.mk hnnB
      clear tA hwn
      have B5 := Aside0.mk (B4.out.trans (hB.mono B4.out.size))
      replace dR1 := Aside0.mk (Kd.R_below dR1.out hB)
      replace dR2 := Aside0.mk (Kd.R_below dR2.out hB)
      replace dR3 := Aside0.mk (Kd.R_below dR3.out hB)
      clear hB
      go_wp2_with fail
      rw [← HWNnB.out]
      rw [← hnnB]
      clear hnnB
      refine (node_Encode.calls x0 dA1 dc1 x1 dA2 dc2 x2 dA3 dc3 x3 s 0 _ (Kd.R_reads' dR1.out).2.2 dL1.out (Kd.R_reads' dR2.out).2.2 dL2.out (Kd.R_reads' dR3.out).2.2 dL3.out EX.out).mono ?_
      rintro e w6 ⟨rfl, hB⟩
      have B6 := Aside0.mk (B5.out.trans (hB.mono B5.out.size))
      replace TB := Aside0.mk ((hB.block _ (blk_lt TB.out)).trans TB.out)
      replace dR1 := Aside0.mk (Kd.R_below dR1.out hB)
      replace dR2 := Aside0.mk (Kd.R_below dR2.out hB)
      replace dR3 := Aside0.mk (Kd.R_below dR3.out hB)
      clear hB
      go_wp2
      go_ret
      exact ⟨rfl, B6.out⟩
end
end Go.Proofs.Ytjjfeoigjhbbpaa.PA
namespace Go.Proofs.Ytjjfeoigjhbbpaa.PA
section

open Go.RowKit Go.Proofs.YtjjfeoigjhbbpaaW.PrintWords Go.Proofs.YtjjfeoigjhbbpaaW.PrintLast Go.Proofs.YtjjfeoigjhbbpaaW.PrintMore
attribute [local go_sem] pr_leq pr_geq pr_gtr max2_int min2_int max_two min_two max_three min_three max_four min_four
set_option linter.unusedVariables false
set_option linter.unusedSimpArgs false
mutual
def cisternref11_Size.l0 : Nat → Int → Int → Bool → List (S48) → List ByteArray → List Int → Option (Int)
  | 0, _, _, _, _, _, _ => none
  | k + 1, x3, x4, x163000, x163001, x163002, x163003 => if x4 < (x163001.length : Int) then (if 0 ≤ x4 then (cisternref11_Size.l0 k (wrap64 ((wrap64 ((wrap64 (x3 + 2)) + (((rd_T48 x163001 x4).f0).size : Int))) + (((rd_T48 x163001 x4).f1).size : Int))) (wrap64 (x4 + 1)) x163000 x163001 x163002 x163003) else (none)) else (some x3)
def cisternref11_Size.l1 : Nat → Int → Int → Bool → List (S48) → List ByteArray → List Int → Option (Int)
  | 0, _, _, _, _, _, _ => none
  | k + 1, x3, x5, x163000, x163001, x163002, x163003 => if x5 < (x163002.length : Int) then (if 0 ≤ x5 then (cisternref11_Size.l1 k (wrap64 ((wrap64 (x3 + 1)) + ((rdOf ByteArray.empty x163002 x5).size : Int))) (wrap64 (x5 + 1)) x163000 x163001 x163002 x163003) else (none)) else (some x3)
end
def cisternref11_Size.f (k : Nat) (a0_0 : Bool) (l0_1 : List (S48)) (l0_2 : List ByteArray) (l0_3 : List Int) : Option (Int) := if a0_0 = true then (cisternref11_Size.l0 k 2 0 a0_0 l0_1 l0_2 l0_3) else (cisternref11_Size.l1 k (wrap64 (2 + (wrap64 (2 * (l0_3.length : Int))))) 0 a0_0 l0_1 l0_2 l0_3)
set_option maxHeartbeats 8000000 in
set_option maxRecDepth 100000 in
theorem cisternref11_Size.calls (k : Nat) (a0_0 : Bool) (A0_1 : Option Addr) (c0_1 : Nat) (l0_1 : List (S48)) (A0_2 : Option Addr) (c0_2 : Nat) (l0_2 : List ByteArray) (A0_3 : Option Addr) (c0_3 : Nat) (l0_3 : List Int) (r : Int) (w : World) (hr0_1 : Kd.C k48 w A0_1 l0_1.length l0_1) (hc0_1 : l0_1.length ≤ c0_1) (hr0_2 : Kd.C Kd.string w A0_2 l0_2.length l0_2) (hc0_2 : l0_2.length ≤ c0_2) (hr0_3 : Kd.C (Kd.int .i64) w A0_3 l0_3.length l0_3) (hc0_3 : l0_3.length ≤ c0_3) (h : cisternref11_Size.f k a0_0 l0_1 l0_2 l0_3 = some r) :
    Calls Try.prog 27 #[.agg #[.bool a0_0, .slice A0_1 l0_1.length c0_1, .slice A0_2 l0_2.length c0_2, .slice A0_3 l0_3.length c0_3]] w fun e w' => e = .returned (.int .i64 r) ∧ Below w.heap.size w w' := by
  have hu26 := Try.underlying26
  have HR0_1 := Aside0.mk hr0_1
  have HC0_1 := Aside0.mk hc0_1
  clear hr0_1 hc0_1
  have HR0_2 := Aside0.mk hr0_2
  have HC0_2 := Aside0.mk hc0_2
  clear hr0_2 hc0_2
  have HR0_3 := Aside0.mk hr0_3
  have HC0_3 := Aside0.mk hc0_3
  clear hr0_3 hc0_3
  have HB := Aside0.mk (Below.refl w.heap.size w)
  have H : (if a0_0 = true then (cisternref11_Size.l0 k 2 0 a0_0 l0_1 l0_2 l0_3) else (cisternref11_Size.l1 k (wrap64 (2 + (wrap64 (2 * (l0_3.length : Int))))) 0 a0_0 l0_1 l0_2 l0_3)) = some r := h
  clear h
  by_cases c2 : a0_0 = true
  · subst c2
    have H1 : (cisternref11_Size.l0 k 2 0 true l0_1 l0_2 l0_3) = some r := by rw [if_pos rfl] at H; exact H
    clear H
    have H := H1
    clear H1
    have H' := Aside0.mk H
    clear H
    go_enter Try.func27, Try.ntmps27
    go_wp2_with (first | ((with_reducible refine gate_dst (N := 1) rfl ?_); refine box_event ?hg (N := 1) ?hd (cs := #[.bool true, .slice A0_1 l0_1.length c0_1, .slice A0_2 l0_2.length c0_2, .slice A0_3 l0_3.length c0_3]) (t := 26) ?hr ?_; (case hd => rfl); (case hg => rfl); (case hr => first | (go_simp; done) | (go_simp; rfl)); intro gb162 hg w3 hbox hb; have n0_ := Aside0.mk (below_step (by repeat (first | (with_reducible first | exact HB.out | apply below_alloc | apply pw_below_drewN | apply below_drew1) | exact HB.out)) hb); have n1_ := Aside0.mk (hbox); have n2_ := Aside0.mk ((by rw [hg]; exact (below_size (by repeat (first | (with_reducible first | exact HB.out | apply below_alloc | apply pw_below_drewN | apply below_drew1) | exact HB.out))) : w.heap.size ≤ gb162)); have n3_ := Aside0.mk ((by rw [hg]; exact (below_size (by repeat (first | (with_reducible first | exact HB.out | apply below_alloc | apply pw_below_drewN | apply below_drew1) | exact HB.out))) : w.heap.size ≤ gb162)); clear HB; have HB := n0_; have BK162 := n1_; have GW162 := n2_; have GE162 := n3_; clear n0_ n1_ n2_ n3_; clear hb hbox hg; have hcz4_0 : w3.cell? ⟨gb162, 0, none⟩ = some (.bool true) := (blk_cell BK162.out 0).trans rfl; have hcz4_1 : w3.cell? ⟨gb162, 1, none⟩ = some (.slice A0_1 l0_1.length c0_1) := (blk_cell BK162.out 1).trans rfl; have hcz4_2 : w3.cell? ⟨gb162, 2, none⟩ = some (.slice A0_2 l0_2.length c0_2) := (blk_cell BK162.out 2).trans rfl; have hcz4_3 : w3.cell? ⟨gb162, 3, none⟩ = some (.slice A0_3 l0_3.length c0_3) := (blk_cell BK162.out 3).trans rfl; have hfz4_0 := blk_frozen BK162.out 0; have hfz4_1 := blk_frozen BK162.out 1; have hfz4_2 := blk_frozen BK162.out 2; have hfz4_3 := blk_frozen BK162.out 3))
    repeat (go_quiet (first | ((with_reducible refine gate_dst (N := 1) rfl ?_); refine box_event ?hg (N := 1) ?hd (cs := #[.bool true, .slice A0_1 l0_1.length c0_1, .slice A0_2 l0_2.length c0_2, .slice A0_3 l0_3.length c0_3]) (t := 26) ?hr ?_; (case hd => rfl); (case hg => rfl); (case hr => first | (go_simp; done) | (go_simp; rfl)); intro gb162 hg w3 hbox hb; have n0_ := Aside0.mk (below_step (by repeat (first | (with_reducible first | exact HB.out | apply below_alloc | apply pw_below_drewN | apply below_drew1) | exact HB.out)) hb); have n1_ := Aside0.mk (hbox); have n2_ := Aside0.mk ((by rw [hg]; exact (below_size (by repeat (first | (with_reducible first | exact HB.out | apply below_alloc | apply pw_below_drewN | apply below_drew1) | exact HB.out))) : w.heap.size ≤ gb162)); have n3_ := Aside0.mk ((by rw [hg]; exact (below_size (by repeat (first | (with_reducible first | exact HB.out | apply below_alloc | apply pw_below_drewN | apply below_drew1) | exact HB.out))) : w.heap.size ≤ gb162)); clear HB; have HB := n0_; have BK162 := n1_; have GW162 := n2_; have GE162 := n3_; clear n0_ n1_ n2_ n3_; clear hb hbox hg; have hcz4_0 : w3.cell? ⟨gb162, 0, none⟩ = some (.bool true) := (blk_cell BK162.out 0).trans rfl; have hcz4_1 : w3.cell? ⟨gb162, 1, none⟩ = some (.slice A0_1 l0_1.length c0_1) := (blk_cell BK162.out 1).trans rfl; have hcz4_2 : w3.cell? ⟨gb162, 2, none⟩ = some (.slice A0_2 l0_2.length c0_2) := (blk_cell BK162.out 2).trans rfl; have hcz4_3 : w3.cell? ⟨gb162, 3, none⟩ = some (.slice A0_3 l0_3.length c0_3) := (blk_cell BK162.out 3).trans rfl; have hfz4_0 := blk_frozen BK162.out 0; have hfz4_1 := blk_frozen BK162.out 1; have hfz4_2 := blk_frozen BK162.out 2; have hfz4_3 := blk_frozen BK162.out 3)); try go_wp2_with (first | ((with_reducible refine gate_dst (N := 1) rfl ?_); refine box_event ?hg (N := 1) ?hd (cs := #[.bool true, .slice A0_1 l0_1.length c0_1, .slice A0_2 l0_2.length c0_2, .slice A0_3 l0_3.length c0_3]) (t := 26) ?hr ?_; (case hd => rfl); (case hg => rfl); (case hr => first | (go_simp; done) | (go_simp; rfl)); intro gb162 hg w3 hbox hb; have n0_ := Aside0.mk (below_step (by repeat (first | (with_reducible first | exact HB.out | apply below_alloc | apply pw_below_drewN | apply below_drew1) | exact HB.out)) hb); have n1_ := Aside0.mk (hbox); have n2_ := Aside0.mk ((by rw [hg]; exact (below_size (by repeat (first | (with_reducible first | exact HB.out | apply below_alloc | apply pw_below_drewN | apply below_drew1) | exact HB.out))) : w.heap.size ≤ gb162)); have n3_ := Aside0.mk ((by rw [hg]; exact (below_size (by repeat (first | (with_reducible first | exact HB.out | apply below_alloc | apply pw_below_drewN | apply below_drew1) | exact HB.out))) : w.heap.size ≤ gb162)); clear HB; have HB := n0_; have BK162 := n1_; have GW162 := n2_; have GE162 := n3_; clear n0_ n1_ n2_ n3_; clear hb hbox hg; have hcz4_0 : w3.cell? ⟨gb162, 0, none⟩ = some (.bool true) := (blk_cell BK162.out 0).trans rfl; have hcz4_1 : w3.cell? ⟨gb162, 1, none⟩ = some (.slice A0_1 l0_1.length c0_1) := (blk_cell BK162.out 1).trans rfl; have hcz4_2 : w3.cell? ⟨gb162, 2, none⟩ = some (.slice A0_2 l0_2.length c0_2) := (blk_cell BK162.out 2).trans rfl; have hcz4_3 : w3.cell? ⟨gb162, 3, none⟩ = some (.slice A0_3 l0_3.length c0_3) := (blk_cell BK162.out 3).trans rfl; have hfz4_0 := blk_frozen BK162.out 0; have hfz4_1 := blk_frozen BK162.out 1; have hfz4_2 := blk_frozen BK162.out 2; have hfz4_3 := blk_frozen BK162.out 3)))
    go_loopg [3, 4] k (fun kq v3 v4 w' => ∃ (x3_1 : Int) (x4_1 : Int), v3 = .int .i64 x3_1 ∧ v4 = .int .i64 x4_1 ∧ Aside0 (cisternref11_Size.l0 kq x3_1 x4_1 true l0_1 l0_2 l0_3 = some r) ∧ Aside0 (kq ≤ k) ∧ Aside0 (w'.heap[gb162]? = some (.cells #[.bool true, (.slice A0_1 l0_1.length c0_1), (.slice A0_2 l0_2.length c0_2), (.slice A0_3 l0_3.length c0_3)] 26 (0, 0))) ∧ Aside0 (Below w.heap.size w w'))
    case atStart => exact ⟨(2), (0), (by first | rfl | (simp; done) | (simp [*]; done)), (by first | rfl | (simp; done) | (simp [*]; done)), H', ⟨Nat.le_refl _⟩, ⟨by (with_reducible repeat (first | refine blk_drewN ?_ _ | refine blk_drew ?_ | refine blk_alloc ?_ _)); exact BK162.out⟩, ⟨by repeat (first | (with_reducible first | exact HB.out | apply below_alloc | apply pw_below_drewN | apply below_drew1 | refine below_set ?_ GE162.out) | exact HB.out)⟩⟩
    case round =>
      clear H'
      try clear c2
      try clear p2
      try clear hcz4_0
      try clear hcz4_1
      try clear hcz4_2
      try clear hcz4_3
      try clear hfz4_0
      try clear hfz4_1
      try clear hfz4_2
      try clear hfz4_3
      obtain ⟨x3_1, x4_1, rfl, rfl, HA, HK1, BK162, HB⟩ := hrel
      cases gk with
      | zero => exact absurd HA.out (by simp [cisternref11_Size.l0])
      | succ k1 =>
        have H := HA.out
        clear HA
        simp only [cisternref11_Size.l0] at H
        by_cases c5 : x4_1 < (l0_1.length : Int)
        · rw [if_pos c5] at H
          have c5b0 : decide (x4_1 < (l0_1.length : Int)) = true := decide_eq_true c5
          clear c5
          by_cases c6 : 0 ≤ x4_1
          · rw [if_pos c6] at H
            have c6b0 : decide (0 ≤ x4_1) = true := decide_eq_true c6
            clear c6
            have H' := Aside0.mk H
            clear H
            have hcz7_0 : wr.cell? ⟨gb162, 0, none⟩ = some (.bool true) := (blk_cell BK162.out 0).trans rfl
            have hcz7_1 : wr.cell? ⟨gb162, 1, none⟩ = some (.slice A0_1 l0_1.length c0_1) := (blk_cell BK162.out 1).trans rfl
            have hcz7_2 : wr.cell? ⟨gb162, 2, none⟩ = some (.slice A0_2 l0_2.length c0_2) := (blk_cell BK162.out 2).trans rfl
            have hcz7_3 : wr.cell? ⟨gb162, 3, none⟩ = some (.slice A0_3 l0_3.length c0_3) := (blk_cell BK162.out 3).trans rfl
            have hfz7_0 := blk_frozen BK162.out 0
            have hfz7_1 := blk_frozen BK162.out 1
            have hfz7_2 := blk_frozen BK162.out 2
            have hfz7_3 := blk_frozen BK162.out 3
            have p163 : 0 ≤ (x4_1 : Int) := of_decide_eq_true (by first | (with_reducible assumption) | assumption)
            have q163 : x4_1 < (l0_1.length : Int) := of_decide_eq_true (by first | (with_reducible assumption) | assumption)
            obtain ⟨ad163, e163, hx163_0, hx163_1⟩ := at_T48 HR0_1.out x4_1 p163 q163
            cases e163
            replace hx163_0 := (HB.out.cell (World.block_lt_of_cell? w _ hx163_0)).trans hx163_0
            replace hx163_1 := (HB.out.cell (World.block_lt_of_cell? w _ hx163_1)).trans hx163_1
            replace p163 := eq_true p163
            replace q163 := eq_true q163
            have p164 : 0 ≤ (x4_1 : Int) := of_decide_eq_true (by first | (with_reducible assumption) | assumption)
            have q164 : x4_1 < (l0_1.length : Int) := of_decide_eq_true (by first | (with_reducible assumption) | assumption)
            obtain ⟨ad164, e164, hx164_0, hx164_1⟩ := at_T48 HR0_1.out x4_1 p164 q164
            obtain rfl : ad163 = ad164 := (by injection e164)
            replace hx164_0 := (HB.out.cell (World.block_lt_of_cell? w _ hx164_0)).trans hx164_0
            replace hx164_1 := (HB.out.cell (World.block_lt_of_cell? w _ hx164_1)).trans hx164_1
            replace p164 := eq_true p164
            replace q164 := eq_true q164
            go_wp2
            repeat (go_quiet (fail); try go_wp2)
            go_roundg k1
            case measure => have := HK1.out; omega
            case rel => exact ⟨(wrap64 ((wrap64 ((wrap64 (x3_1 + 2)) + (((rd_T48 l0_1 x4_1).f0).size : Int))) + (((rd_T48 l0_1 x4_1).f1).size : Int))), (wrap64 (x4_1 + 1)), (by first | rfl | (simp; done) | (simp [*]; done)), (by first | rfl | (simp; done) | (simp [*]; done)), H', ⟨by have := HK1.out; omega⟩, ⟨by (with_reducible repeat (first | refine blk_drewN ?_ _ | refine blk_drew ?_ | refine blk_alloc ?_ _)); exact BK162.out⟩, ⟨by repeat (first | (with_reducible first | exact HB.out | apply below_alloc | apply pw_below_drewN | apply below_drew1 | refine below_set ?_ GE162.out) | exact HB.out)⟩⟩
          · rw [if_neg c6] at H
            exact absurd H (by simp)
        · rw [if_neg c5] at H
          have c5b0 : decide (x4_1 < (l0_1.length : Int)) = false := decide_eq_false c5
          clear c5
          obtain rfl := Option.some.inj H
          have hcz8_0 : wr.cell? ⟨gb162, 0, none⟩ = some (.bool true) := (blk_cell BK162.out 0).trans rfl
          have hcz8_1 : wr.cell? ⟨gb162, 1, none⟩ = some (.slice A0_1 l0_1.length c0_1) := (blk_cell BK162.out 1).trans rfl
          have hcz8_2 : wr.cell? ⟨gb162, 2, none⟩ = some (.slice A0_2 l0_2.length c0_2) := (blk_cell BK162.out 2).trans rfl
          have hcz8_3 : wr.cell? ⟨gb162, 3, none⟩ = some (.slice A0_3 l0_3.length c0_3) := (blk_cell BK162.out 3).trans rfl
          have hfz8_0 := blk_frozen BK162.out 0
          have hfz8_1 := blk_frozen BK162.out 1
          have hfz8_2 := blk_frozen BK162.out 2
          have hfz8_3 := blk_frozen BK162.out 3
          go_wp2
          repeat (go_quiet (fail); try go_wp2)
          go_ret
          exact ⟨by first | rfl | (simp [errW_none, errW_some] <;> rfl) | (simp [*, errW_none, errW_some] <;> rfl), by repeat (first | (with_reducible first | exact HB.out | apply below_alloc | apply pw_below_drewN | apply below_drew1 | refine below_set ?_ GE162.out) | exact HB.out)⟩
  · replace c2 := Bool.eq_false_iff.mpr c2
    subst c2
    have H1 : (cisternref11_Size.l1 k (wrap64 (2 + (wrap64 (2 * (l0_3.length : Int))))) 0 false l0_1 l0_2 l0_3) = some r := by rw [if_neg (show ¬ (false = true) by decide)] at H; exact H
    clear H
    have H := H1
    clear H1
    have H' := Aside0.mk H
    clear H
    go_enter Try.func27, Try.ntmps27
    go_wp2_with (first | ((with_reducible refine gate_dst (N := 1) rfl ?_); refine box_event ?hg (N := 1) ?hd (cs := #[.bool false, .slice A0_1 l0_1.length c0_1, .slice A0_2 l0_2.length c0_2, .slice A0_3 l0_3.length c0_3]) (t := 26) ?hr ?_; (case hd => rfl); (case hg => rfl); (case hr => first | (go_simp; done) | (go_simp; rfl)); intro gb162 hg w9 hbox hb; have n0_ := Aside0.mk (below_step (by repeat (first | (with_reducible first | exact HB.out | apply below_alloc | apply pw_below_drewN | apply below_drew1) | exact HB.out)) hb); have n1_ := Aside0.mk (hbox); have n2_ := Aside0.mk ((by rw [hg]; exact (below_size (by repeat (first | (with_reducible first | exact HB.out | apply below_alloc | apply pw_below_drewN | apply below_drew1) | exact HB.out))) : w.heap.size ≤ gb162)); have n3_ := Aside0.mk ((by rw [hg]; exact (below_size (by repeat (first | (with_reducible first | exact HB.out | apply below_alloc | apply pw_below_drewN | apply below_drew1) | exact HB.out))) : w.heap.size ≤ gb162)); clear HB; have HB := n0_; have BK162 := n1_; have GW162 := n2_; have GE162 := n3_; clear n0_ n1_ n2_ n3_; clear hb hbox hg; have hcz10_0 : w9.cell? ⟨gb162, 0, none⟩ = some (.bool false) := (blk_cell BK162.out 0).trans rfl; have hcz10_1 : w9.cell? ⟨gb162, 1, none⟩ = some (.slice A0_1 l0_1.length c0_1) := (blk_cell BK162.out 1).trans rfl; have hcz10_2 : w9.cell? ⟨gb162, 2, none⟩ = some (.slice A0_2 l0_2.length c0_2) := (blk_cell BK162.out 2).trans rfl; have hcz10_3 : w9.cell? ⟨gb162, 3, none⟩ = some (.slice A0_3 l0_3.length c0_3) := (blk_cell BK162.out 3).trans rfl; have hfz10_0 := blk_frozen BK162.out 0; have hfz10_1 := blk_frozen BK162.out 1; have hfz10_2 := blk_frozen BK162.out 2; have hfz10_3 := blk_frozen BK162.out 3))
    repeat (go_quiet (first | ((with_reducible refine gate_dst (N := 1) rfl ?_); refine box_event ?hg (N := 1) ?hd (cs := #[.bool false, .slice A0_1 l0_1.length c0_1, .slice A0_2 l0_2.length c0_2, .slice A0_3 l0_3.length c0_3]) (t := 26) ?hr ?_; (case hd => rfl); (case hg => rfl); (case hr => first | (go_simp; done) | (go_simp; rfl)); intro gb162 hg w9 hbox hb; have n0_ := Aside0.mk (below_step (by repeat (first | (with_reducible first | exact HB.out | apply below_alloc | apply pw_below_drewN | apply below_drew1) | exact HB.out)) hb); have n1_ := Aside0.mk (hbox); have n2_ := Aside0.mk ((by rw [hg]; exact (below_size (by repeat (first | (with_reducible first | exact HB.out | apply below_alloc | apply pw_below_drewN | apply below_drew1) | exact HB.out))) : w.heap.size ≤ gb162)); have n3_ := Aside0.mk ((by rw [hg]; exact (below_size (by repeat (first | (with_reducible first | exact HB.out | apply below_alloc | apply pw_below_drewN | apply below_drew1) | exact HB.out))) : w.heap.size ≤ gb162)); clear HB; have HB := n0_; have BK162 := n1_; have GW162 := n2_; have GE162 := n3_; clear n0_ n1_ n2_ n3_; clear hb hbox hg; have hcz10_0 : w9.cell? ⟨gb162, 0, none⟩ = some (.bool false) := (blk_cell BK162.out 0).trans rfl; have hcz10_1 : w9.cell? ⟨gb162, 1, none⟩ = some (.slice A0_1 l0_1.length c0_1) := (blk_cell BK162.out 1).trans rfl; have hcz10_2 : w9.cell? ⟨gb162, 2, none⟩ = some (.slice A0_2 l0_2.length c0_2) := (blk_cell BK162.out 2).trans rfl; have hcz10_3 : w9.cell? ⟨gb162, 3, none⟩ = some (.slice A0_3 l0_3.length c0_3) := (blk_cell BK162.out 3).trans rfl; have hfz10_0 := blk_frozen BK162.out 0; have hfz10_1 := blk_frozen BK162.out 1; have hfz10_2 := blk_frozen BK162.out 2; have hfz10_3 := blk_frozen BK162.out 3)); try go_wp2_with (first | ((with_reducible refine gate_dst (N := 1) rfl ?_); refine box_event ?hg (N := 1) ?hd (cs := #[.bool false, .slice A0_1 l0_1.length c0_1, .slice A0_2 l0_2.length c0_2, .slice A0_3 l0_3.length c0_3]) (t := 26) ?hr ?_; (case hd => rfl); (case hg => rfl); (case hr => first | (go_simp; done) | (go_simp; rfl)); intro gb162 hg w9 hbox hb; have n0_ := Aside0.mk (below_step (by repeat (first | (with_reducible first | exact HB.out | apply below_alloc | apply pw_below_drewN | apply below_drew1) | exact HB.out)) hb); have n1_ := Aside0.mk (hbox); have n2_ := Aside0.mk ((by rw [hg]; exact (below_size (by repeat (first | (with_reducible first | exact HB.out | apply below_alloc | apply pw_below_drewN | apply below_drew1) | exact HB.out))) : w.heap.size ≤ gb162)); have n3_ := Aside0.mk ((by rw [hg]; exact (below_size (by repeat (first | (with_reducible first | exact HB.out | apply below_alloc | apply pw_below_drewN | apply below_drew1) | exact HB.out))) : w.heap.size ≤ gb162)); clear HB; have HB := n0_; have BK162 := n1_; have GW162 := n2_; have GE162 := n3_; clear n0_ n1_ n2_ n3_; clear hb hbox hg; have hcz10_0 : w9.cell? ⟨gb162, 0, none⟩ = some (.bool false) := (blk_cell BK162.out 0).trans rfl; have hcz10_1 : w9.cell? ⟨gb162, 1, none⟩ = some (.slice A0_1 l0_1.length c0_1) := (blk_cell BK162.out 1).trans rfl; have hcz10_2 : w9.cell? ⟨gb162, 2, none⟩ = some (.slice A0_2 l0_2.length c0_2) := (blk_cell BK162.out 2).trans rfl; have hcz10_3 : w9.cell? ⟨gb162, 3, none⟩ = some (.slice A0_3 l0_3.length c0_3) := (blk_cell BK162.out 3).trans rfl; have hfz10_0 := blk_frozen BK162.out 0; have hfz10_1 := blk_frozen BK162.out 1; have hfz10_2 := blk_frozen BK162.out 2; have hfz10_3 := blk_frozen BK162.out 3)))
    go_loopg [3, 5] k (fun kq v3 v5 w' => ∃ (x3_1 : Int) (x5_1 : Int), v3 = .int .i64 x3_1 ∧ v5 = .int .i64 x5_1 ∧ Aside0 (cisternref11_Size.l1 kq x3_1 x5_1 false l0_1 l0_2 l0_3 = some r) ∧ Aside0 (kq ≤ k) ∧ Aside0 (w'.heap[gb162]? = some (.cells #[.bool false, (.slice A0_1 l0_1.length c0_1), (.slice A0_2 l0_2.length c0_2), (.slice A0_3 l0_3.length c0_3)] 26 (0, 0))) ∧ Aside0 (Below w.heap.size w w'))
    case atStart => exact ⟨(wrap64 (2 + (wrap64 (2 * (l0_3.length : Int))))), (0), (by first | rfl | (simp; done) | (simp [*]; done)), (by first | rfl | (simp; done) | (simp [*]; done)), H', ⟨Nat.le_refl _⟩, ⟨by (with_reducible repeat (first | refine blk_drewN ?_ _ | refine blk_drew ?_ | refine blk_alloc ?_ _)); exact BK162.out⟩, ⟨by repeat (first | (with_reducible first | exact HB.out | apply below_alloc | apply pw_below_drewN | apply below_drew1 | refine below_set ?_ GE162.out) | exact HB.out)⟩⟩
    case round =>
      clear H'
      try clear p1
      try clear q1
      try clear hx1
      try clear c2
      try clear p2
      try clear c5
      try clear c5b0
      try clear c6
      try clear c6b0
      try clear p6
      try clear hcz10_0
      try clear hcz10_1
      try clear hcz10_2
      try clear hcz10_3
      try clear hcz4_0
      try clear hcz4_1
      try clear hcz4_2
      try clear hcz4_3
      try clear hcz7_0
      try clear hcz7_1
      try clear hcz7_2
      try clear hcz7_3
      try clear hcz8_0
      try clear hcz8_1
      try clear hcz8_2
      try clear hcz8_3
      try clear hfz10_0
      try clear hfz10_1
      try clear hfz10_2
      try clear hfz10_3
      try clear hfz4_0
      try clear hfz4_1
      try clear hfz4_2
      try clear hfz4_3
      try clear hfz7_0
      try clear hfz7_1
      try clear hfz7_2
      try clear hfz7_3
      try clear hfz8_0
      try clear hfz8_1
      try clear hfz8_2
      try clear hfz8_3
      try clear hx163_0
      try clear hx163_1
      try clear hx164_0
      try clear hx164_1
      try clear p163
      try clear p164
      try clear p2
      try clear q163
      try clear q164
      obtain ⟨x3_1, x5_1, rfl, rfl, HA, HK1, BK162, HB⟩ := hrel
      cases gk with
      | zero => exact absurd HA.out (by simp [cisternref11_Size.l1])
      | succ k1 =>
        have H := HA.out
        clear HA
        simp only [cisternref11_Size.l1] at H
        by_cases c11 : x5_1 < (l0_2.length : Int)
        · rw [if_pos c11] at H
          have c11b0 : decide (x5_1 < (l0_2.length : Int)) = true := decide_eq_true c11
          clear c11
          by_cases c12 : 0 ≤ x5_1
          · rw [if_pos c12] at H
            have c12b0 : decide (0 ≤ x5_1) = true := decide_eq_true c12
            clear c12
            have H' := Aside0.mk H
            clear H
            have hcz13_0 : wr.cell? ⟨gb162, 0, none⟩ = some (.bool false) := (blk_cell BK162.out 0).trans rfl
            have hcz13_1 : wr.cell? ⟨gb162, 1, none⟩ = some (.slice A0_1 l0_1.length c0_1) := (blk_cell BK162.out 1).trans rfl
            have hcz13_2 : wr.cell? ⟨gb162, 2, none⟩ = some (.slice A0_2 l0_2.length c0_2) := (blk_cell BK162.out 2).trans rfl
            have hcz13_3 : wr.cell? ⟨gb162, 3, none⟩ = some (.slice A0_3 l0_3.length c0_3) := (blk_cell BK162.out 3).trans rfl
            have hfz13_0 := blk_frozen BK162.out 0
            have hfz13_1 := blk_frozen BK162.out 1
            have hfz13_2 := blk_frozen BK162.out 2
            have hfz13_3 := blk_frozen BK162.out 3
            have p165 : 0 ≤ (x5_1 : Int) := of_decide_eq_true (by first | (with_reducible assumption) | assumption)
            have q165 : x5_1 < (l0_2.length : Int) := of_decide_eq_true (by first | (with_reducible assumption) | assumption)
            obtain ⟨ad165, e165, hx165_0⟩ := Kd.at_string HR0_2.out x5_1 p165 q165
            cases e165
            replace hx165_0 := (HB.out.cell (World.block_lt_of_cell? w _ hx165_0)).trans hx165_0
            replace p165 := eq_true p165
            replace q165 := eq_true q165
            go_wp2
            repeat (go_quiet (fail); try go_wp2)
            go_roundg k1
            case measure => have := HK1.out; omega
            case rel => exact ⟨(wrap64 ((wrap64 (x3_1 + 1)) + ((rdOf ByteArray.empty l0_2 x5_1).size : Int))), (wrap64 (x5_1 + 1)), (by first | rfl | (simp; done) | (simp [*]; done)), (by first | rfl | (simp; done) | (simp [*]; done)), H', ⟨by have := HK1.out; omega⟩, ⟨by (with_reducible repeat (first | refine blk_drewN ?_ _ | refine blk_drew ?_ | refine blk_alloc ?_ _)); exact BK162.out⟩, ⟨by repeat (first | (with_reducible first | exact HB.out | apply below_alloc | apply pw_below_drewN | apply below_drew1 | refine below_set ?_ GE162.out) | exact HB.out)⟩⟩
          · rw [if_neg c12] at H
            exact absurd H (by simp)
        · rw [if_neg c11] at H
          have c11b0 : decide (x5_1 < (l0_2.length : Int)) = false := decide_eq_false c11
          clear c11
          obtain rfl := Option.some.inj H
          have hcz14_0 : wr.cell? ⟨gb162, 0, none⟩ = some (.bool false) := (blk_cell BK162.out 0).trans rfl
          have hcz14_1 : wr.cell? ⟨gb162, 1, none⟩ = some (.slice A0_1 l0_1.length c0_1) := (blk_cell BK162.out 1).trans rfl
          have hcz14_2 : wr.cell? ⟨gb162, 2, none⟩ = some (.slice A0_2 l0_2.length c0_2) := (blk_cell BK162.out 2).trans rfl
          have hcz14_3 : wr.cell? ⟨gb162, 3, none⟩ = some (.slice A0_3 l0_3.length c0_3) := (blk_cell BK162.out 3).trans rfl
          have hfz14_0 := blk_frozen BK162.out 0
          have hfz14_1 := blk_frozen BK162.out 1
          have hfz14_2 := blk_frozen BK162.out 2
          have hfz14_3 := blk_frozen BK162.out 3
          go_wp2
          repeat (go_quiet (fail); try go_wp2)
          go_ret
          exact ⟨by first | rfl | (simp [errW_none, errW_some] <;> rfl) | (simp [*, errW_none, errW_some] <;> rfl), by repeat (first | (with_reducible first | exact HB.out | apply below_alloc | apply pw_below_drewN | apply below_drew1 | refine below_set ?_ GE162.out) | exact HB.out)⟩
end
end Go.Proofs.Ytjjfeoigjhbbpaa.PA
namespace Go.Proofs.Ytjjfeoigjhbbpaa.PA
section

open Go.RowKit Go.Proofs.YtjjfeoigjhbbpaaW.PrintWords Go.Proofs.YtjjfeoigjhbbpaaW.PrintLast Go.Proofs.YtjjfeoigjhbbpaaW.PrintMore
attribute [local go_sem] pr_leq pr_geq pr_gtr max2_int min2_int max_two min_two max_three min_three max_four min_four
set_option linter.unusedVariables false
set_option linter.unusedSimpArgs false
def cisternref11_text.f (a0 : ByteArray) : Option (ByteArray) := (some (([((a0.size : Int)) % 256] : List Int) : List Int)).bind fun y404 => (if (strOfNums y404).size + a0.size ≤ 9223372036854775807 then (some ((strOfNums y404) ++ a0)) else (none))
set_option maxHeartbeats 8000000 in
set_option maxRecDepth 100000 in
theorem cisternref11_text.calls (a0 : ByteArray) (r : ByteArray) (w : World) (h : cisternref11_text.f a0 = some r) :
    Calls Try.prog 72 #[.string a0] w fun e w' => e = .returned (.string r) ∧ Below w.heap.size w w' := by
  have HB := Aside0.mk (Below.refl w.heap.size w)
  have H : ((some (([((a0.size : Int)) % 256] : List Int) : List Int)).bind fun y404 => (if (strOfNums y404).size + a0.size ≤ 9223372036854775807 then (some ((strOfNums y404) ++ a0)) else (none))) = some r := h
  clear h
  obtain ⟨y404, hy404⟩ : ∃ y_ : List Int, y_ = (([((a0.size : Int)) % 256] : List Int)) := ⟨_, rfl⟩
  replace H : (if (strOfNums y404).size + a0.size ≤ 9223372036854775807 then (some ((strOfNums y404) ++ a0)) else (none)) = some r := by first | (rw [hy404]; with_reducible exact H) | (have H2_ := (Option.bind_some _ _).symm.trans H; rw [hy404]; with_reducible exact H2_) | (have H2_ := (Option.bind_some _ _).symm.trans H; with_reducible exact H2_) | with_reducible exact H | (rw [hy404]; exact H) | exact H
  have Ny404 := Aside0.mk hy404
  clear hy404
  by_cases c2 : (strOfNums y404).size + a0.size ≤ 9223372036854775807
  · rw [if_pos c2] at H
    have c2b0 := eq_true c2
    have c2b1 : decide ((strOfNums y404).size + a0.size ≤ 9223372036854775807) = true := decide_eq_true c2
    try have c2b2 : (9223372036854775807 < (strOfNums y404).size + a0.size) = False := eq_false (Nat.not_lt.2 c2)
    obtain rfl := Option.some.inj H
    go_enter Try.func72, Try.ntmps72
    go_wp2_with (first | ((with_reducible refine gate_dst (N := 6) rfl ?_); refine Kd.R_lit (Kd.int .u8) _ 5 ?hg (N := 6) ?hd (xs := ([((a0.size : Int)) % 256] : List Int)) (inner := [.int .u8 (((a0.size : Int)) % 256)]) (ok := fun _ => True) (okp := fun _ => True) ?hr ?hp (fun _ hk => hk) trivial (Below.refl _ _) (Nat.le_refl _) (by simp) ?_; (case hd => rfl); (case hg => rfl); (case hr => first | (go_simp; done) | (go_simp; rfl)); (case hp => exact (Reps.one (show Kd.M (Kd.int .u8) _ _ _ (((a0.size : Int)) % 256) [.int .u8 (((a0.size : Int)) % 256)] from rfl) (Reps.none _ _))); intro v405 w3 ho4 hb hg_ hnew_; clear hg_ hnew_; (first | rw [← Ny404.out] at ho4 | (simp only [Int.reduceToNat] at ho4; rw [← Ny404.out] at ho4)); have n0_ := Aside0.mk (Kd.R_lower ho4 (below_size (by repeat (first | (with_reducible first | exact HB.out | apply below_alloc | apply pw_below_drewN | apply below_drew1) | exact HB.out)))); have n1_ := Aside0.mk (below_step (by repeat (first | (with_reducible first | exact HB.out | apply below_alloc | apply pw_below_drewN | apply below_drew1) | exact HB.out)) hb); clear HB; have HO406 := n0_; have HB := n1_; clear n0_ n1_; clear hb ho4; have hcv5 := own_string (P := Try.prog) Try.underlying66 Try.underlying5 Try.underlying9 (Kd.own_of_R HO406.out)))
    go_ret
    exact ⟨by first | rfl | (simp [errW_none, errW_some] <;> rfl) | (simp [*, errW_none, errW_some] <;> rfl), by repeat (first | (with_reducible first | exact HB.out | apply below_alloc | apply pw_below_drewN | apply below_drew1) | exact HB.out)⟩
  · rw [if_neg c2] at H
    exact absurd H (by simp)
end
end Go.Proofs.Ytjjfeoigjhbbpaa.PA
namespace Go.Proofs.Ytjjfeoigjhbbpaa.PA
section

open Go.RowKit Go.Proofs.YtjjfeoigjhbbpaaW.PrintWords Go.Proofs.YtjjfeoigjhbbpaaW.PrintLast Go.Proofs.YtjjfeoigjhbbpaaW.PrintMore
attribute [local go_sem] pr_leq pr_geq pr_gtr max2_int min2_int max_two min_two max_three min_three max_four min_four
set_option linter.unusedVariables false
set_option linter.unusedSimpArgs false
mutual
def cisternref11_Encode.l0 : Nat → ByteArray → Int → Bool → List (S48) → List ByteArray → List Int → Option (ByteArray)
  | 0, _, _, _, _, _, _ => none
  | k + 1, x3, x4, x408000, x408001, x408002, x408003 => if x4 < (x408001.length : Int) then (if 0 ≤ x4 then ((cisternref11_text.f ((rd_T48 x408001 x4).f0)).bind fun t412 => (if x3.size + t412.size ≤ 9223372036854775807 then ((cisternref11_text.f ((rd_T48 x408001 x4).f1)).bind fun t414 => (if (x3 ++ t412).size + t414.size ≤ 9223372036854775807 then (cisternref11_Encode.l0 k ((x3 ++ t412) ++ t414) (wrap64 (x4 + 1)) x408000 x408001 x408002 x408003) else (none))) else (none))) else (none)) else (some x3)
def cisternref11_Encode.l1 : Nat → ByteArray → Int → Bool → List (S48) → List ByteArray → List Int → Option (ByteArray)
  | 0, _, _, _, _, _, _ => none
  | k + 1, x5, x6, x408000, x408001, x408002, x408003 => if x6 < (x408003.length : Int) then (if 0 ≤ x6 then ((some (([(Int.tmod (rd x408003 x6) 256) % 256, (wrap64 (Int.tdiv (rd x408003 x6) 256)) % 256] : List Int) : List Int)).bind fun y420 => (if x5.size + (strOfNums y420).size ≤ 9223372036854775807 then (cisternref11_Encode.l1 k (x5 ++ (strOfNums y420)) (wrap64 (x6 + 1)) x408000 x408001 x408002 x408003) else (none))) else (none)) else (cisternref11_Encode.l2 k x5 0 x408000 x408001 x408002 x408003)
def cisternref11_Encode.l2 : Nat → ByteArray → Int → Bool → List (S48) → List ByteArray → List Int → Option (ByteArray)
  | 0, _, _, _, _, _, _ => none
  | k + 1, x5, x7, x408000, x408001, x408002, x408003 => if x7 < (x408002.length : Int) then (if 0 ≤ x7 then ((cisternref11_text.f (rdOf ByteArray.empty x408002 x7)).bind fun t424 => (if x5.size + t424.size ≤ 9223372036854775807 then (cisternref11_Encode.l2 k (x5 ++ t424) (wrap64 (x7 + 1)) x408000 x408001 x408002 x408003) else (none))) else (none)) else (some x5)
end
def cisternref11_Encode.f (k : Nat) (a0_0 : Bool) (l0_1 : List (S48)) (l0_2 : List ByteArray) (l0_3 : List Int) : Option (ByteArray) := if a0_0 = true then (cisternref11_Encode.l0 k (strOfNums (([1, ((l0_1.length : Int)) % 256] : List Int))) 0 a0_0 l0_1 l0_2 l0_3) else (cisternref11_Encode.l1 k (strOfNums (([2, ((l0_3.length : Int)) % 256] : List Int))) 0 a0_0 l0_1 l0_2 l0_3)
def cisternref11_Encode.T6 : Bool × List (List Nat × List Nat) := (true, [([], []), ([], []), ([1], [1]), ([], []), ([2, 3], [2, 3]), ([4], [4]), ([5], [5]), ([6], [6]), ([0, 7], [0, 7]), ([], []), ([9], [9]), ([], []), ([10, 11], [10, 11]), ([12], [12]), ([13], [13]), ([14, 7], [14]), ([8, 15], [8, 15]), ([16, 15, 0, 1, 2, 3, 4, 5, 6, 7, 8, 9, 10, 11, 12, 13, 14, 15, 16], [0, 16])])
def cisternref11_Encode.B6 : List Nat := [0, 0, 2, 0, 14, 30, 62, 126, 255, 0, 512, 0, 3584, 7680, 15872, 32510, 65535, 131071]
theorem cisternref11_Encode.tab6 : rtab .any (opsOf Try.f49 6) = cisternref11_Encode.T6 := by kernel_rfl
theorem cisternref11_Encode.bits6 : waitsOk cisternref11_Encode.T6.2 cisternref11_Encode.B6 = true := by kernel_rfl
def cisternref11_Encode.T12 : Bool × List (List Nat × List Nat) := (true, [([], []), ([], []), ([1], [1]), ([], []), ([2, 3], [2, 3]), ([4], [4]), ([5], [5]), ([6], [6]), ([], []), ([8], [8]), ([], []), ([9, 10], [9, 10]), ([11], [11]), ([12], [12]), ([13], [13]), ([7, 14], [7, 14]), ([15], [15]), ([0, 16], [0, 16]), ([17, 0, 1, 2, 3, 4, 5, 6, 7, 8, 9, 10, 11, 12, 13, 14, 15, 16, 17], [0, 17])])
def cisternref11_Encode.B12 : List Nat := [0, 0, 2, 0, 14, 30, 62, 126, 0, 256, 0, 1792, 3840, 7936, 16128, 32766, 65534, 131071, 262143]
theorem cisternref11_Encode.tab12 : rtab .any (opsOf Try.f49 12) = cisternref11_Encode.T12 := by kernel_rfl
theorem cisternref11_Encode.bits12 : waitsOk cisternref11_Encode.T12.2 cisternref11_Encode.B12 = true := by kernel_rfl
set_option maxHeartbeats 8000000 in
set_option maxRecDepth 100000 in
theorem cisternref11_Encode.calls (k : Nat) (a0_0 : Bool) (A0_1 : Option Addr) (c0_1 : Nat) (l0_1 : List (S48)) (A0_2 : Option Addr) (c0_2 : Nat) (l0_2 : List ByteArray) (A0_3 : Option Addr) (c0_3 : Nat) (l0_3 : List Int) (r : ByteArray) (w : World) (hr0_1 : Kd.C k48 w A0_1 l0_1.length l0_1) (hc0_1 : l0_1.length ≤ c0_1) (hr0_2 : Kd.C Kd.string w A0_2 l0_2.length l0_2) (hc0_2 : l0_2.length ≤ c0_2) (hr0_3 : Kd.C (Kd.int .i64) w A0_3 l0_3.length l0_3) (hc0_3 : l0_3.length ≤ c0_3) (h : cisternref11_Encode.f k a0_0 l0_1 l0_2 l0_3 = some r) :
    Calls Try.prog 49 #[.agg #[.bool a0_0, .slice A0_1 l0_1.length c0_1, .slice A0_2 l0_2.length c0_2, .slice A0_3 l0_3.length c0_3]] w fun e w' => e = .returned (.string r) ∧ Below w.heap.size w w' := by
  have hu26 := Try.underlying26
  have HR0_1 := Aside0.mk hr0_1
  have HC0_1 := Aside0.mk hc0_1
  clear hr0_1 hc0_1
  have HR0_2 := Aside0.mk hr0_2
  have HC0_2 := Aside0.mk hc0_2
  clear hr0_2 hc0_2
  have HR0_3 := Aside0.mk hr0_3
  have HC0_3 := Aside0.mk hc0_3
  clear hr0_3 hc0_3
  have HB := Aside0.mk (Below.refl w.heap.size w)
  have H : (if a0_0 = true then (cisternref11_Encode.l0 k (strOfNums (([1, ((l0_1.length : Int)) % 256] : List Int))) 0 a0_0 l0_1 l0_2 l0_3) else (cisternref11_Encode.l1 k (strOfNums (([2, ((l0_3.length : Int)) % 256] : List Int))) 0 a0_0 l0_1 l0_2 l0_3)) = some r := h
  clear h
  by_cases c2 : a0_0 = true
  · subst c2
    have H1 : (cisternref11_Encode.l0 k (strOfNums (([1, ((l0_1.length : Int)) % 256] : List Int))) 0 true l0_1 l0_2 l0_3) = some r := by rw [if_pos rfl] at H; exact H
    clear H
    have H := H1
    clear H1
    obtain ⟨y408, hy408⟩ : ∃ y_ : List Int, y_ = (([1, ((l0_1.length : Int)) % 256] : List Int)) := ⟨_, rfl⟩
    replace H : (cisternref11_Encode.l0 k (strOfNums y408) 0 true l0_1 l0_2 l0_3) = some r := by first | (rw [hy408]; with_reducible exact H) | (have H2_ := (Option.bind_some _ _).symm.trans H; rw [hy408]; with_reducible exact H2_) | (have H2_ := (Option.bind_some _ _).symm.trans H; with_reducible exact H2_) | with_reducible exact H | (rw [hy408]; exact H) | exact H
    have Ny408 := Aside0.mk hy408
    clear hy408
    have H' := Aside0.mk H
    clear H
    go_enter Try.func49, Try.ntmps49
    go_wp2_with (first | ((with_reducible refine gate_dst (N := 1) rfl ?_); refine box_event ?hg (N := 1) ?hd (cs := #[.bool true, .slice A0_1 l0_1.length c0_1, .slice A0_2 l0_2.length c0_2, .slice A0_3 l0_3.length c0_3]) (t := 26) ?hr ?_; (case hd => rfl); (case hg => rfl); (case hr => first | (go_simp; done) | (go_simp; rfl)); intro gb407 hg w3 hbox hb; have n0_ := Aside0.mk (below_step (by repeat (first | (with_reducible first | exact HB.out | apply below_alloc | apply pw_below_drewN | apply below_drew1) | exact HB.out)) hb); have n1_ := Aside0.mk (hbox); have n2_ := Aside0.mk ((by rw [hg]; exact (below_size (by repeat (first | (with_reducible first | exact HB.out | apply below_alloc | apply pw_below_drewN | apply below_drew1) | exact HB.out))) : w.heap.size ≤ gb407)); have n3_ := Aside0.mk ((by rw [hg]; exact (below_size (by repeat (first | (with_reducible first | exact HB.out | apply below_alloc | apply pw_below_drewN | apply below_drew1) | exact HB.out))) : w.heap.size ≤ gb407)); clear HB; have HB := n0_; have BK407 := n1_; have GW407 := n2_; have GE407 := n3_; clear n0_ n1_ n2_ n3_; clear hb hbox hg; have hcz4_0 : w3.cell? ⟨gb407, 0, none⟩ = some (.bool true) := (blk_cell BK407.out 0).trans rfl; have hcz4_1 : w3.cell? ⟨gb407, 1, none⟩ = some (.slice A0_1 l0_1.length c0_1) := (blk_cell BK407.out 1).trans rfl; have hcz4_2 : w3.cell? ⟨gb407, 2, none⟩ = some (.slice A0_2 l0_2.length c0_2) := (blk_cell BK407.out 2).trans rfl; have hcz4_3 : w3.cell? ⟨gb407, 3, none⟩ = some (.slice A0_3 l0_3.length c0_3) := (blk_cell BK407.out 3).trans rfl; have hfz4_0 := blk_frozen BK407.out 0; have hfz4_1 := blk_frozen BK407.out 1; have hfz4_2 := blk_frozen BK407.out 2; have hfz4_3 := blk_frozen BK407.out 3) | ((with_reducible refine gate_dst (N := 14) rfl ?_); refine Kd.R_lit (Kd.int .u8) _ 5 ?hg (N := 14) ?hd (xs := ([1, ((l0_1.length : Int)) % 256] : List Int)) (inner := [.int .u8 1, .int .u8 (((l0_1.length : Int)) % 256)]) (ok := fun _ => True) (okp := fun _ => True) ?hr ?hp (fun _ hk => hk) trivial (Below.refl _ _) (Nat.le_refl _) (by simp) ?_; (case hd => rfl); (case hg => rfl); (case hr => first | (go_simp; done) | (go_simp; rfl)); (case hp => exact (Reps.one (show Kd.M (Kd.int .u8) _ _ _ 1 [.int .u8 1] from rfl) (Reps.one (show Kd.M (Kd.int .u8) _ _ _ (((l0_1.length : Int)) % 256) [.int .u8 (((l0_1.length : Int)) % 256)] from rfl) (Reps.none _ _)))); intro v409 w5 ho6 hb hg_ hnew_; clear hg_ hnew_; (first | rw [← Ny408.out] at ho6 | (simp only [Int.reduceToNat] at ho6; rw [← Ny408.out] at ho6)); have n0_ := Aside0.mk (Kd.R_lower ho6 (below_size (by repeat (first | (with_reducible first | exact HB.out | apply below_alloc | apply pw_below_drewN | apply below_drew1 | refine below_set ?_ GE407.out) | exact HB.out)))); have n1_ := Aside0.mk (blk_below (g := gb407) (o := .cells #[.bool true, .slice A0_1 l0_1.length c0_1, .slice A0_2 l0_2.length c0_2, .slice A0_3 l0_3.length c0_3] 26 (0, 0)) (by (with_reducible repeat (first | refine blk_drewN ?_ _ | refine blk_drew ?_ | refine blk_alloc ?_ _)); exact BK407.out) hb); have n2_ := Aside0.mk (below_step (by repeat (first | (with_reducible first | exact HB.out | apply below_alloc | apply pw_below_drewN | apply below_drew1 | refine below_set ?_ GE407.out) | exact HB.out)) hb); clear BK407; clear HB; have HO410 := n0_; have BK407 := n1_; have HB := n2_; clear n0_ n1_ n2_; clear hb ho6; have hcv7 := own_string (P := Try.prog) Try.underlying66 Try.underlying5 Try.underlying9 (Kd.own_of_R HO410.out)))
    go_loopg [3, 4] k (fun kq v3 v4 w' => ∃ (x3_1 : ByteArray) (x4_1 : Int), v3 = .string x3_1 ∧ v4 = .int .i64 x4_1 ∧ Aside0 (cisternref11_Encode.l0 kq x3_1 x4_1 true l0_1 l0_2 l0_3 = some r) ∧ Aside0 (kq ≤ k) ∧ Aside0 (w'.heap[gb407]? = some (.cells #[.bool true, (.slice A0_1 l0_1.length c0_1), (.slice A0_2 l0_2.length c0_2), (.slice A0_3 l0_3.length c0_3)] 26 (0, 0))) ∧ Aside0 (Below w.heap.size w w'))
    case atStart => exact ⟨(strOfNums y408), (0), (by first | rfl | (simp; done) | (simp [*]; done)), (by first | rfl | (simp; done) | (simp [*]; done)), H', ⟨Nat.le_refl _⟩, ⟨by (with_reducible repeat (first | refine blk_drewN ?_ _ | refine blk_drew ?_ | refine blk_alloc ?_ _)); exact BK407.out⟩, ⟨by repeat (first | (with_reducible first | exact HB.out | apply below_alloc | apply pw_below_drewN | apply below_drew1 | refine below_set ?_ GE407.out) | exact HB.out)⟩⟩
    case round =>
      clear H'
      try clear c2
      try clear p2
      try clear c4
      try clear hcv7
      try clear hcz4_0
      try clear hcz4_1
      try clear hcz4_2
      try clear hcz4_3
      try clear hfz4_0
      try clear hfz4_1
      try clear hfz4_2
      try clear hfz4_3
      obtain ⟨x3_1, x4_1, rfl, rfl, HA, HK1, BK407, HB⟩ := hrel
      cases gk with
      | zero => exact absurd HA.out (by simp [cisternref11_Encode.l0])
      | succ k1 =>
        have H := HA.out
        clear HA
        simp only [cisternref11_Encode.l0] at H
        by_cases c8 : x4_1 < (l0_1.length : Int)
        · rw [if_pos c8] at H
          have c8b0 : decide (x4_1 < (l0_1.length : Int)) = true := decide_eq_true c8
          clear c8
          by_cases c9 : 0 ≤ x4_1
          · rw [if_pos c9] at H
            have c9b0 : decide (0 ≤ x4_1) = true := decide_eq_true c9
            clear c9
            replace H := Option.bind_eq_some_iff.mp H
            obtain ⟨t412, A100, H⟩ := H
            replace H : (if x3_1.size + t412.size ≤ 9223372036854775807 then ((cisternref11_text.f ((rd_T48 l0_1 x4_1).f1)).bind fun t414 => (if (x3_1 ++ t412).size + t414.size ≤ 9223372036854775807 then (cisternref11_Encode.l0 k1 ((x3_1 ++ t412) ++ t414) (wrap64 (x4_1 + 1)) true l0_1 l0_2 l0_3) else (none))) else (none)) = some r := H
            have A10 := Aside0.mk A100
            clear A100
            by_cases c11 : x3_1.size + t412.size ≤ 9223372036854775807
            · rw [if_pos c11] at H
              have c11b0 := eq_true c11
              have c11b1 : decide (x3_1.size + t412.size ≤ 9223372036854775807) = true := decide_eq_true c11
              try have c11b2 : (9223372036854775807 < x3_1.size + t412.size) = False := eq_false (Nat.not_lt.2 c11)
              replace H := Option.bind_eq_some_iff.mp H
              obtain ⟨t414, A120, H⟩ := H
              replace H : (if (x3_1 ++ t412).size + t414.size ≤ 9223372036854775807 then (cisternref11_Encode.l0 k1 ((x3_1 ++ t412) ++ t414) (wrap64 (x4_1 + 1)) true l0_1 l0_2 l0_3) else (none)) = some r := H
              have A12 := Aside0.mk A120
              clear A120
              by_cases c13 : (x3_1 ++ t412).size + t414.size ≤ 9223372036854775807
              · rw [if_pos c13] at H
                have c13b0 := eq_true c13
                have c13b1 : decide ((x3_1 ++ t412).size + t414.size ≤ 9223372036854775807) = true := decide_eq_true c13
                try have c13b2 : (9223372036854775807 < (x3_1 ++ t412).size + t414.size) = False := eq_false (Nat.not_lt.2 c13)
                try have c13b3 := c13b2
                try rw [ByteArray.size_append] at c13b3
                have H' := Aside0.mk H
                clear H
                have hcz14_0 : wr.cell? ⟨gb407, 0, none⟩ = some (.bool true) := (blk_cell BK407.out 0).trans rfl
                have hcz14_1 : wr.cell? ⟨gb407, 1, none⟩ = some (.slice A0_1 l0_1.length c0_1) := (blk_cell BK407.out 1).trans rfl
                have hcz14_2 : wr.cell? ⟨gb407, 2, none⟩ = some (.slice A0_2 l0_2.length c0_2) := (blk_cell BK407.out 2).trans rfl
                have hcz14_3 : wr.cell? ⟨gb407, 3, none⟩ = some (.slice A0_3 l0_3.length c0_3) := (blk_cell BK407.out 3).trans rfl
                have hfz14_0 := blk_frozen BK407.out 0
                have hfz14_1 := blk_frozen BK407.out 1
                have hfz14_2 := blk_frozen BK407.out 2
                have hfz14_3 := blk_frozen BK407.out 3
                try go_wp2
                have n0_ := Aside0.mk (blk_drew BK407.out)
                have n1_ := Aside0.mk (below_drew1 HB.out)
                clear BK407
                clear HB
                have BK407 := n0_
                have HB := n1_
                clear n0_ n1_
                have p411 : 0 ≤ (x4_1 : Int) := of_decide_eq_true (by first | (with_reducible assumption) | assumption)
                have q411 : x4_1 < (l0_1.length : Int) := of_decide_eq_true (by first | (with_reducible assumption) | assumption)
                obtain ⟨ad411, e411, hx411_0, hx411_1⟩ := at_T48 HR0_1.out x4_1 p411 q411
                have hw411_1 := hx411_1
                have hw411_0 := hx411_0
                cases e411
                replace hx411_0 := (HB.out.cell (World.block_lt_of_cell? w _ hx411_0)).trans hx411_0
                replace hx411_1 := (HB.out.cell (World.block_lt_of_cell? w _ hx411_1)).trans hx411_1
                replace p411 := eq_true p411
                replace q411 := eq_true q411
                have p413 : 0 ≤ (x4_1 : Int) := of_decide_eq_true (by first | (with_reducible assumption) | assumption)
                have q413 : x4_1 < (l0_1.length : Int) := of_decide_eq_true (by first | (with_reducible assumption) | assumption)
                obtain ⟨ad413, e413, hx413_0, hx413_1⟩ := at_T48 HR0_1.out x4_1 p413 q413
                have hw413_1 := hx413_1
                have hw413_0 := hx413_0
                obtain rfl : ad411 = ad413 := (by injection e413)
                replace hx413_0 := (HB.out.cell (World.block_lt_of_cell? w _ hx413_0)).trans hx413_0
                replace hx413_1 := (HB.out.cell (World.block_lt_of_cell? w _ hx413_1)).trans hx413_1
                replace p413 := eq_true p413
                replace q413 := eq_true q413
                refine start_ (n := 18) (S := fun w' => w'.cell? ⟨gb407, 0, none⟩ = some (.bool true) ∧ w'.cell? ⟨gb407, 1, none⟩ = some (.slice (some ad411) l0_1.length c0_1) ∧ w'.cell? ⟨gb407, 2, none⟩ = some (.slice A0_2 l0_2.length c0_2) ∧ w'.cell? ⟨gb407, 3, none⟩ = some (.slice A0_3 l0_3.length c0_3) ∧ w'.cell? (ad411.add ((x4_1).toNat * 2)) = some (.string ((rd_T48 l0_1 x4_1).f0)) ∧ w'.cell? ⟨(ad411.add ((x4_1).toNat * 2)).block, (ad411.add ((x4_1).toNat * 2)).off + 1, none⟩ = some (.string ((rd_T48 l0_1 x4_1).f1)) ∧ w'.cell? (ad411.add ((x4_1).toNat * 2)) = some (.string ((rd_T48 l0_1 x4_1).f0)) ∧ w'.cell? ⟨(ad411.add ((x4_1).toNat * 2)).block, (ad411.add ((x4_1).toNat * 2)).off + 1, none⟩ = some (.string ((rd_T48 l0_1 x4_1).f1))) (ds := []) #[false, false, false, false, false, false, false, false, false, false, false, false, false, false, false, false, false, false] (by kernel_rfl) rfl rfl ⟨(blk_cell BK407.out 0).trans rfl, (blk_cell BK407.out 1).trans rfl, (blk_cell BK407.out 2).trans rfl, (blk_cell BK407.out 3).trans rfl, ((HB.out.cell (World.block_lt_of_cell? w _ hw411_0)).trans hw411_0), ((HB.out.cell (World.block_lt_of_cell? w _ hw411_1)).trans hw411_1), ((HB.out.cell (World.block_lt_of_cell? w _ hw413_0)).trans hw413_0), ((HB.out.cell (World.block_lt_of_cell? w _ hw413_1)).trans hw413_1)⟩ (fun hHeld => ?_); refine with_tabW cisternref11_Encode.tab6 cisternref11_Encode.bits6 (fun HT_ HW_ => ?_)
                generalize wr.drew = w15 at BK407 HB hx411_0 hx411_1 hx413_0 hx413_1 hHeld ⊢
                refine pure_ (i := 0) (N := some 23) (v := ?_) (a' := ?_) #[true, false, false, false, false, false, false, false, false, false, false, false, false, false, false, false, false, false] rfl rfl (any_of HT_.out (by kernel_rfl)) (fun _ _ _ h => h) (Or.inl ⟨by rfl, ?_⟩) ?_ ?_
                rotate_left
                · intro w'
                  go_simp
                  with_reducible rfl
                rotate_left
                · simp only [Act.put, List.setIfInBounds_toArray, List.set_cons_zero, List.set_cons_succ, i64_w, i32_w]
                  rfl
                refine pure_ (i := 1) (N := some 24) (v := ?_) (a' := ?_) #[true, true, false, false, false, false, false, false, false, false, false, false, false, false, false, false, false, false] rfl rfl (any_of HT_.out (by kernel_rfl)) (fun _ _ _ h => h) (Or.inl ⟨by rfl, ?_⟩) ?_ ?_
                rotate_left
                · intro w'
                  go_simp
                  with_reducible rfl
                rotate_left
                · simp only [Act.put, List.setIfInBounds_toArray, List.set_cons_zero, List.set_cons_succ, i64_w, i32_w]
                  rfl
                refine pure_ (i := 3) (N := some 26) (v := ?_) (a' := ?_) #[true, true, false, true, false, false, false, false, false, false, false, false, false, false, false, false, false, false] rfl rfl (any_of HT_.out (by kernel_rfl)) (fun _ _ _ h => h) (Or.inl ⟨by rfl, ?_⟩) ?_ ?_
                rotate_left
                · intro w'
                  go_simp
                  with_reducible rfl
                rotate_left
                · simp only [Act.put, List.setIfInBounds_toArray, List.set_cons_zero, List.set_cons_succ, i64_w, i32_w]
                  rfl
                refine pure_ (i := 9) (N := some 32) (v := ?_) (a' := ?_) #[true, true, false, true, false, false, false, false, false, true, false, false, false, false, false, false, false, false] rfl rfl (any_of HT_.out (by kernel_rfl)) (fun _ _ _ h => h) (Or.inl ⟨by rfl, ?_⟩) ?_ ?_
                rotate_left
                · intro w'
                  go_simp
                  with_reducible rfl
                rotate_left
                · simp only [Act.put, List.setIfInBounds_toArray, List.set_cons_zero, List.set_cons_succ, i64_w, i32_w]
                  rfl
                refine pure_ (i := 11) (N := some 34) (v := ?_) (a' := ?_) #[true, true, false, true, false, false, false, false, false, true, false, true, false, false, false, false, false, false] rfl rfl (any_of HT_.out (by kernel_rfl)) (fun _ _ _ h => h) (Or.inl ⟨by rfl, ?_⟩) ?_ ?_
                rotate_left
                · intro w'
                  go_simp
                  with_reducible rfl
                rotate_left
                · simp only [Act.put, List.setIfInBounds_toArray, List.set_cons_zero, List.set_cons_succ, i64_w, i32_w]
                  rfl
                refine take_ (i := 2) (N := some 25) (v := ?_) (a' := ?_) #[true, true, true, true, false, false, false, false, false, true, false, true, false, false, false, false, false, false] rfl rfl (take_ofW HT_.out HW_.out (by kernel_rfl)) (fun _ _ _ h => h) (Or.inl ⟨by rfl, ?_⟩) hHeld ?_ ?_
                rotate_left
                · rintro w' ⟨s0, s1, s2, s3, s4, s5, s6, s7⟩
                  go_simp
                  with_reducible rfl
                rotate_left
                · simp only [Act.put, List.setIfInBounds_toArray, List.set_cons_zero, List.set_cons_succ, i64_w, i32_w]
                  rfl
                refine pure_ (i := 4) (N := some 27) (v := ?_) (a' := ?_) #[true, true, true, true, true, false, false, false, false, true, false, true, false, false, false, false, false, false] rfl rfl (any_of HT_.out (by kernel_rfl)) (fun _ _ _ h => h) (Or.inl ⟨by rfl, ?_⟩) ?_ ?_
                rotate_left
                · intro w'
                  go_simp
                  with_reducible rfl
                rotate_left
                · simp only [Act.put, List.setIfInBounds_toArray, List.set_cons_zero, List.set_cons_succ, i64_w, i32_w]
                  rfl
                refine pure_ (i := 5) (N := some 28) (v := ?_) (a' := ?_) #[true, true, true, true, true, true, false, false, false, true, false, true, false, false, false, false, false, false] rfl rfl (any_of HT_.out (by kernel_rfl)) (fun _ _ _ h => h) (Or.inl ⟨by rfl, ?_⟩) ?_ ?_
                rotate_left
                · intro w'
                  go_simp
                  with_reducible rfl
                rotate_left
                · simp only [Act.put, List.setIfInBounds_toArray, List.set_cons_zero, List.set_cons_succ, i64_w, i32_w]
                  rfl
                refine take_ (i := 6) (N := some 29) (v := ?_) (a' := ?_) #[true, true, true, true, true, true, true, false, false, true, false, true, false, false, false, false, false, false] rfl rfl (take_ofW HT_.out HW_.out (by kernel_rfl)) (fun _ _ _ h => h) (Or.inl ⟨by rfl, ?_⟩) hHeld ?_ ?_
                rotate_left
                · rintro w' ⟨s0, s1, s2, s3, s4, s5, s6, s7⟩
                  go_simp
                  with_reducible rfl
                rotate_left
                · simp only [Act.put, List.setIfInBounds_toArray, List.set_cons_zero, List.set_cons_succ, i64_w, i32_w]
                  rfl
                refine take_ (i := 10) (N := some 33) (v := ?_) (a' := ?_) #[true, true, true, true, true, true, true, false, false, true, true, true, false, false, false, false, false, false] rfl rfl (take_ofW HT_.out HW_.out (by kernel_rfl)) (fun _ _ _ h => h) (Or.inl ⟨by rfl, ?_⟩) hHeld ?_ ?_
                rotate_left
                · rintro w' ⟨s0, s1, s2, s3, s4, s5, s6, s7⟩
                  go_simp
                  with_reducible rfl
                rotate_left
                · simp only [Act.put, List.setIfInBounds_toArray, List.set_cons_zero, List.set_cons_succ, i64_w, i32_w]
                  rfl
                refine pure_ (i := 12) (N := some 35) (v := ?_) (a' := ?_) #[true, true, true, true, true, true, true, false, false, true, true, true, true, false, false, false, false, false] rfl rfl (any_of HT_.out (by kernel_rfl)) (fun _ _ _ h => h) (Or.inl ⟨by rfl, ?_⟩) ?_ ?_
                rotate_left
                · intro w'
                  go_simp
                  with_reducible rfl
                rotate_left
                · simp only [Act.put, List.setIfInBounds_toArray, List.set_cons_zero, List.set_cons_succ, i64_w, i32_w]
                  rfl
                refine pure_ (i := 13) (N := some 36) (v := ?_) (a' := ?_) #[true, true, true, true, true, true, true, false, false, true, true, true, true, true, false, false, false, false] rfl rfl (any_of HT_.out (by kernel_rfl)) (fun _ _ _ h => h) (Or.inl ⟨by rfl, ?_⟩) ?_ ?_
                rotate_left
                · intro w'
                  go_simp
                  with_reducible rfl
                rotate_left
                · simp only [Act.put, List.setIfInBounds_toArray, List.set_cons_zero, List.set_cons_succ, i64_w, i32_w]
                  rfl
                refine take_ (i := 14) (N := some 37) (v := ?_) (a' := ?_) #[true, true, true, true, true, true, true, false, false, true, true, true, true, true, true, false, false, false] rfl rfl (take_ofW HT_.out HW_.out (by kernel_rfl)) (fun _ _ _ h => h) (Or.inl ⟨by rfl, ?_⟩) hHeld ?_ ?_
                rotate_left
                · rintro w' ⟨s0, s1, s2, s3, s4, s5, s6, s7⟩
                  go_simp
                  with_reducible rfl
                rotate_left
                · simp only [Act.put, List.setIfInBounds_toArray, List.set_cons_zero, List.set_cons_succ, i64_w, i32_w]
                  rfl
                refine one_ (i := 7) (N := some 30) #[true, true, true, true, true, true, true, true, false, true, true, true, true, true, true, false, false, false] rfl rfl (one_of HT_.out (by kernel_rfl)) (by decide) (fun K hK => ?_)
                refine goes_ Try.func72 (by kernel_rfl) rfl #[.string ((rd_T48 l0_1 x4_1).f0)] (by rfl) rfl rfl (by (try simp only [List.map_toArray, List.map_cons, List.map_nil]); first | done | rfl | (simp only [List.length_drop, List.length_take]; rfl)) ?_
                with_reducible refine (cisternref11_text.calls ((rd_T48 l0_1 x4_1).f0) t412 _ A10.out).mono ?_
                rintro e w16 ⟨rfl, hb⟩
                refine ⟨_, rfl, ?_⟩
                have n0_ := Aside0.mk (blk_below (g := gb407) (o := .cells #[.bool true, .slice (some ad411) l0_1.length c0_1, .slice A0_2 l0_2.length c0_2, .slice A0_3 l0_3.length c0_3] 26 (0, 0)) (by (with_reducible repeat (first | refine blk_drewN ?_ _ | refine blk_drew ?_ | refine blk_alloc ?_ _)); exact BK407.out) hb)
                have n1_ := Aside0.mk (below_step (by repeat (first | (with_reducible first | exact HB.out | apply below_alloc | apply pw_below_drewN | apply below_drew1 | refine below_set ?_ GE407.out) | exact HB.out)) hb)
                clear BK407
                clear HB
                have BK407 := n0_
                have HB := n1_
                clear n0_ n1_
                (try clear hb)
                (try clear hb2)
                (try clear hk)
                (try clear hi)
                refine hK.out _ _ ⟨(blk_cell BK407.out 0).trans rfl, (blk_cell BK407.out 1).trans rfl, (blk_cell BK407.out 2).trans rfl, (blk_cell BK407.out 3).trans rfl, ((HB.out.cell (World.block_lt_of_cell? w _ hw411_0)).trans hw411_0), ((HB.out.cell (World.block_lt_of_cell? w _ hw411_1)).trans hw411_1), ((HB.out.cell (World.block_lt_of_cell? w _ hw413_0)).trans hw413_0), ((HB.out.cell (World.block_lt_of_cell? w _ hw413_1)).trans hw413_1)⟩ (fun hHeld => ?_)
                clear hK K
                refine norm_ (a' := ?_) ?_ ?_
                rotate_left
                · show Act.put _ (some 30) _ = _
                  simp only [Act.put, List.setIfInBounds_toArray, List.set_cons_zero, List.set_cons_succ, i64_w, i32_w]
                  rfl
                refine pure_ (i := 8) (N := some 31) (v := ?_) (a' := ?_) #[true, true, true, true, true, true, true, true, true, true, true, true, true, true, true, false, false, false] rfl rfl (any_of HT_.out (by kernel_rfl)) (fun _ _ _ h => h) (Or.inl ⟨by rfl, ?_⟩) ?_ ?_
                rotate_left
                · intro w'
                  go_simp
                  with_reducible rfl
                rotate_left
                · simp only [Act.put, List.setIfInBounds_toArray, List.set_cons_zero, List.set_cons_succ, i64_w, i32_w]
                  rfl
                refine one_ (i := 15) (N := some 38) #[true, true, true, true, true, true, true, true, true, true, true, true, true, true, true, true, false, false] rfl rfl (one_of HT_.out (by kernel_rfl)) (by decide) (fun K hK => ?_)
                refine goes_ Try.func72 (by kernel_rfl) rfl #[.string ((rd_T48 l0_1 x4_1).f1)] (by rfl) rfl rfl (by (try simp only [List.map_toArray, List.map_cons, List.map_nil]); first | done | rfl | (simp only [List.length_drop, List.length_take]; rfl)) ?_
                with_reducible refine (cisternref11_text.calls ((rd_T48 l0_1 x4_1).f1) t414 _ A12.out).mono ?_
                rintro e w17 ⟨rfl, hb⟩
                refine ⟨_, rfl, ?_⟩
                have n0_ := Aside0.mk (blk_below (g := gb407) (o := .cells #[.bool true, .slice (some ad411) l0_1.length c0_1, .slice A0_2 l0_2.length c0_2, .slice A0_3 l0_3.length c0_3] 26 (0, 0)) (by (with_reducible repeat (first | refine blk_drewN ?_ _ | refine blk_drew ?_ | refine blk_alloc ?_ _)); exact BK407.out) hb)
                have n1_ := Aside0.mk (below_step (by repeat (first | (with_reducible first | exact HB.out | apply below_alloc | apply pw_below_drewN | apply below_drew1 | refine below_set ?_ GE407.out) | exact HB.out)) hb)
                clear BK407
                clear HB
                have BK407 := n0_
                have HB := n1_
                clear n0_ n1_
                (try clear hb)
                (try clear hb2)
                (try clear hk)
                (try clear hi)
                refine hK.out _ _ ⟨(blk_cell BK407.out 0).trans rfl, (blk_cell BK407.out 1).trans rfl, (blk_cell BK407.out 2).trans rfl, (blk_cell BK407.out 3).trans rfl, ((HB.out.cell (World.block_lt_of_cell? w _ hw411_0)).trans hw411_0), ((HB.out.cell (World.block_lt_of_cell? w _ hw411_1)).trans hw411_1), ((HB.out.cell (World.block_lt_of_cell? w _ hw413_0)).trans hw413_0), ((HB.out.cell (World.block_lt_of_cell? w _ hw413_1)).trans hw413_1)⟩ (fun hHeld => ?_)
                clear hK K
                refine norm_ (a' := ?_) ?_ ?_
                rotate_left
                · show Act.put _ (some 38) _ = _
                  simp only [Act.put, List.setIfInBounds_toArray, List.set_cons_zero, List.set_cons_succ, i64_w, i32_w]
                  rfl
                refine pure_ (i := 16) (N := some 39) (v := ?_) (a' := ?_) #[true, true, true, true, true, true, true, true, true, true, true, true, true, true, true, true, true, false] rfl rfl (any_of HT_.out (by kernel_rfl)) (fun _ _ _ h => h) (Or.inl ⟨by rfl, ?_⟩) ?_ ?_
                rotate_left
                · intro w'
                  go_simp
                  with_reducible rfl
                rotate_left
                · simp only [Act.put, List.setIfInBounds_toArray, List.set_cons_zero, List.set_cons_succ, i64_w, i32_w]
                  rfl
                refine pure_ (i := 17) (N := some 3) (v := ?_) (a' := ?_) #[true, true, true, true, true, true, true, true, true, true, true, true, true, true, true, true, true, true] rfl rfl (any_of HT_.out (by kernel_rfl)) (fun _ _ _ h => h) (Or.inl ⟨by rfl, ?_⟩) ?_ ?_
                rotate_left
                · intro w'
                  go_simp
                  with_reducible rfl
                rotate_left
                · simp only [Act.put, List.setIfInBounds_toArray, List.set_cons_zero, List.set_cons_succ, i64_w, i32_w]
                  rfl
                refine done_ (done_of HT_.out (by kernel_rfl)) ?_
                try go_wp2
                go_roundg k1
                case measure => have := HK1.out; omega
                case rel => exact ⟨((x3_1 ++ t412) ++ t414), (wrap64 (x4_1 + 1)), (by first | rfl | (simp; done) | (simp [*]; done)), (by first | rfl | (simp; done) | (simp [*]; done)), H', ⟨by have := HK1.out; omega⟩, ⟨by (with_reducible repeat (first | refine blk_drewN ?_ _ | refine blk_drew ?_ | refine blk_alloc ?_ _)); exact BK407.out⟩, ⟨by repeat (first | (with_reducible first | exact HB.out | apply below_alloc | apply pw_below_drewN | apply below_drew1 | refine below_set ?_ GE407.out) | exact HB.out)⟩⟩
              · rw [if_neg c13] at H
                exact absurd H (by simp)
            · rw [if_neg c11] at H
              exact absurd H (by simp)
          · rw [if_neg c9] at H
            exact absurd H (by simp)
        · rw [if_neg c8] at H
          have c8b0 : decide (x4_1 < (l0_1.length : Int)) = false := decide_eq_false c8
          clear c8
          obtain rfl := Option.some.inj H
          have hcz18_0 : wr.cell? ⟨gb407, 0, none⟩ = some (.bool true) := (blk_cell BK407.out 0).trans rfl
          have hcz18_1 : wr.cell? ⟨gb407, 1, none⟩ = some (.slice A0_1 l0_1.length c0_1) := (blk_cell BK407.out 1).trans rfl
          have hcz18_2 : wr.cell? ⟨gb407, 2, none⟩ = some (.slice A0_2 l0_2.length c0_2) := (blk_cell BK407.out 2).trans rfl
          have hcz18_3 : wr.cell? ⟨gb407, 3, none⟩ = some (.slice A0_3 l0_3.length c0_3) := (blk_cell BK407.out 3).trans rfl
          have hfz18_0 := blk_frozen BK407.out 0
          have hfz18_1 := blk_frozen BK407.out 1
          have hfz18_2 := blk_frozen BK407.out 2
          have hfz18_3 := blk_frozen BK407.out 3
          go_wp2
          go_ret
          exact ⟨by first | rfl | (simp [errW_none, errW_some] <;> rfl) | (simp [*, errW_none, errW_some] <;> rfl), by repeat (first | (with_reducible first | exact HB.out | apply below_alloc | apply pw_below_drewN | apply below_drew1 | refine below_set ?_ GE407.out) | exact HB.out)⟩
  · replace c2 := Bool.eq_false_iff.mpr c2
    subst c2
    have H1 : (cisternref11_Encode.l1 k (strOfNums (([2, ((l0_3.length : Int)) % 256] : List Int))) 0 false l0_1 l0_2 l0_3) = some r := by rw [if_neg (show ¬ (false = true) by decide)] at H; exact H
    clear H
    have H := H1
    clear H1
    obtain ⟨y415, hy415⟩ : ∃ y_ : List Int, y_ = (([2, ((l0_3.length : Int)) % 256] : List Int)) := ⟨_, rfl⟩
    replace H : (cisternref11_Encode.l1 k (strOfNums y415) 0 false l0_1 l0_2 l0_3) = some r := by first | (rw [hy415]; with_reducible exact H) | (have H2_ := (Option.bind_some _ _).symm.trans H; rw [hy415]; with_reducible exact H2_) | (have H2_ := (Option.bind_some _ _).symm.trans H; with_reducible exact H2_) | with_reducible exact H | (rw [hy415]; exact H) | exact H
    have Ny415 := Aside0.mk hy415
    clear hy415
    have H' := Aside0.mk H
    clear H
    go_enter Try.func49, Try.ntmps49
    go_wp2_with (first | ((with_reducible refine gate_dst (N := 1) rfl ?_); refine box_event ?hg (N := 1) ?hd (cs := #[.bool false, .slice A0_1 l0_1.length c0_1, .slice A0_2 l0_2.length c0_2, .slice A0_3 l0_3.length c0_3]) (t := 26) ?hr ?_; (case hd => rfl); (case hg => rfl); (case hr => first | (go_simp; done) | (go_simp; rfl)); intro gb407 hg w19 hbox hb; have n0_ := Aside0.mk (below_step (by repeat (first | (with_reducible first | exact HB.out | apply below_alloc | apply pw_below_drewN | apply below_drew1) | exact HB.out)) hb); have n1_ := Aside0.mk (hbox); have n2_ := Aside0.mk ((by rw [hg]; exact (below_size (by repeat (first | (with_reducible first | exact HB.out | apply below_alloc | apply pw_below_drewN | apply below_drew1) | exact HB.out))) : w.heap.size ≤ gb407)); have n3_ := Aside0.mk ((by rw [hg]; exact (below_size (by repeat (first | (with_reducible first | exact HB.out | apply below_alloc | apply pw_below_drewN | apply below_drew1) | exact HB.out))) : w.heap.size ≤ gb407)); clear HB; have HB := n0_; have BK407 := n1_; have GW407 := n2_; have GE407 := n3_; clear n0_ n1_ n2_ n3_; clear hb hbox hg; have hcz20_0 : w19.cell? ⟨gb407, 0, none⟩ = some (.bool false) := (blk_cell BK407.out 0).trans rfl; have hcz20_1 : w19.cell? ⟨gb407, 1, none⟩ = some (.slice A0_1 l0_1.length c0_1) := (blk_cell BK407.out 1).trans rfl; have hcz20_2 : w19.cell? ⟨gb407, 2, none⟩ = some (.slice A0_2 l0_2.length c0_2) := (blk_cell BK407.out 2).trans rfl; have hcz20_3 : w19.cell? ⟨gb407, 3, none⟩ = some (.slice A0_3 l0_3.length c0_3) := (blk_cell BK407.out 3).trans rfl; have hfz20_0 := blk_frozen BK407.out 0; have hfz20_1 := blk_frozen BK407.out 1; have hfz20_2 := blk_frozen BK407.out 2; have hfz20_3 := blk_frozen BK407.out 3) | ((with_reducible refine gate_dst (N := 45) rfl ?_); refine Kd.R_lit (Kd.int .u8) _ 5 ?hg (N := 45) ?hd (xs := ([2, ((l0_3.length : Int)) % 256] : List Int)) (inner := [.int .u8 2, .int .u8 (((l0_3.length : Int)) % 256)]) (ok := fun _ => True) (okp := fun _ => True) ?hr ?hp (fun _ hk => hk) trivial (Below.refl _ _) (Nat.le_refl _) (by simp) ?_; (case hd => rfl); (case hg => rfl); (case hr => first | (go_simp; done) | (go_simp; rfl)); (case hp => exact (Reps.one (show Kd.M (Kd.int .u8) _ _ _ 2 [.int .u8 2] from rfl) (Reps.one (show Kd.M (Kd.int .u8) _ _ _ (((l0_3.length : Int)) % 256) [.int .u8 (((l0_3.length : Int)) % 256)] from rfl) (Reps.none _ _)))); intro v416 w21 ho22 hb hg_ hnew_; clear hg_ hnew_; (first | rw [← Ny415.out] at ho22 | (simp only [Int.reduceToNat] at ho22; rw [← Ny415.out] at ho22)); have n0_ := Aside0.mk (Kd.R_lower ho22 (below_size (by repeat (first | (with_reducible first | exact HB.out | apply below_alloc | apply pw_below_drewN | apply below_drew1 | refine below_set ?_ GE407.out) | exact HB.out)))); have n1_ := Aside0.mk (blk_below (g := gb407) (o := .cells #[.bool false, .slice A0_1 l0_1.length c0_1, .slice A0_2 l0_2.length c0_2, .slice A0_3 l0_3.length c0_3] 26 (0, 0)) (by (with_reducible repeat (first | refine blk_drewN ?_ _ | refine blk_drew ?_ | refine blk_alloc ?_ _)); exact BK407.out) hb); have n2_ := Aside0.mk (below_step (by repeat (first | (with_reducible first | exact HB.out | apply below_alloc | apply pw_below_drewN | apply below_drew1 | refine below_set ?_ GE407.out) | exact HB.out)) hb); clear BK407; clear HB; have HO417 := n0_; have BK407 := n1_; have HB := n2_; clear n0_ n1_ n2_; clear hb ho22; have hcv23 := own_string (P := Try.prog) Try.underlying66 Try.underlying5 Try.underlying9 (Kd.own_of_R HO417.out)))
    go_loopg [5, 6] k (fun kq v5 v6 w' => ∃ (x5_1 : ByteArray) (x6_1 : Int), v5 = .string x5_1 ∧ v6 = .int .i64 x6_1 ∧ Aside0 (cisternref11_Encode.l1 kq x5_1 x6_1 false l0_1 l0_2 l0_3 = some r) ∧ Aside0 (kq ≤ k) ∧ Aside0 (w'.heap[gb407]? = some (.cells #[.bool false, (.slice A0_1 l0_1.length c0_1), (.slice A0_2 l0_2.length c0_2), (.slice A0_3 l0_3.length c0_3)] 26 (0, 0))) ∧ Aside0 (Below w.heap.size w w'))
    case atStart => exact ⟨(strOfNums y415), (0), (by first | rfl | (simp; done) | (simp [*]; done)), (by first | rfl | (simp; done) | (simp [*]; done)), H', ⟨Nat.le_refl _⟩, ⟨by (with_reducible repeat (first | refine blk_drewN ?_ _ | refine blk_drew ?_ | refine blk_alloc ?_ _)); exact BK407.out⟩, ⟨by repeat (first | (with_reducible first | exact HB.out | apply below_alloc | apply pw_below_drewN | apply below_drew1 | refine below_set ?_ GE407.out) | exact HB.out)⟩⟩
    case round =>
      clear H'
      try clear c1
      try clear c2
      try clear p2
      try clear hcv2
      try clear c4
      try clear p4
      try clear q4
      try clear hx4
      try clear p6
      try clear c7
      try clear hcv7
      try clear c8
      try clear c8b0
      try clear c9
      try clear c9b0
      try clear c11
      try clear c11b0
      try clear c11b1
      try clear c11b2
      try clear c13
      try clear c13b0
      try clear c13b1
      try clear c13b2
      try clear hcv23
      try clear hcz14_0
      try clear hcz14_1
      try clear hcz14_2
      try clear hcz14_3
      try clear hcz18_0
      try clear hcz18_1
      try clear hcz18_2
      try clear hcz18_3
      try clear hcz20_0
      try clear hcz20_1
      try clear hcz20_2
      try clear hcz20_3
      try clear hcz4_0
      try clear hcz4_1
      try clear hcz4_2
      try clear hcz4_3
      try clear hfz14_0
      try clear hfz14_1
      try clear hfz14_2
      try clear hfz14_3
      try clear hfz18_0
      try clear hfz18_1
      try clear hfz18_2
      try clear hfz18_3
      try clear hfz20_0
      try clear hfz20_1
      try clear hfz20_2
      try clear hfz20_3
      try clear hfz4_0
      try clear hfz4_1
      try clear hfz4_2
      try clear hfz4_3
      try clear hx411_0
      try clear hx411_1
      try clear hx413_0
      try clear hx413_1
      try clear p2
      try clear p411
      try clear p413
      try clear q411
      try clear q413
      obtain ⟨x5_1, x6_1, rfl, rfl, HA, HK1, BK407, HB⟩ := hrel
      cases gk with
      | zero => exact absurd HA.out (by simp [cisternref11_Encode.l1])
      | succ k1 =>
        have H := HA.out
        clear HA
        simp only [cisternref11_Encode.l1] at H
        by_cases c24 : x6_1 < (l0_3.length : Int)
        · rw [if_pos c24] at H
          have c24b0 : decide (x6_1 < (l0_3.length : Int)) = true := decide_eq_true c24
          clear c24
          by_cases c25 : 0 ≤ x6_1
          · rw [if_pos c25] at H
            have c25b0 : decide (0 ≤ x6_1) = true := decide_eq_true c25
            clear c25
            obtain ⟨y420, hy420⟩ : ∃ y_ : List Int, y_ = (([(Int.tmod (rd l0_3 x6_1) 256) % 256, (wrap64 (Int.tdiv (rd l0_3 x6_1) 256)) % 256] : List Int)) := ⟨_, rfl⟩
            replace H : (if x5_1.size + (strOfNums y420).size ≤ 9223372036854775807 then (cisternref11_Encode.l1 k1 (x5_1 ++ (strOfNums y420)) (wrap64 (x6_1 + 1)) false l0_1 l0_2 l0_3) else (none)) = some r := by first | (rw [hy420]; with_reducible exact H) | (have H2_ := (Option.bind_some _ _).symm.trans H; rw [hy420]; with_reducible exact H2_) | (have H2_ := (Option.bind_some _ _).symm.trans H; with_reducible exact H2_) | with_reducible exact H | (rw [hy420]; exact H) | exact H
            have Ny420 := Aside0.mk hy420
            clear hy420
            by_cases c26 : x5_1.size + (strOfNums y420).size ≤ 9223372036854775807
            · rw [if_pos c26] at H
              have c26b0 := eq_true c26
              have c26b1 : decide (x5_1.size + (strOfNums y420).size ≤ 9223372036854775807) = true := decide_eq_true c26
              try have c26b2 : (9223372036854775807 < x5_1.size + (strOfNums y420).size) = False := eq_false (Nat.not_lt.2 c26)
              have H' := Aside0.mk H
              clear H
              have hcz27_0 : wr.cell? ⟨gb407, 0, none⟩ = some (.bool false) := (blk_cell BK407.out 0).trans rfl
              have hcz27_1 : wr.cell? ⟨gb407, 1, none⟩ = some (.slice A0_1 l0_1.length c0_1) := (blk_cell BK407.out 1).trans rfl
              have hcz27_2 : wr.cell? ⟨gb407, 2, none⟩ = some (.slice A0_2 l0_2.length c0_2) := (blk_cell BK407.out 2).trans rfl
              have hcz27_3 : wr.cell? ⟨gb407, 3, none⟩ = some (.slice A0_3 l0_3.length c0_3) := (blk_cell BK407.out 3).trans rfl
              have hfz27_0 := blk_frozen BK407.out 0
              have hfz27_1 := blk_frozen BK407.out 1
              have hfz27_2 := blk_frozen BK407.out 2
              have hfz27_3 := blk_frozen BK407.out 3
              try go_wp2
              have n0_ := Aside0.mk (blk_drew BK407.out)
              have n1_ := Aside0.mk (below_drew1 HB.out)
              clear BK407
              clear HB
              have BK407 := n0_
              have HB := n1_
              clear n0_ n1_
              have p418 : 0 ≤ (x6_1 : Int) := of_decide_eq_true (by first | (with_reducible assumption) | assumption)
              have q418 : x6_1 < (l0_3.length : Int) := of_decide_eq_true (by first | (with_reducible assumption) | assumption)
              obtain ⟨ad418, e418, hx418_0⟩ := Kd.at_int HR0_3.out x6_1 p418 q418
              have hw418_0 := hx418_0
              cases e418
              replace hx418_0 := (HB.out.cell (World.block_lt_of_cell? w _ hx418_0)).trans hx418_0
              replace p418 := eq_true p418
              replace q418 := eq_true q418
              have p419 : 0 ≤ (x6_1 : Int) := of_decide_eq_true (by first | (with_reducible assumption) | assumption)
              have q419 : x6_1 < (l0_3.length : Int) := of_decide_eq_true (by first | (with_reducible assumption) | assumption)
              obtain ⟨ad419, e419, hx419_0⟩ := Kd.at_int HR0_3.out x6_1 p419 q419
              have hw419_0 := hx419_0
              obtain rfl : ad418 = ad419 := (by injection e419)
              replace hx419_0 := (HB.out.cell (World.block_lt_of_cell? w _ hx419_0)).trans hx419_0
              replace p419 := eq_true p419
              replace q419 := eq_true q419
              refine start_ (n := 19) (S := fun w' => w'.cell? ⟨gb407, 0, none⟩ = some (.bool false) ∧ w'.cell? ⟨gb407, 1, none⟩ = some (.slice A0_1 l0_1.length c0_1) ∧ w'.cell? ⟨gb407, 2, none⟩ = some (.slice A0_2 l0_2.length c0_2) ∧ w'.cell? ⟨gb407, 3, none⟩ = some (.slice (some ad418) l0_3.length c0_3) ∧ w'.cell? (ad418.add (x6_1).toNat) = some (.int .i64 (rd l0_3 x6_1)) ∧ w'.cell? (ad418.add (x6_1).toNat) = some (.int .i64 (rd l0_3 x6_1))) (ds := []) #[false, false, false, false, false, false, false, false, false, false, false, false, false, false, false, false, false, false, false] (by kernel_rfl) rfl rfl ⟨(blk_cell BK407.out 0).trans rfl, (blk_cell BK407.out 1).trans rfl, (blk_cell BK407.out 2).trans rfl, (blk_cell BK407.out 3).trans rfl, ((HB.out.cell (World.block_lt_of_cell? w _ hw418_0)).trans hw418_0), ((HB.out.cell (World.block_lt_of_cell? w _ hw419_0)).trans hw419_0)⟩ (fun hHeld => ?_); refine with_tabW cisternref11_Encode.tab12 cisternref11_Encode.bits12 (fun HT_ HW_ => ?_)
              generalize wr.drew = w28 at BK407 HB hx418_0 hx419_0 hHeld ⊢
              refine pure_ (i := 0) (N := some 54) (v := ?_) (a' := ?_) #[true, false, false, false, false, false, false, false, false, false, false, false, false, false, false, false, false, false, false] rfl rfl (any_of HT_.out (by kernel_rfl)) (fun _ _ _ h => h) (Or.inl ⟨by rfl, ?_⟩) ?_ ?_
              rotate_left
              · intro w'
                go_simp
                with_reducible rfl
              rotate_left
              · simp only [Act.put, List.setIfInBounds_toArray, List.set_cons_zero, List.set_cons_succ, i64_w, i32_w]
                rfl
              refine pure_ (i := 1) (N := some 55) (v := ?_) (a' := ?_) #[true, true, false, false, false, false, false, false, false, false, false, false, false, false, false, false, false, false, false] rfl rfl (any_of HT_.out (by kernel_rfl)) (fun _ _ _ h => h) (Or.inl ⟨by rfl, ?_⟩) ?_ ?_
              rotate_left
              · intro w'
                go_simp
                with_reducible rfl
              rotate_left
              · simp only [Act.put, List.setIfInBounds_toArray, List.set_cons_zero, List.set_cons_succ, i64_w, i32_w]
                rfl
              refine pure_ (i := 3) (N := some 57) (v := ?_) (a' := ?_) #[true, true, false, true, false, false, false, false, false, false, false, false, false, false, false, false, false, false, false] rfl rfl (any_of HT_.out (by kernel_rfl)) (fun _ _ _ h => h) (Or.inl ⟨by rfl, ?_⟩) ?_ ?_
              rotate_left
              · intro w'
                go_simp
                with_reducible rfl
              rotate_left
              · simp only [Act.put, List.setIfInBounds_toArray, List.set_cons_zero, List.set_cons_succ, i64_w, i32_w]
                rfl
              refine pure_ (i := 8) (N := some 62) (v := ?_) (a' := ?_) #[true, true, false, true, false, false, false, false, true, false, false, false, false, false, false, false, false, false, false] rfl rfl (any_of HT_.out (by kernel_rfl)) (fun _ _ _ h => h) (Or.inl ⟨by rfl, ?_⟩) ?_ ?_
              rotate_left
              · intro w'
                go_simp
                with_reducible rfl
              rotate_left
              · simp only [Act.put, List.setIfInBounds_toArray, List.set_cons_zero, List.set_cons_succ, i64_w, i32_w]
                rfl
              refine pure_ (i := 10) (N := some 64) (v := ?_) (a' := ?_) #[true, true, false, true, false, false, false, false, true, false, true, false, false, false, false, false, false, false, false] rfl rfl (any_of HT_.out (by kernel_rfl)) (fun _ _ _ h => h) (Or.inl ⟨by rfl, ?_⟩) ?_ ?_
              rotate_left
              · intro w'
                go_simp
                with_reducible rfl
              rotate_left
              · simp only [Act.put, List.setIfInBounds_toArray, List.set_cons_zero, List.set_cons_succ, i64_w, i32_w]
                rfl
              refine take_ (i := 2) (N := some 56) (v := ?_) (a' := ?_) #[true, true, true, true, false, false, false, false, true, false, true, false, false, false, false, false, false, false, false] rfl rfl (take_ofW HT_.out HW_.out (by kernel_rfl)) (fun _ _ _ h => h) (Or.inl ⟨by rfl, ?_⟩) hHeld ?_ ?_
              rotate_left
              · rintro w' ⟨s0, s1, s2, s3, s4, s5⟩
                go_simp
                with_reducible rfl
              rotate_left
              · simp only [Act.put, List.setIfInBounds_toArray, List.set_cons_zero, List.set_cons_succ, i64_w, i32_w]
                rfl
              refine pure_ (i := 4) (N := some 58) (v := ?_) (a' := ?_) #[true, true, true, true, true, false, false, false, true, false, true, false, false, false, false, false, false, false, false] rfl rfl (any_of HT_.out (by kernel_rfl)) (fun _ _ _ h => h) (Or.inl ⟨by rfl, ?_⟩) ?_ ?_
              rotate_left
              · intro w'
                go_simp
                with_reducible rfl
              rotate_left
              · simp only [Act.put, List.setIfInBounds_toArray, List.set_cons_zero, List.set_cons_succ, i64_w, i32_w]
                rfl
              refine take_ (i := 5) (N := some 59) (v := ?_) (a' := ?_) #[true, true, true, true, true, true, false, false, true, false, true, false, false, false, false, false, false, false, false] rfl rfl (take_ofW HT_.out HW_.out (by kernel_rfl)) (fun _ _ _ h => h) (Or.inl ⟨by rfl, ?_⟩) hHeld ?_ ?_
              rotate_left
              · rintro w' ⟨s0, s1, s2, s3, s4, s5⟩
                go_simp
                with_reducible rfl
              rotate_left
              · simp only [Act.put, List.setIfInBounds_toArray, List.set_cons_zero, List.set_cons_succ, i64_w, i32_w]
                rfl
              refine pure_ (i := 6) (N := some 60) (v := ?_) (a' := ?_) #[true, true, true, true, true, true, true, false, true, false, true, false, false, false, false, false, false, false, false] rfl rfl (any_of HT_.out (by kernel_rfl)) (fun _ _ _ h => h) (Or.inl ⟨by rfl, ?_⟩) ?_ ?_
              rotate_left
              · intro w'
                go_simp
                with_reducible rfl
              rotate_left
              · simp only [Act.put, List.setIfInBounds_toArray, List.set_cons_zero, List.set_cons_succ, i64_w, i32_w]
                rfl
              refine pure_ (i := 7) (N := some 61) (v := ?_) (a' := ?_) #[true, true, true, true, true, true, true, true, true, false, true, false, false, false, false, false, false, false, false] rfl rfl (any_of HT_.out (by kernel_rfl)) (fun _ _ _ h => h) (Or.inl ⟨by rfl, ?_⟩) ?_ ?_
              rotate_left
              · intro w'
                go_simp
                with_reducible rfl
              rotate_left
              · simp only [Act.put, List.setIfInBounds_toArray, List.set_cons_zero, List.set_cons_succ, i64_w, i32_w]
                rfl
              refine take_ (i := 9) (N := some 63) (v := ?_) (a' := ?_) #[true, true, true, true, true, true, true, true, true, true, true, false, false, false, false, false, false, false, false] rfl rfl (take_ofW HT_.out HW_.out (by kernel_rfl)) (fun _ _ _ h => h) (Or.inl ⟨by rfl, ?_⟩) hHeld ?_ ?_
              rotate_left
              · rintro w' ⟨s0, s1, s2, s3, s4, s5⟩
                go_simp
                with_reducible rfl
              rotate_left
              · simp only [Act.put, List.setIfInBounds_toArray, List.set_cons_zero, List.set_cons_succ, i64_w, i32_w]
                rfl
              refine pure_ (i := 11) (N := some 65) (v := ?_) (a' := ?_) #[true, true, true, true, true, true, true, true, true, true, true, true, false, false, false, false, false, false, false] rfl rfl (any_of HT_.out (by kernel_rfl)) (fun _ _ _ h => h) (Or.inl ⟨by rfl, ?_⟩) ?_ ?_
              rotate_left
              · intro w'
                go_simp
                with_reducible rfl
              rotate_left
              · simp only [Act.put, List.setIfInBounds_toArray, List.set_cons_zero, List.set_cons_succ, i64_w, i32_w]
                rfl
              refine take_ (i := 12) (N := some 66) (v := ?_) (a' := ?_) #[true, true, true, true, true, true, true, true, true, true, true, true, true, false, false, false, false, false, false] rfl rfl (take_ofW HT_.out HW_.out (by kernel_rfl)) (fun _ _ _ h => h) (Or.inl ⟨by rfl, ?_⟩) hHeld ?_ ?_
              rotate_left
              · rintro w' ⟨s0, s1, s2, s3, s4, s5⟩
                go_simp
                with_reducible rfl
              rotate_left
              · simp only [Act.put, List.setIfInBounds_toArray, List.set_cons_zero, List.set_cons_succ, i64_w, i32_w]
                rfl
              refine pure_ (i := 13) (N := some 67) (v := ?_) (a' := ?_) #[true, true, true, true, true, true, true, true, true, true, true, true, true, true, false, false, false, false, false] rfl rfl (any_of HT_.out (by kernel_rfl)) (fun _ _ _ h => h) (Or.inl ⟨by rfl, ?_⟩) ?_ ?_
              rotate_left
              · intro w'
                go_simp
                with_reducible rfl
              rotate_left
              · simp only [Act.put, List.setIfInBounds_toArray, List.set_cons_zero, List.set_cons_succ, i64_w, i32_w]
                rfl
              refine pure_ (i := 14) (N := some 68) (v := ?_) (a' := ?_) #[true, true, true, true, true, true, true, true, true, true, true, true, true, true, true, false, false, false, false] rfl rfl (any_of HT_.out (by kernel_rfl)) (fun _ _ _ h => h) (Or.inl ⟨by rfl, ?_⟩) ?_ ?_
              rotate_left
              · intro w'
                go_simp
                with_reducible rfl
              rotate_left
              · simp only [Act.put, List.setIfInBounds_toArray, List.set_cons_zero, List.set_cons_succ, i64_w, i32_w]
                rfl
              refine one_ (i := 15) (N := some 69) #[true, true, true, true, true, true, true, true, true, true, true, true, true, true, true, true, false, false, false] rfl rfl (one_of HT_.out (by kernel_rfl)) (by decide) (fun K hK => ?_)
              refine Kd.R_lit_step (Kd.int .u8) _ 5 ?hg (N := 69) ?hd (xs := ([(Int.tmod (rd l0_3 x6_1) 256) % 256, (wrap64 (Int.tdiv (rd l0_3 x6_1) 256)) % 256] : List Int)) (inner := [.int .u8 ((Int.tmod (rd l0_3 x6_1) 256) % 256), .int .u8 ((wrap64 (Int.tdiv (rd l0_3 x6_1) 256)) % 256)]) (ok := fun _ => True) (okp := fun _ => True) ?hr ?hp (fun _ hk => hk) trivial (Below.refl _ _) (Nat.le_refl _) (by simp) ?_; (case hd => rfl); (case hg => rfl); (case hr => first | (go_simp; done) | (go_simp; rfl)); (case hp => exact (Reps.one (show Kd.M (Kd.int .u8) _ _ _ ((Int.tmod (rd l0_3 x6_1) 256) % 256) [.int .u8 ((Int.tmod (rd l0_3 x6_1) 256) % 256)] from rfl) (Reps.one (show Kd.M (Kd.int .u8) _ _ _ ((wrap64 (Int.tdiv (rd l0_3 x6_1) 256)) % 256) [.int .u8 ((wrap64 (Int.tdiv (rd l0_3 x6_1) 256)) % 256)] from rfl) (Reps.none _ _))))
              intro v421 w29 ho30 hb hg_ hnew_
              clear hg_ hnew_
              (first | rw [← Ny420.out] at ho30 | (simp only [Int.reduceToNat] at ho30; rw [← Ny420.out] at ho30))
              have n0_ := Aside0.mk (Kd.R_lower ho30 (below_size (by repeat (first | (with_reducible first | exact HB.out | apply below_alloc | apply pw_below_drewN | apply below_drew1 | refine below_set ?_ GE407.out) | exact HB.out))))
              have n1_ := Aside0.mk (blk_below (g := gb407) (o := .cells #[.bool false, .slice A0_1 l0_1.length c0_1, .slice A0_2 l0_2.length c0_2, .slice (some ad418) l0_3.length c0_3] 26 (0, 0)) (by (with_reducible repeat (first | refine blk_drewN ?_ _ | refine blk_drew ?_ | refine blk_alloc ?_ _)); exact BK407.out) hb)
              have n2_ := Aside0.mk (below_step (by repeat (first | (with_reducible first | exact HB.out | apply below_alloc | apply pw_below_drewN | apply below_drew1 | refine below_set ?_ GE407.out) | exact HB.out)) hb)
              clear BK407
              clear HB
              have HO422 := n0_
              have BK407 := n1_
              have HB := n2_
              clear n0_ n1_ n2_
              clear hb ho30
              refine hK.out _ _ ⟨(blk_cell BK407.out 0).trans rfl, (blk_cell BK407.out 1).trans rfl, (blk_cell BK407.out 2).trans rfl, (blk_cell BK407.out 3).trans rfl, ((HB.out.cell (World.block_lt_of_cell? w _ hw418_0)).trans hw418_0), ((HB.out.cell (World.block_lt_of_cell? w _ hw419_0)).trans hw419_0)⟩ (fun hHeld => ?_)
              clear hK K
              refine norm_ (a' := ?_) ?_ ?_
              rotate_left
              · show Act.put _ (some 69) _ = _
                simp only [Act.put, List.setIfInBounds_toArray, List.set_cons_zero, List.set_cons_succ, i64_w, i32_w]
                rfl
              refine one_ (i := 16) (N := some 70) #[true, true, true, true, true, true, true, true, true, true, true, true, true, true, true, true, true, false, false] rfl rfl (one_of HT_.out (by kernel_rfl)) (by decide) (fun K hK => ?_)
              have hcv31 := own_string (P := Try.prog) Try.underlying66 Try.underlying5 Try.underlying9 (Kd.own_of_R HO422.out)
              refine value_ (w1 := ?_) (v := ?_) (by rfl) rfl ?_ ?_
              rotate_left 2
              · go_simp
                constructor
                · rfl
                · rfl
              clear hcv31
              refine hK.out _ _ ⟨(blk_cell BK407.out 0).trans rfl, (blk_cell BK407.out 1).trans rfl, (blk_cell BK407.out 2).trans rfl, (blk_cell BK407.out 3).trans rfl, ((HB.out.cell (World.block_lt_of_cell? w _ hw418_0)).trans hw418_0), ((HB.out.cell (World.block_lt_of_cell? w _ hw419_0)).trans hw419_0)⟩ (fun hHeld => ?_)
              clear hK K
              refine norm_ (a' := ?_) ?_ ?_
              rotate_left
              · show Act.put _ (some 70) _ = _
                simp only [Act.put, List.setIfInBounds_toArray, List.set_cons_zero, List.set_cons_succ, i64_w, i32_w]
                rfl
              refine pure_ (i := 17) (N := some 71) (v := ?_) (a' := ?_) #[true, true, true, true, true, true, true, true, true, true, true, true, true, true, true, true, true, true, false] rfl rfl (any_of HT_.out (by kernel_rfl)) (fun _ _ _ h => h) (Or.inl ⟨by rfl, ?_⟩) ?_ ?_
              rotate_left
              · intro w'
                go_simp
                with_reducible rfl
              rotate_left
              · simp only [Act.put, List.setIfInBounds_toArray, List.set_cons_zero, List.set_cons_succ, i64_w, i32_w]
                rfl
              refine pure_ (i := 18) (N := some 5) (v := ?_) (a' := ?_) #[true, true, true, true, true, true, true, true, true, true, true, true, true, true, true, true, true, true, true] rfl rfl (any_of HT_.out (by kernel_rfl)) (fun _ _ _ h => h) (Or.inl ⟨by rfl, ?_⟩) ?_ ?_
              rotate_left
              · intro w'
                go_simp
                with_reducible rfl
              rotate_left
              · simp only [Act.put, List.setIfInBounds_toArray, List.set_cons_zero, List.set_cons_succ, i64_w, i32_w]
                rfl
              refine done_ (done_of HT_.out (by kernel_rfl)) ?_
              try go_wp2
              go_roundg k1
              case measure => have := HK1.out; omega
              case rel => exact ⟨(x5_1 ++ (strOfNums y420)), (wrap64 (x6_1 + 1)), (by first | rfl | (simp; done) | (simp [*]; done)), (by first | rfl | (simp; done) | (simp [*]; done)), H', ⟨by have := HK1.out; omega⟩, ⟨by (with_reducible repeat (first | refine blk_drewN ?_ _ | refine blk_drew ?_ | refine blk_alloc ?_ _)); exact BK407.out⟩, ⟨by repeat (first | (with_reducible first | exact HB.out | apply below_alloc | apply pw_below_drewN | apply below_drew1 | refine below_set ?_ GE407.out) | exact HB.out)⟩⟩
            · rw [if_neg c26] at H
              exact absurd H (by simp)
          · rw [if_neg c25] at H
            exact absurd H (by simp)
        · rw [if_neg c24] at H
          have c24b0 : decide (x6_1 < (l0_3.length : Int)) = false := decide_eq_false c24
          clear c24
          have H' := Aside0.mk H
          clear H
          have hcz32_0 : wr.cell? ⟨gb407, 0, none⟩ = some (.bool false) := (blk_cell BK407.out 0).trans rfl
          have hcz32_1 : wr.cell? ⟨gb407, 1, none⟩ = some (.slice A0_1 l0_1.length c0_1) := (blk_cell BK407.out 1).trans rfl
          have hcz32_2 : wr.cell? ⟨gb407, 2, none⟩ = some (.slice A0_2 l0_2.length c0_2) := (blk_cell BK407.out 2).trans rfl
          have hcz32_3 : wr.cell? ⟨gb407, 3, none⟩ = some (.slice A0_3 l0_3.length c0_3) := (blk_cell BK407.out 3).trans rfl
          have hfz32_0 := blk_frozen BK407.out 0
          have hfz32_1 := blk_frozen BK407.out 1
          have hfz32_2 := blk_frozen BK407.out 2
          have hfz32_3 := blk_frozen BK407.out 3
          go_wp2
          go_loopg [5, 7] k1 (fun kq v5 v7 w' => ∃ (x5_2 : ByteArray) (x7_2 : Int), v5 = .string x5_2 ∧ v7 = .int .i64 x7_2 ∧ Aside0 (cisternref11_Encode.l2 kq x5_2 x7_2 false l0_1 l0_2 l0_3 = some r) ∧ Aside0 (kq ≤ k1) ∧ Aside0 (w'.heap[gb407]? = some (.cells #[.bool false, (.slice A0_1 l0_1.length c0_1), (.slice A0_2 l0_2.length c0_2), (.slice A0_3 l0_3.length c0_3)] 26 (0, 0))) ∧ Aside0 (Below w.heap.size w w'))
          case atStart => exact ⟨(x5_1), (0), (by first | rfl | (simp; done) | (simp [*]; done)), (by first | rfl | (simp; done) | (simp [*]; done)), H', ⟨Nat.le_refl _⟩, ⟨by (with_reducible repeat (first | refine blk_drewN ?_ _ | refine blk_drew ?_ | refine blk_alloc ?_ _)); exact BK407.out⟩, ⟨by repeat (first | (with_reducible first | exact HB.out | apply below_alloc | apply pw_below_drewN | apply below_drew1 | refine below_set ?_ GE407.out) | exact HB.out)⟩⟩
          case round =>
            clear H'
            try clear c1
            try clear c2
            try clear p2
            try clear hcv2
            try clear hcv3
            try clear c4
            try clear p4
            try clear q4
            try clear hx4
            try clear p6
            try clear c7
            try clear hcv7
            try clear c8
            try clear c8b0
            try clear c9
            try clear c9b0
            try clear c11
            try clear c11b0
            try clear c11b1
            try clear c11b2
            try clear c13
            try clear c13b0
            try clear c13b1
            try clear c13b2
            try clear hcv23
            try clear c24
            try clear c24b0
            try clear c25
            try clear c25b0
            try clear c26
            try clear c26b0
            try clear c26b1
            try clear c26b2
            try clear hcv31
            try clear hcz14_0
            try clear hcz14_1
            try clear hcz14_2
            try clear hcz14_3
            try clear hcz18_0
            try clear hcz18_1
            try clear hcz18_2
            try clear hcz18_3
            try clear hcz20_0
            try clear hcz20_1
            try clear hcz20_2
            try clear hcz20_3
            try clear hcz27_0
            try clear hcz27_1
            try clear hcz27_2
            try clear hcz27_3
            try clear hcz32_0
            try clear hcz32_1
            try clear hcz32_2
            try clear hcz32_3
            try clear hcz4_0
            try clear hcz4_1
            try clear hcz4_2
            try clear hcz4_3
            try clear hfz14_0
            try clear hfz14_1
            try clear hfz14_2
            try clear hfz14_3
            try clear hfz18_0
            try clear hfz18_1
            try clear hfz18_2
            try clear hfz18_3
            try clear hfz20_0
            try clear hfz20_1
            try clear hfz20_2
            try clear hfz20_3
            try clear hfz27_0
            try clear hfz27_1
            try clear hfz27_2
            try clear hfz27_3
            try clear hfz32_0
            try clear hfz32_1
            try clear hfz32_2
            try clear hfz32_3
            try clear hfz4_0
            try clear hfz4_1
            try clear hfz4_2
            try clear hfz4_3
            try clear hx411_0
            try clear hx411_1
            try clear hx413_0
            try clear hx413_1
            try clear hx418_0
            try clear hx419_0
            try clear p2
            try clear p4
            try clear p411
            try clear p413
            try clear p418
            try clear p419
            try clear p6
            try clear q4
            try clear q411
            try clear q413
            try clear q418
            try clear q419
            obtain ⟨x5_2, x7_2, rfl, rfl, HA, HK2, BK407, HB⟩ := hrel
            cases gk with
            | zero => exact absurd HA.out (by simp [cisternref11_Encode.l2])
            | succ k2 =>
              have H := HA.out
              clear HA
              simp only [cisternref11_Encode.l2] at H
              by_cases c33 : x7_2 < (l0_2.length : Int)
              · rw [if_pos c33] at H
                have c33b0 : decide (x7_2 < (l0_2.length : Int)) = true := decide_eq_true c33
                clear c33
                by_cases c34 : 0 ≤ x7_2
                · rw [if_pos c34] at H
                  have c34b0 : decide (0 ≤ x7_2) = true := decide_eq_true c34
                  clear c34
                  replace H := Option.bind_eq_some_iff.mp H
                  obtain ⟨t424, A350, H⟩ := H
                  replace H : (if x5_2.size + t424.size ≤ 9223372036854775807 then (cisternref11_Encode.l2 k2 (x5_2 ++ t424) (wrap64 (x7_2 + 1)) false l0_1 l0_2 l0_3) else (none)) = some r := H
                  have A35 := Aside0.mk A350
                  clear A350
                  by_cases c36 : x5_2.size + t424.size ≤ 9223372036854775807
                  · rw [if_pos c36] at H
                    have c36b0 := eq_true c36
                    have c36b1 : decide (x5_2.size + t424.size ≤ 9223372036854775807) = true := decide_eq_true c36
                    try have c36b2 : (9223372036854775807 < x5_2.size + t424.size) = False := eq_false (Nat.not_lt.2 c36)
                    have H' := Aside0.mk H
                    clear H
                    have hcz37_0 : wr.cell? ⟨gb407, 0, none⟩ = some (.bool false) := (blk_cell BK407.out 0).trans rfl
                    have hcz37_1 : wr.cell? ⟨gb407, 1, none⟩ = some (.slice A0_1 l0_1.length c0_1) := (blk_cell BK407.out 1).trans rfl
                    have hcz37_2 : wr.cell? ⟨gb407, 2, none⟩ = some (.slice A0_2 l0_2.length c0_2) := (blk_cell BK407.out 2).trans rfl
                    have hcz37_3 : wr.cell? ⟨gb407, 3, none⟩ = some (.slice A0_3 l0_3.length c0_3) := (blk_cell BK407.out 3).trans rfl
                    have hfz37_0 := blk_frozen BK407.out 0
                    have hfz37_1 := blk_frozen BK407.out 1
                    have hfz37_2 := blk_frozen BK407.out 2
                    have hfz37_3 := blk_frozen BK407.out 3
                    have p423 : 0 ≤ (x7_2 : Int) := of_decide_eq_true (by first | (with_reducible assumption) | assumption)
                    have q423 : x7_2 < (l0_2.length : Int) := of_decide_eq_true (by first | (with_reducible assumption) | assumption)
                    obtain ⟨ad423, e423, hx423_0⟩ := Kd.at_string HR0_2.out x7_2 p423 q423
                    cases e423
                    replace hx423_0 := (HB.out.cell (World.block_lt_of_cell? w _ hx423_0)).trans hx423_0
                    replace p423 := eq_true p423
                    replace q423 := eq_true q423
                    go_wp2_with (first | ((with_reducible refine gate_callee (f := 72) rfl ?_); refine goesL_ (some 85) rfl rfl Try.func72 (by kernel_rfl) rfl #[.string (rdOf ByteArray.empty l0_2 x7_2)] rfl (by (try simp only [List.map_toArray, List.map_cons, List.map_nil]); first | done | rfl | (simp only [List.length_drop, List.length_take]; rfl)) ?_; (with_reducible refine (cisternref11_text.calls (rdOf ByteArray.empty l0_2 x7_2) t424 _ A35.out).mono ?_); rintro e w38 ⟨rfl, hb⟩; refine ⟨_, rfl, ?_⟩; have n0_ := Aside0.mk (blk_below (g := gb407) (o := .cells #[.bool false, .slice A0_1 l0_1.length c0_1, .slice (some ad423) l0_2.length c0_2, .slice A0_3 l0_3.length c0_3] 26 (0, 0)) (by (with_reducible repeat (first | refine blk_drewN ?_ _ | refine blk_drew ?_ | refine blk_alloc ?_ _)); exact BK407.out) hb); have n1_ := Aside0.mk (below_step (by repeat (first | (with_reducible first | exact HB.out | apply below_alloc | apply pw_below_drewN | apply below_drew1 | refine below_set ?_ GE407.out) | exact HB.out)) hb); clear BK407; clear HB; have BK407 := n0_; have HB := n1_; clear n0_ n1_; (try clear hb); (try clear hb2); (try clear hk); (try clear hi)))
                    go_roundg k2
                    case measure => have := HK1.out; have := HK2.out; omega
                    case rel => exact ⟨(x5_2 ++ t424), (wrap64 (x7_2 + 1)), (by first | rfl | (simp; done) | (simp [*]; done)), (by first | rfl | (simp; done) | (simp [*]; done)), H', ⟨by have := HK1.out; have := HK2.out; omega⟩, ⟨by (with_reducible repeat (first | refine blk_drewN ?_ _ | refine blk_drew ?_ | refine blk_alloc ?_ _)); exact BK407.out⟩, ⟨by repeat (first | (with_reducible first | exact HB.out | apply below_alloc | apply pw_below_drewN | apply below_drew1 | refine below_set ?_ GE407.out) | exact HB.out)⟩⟩
                  · rw [if_neg c36] at H
                    exact absurd H (by simp)
                · rw [if_neg c34] at H
                  exact absurd H (by simp)
              · rw [if_neg c33] at H
                have c33b0 : decide (x7_2 < (l0_2.length : Int)) = false := decide_eq_false c33
                clear c33
                obtain rfl := Option.some.inj H
                have hcz39_0 : wr.cell? ⟨gb407, 0, none⟩ = some (.bool false) := (blk_cell BK407.out 0).trans rfl
                have hcz39_1 : wr.cell? ⟨gb407, 1, none⟩ = some (.slice A0_1 l0_1.length c0_1) := (blk_cell BK407.out 1).trans rfl
                have hcz39_2 : wr.cell? ⟨gb407, 2, none⟩ = some (.slice A0_2 l0_2.length c0_2) := (blk_cell BK407.out 2).trans rfl
                have hcz39_3 : wr.cell? ⟨gb407, 3, none⟩ = some (.slice A0_3 l0_3.length c0_3) := (blk_cell BK407.out 3).trans rfl
                have hfz39_0 := blk_frozen BK407.out 0
                have hfz39_1 := blk_frozen BK407.out 1
                have hfz39_2 := blk_frozen BK407.out 2
                have hfz39_3 := blk_frozen BK407.out 3
                go_wp2
                go_ret
                exact ⟨by first | rfl | (simp [errW_none, errW_some] <;> rfl) | (simp [*, errW_none, errW_some] <;> rfl), by repeat (first | (with_reducible first | exact HB.out | apply below_alloc | apply pw_below_drewN | apply below_drew1 | refine below_set ?_ GE407.out) | exact HB.out)⟩
end
end Go.Proofs.Ytjjfeoigjhbbpaa.PA
namespace Go.Proofs.Ytjjfeoigjhbbpaa.PA
section

open Go.RowKit Go.Proofs.YtjjfeoigjhbbpaaW.PrintWords Go.Proofs.YtjjfeoigjhbbpaaW.PrintLast Go.Proofs.YtjjfeoigjhbbpaaW.PrintMore
attribute [local go_sem] pr_leq pr_geq pr_gtr max2_int min2_int max_two min_two max_three min_three max_four min_four
set_option linter.unusedVariables false
set_option linter.unusedSimpArgs false
def cisternref11_DocEncode.f (k : Nat) (a0_0 : Bool) (l0_1 : List (S48)) (l0_2 : List ByteArray) (l0_3 : List Int) : Option (ByteArray × Int) := (cisternref11_Right.f a0_0 l0_1 l0_2 l0_3).bind fun t426 => (if t426 = true then ((cisternref11_Size.f k a0_0 l0_1 l0_2 l0_3).bind fun t427 => (if t427 > 160 then (some ((⟨#[]⟩ : ByteArray), 14)) else ((cisternref11_Encode.f k a0_0 l0_1 l0_2 l0_3).bind fun t428 => (some (t428, 0))))) else (some ((⟨#[]⟩ : ByteArray), 2)))
set_option maxHeartbeats 8000000 in
set_option maxRecDepth 100000 in
theorem cisternref11_DocEncode.calls (k : Nat) (a0_0 : Bool) (A0_1 : Option Addr) (c0_1 : Nat) (l0_1 : List (S48)) (A0_2 : Option Addr) (c0_2 : Nat) (l0_2 : List ByteArray) (A0_3 : Option Addr) (c0_3 : Nat) (l0_3 : List Int) (r1 : ByteArray) (r2 : Int) (w : World) (hr0_1 : Kd.C k48 w A0_1 l0_1.length l0_1) (hc0_1 : l0_1.length ≤ c0_1) (hr0_2 : Kd.C Kd.string w A0_2 l0_2.length l0_2) (hc0_2 : l0_2.length ≤ c0_2) (hr0_3 : Kd.C (Kd.int .i64) w A0_3 l0_3.length l0_3) (hc0_3 : l0_3.length ≤ c0_3) (h : cisternref11_DocEncode.f k a0_0 l0_1 l0_2 l0_3 = some (r1, r2)) :
    Calls Try.prog 23 #[.agg #[.bool a0_0, .slice A0_1 l0_1.length c0_1, .slice A0_2 l0_2.length c0_2, .slice A0_3 l0_3.length c0_3]] w fun e w' => e = .returned (.tuple #[.string r1, .int .i64 r2]) ∧ Below w.heap.size w w' := by
  have hu26 := Try.underlying26
  have HR0_1 := Aside0.mk hr0_1
  have HC0_1 := Aside0.mk hc0_1
  clear hr0_1 hc0_1
  have HR0_2 := Aside0.mk hr0_2
  have HC0_2 := Aside0.mk hc0_2
  clear hr0_2 hc0_2
  have HR0_3 := Aside0.mk hr0_3
  have HC0_3 := Aside0.mk hc0_3
  clear hr0_3 hc0_3
  have HB := Aside0.mk (Below.refl w.heap.size w)
  have H : ((cisternref11_Right.f a0_0 l0_1 l0_2 l0_3).bind fun t426 => (if t426 = true then ((cisternref11_Size.f k a0_0 l0_1 l0_2 l0_3).bind fun t427 => (if t427 > 160 then (some ((⟨#[]⟩ : ByteArray), 14)) else ((cisternref11_Encode.f k a0_0 l0_1 l0_2 l0_3).bind fun t428 => (some (t428, 0))))) else (some ((⟨#[]⟩ : ByteArray), 2)))) = some (r1, r2) := h
  clear h
  replace H := Option.bind_eq_some_iff.mp H
  obtain ⟨t426, A20, H⟩ := H
  replace H : (if t426 = true then ((cisternref11_Size.f k a0_0 l0_1 l0_2 l0_3).bind fun t427 => (if t427 > 160 then (some ((⟨#[]⟩ : ByteArray), 14)) else ((cisternref11_Encode.f k a0_0 l0_1 l0_2 l0_3).bind fun t428 => (some (t428, 0))))) else (some ((⟨#[]⟩ : ByteArray), 2))) = some (r1, r2) := H
  have A2 := Aside0.mk A20
  clear A20
  by_cases c3 : t426 = true
  · subst c3
    have H1 : ((cisternref11_Size.f k a0_0 l0_1 l0_2 l0_3).bind fun t427 => (if t427 > 160 then (some ((⟨#[]⟩ : ByteArray), 14)) else ((cisternref11_Encode.f k a0_0 l0_1 l0_2 l0_3).bind fun t428 => (some (t428, 0))))) = some (r1, r2) := by rw [if_pos rfl] at H; exact H
    clear H
    have H := H1
    clear H1
    replace H := Option.bind_eq_some_iff.mp H
    obtain ⟨t427, A40, H⟩ := H
    replace H : (if t427 > 160 then (some ((⟨#[]⟩ : ByteArray), 14)) else ((cisternref11_Encode.f k a0_0 l0_1 l0_2 l0_3).bind fun t428 => (some (t428, 0)))) = some (r1, r2) := H
    have A4 := Aside0.mk A40
    clear A40
    by_cases c5 : t427 > 160
    · rw [if_pos c5] at H
      have c5b0 : decide (160 < t427) = true := decide_eq_true c5
      clear c5
      simp only [Option.some.injEq, Prod.mk.injEq] at H
      obtain ⟨rfl, rfl⟩ := H
      go_enter Try.func23, Try.ntmps23
      go_wp2_with (first | ((with_reducible refine gate_dst (N := 1) rfl ?_); refine box_event ?hg (N := 1) ?hd (cs := #[.bool a0_0, .slice A0_1 l0_1.length c0_1, .slice A0_2 l0_2.length c0_2, .slice A0_3 l0_3.length c0_3]) (t := 26) ?hr ?_; (case hd => rfl); (case hg => rfl); (case hr => first | (go_simp; done) | (go_simp; rfl)); intro gb425 hg w6 hbox hb; have n0_ := Aside0.mk (below_step (by repeat (first | (with_reducible first | exact HB.out | apply below_alloc | apply pw_below_drewN | apply below_drew1) | exact HB.out)) hb); have n1_ := Aside0.mk (hbox); have n2_ := Aside0.mk ((by rw [hg]; exact (below_size (by repeat (first | (with_reducible first | exact HB.out | apply below_alloc | apply pw_below_drewN | apply below_drew1) | exact HB.out))) : w.heap.size ≤ gb425)); have n3_ := Aside0.mk ((by rw [hg]; exact (below_size (by repeat (first | (with_reducible first | exact HB.out | apply below_alloc | apply pw_below_drewN | apply below_drew1) | exact HB.out))) : w.heap.size ≤ gb425)); clear HB; have HB := n0_; have BK425 := n1_; have GW425 := n2_; have GE425 := n3_; clear n0_ n1_ n2_ n3_; clear hb hbox hg; have hcz7_0 : w6.cell? ⟨gb425, 0, none⟩ = some (.bool a0_0) := (blk_cell BK425.out 0).trans rfl; have hcz7_1 : w6.cell? ⟨gb425, 1, none⟩ = some (.slice A0_1 l0_1.length c0_1) := (blk_cell BK425.out 1).trans rfl; have hcz7_2 : w6.cell? ⟨gb425, 2, none⟩ = some (.slice A0_2 l0_2.length c0_2) := (blk_cell BK425.out 2).trans rfl; have hcz7_3 : w6.cell? ⟨gb425, 3, none⟩ = some (.slice A0_3 l0_3.length c0_3) := (blk_cell BK425.out 3).trans rfl; have hfz7_0 := blk_frozen BK425.out 0; have hfz7_1 := blk_frozen BK425.out 1; have hfz7_2 := blk_frozen BK425.out 2; have hfz7_3 := blk_frozen BK425.out 3) | ((with_reducible refine gate_callee (f := 26) rfl ?_); refine goesL_ (some 5) rfl rfl Try.func26 (by kernel_rfl) rfl #[.agg #[.bool a0_0, .slice A0_1 l0_1.length c0_1, .slice A0_2 l0_2.length c0_2, .slice A0_3 l0_3.length c0_3]] rfl (by (try simp only [List.map_toArray, List.map_cons, List.map_nil]); first | done | rfl | (simp only [List.length_drop, List.length_take]; rfl)) ?_; (with_reducible refine (cisternref11_Right.calls a0_0 _ _ l0_1 _ _ l0_2 _ _ l0_3 true _ ?side1 ?side2 ?side3 ?side4 ?side5 ?side6 A2.out).mono ?_); (case side1 => repeat (first | exact (Kd.C_below HR0_1.out HB.out) | (with_reducible refine Kd.C_alloc ?_ _) | (with_reducible refine Kd.C_drewN ?_ _) | (with_reducible refine Kd.C_drew ?_))); (case side2 => exact HC0_1.out); (case side3 => repeat (first | exact (Kd.C_below HR0_2.out HB.out) | (with_reducible refine Kd.C_alloc ?_ _) | (with_reducible refine Kd.C_drewN ?_ _) | (with_reducible refine Kd.C_drew ?_))); (case side4 => exact HC0_2.out); (case side5 => repeat (first | exact (Kd.C_below HR0_3.out HB.out) | (with_reducible refine Kd.C_alloc ?_ _) | (with_reducible refine Kd.C_drewN ?_ _) | (with_reducible refine Kd.C_drew ?_))); (case side6 => exact HC0_3.out); rintro e w8 ⟨rfl, hb⟩; refine ⟨_, rfl, ?_⟩; have n0_ := Aside0.mk (blk_below (g := gb425) (o := .cells #[.bool a0_0, .slice A0_1 l0_1.length c0_1, .slice A0_2 l0_2.length c0_2, .slice A0_3 l0_3.length c0_3] 26 (0, 0)) (by (with_reducible repeat (first | refine blk_drewN ?_ _ | refine blk_drew ?_ | refine blk_alloc ?_ _)); exact BK425.out) hb); have n1_ := Aside0.mk (below_step (by repeat (first | (with_reducible first | exact HB.out | apply below_alloc | apply pw_below_drewN | apply below_drew1 | refine below_set ?_ GE425.out) | exact HB.out)) hb); clear BK425; clear HB; have BK425 := n0_; have HB := n1_; clear n0_ n1_; (try clear hb); (try clear hb2); (try clear hk); (try clear hi); have hcz9_0 : w8.cell? ⟨gb425, 0, none⟩ = some (.bool a0_0) := (blk_cell BK425.out 0).trans rfl; have hcz9_1 : w8.cell? ⟨gb425, 1, none⟩ = some (.slice A0_1 l0_1.length c0_1) := (blk_cell BK425.out 1).trans rfl; have hcz9_2 : w8.cell? ⟨gb425, 2, none⟩ = some (.slice A0_2 l0_2.length c0_2) := (blk_cell BK425.out 2).trans rfl; have hcz9_3 : w8.cell? ⟨gb425, 3, none⟩ = some (.slice A0_3 l0_3.length c0_3) := (blk_cell BK425.out 3).trans rfl; have hfz9_0 := blk_frozen BK425.out 0; have hfz9_1 := blk_frozen BK425.out 1; have hfz9_2 := blk_frozen BK425.out 2; have hfz9_3 := blk_frozen BK425.out 3) | ((with_reducible refine gate_callee (f := 27) rfl ?_); refine goesL_ (some 8) rfl rfl Try.func27 (by kernel_rfl) rfl #[.agg #[.bool a0_0, .slice A0_1 l0_1.length c0_1, .slice A0_2 l0_2.length c0_2, .slice A0_3 l0_3.length c0_3]] rfl (by (try simp only [List.map_toArray, List.map_cons, List.map_nil]); first | done | rfl | (simp only [List.length_drop, List.length_take]; rfl)) ?_; (with_reducible refine (cisternref11_Size.calls k a0_0 _ _ l0_1 _ _ l0_2 _ _ l0_3 t427 _ ?side1 ?side2 ?side3 ?side4 ?side5 ?side6 A4.out).mono ?_); (case side1 => repeat (first | exact (Kd.C_below HR0_1.out HB.out) | (with_reducible refine Kd.C_alloc ?_ _) | (with_reducible refine Kd.C_drewN ?_ _) | (with_reducible refine Kd.C_drew ?_))); (case side2 => exact HC0_1.out); (case side3 => repeat (first | exact (Kd.C_below HR0_2.out HB.out) | (with_reducible refine Kd.C_alloc ?_ _) | (with_reducible refine Kd.C_drewN ?_ _) | (with_reducible refine Kd.C_drew ?_))); (case side4 => exact HC0_2.out); (case side5 => repeat (first | exact (Kd.C_below HR0_3.out HB.out) | (with_reducible refine Kd.C_alloc ?_ _) | (with_reducible refine Kd.C_drewN ?_ _) | (with_reducible refine Kd.C_drew ?_))); (case side6 => exact HC0_3.out); rintro e w10 ⟨rfl, hb⟩; refine ⟨_, rfl, ?_⟩; have n0_ := Aside0.mk (blk_below (g := gb425) (o := .cells #[.bool a0_0, .slice A0_1 l0_1.length c0_1, .slice A0_2 l0_2.length c0_2, .slice A0_3 l0_3.length c0_3] 26 (0, 0)) (by (with_reducible repeat (first | refine blk_drewN ?_ _ | refine blk_drew ?_ | refine blk_alloc ?_ _)); exact BK425.out) hb); have n1_ := Aside0.mk (below_step (by repeat (first | (with_reducible first | exact HB.out | apply below_alloc | apply pw_below_drewN | apply below_drew1 | refine below_set ?_ GE425.out) | exact HB.out)) hb); clear BK425; clear HB; have BK425 := n0_; have HB := n1_; clear n0_ n1_; (try clear hb); (try clear hb2); (try clear hk); (try clear hi)))
      go_ret2
      exact ⟨by first | rfl | (simp [errW_none, errW_some] <;> rfl) | (simp [*, errW_none, errW_some] <;> rfl), by repeat (first | (with_reducible first | exact HB.out | apply below_alloc | apply pw_below_drewN | apply below_drew1 | refine below_set ?_ GE425.out) | exact HB.out)⟩
    · rw [if_neg c5] at H
      have c5b0 : decide (160 < t427) = false := decide_eq_false c5
      clear c5
      replace H := Option.bind_eq_some_iff.mp H
      obtain ⟨t428, A110, H⟩ := H
      replace H : (some (t428, 0)) = some (r1, r2) := H
      have A11 := Aside0.mk A110
      clear A110
      simp only [Option.some.injEq, Prod.mk.injEq] at H
      obtain ⟨rfl, rfl⟩ := H
      go_enter Try.func23, Try.ntmps23
      go_wp2_with (first | ((with_reducible refine gate_dst (N := 1) rfl ?_); refine box_event ?hg (N := 1) ?hd (cs := #[.bool a0_0, .slice A0_1 l0_1.length c0_1, .slice A0_2 l0_2.length c0_2, .slice A0_3 l0_3.length c0_3]) (t := 26) ?hr ?_; (case hd => rfl); (case hg => rfl); (case hr => first | (go_simp; done) | (go_simp; rfl)); intro gb425 hg w12 hbox hb; have n0_ := Aside0.mk (below_step (by repeat (first | (with_reducible first | exact HB.out | apply below_alloc | apply pw_below_drewN | apply below_drew1) | exact HB.out)) hb); have n1_ := Aside0.mk (hbox); have n2_ := Aside0.mk ((by rw [hg]; exact (below_size (by repeat (first | (with_reducible first | exact HB.out | apply below_alloc | apply pw_below_drewN | apply below_drew1) | exact HB.out))) : w.heap.size ≤ gb425)); have n3_ := Aside0.mk ((by rw [hg]; exact (below_size (by repeat (first | (with_reducible first | exact HB.out | apply below_alloc | apply pw_below_drewN | apply below_drew1) | exact HB.out))) : w.heap.size ≤ gb425)); clear HB; have HB := n0_; have BK425 := n1_; have GW425 := n2_; have GE425 := n3_; clear n0_ n1_ n2_ n3_; clear hb hbox hg; have hcz13_0 : w12.cell? ⟨gb425, 0, none⟩ = some (.bool a0_0) := (blk_cell BK425.out 0).trans rfl; have hcz13_1 : w12.cell? ⟨gb425, 1, none⟩ = some (.slice A0_1 l0_1.length c0_1) := (blk_cell BK425.out 1).trans rfl; have hcz13_2 : w12.cell? ⟨gb425, 2, none⟩ = some (.slice A0_2 l0_2.length c0_2) := (blk_cell BK425.out 2).trans rfl; have hcz13_3 : w12.cell? ⟨gb425, 3, none⟩ = some (.slice A0_3 l0_3.length c0_3) := (blk_cell BK425.out 3).trans rfl; have hfz13_0 := blk_frozen BK425.out 0; have hfz13_1 := blk_frozen BK425.out 1; have hfz13_2 := blk_frozen BK425.out 2; have hfz13_3 := blk_frozen BK425.out 3) | ((with_reducible refine gate_callee (f := 26) rfl ?_); refine goesL_ (some 5) rfl rfl Try.func26 (by kernel_rfl) rfl #[.agg #[.bool a0_0, .slice A0_1 l0_1.length c0_1, .slice A0_2 l0_2.length c0_2, .slice A0_3 l0_3.length c0_3]] rfl (by (try simp only [List.map_toArray, List.map_cons, List.map_nil]); first | done | rfl | (simp only [List.length_drop, List.length_take]; rfl)) ?_; (with_reducible refine (cisternref11_Right.calls a0_0 _ _ l0_1 _ _ l0_2 _ _ l0_3 true _ ?side1 ?side2 ?side3 ?side4 ?side5 ?side6 A2.out).mono ?_); (case side1 => repeat (first | exact (Kd.C_below HR0_1.out HB.out) | (with_reducible refine Kd.C_alloc ?_ _) | (with_reducible refine Kd.C_drewN ?_ _) | (with_reducible refine Kd.C_drew ?_))); (case side2 => exact HC0_1.out); (case side3 => repeat (first | exact (Kd.C_below HR0_2.out HB.out) | (with_reducible refine Kd.C_alloc ?_ _) | (with_reducible refine Kd.C_drewN ?_ _) | (with_reducible refine Kd.C_drew ?_))); (case side4 => exact HC0_2.out); (case side5 => repeat (first | exact (Kd.C_below HR0_3.out HB.out) | (with_reducible refine Kd.C_alloc ?_ _) | (with_reducible refine Kd.C_drewN ?_ _) | (with_reducible refine Kd.C_drew ?_))); (case side6 => exact HC0_3.out); rintro e w14 ⟨rfl, hb⟩; refine ⟨_, rfl, ?_⟩; have n0_ := Aside0.mk (blk_below (g := gb425) (o := .cells #[.bool a0_0, .slice A0_1 l0_1.length c0_1, .slice A0_2 l0_2.length c0_2, .slice A0_3 l0_3.length c0_3] 26 (0, 0)) (by (with_reducible repeat (first | refine blk_drewN ?_ _ | refine blk_drew ?_ | refine blk_alloc ?_ _)); exact BK425.out) hb); have n1_ := Aside0.mk (below_step (by repeat (first | (with_reducible first | exact HB.out | apply below_alloc | apply pw_below_drewN | apply below_drew1 | refine below_set ?_ GE425.out) | exact HB.out)) hb); clear BK425; clear HB; have BK425 := n0_; have HB := n1_; clear n0_ n1_; (try clear hb); (try clear hb2); (try clear hk); (try clear hi); have hcz15_0 : w14.cell? ⟨gb425, 0, none⟩ = some (.bool a0_0) := (blk_cell BK425.out 0).trans rfl; have hcz15_1 : w14.cell? ⟨gb425, 1, none⟩ = some (.slice A0_1 l0_1.length c0_1) := (blk_cell BK425.out 1).trans rfl; have hcz15_2 : w14.cell? ⟨gb425, 2, none⟩ = some (.slice A0_2 l0_2.length c0_2) := (blk_cell BK425.out 2).trans rfl; have hcz15_3 : w14.cell? ⟨gb425, 3, none⟩ = some (.slice A0_3 l0_3.length c0_3) := (blk_cell BK425.out 3).trans rfl; have hfz15_0 := blk_frozen BK425.out 0; have hfz15_1 := blk_frozen BK425.out 1; have hfz15_2 := blk_frozen BK425.out 2; have hfz15_3 := blk_frozen BK425.out 3) | ((with_reducible refine gate_callee (f := 27) rfl ?_); refine goesL_ (some 8) rfl rfl Try.func27 (by kernel_rfl) rfl #[.agg #[.bool a0_0, .slice A0_1 l0_1.length c0_1, .slice A0_2 l0_2.length c0_2, .slice A0_3 l0_3.length c0_3]] rfl (by (try simp only [List.map_toArray, List.map_cons, List.map_nil]); first | done | rfl | (simp only [List.length_drop, List.length_take]; rfl)) ?_; (with_reducible refine (cisternref11_Size.calls k a0_0 _ _ l0_1 _ _ l0_2 _ _ l0_3 t427 _ ?side1 ?side2 ?side3 ?side4 ?side5 ?side6 A4.out).mono ?_); (case side1 => repeat (first | exact (Kd.C_below HR0_1.out HB.out) | (with_reducible refine Kd.C_alloc ?_ _) | (with_reducible refine Kd.C_drewN ?_ _) | (with_reducible refine Kd.C_drew ?_))); (case side2 => exact HC0_1.out); (case side3 => repeat (first | exact (Kd.C_below HR0_2.out HB.out) | (with_reducible refine Kd.C_alloc ?_ _) | (with_reducible refine Kd.C_drewN ?_ _) | (with_reducible refine Kd.C_drew ?_))); (case side4 => exact HC0_2.out); (case side5 => repeat (first | exact (Kd.C_below HR0_3.out HB.out) | (with_reducible refine Kd.C_alloc ?_ _) | (with_reducible refine Kd.C_drewN ?_ _) | (with_reducible refine Kd.C_drew ?_))); (case side6 => exact HC0_3.out); rintro e w16 ⟨rfl, hb⟩; refine ⟨_, rfl, ?_⟩; have n0_ := Aside0.mk (blk_below (g := gb425) (o := .cells #[.bool a0_0, .slice A0_1 l0_1.length c0_1, .slice A0_2 l0_2.length c0_2, .slice A0_3 l0_3.length c0_3] 26 (0, 0)) (by (with_reducible repeat (first | refine blk_drewN ?_ _ | refine blk_drew ?_ | refine blk_alloc ?_ _)); exact BK425.out) hb); have n1_ := Aside0.mk (below_step (by repeat (first | (with_reducible first | exact HB.out | apply below_alloc | apply pw_below_drewN | apply below_drew1 | refine below_set ?_ GE425.out) | exact HB.out)) hb); clear BK425; clear HB; have BK425 := n0_; have HB := n1_; clear n0_ n1_; (try clear hb); (try clear hb2); (try clear hk); (try clear hi); have hcz17_0 : w16.cell? ⟨gb425, 0, none⟩ = some (.bool a0_0) := (blk_cell BK425.out 0).trans rfl; have hcz17_1 : w16.cell? ⟨gb425, 1, none⟩ = some (.slice A0_1 l0_1.length c0_1) := (blk_cell BK425.out 1).trans rfl; have hcz17_2 : w16.cell? ⟨gb425, 2, none⟩ = some (.slice A0_2 l0_2.length c0_2) := (blk_cell BK425.out 2).trans rfl; have hcz17_3 : w16.cell? ⟨gb425, 3, none⟩ = some (.slice A0_3 l0_3.length c0_3) := (blk_cell BK425.out 3).trans rfl; have hfz17_0 := blk_frozen BK425.out 0; have hfz17_1 := blk_frozen BK425.out 1; have hfz17_2 := blk_frozen BK425.out 2; have hfz17_3 := blk_frozen BK425.out 3) | ((with_reducible refine gate_callee (f := 49) rfl ?_); refine goesL_ (some 11) rfl rfl Try.func49 (by kernel_rfl) rfl #[.agg #[.bool a0_0, .slice A0_1 l0_1.length c0_1, .slice A0_2 l0_2.length c0_2, .slice A0_3 l0_3.length c0_3]] rfl (by (try simp only [List.map_toArray, List.map_cons, List.map_nil]); first | done | rfl | (simp only [List.length_drop, List.length_take]; rfl)) ?_; (with_reducible refine (cisternref11_Encode.calls k a0_0 _ _ l0_1 _ _ l0_2 _ _ l0_3 t428 _ ?side1 ?side2 ?side3 ?side4 ?side5 ?side6 A11.out).mono ?_); (case side1 => repeat (first | exact (Kd.C_below HR0_1.out HB.out) | (with_reducible refine Kd.C_alloc ?_ _) | (with_reducible refine Kd.C_drewN ?_ _) | (with_reducible refine Kd.C_drew ?_))); (case side2 => exact HC0_1.out); (case side3 => repeat (first | exact (Kd.C_below HR0_2.out HB.out) | (with_reducible refine Kd.C_alloc ?_ _) | (with_reducible refine Kd.C_drewN ?_ _) | (with_reducible refine Kd.C_drew ?_))); (case side4 => exact HC0_2.out); (case side5 => repeat (first | exact (Kd.C_below HR0_3.out HB.out) | (with_reducible refine Kd.C_alloc ?_ _) | (with_reducible refine Kd.C_drewN ?_ _) | (with_reducible refine Kd.C_drew ?_))); (case side6 => exact HC0_3.out); rintro e w18 ⟨rfl, hb⟩; refine ⟨_, rfl, ?_⟩; have n0_ := Aside0.mk (blk_below (g := gb425) (o := .cells #[.bool a0_0, .slice A0_1 l0_1.length c0_1, .slice A0_2 l0_2.length c0_2, .slice A0_3 l0_3.length c0_3] 26 (0, 0)) (by (with_reducible repeat (first | refine blk_drewN ?_ _ | refine blk_drew ?_ | refine blk_alloc ?_ _)); exact BK425.out) hb); have n1_ := Aside0.mk (below_step (by repeat (first | (with_reducible first | exact HB.out | apply below_alloc | apply pw_below_drewN | apply below_drew1 | refine below_set ?_ GE425.out) | exact HB.out)) hb); clear BK425; clear HB; have BK425 := n0_; have HB := n1_; clear n0_ n1_; (try clear hb); (try clear hb2); (try clear hk); (try clear hi)))
      go_ret2
      exact ⟨by first | rfl | (simp [errW_none, errW_some] <;> rfl) | (simp [*, errW_none, errW_some] <;> rfl), by repeat (first | (with_reducible first | exact HB.out | apply below_alloc | apply pw_below_drewN | apply below_drew1 | refine below_set ?_ GE425.out) | exact HB.out)⟩
  · replace c3 := Bool.eq_false_iff.mpr c3
    subst c3
    have H1 : (some ((⟨#[]⟩ : ByteArray), 2)) = some (r1, r2) := by rw [if_neg (show ¬ (false = true) by decide)] at H; exact H
    clear H
    have H := H1
    clear H1
    simp only [Option.some.injEq, Prod.mk.injEq] at H
    obtain ⟨rfl, rfl⟩ := H
    go_enter Try.func23, Try.ntmps23
    go_wp2_with (first | ((with_reducible refine gate_dst (N := 1) rfl ?_); refine box_event ?hg (N := 1) ?hd (cs := #[.bool a0_0, .slice A0_1 l0_1.length c0_1, .slice A0_2 l0_2.length c0_2, .slice A0_3 l0_3.length c0_3]) (t := 26) ?hr ?_; (case hd => rfl); (case hg => rfl); (case hr => first | (go_simp; done) | (go_simp; rfl)); intro gb425 hg w19 hbox hb; have n0_ := Aside0.mk (below_step (by repeat (first | (with_reducible first | exact HB.out | apply below_alloc | apply pw_below_drewN | apply below_drew1) | exact HB.out)) hb); have n1_ := Aside0.mk (hbox); have n2_ := Aside0.mk ((by rw [hg]; exact (below_size (by repeat (first | (with_reducible first | exact HB.out | apply below_alloc | apply pw_below_drewN | apply below_drew1) | exact HB.out))) : w.heap.size ≤ gb425)); have n3_ := Aside0.mk ((by rw [hg]; exact (below_size (by repeat (first | (with_reducible first | exact HB.out | apply below_alloc | apply pw_below_drewN | apply below_drew1) | exact HB.out))) : w.heap.size ≤ gb425)); clear HB; have HB := n0_; have BK425 := n1_; have GW425 := n2_; have GE425 := n3_; clear n0_ n1_ n2_ n3_; clear hb hbox hg; have hcz20_0 : w19.cell? ⟨gb425, 0, none⟩ = some (.bool a0_0) := (blk_cell BK425.out 0).trans rfl; have hcz20_1 : w19.cell? ⟨gb425, 1, none⟩ = some (.slice A0_1 l0_1.length c0_1) := (blk_cell BK425.out 1).trans rfl; have hcz20_2 : w19.cell? ⟨gb425, 2, none⟩ = some (.slice A0_2 l0_2.length c0_2) := (blk_cell BK425.out 2).trans rfl; have hcz20_3 : w19.cell? ⟨gb425, 3, none⟩ = some (.slice A0_3 l0_3.length c0_3) := (blk_cell BK425.out 3).trans rfl; have hfz20_0 := blk_frozen BK425.out 0; have hfz20_1 := blk_frozen BK425.out 1; have hfz20_2 := blk_frozen BK425.out 2; have hfz20_3 := blk_frozen BK425.out 3) | ((with_reducible refine gate_callee (f := 26) rfl ?_); refine goesL_ (some 5) rfl rfl Try.func26 (by kernel_rfl) rfl #[.agg #[.bool a0_0, .slice A0_1 l0_1.length c0_1, .slice A0_2 l0_2.length c0_2, .slice A0_3 l0_3.length c0_3]] rfl (by (try simp only [List.map_toArray, List.map_cons, List.map_nil]); first | done | rfl | (simp only [List.length_drop, List.length_take]; rfl)) ?_; (with_reducible refine (cisternref11_Right.calls a0_0 _ _ l0_1 _ _ l0_2 _ _ l0_3 false _ ?side1 ?side2 ?side3 ?side4 ?side5 ?side6 A2.out).mono ?_); (case side1 => repeat (first | exact (Kd.C_below HR0_1.out HB.out) | (with_reducible refine Kd.C_alloc ?_ _) | (with_reducible refine Kd.C_drewN ?_ _) | (with_reducible refine Kd.C_drew ?_))); (case side2 => exact HC0_1.out); (case side3 => repeat (first | exact (Kd.C_below HR0_2.out HB.out) | (with_reducible refine Kd.C_alloc ?_ _) | (with_reducible refine Kd.C_drewN ?_ _) | (with_reducible refine Kd.C_drew ?_))); (case side4 => exact HC0_2.out); (case side5 => repeat (first | exact (Kd.C_below HR0_3.out HB.out) | (with_reducible refine Kd.C_alloc ?_ _) | (with_reducible refine Kd.C_drewN ?_ _) | (with_reducible refine Kd.C_drew ?_))); (case side6 => exact HC0_3.out); rintro e w21 ⟨rfl, hb⟩; refine ⟨_, rfl, ?_⟩; have n0_ := Aside0.mk (blk_below (g := gb425) (o := .cells #[.bool a0_0, .slice A0_1 l0_1.length c0_1, .slice A0_2 l0_2.length c0_2, .slice A0_3 l0_3.length c0_3] 26 (0, 0)) (by (with_reducible repeat (first | refine blk_drewN ?_ _ | refine blk_drew ?_ | refine blk_alloc ?_ _)); exact BK425.out) hb); have n1_ := Aside0.mk (below_step (by repeat (first | (with_reducible first | exact HB.out | apply below_alloc | apply pw_below_drewN | apply below_drew1 | refine below_set ?_ GE425.out) | exact HB.out)) hb); clear BK425; clear HB; have BK425 := n0_; have HB := n1_; clear n0_ n1_; (try clear hb); (try clear hb2); (try clear hk); (try clear hi)))
    go_ret2
    exact ⟨by first | rfl | (simp [errW_none, errW_some] <;> rfl) | (simp [*, errW_none, errW_some] <;> rfl), by repeat (first | (with_reducible first | exact HB.out | apply below_alloc | apply pw_below_drewN | apply below_drew1 | refine below_set ?_ GE425.out) | exact HB.out)⟩
def cisternref11_take.f (a0 : ByteArray) : Option (ByteArray × ByteArray × Bool) := if a0.toList = ([] : List UInt8) then (some ((⟨#[]⟩ : ByteArray), (⟨#[]⟩ : ByteArray), false)) else (if 0 < (a0.size : Int) then (if (wrap64 (bt a0 0)) > (wrap64 ((a0.size : Int) - 1)) then (some ((⟨#[]⟩ : ByteArray), (⟨#[]⟩ : ByteArray), false)) else (if 1 ≤ (wrap64 (1 + (wrap64 (bt a0 0)))) then (if (wrap64 (1 + (wrap64 (bt a0 0)))) ≤ (a0.size : Int) then (if 0 ≤ (wrap64 (1 + (wrap64 (bt a0 0)))) then (some (a0.extract 1 ((wrap64 (1 + (wrap64 (bt a0 0)))) : Int).toNat, a0.extract ((wrap64 (1 + (wrap64 (bt a0 0)))) : Int).toNat a0.size, true)) else (none)) else (none)) else (none))) else (none))
set_option maxHeartbeats 8000000 in
set_option maxRecDepth 100000 in
theorem cisternref11_take.calls (a0 : ByteArray) (r1 : ByteArray) (r2 : ByteArray) (r3 : Bool) (w : World) (h : cisternref11_take.f a0 = some (r1, r2, r3)) :
    Calls Try.prog 50 #[.string a0] w fun e w' => e = .returned (.tuple #[.string r1, .string r2, .bool r3]) ∧ Drawn0 w w' := by
  have H : (if a0.toList = ([] : List UInt8) then (some ((⟨#[]⟩ : ByteArray), (⟨#[]⟩ : ByteArray), false)) else (if 0 < (a0.size : Int) then (if (wrap64 (bt a0 0)) > (wrap64 ((a0.size : Int) - 1)) then (some ((⟨#[]⟩ : ByteArray), (⟨#[]⟩ : ByteArray), false)) else (if 1 ≤ (wrap64 (1 + (wrap64 (bt a0 0)))) then (if (wrap64 (1 + (wrap64 (bt a0 0)))) ≤ (a0.size : Int) then (if 0 ≤ (wrap64 (1 + (wrap64 (bt a0 0)))) then (some (a0.extract 1 ((wrap64 (1 + (wrap64 (bt a0 0)))) : Int).toNat, a0.extract ((wrap64 (1 + (wrap64 (bt a0 0)))) : Int).toNat a0.size, true)) else (none)) else (none)) else (none))) else (none))) = some (r1, r2, r3) := h
  clear h
  by_cases c2 : a0.toList = ([] : List UInt8)
  · rw [if_pos c2] at H
    have c2b0 : (a0.toList == ([] : List UInt8)) = true := beq_iff_eq.mpr c2
    have c2b1 : (a0.toList != ([] : List UInt8)) = false := bne_eq_false_iff_eq.mpr c2
    clear c2
    simp only [Option.some.injEq, Prod.mk.injEq] at H
    obtain ⟨rfl, rfl, rfl⟩ := H
    go_enter Try.func50, Try.ntmps50
    go_wp2
    repeat (go_quiet (fail); try go_wp2)
    go_ret3
    exact ⟨by first | rfl | (simp; done) | (simp [*]; done), by repeat (first | exact Drawn0.refl _ | apply Drawn0.step)⟩
  · rw [if_neg c2] at H
    have c2b0 : (a0.toList == ([] : List UInt8)) = false := beq_eq_false_iff_ne.mpr c2
    have c2b1 : (a0.toList != ([] : List UInt8)) = true := bne_iff_ne.mpr c2
    by_cases c3 : 0 < (a0.size : Int)
    · rw [if_pos c3] at H
      have c3b0 : decide (0 < (a0.size : Int)) = true := decide_eq_true c3
      have c3b1 : decide (0 < a0.size) = true := decide_eq_true (by omega)
      clear c3
      by_cases c5 : (wrap64 (bt a0 0)) > (wrap64 ((a0.size : Int) - 1))
      · rw [if_pos c5] at H
        have c5b0 : decide ((wrap64 ((a0.size : Int) - 1)) < (wrap64 (bt a0 0))) = true := decide_eq_true c5
        clear c5
        simp only [Option.some.injEq, Prod.mk.injEq] at H
        obtain ⟨rfl, rfl, rfl⟩ := H
        have p4 : 0 ≤ (0 : Int) := (by omega)
        have q4 : 0 < a0.size := (by have : (0 : Int) < (a0.size : Int) := of_decide_eq_true (by first | (with_reducible assumption) | assumption); omega)
        have hx4 : ∀ h : 0 < a0.size, ((a0[0]'h).toNat : Int) = bt a0 0 := bt_at a0 0
        clear p4
        have qi4 : (0 < (a0.size : Int)) = True := eq_true (of_decide_eq_true (by first | (with_reducible assumption) | assumption))
        replace q4 := eq_true q4
        go_enter Try.func50, Try.ntmps50
        go_wp2
        repeat (go_quiet (fail); try go_wp2)
        go_ret3
        exact ⟨by first | rfl | (simp; done) | (simp [*]; done), by repeat (first | exact Drawn0.refl _ | apply Drawn0.step)⟩
      · rw [if_neg c5] at H
        have c5b0 : decide ((wrap64 ((a0.size : Int) - 1)) < (wrap64 (bt a0 0))) = false := decide_eq_false c5
        clear c5
        by_cases c7 : 1 ≤ (wrap64 (1 + (wrap64 (bt a0 0))))
        · rw [if_pos c7] at H
          have c7b0 := eq_true c7
          have c7b1 : decide (1 ≤ (wrap64 (1 + (wrap64 (bt a0 0))))) = true := decide_eq_true c7
          by_cases c8 : (wrap64 (1 + (wrap64 (bt a0 0)))) ≤ (a0.size : Int)
          · rw [if_pos c8] at H
            have c8b0 := eq_true c8
            have c8b1 : decide ((wrap64 (1 + (wrap64 (bt a0 0)))) ≤ (a0.size : Int)) = true := decide_eq_true c8
            obtain ⟨ji9, hji9⟩ : ∃ j_ : Int, (wrap64 (1 + (wrap64 (bt a0 0)))) = j_ := ⟨_, rfl⟩
            replace H : (if 0 ≤ (ji9) then (some (a0.extract 1 ((ji9) : Int).toNat, a0.extract ((ji9) : Int).toNat a0.size, true)) else (none)) = some (r1, r2, r3) := by first | (rw [hji9] at H; exact H) | (simp only [hji9] at H ⊢; exact H)
            (try rw [hji9] at c7b0)
            (try rw [hji9] at c7b1)
            (try rw [hji9] at c7)
            (try rw [hji9] at c8b0)
            (try rw [hji9] at c8b1)
            (try rw [hji9] at c8)
            have hji9w : (IntKind.i64.wrap (1 + (wrap64 (bt a0 0)))) = ji9 := (i64_w _).trans hji9
            by_cases c10 : 0 ≤ (ji9)
            · rw [if_pos c10] at H
              have c10b0 := eq_true c10
              have c10b1 : decide (0 ≤ (ji9)) = true := decide_eq_true c10
              clear c10
              have c11b0 := eq_true (of_decide_eq_true (by first | (with_reducible assumption) | assumption) : (ji9) ≤ (a0.size : Int))
              simp only [Option.some.injEq, Prod.mk.injEq] at H
              obtain ⟨rfl, rfl, rfl⟩ := H
              have p4 : 0 ≤ (0 : Int) := (by omega)
              have q4 : 0 < a0.size := (by have : (0 : Int) < (a0.size : Int) := of_decide_eq_true (by first | (with_reducible assumption) | assumption); omega)
              have hx4 : ∀ h : 0 < a0.size, ((a0[0]'h).toNat : Int) = bt a0 0 := bt_at a0 0
              clear p4
              have qi4 : (0 < (a0.size : Int)) = True := eq_true (of_decide_eq_true (by first | (with_reducible assumption) | assumption))
              replace q4 := eq_true q4
              have p6 : 0 ≤ (0 : Int) := (by omega)
              have q6 : 0 < a0.size := (by have : (0 : Int) < (a0.size : Int) := of_decide_eq_true (by first | (with_reducible assumption) | assumption); omega)
              have hx6 : ∀ h : 0 < a0.size, ((a0[0]'h).toNat : Int) = bt a0 0 := bt_at a0 0
              clear p6
              have qi6 : (0 < (a0.size : Int)) = True := eq_true (of_decide_eq_true (by first | (with_reducible assumption) | assumption))
              replace q6 := eq_true q6
              go_enter Try.func50, Try.ntmps50
              go_wp2
              repeat (go_quiet (fail); try go_wp2)
              go_ret3
              exact ⟨by first | rfl | (simp; done) | (simp only [← hji9] <;> (first | rfl | simp)) | (simp [*]; done), by repeat (first | exact Drawn0.refl _ | apply Drawn0.step)⟩
            · rw [if_neg c10] at H
              exact absurd H (by simp)
          · rw [if_neg c8] at H
            exact absurd H (by simp)
        · rw [if_neg c7] at H
          exact absurd H (by simp)
    · rw [if_neg c3] at H
      exact absurd H (by simp)
end
end Go.Proofs.Ytjjfeoigjhbbpaa.PA
