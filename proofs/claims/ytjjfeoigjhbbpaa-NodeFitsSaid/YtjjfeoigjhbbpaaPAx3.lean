-- Laid by a program of this work over the seat's translation.
import Derived.Test.YtjjfeoigjhbbpaaPAx0
import Derived.Test.YtjjfeoigjhbbpaaPAx2
namespace Go.Proofs.Ytjjfeoigjhbbpaa.PA
open Go.RowKit Go.Proofs.YtjjfeoigjhbbpaaW.PrintWords Go.Proofs.YtjjfeoigjhbbpaaW.PrintLast Go.Proofs.YtjjfeoigjhbbpaaW.PrintMore
attribute [local go_sem] pr_leq pr_geq pr_gtr max2_int min2_int max_two min_two max_three min_three max_four min_four   -- for this text's walks alone
set_option linter.unusedVariables false
set_option linter.unusedSimpArgs false

/-! ### node_Node_leaf: function 39 (by hand) -/
/-! ### What is in form -/
def keyB (s : ByteArray) : Bool := if s.toList = ([] : List UInt8) then false else decide ((s.size : Int) ≤ 32)
theorem isKey_val (s : ByteArray) : node_isKey.f s = some (keyB s) := by unfold node_isKey.f keyB; split <;> rfl
def badP (x : S48) : Bool := !(keyB x.f0) || decide ((48 : Int) < (x.f1.size : Int))
def badS (s : ByteArray) : Bool := !(keyB s)
def badI (k : Int) : Bool := decide (k < 1) || decide (65535 < k)
def risesB (l : List ByteArray) : Bool := (List.range (l.length - 1)).all fun j => Op.bytesLess (l.getD j ByteArray.empty).toList (l.getD (j + 1) ByteArray.empty).toList
theorem rises_true {l : List ByteArray} (h : ∀ j, j + 1 < l.length → Op.bytesLess (l.getD j ByteArray.empty).toList (l.getD (j + 1) ByteArray.empty).toList = true) : risesB l = true := by
  unfold risesB
  rw [List.all_eq_true]
  intro j hj
  rw [List.mem_range] at hj
  exact h j (by omega)
theorem rises_false {l : List ByteArray} (j : Nat) (hj : j + 1 < l.length) (h : Op.bytesLess (l.getD j ByteArray.empty).toList (l.getD (j + 1) ByteArray.empty).toList = false) : risesB l = false := by
  cases hb : risesB l with
  | false => rfl
  | true =>
    unfold risesB at hb
    rw [List.all_eq_true] at hb
    have := hb j (List.mem_range.2 (by omega))
    rw [h] at this
    cases this
def leafV (lf : Bool) (P : List S48) (K : List ByteArray) (D : List Int) : Bool := lf && decide (K.length + D.length = 0) && decide (P.length ≤ 255) && !(P.any badP) && risesB (P.map (·.f0))
def innerV (lf : Bool) (P : List S48) (K : List ByteArray) (D : List Int) : Bool := !lf && decide (P.length = 0) && decide (1 ≤ D.length) && decide (D.length ≤ 255) && decide (K.length + 1 = D.length) && !(K.any badS) && !(D.any badI) && risesB K
set_option maxHeartbeats 1000000 in
theorem leaf1W (x : S48) (w : World) : Calls Try.prog 59 #[.agg #[.string x.f0, .string x.f1]] w fun e w' => e = .returned (.bool (badP x)) ∧ Below w.heap.size w w' := by
  obtain ⟨a, b⟩ := x
  have hN := Aside0.mk (fun W => node_isKey.calls a (keyB a) W (isKey_val a))
  have HB := Aside0.mk (below_alloc (Below.refl w.heap.size w) (.cells #[.string a, .string b] 48))
  unfold badP
  obtain ⟨k, hk⟩ : ∃ k, k = keyB a := ⟨_, rfl⟩
  rw [← hk] at hN ⊢
  clear hk
  have hbx := heap_alloc_new w (.cells #[.string a, .string b] 48)
  have b0 := (blk_cell hbx 0).trans rfl
  have b1 := (blk_cell hbx 1).trans rfl
  clear hbx
  cases k
  · go_enter Try.func59, Try.ntmps59
    go_wp2_with fail
    refine (hN.out _).mono ?_
    rintro e w' ⟨rfl, hd⟩
    have BW := Aside0.mk (HB.out.trans (hd.below.mono HB.out.size))
    clear hd
    go_wp2
    go_ret
    exact ⟨by simp, BW.out⟩
  · go_enter Try.func59, Try.ntmps59
    go_wp2_with fail
    refine (hN.out _).mono ?_
    rintro e w' ⟨rfl, hd⟩
    have BW := Aside0.mk (HB.out.trans (hd.below.mono HB.out.size))
    have c1 : w'.cell? ⟨w.heap.size, 1, none⟩ = some (.string b) := (hd.below.cell (p := ⟨w.heap.size, 1, none⟩) (by simp)).trans b1
    clear hd b0 b1
    go_wp2
    go_ret
    exact ⟨by simp, BW.out⟩
set_option maxHeartbeats 4000000 in
set_option maxRecDepth 100000 in
theorem leafP_index (A0 : Option Addr) (c0 : Nat) (l0 : List S48) (w : World) (hr0 : Kd.C k48 w A0 l0.length l0) (hl : l0.length ≤ 9223372036854775807) :
    Calls Try.prog 82 #[.slice A0 l0.length c0, .func (.func 59) #[] #[]] w fun e w' => (∃ j : Int, e = .returned (.int .i64 j) ∧ decide (0 ≤ j) = l0.any badP) ∧ Below w.heap.size w w' := by
  have R0 := Aside0.mk hr0
  have hN := Aside0.mk (fun s W => leaf1W s W)
  have HL := Aside0.mk hl
  clear hr0
  go_enter Try.func82, Try.ntmps82
  go_wp2_with fail
  go_loopw [8] (fun v8 w' => ∃ k : Nat, k ≤ l0.length ∧ v8 = .int .i64 (k : Int) ∧ Aside0 ((l0.take k).any badP = false) ∧ Aside0 (Below w.heap.size w w')) (fun v8 _ => (l0.length - intOf v8).toNat)
  case atStart => exact ⟨0, by omega, rfl, ⟨by simp⟩, ⟨Below.refl _ _⟩⟩
  case round =>
    obtain ⟨k, hk, rfl, HA, HB⟩ := hrel
    by_cases h : k < l0.length
    · have p1 : (0 : Int) ≤ (k : Int) := by omega
      have q1 : (k : Int) < (l0.length : Int) := by omega
      obtain ⟨ad, rfl, hx0, hx1⟩ := at_T48 (Kd.C_below R0.out HB.out) (k : Int) p1 q1
      obtain ⟨x, hxx⟩ : ∃ x, x = rd_T48 l0 (k : Int) := ⟨_, rfl⟩
      have hg : l0[k] = x := by rw [hxx]; unfold rd_T48; simp [List.getD_eq_getElem?_getD, h]
      rw [← hxx] at hx0 hx1
      have HX := Aside0.mk hg
      clear hxx hg
      rw [Int.toNat_natCast] at hx0 hx1
      have HK : Aside0 (l0.take (k + 1) = l0.take k ++ [x]) := ⟨by rw [List.take_succ_eq_append_getElem h, HX.out]⟩
      have HAn : Aside0 (badP x = true → l0.any badP = true) := ⟨fun hf => List.any_eq_true.2 ⟨x, by rw [← HX.out]; exact List.getElem_mem h, hf⟩⟩
      clear HX
      have HN := Aside0.mk (hN.out x)
      obtain ⟨b, hb⟩ : ∃ b, b = badP x := ⟨_, rfl⟩
      rw [← hb] at HN HAn
      have Hb := Aside0.mk hb
      clear hb
      have d1 : decide (k < l0.length) = true := decide_eq_true h
      have d1' : decide ((k : Int) < (l0.length : Int)) = true := decide_eq_true q1
      cases b
      · go_wp2_with (first | (go_at_call 59; refine (HN.out _).mono ?_; rintro e w' ⟨rfl, hbb⟩) | fail)
        have BW := Aside0.mk (HB.out.trans (hbb.mono HB.out.size))
        clear hbb
        go_wp2
        go_roundw
        case rel => exact ⟨k + 1, by omega, by first | rfl | go_num, ⟨by rw [HK.out, List.any_append, HA.out]; simp [← Hb.out]⟩, BW⟩
        case measure => simp [intOf]; omega
      · go_wp2_with (first | (go_at_call 59; refine (HN.out _).mono ?_; rintro e w' ⟨rfl, hbb⟩) | fail)
        have BW := Aside0.mk (HB.out.trans (hbb.mono HB.out.size))
        clear hbb
        go_wp2
        go_ret
        exact ⟨⟨(k : Int), rfl, by rw [HAn.out (by first | trivial | rfl)]; simp⟩, BW.out⟩
    · have hd : decide ((k : Int) < (l0.length : Int)) = false := decide_eq_false (by omega)
      have hd' : decide (k < l0.length) = false := decide_eq_false (by omega)
      have HE : Aside0 (l0.take k = l0) := ⟨List.take_of_length_le (by omega)⟩
      go_wp2
      go_ret
      exact ⟨⟨-1, rfl, by have := HA.out; rw [HE.out] at this; rw [this]; rfl⟩, HB.out⟩
theorem leafP_contains (A0 : Option Addr) (c0 : Nat) (l0 : List S48) (w : World) (hr0 : Kd.C k48 w A0 l0.length l0) (hl : l0.length ≤ 9223372036854775807) :
    Calls Try.prog 60 #[.slice A0 l0.length c0, .func (.func 59) #[] #[]] w fun e w' => e = .returned (.bool (l0.any badP)) ∧ Below w.heap.size w w' := by
  have hI := Aside0.mk (leafP_index A0 c0 l0 w hr0 hl)
  clear hr0 hl
  go_enter Try.func60, Try.ntmps60
  go_wp2_with (first | (go_at_call 82; refine hI.out.mono ?_; rintro e w' ⟨⟨j, rfl, hj⟩, hb⟩) | fail)
  go_ret
  exact ⟨by rw [← hj]; simp, hb⟩



theorem inner1W (s : ByteArray) (w : World) : Calls Try.prog 63 #[.string s] w fun e w' => e = .returned (.bool (badS s)) ∧ Below w.heap.size w w' := by
  have hN := Aside0.mk (fun W => node_isKey.calls s (keyB s) W (isKey_val s))
  unfold badS
  go_enter Try.func63, Try.ntmps63
  go_wp2_with (first | (go_at_call 45; refine (hN.out _).mono ?_; rintro e w' ⟨rfl, hd⟩) | fail)
  go_ret
  exact ⟨rfl, hd.below⟩
theorem inner2W (s : Int) (w : World) : Calls Try.prog 64 #[.int .i64 s] w fun e w' => e = .returned (.bool (badI s)) ∧ Below w.heap.size w w' := by
  unfold badI
  by_cases h : s < 1
  · have d1 : decide (s < 1) = true := decide_eq_true h
    go_enter Try.func64, Try.ntmps64
    go_wp2
    go_ret
    exact ⟨by simp [d1], Below.refl _ _⟩
  · have d1 : decide (s < 1) = false := decide_eq_false h
    go_enter Try.func64, Try.ntmps64
    go_wp2
    go_ret
    exact ⟨by simp [d1], Below.refl _ _⟩
set_option maxHeartbeats 4000000 in
set_option maxRecDepth 100000 in
theorem innS_index (A0 : Option Addr) (c0 : Nat) (l0 : List ByteArray) (w : World) (hr0 : Kd.C Kd.string w A0 l0.length l0) (hl : l0.length ≤ 9223372036854775807) :
    Calls Try.prog 83 #[.slice A0 l0.length c0, .func (.func 63) #[] #[]] w fun e w' => (∃ j : Int, e = .returned (.int .i64 j) ∧ decide (0 ≤ j) = l0.any badS) ∧ Below w.heap.size w w' := by
  have R0 := Aside0.mk hr0
  have hN := Aside0.mk (fun s W => inner1W s W)
  have HL := Aside0.mk hl
  clear hr0
  go_enter Try.func83, Try.ntmps83
  go_wp2_with fail
  go_loopw [8] (fun v8 w' => ∃ k : Nat, k ≤ l0.length ∧ v8 = .int .i64 (k : Int) ∧ Aside0 ((l0.take k).any badS = false) ∧ Aside0 (Below w.heap.size w w')) (fun v8 _ => (l0.length - intOf v8).toNat)
  case atStart => exact ⟨0, by omega, rfl, ⟨by simp⟩, ⟨Below.refl _ _⟩⟩
  case round =>
    obtain ⟨k, hk, rfl, HA, HB⟩ := hrel
    by_cases h : k < l0.length
    · have p1 : (0 : Int) ≤ (k : Int) := by omega
      have q1 : (k : Int) < (l0.length : Int) := by omega
      obtain ⟨ad, e, hx⟩ := Kd.at_string (Kd.C_below R0.out HB.out) (k : Int) p1 q1
      cases e
      obtain ⟨x, hxx⟩ : ∃ x, x = rdOf ByteArray.empty l0 (k : Int) := ⟨_, rfl⟩
      have hg : l0[k] = x := by rw [hxx]; simp [rdOf, rd, List.getD_eq_getElem?_getD, h]
      rw [← hxx] at hx
      have HX := Aside0.mk hg
      clear hxx hg
      rw [Int.toNat_natCast] at hx
      have HK : Aside0 (l0.take (k + 1) = l0.take k ++ [x]) := ⟨by rw [List.take_succ_eq_append_getElem h, HX.out]⟩
      have HAn : Aside0 (badS x = true → l0.any badS = true) := ⟨fun hf => List.any_eq_true.2 ⟨x, by rw [← HX.out]; exact List.getElem_mem h, hf⟩⟩
      clear HX
      have HN := Aside0.mk (hN.out x)
      obtain ⟨b, hb⟩ : ∃ b, b = badS x := ⟨_, rfl⟩
      rw [← hb] at HN HAn
      have Hb := Aside0.mk hb
      clear hb
      have d1 : decide (k < l0.length) = true := decide_eq_true h
      have d1' : decide ((k : Int) < (l0.length : Int)) = true := decide_eq_true q1
      cases b
      · go_wp2_with (first | (go_at_call 63; refine (HN.out _).mono ?_; rintro e w' ⟨rfl, hbb⟩) | fail)
        have BW := Aside0.mk (HB.out.trans (hbb.mono HB.out.size))
        clear hbb
        go_wp2
        go_roundw
        case rel => exact ⟨k + 1, by omega, by first | rfl | go_num, ⟨by rw [HK.out, List.any_append, HA.out]; simp [← Hb.out]⟩, BW⟩
        case measure => simp [intOf]; omega
      · go_wp2_with (first | (go_at_call 63; refine (HN.out _).mono ?_; rintro e w' ⟨rfl, hbb⟩) | fail)
        have BW := Aside0.mk (HB.out.trans (hbb.mono HB.out.size))
        clear hbb
        go_wp2
        go_ret
        exact ⟨⟨(k : Int), rfl, by rw [HAn.out (by first | trivial | rfl)]; simp⟩, BW.out⟩
    · have hd : decide ((k : Int) < (l0.length : Int)) = false := decide_eq_false (by omega)
      have hd' : decide (k < l0.length) = false := decide_eq_false (by omega)
      have HE : Aside0 (l0.take k = l0) := ⟨List.take_of_length_le (by omega)⟩
      go_wp2
      go_ret
      exact ⟨⟨-1, rfl, by have := HA.out; rw [HE.out] at this; rw [this]; rfl⟩, HB.out⟩
theorem innS_contains (A0 : Option Addr) (c0 : Nat) (l0 : List ByteArray) (w : World) (hr0 : Kd.C Kd.string w A0 l0.length l0) (hl : l0.length ≤ 9223372036854775807) :
    Calls Try.prog 65 #[.slice A0 l0.length c0, .func (.func 63) #[] #[]] w fun e w' => e = .returned (.bool (l0.any badS)) ∧ Below w.heap.size w w' := by
  have hI := Aside0.mk (innS_index A0 c0 l0 w hr0 hl)
  clear hr0 hl
  go_enter Try.func65, Try.ntmps65
  go_wp2_with (first | (go_at_call 83; refine hI.out.mono ?_; rintro e w' ⟨⟨j, rfl, hj⟩, hb⟩) | fail)
  go_ret
  exact ⟨by rw [← hj]; simp, hb⟩
set_option maxHeartbeats 4000000 in
set_option maxRecDepth 100000 in
theorem innI_index (A0 : Option Addr) (c0 : Nat) (l0 : List Int) (w : World) (hr0 : Kd.C (Kd.int .i64) w A0 l0.length l0) (hl : l0.length ≤ 9223372036854775807) :
    Calls Try.prog 84 #[.slice A0 l0.length c0, .func (.func 64) #[] #[]] w fun e w' => (∃ j : Int, e = .returned (.int .i64 j) ∧ decide (0 ≤ j) = l0.any badI) ∧ Below w.heap.size w w' := by
  have R0 := Aside0.mk hr0
  have hN := Aside0.mk (fun s W => inner2W s W)
  have HL := Aside0.mk hl
  clear hr0
  go_enter Try.func84, Try.ntmps84
  go_wp2_with fail
  go_loopw [8] (fun v8 w' => ∃ k : Nat, k ≤ l0.length ∧ v8 = .int .i64 (k : Int) ∧ Aside0 ((l0.take k).any badI = false) ∧ Aside0 (Below w.heap.size w w')) (fun v8 _ => (l0.length - intOf v8).toNat)
  case atStart => exact ⟨0, by omega, rfl, ⟨by simp⟩, ⟨Below.refl _ _⟩⟩
  case round =>
    obtain ⟨k, hk, rfl, HA, HB⟩ := hrel
    by_cases h : k < l0.length
    · have p1 : (0 : Int) ≤ (k : Int) := by omega
      have q1 : (k : Int) < (l0.length : Int) := by omega
      obtain ⟨ad, e, hx⟩ := Kd.at_int (Kd.C_below R0.out HB.out) (k : Int) p1 q1
      cases e
      obtain ⟨x, hxx⟩ : ∃ x, x = rd l0 (k : Int) := ⟨_, rfl⟩
      have hg : l0[k] = x := by rw [hxx]; simp [rdOf, rd, List.getD_eq_getElem?_getD, h]
      rw [← hxx] at hx
      have HX := Aside0.mk hg
      clear hxx hg
      rw [Int.toNat_natCast] at hx
      have HK : Aside0 (l0.take (k + 1) = l0.take k ++ [x]) := ⟨by rw [List.take_succ_eq_append_getElem h, HX.out]⟩
      have HAn : Aside0 (badI x = true → l0.any badI = true) := ⟨fun hf => List.any_eq_true.2 ⟨x, by rw [← HX.out]; exact List.getElem_mem h, hf⟩⟩
      clear HX
      have HN := Aside0.mk (hN.out x)
      obtain ⟨b, hb⟩ : ∃ b, b = badI x := ⟨_, rfl⟩
      rw [← hb] at HN HAn
      have Hb := Aside0.mk hb
      clear hb
      have d1 : decide (k < l0.length) = true := decide_eq_true h
      have d1' : decide ((k : Int) < (l0.length : Int)) = true := decide_eq_true q1
      cases b
      · go_wp2_with (first | (go_at_call 64; refine (HN.out _).mono ?_; rintro e w' ⟨rfl, hbb⟩) | fail)
        have BW := Aside0.mk (HB.out.trans (hbb.mono HB.out.size))
        clear hbb
        go_wp2
        go_roundw
        case rel => exact ⟨k + 1, by omega, by first | rfl | go_num, ⟨by rw [HK.out, List.any_append, HA.out]; simp [← Hb.out]⟩, BW⟩
        case measure => simp [intOf]; omega
      · go_wp2_with (first | (go_at_call 64; refine (HN.out _).mono ?_; rintro e w' ⟨rfl, hbb⟩) | fail)
        have BW := Aside0.mk (HB.out.trans (hbb.mono HB.out.size))
        clear hbb
        go_wp2
        go_ret
        exact ⟨⟨(k : Int), rfl, by rw [HAn.out (by first | trivial | rfl)]; simp⟩, BW.out⟩
    · have hd : decide ((k : Int) < (l0.length : Int)) = false := decide_eq_false (by omega)
      have hd' : decide (k < l0.length) = false := decide_eq_false (by omega)
      have HE : Aside0 (l0.take k = l0) := ⟨List.take_of_length_le (by omega)⟩
      go_wp2
      go_ret
      exact ⟨⟨-1, rfl, by have := HA.out; rw [HE.out] at this; rw [this]; rfl⟩, HB.out⟩
theorem innI_contains (A0 : Option Addr) (c0 : Nat) (l0 : List Int) (w : World) (hr0 : Kd.C (Kd.int .i64) w A0 l0.length l0) (hl : l0.length ≤ 9223372036854775807) :
    Calls Try.prog 66 #[.slice A0 l0.length c0, .func (.func 64) #[] #[]] w fun e w' => e = .returned (.bool (l0.any badI)) ∧ Below w.heap.size w w' := by
  have hI := Aside0.mk (innI_index A0 c0 l0 w hr0 hl)
  clear hr0 hl
  go_enter Try.func66, Try.ntmps66
  go_wp2_with (first | (go_at_call 84; refine hI.out.mono ?_; rintro e w' ⟨⟨j, rfl, hj⟩, hb⟩) | fail)
  go_ret
  exact ⟨by rw [← hj]; simp, hb⟩



theorem keyOfW (a b : ByteArray) (w : World) : Calls Try.prog 62 #[.agg #[.string a, .string b]] w fun e w' => e = .returned (.string a) ∧ Below w.heap.size w w' := node_keyOf.calls a b a w rfl
theorem nd_cell {w w1 : World} (hb : Below w.heap.size w w1) {p : Addr} {u : Value} (h : w.cell? p = some u) : w1.cell? p = some u := by
  have hl : p.block < w.heap.size := by
    rcases Nat.lt_or_ge p.block w.heap.size with h' | h'
    · exact h'
    · exfalso
      unfold World.cell? at h
      rw [Array.getElem?_eq_none h'] at h
      simp at h
  rw [hb.cell (p := p) hl]
  exact h
set_option maxHeartbeats 4000000 in
set_option maxRecDepth 100000 in
theorem risingP (A0 : Option Addr) (c0 : Nat) (l0 : List S48) (w : World) (hr0 : Kd.C k48 w A0 l0.length l0) (hl : l0.length ≤ 9223372036854775806) :
    Calls Try.prog 61 #[.slice A0 l0.length c0, .func (.func 62) #[] #[]] w fun e w' => e = .returned (.bool (risesB (l0.map (·.f0)))) ∧ Below w.heap.size w w' := by
  have R0 := Aside0.mk hr0
  clear hr0
  go_enter Try.func61, Try.ntmps61
  go_wp2_with fail
  go_loopw [5] (fun v w' => ∃ k : Nat, 1 ≤ k ∧ (k ≤ l0.length ∨ k = 1) ∧ v = .int .i64 (k : Int) ∧ Aside0 (∀ j, j + 1 < k → Op.bytesLess ((l0.map (·.f0)).getD j ByteArray.empty).toList ((l0.map (·.f0)).getD (j + 1) ByteArray.empty).toList = true) ∧ Aside0 (Below w.heap.size w w')) (fun v _ => (l0.length - intOf v).toNat)
  case atStart => exact ⟨1, by omega, by omega, rfl, ⟨fun j hj => by omega⟩, ⟨Below.refl _ _⟩⟩
  case round =>
    obtain ⟨k, hk1, hk, rfl, HA, HB⟩ := hrel
    by_cases h : k < l0.length
    · have d1 : decide (k < l0.length) = true := decide_eq_true h
      have d1' : decide ((k : Int) < (l0.length : Int)) = true := decide_eq_true (by omega)
      obtain ⟨m, rfl⟩ : ∃ m, k = m + 1 := ⟨k - 1, by omega⟩
      have e1 : wrap64 (((m + 1 : Nat) : Int) - 1) = (m : Int) := by unfold wrap64; omega
      have p1 : (0 : Int) ≤ (m : Int) := by omega
      have q1 : (m : Int) < (l0.length : Int) := by omega
      have p2 : (0 : Int) ≤ ((m + 1 : Nat) : Int) := by omega
      have q2 : ((m + 1 : Nat) : Int) < (l0.length : Int) := by omega
      have e1b : wrap64 ((m : Int) + 1 - 1) = (m : Int) := by unfold wrap64; omega
      have e1c : wrap64 (m : Int) = (m : Int) := by unfold wrap64; omega
      have e1d : IntKind.i64.wrap (m : Int) = (m : Int) := by rw [IntKind.wrap_i64]; omega
      have p2b : (0 : Int) ≤ (m : Int) + 1 := by omega
      have q2b : (m : Int) + 1 < (l0.length : Int) := by omega
      have e2b : ((m : Int) + 1).toNat = m + 1 := by omega
      obtain ⟨ad, rfl, hx0, hx1⟩ := at_T48 (Kd.C_below R0.out HB.out) (m : Int) p1 q1
      obtain ⟨ad', ha', hy0, hy1⟩ := at_T48 (Kd.C_below R0.out HB.out) ((m + 1 : Nat) : Int) p2 q2
      cases ha'
      rw [Int.toNat_natCast] at hx0 hx1 hy0 hy1
      obtain ⟨x, hxx⟩ : ∃ x, x = (rd_T48 l0 (m : Int)).f0 := ⟨_, rfl⟩
      obtain ⟨y, hyy⟩ : ∃ y, y = (rd_T48 l0 ((m + 1 : Nat) : Int)).f0 := ⟨_, rfl⟩
      obtain ⟨x2, hxx2⟩ : ∃ x, x = (rd_T48 l0 (m : Int)).f1 := ⟨_, rfl⟩
      obtain ⟨y2, hyy2⟩ : ∃ y, y = (rd_T48 l0 ((m + 1 : Nat) : Int)).f1 := ⟨_, rfl⟩
      rw [← hxx] at hx0
      rw [← hxx2] at hx1
      rw [← hyy] at hy0
      rw [← hyy2] at hy1
      clear hxx2 hyy2
      have HX : Aside0 ((l0.map (·.f0)).getD m ByteArray.empty = x ∧ (l0.map (·.f0)).getD (m + 1) ByteArray.empty = y) := ⟨by rw [hxx, hyy]; constructor <;> simp [rd_T48, rdOf, List.getD_eq_getElem?_getD, h, show m < l0.length by omega]⟩
      clear hxx hyy
      obtain ⟨b, hb⟩ : ∃ b, b = Op.bytesLess x.toList y.toList := ⟨_, rfl⟩
      have Hb := Aside0.mk hb
      have hb' : Op.bytesLess x.toList y.toList = b := hb.symm
      clear hb
      have HM : Aside0 ((l0.length - intOf (.int .i64 ((m + 1 + 1 : Nat) : Int))).toNat < (l0.length - intOf (.int .i64 ((m + 1 : Nat) : Int))).toNat) := ⟨by simp [intOf]; omega⟩
      have HW : Aside0 (wrap64 (((m + 1 : Nat) : Int) + 1) = ((m + 1 + 1 : Nat) : Int)) := ⟨by unfold wrap64; omega⟩
      have hw2 := HW.out
      have MK : Aside0 (∀ w1, Below wr.heap.size wr w1 → (Below wr.heap.size wr w1 ∧ w1.cell? (ad.add (m * 2)) = some (.string x) ∧ w1.cell? ⟨(ad.add (m * 2)).block, (ad.add (m * 2)).off + 1, none⟩ = some (.string x2) ∧ w1.cell? (ad.add ((m + 1) * 2)) = some (.string y) ∧ w1.cell? ⟨(ad.add ((m + 1) * 2)).block, (ad.add ((m + 1) * 2)).off + 1, none⟩ = some (.string y2))) := ⟨fun w1 hb => ⟨hb, nd_cell hb hx0, nd_cell hb hx1, nd_cell hb hy0, nd_cell hb hy1⟩⟩
      have FIN : Aside0 (∀ w1, Below wr.heap.size wr w1 → Below w.heap.size w w1) := ⟨fun w1 hb => HB.out.trans (hb.mono HB.out.size)⟩
      cases b
      · have RF : Aside0 (risesB (l0.map (·.f0)) = false) := ⟨rises_false m (by simpa using h) (by rw [HX.out.1, HX.out.2]; exact Hb.out.symm)⟩
        clear HA hk
        clear hx0 hx1 hy0 hy1
        go_wp2_with fail
        refine wp_region_held_drew (S := fun w1 => (Below wr.heap.size wr w1 ∧ w1.cell? (ad.add (m * 2)) = some (.string x) ∧ w1.cell? ⟨(ad.add (m * 2)).block, (ad.add (m * 2)).off + 1, none⟩ = some (.string x2) ∧ w1.cell? (ad.add ((m + 1) * 2)) = some (.string y) ∧ w1.cell? ⟨(ad.add ((m + 1) * 2)).block, (ad.add ((m + 1) * 2)).off + 1, none⟩ = some (.string y2))) (by kernel_rfl) ?_ (fun hHeld => ?_)
        · try dsimp only
          first | exact MK.out _ (Below.drew (Below.refl _ _)) | exact MK.out _ SB1.out | assumption
        refine wpAnyH_take (i := 0) (oi := _) (v := _) rfl (by kernel_rfl) (by kernel_rfl) (by kernel_rfl) (fun _ _ _ h => h) (Or.inl ⟨by rfl, by (intro w hSw; (try dsimp only at hSw); go_simp; try with_reducible rfl)⟩) hHeld ?_
        simp only [Act.put, List.getElem_toArray, List.getElem_cons_zero, List.getElem_cons_succ, List.setIfInBounds_toArray, List.set_cons_zero, List.set_cons_succ]
        refine wpAnyH_take (i := 1) (oi := _) (v := _) rfl (by kernel_rfl) (by kernel_rfl) (by kernel_rfl) (fun _ _ _ h => h) (Or.inl ⟨by rfl, by (intro w hSw; (try dsimp only at hSw); go_simp; try with_reducible rfl)⟩) hHeld ?_
        simp only [Act.put, List.getElem_toArray, List.getElem_cons_zero, List.getElem_cons_succ, List.setIfInBounds_toArray, List.set_cons_zero, List.set_cons_succ]
        refine wpAnyH_take (i := 2) (oi := _) (v := _) rfl (by kernel_rfl) (by kernel_rfl) (by kernel_rfl) (fun _ _ _ h => h) (Or.inl ⟨by rfl, by (intro w hSw; (try dsimp only at hSw); go_simp; try with_reducible rfl)⟩) hHeld ?_
        simp only [Act.put, List.getElem_toArray, List.getElem_cons_zero, List.getElem_cons_succ, List.setIfInBounds_toArray, List.set_cons_zero, List.set_cons_succ]
        refine wpAnyH_take (i := 3) (oi := _) (v := _) rfl (by kernel_rfl) (by kernel_rfl) (by kernel_rfl) (fun _ _ _ h => h) (Or.inl ⟨by rfl, by (intro w hSw; (try dsimp only at hSw); go_simp; try with_reducible rfl)⟩) hHeld ?_
        simp only [Act.put, List.getElem_toArray, List.getElem_cons_zero, List.getElem_cons_succ, List.setIfInBounds_toArray, List.set_cons_zero, List.set_cons_succ]
        refine wpAnyH_take (i := 4) (oi := _) (v := _) rfl (by kernel_rfl) (by kernel_rfl) (by kernel_rfl) (fun _ _ _ h => h) (Or.inl ⟨by rfl, by (intro w hSw; (try dsimp only at hSw); go_simp; try with_reducible rfl)⟩) hHeld ?_
        simp only [Act.put, List.getElem_toArray, List.getElem_cons_zero, List.getElem_cons_succ, List.setIfInBounds_toArray, List.set_cons_zero, List.set_cons_succ]
        refine wpAnyH_take (i := 5) (oi := _) (v := _) rfl (by kernel_rfl) (by kernel_rfl) (by kernel_rfl) (fun _ _ _ h => h) (Or.inl ⟨by rfl, by (intro w hSw; (try dsimp only at hSw); go_simp; try with_reducible rfl)⟩) hHeld ?_
        simp only [Act.put, List.getElem_toArray, List.getElem_cons_zero, List.getElem_cons_succ, List.setIfInBounds_toArray, List.set_cons_zero, List.set_cons_succ]
        refine wpAnyH_take (i := 7) (oi := _) (v := _) rfl (by kernel_rfl) (by kernel_rfl) (by kernel_rfl) (fun _ _ _ h => h) (Or.inl ⟨by rfl, by (intro w hSw; (try dsimp only at hSw); go_simp; try with_reducible rfl)⟩) hHeld ?_
        simp only [Act.put, List.getElem_toArray, List.getElem_cons_zero, List.getElem_cons_succ, List.setIfInBounds_toArray, List.set_cons_zero, List.set_cons_succ]
        refine wpAnyH_take (i := 8) (oi := _) (v := _) rfl (by kernel_rfl) (by kernel_rfl) (by kernel_rfl) (fun _ _ _ h => h) (Or.inl ⟨by rfl, by (intro w hSw; (try dsimp only at hSw); go_simp; try with_reducible rfl)⟩) hHeld ?_
        simp only [Act.put, List.getElem_toArray, List.getElem_cons_zero, List.getElem_cons_succ, List.setIfInBounds_toArray, List.set_cons_zero, List.set_cons_succ]
        refine wpAnyH_take (i := 9) (oi := _) (v := _) rfl (by kernel_rfl) (by kernel_rfl) (by kernel_rfl) (fun _ _ _ h => h) (Or.inl ⟨by rfl, by (intro w hSw; (try dsimp only at hSw); go_simp; try with_reducible rfl)⟩) hHeld ?_
        simp only [Act.put, List.getElem_toArray, List.getElem_cons_zero, List.getElem_cons_succ, List.setIfInBounds_toArray, List.set_cons_zero, List.set_cons_succ]
        refine wpAnyH_take (i := 10) (oi := _) (v := _) rfl (by kernel_rfl) (by kernel_rfl) (by kernel_rfl) (fun _ _ _ h => h) (Or.inl ⟨by rfl, by (intro w hSw; (try dsimp only at hSw); go_simp; try with_reducible rfl)⟩) hHeld ?_
        simp only [Act.put, List.getElem_toArray, List.getElem_cons_zero, List.getElem_cons_succ, List.setIfInBounds_toArray, List.set_cons_zero, List.set_cons_succ]
        refine wpAnyH_take (i := 11) (oi := _) (v := _) rfl (by kernel_rfl) (by kernel_rfl) (by kernel_rfl) (fun _ _ _ h => h) (Or.inl ⟨by rfl, by (intro w hSw; (try dsimp only at hSw); go_simp; try with_reducible rfl)⟩) hHeld ?_
        simp only [Act.put, List.getElem_toArray, List.getElem_cons_zero, List.getElem_cons_succ, List.setIfInBounds_toArray, List.set_cons_zero, List.set_cons_succ]
        refine wpAnyH_ready (rs := [6]) (by kernel_rfl) (by simp) ?_
        refine AllReadyH.cons rfl (fun K hK => ?_) AllReadyH.nil
        go_simp
        refine (keyOfW _ _ _).mono ?_
        rintro e w6 ⟨rfl, hb6⟩
        have SB1 : Aside0 (Below wr.heap.size wr w6) := ⟨Below.trans hHeld.1 (hb6.mono hHeld.1.size)⟩
        clear hb6
        go_simp
        refine hK.out _ _ ?_ (fun hNew => ?_)
        · try dsimp only
          first | exact MK.out _ (Below.drew (Below.refl _ _)) | exact MK.out _ SB1.out | assumption
        clear hK K hHeld
        have hHeld := hNew
        clear hNew
        refine wpAnyH_ready (rs := [12]) (by kernel_rfl) (by simp) ?_
        refine AllReadyH.cons rfl (fun K hK => ?_) AllReadyH.nil
        go_simp
        refine (keyOfW _ _ _).mono ?_
        rintro e w6 ⟨rfl, hb6⟩
        have SB1 : Aside0 (Below wr.heap.size wr w6) := ⟨Below.trans hHeld.1 (hb6.mono hHeld.1.size)⟩
        clear hb6
        go_simp
        refine hK.out _ _ ?_ (fun hNew => ?_)
        · try dsimp only
          first | exact MK.out _ (Below.drew (Below.refl _ _)) | exact MK.out _ SB1.out | assumption
        clear hK K hHeld
        have hHeld := hNew
        clear hNew
        refine wpAnyH_take (i := 13) (oi := _) (v := _) rfl (by kernel_rfl) (by kernel_rfl) (by kernel_rfl) (fun _ _ _ h => h) (Or.inl ⟨by rfl, by (intro w hSw; (try dsimp only at hSw); go_simp; try with_reducible rfl)⟩) hHeld ?_
        simp only [Act.put, List.getElem_toArray, List.getElem_cons_zero, List.getElem_cons_succ, List.setIfInBounds_toArray, List.set_cons_zero, List.set_cons_succ]
        refine wpAnyH_done (by kernel_rfl) ?_ _
        go_wp2_with fail
        go_ret
        exact ⟨by rw [RF.out]; rfl, FIN.out _ hHeld.1⟩
      · have HA2 : Aside0 (∀ j, j + 1 < m + 1 + 1 → Op.bytesLess ((l0.map (·.f0)).getD j ByteArray.empty).toList ((l0.map (·.f0)).getD (j + 1) ByteArray.empty).toList = true) := ⟨fun j hj => by
          by_cases e : j = m
          · subst e
            rw [HX.out.1, HX.out.2]; exact Hb.out.symm
          · exact HA.out j (by omega)⟩
        clear HA hk
        clear hx0 hx1 hy0 hy1
        go_wp2_with fail
        refine wp_region_held_drew (S := fun w1 => (Below wr.heap.size wr w1 ∧ w1.cell? (ad.add (m * 2)) = some (.string x) ∧ w1.cell? ⟨(ad.add (m * 2)).block, (ad.add (m * 2)).off + 1, none⟩ = some (.string x2) ∧ w1.cell? (ad.add ((m + 1) * 2)) = some (.string y) ∧ w1.cell? ⟨(ad.add ((m + 1) * 2)).block, (ad.add ((m + 1) * 2)).off + 1, none⟩ = some (.string y2))) (by kernel_rfl) ?_ (fun hHeld => ?_)
        · try dsimp only
          first | exact MK.out _ (Below.drew (Below.refl _ _)) | exact MK.out _ SB1.out | assumption
        refine wpAnyH_take (i := 0) (oi := _) (v := _) rfl (by kernel_rfl) (by kernel_rfl) (by kernel_rfl) (fun _ _ _ h => h) (Or.inl ⟨by rfl, by (intro w hSw; (try dsimp only at hSw); go_simp; try with_reducible rfl)⟩) hHeld ?_
        simp only [Act.put, List.getElem_toArray, List.getElem_cons_zero, List.getElem_cons_succ, List.setIfInBounds_toArray, List.set_cons_zero, List.set_cons_succ]
        refine wpAnyH_take (i := 1) (oi := _) (v := _) rfl (by kernel_rfl) (by kernel_rfl) (by kernel_rfl) (fun _ _ _ h => h) (Or.inl ⟨by rfl, by (intro w hSw; (try dsimp only at hSw); go_simp; try with_reducible rfl)⟩) hHeld ?_
        simp only [Act.put, List.getElem_toArray, List.getElem_cons_zero, List.getElem_cons_succ, List.setIfInBounds_toArray, List.set_cons_zero, List.set_cons_succ]
        refine wpAnyH_take (i := 2) (oi := _) (v := _) rfl (by kernel_rfl) (by kernel_rfl) (by kernel_rfl) (fun _ _ _ h => h) (Or.inl ⟨by rfl, by (intro w hSw; (try dsimp only at hSw); go_simp; try with_reducible rfl)⟩) hHeld ?_
        simp only [Act.put, List.getElem_toArray, List.getElem_cons_zero, List.getElem_cons_succ, List.setIfInBounds_toArray, List.set_cons_zero, List.set_cons_succ]
        refine wpAnyH_take (i := 3) (oi := _) (v := _) rfl (by kernel_rfl) (by kernel_rfl) (by kernel_rfl) (fun _ _ _ h => h) (Or.inl ⟨by rfl, by (intro w hSw; (try dsimp only at hSw); go_simp; try with_reducible rfl)⟩) hHeld ?_
        simp only [Act.put, List.getElem_toArray, List.getElem_cons_zero, List.getElem_cons_succ, List.setIfInBounds_toArray, List.set_cons_zero, List.set_cons_succ]
        refine wpAnyH_take (i := 4) (oi := _) (v := _) rfl (by kernel_rfl) (by kernel_rfl) (by kernel_rfl) (fun _ _ _ h => h) (Or.inl ⟨by rfl, by (intro w hSw; (try dsimp only at hSw); go_simp; try with_reducible rfl)⟩) hHeld ?_
        simp only [Act.put, List.getElem_toArray, List.getElem_cons_zero, List.getElem_cons_succ, List.setIfInBounds_toArray, List.set_cons_zero, List.set_cons_succ]
        refine wpAnyH_take (i := 5) (oi := _) (v := _) rfl (by kernel_rfl) (by kernel_rfl) (by kernel_rfl) (fun _ _ _ h => h) (Or.inl ⟨by rfl, by (intro w hSw; (try dsimp only at hSw); go_simp; try with_reducible rfl)⟩) hHeld ?_
        simp only [Act.put, List.getElem_toArray, List.getElem_cons_zero, List.getElem_cons_succ, List.setIfInBounds_toArray, List.set_cons_zero, List.set_cons_succ]
        refine wpAnyH_take (i := 7) (oi := _) (v := _) rfl (by kernel_rfl) (by kernel_rfl) (by kernel_rfl) (fun _ _ _ h => h) (Or.inl ⟨by rfl, by (intro w hSw; (try dsimp only at hSw); go_simp; try with_reducible rfl)⟩) hHeld ?_
        simp only [Act.put, List.getElem_toArray, List.getElem_cons_zero, List.getElem_cons_succ, List.setIfInBounds_toArray, List.set_cons_zero, List.set_cons_succ]
        refine wpAnyH_take (i := 8) (oi := _) (v := _) rfl (by kernel_rfl) (by kernel_rfl) (by kernel_rfl) (fun _ _ _ h => h) (Or.inl ⟨by rfl, by (intro w hSw; (try dsimp only at hSw); go_simp; try with_reducible rfl)⟩) hHeld ?_
        simp only [Act.put, List.getElem_toArray, List.getElem_cons_zero, List.getElem_cons_succ, List.setIfInBounds_toArray, List.set_cons_zero, List.set_cons_succ]
        refine wpAnyH_take (i := 9) (oi := _) (v := _) rfl (by kernel_rfl) (by kernel_rfl) (by kernel_rfl) (fun _ _ _ h => h) (Or.inl ⟨by rfl, by (intro w hSw; (try dsimp only at hSw); go_simp; try with_reducible rfl)⟩) hHeld ?_
        simp only [Act.put, List.getElem_toArray, List.getElem_cons_zero, List.getElem_cons_succ, List.setIfInBounds_toArray, List.set_cons_zero, List.set_cons_succ]
        refine wpAnyH_take (i := 10) (oi := _) (v := _) rfl (by kernel_rfl) (by kernel_rfl) (by kernel_rfl) (fun _ _ _ h => h) (Or.inl ⟨by rfl, by (intro w hSw; (try dsimp only at hSw); go_simp; try with_reducible rfl)⟩) hHeld ?_
        simp only [Act.put, List.getElem_toArray, List.getElem_cons_zero, List.getElem_cons_succ, List.setIfInBounds_toArray, List.set_cons_zero, List.set_cons_succ]
        refine wpAnyH_take (i := 11) (oi := _) (v := _) rfl (by kernel_rfl) (by kernel_rfl) (by kernel_rfl) (fun _ _ _ h => h) (Or.inl ⟨by rfl, by (intro w hSw; (try dsimp only at hSw); go_simp; try with_reducible rfl)⟩) hHeld ?_
        simp only [Act.put, List.getElem_toArray, List.getElem_cons_zero, List.getElem_cons_succ, List.setIfInBounds_toArray, List.set_cons_zero, List.set_cons_succ]
        refine wpAnyH_ready (rs := [6]) (by kernel_rfl) (by simp) ?_
        refine AllReadyH.cons rfl (fun K hK => ?_) AllReadyH.nil
        go_simp
        refine (keyOfW _ _ _).mono ?_
        rintro e w6 ⟨rfl, hb6⟩
        have SB1 : Aside0 (Below wr.heap.size wr w6) := ⟨Below.trans hHeld.1 (hb6.mono hHeld.1.size)⟩
        clear hb6
        go_simp
        refine hK.out _ _ ?_ (fun hNew => ?_)
        · try dsimp only
          first | exact MK.out _ (Below.drew (Below.refl _ _)) | exact MK.out _ SB1.out | assumption
        clear hK K hHeld
        have hHeld := hNew
        clear hNew
        refine wpAnyH_ready (rs := [12]) (by kernel_rfl) (by simp) ?_
        refine AllReadyH.cons rfl (fun K hK => ?_) AllReadyH.nil
        go_simp
        refine (keyOfW _ _ _).mono ?_
        rintro e w6 ⟨rfl, hb6⟩
        have SB1 : Aside0 (Below wr.heap.size wr w6) := ⟨Below.trans hHeld.1 (hb6.mono hHeld.1.size)⟩
        clear hb6
        go_simp
        refine hK.out _ _ ?_ (fun hNew => ?_)
        · try dsimp only
          first | exact MK.out _ (Below.drew (Below.refl _ _)) | exact MK.out _ SB1.out | assumption
        clear hK K hHeld
        have hHeld := hNew
        clear hNew
        refine wpAnyH_take (i := 13) (oi := _) (v := _) rfl (by kernel_rfl) (by kernel_rfl) (by kernel_rfl) (fun _ _ _ h => h) (Or.inl ⟨by rfl, by (intro w hSw; (try dsimp only at hSw); go_simp; try with_reducible rfl)⟩) hHeld ?_
        simp only [Act.put, List.getElem_toArray, List.getElem_cons_zero, List.getElem_cons_succ, List.setIfInBounds_toArray, List.set_cons_zero, List.set_cons_succ]
        refine wpAnyH_done (by kernel_rfl) ?_ _
        have FB := Aside0.mk (FIN.out _ hHeld.1)
        clear hHeld
        go_wp2_with fail
        exact ⟨⟨m + 1 + 1, by omega, by omega, by first | rfl | (simp; done), HA2, FB⟩, HM.out⟩
    · have d1 : decide (k < l0.length) = false := decide_eq_false h
      have d1' : decide ((k : Int) < (l0.length : Int)) = false := decide_eq_false (by omega)
      go_wp2_with fail
      go_ret
      exact ⟨by rw [rises_true (fun j hj => HA.out j (by (try simp at hj); omega))]; rfl, HB.out⟩
theorem itselfW (a : ByteArray) (w : World) : Calls Try.prog 68 #[.string a] w fun e w' => e = .returned (.string a) ∧ Below w.heap.size w w' := (node_itself.calls a a w rfl).mono fun e w' ⟨he, hd⟩ => ⟨he, hd.below⟩
set_option maxHeartbeats 4000000 in
set_option maxRecDepth 100000 in
theorem risingS (A0 : Option Addr) (c0 : Nat) (l0 : List ByteArray) (w : World) (hr0 : Kd.C Kd.string w A0 l0.length l0) (hl : l0.length ≤ 9223372036854775806) :
    Calls Try.prog 67 #[.slice A0 l0.length c0, .func (.func 68) #[] #[]] w fun e w' => e = .returned (.bool (risesB l0)) ∧ Below w.heap.size w w' := by
  have R0 := Aside0.mk hr0
  clear hr0
  go_enter Try.func67, Try.ntmps67
  go_wp2_with fail
  go_loopw [5] (fun v w' => ∃ k : Nat, 1 ≤ k ∧ (k ≤ l0.length ∨ k = 1) ∧ v = .int .i64 (k : Int) ∧ Aside0 (∀ j, j + 1 < k → Op.bytesLess (l0.getD j ByteArray.empty).toList (l0.getD (j + 1) ByteArray.empty).toList = true) ∧ Aside0 (Below w.heap.size w w')) (fun v _ => (l0.length - intOf v).toNat)
  case atStart => exact ⟨1, by omega, by omega, rfl, ⟨fun j hj => by omega⟩, ⟨Below.refl _ _⟩⟩
  case round =>
    obtain ⟨k, hk1, hk, rfl, HA, HB⟩ := hrel
    by_cases h : k < l0.length
    · have d1 : decide (k < l0.length) = true := decide_eq_true h
      have d1' : decide ((k : Int) < (l0.length : Int)) = true := decide_eq_true (by omega)
      obtain ⟨m, rfl⟩ : ∃ m, k = m + 1 := ⟨k - 1, by omega⟩
      have e1 : wrap64 (((m + 1 : Nat) : Int) - 1) = (m : Int) := by unfold wrap64; omega
      have p1 : (0 : Int) ≤ (m : Int) := by omega
      have q1 : (m : Int) < (l0.length : Int) := by omega
      have p2 : (0 : Int) ≤ ((m + 1 : Nat) : Int) := by omega
      have q2 : ((m + 1 : Nat) : Int) < (l0.length : Int) := by omega
      have e1b : wrap64 ((m : Int) + 1 - 1) = (m : Int) := by unfold wrap64; omega
      have e1c : wrap64 (m : Int) = (m : Int) := by unfold wrap64; omega
      have e1d : IntKind.i64.wrap (m : Int) = (m : Int) := by rw [IntKind.wrap_i64]; omega
      have p2b : (0 : Int) ≤ (m : Int) + 1 := by omega
      have q2b : (m : Int) + 1 < (l0.length : Int) := by omega
      have e2b : ((m : Int) + 1).toNat = m + 1 := by omega
      obtain ⟨ad, e0, hx⟩ := Kd.at_string (Kd.C_below R0.out HB.out) (m : Int) p1 q1
      obtain ⟨ad', ha', hy⟩ := Kd.at_string (Kd.C_below R0.out HB.out) ((m + 1 : Nat) : Int) p2 q2
      cases e0
      cases ha'
      rw [Int.toNat_natCast] at hx hy
      obtain ⟨x, hxx⟩ : ∃ x, x = rdOf ByteArray.empty l0 (m : Int) := ⟨_, rfl⟩
      obtain ⟨y, hyy⟩ : ∃ y, y = rdOf ByteArray.empty l0 ((m + 1 : Nat) : Int) := ⟨_, rfl⟩
      rw [← hxx] at hx
      rw [← hyy] at hy
      have HX : Aside0 (l0.getD m ByteArray.empty = x ∧ l0.getD (m + 1) ByteArray.empty = y) := ⟨by rw [hxx, hyy]; constructor <;> simp [rd_T48, rdOf, List.getD_eq_getElem?_getD, h, show m < l0.length by omega]⟩
      clear hxx hyy
      obtain ⟨b, hb⟩ : ∃ b, b = Op.bytesLess x.toList y.toList := ⟨_, rfl⟩
      have Hb := Aside0.mk hb
      have hb' : Op.bytesLess x.toList y.toList = b := hb.symm
      clear hb
      have HM : Aside0 ((l0.length - intOf (.int .i64 ((m + 1 + 1 : Nat) : Int))).toNat < (l0.length - intOf (.int .i64 ((m + 1 : Nat) : Int))).toNat) := ⟨by simp [intOf]; omega⟩
      have HW : Aside0 (wrap64 (((m + 1 : Nat) : Int) + 1) = ((m + 1 + 1 : Nat) : Int)) := ⟨by unfold wrap64; omega⟩
      have hw2 := HW.out
      have MK : Aside0 (∀ w1, Below wr.heap.size wr w1 → (Below wr.heap.size wr w1 ∧ w1.cell? (ad.add m) = some (.string x) ∧ w1.cell? ⟨ad.block, ad.off + (m + 1), none⟩ = some (.string y))) := ⟨fun w1 hb => ⟨hb, nd_cell hb hx, nd_cell hb hy⟩⟩
      have FIN : Aside0 (∀ w1, Below wr.heap.size wr w1 → Below w.heap.size w w1) := ⟨fun w1 hb => HB.out.trans (hb.mono HB.out.size)⟩
      cases b
      · have RF : Aside0 (risesB l0 = false) := ⟨rises_false m (by simpa using h) (by rw [HX.out.1, HX.out.2]; exact Hb.out.symm)⟩
        clear HA hk
        clear hx hy
        go_wp2_with fail
        refine wp_region_held_drew (S := fun w1 => (Below wr.heap.size wr w1 ∧ w1.cell? (ad.add m) = some (.string x) ∧ w1.cell? ⟨ad.block, ad.off + (m + 1), none⟩ = some (.string y))) (by kernel_rfl) ?_ (fun hHeld => ?_)
        · try dsimp only
          first | exact MK.out _ (Below.drew (Below.refl _ _)) | exact MK.out _ SB1.out | assumption
        refine wpAnyH_take (i := 0) (oi := _) (v := _) rfl (by kernel_rfl) (by kernel_rfl) (by kernel_rfl) (fun _ _ _ h => h) (Or.inl ⟨by rfl, by (intro w hSw; (try dsimp only at hSw); go_simp; try with_reducible rfl)⟩) hHeld ?_
        simp only [Act.put, List.getElem_toArray, List.getElem_cons_zero, List.getElem_cons_succ, List.setIfInBounds_toArray, List.set_cons_zero, List.set_cons_succ]
        refine wpAnyH_take (i := 1) (oi := _) (v := _) rfl (by kernel_rfl) (by kernel_rfl) (by kernel_rfl) (fun _ _ _ h => h) (Or.inl ⟨by rfl, by (intro w hSw; (try dsimp only at hSw); go_simp; try with_reducible rfl)⟩) hHeld ?_
        simp only [Act.put, List.getElem_toArray, List.getElem_cons_zero, List.getElem_cons_succ, List.setIfInBounds_toArray, List.set_cons_zero, List.set_cons_succ]
        refine wpAnyH_take (i := 2) (oi := _) (v := _) rfl (by kernel_rfl) (by kernel_rfl) (by kernel_rfl) (fun _ _ _ h => h) (Or.inl ⟨by rfl, by (intro w hSw; (try dsimp only at hSw); go_simp; try with_reducible rfl)⟩) hHeld ?_
        simp only [Act.put, List.getElem_toArray, List.getElem_cons_zero, List.getElem_cons_succ, List.setIfInBounds_toArray, List.set_cons_zero, List.set_cons_succ]
        refine wpAnyH_take (i := 3) (oi := _) (v := _) rfl (by kernel_rfl) (by kernel_rfl) (by kernel_rfl) (fun _ _ _ h => h) (Or.inl ⟨by rfl, by (intro w hSw; (try dsimp only at hSw); go_simp; try with_reducible rfl)⟩) hHeld ?_
        simp only [Act.put, List.getElem_toArray, List.getElem_cons_zero, List.getElem_cons_succ, List.setIfInBounds_toArray, List.set_cons_zero, List.set_cons_succ]
        refine wpAnyH_take (i := 4) (oi := _) (v := _) rfl (by kernel_rfl) (by kernel_rfl) (by kernel_rfl) (fun _ _ _ h => h) (Or.inl ⟨by rfl, by (intro w hSw; (try dsimp only at hSw); go_simp; try with_reducible rfl)⟩) hHeld ?_
        simp only [Act.put, List.getElem_toArray, List.getElem_cons_zero, List.getElem_cons_succ, List.setIfInBounds_toArray, List.set_cons_zero, List.set_cons_succ]
        refine wpAnyH_take (i := 5) (oi := _) (v := _) rfl (by kernel_rfl) (by kernel_rfl) (by kernel_rfl) (fun _ _ _ h => h) (Or.inl ⟨by rfl, by (intro w hSw; (try dsimp only at hSw); go_simp; try with_reducible rfl)⟩) hHeld ?_
        simp only [Act.put, List.getElem_toArray, List.getElem_cons_zero, List.getElem_cons_succ, List.setIfInBounds_toArray, List.set_cons_zero, List.set_cons_succ]
        refine wpAnyH_take (i := 7) (oi := _) (v := _) rfl (by kernel_rfl) (by kernel_rfl) (by kernel_rfl) (fun _ _ _ h => h) (Or.inl ⟨by rfl, by (intro w hSw; (try dsimp only at hSw); go_simp; try with_reducible rfl)⟩) hHeld ?_
        simp only [Act.put, List.getElem_toArray, List.getElem_cons_zero, List.getElem_cons_succ, List.setIfInBounds_toArray, List.set_cons_zero, List.set_cons_succ]
        refine wpAnyH_take (i := 8) (oi := _) (v := _) rfl (by kernel_rfl) (by kernel_rfl) (by kernel_rfl) (fun _ _ _ h => h) (Or.inl ⟨by rfl, by (intro w hSw; (try dsimp only at hSw); go_simp; try with_reducible rfl)⟩) hHeld ?_
        simp only [Act.put, List.getElem_toArray, List.getElem_cons_zero, List.getElem_cons_succ, List.setIfInBounds_toArray, List.set_cons_zero, List.set_cons_succ]
        refine wpAnyH_take (i := 9) (oi := _) (v := _) rfl (by kernel_rfl) (by kernel_rfl) (by kernel_rfl) (fun _ _ _ h => h) (Or.inl ⟨by rfl, by (intro w hSw; (try dsimp only at hSw); go_simp; try with_reducible rfl)⟩) hHeld ?_
        simp only [Act.put, List.getElem_toArray, List.getElem_cons_zero, List.getElem_cons_succ, List.setIfInBounds_toArray, List.set_cons_zero, List.set_cons_succ]
        refine wpAnyH_take (i := 10) (oi := _) (v := _) rfl (by kernel_rfl) (by kernel_rfl) (by kernel_rfl) (fun _ _ _ h => h) (Or.inl ⟨by rfl, by (intro w hSw; (try dsimp only at hSw); go_simp; try with_reducible rfl)⟩) hHeld ?_
        simp only [Act.put, List.getElem_toArray, List.getElem_cons_zero, List.getElem_cons_succ, List.setIfInBounds_toArray, List.set_cons_zero, List.set_cons_succ]
        refine wpAnyH_take (i := 11) (oi := _) (v := _) rfl (by kernel_rfl) (by kernel_rfl) (by kernel_rfl) (fun _ _ _ h => h) (Or.inl ⟨by rfl, by (intro w hSw; (try dsimp only at hSw); go_simp; try with_reducible rfl)⟩) hHeld ?_
        simp only [Act.put, List.getElem_toArray, List.getElem_cons_zero, List.getElem_cons_succ, List.setIfInBounds_toArray, List.set_cons_zero, List.set_cons_succ]
        refine wpAnyH_ready (rs := [6]) (by kernel_rfl) (by simp) ?_
        refine AllReadyH.cons rfl (fun K hK => ?_) AllReadyH.nil
        go_simp
        refine (itselfW _ _).mono ?_
        rintro e w6 ⟨rfl, hb6⟩
        have SB1 : Aside0 (Below wr.heap.size wr w6) := ⟨Below.trans hHeld.1 (hb6.mono hHeld.1.size)⟩
        clear hb6
        go_simp
        refine hK.out _ _ ?_ (fun hNew => ?_)
        · try dsimp only
          first | exact MK.out _ (Below.drew (Below.refl _ _)) | exact MK.out _ SB1.out | assumption
        clear hK K hHeld
        have hHeld := hNew
        clear hNew
        refine wpAnyH_ready (rs := [12]) (by kernel_rfl) (by simp) ?_
        refine AllReadyH.cons rfl (fun K hK => ?_) AllReadyH.nil
        go_simp
        refine (itselfW _ _).mono ?_
        rintro e w6 ⟨rfl, hb6⟩
        have SB1 : Aside0 (Below wr.heap.size wr w6) := ⟨Below.trans hHeld.1 (hb6.mono hHeld.1.size)⟩
        clear hb6
        go_simp
        refine hK.out _ _ ?_ (fun hNew => ?_)
        · try dsimp only
          first | exact MK.out _ (Below.drew (Below.refl _ _)) | exact MK.out _ SB1.out | assumption
        clear hK K hHeld
        have hHeld := hNew
        clear hNew
        refine wpAnyH_take (i := 13) (oi := _) (v := _) rfl (by kernel_rfl) (by kernel_rfl) (by kernel_rfl) (fun _ _ _ h => h) (Or.inl ⟨by rfl, by (intro w hSw; (try dsimp only at hSw); go_simp; try with_reducible rfl)⟩) hHeld ?_
        simp only [Act.put, List.getElem_toArray, List.getElem_cons_zero, List.getElem_cons_succ, List.setIfInBounds_toArray, List.set_cons_zero, List.set_cons_succ]
        refine wpAnyH_done (by kernel_rfl) ?_ _
        go_wp2_with fail
        go_ret
        exact ⟨by rw [RF.out]; rfl, FIN.out _ hHeld.1⟩
      · have HA2 : Aside0 (∀ j, j + 1 < m + 1 + 1 → Op.bytesLess (l0.getD j ByteArray.empty).toList (l0.getD (j + 1) ByteArray.empty).toList = true) := ⟨fun j hj => by
          by_cases e : j = m
          · subst e
            rw [HX.out.1, HX.out.2]; exact Hb.out.symm
          · exact HA.out j (by omega)⟩
        clear HA hk
        clear hx hy
        go_wp2_with fail
        refine wp_region_held_drew (S := fun w1 => (Below wr.heap.size wr w1 ∧ w1.cell? (ad.add m) = some (.string x) ∧ w1.cell? ⟨ad.block, ad.off + (m + 1), none⟩ = some (.string y))) (by kernel_rfl) ?_ (fun hHeld => ?_)
        · try dsimp only
          first | exact MK.out _ (Below.drew (Below.refl _ _)) | exact MK.out _ SB1.out | assumption
        refine wpAnyH_take (i := 0) (oi := _) (v := _) rfl (by kernel_rfl) (by kernel_rfl) (by kernel_rfl) (fun _ _ _ h => h) (Or.inl ⟨by rfl, by (intro w hSw; (try dsimp only at hSw); go_simp; try with_reducible rfl)⟩) hHeld ?_
        simp only [Act.put, List.getElem_toArray, List.getElem_cons_zero, List.getElem_cons_succ, List.setIfInBounds_toArray, List.set_cons_zero, List.set_cons_succ]
        refine wpAnyH_take (i := 1) (oi := _) (v := _) rfl (by kernel_rfl) (by kernel_rfl) (by kernel_rfl) (fun _ _ _ h => h) (Or.inl ⟨by rfl, by (intro w hSw; (try dsimp only at hSw); go_simp; try with_reducible rfl)⟩) hHeld ?_
        simp only [Act.put, List.getElem_toArray, List.getElem_cons_zero, List.getElem_cons_succ, List.setIfInBounds_toArray, List.set_cons_zero, List.set_cons_succ]
        refine wpAnyH_take (i := 2) (oi := _) (v := _) rfl (by kernel_rfl) (by kernel_rfl) (by kernel_rfl) (fun _ _ _ h => h) (Or.inl ⟨by rfl, by (intro w hSw; (try dsimp only at hSw); go_simp; try with_reducible rfl)⟩) hHeld ?_
        simp only [Act.put, List.getElem_toArray, List.getElem_cons_zero, List.getElem_cons_succ, List.setIfInBounds_toArray, List.set_cons_zero, List.set_cons_succ]
        refine wpAnyH_take (i := 3) (oi := _) (v := _) rfl (by kernel_rfl) (by kernel_rfl) (by kernel_rfl) (fun _ _ _ h => h) (Or.inl ⟨by rfl, by (intro w hSw; (try dsimp only at hSw); go_simp; try with_reducible rfl)⟩) hHeld ?_
        simp only [Act.put, List.getElem_toArray, List.getElem_cons_zero, List.getElem_cons_succ, List.setIfInBounds_toArray, List.set_cons_zero, List.set_cons_succ]
        refine wpAnyH_take (i := 4) (oi := _) (v := _) rfl (by kernel_rfl) (by kernel_rfl) (by kernel_rfl) (fun _ _ _ h => h) (Or.inl ⟨by rfl, by (intro w hSw; (try dsimp only at hSw); go_simp; try with_reducible rfl)⟩) hHeld ?_
        simp only [Act.put, List.getElem_toArray, List.getElem_cons_zero, List.getElem_cons_succ, List.setIfInBounds_toArray, List.set_cons_zero, List.set_cons_succ]
        refine wpAnyH_take (i := 5) (oi := _) (v := _) rfl (by kernel_rfl) (by kernel_rfl) (by kernel_rfl) (fun _ _ _ h => h) (Or.inl ⟨by rfl, by (intro w hSw; (try dsimp only at hSw); go_simp; try with_reducible rfl)⟩) hHeld ?_
        simp only [Act.put, List.getElem_toArray, List.getElem_cons_zero, List.getElem_cons_succ, List.setIfInBounds_toArray, List.set_cons_zero, List.set_cons_succ]
        refine wpAnyH_take (i := 7) (oi := _) (v := _) rfl (by kernel_rfl) (by kernel_rfl) (by kernel_rfl) (fun _ _ _ h => h) (Or.inl ⟨by rfl, by (intro w hSw; (try dsimp only at hSw); go_simp; try with_reducible rfl)⟩) hHeld ?_
        simp only [Act.put, List.getElem_toArray, List.getElem_cons_zero, List.getElem_cons_succ, List.setIfInBounds_toArray, List.set_cons_zero, List.set_cons_succ]
        refine wpAnyH_take (i := 8) (oi := _) (v := _) rfl (by kernel_rfl) (by kernel_rfl) (by kernel_rfl) (fun _ _ _ h => h) (Or.inl ⟨by rfl, by (intro w hSw; (try dsimp only at hSw); go_simp; try with_reducible rfl)⟩) hHeld ?_
        simp only [Act.put, List.getElem_toArray, List.getElem_cons_zero, List.getElem_cons_succ, List.setIfInBounds_toArray, List.set_cons_zero, List.set_cons_succ]
        refine wpAnyH_take (i := 9) (oi := _) (v := _) rfl (by kernel_rfl) (by kernel_rfl) (by kernel_rfl) (fun _ _ _ h => h) (Or.inl ⟨by rfl, by (intro w hSw; (try dsimp only at hSw); go_simp; try with_reducible rfl)⟩) hHeld ?_
        simp only [Act.put, List.getElem_toArray, List.getElem_cons_zero, List.getElem_cons_succ, List.setIfInBounds_toArray, List.set_cons_zero, List.set_cons_succ]
        refine wpAnyH_take (i := 10) (oi := _) (v := _) rfl (by kernel_rfl) (by kernel_rfl) (by kernel_rfl) (fun _ _ _ h => h) (Or.inl ⟨by rfl, by (intro w hSw; (try dsimp only at hSw); go_simp; try with_reducible rfl)⟩) hHeld ?_
        simp only [Act.put, List.getElem_toArray, List.getElem_cons_zero, List.getElem_cons_succ, List.setIfInBounds_toArray, List.set_cons_zero, List.set_cons_succ]
        refine wpAnyH_take (i := 11) (oi := _) (v := _) rfl (by kernel_rfl) (by kernel_rfl) (by kernel_rfl) (fun _ _ _ h => h) (Or.inl ⟨by rfl, by (intro w hSw; (try dsimp only at hSw); go_simp; try with_reducible rfl)⟩) hHeld ?_
        simp only [Act.put, List.getElem_toArray, List.getElem_cons_zero, List.getElem_cons_succ, List.setIfInBounds_toArray, List.set_cons_zero, List.set_cons_succ]
        refine wpAnyH_ready (rs := [6]) (by kernel_rfl) (by simp) ?_
        refine AllReadyH.cons rfl (fun K hK => ?_) AllReadyH.nil
        go_simp
        refine (itselfW _ _).mono ?_
        rintro e w6 ⟨rfl, hb6⟩
        have SB1 : Aside0 (Below wr.heap.size wr w6) := ⟨Below.trans hHeld.1 (hb6.mono hHeld.1.size)⟩
        clear hb6
        go_simp
        refine hK.out _ _ ?_ (fun hNew => ?_)
        · try dsimp only
          first | exact MK.out _ (Below.drew (Below.refl _ _)) | exact MK.out _ SB1.out | assumption
        clear hK K hHeld
        have hHeld := hNew
        clear hNew
        refine wpAnyH_ready (rs := [12]) (by kernel_rfl) (by simp) ?_
        refine AllReadyH.cons rfl (fun K hK => ?_) AllReadyH.nil
        go_simp
        refine (itselfW _ _).mono ?_
        rintro e w6 ⟨rfl, hb6⟩
        have SB1 : Aside0 (Below wr.heap.size wr w6) := ⟨Below.trans hHeld.1 (hb6.mono hHeld.1.size)⟩
        clear hb6
        go_simp
        refine hK.out _ _ ?_ (fun hNew => ?_)
        · try dsimp only
          first | exact MK.out _ (Below.drew (Below.refl _ _)) | exact MK.out _ SB1.out | assumption
        clear hK K hHeld
        have hHeld := hNew
        clear hNew
        refine wpAnyH_take (i := 13) (oi := _) (v := _) rfl (by kernel_rfl) (by kernel_rfl) (by kernel_rfl) (fun _ _ _ h => h) (Or.inl ⟨by rfl, by (intro w hSw; (try dsimp only at hSw); go_simp; try with_reducible rfl)⟩) hHeld ?_
        simp only [Act.put, List.getElem_toArray, List.getElem_cons_zero, List.getElem_cons_succ, List.setIfInBounds_toArray, List.set_cons_zero, List.set_cons_succ]
        refine wpAnyH_done (by kernel_rfl) ?_ _
        have FB := Aside0.mk (FIN.out _ hHeld.1)
        clear hHeld
        go_wp2_with fail
        exact ⟨⟨m + 1 + 1, by omega, by omega, by first | rfl | (simp; done), HA2, FB⟩, HM.out⟩
    · have d1 : decide (k < l0.length) = false := decide_eq_false h
      have d1' : decide ((k : Int) < (l0.length : Int)) = false := decide_eq_false (by omega)
      go_wp2_with fail
      go_ret
      exact ⟨by rw [rises_true (fun j hj => HA.out j (by (try simp at hj); omega))]; rfl, HB.out⟩


def node_Node_leaf.f (a0_0 : Bool) (l0_1 : List S48) (l0_2 : List ByteArray) (l0_3 : List Int) : Option (Bool) := some (leafV a0_0 l0_1 l0_2 l0_3)
set_option maxHeartbeats 4000000 in
set_option maxRecDepth 100000 in
theorem node_Node_leaf.calls (a0_0 : Bool) (A0_1 : Option Addr) (c0_1 : Nat) (l0_1 : List S48) (A0_2 : Option Addr) (c0_2 : Nat) (l0_2 : List ByteArray) (A0_3 : Option Addr) (c0_3 : Nat) (l0_3 : List Int) (r : Bool) (w : World) (hr0_1 : Kd.C k48 w A0_1 l0_1.length l0_1) (hc0_1 : l0_1.length ≤ c0_1) (hr0_2 : Kd.C Kd.string w A0_2 l0_2.length l0_2) (hc0_2 : l0_2.length ≤ c0_2) (hr0_3 : Kd.C (Kd.int .i64) w A0_3 l0_3.length l0_3) (hc0_3 : l0_3.length ≤ c0_3) (h : node_Node_leaf.f a0_0 l0_1 l0_2 l0_3 = some r) :
    Calls Try.prog 39 #[.agg #[.bool a0_0, .slice A0_1 l0_1.length c0_1, .slice A0_2 l0_2.length c0_2, .slice A0_3 l0_3.length c0_3]] w fun e w' => e = .returned (.bool r) ∧ Below w.heap.size w w' := by
  obtain rfl := Option.some.inj h
  have L2 : l0_2.length ≤ 9223372036854775807 := hr0_2.2.1
  have L3 : l0_3.length ≤ 9223372036854775807 := hr0_3.2.1
  have R1 := Aside0.mk hr0_1
  clear h hr0_1 hc0_1 hr0_2 hc0_2 hr0_3 hc0_3
  unfold leafV
  cases a0_0
  · 
    have BX := Aside0.mk (heap_alloc_new w (.cells #[.bool false, .slice A0_1 l0_1.length c0_1, .slice A0_2 l0_2.length c0_2, .slice A0_3 l0_3.length c0_3] 31))
    have HB := Aside0.mk (below_alloc (Below.refl w.heap.size w) (.cells #[.bool false, .slice A0_1 l0_1.length c0_1, .slice A0_2 l0_2.length c0_2, .slice A0_3 l0_3.length c0_3] 31))
    have b0 : (w.alloc (.cells #[.bool false, .slice A0_1 l0_1.length c0_1, .slice A0_2 l0_2.length c0_2, .slice A0_3 l0_3.length c0_3] 31)).cell? ⟨w.heap.size, 0, none⟩ = some (.bool false) := blk_cell BX.out 0
    have b1 : (w.alloc (.cells #[.bool false, .slice A0_1 l0_1.length c0_1, .slice A0_2 l0_2.length c0_2, .slice A0_3 l0_3.length c0_3] 31)).cell? ⟨w.heap.size, 1, none⟩ = some (.slice A0_1 l0_1.length c0_1) := blk_cell BX.out 1
    have b2 : (w.alloc (.cells #[.bool false, .slice A0_1 l0_1.length c0_1, .slice A0_2 l0_2.length c0_2, .slice A0_3 l0_3.length c0_3] 31)).cell? ⟨w.heap.size, 2, none⟩ = some (.slice A0_2 l0_2.length c0_2) := blk_cell BX.out 2
    have b3 : (w.alloc (.cells #[.bool false, .slice A0_1 l0_1.length c0_1, .slice A0_2 l0_2.length c0_2, .slice A0_3 l0_3.length c0_3] 31)).cell? ⟨w.heap.size, 3, none⟩ = some (.slice A0_3 l0_3.length c0_3) := blk_cell BX.out 3
    go_enter Try.func39, Try.ntmps39
    go_wp2_with fail
    go_ret
    exact ⟨by simp, HB.out⟩
  · by_cases h0 : l0_2.length + l0_3.length = 0
    · by_cases h1 : l0_1.length ≤ 255
      · have g0 : (wrap64 ((l0_2.length : Int) + (l0_3.length : Int)) == 0) = true := beq_iff_eq.2 (by unfold wrap64; omega)
        have g1 : decide ((l0_1.length : Int) ≤ 255) = true := decide_eq_true (by omega)
        have e2 : decide (l0_2.length + l0_3.length = 0) = true := decide_eq_true h0
        have e3 : decide (l0_1.length ≤ 255) = true := decide_eq_true h1
        rw [e2, e3]
        have CN := Aside0.mk (fun W hw => leafP_contains A0_1 c0_1 l0_1 W (Kd.C_below R1.out hw) (by omega))
        have RN := Aside0.mk (fun W hw => risingP A0_1 c0_1 l0_1 W (Kd.C_below R1.out hw) (by omega))
        have BX := Aside0.mk (heap_alloc_new w (.cells #[.bool true, .slice A0_1 l0_1.length c0_1, .slice A0_2 l0_2.length c0_2, .slice A0_3 l0_3.length c0_3] 31))
        have HB := Aside0.mk (below_alloc (Below.refl w.heap.size w) (.cells #[.bool true, .slice A0_1 l0_1.length c0_1, .slice A0_2 l0_2.length c0_2, .slice A0_3 l0_3.length c0_3] 31))
        have b0 : (w.alloc (.cells #[.bool true, .slice A0_1 l0_1.length c0_1, .slice A0_2 l0_2.length c0_2, .slice A0_3 l0_3.length c0_3] 31)).cell? ⟨w.heap.size, 0, none⟩ = some (.bool true) := blk_cell BX.out 0
        have b1 : (w.alloc (.cells #[.bool true, .slice A0_1 l0_1.length c0_1, .slice A0_2 l0_2.length c0_2, .slice A0_3 l0_3.length c0_3] 31)).cell? ⟨w.heap.size, 1, none⟩ = some (.slice A0_1 l0_1.length c0_1) := blk_cell BX.out 1
        have b2 : (w.alloc (.cells #[.bool true, .slice A0_1 l0_1.length c0_1, .slice A0_2 l0_2.length c0_2, .slice A0_3 l0_3.length c0_3] 31)).cell? ⟨w.heap.size, 2, none⟩ = some (.slice A0_2 l0_2.length c0_2) := blk_cell BX.out 2
        have b3 : (w.alloc (.cells #[.bool true, .slice A0_1 l0_1.length c0_1, .slice A0_2 l0_2.length c0_2, .slice A0_3 l0_3.length c0_3] 31)).cell? ⟨w.heap.size, 3, none⟩ = some (.slice A0_3 l0_3.length c0_3) := blk_cell BX.out 3
        clear h0 h1 e2 e3
        obtain ⟨b, hb⟩ : ∃ b, b = l0_1.any badP := ⟨_, rfl⟩
        rw [← hb] at CN ⊢
        clear hb
        cases b
        · go_enter Try.func39, Try.ntmps39
          go_wp2_with fail
          refine (CN.out _ HB.out).mono ?_
          rintro e w1 ⟨rfl, hB⟩
          have B1 := Aside0.mk (HB.out.trans (hB.mono HB.out.size))
          have b1' : w1.cell? ⟨w.heap.size, 1, none⟩ = some (.slice A0_1 l0_1.length c0_1) := nd_cell hB b1
          clear b0 b1 b2 b3 hB
          go_wp2_with fail
          refine (RN.out _ B1.out).mono ?_
          rintro e w2 ⟨rfl, hB⟩
          have B2 := Aside0.mk (B1.out.trans (hB.mono B1.out.size))
          clear hB
          go_wp2_with fail
          go_ret
          exact ⟨by simp, B2.out⟩
        · go_enter Try.func39, Try.ntmps39
          go_wp2_with fail
          refine (CN.out _ HB.out).mono ?_
          rintro e w1 ⟨rfl, hB⟩
          have B1 := Aside0.mk (HB.out.trans (hB.mono HB.out.size))
          clear hB
          go_wp2_with fail
          go_ret
          exact ⟨by simp, B1.out⟩
      · have g0 : (wrap64 ((l0_2.length : Int) + (l0_3.length : Int)) == 0) = true := beq_iff_eq.2 (by unfold wrap64; omega)
        have g1 : decide ((l0_1.length : Int) ≤ 255) = false := decide_eq_false (by omega)
        have e2 : decide (l0_2.length + l0_3.length = 0) = true := decide_eq_true h0
        have e3 : decide (l0_1.length ≤ 255) = false := decide_eq_false h1
        rw [e2, e3]
        have BX := Aside0.mk (heap_alloc_new w (.cells #[.bool true, .slice A0_1 l0_1.length c0_1, .slice A0_2 l0_2.length c0_2, .slice A0_3 l0_3.length c0_3] 31))
        have HB := Aside0.mk (below_alloc (Below.refl w.heap.size w) (.cells #[.bool true, .slice A0_1 l0_1.length c0_1, .slice A0_2 l0_2.length c0_2, .slice A0_3 l0_3.length c0_3] 31))
        have b0 : (w.alloc (.cells #[.bool true, .slice A0_1 l0_1.length c0_1, .slice A0_2 l0_2.length c0_2, .slice A0_3 l0_3.length c0_3] 31)).cell? ⟨w.heap.size, 0, none⟩ = some (.bool true) := blk_cell BX.out 0
        have b1 : (w.alloc (.cells #[.bool true, .slice A0_1 l0_1.length c0_1, .slice A0_2 l0_2.length c0_2, .slice A0_3 l0_3.length c0_3] 31)).cell? ⟨w.heap.size, 1, none⟩ = some (.slice A0_1 l0_1.length c0_1) := blk_cell BX.out 1
        have b2 : (w.alloc (.cells #[.bool true, .slice A0_1 l0_1.length c0_1, .slice A0_2 l0_2.length c0_2, .slice A0_3 l0_3.length c0_3] 31)).cell? ⟨w.heap.size, 2, none⟩ = some (.slice A0_2 l0_2.length c0_2) := blk_cell BX.out 2
        have b3 : (w.alloc (.cells #[.bool true, .slice A0_1 l0_1.length c0_1, .slice A0_2 l0_2.length c0_2, .slice A0_3 l0_3.length c0_3] 31)).cell? ⟨w.heap.size, 3, none⟩ = some (.slice A0_3 l0_3.length c0_3) := blk_cell BX.out 3
        clear h0 h1
        go_enter Try.func39, Try.ntmps39
        go_wp2_with fail
        go_ret
        exact ⟨by simp, HB.out⟩
    · have g0 : (wrap64 ((l0_2.length : Int) + (l0_3.length : Int)) == 0) = false := beq_eq_false_iff_ne.2 (by
        have := L2; have := L3; unfold wrap64; omega)
      have e2 : decide (l0_2.length + l0_3.length = 0) = false := decide_eq_false h0
      rw [e2]
      have BX := Aside0.mk (heap_alloc_new w (.cells #[.bool true, .slice A0_1 l0_1.length c0_1, .slice A0_2 l0_2.length c0_2, .slice A0_3 l0_3.length c0_3] 31))
      have HB := Aside0.mk (below_alloc (Below.refl w.heap.size w) (.cells #[.bool true, .slice A0_1 l0_1.length c0_1, .slice A0_2 l0_2.length c0_2, .slice A0_3 l0_3.length c0_3] 31))
      have b0 : (w.alloc (.cells #[.bool true, .slice A0_1 l0_1.length c0_1, .slice A0_2 l0_2.length c0_2, .slice A0_3 l0_3.length c0_3] 31)).cell? ⟨w.heap.size, 0, none⟩ = some (.bool true) := blk_cell BX.out 0
      have b1 : (w.alloc (.cells #[.bool true, .slice A0_1 l0_1.length c0_1, .slice A0_2 l0_2.length c0_2, .slice A0_3 l0_3.length c0_3] 31)).cell? ⟨w.heap.size, 1, none⟩ = some (.slice A0_1 l0_1.length c0_1) := blk_cell BX.out 1
      have b2 : (w.alloc (.cells #[.bool true, .slice A0_1 l0_1.length c0_1, .slice A0_2 l0_2.length c0_2, .slice A0_3 l0_3.length c0_3] 31)).cell? ⟨w.heap.size, 2, none⟩ = some (.slice A0_2 l0_2.length c0_2) := blk_cell BX.out 2
      have b3 : (w.alloc (.cells #[.bool true, .slice A0_1 l0_1.length c0_1, .slice A0_2 l0_2.length c0_2, .slice A0_3 l0_3.length c0_3] 31)).cell? ⟨w.heap.size, 3, none⟩ = some (.slice A0_3 l0_3.length c0_3) := blk_cell BX.out 3
      clear h0
      go_enter Try.func39, Try.ntmps39
      go_wp2_with fail
      go_ret
      exact ⟨by simp, HB.out⟩



end Go.Proofs.Ytjjfeoigjhbbpaa.PA
