import Derived.Test.YtgakjpnfbgmjjaaL10
import Derived.RangeFuncBox
import Derived.RangeFuncLeaves
import Derived.RangeFuncNested
import Derived.RangeFuncBound
import Derived.RangeFuncCalls
import Derived.Shelf.Abstract
import Derived.WalkKit
import Derived.OwnWalkIn
import Derived.TacticsInMore
import Derived.LoopNIn
import Derived.LoopIn
import Derived.Deep.Slices
import Derived.SizedLaws
import Derived.IntWalk
import Derived.ArgAppend
namespace Go.Proofs.Ytgakjpnfbgmjjaa.PA
open Go.RowKit Go.Proofs.YtgakjpnfbgmjjaaW.PrintWords Go.Proofs.YtgakjpnfbgmjjaaW.PrintLast Go.Proofs.YtgakjpnfbgmjjaaW.PrintMore
set_option linter.unusedVariables false
set_option linter.unusedSimpArgs false
/-! ### FlashArms -/
theorem FSt.lasts_left (l : List (Int × List Int)) : ∀ S : FSt, (S.lasts l).left = S.left := by
  induction l with
  | nil => intro S; rfl
  | cons p l ih => intro S; exact (ih (S.last p)).trans rfl
structure FSt.Arms (S : FSt) (k i : Nat) : Prop where
  off : S.off = decide (k < i)
  armed : S.armed = true
  left : S.left = ((k - i : Nat) : Int)
  n : S.secs.length = 4
  w : S.waits.length ≤ i
theorem FSt.Arms.stops {S : FSt} {k i : Nat} (h : S.Arms k i) : S.stops = decide (k ≤ i) := by
  unfold FSt.stops
  rw [h.off, h.armed, h.left]
  by_cases h1 : k ≤ i
  · rw [decide_eq_true h1]
    have : ((((k - i : Nat) : Int)) == 0) = true := by simp; omega
    rw [this]
    simp
  · rw [decide_eq_false h1, decide_eq_false (by omega)]
    have : ((((k - i : Nat) : Int)) == 0) = false := by simp; omega
    rw [this]
    rfl
theorem FSt.Arms.spent {S : FSt} {k i : Nat} (h : S.Arms k i) (hk : k < 40) : S.spent.Arms k (i + 1) := by
  refine ⟨?_, h.armed, ?_, h.n, Nat.le_succ_of_le h.w⟩
  · show S.stops = _
    rw [h.stops]
    congr 1
    simp
    omega
  · show (if S.stops then S.left else if S.armed then wrap64 (S.left - 1) else S.left) = _
    rw [h.stops, h.armed, h.left]
    by_cases h1 : k ≤ i
    · rw [decide_eq_true h1]
      simp
      omega
    · rw [decide_eq_false h1]
      simp only [Bool.false_eq_true, if_false, if_true]
      unfold wrap64
      omega
theorem FSt.Arms.flush {S : FSt} {k i : Nat} (h : S.Arms k i) (hk : k < 40) : S.flush.1.Arms k (i + 1) ∧ S.flush.2 = if k ≤ i then 4 else 0 := by
  have hs := h.spent hk
  unfold FSt.flush
  rw [h.stops]
  by_cases h1 : k ≤ i
  · rw [decide_eq_true h1, if_pos rfl, if_pos h1]
    exact ⟨hs, rfl⟩
  · rw [decide_eq_false h1, if_neg (by decide), if_neg h1]
    exact ⟨⟨(FSt.lasts_off _ _).trans hs.off, (FSt.lasts_armed _ _).trans hs.armed, (FSt.lasts_left _ _).trans hs.left, (FSt.lasts_len _ _).trans hs.n, Nat.zero_le _⟩, rfl⟩
theorem FSt.Arms.write {S : FSt} {k i : Nat} (h : S.Arms k i) (hk : k < 40) (p : Int) (hp : 0 ≤ p ∧ p < 4) (b : List Int) (hb : b.length = 256) : (S.write p b).1.Arms k (i + 1) ∧ (S.write p b).2 = if k ≤ i then 4 else 0 := by
  have hs := h.spent hk
  unfold FSt.write
  rw [if_pos (by rw [hb, FSt.isIn_iff.2 ⟨hp.1, by rw [h.n]; exact hp.2⟩]; rfl), h.stops]
  by_cases h1 : k ≤ i
  · rw [decide_eq_true h1, if_pos rfl, if_pos h1]
    exact ⟨hs, rfl⟩
  · rw [decide_eq_false h1, if_neg (by decide), if_neg h1]
    exact ⟨⟨hs.off, hs.armed, hs.left, hs.n, by simp only [List.length_append, List.length_singleton]; have := h.w; omega⟩, rfl⟩
theorem FSt.Arms.read {S : FSt} {k i : Nat} (h : S.Arms k i) : ∃ r, S.read 0 = r ∧ (r.2 == 4) = decide (k < i) := by
  refine ⟨_, rfl, ?_⟩
  unfold FSt.read
  rw [if_pos (FSt.isIn_iff.2 ⟨by decide, by rw [h.n]; decide⟩), h.off]
  by_cases h1 : k < i
  · rw [decide_eq_true h1, if_pos rfl]
    rfl
  · rw [decide_eq_false h1, if_neg (by decide)]
    split
    · rfl
    · split
      · rfl
      · rfl
theorem FSt.crash_on {S : FSt} {n : Nat} (h : S.secs.length = n) (ks : List Int) : (S.crash ks).On n := ⟨rfl, rfl, (FSt.picks_len _ _ _).trans h⟩
theorem mod40 (n : Int) (m : Nat) (hm : 0 < m) (hm2 : m ≤ 1000) : ∃ k : Nat, k < m ∧ wrap64 ((IntKind.u64.wrap n).tmod (m : Int)) = (k : Int) := by
  have e : IntKind.u64.wrap n = n % 18446744073709551616 := by simp [IntKind.wrap, IntKind.signed, IntKind.bits]
  have h0 : 0 ≤ n % 18446744073709551616 := by omega
  rw [e, Int.tmod_eq_emod_of_nonneg h0]
  generalize n % 18446744073709551616 = q at h0
  have h1 := Int.emod_nonneg q (show (m : Int) ≠ 0 by omega)
  have h2 := Int.emod_lt_of_pos q (show (0 : Int) < m by omega)
  refine ⟨(q % (m : Int)).toNat, by omega, ?_⟩
  unfold wrap64
  omega
set_option maxHeartbeats 4000000 in
set_option maxRecDepth 100000 in
theorem cisternlaw01_FlashArms.walk (n : Int) (A1 : Option Addr) (c1 : Nat) (l1 : List Bool) (w : World) (w0 : (Lit.int .i64 n).wf = true)
    (hr1 : Kd.C Kd.bool w A1 l1.length l1) (hc1 : l1.length ≤ c1) (y1 : l1.length * 1 ≤ 140737488351232) (w1 : ∀ v ∈ l1, True) :
    Calls Try.prog 5 #[.int .i64 n, .slice A1 l1.length c1] w fun e w' => e = .returned (.bool true) ∧ Below w.heap.size w w' := by
  have R1 := Aside0.mk hr1
  clear w0 hr1 hc1 w1
  obtain ⟨k, hk, hkk0⟩ := mod40 n 40 (by decide) (by decide)
  have hkk : wrap64 ((IntKind.u64.wrap n).tmod 40) = (k : Int) := hkk0
  clear hkk0
  go_enter Try.func5, Try.ntmps5
  go_wp2_with fail
  refine (known_calls w).mono ?_
  rintro e wa ⟨rfl, hB⟩
  have BA := Aside0.mk hB
  clear hB
  go_wp2_with fail
  refine (devB_new 4 (by decide) (by decide) wa 4 rfl).mono ?_
  rintro e wb ⟨g, rfl, hD, hB⟩
  have DB := Aside0.mk hD
  have BB := Aside0.mk (BA.out.trans (hB.mono BA.out.size))
  have BS := Aside0.mk BA.out.size
  clear hD hB
  go_wp2_with fail
  refine (devB_arm DB.out (k : Int)).mono ?_
  rintro e wc ⟨rfl, hD, hB⟩
  have DC := Aside0.mk hD
  have BC := Aside0.mk (BB.out.trans (hB.mono BS.out))
  clear hD hB DB BB
  go_wp2_with fail
  go_loopw [7] (fun v w' => ∃ i : Nat, i ≤ l1.length ∧ i ≤ 60 ∧ v = .int .i64 (i : Int) ∧ ∃ S, Aside0 (S.Arms k i) ∧ Aside0 (DevB w' wa.heap.size g S) ∧ Aside0 (Below w.heap.size w w')) (fun v _ => ((60 : Int) - intOf v).toNat)
  case atStart => exact ⟨0, Nat.zero_le _, Nat.zero_le _, rfl, _, ⟨⟨by simp [FSt.arm, FSt.new], by simp [FSt.arm], by simp [FSt.arm], by simp [FSt.arm, FSt.new], by simp [FSt.arm, FSt.new]⟩⟩, DC, BC⟩
  case round =>
    obtain ⟨i, hi, hi60, rfl, S, SO, YD, YB⟩ := hrel
    clear DC BC
    by_cases hlt : i < l1.length
    · have d1 : decide (i < l1.length) = true := decide_eq_true hlt
      by_cases hlt2 : i < 60
      · have d2 : decide ((i : Int) < 60) = true := decide_eq_true (by omega)
        have p1 : (0 : Int) ≤ (i : Int) := Int.natCast_nonneg _
        have p2 : (i : Int) < (l1.length : Int) := Int.ofNat_lt.2 hlt
        obtain ⟨ad1, hA1, hc1⟩ := Kd.at_bool (Kd.C_below R1.out YB.out) (i : Int) p1 p2
        rw [Int.toNat_natCast] at hc1
        obtain ⟨fl, hfl⟩ : ∃ fl, fl = rdOf false l1 (i : Int) := ⟨_, rfl⟩
        rw [← hfl] at hc1
        subst hA1
        clear hfl
        have HM : Aside0 (((60 : Int) - intOf (.int .i64 ((i + 1 : Nat) : Int))).toNat < ((60 : Int) - intOf (.int .i64 (i : Int))).toNat) := ⟨by simp [intOf]; omega⟩
        have HW := Aside0.mk (wrap_suc i (by omega))
        cases fl with
        | true =>
          have SN := Aside0.mk (SO.out.flush hk)
          go_wp2_with fail
          refine (devB_flush YD.out).mono ?_
          rintro e wd ⟨rfl, hD, hB⟩
          have YD2 := Aside0.mk hD
          have YB2 := Aside0.mk (YB.out.trans (hB.mono BS.out))
          clear hD hB
          rw [SN.out.2]
          by_cases hki : k ≤ i
          · have d5 : decide (k ≤ i) = true := decide_eq_true hki
            rw [if_pos hki]
            clear hki
            go_wp2_with fail
            exact ⟨⟨i + 1, hlt, hlt2, rfl, _, ⟨SN.out.1⟩, YD2, YB2⟩, HM.out⟩
          · have d5 : decide (k ≤ i) = false := decide_eq_false hki
            rw [if_neg hki]
            clear hki
            go_wp2_with fail
            exact ⟨⟨i + 1, hlt, hlt2, rfl, _, ⟨SN.out.1⟩, YD2, YB2⟩, HM.out⟩
        | false =>
          obtain ⟨pp, hpp⟩ : ∃ pp, (i : Int).tmod 4 = pp := ⟨_, rfl⟩
          have PP : Aside0 (0 ≤ pp ∧ pp < 4) := ⟨by rw [← hpp, Int.tmod_eq_emod_of_nonneg p1]; omega⟩
          go_wp2_with fail
          refine (bytes_calls (i : Int) 0 _).mono ?_
          rintro e w2 ⟨A2, c2, rfl, hb, hB⟩
          rw [bytesN_zero] at hb ⊢
          have X2 := Aside0.mk (hb (by decide))
          have D2 := Aside0.mk (YD.out.below hB)
          have B2 := Aside0.mk (YB.out.trans (hB.mono YB.out.size))
          clear hb hB
          have SN := Aside0.mk (SO.out.write hk pp PP.out (bytesL (i : Int) 0) (bytesL_len _))
          go_wp2_with fail
          refine (devB_write D2.out (by have := SO.out.w; omega) pp A2 256 c2 (bytesL (i : Int) 0) (bytesL_len _).symm (fun _ => X2.out.move (fun _ _ _ _ => rfl) (fun _ _ _ => trivial))).mono ?_
          rintro e wd ⟨rfl, hD, hB⟩
          have YD2 := Aside0.mk hD
          have YB2 := Aside0.mk (B2.out.trans (hB.mono BS.out))
          clear hD hB
          rw [SN.out.2]
          by_cases hki : k ≤ i
          · have d5 : decide (k ≤ i) = true := decide_eq_true hki
            rw [if_pos hki]
            clear hki
            go_wp2_with fail
            exact ⟨⟨i + 1, hlt, hlt2, rfl, _, ⟨SN.out.1⟩, YD2, YB2⟩, HM.out⟩
          · have d5 : decide (k ≤ i) = false := decide_eq_false hki
            rw [if_neg hki]
            clear hki
            go_wp2_with fail
            exact ⟨⟨i + 1, hlt, hlt2, rfl, _, ⟨SN.out.1⟩, YD2, YB2⟩, HM.out⟩
      · have d2 : decide ((i : Int) < 60) = false := decide_eq_false (by omega)
        have ⟨r0, hr0, hr1⟩ := SO.out.read
        have RD := Aside0.mk hr0
        have R4 : Aside0 ((r0.2 == 4) = decide (k < i)) := ⟨hr1⟩
        clear hr0 hr1
        go_wp2_with fail
        refine (devB_read YD.out 0 _ RD.out).mono ?_
        rintro e wd ⟨A5, c5, rfl, -, hD, hB⟩
        have D5 := Aside0.mk hD
        have B5 := Aside0.mk (YB.out.trans (hB.mono YB.out.size))
        clear hD hB
        have r4 := R4.out
        have e60 : i = 60 := by omega
        have a1 : decide (k < i) = true := decide_eq_true (by omega)
        have a2 : decide ((k : Int) < 60) = true := decide_eq_true (by omega)
        have a3 : decide (k < l1.length) = true := decide_eq_true (by omega)
        rw [a1] at r4
        clear e60
        go_wp2_with fail
        refine (devB_crash D5.out _ [] (IntBlk.nil _)).mono ?_
        rintro e we ⟨rfl, hD, hB⟩
        have D6 := Aside0.mk hD
        have B6 := Aside0.mk (B5.out.trans (hB.mono BS.out))
        have ON := Aside0.mk (FSt.crash_on SO.out.n ([] : List Int))
        clear hD hB
        go_wp2_with fail
        refine (bytes_calls 5 0 _).mono ?_
        rintro e wf ⟨A2, c2, rfl, hb, hB⟩
        rw [bytesN_zero] at hb ⊢
        have X2 := Aside0.mk (hb (by decide))
        have D7 := Aside0.mk (D6.out.below hB)
        have B7 := Aside0.mk (B6.out.trans (hB.mono B6.out.size))
        clear hb hB
        have IN : (S.crash []).isIn 0 = true := by rw [ON.out.isIn]; rfl
        have WR : Aside0 (((S.crash []).write 0 (bytesL 5 0)).2 = 0) := ⟨by rw [ON.out.write IN (bytesL_len 5)]⟩
        have ON2 := Aside0.mk (ON.out.writeOn IN (bytesL_len 5))
        clear IN
        go_wp2_with fail
        refine (devB_write D7.out (by simp [FSt.crash]) 0 A2 256 c2 (bytesL 5 0) (bytesL_len 5).symm (fun _ => X2.out.move (fun _ _ _ _ => rfl) (fun _ _ _ => trivial))).mono ?_
        rintro e wg ⟨rfl, hD, hB⟩
        rw [WR.out]
        have D8 := Aside0.mk hD
        have B8 := Aside0.mk (B7.out.trans (hB.mono BS.out))
        clear hD hB
        go_wp2_with fail
        refine (devB_flush D8.out).mono ?_
        rintro e wh ⟨rfl, hD, hB⟩
        have E9 := Aside0.mk (FSt.flush_on ON2.out.stops)
        rw [E9.out]
        have B9 := Aside0.mk (B8.out.trans (hB.mono BS.out))
        clear hD hB
        go_wp2_with fail
        go_ret
        exact ⟨rfl, B9.out⟩
    · have d1 : decide (i < l1.length) = false := decide_eq_false hlt
      have ⟨r0, hr0, hr1⟩ := SO.out.read
      have RD := Aside0.mk hr0
      have R4 : Aside0 ((r0.2 == 4) = decide (k < i)) := ⟨hr1⟩
      clear hr0 hr1
      go_wp2_with fail
      refine (devB_read YD.out 0 _ RD.out).mono ?_
      rintro e wd ⟨A5, c5, rfl, -, hD, hB⟩
      have D5 := Aside0.mk hD
      have B5 := Aside0.mk (YB.out.trans (hB.mono YB.out.size))
      clear hD hB
      have r4 := R4.out
      have e60 : i = l1.length := by omega
      have hq : ¬ (60 : Int) < (l1.length : Int) := by omega
      obtain ⟨z, hz⟩ : ∃ z, z = decide (k < i) := ⟨_, rfl⟩
      have a3 : decide (k < l1.length) = z := by rw [hz, e60]
      rw [← hz] at r4
      clear e60 hz
      cases z
      all_goals
        go_wp2_with fail
        refine (devB_crash D5.out _ [] (IntBlk.nil _)).mono ?_
        rintro e we ⟨rfl, hD, hB⟩
        have D6 := Aside0.mk hD
        have B6 := Aside0.mk (B5.out.trans (hB.mono BS.out))
        have ON := Aside0.mk (FSt.crash_on SO.out.n ([] : List Int))
        clear hD hB
        go_wp2_with fail
        refine (bytes_calls 5 0 _).mono ?_
        rintro e wf ⟨A2, c2, rfl, hb, hB⟩
        rw [bytesN_zero] at hb ⊢
        have X2 := Aside0.mk (hb (by decide))
        have D7 := Aside0.mk (D6.out.below hB)
        have B7 := Aside0.mk (B6.out.trans (hB.mono B6.out.size))
        clear hb hB
        have IN : (S.crash []).isIn 0 = true := by rw [ON.out.isIn]; rfl
        have WR : Aside0 (((S.crash []).write 0 (bytesL 5 0)).2 = 0) := ⟨by rw [ON.out.write IN (bytesL_len 5)]⟩
        have ON2 := Aside0.mk (ON.out.writeOn IN (bytesL_len 5))
        clear IN
        go_wp2_with fail
        refine (devB_write D7.out (by simp [FSt.crash]) 0 A2 256 c2 (bytesL 5 0) (bytesL_len 5).symm (fun _ => X2.out.move (fun _ _ _ _ => rfl) (fun _ _ _ => trivial))).mono ?_
        rintro e wg ⟨rfl, hD, hB⟩
        rw [WR.out]
        have D8 := Aside0.mk hD
        have B8 := Aside0.mk (B7.out.trans (hB.mono BS.out))
        clear hD hB
        go_wp2_with fail
        refine (devB_flush D8.out).mono ?_
        rintro e wh ⟨rfl, hD, hB⟩
        have E9 := Aside0.mk (FSt.flush_on ON2.out.stops)
        rw [E9.out]
        have B9 := Aside0.mk (B8.out.trans (hB.mono BS.out))
        clear hD hB
        go_wp2_with fail
        go_ret
        exact ⟨rfl, B9.out⟩
end Go.Proofs.Ytgakjpnfbgmjjaa.PA
