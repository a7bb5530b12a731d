import Derived.Test.YtenjcgkabmlpkaaDoorLa
namespace Go.Proofs.YtenjcgkabmlpkaaDoor.PA
open Go.RowKit Go.Proofs.YtenjcgkabmlpkaaDoorW.PrintWords Go.Proofs.YtenjcgkabmlpkaaDoorW.PrintLast Go.Proofs.YtenjcgkabmlpkaaDoorW.PrintMore
set_option linter.unusedVariables false
set_option linter.unusedSimpArgs false
theorem one_dn (n : Nat) : ((n : Int) + 2 - intOf (Value.int .i64 ((n : Int) + 1))).toNat < ((n : Int) + 2 - intOf (Value.int .i64 ((n : Int) + ((0 : Nat) : Int)))).toNat := by
  simp only [intOf]
  omega
theorem int_two (n : Nat) : Value.int .i64 ((n : Int) + 1 + 1) = Value.int .i64 ((n : Int) + ((2 : Nat) : Int)) := by
  have e : (n : Int) + 1 + 1 = (n : Int) + ((2 : Nat) : Int) := by omega
  rw [e]
theorem two_dn (n : Nat) : ((n : Int) + 2 - intOf (Value.int .i64 ((n : Int) + 1 + 1))).toNat < ((n : Int) + 2 - intOf (Value.int .i64 ((n : Int) + ((1 : Nat) : Int)))).toNat := by
  simp only [intOf]
  omega
theorem msr_dn (n i : Nat) (h : i < n) : ((n : Int) - ((i + 1 : Nat) : Int)).toNat < ((n : Int) - (i : Int)).toNat := by omega
theorem wrap_suc (i : Nat) (h : i ≤ 10) : wrap64 ((i : Int) + 1) = ((i + 1 : Nat) : Int) := by unfold wrap64; omega
set_option maxHeartbeats 1000000 in
set_option maxRecDepth 100000 in
theorem cisternlaw13_RouteApart.walk (a0 : ByteArray) (A1 : Option Addr) (c1 : Nat) (l1 : List ByteArray) (w : World) (w0 : a0.size ≤ 140737488351232) (hr1 : Kd.C Kd.string w A1 l1.length l1) (hc1 : l1.length ≤ c1) (y1 : l1.length * 16 ≤ 140737488351232) (w1 : ∀ v ∈ l1, v.size ≤ maxLen) :
    Calls Tryd.prog 6 #[.string a0, .slice A1 l1.length c1] w fun e w' => e = .returned (.bool true) ∧ Below w.heap.size w w' := by
  have R1 := Aside0.mk hr1
  have C1 := Aside0.mk hc1
  have Y1 := Aside0.mk y1
  have W0 := Aside0.mk w0
  have hl1 : l1.length ≤ 8796093021952 := by omega
  clear hr1 hc1 y1 w0 w1
  go_enter Tryd.func6, Tryd.ntmps6
  go_wp2_with fail
  refine (cisternlaw13_known.calls 20 true w (known_val 20 (by omega))).mono ?_
  rintro e wa ⟨rfl, hB⟩
  have BA := Aside0.mk hB
  clear hB
  have mk := makeIn l1.length hl1
  obtain ⟨W2, hap, hC2, hs0, hs1, hB2, hsz⟩ := appendIn wa A1 c1 l1 (Kd.C_below R1.out BA.out) hl1
  have C2 := Aside0.mk hC2
  have S0 := Aside0.mk hs0
  have S1 := Aside0.mk hs1
  have B2 := Aside0.mk (BA.out.trans (hB2.mono BA.out.size))
  have Z2 := Aside0.mk hsz
  clear hC2 hs0 hs1 hB2 hsz
  have HAP := Aside0.mk hap
  clear hap
  go_wp2_with (first | (at_builtin; refine wpList_append_ran rfl (.tmp 20) (.tmp 21) 23 rfl _ _ _ rfl rfl HAP.out ?_) | fail)
  obtain ⟨j1, j2, hj⟩ : ∃ a b, route_Join.f l1 = some (a, b) := ⟨_, _, rjoin_val l1⟩
  refine (route_Join.calls _ (l1.length + 2) l1 j1 j2 W2 C2.out (by omega) hj).mono ?_
  rintro e wj ⟨rfl, hB⟩
  have BJ := Aside0.mk hB
  clear hB hj
  obtain ⟨pl, hpl⟩ : ∃ p, p = (parseV a0).1 := ⟨_, rfl⟩
  obtain ⟨pe, hpe⟩ : ∃ p, p = (parseV a0).2 := ⟨_, rfl⟩
  have PV : Aside0 (route_Parse.f 20 a0 = some (pl, pe)) := ⟨by rw [hpl, hpe]; exact parse_val a0 20 (by omega)⟩
  have PD : Aside0 (cisternref13_DocParse.f (3 * a0.size + 40) a0 = some (pl, pe)) := ⟨by rw [hpl, hpe]; exact docparse_val a0 (by have := W0.out; omega) _ (Nat.le_refl _)⟩
  have PL : Aside0 (pl.length ≤ 10) := ⟨by
    rw [hpl]
    rcases parse_two a0 with h | ⟨_, h⟩
    · exact (right_all (path_of h).1).1
    · rw [h]; simp⟩
  clear hpl hpe
  go_wp2_with fail
  refine (route_Parse.calls 20 a0 pl pe wj PV.out).mono ?_
  rintro e wp ⟨v, rfl, hR, hB⟩
  have BP := Aside0.mk (BJ.out.trans (hB.mono BJ.out.size))
  obtain ⟨Ap, cp, rfl⟩ := Kd.R_slice hR
  have XR := Aside0.mk (Kd.R_lower hR BJ.out.size)
  clear hR hB
  go_wp2_with fail
  go_loopw [8] (fun v8 w' => ∃ (i : Nat) (ys : List ByteArray), i ≤ pl.length ∧ v8 = .int .i64 (i : Int) ∧ Aside0 (ys.length = pl.length) ∧ Aside0 (Kd.R Kd.string 9 w' W2.heap.size (fun _ => True) (.slice Ap pl.length cp) ys) ∧ Aside0 (Below W2.heap.size W2 w')) (fun v8 _ => (pl.length - intOf v8).toNat)
  case atStart => exact ⟨0, pl, by omega, rfl, ⟨rfl⟩, XR, BP⟩
  case round =>
    obtain ⟨i, ys, hi, rfl, YL, YR, YB⟩ := hrel
    by_cases h : i < pl.length
    · obtain ⟨inner, ho⟩ := Kd.R_own YR.out
      rcases ho.2 with ⟨hv, h0⟩ | ⟨g, cap, cur, hv, _⟩
      · exfalso; simp only [Value.slice.injEq] at hv; omega
      · simp only [Value.slice.injEq] at hv
        obtain ⟨rfl, _, _⟩ := hv
        clear ho
        have hyl : ys.length = pl.length := YL.out
        rw [← hyl] at YR h ⊢
        obtain ⟨k1, k2⟩ := Kd.R_cell ByteArray.empty YR.out (i : Int) (by omega) (by omega)
        have PX := Aside0.mk (Kd.R_putn YR.out (i : Int) (⟨#[33]⟩ : ByteArray))
        have BX := Aside0.mk (below_set (j := i) (v := .string ⟨#[33]⟩) YB.out (own_base (Kd.own_of_R YR.out) g rfl))
        rw [Int.toNat_natCast] at k1 k2 PX
        clear hyl
        have p1 : (0 : Int) ≤ (i : Int) := by omega
        have p2 : (i : Int) < (ys.length : Int) := by omega
        have HW := Aside0.mk (wrap_suc i (Nat.le_trans (Nat.le_of_lt h) (by rw [YL.out]; exact PL.out)))
        have HM := Aside0.mk (msr_dn ys.length i h)
        go_wp2_with fail
        rw [HW.out]
        exact ⟨⟨i + 1, ys.set i ⟨#[33]⟩, h, rfl, ⟨List.length_set⟩, PX, BX⟩, HM.out⟩
    · have d1 : decide (i < pl.length) = false := decide_eq_false h
      clear h hi YL YR
      go_wp2_with fail
      refine (route_Parse.calls 20 a0 pl pe wr PV.out).mono ?_
      rintro e wq ⟨vq, rfl, hR, hB⟩
      obtain ⟨Aq, cq, rfl⟩ := Kd.R_slice hR
      obtain ⟨_, q2, q3⟩ := Kd.R_reads' hR
      have BQ := Aside0.mk (YB.out.trans (hB.mono YB.out.size))
      have QC := Aside0.mk q2
      have QR := Aside0.mk q3
      clear hR hB q2 q3
      go_wp2_with fail
      refine (cisternref13_DocParse.calls _ a0 pl pe wq PD.out).mono ?_
      rintro e wd ⟨vd, rfl, hR, hB⟩
      obtain ⟨Ad, cd, rfl⟩ := Kd.R_slice hR
      obtain ⟨_, q2, q3⟩ := Kd.R_reads' hR
      have BD := Aside0.mk (BQ.out.trans (hB.mono BQ.out.size))
      have QD := Aside0.mk (Kd.C_below QR.out hB)
      have DC := Aside0.mk q2
      have DR := Aside0.mk q3
      clear hR hB q2 q3
      go_wp2_with fail
      have SB0 := Aside0.mk ((BD.out.cell (p := ⟨wa.heap.size, l1.length, none⟩) Z2.out).trans S0.out)
      have SB1 := Aside0.mk ((BD.out.cell (p := ⟨wa.heap.size, l1.length + 1, none⟩) Z2.out).trans S1.out)
      go_loop [14] (fun v14 => ∃ k : Nat, k ≤ 2 ∧ v14 = .int .i64 ((l1.length : Int) + (k : Int))) (fun v14 => ((l1.length : Int) + 2 - intOf v14).toNat)
      case atStart => exact ⟨0, by omega, by simp⟩
      case round =>
        obtain ⟨k, hk, rfl⟩ := hrel
        match k, hk with
        | 0, _ =>
          have sb := SB0.out
          go_wp2_with fail
          exact ⟨⟨1, by omega, by simp⟩, one_dn _⟩
        | 1, _ =>
          have sb := SB1.out
          go_wp2_with fail
          exact ⟨⟨2, by omega, int_two _⟩, two_dn _⟩
        | 2, _ =>
          go_wp2_with fail
          refine (cisternref13_Same.calls (pl.length + 1) Aq cq pl Ad cd pl true wd QD.out QC.out DR.out DC.out (by rw [same_val pl pl (by have := PL.out; omega) _ (by omega)]; simp)).mono ?_
          rintro e we ⟨rfl, hd⟩
          have BE := Aside0.mk (BD.out.trans (hd.below.mono BD.out.size))
          clear hd
          go_wp2_with fail
          have R2 := Aside0.mk (Kd.C_below C2.out BE.out)
          have RI := Aside0.mk (Kd.C_below R1.out (B2.out.trans (BE.out.mono B2.out.size)))
          refine (cisternref13_Same.calls (l1.length + 1) _ _ l1 A1 c1 l1 true we R2.out (by omega) RI.out C1.out (by rw [same_val l1 l1 (by omega) _ (by omega)]; simp)).mono ?_
          rintro e wf ⟨rfl, hd⟩
          have BF := Aside0.mk (B2.out.trans ((BE.out.trans (hd.below.mono BE.out.size)).mono B2.out.size))
          clear hd
          go_wp2
          go_ret
          exact ⟨rfl, BF.out⟩
end Go.Proofs.YtenjcgkabmlpkaaDoor.PA
