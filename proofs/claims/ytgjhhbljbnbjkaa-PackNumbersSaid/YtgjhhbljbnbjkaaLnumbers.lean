import Derived.Test.YtgjhhbljbnbjkaaLnice
namespace Go.Proofs.Ytgjhhbljbnbjkaa.PA
open Go.RowKit Go.Proofs.YtgjhhbljbnbjkaaW.PrintWords Go.Proofs.YtgjhhbljbnbjkaaW.PrintLast Go.Proofs.YtgjhhbljbnbjkaaW.PrintMore
set_option linter.unusedVariables false
set_option linter.unusedSimpArgs false
attribute [local go_sem high] eqA46
theorem num_ok (n : Int) : pack_checkV [(⟨1, n, ⟨#[]⟩⟩ : S46)] = 0 := (checkV_iff _).2 ⟨by simp, fun x hx => by
  rcases List.mem_singleton.1 hx with rfl
  exact ⟨by simp [okB, toList_data], by simp [longB]⟩⟩
theorem num_enc (n : Int) : encR [(⟨1, n, ⟨#[]⟩⟩ : S46)] = 1 :: leB (IntKind.u64.wrap n) 8 := by
  rw [encR, if_pos (num_ok n)]
  simp [encL, encI]
theorem num_dec (n : Int) (h : (Lit.int .i64 n).wf = true) : decF (1 :: leB (IntKind.u64.wrap n) 8) = ([⟨1, n, ⟨#[]⟩⟩], 0) := by
  have := decF_enc [(⟨1, n, ⟨#[]⟩⟩ : S46)] (num_ok n) (fun x hx => by rcases List.mem_singleton.1 hx with rfl; exact h)
  rw [← num_enc, encR, if_pos (num_ok n)]
  exact this
theorem num_more (n m : Int) (h : (Lit.int .i64 n).wf = true) (h0 : 0 ≤ m) (h1 : m ≤ 255) : decF (1 :: leB (IntKind.u64.wrap n) 8 ++ [m]) = ([], 2) := by
  have hb : byteL (1 :: leB (IntKind.u64.wrap n) 8 ++ [m]) := byteL_append (byteL_mk (by omega) (by omega) (byteL_leB _ _)) (byteL_mk h0 h1 (fun x hx => by cases hx))
  rcases decF_tells _ hb with h | ⟨l, hl, he, hc, hw⟩
  · exact h
  · exfalso
    have hlen : (encL l).length = 10 := by rw [he]; simp [leB_length]
    match l, hc, he, hlen with
    | [], _, _, hlen => simp [encL] at hlen
    | x :: l, hc, he, hlen =>
      obtain ⟨_, hx⟩ := (checkV_iff _).1 hc
      have hx1 := hx x (by simp)
      rw [encL_cons] at he hlen
      by_cases k1 : x.f0 = 1
      · rw [encI, if_pos k1] at he hlen
        simp only [List.length_append, List.length_cons, leB_length] at hlen
        match l, hlen with
        | [], hlen => simp [encL] at hlen
        | y :: l, hlen =>
          have hy := hx y (by simp)
          rw [encL_cons, List.length_append] at hlen
          have : 3 ≤ (encI y).length := by
            unfold encI
            split <;> simp [leB_length]
          omega
      · rw [encI, if_neg k1] at he
        simp at he
set_option maxHeartbeats 4000000 in
set_option maxRecDepth 100000 in
theorem cisternlaw03_PackNumbers.walk (a0 a1 : Int) (w : World) (w0 : (Lit.int .i64 a0).wf = true) (w1 : (Lit.int .u8 a1).wf = true) :
    Calls Try.prog 8 #[.int .i64 a0, .int .u8 a1] w fun e w' => e = .returned (.bool true) ∧ Below w.heap.size w w' := by
  have hm : 0 ≤ a1 ∧ a1 ≤ 255 := by simpa [Lit.wf, IntKind.min, IntKind.max, IntKind.signed, IntKind.bits] using w1
  have N1 := Aside0.mk (num_dec a0 w0)
  have N2 := Aside0.mk (num_more a0 a1 w0 hm.1 hm.2)
  have NB : Aside0 (byteL (1 :: leB (IntKind.u64.wrap a0) 8)) := ⟨byteL_mk (by omega) (by omega) (byteL_leB _ _)⟩
  have NB2 : Aside0 (byteL (1 :: leB (IntKind.u64.wrap a0) 8 ++ [a1])) := ⟨byteL_append NB.out (byteL_mk hm.1 hm.2 (fun x hx => by cases hx))⟩
  obtain ⟨b, hb⟩ : ∃ b, b = 1 :: leB (IntKind.u64.wrap a0) 8 := ⟨_, rfl⟩
  have NE := Aside0.mk (num_enc a0)
  rw [← hb] at N1 N2 NB NB2 NE
  have NL : Aside0 (b.length = 9) := ⟨by rw [hb]; simp [leB_length]⟩
  have NK := Aside0.mk (num_ok a0)
  clear w0 w1 hm hb
  go_enter Try.func8, Try.ntmps8
  go_wp2_with fail
  refine (cisternlaw03_known.calls true w rfl).mono ?_
  rintro e wa ⟨rfl, hB⟩
  have BA := Aside0.mk hB
  clear hB
  go_wp2_with fail
  refine (encW _ 1 [(⟨1, a0, ⟨#[]⟩⟩ : S46)] _ (item_new wa ⟨1, a0, ⟨#[]⟩⟩ _ rfl) (Nat.le_refl _)).mono ?_
  rintro e wb ⟨Ax, cx, rfl, X, XC, hB⟩
  have BB := Aside0.mk ((below_alloc BA.out _).trans (hB.out.mono (below_alloc BA.out _).size))
  rw [NE.out] at X XC ⊢
  rw [NK.out]
  clear hB
  go_wp2_with fail
  refine (decW Ax cx b _ X.out XC.out NB.out (by have := NL.out; omega)).mono ?_
  rintro e wc ⟨Ay, cy, rfl, Y, YC, hB⟩
  have BC := Aside0.mk (BB.out.trans (hB.out.mono BB.out.size))
  have XC' := Aside0.mk (Kd.C_below X.out hB.out)
  rw [N1.out] at Y YC ⊢
  clear hB
  have HN : Aside0 ((Kd.int .u8).R 5 (wc.alloc (.cells #[] 5)) wc.heap.size (fun _ => True) (.slice (some ⟨wc.heap.size, 0, none⟩) 0 0) ([] : List Int)) :=
    ⟨Kd.R_of_own (by have h2 := World.ownsRow_lit (base := wc.heap.size) (e := 5) (size := 1) wc #[] 0 (Nat.le_refl _) (by simp [maxLen]) (by simp); simpa [encs] using h2) (fun _ _ => trivial)⟩
  go_wp2_with (first
    | (at_builtin; refine Kd.R_append_row (w0 := wc) (Value.int .u8) (0 : Int) wc.heap.size rfl (.tmp 26) (.tmp 27) 24 5 (.int .u8 0) 1 rfl Try.underlying24 info5 rfl (by decide) _ [] b Ax b.length cx (fun _ => True) rfl rfl (fun _ _ => trivial) HN.out (Kd.C_below XC'.out (below_alloc (Below.refl _ _) _)) (below_alloc (Below.refl _ _) _) (by simp) (by have := NL.out; simp; omega) ?_; intro v1 w1 hR hB hg hat; have HR1 := Aside0.mk hR; have HB1 := Aside0.mk hB; clear hR hB hat hg HN)
    | (at_builtin; refine Kd.R_append (Kd.int .u8) (w0 := wc) wc.heap.size rfl (.tmp 28) (.tmp 30) 24 5 (.int .u8 0) 1 rfl Try.underlying24 info5 rfl (by decide) (by omega) v1 ([] ++ b) a1 [.int .u8 a1] (fun _ => True) (fun _ => False) rfl rfl ?aP (fun _ hk => hk.elim) ?aF ?aO ?aB ?aS ?aL ?_; (case aP => exact rfl); (case aB => exact HB1.out); (case aF => exact (fun _ _ => trivial)); (case aO => exact HR1.out); (case aS => exact HB1.out.size); (case aL => have := NL.out; simp; omega); intro v2 w2 hR hB hg hat; have HR2 := Aside0.mk hR; have HB2 := Aside0.mk hB; clear hR hB hat hg))
  obtain ⟨A2, c2, rfl, hc2, hC2⟩ := Kd.R_reads HR2.out
  rw [List.nil_append] at *
  refine (decW A2 c2 (b ++ [a1]) _ hC2 hc2 NB2.out (by have := NL.out; simp; omega)).mono ?_
  rintro e wd ⟨Az, cz, rfl, Z, ZC, hB⟩
  rw [N2.out] at Z ZC ⊢
  have BD := Aside0.mk (BC.out.trans ((HB2.out.trans (hB.out.mono HB2.out.size)).mono BC.out.size))
  obtain ⟨ad, e, hx0, hx1, hx2⟩ := at_T46 (Kd.C_below Y.out (HB2.out.trans (hB.out.mono HB2.out.size))) 0 (by omega) (by simp)
  subst e
  have g0 : wd.cell? ad = some (.int .i64 1) := hx0
  have g1 : wd.cell? ⟨ad.block, ad.off + 1, none⟩ = some (.int .i64 a0) := hx1
  have g2 : wd.cell? ⟨ad.block, ad.off + 2, none⟩ = some (.string ⟨#[]⟩) := hx2
  clear hx0 hx1 hx2
  have hb9 : ((b.length : Int) == 9) = true := by have := NL.out; simp; omega
  go_wp2
  go_ret
  exact ⟨rfl, BD.out⟩
end Go.Proofs.Ytgjhhbljbnbjkaa.PA
