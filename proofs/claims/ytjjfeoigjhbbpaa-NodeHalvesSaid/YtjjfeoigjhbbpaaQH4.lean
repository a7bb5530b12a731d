/- Texts of this claim: contracts of the functions that the statement reaches, and plain laws of what they compute. -/
import Derived.Test.YtjjfeoigjhbbpaaQH3
set_option linter.unusedVariables false
set_option linter.unusedSimpArgs false
namespace Go.Proofs.Ytjjfeoigjhbbpaa.PA
section

open Go.RowKit Go.Proofs.YtjjfeoigjhbbpaaW.PrintWords Go.Proofs.YtjjfeoigjhbbpaaW.PrintLast Go.Proofs.YtjjfeoigjhbbpaaW.PrintMore
attribute [local go_sem] pr_leq pr_geq pr_gtr max2_int min2_int max_two min_two max_three min_three max_four min_four
set_option linter.unusedVariables false
set_option linter.unusedSimpArgs false
theorem nd_take {P : Program} {md : Region.Mode} {ops : Array Oper} {Q : Exit → Act → World → Prop} {S : World → Prop} {fuel : Nat} {listed : Array Bool} {a : Act} {w : World} (i : Nat) {oi : Oper} {v : Value} {a' : Act} (hS : S w)
    (h : wpAnyH P md ops Q S fuel (listed.setIfInBounds i true) a' w) (hi : ops[i]? = some oi := by rfl) (hs : Region.noSelect ops = true := by kernel_rfl) (hf : Region.free md ops listed i = true := by kernel_rfl) (hr : (Region.ready md ops listed).contains i = true := by kernel_rfl)
    (hQ : ∀ c a w, Q (.panic c) (a.put oi.dst v) w → Q (.panic c) a w := by exact fun _ _ _ h => h)
    (hy : YieldsIf P ops S oi v a := by exact Or.inl ⟨by rfl, by (intro w hSw; (try dsimp only at hSw); go_simp; try with_reducible rfl)⟩)
    (ha : a.put oi.dst v = a' := by (first | (simp only [Act.put, List.getElem_toArray, List.getElem_cons_zero, List.getElem_cons_succ, List.setIfInBounds_toArray, List.set_cons_zero, List.set_cons_succ]; done) | (simp only [Act.put, List.getElem_toArray, List.getElem_cons_zero, List.getElem_cons_succ, List.setIfInBounds_toArray, List.set_cons_zero, List.set_cons_succ]; rfl))) :
    wpAnyH P md ops Q S (fuel + 1) listed a w := by
  subst ha
  exact wpAnyH_take hi hs hf hr hQ hy hS h
theorem nd_skip {P : Program} {md : Region.Mode} {ops : Array Oper} {Q : Exit → Act → World → Prop} {S : World → Prop} {fuel : Nat} {listed : Array Bool} {a : Act} {w : World} (i : Nat) {oi : Oper} {a' : Act} (hS : S w)
    (h : wpAnyH P md ops Q S fuel (listed.setIfInBounds i true) a' w) (hi : ops[i]? = some oi := by rfl) (hs : Region.noSelect ops = true := by kernel_rfl) (hf : Region.free md ops listed i = true := by kernel_rfl) (hr : (Region.ready md ops listed).contains i = true := by kernel_rfl)
    (hQ : ∀ c a w, Q (.panic c) (a.put oi.dst undef) w → Q (.panic c) a w := by exact fun _ _ _ h => h)
    (hy : YieldsIf P ops S oi undef a := by exact Or.inr ⟨by rfl, rfl⟩)
    (ha : a.put oi.dst undef = a' := by (first | (simp only [Act.put, List.getElem_toArray, List.getElem_cons_zero, List.getElem_cons_succ, List.setIfInBounds_toArray, List.set_cons_zero, List.set_cons_succ]; done) | (simp only [Act.put, List.getElem_toArray, List.getElem_cons_zero, List.getElem_cons_succ, List.setIfInBounds_toArray, List.set_cons_zero, List.set_cons_succ]; rfl))) :
    wpAnyH P md ops Q S (fuel + 1) listed a w := by
  subst ha
  exact wpAnyH_take hi hs hf hr hQ hy hS h
def okV (P : List S48) (K : List ByteArray) (D : List Int) : Bool := !(P.any badP) && risesB (P.map (·.f0)) && !(K.any badS) && risesB K && !(D.any badI)
def gdV (a : Bool) (P : List S48) (K : List ByteArray) (D : List Int) : Bool := decide (P.length ≤ 255) && decide (D.length ≤ 255) && (if a then decide (K.length = 0) && decide (D.length = 0) else decide (P.length = 0) && decide (D.length ≠ 0) && decide (K.length + 1 = D.length))
theorem right_eq (a : Bool) (P : List S48) (K : List ByteArray) (D : List Int) : (gdV a P K D && okV P K D) = (leafV a P K D || innerV a P K D) := by
  unfold gdV okV leafV innerV
  cases a
  · by_cases h1 : P.length = 0
    · have : P = [] := List.eq_nil_of_length_eq_zero h1
      subst this
      by_cases h2 : D.length = 0
      · simp [h2]
      · by_cases h3 : D.length ≤ 255
        · by_cases h4 : K.length + 1 = D.length
          · have : 1 ≤ D.length := by omega
            have e0 : risesB [] = true := rfl
            simp only [h2, h3, h4, this, e0, List.map_nil, List.any_nil]
            cases K.any badS <;> cases D.any badI <;> cases risesB K <;> simp [h2]
          · simp [h4]
        · simp [h3]
    · simp [h1]
  · by_cases h1 : K.length = 0
    · have : K = [] := List.eq_nil_of_length_eq_zero h1
      subst this
      by_cases h2 : D.length = 0
      · have : D = [] := List.eq_nil_of_length_eq_zero h2
        subst this
        by_cases h3 : P.length ≤ 255
        · have e0 : risesB [] = true := rfl
          simp only [h3, e0, List.any_nil]
          cases P.any badP <;> cases risesB (P.map (·.f0)) <;> simp
        · simp [h3]
      · simp [h2]
    · by_cases h2 : D.length = 0
      · simp [h1, h2]
      · simp [h1, h2]
theorem ok_badP {P : List S48} {K : List ByteArray} {D : List Int} {x : S48} (hx : x ∈ P) (h : badP x = true) : okV P K D = false := by
  unfold okV
  rw [List.any_eq_true.2 ⟨x, hx, h⟩]
  rfl
theorem ok_badS {P : List S48} {K : List ByteArray} {D : List Int} {x : ByteArray} (hx : x ∈ K) (h : badS x = true) : okV P K D = false := by
  unfold okV
  rw [List.any_eq_true.2 ⟨x, hx, h⟩]
  simp
theorem ok_badI {P : List S48} {K : List ByteArray} {D : List Int} {x : Int} (hx : x ∈ D) (h : badI x = true) : okV P K D = false := by
  unfold okV
  rw [List.any_eq_true.2 ⟨x, hx, h⟩]
  simp
theorem ok_fallP {P : List S48} {K : List ByteArray} {D : List Int} (h : risesB (P.map (·.f0)) = false) : okV P K D = false := by
  unfold okV
  rw [h]
  simp
theorem ok_fallS {P : List S48} {K : List ByteArray} {D : List Int} (h : risesB K = false) : okV P K D = false := by
  unfold okV
  rw [h]
  simp
theorem take_any {α : Type} (f : α → Bool) (l : List α) (k : Nat) (h : k < l.length) (h1 : (l.take k).any f = false) (h2 : f l[k] = false) : (l.take (k + 1)).any f = false := by
  rw [List.take_succ_eq_append_getElem h, List.any_append, h1]
  simp [h2]
theorem key_val (s : ByteArray) : cisternref11_Key.f s = some (keyB s) := by unfold cisternref11_Key.f keyB; split <;> rfl
set_option maxHeartbeats 8000000 in
set_option maxRecDepth 100000 in
theorem right_true (A0_1 : Option Addr) (c0_1 : Nat) (l0_1 : List S48) (A0_2 : Option Addr) (c0_2 : Nat) (l0_2 : List ByteArray) (A0_3 : Option Addr) (c0_3 : Nat) (l0_3 : List Int) (r : Bool) (w : World) (hr0_1 : Kd.C k48 w A0_1 l0_1.length l0_1) (hc0_1 : l0_1.length ≤ c0_1) (hr0_2 : Kd.C Kd.string w A0_2 l0_2.length l0_2) (hc0_2 : l0_2.length ≤ c0_2) (hr0_3 : Kd.C (Kd.int .i64) w A0_3 l0_3.length l0_3) (hc0_3 : l0_3.length ≤ c0_3) (hr : r = (gdV true l0_1 l0_2 l0_3 && okV l0_1 l0_2 l0_3)) :
    Calls Try.prog 26 #[.agg #[.bool true, .slice A0_1 l0_1.length c0_1, .slice A0_2 l0_2.length c0_2, .slice A0_3 l0_3.length c0_3]] w fun e w' => e = .returned (.bool r) ∧ Below w.heap.size w w' := by
  have HR := Aside0.mk hr
  have L1 : l0_1.length ≤ 9223372036854775807 := hr0_1.2.1
  have L2 : l0_2.length ≤ 9223372036854775807 := hr0_2.2.1
  have L3 : l0_3.length ≤ 9223372036854775807 := hr0_3.2.1
  have R1 := Aside0.mk hr0_1
  have R2 := Aside0.mk hr0_2
  have R3 := Aside0.mk hr0_3
  clear hr0_1 hc0_1 hr0_2 hc0_2 hr0_3 hc0_3 hr
  by_cases hp : l0_1.length ≤ 255
  · have gp0 : decide ((255 : Int) < (l0_1.length : Int)) = false := decide_eq_false (by omega)
    have gp1 : decide (255 < l0_1.length) = false := decide_eq_false (by omega)
    by_cases hd : l0_3.length ≤ 255
    · have gd0 : decide ((255 : Int) < (l0_3.length : Int)) = false := decide_eq_false (by omega)
      have gd1 : decide (255 < l0_3.length) = false := decide_eq_false (by omega)
      by_cases hk : l0_2.length = 0
      · have gk0 : decide ((0 : Int) < (l0_2.length : Int)) = false := decide_eq_false (by omega)
        have gk1 : decide (0 < l0_2.length) = false := decide_eq_false (by omega)
        by_cases he : l0_3.length = 0
        · have ge0 : decide ((0 : Int) < (l0_3.length : Int)) = false := decide_eq_false (by omega)
          have ge1 : decide (0 < l0_3.length) = false := decide_eq_false (by omega)
          have GD : Aside0 (gdV true l0_1 l0_2 l0_3 = true) := ⟨by unfold gdV; simp [hp, hd, hk, he]⟩
          clear hp hd hk he
          have bx := heap_alloc_new w (.cells #[.bool true, .slice A0_1 l0_1.length c0_1, .slice A0_2 l0_2.length c0_2, .slice A0_3 l0_3.length c0_3] 26)
          have xa := below_alloc (Below.refl w.heap.size w) (.cells #[.bool true, .slice A0_1 l0_1.length c0_1, .slice A0_2 l0_2.length c0_2, .slice A0_3 l0_3.length c0_3] 26)
          obtain ⟨wa, hwa⟩ : ∃ wa, wa = w.alloc (.cells #[.bool true, .slice A0_1 l0_1.length c0_1, .slice A0_2 l0_2.length c0_2, .slice A0_3 l0_3.length c0_3] 26) := ⟨_, rfl⟩
          have HWA := Aside0.mk hwa
          rw [← hwa] at bx xa
          have BA := Aside0.mk xa
          clear hwa xa
          have b0 : wa.cell? ⟨w.heap.size, 0, none⟩ = some (.bool true) := blk_cell bx 0
          have b1 : wa.cell? ⟨w.heap.size, 1, none⟩ = some (.slice A0_1 l0_1.length c0_1) := blk_cell bx 1
          have b2 : wa.cell? ⟨w.heap.size, 2, none⟩ = some (.slice A0_2 l0_2.length c0_2) := blk_cell bx 2
          have b3 : wa.cell? ⟨w.heap.size, 3, none⟩ = some (.slice A0_3 l0_3.length c0_3) := blk_cell bx 3
          have BC1 := Aside0.mk b1
          have BC2 := Aside0.mk b2
          have BC3 := Aside0.mk b3
          clear bx
          go_enter Try.func26, Try.ntmps26
          go_wp2_with fail
          rw [← HWA.out]
          clear b0 b1 b2 b3
          go_loopw [3] (fun v w' => ∃ k : Nat, k ≤ l0_1.length ∧ v = .int .i64 (k : Int) ∧ Aside0 ((l0_1.take k).any badP = false) ∧ Aside0 (∀ j, j + 1 < k → Op.bytesLess ((l0_1.map (·.f0)).getD j ByteArray.empty).toList ((l0_1.map (·.f0)).getD (j + 1) ByteArray.empty).toList = true) ∧ Aside0 (Below wa.heap.size wa w')) (fun v _ => (l0_1.length - intOf v).toNat)
          case atStart => exact ⟨0, by omega, rfl, ⟨by simp⟩, ⟨fun j hj => by omega⟩, ⟨Below.refl _ _⟩⟩
          case round =>
            obtain ⟨k, hk, rfl, HTK, HA, HX2⟩ := hrel
            have hbx : wr.cell? ⟨w.heap.size, 1, none⟩ = some (.slice A0_1 l0_1.length c0_1) := nd_cell HX2.out BC1.out
            by_cases h : k < l0_1.length
            · have d1 : decide (k < l0_1.length) = true := decide_eq_true h
              have d1' : decide ((k : Int) < (l0_1.length : Int)) = true := decide_eq_true (by omega)
              have HB : Aside0 (Below w.heap.size w wr) := ⟨BA.out.trans (HX2.out.mono BA.out.size)⟩
              by_cases hk0 : k = 0
              · subst hk0
                have z0 : decide ((0 : Int) < 0) = false := rfl
                obtain ⟨x, xe'⟩ : ∃ x, x = rd_T48 l0_1 ((0 : Nat) : Int) := ⟨_, rfl⟩
                have xe := xe'.symm
                obtain ⟨adx, hax, hx0, hx1⟩ := at_T48 (Kd.C_below R1.out HB.out) ((0 : Nat) : Int) (by omega) (by omega)
                rw [Int.toNat_natCast, show rd_T48 l0_1 ((0 : Nat) : Int) = x from xe] at hx0 hx1
                have HXE : Aside0 (l0_1[0] = x) := ⟨by rw [xe']; simp [rd_T48, List.getD_eq_getElem?_getD, h]⟩
                clear xe xe'
                subst hax
                replace hx0 : wr.cell? adx = some (.string x.f0) := by simpa [Addr.add_zero'] using hx0
                replace hx1 : wr.cell? ⟨adx.block, adx.off + 1, none⟩ = some (.string x.f1) := by simpa [Addr.add_zero'] using hx1
                obtain ⟨kb, hkb⟩ : ∃ b, b = keyB x.f0 := ⟨_, rfl⟩
                have KY : Aside0 (∀ W, Calls Try.prog 29 #[.string x.f0] W fun e w' => e = .returned (.bool kb) ∧ Drawn0 W w') := ⟨fun W => cisternref11_Key.calls x.f0 kb W (by rw [key_val, hkb])⟩
                cases kb
                · have HBD : Aside0 (badP l0_1[0] = true) := ⟨by rw [HXE.out]; unfold badP; rw [← hkb]; rfl⟩
                  clear hkb
                  have MK : Aside0 (∀ w1, Below wr.heap.size wr w1 → Below wr.heap.size wr w1 ∧ w1.cell? ⟨w.heap.size, 1, none⟩ = some (.slice (some adx) l0_1.length c0_1) ∧ w1.cell? adx = some (.string x.f0) ∧ w1.cell? ⟨adx.block, adx.off + 1, none⟩ = some (.string x.f1)) := ⟨fun w1 hb => ⟨hb, nd_cell hb hbx, nd_cell hb hx0, nd_cell hb hx1⟩⟩
                  have FIN : Aside0 (∀ w1, Below wr.heap.size wr w1 → Below wa.heap.size wa w1) := ⟨fun w1 hb => HX2.out.trans (hb.mono HX2.out.size)⟩
                  have RF : Aside0 (false = r) := ⟨by rw [HR.out, ok_badP (List.getElem_mem h) HBD.out, Bool.and_false]⟩
                  clear hx0 hx1
                  go_wp2_with fail
                  refine wp_region_held_drew (S := fun w1 => Below wr.heap.size wr w1 ∧ w1.cell? ⟨w.heap.size, 1, none⟩ = some (.slice (some adx) l0_1.length c0_1) ∧ w1.cell? adx = some (.string x.f0) ∧ w1.cell? ⟨adx.block, adx.off + 1, none⟩ = some (.string x.f1)) (by kernel_rfl) ?_ (fun hHeld => ?_)
                  · try dsimp only
                    first | exact MK.out _ (Below.drew (Below.refl _ _)) | exact MK.out _ SB1.out | assumption
                  refine nd_take 0 hHeld ?_
                  refine nd_take 1 hHeld ?_
                  refine nd_take 2 hHeld ?_
                  refine nd_take 3 hHeld ?_
                  refine nd_take 4 hHeld ?_
                  refine nd_take 5 hHeld ?_
                  refine wpAnyH_ready (rs := [6]) (by kernel_rfl) (by simp) ?_
                  refine AllReadyH.cons rfl (fun K hK => ?_) AllReadyH.nil
                  go_simp
                  refine (KY.out _).mono ?_
                  rintro e w6 ⟨rfl, hd6⟩
                  have SB1 : Aside0 (Below wr.heap.size wr w6) := ⟨Below.trans hHeld.1 (hd6.below.mono hHeld.1.size)⟩
                  clear hd6
                  go_simp
                  refine hK.out _ _ ?_ (fun hNew => ?_)
                  · try dsimp only
                    first | exact MK.out _ (Below.drew (Below.refl _ _)) | exact MK.out _ SB1.out | assumption
                  clear hK K hHeld
                  have hHeld := hNew
                  clear hNew
                  refine nd_take 7 hHeld ?_
                  refine nd_take 8 hHeld ?_
                  refine nd_skip 9 hHeld ?_
                  refine nd_skip 10 hHeld ?_
                  refine nd_skip 11 hHeld ?_
                  refine nd_skip 12 hHeld ?_
                  refine nd_skip 13 hHeld ?_
                  refine nd_skip 14 hHeld ?_
                  refine nd_skip 15 hHeld ?_
                  refine nd_skip 16 hHeld ?_
                  refine nd_take 17 hHeld ?_
                  refine nd_take 18 hHeld ?_
                  refine nd_skip 19 hHeld ?_
                  refine nd_skip 20 hHeld ?_
                  refine nd_skip 21 hHeld ?_
                  refine nd_skip 22 hHeld ?_
                  refine nd_skip 23 hHeld ?_
                  refine nd_skip 24 hHeld ?_
                  refine nd_skip 25 hHeld ?_
                  refine nd_skip 26 hHeld ?_
                  refine nd_skip 27 hHeld ?_
                  refine nd_skip 28 hHeld ?_
                  refine nd_skip 29 hHeld ?_
                  refine nd_skip 30 hHeld ?_
                  refine nd_skip 31 hHeld ?_
                  refine nd_skip 32 hHeld ?_
                  refine nd_skip 33 hHeld ?_
                  refine nd_skip 34 hHeld ?_
                  refine nd_skip 35 hHeld ?_
                  refine nd_skip 36 hHeld ?_
                  refine nd_take 37 hHeld ?_
                  refine wpAnyH_done (by kernel_rfl) ?_ _
                  go_wp2_with fail
                  go_ret
                  exact ⟨by rw [← RF.out]; rfl, (BA.out.trans ((FIN.out _ hHeld.1).mono BA.out.size))⟩

                · by_cases hs : (48 : Int) < (x.f1.size : Int)
                  · have hs1 : decide ((48 : Int) < (x.f1.size : Int)) = true := decide_eq_true hs
                    have HBD : Aside0 (badP l0_1[0] = true) := ⟨by rw [HXE.out]; unfold badP; rw [decide_eq_true hs]; simp⟩
                    clear hkb
                    have MK : Aside0 (∀ w1, Below wr.heap.size wr w1 → Below wr.heap.size wr w1 ∧ w1.cell? ⟨w.heap.size, 1, none⟩ = some (.slice (some adx) l0_1.length c0_1) ∧ w1.cell? adx = some (.string x.f0) ∧ w1.cell? ⟨adx.block, adx.off + 1, none⟩ = some (.string x.f1)) := ⟨fun w1 hb => ⟨hb, nd_cell hb hbx, nd_cell hb hx0, nd_cell hb hx1⟩⟩
                    have FIN : Aside0 (∀ w1, Below wr.heap.size wr w1 → Below wa.heap.size wa w1) := ⟨fun w1 hb => HX2.out.trans (hb.mono HX2.out.size)⟩
                    have RF : Aside0 (false = r) := ⟨by rw [HR.out, ok_badP (List.getElem_mem h) HBD.out, Bool.and_false]⟩
                    clear hx0 hx1
                    go_wp2_with fail
                    refine wp_region_held_drew (S := fun w1 => Below wr.heap.size wr w1 ∧ w1.cell? ⟨w.heap.size, 1, none⟩ = some (.slice (some adx) l0_1.length c0_1) ∧ w1.cell? adx = some (.string x.f0) ∧ w1.cell? ⟨adx.block, adx.off + 1, none⟩ = some (.string x.f1)) (by kernel_rfl) ?_ (fun hHeld => ?_)
                    · try dsimp only
                      first | exact MK.out _ (Below.drew (Below.refl _ _)) | exact MK.out _ SB1.out | assumption
                    refine nd_take 0 hHeld ?_
                    refine nd_take 1 hHeld ?_
                    refine nd_take 2 hHeld ?_
                    refine nd_take 3 hHeld ?_
                    refine nd_take 4 hHeld ?_
                    refine nd_take 5 hHeld ?_
                    refine wpAnyH_ready (rs := [6]) (by kernel_rfl) (by simp) ?_
                    refine AllReadyH.cons rfl (fun K hK => ?_) AllReadyH.nil
                    go_simp
                    refine (KY.out _).mono ?_
                    rintro e w6 ⟨rfl, hd6⟩
                    have SB1 : Aside0 (Below wr.heap.size wr w6) := ⟨Below.trans hHeld.1 (hd6.below.mono hHeld.1.size)⟩
                    clear hd6
                    go_simp
                    refine hK.out _ _ ?_ (fun hNew => ?_)
                    · try dsimp only
                      first | exact MK.out _ (Below.drew (Below.refl _ _)) | exact MK.out _ SB1.out | assumption
                    clear hK K hHeld
                    have hHeld := hNew
                    clear hNew
                    refine nd_take 7 hHeld ?_
                    refine nd_take 8 hHeld ?_
                    refine nd_take 9 hHeld ?_
                    refine nd_take 10 hHeld ?_
                    refine nd_take 11 hHeld ?_
                    refine nd_take 12 hHeld ?_
                    refine nd_take 13 hHeld ?_
                    refine nd_take 14 hHeld ?_
                    refine nd_take 15 hHeld ?_
                    refine nd_take 16 hHeld ?_
                    refine nd_take 17 hHeld ?_
                    refine nd_take 18 hHeld ?_
                    refine nd_skip 19 hHeld ?_
                    refine nd_skip 20 hHeld ?_
                    refine nd_skip 21 hHeld ?_
                    refine nd_skip 22 hHeld ?_
                    refine nd_skip 23 hHeld ?_
                    refine nd_skip 24 hHeld ?_
                    refine nd_skip 25 hHeld ?_
                    refine nd_skip 26 hHeld ?_
                    refine nd_skip 27 hHeld ?_
                    refine nd_skip 28 hHeld ?_
                    refine nd_skip 29 hHeld ?_
                    refine nd_skip 30 hHeld ?_
                    refine nd_skip 31 hHeld ?_
                    refine nd_skip 32 hHeld ?_
                    refine nd_skip 33 hHeld ?_
                    refine nd_skip 34 hHeld ?_
                    refine nd_skip 35 hHeld ?_
                    refine nd_skip 36 hHeld ?_
                    refine nd_take 37 hHeld ?_
                    refine wpAnyH_done (by kernel_rfl) ?_ _
                    go_wp2_with fail
                    go_ret
                    exact ⟨by rw [← RF.out]; rfl, (BA.out.trans ((FIN.out _ hHeld.1).mono BA.out.size))⟩

                  · have hs1 : decide ((48 : Int) < (x.f1.size : Int)) = false := decide_eq_false hs
                    have HBG : Aside0 (badP l0_1[0] = false) := ⟨by rw [HXE.out]; unfold badP; rw [← hkb]; rw [decide_eq_false hs]; rfl⟩
                    clear hkb hs
                    have HT : Aside0 ((l0_1.take (1)).any badP = false) := ⟨take_any _ _ 0 h HTK.out HBG.out⟩
                    have HA2 : Aside0 (∀ j, j + 1 < 1 → Op.bytesLess ((l0_1.map (·.f0)).getD j ByteArray.empty).toList ((l0_1.map (·.f0)).getD (j + 1) ByteArray.empty).toList = true) := ⟨fun j hj => by omega⟩
                    have MK : Aside0 (∀ w1, Below wr.heap.size wr w1 → Below wr.heap.size wr w1 ∧ w1.cell? ⟨w.heap.size, 1, none⟩ = some (.slice (some adx) l0_1.length c0_1) ∧ w1.cell? adx = some (.string x.f0) ∧ w1.cell? ⟨adx.block, adx.off + 1, none⟩ = some (.string x.f1)) := ⟨fun w1 hb => ⟨hb, nd_cell hb hbx, nd_cell hb hx0, nd_cell hb hx1⟩⟩
                    have FIN : Aside0 (∀ w1, Below wr.heap.size wr w1 → Below wa.heap.size wa w1) := ⟨fun w1 hb => HX2.out.trans (hb.mono HX2.out.size)⟩
                    clear hx0 hx1
                    go_wp2_with fail
                    refine wp_region_held_drew (S := fun w1 => Below wr.heap.size wr w1 ∧ w1.cell? ⟨w.heap.size, 1, none⟩ = some (.slice (some adx) l0_1.length c0_1) ∧ w1.cell? adx = some (.string x.f0) ∧ w1.cell? ⟨adx.block, adx.off + 1, none⟩ = some (.string x.f1)) (by kernel_rfl) ?_ (fun hHeld => ?_)
                    · try dsimp only
                      first | exact MK.out _ (Below.drew (Below.refl _ _)) | exact MK.out _ SB1.out | assumption
                    refine nd_take 0 hHeld ?_
                    refine nd_take 1 hHeld ?_
                    refine nd_take 2 hHeld ?_
                    refine nd_take 3 hHeld ?_
                    refine nd_take 4 hHeld ?_
                    refine nd_take 5 hHeld ?_
                    refine wpAnyH_ready (rs := [6]) (by kernel_rfl) (by simp) ?_
                    refine AllReadyH.cons rfl (fun K hK => ?_) AllReadyH.nil
                    go_simp
                    refine (KY.out _).mono ?_
                    rintro e w6 ⟨rfl, hd6⟩
                    have SB1 : Aside0 (Below wr.heap.size wr w6) := ⟨Below.trans hHeld.1 (hd6.below.mono hHeld.1.size)⟩
                    clear hd6
                    go_simp
                    refine hK.out _ _ ?_ (fun hNew => ?_)
                    · try dsimp only
                      first | exact MK.out _ (Below.drew (Below.refl _ _)) | exact MK.out _ SB1.out | assumption
                    clear hK K hHeld
                    have hHeld := hNew
                    clear hNew
                    refine nd_take 7 hHeld ?_
                    refine nd_take 8 hHeld ?_
                    refine nd_take 9 hHeld ?_
                    refine nd_take 10 hHeld ?_
                    refine nd_take 11 hHeld ?_
                    refine nd_take 12 hHeld ?_
                    refine nd_take 13 hHeld ?_
                    refine nd_take 14 hHeld ?_
                    refine nd_take 15 hHeld ?_
                    refine nd_take 16 hHeld ?_
                    refine nd_take 17 hHeld ?_
                    refine nd_take 18 hHeld ?_
                    refine nd_take 19 hHeld ?_
                    refine nd_take 20 hHeld ?_
                    refine nd_take 21 hHeld ?_
                    refine nd_skip 22 hHeld ?_
                    refine nd_skip 23 hHeld ?_
                    refine nd_skip 24 hHeld ?_
                    refine nd_skip 25 hHeld ?_
                    refine nd_skip 26 hHeld ?_
                    refine nd_skip 27 hHeld ?_
                    refine nd_skip 28 hHeld ?_
                    refine nd_skip 29 hHeld ?_
                    refine nd_skip 30 hHeld ?_
                    refine nd_skip 31 hHeld ?_
                    refine nd_skip 32 hHeld ?_
                    refine nd_skip 33 hHeld ?_
                    refine nd_skip 34 hHeld ?_
                    refine nd_skip 35 hHeld ?_
                    refine nd_take 36 hHeld ?_
                    refine nd_take 37 hHeld ?_
                    refine wpAnyH_done (by kernel_rfl) ?_ _
                    have FB := Aside0.mk (FIN.out _ hHeld.1)
                    clear hHeld
                    go_wp2_with fail
                    go_roundw
                    case rel => exact ⟨1, by omega, by first | rfl | (simp; done) | go_num, HT, HA2, FB⟩
                    case measure => simp [intOf]; omega


              · obtain ⟨m, rfl⟩ : ∃ m, k = m + 1 := ⟨k - 1, by omega⟩
                clear hk0
                have z0 : decide ((0 : Int) < ((m + 1 : Nat) : Int)) = true := decide_eq_true (by omega)
                have z0' : decide ((0 : Int) < (m : Int) + 1) = true := decide_eq_true (by omega)
                have e1 : wrap64 (((m + 1 : Nat) : Int) - 1) = (m : Int) := by unfold wrap64; omega
                have e1b : wrap64 ((m : Int) + 1 - 1) = (m : Int) := by unfold wrap64; omega
                have e1c : wrap64 (m : Int) = (m : Int) := by unfold wrap64; omega
                have e1d : IntKind.i64.wrap (m : Int) = (m : Int) := by rw [IntKind.wrap_i64]; omega
                have p1 : (0 : Int) ≤ (m : Int) := by omega
                have q1 : (m : Int) < (l0_1.length : Int) := by omega
                have p2b : (0 : Int) ≤ (m : Int) + 1 := by omega
                have q2b : (m : Int) + 1 < (l0_1.length : Int) := by omega
                have e2b : ((m : Int) + 1).toNat = m + 1 := by omega
                obtain ⟨x, xe'⟩ : ∃ x, x = rd_T48 l0_1 ((m + 1 : Nat) : Int) := ⟨_, rfl⟩
                have xe := xe'.symm
                obtain ⟨adx, hax, hx0, hx1⟩ := at_T48 (Kd.C_below R1.out HB.out) ((m + 1 : Nat) : Int) (by omega) (by omega)
                rw [Int.toNat_natCast, show rd_T48 l0_1 ((m + 1 : Nat) : Int) = x from xe] at hx0 hx1
                have HXE : Aside0 (l0_1[m + 1] = x) := ⟨by rw [xe']; simp [rd_T48, List.getD_eq_getElem?_getD, h]⟩
                clear xe xe'
                obtain ⟨y, ye'⟩ : ∃ y, y = rd_T48 l0_1 ((m : Nat) : Int) := ⟨_, rfl⟩
                have ye := ye'.symm
                obtain ⟨ady0, hay0, hy0, hy1⟩ := at_T48 (Kd.C_below R1.out HB.out) ((m : Nat) : Int) (by omega) (by omega)
                rw [Int.toNat_natCast, show rd_T48 l0_1 ((m : Nat) : Int) = y from ye] at hy0 hy1
                rw [hax] at hay0
                cases hay0
                have hm' : m < l0_1.length := by omega
                have HYE : Aside0 (l0_1[m] = y) := ⟨by rw [ye']; simp [rd_T48, List.getD_eq_getElem?_getD, hm']⟩
                clear ye ye'
                subst hax
                obtain ⟨kb, hkb⟩ : ∃ b, b = keyB x.f0 := ⟨_, rfl⟩
                have KY : Aside0 (∀ W, Calls Try.prog 29 #[.string x.f0] W fun e w' => e = .returned (.bool kb) ∧ Drawn0 W w') := ⟨fun W => cisternref11_Key.calls x.f0 kb W (by rw [key_val, hkb])⟩
                cases kb
                · have HBD : Aside0 (badP l0_1[m + 1] = true) := ⟨by rw [HXE.out]; unfold badP; rw [← hkb]; rfl⟩
                  clear hkb
                  have MK : Aside0 (∀ w1, Below wr.heap.size wr w1 → Below wr.heap.size wr w1 ∧ w1.cell? ⟨w.heap.size, 1, none⟩ = some (.slice (some adx) l0_1.length c0_1) ∧ w1.cell? (adx.add ((m + 1) * 2)) = some (.string x.f0) ∧ w1.cell? ⟨(adx.add ((m + 1) * 2)).block, (adx.add ((m + 1) * 2)).off + 1, none⟩ = some (.string x.f1) ∧ w1.cell? (adx.add (m * 2)) = some (.string y.f0) ∧ w1.cell? ⟨(adx.add (m * 2)).block, (adx.add (m * 2)).off + 1, none⟩ = some (.string y.f1)) := ⟨fun w1 hb => ⟨hb, nd_cell hb hbx, nd_cell hb hx0, nd_cell hb hx1, nd_cell hb hy0, nd_cell hb hy1⟩⟩
                  have FIN : Aside0 (∀ w1, Below wr.heap.size wr w1 → Below wa.heap.size wa w1) := ⟨fun w1 hb => HX2.out.trans (hb.mono HX2.out.size)⟩
                  have RF : Aside0 (false = r) := ⟨by rw [HR.out, ok_badP (List.getElem_mem h) HBD.out, Bool.and_false]⟩
                  clear hx0 hx1 hy0 hy1
                  go_wp2_with fail
                  refine wp_region_held_drew (S := fun w1 => Below wr.heap.size wr w1 ∧ w1.cell? ⟨w.heap.size, 1, none⟩ = some (.slice (some adx) l0_1.length c0_1) ∧ w1.cell? (adx.add ((m + 1) * 2)) = some (.string x.f0) ∧ w1.cell? ⟨(adx.add ((m + 1) * 2)).block, (adx.add ((m + 1) * 2)).off + 1, none⟩ = some (.string x.f1) ∧ w1.cell? (adx.add (m * 2)) = some (.string y.f0) ∧ w1.cell? ⟨(adx.add (m * 2)).block, (adx.add (m * 2)).off + 1, none⟩ = some (.string y.f1)) (by kernel_rfl) ?_ (fun hHeld => ?_)
                  · try dsimp only
                    first | exact MK.out _ (Below.drew (Below.refl _ _)) | exact MK.out _ SB1.out | assumption
                  refine nd_take 0 hHeld ?_
                  refine nd_take 1 hHeld ?_
                  refine nd_take 2 hHeld ?_
                  refine nd_take 3 hHeld ?_
                  refine nd_take 4 hHeld ?_
                  refine nd_take 5 hHeld ?_
                  refine wpAnyH_ready (rs := [6]) (by kernel_rfl) (by simp) ?_
                  refine AllReadyH.cons rfl (fun K hK => ?_) AllReadyH.nil
                  go_simp
                  refine (KY.out _).mono ?_
                  rintro e w6 ⟨rfl, hd6⟩
                  have SB1 : Aside0 (Below wr.heap.size wr w6) := ⟨Below.trans hHeld.1 (hd6.below.mono hHeld.1.size)⟩
                  clear hd6
                  go_simp
                  refine hK.out _ _ ?_ (fun hNew => ?_)
                  · try dsimp only
                    first | exact MK.out _ (Below.drew (Below.refl _ _)) | exact MK.out _ SB1.out | assumption
                  clear hK K hHeld
                  have hHeld := hNew
                  clear hNew
                  refine nd_take 7 hHeld ?_
                  refine nd_take 8 hHeld ?_
                  refine nd_skip 9 hHeld ?_
                  refine nd_skip 10 hHeld ?_
                  refine nd_skip 11 hHeld ?_
                  refine nd_skip 12 hHeld ?_
                  refine nd_skip 13 hHeld ?_
                  refine nd_skip 14 hHeld ?_
                  refine nd_skip 15 hHeld ?_
                  refine nd_skip 16 hHeld ?_
                  refine nd_take 17 hHeld ?_
                  refine nd_take 18 hHeld ?_
                  refine nd_skip 19 hHeld ?_
                  refine nd_skip 20 hHeld ?_
                  refine nd_skip 21 hHeld ?_
                  refine nd_skip 22 hHeld ?_
                  refine nd_skip 23 hHeld ?_
                  refine nd_skip 24 hHeld ?_
                  refine nd_skip 25 hHeld ?_
                  refine nd_skip 26 hHeld ?_
                  refine nd_skip 27 hHeld ?_
                  refine nd_skip 28 hHeld ?_
                  refine nd_skip 29 hHeld ?_
                  refine nd_skip 30 hHeld ?_
                  refine nd_skip 31 hHeld ?_
                  refine nd_skip 32 hHeld ?_
                  refine nd_skip 33 hHeld ?_
                  refine nd_skip 34 hHeld ?_
                  refine nd_skip 35 hHeld ?_
                  refine nd_skip 36 hHeld ?_
                  refine nd_take 37 hHeld ?_
                  refine wpAnyH_done (by kernel_rfl) ?_ _
                  go_wp2_with fail
                  go_ret
                  exact ⟨by rw [← RF.out]; rfl, (BA.out.trans ((FIN.out _ hHeld.1).mono BA.out.size))⟩

                · by_cases hs : (48 : Int) < (x.f1.size : Int)
                  · have hs1 : decide ((48 : Int) < (x.f1.size : Int)) = true := decide_eq_true hs
                    have HBD : Aside0 (badP l0_1[m + 1] = true) := ⟨by rw [HXE.out]; unfold badP; rw [decide_eq_true hs]; simp⟩
                    clear hkb
                    have MK : Aside0 (∀ w1, Below wr.heap.size wr w1 → Below wr.heap.size wr w1 ∧ w1.cell? ⟨w.heap.size, 1, none⟩ = some (.slice (some adx) l0_1.length c0_1) ∧ w1.cell? (adx.add ((m + 1) * 2)) = some (.string x.f0) ∧ w1.cell? ⟨(adx.add ((m + 1) * 2)).block, (adx.add ((m + 1) * 2)).off + 1, none⟩ = some (.string x.f1) ∧ w1.cell? (adx.add (m * 2)) = some (.string y.f0) ∧ w1.cell? ⟨(adx.add (m * 2)).block, (adx.add (m * 2)).off + 1, none⟩ = some (.string y.f1)) := ⟨fun w1 hb => ⟨hb, nd_cell hb hbx, nd_cell hb hx0, nd_cell hb hx1, nd_cell hb hy0, nd_cell hb hy1⟩⟩
                    have FIN : Aside0 (∀ w1, Below wr.heap.size wr w1 → Below wa.heap.size wa w1) := ⟨fun w1 hb => HX2.out.trans (hb.mono HX2.out.size)⟩
                    have RF : Aside0 (false = r) := ⟨by rw [HR.out, ok_badP (List.getElem_mem h) HBD.out, Bool.and_false]⟩
                    clear hx0 hx1 hy0 hy1
                    go_wp2_with fail
                    refine wp_region_held_drew (S := fun w1 => Below wr.heap.size wr w1 ∧ w1.cell? ⟨w.heap.size, 1, none⟩ = some (.slice (some adx) l0_1.length c0_1) ∧ w1.cell? (adx.add ((m + 1) * 2)) = some (.string x.f0) ∧ w1.cell? ⟨(adx.add ((m + 1) * 2)).block, (adx.add ((m + 1) * 2)).off + 1, none⟩ = some (.string x.f1) ∧ w1.cell? (adx.add (m * 2)) = some (.string y.f0) ∧ w1.cell? ⟨(adx.add (m * 2)).block, (adx.add (m * 2)).off + 1, none⟩ = some (.string y.f1)) (by kernel_rfl) ?_ (fun hHeld => ?_)
                    · try dsimp only
                      first | exact MK.out _ (Below.drew (Below.refl _ _)) | exact MK.out _ SB1.out | assumption
                    refine nd_take 0 hHeld ?_
                    refine nd_take 1 hHeld ?_
                    refine nd_take 2 hHeld ?_
                    refine nd_take 3 hHeld ?_
                    refine nd_take 4 hHeld ?_
                    refine nd_take 5 hHeld ?_
                    refine wpAnyH_ready (rs := [6]) (by kernel_rfl) (by simp) ?_
                    refine AllReadyH.cons rfl (fun K hK => ?_) AllReadyH.nil
                    go_simp
                    refine (KY.out _).mono ?_
                    rintro e w6 ⟨rfl, hd6⟩
                    have SB1 : Aside0 (Below wr.heap.size wr w6) := ⟨Below.trans hHeld.1 (hd6.below.mono hHeld.1.size)⟩
                    clear hd6
                    go_simp
                    refine hK.out _ _ ?_ (fun hNew => ?_)
                    · try dsimp only
                      first | exact MK.out _ (Below.drew (Below.refl _ _)) | exact MK.out _ SB1.out | assumption
                    clear hK K hHeld
                    have hHeld := hNew
                    clear hNew
                    refine nd_take 7 hHeld ?_
                    refine nd_take 8 hHeld ?_
                    refine nd_take 9 hHeld ?_
                    refine nd_take 10 hHeld ?_
                    refine nd_take 11 hHeld ?_
                    refine nd_take 12 hHeld ?_
                    refine nd_take 13 hHeld ?_
                    refine nd_take 14 hHeld ?_
                    refine nd_take 15 hHeld ?_
                    refine nd_take 16 hHeld ?_
                    refine nd_take 17 hHeld ?_
                    refine nd_take 18 hHeld ?_
                    refine nd_skip 19 hHeld ?_
                    refine nd_skip 20 hHeld ?_
                    refine nd_skip 21 hHeld ?_
                    refine nd_skip 22 hHeld ?_
                    refine nd_skip 23 hHeld ?_
                    refine nd_skip 24 hHeld ?_
                    refine nd_skip 25 hHeld ?_
                    refine nd_skip 26 hHeld ?_
                    refine nd_skip 27 hHeld ?_
                    refine nd_skip 28 hHeld ?_
                    refine nd_skip 29 hHeld ?_
                    refine nd_skip 30 hHeld ?_
                    refine nd_skip 31 hHeld ?_
                    refine nd_skip 32 hHeld ?_
                    refine nd_skip 33 hHeld ?_
                    refine nd_skip 34 hHeld ?_
                    refine nd_skip 35 hHeld ?_
                    refine nd_skip 36 hHeld ?_
                    refine nd_take 37 hHeld ?_
                    refine wpAnyH_done (by kernel_rfl) ?_ _
                    go_wp2_with fail
                    go_ret
                    exact ⟨by rw [← RF.out]; rfl, (BA.out.trans ((FIN.out _ hHeld.1).mono BA.out.size))⟩

                  · have hs1 : decide ((48 : Int) < (x.f1.size : Int)) = false := decide_eq_false hs
                    have HBG : Aside0 (badP l0_1[m + 1] = false) := ⟨by rw [HXE.out]; unfold badP; rw [← hkb]; rw [decide_eq_false hs]; rfl⟩
                    clear hkb hs
                    have HT : Aside0 ((l0_1.take (m + 1 + 1)).any badP = false) := ⟨take_any _ _ (m + 1) h HTK.out HBG.out⟩
                    obtain ⟨b, hb⟩ : ∃ b, b = Op.bytesLess y.f0.toList x.f0.toList := ⟨_, rfl⟩
                    have Hb := Aside0.mk hb
                    have hb' : Op.bytesLess y.f0.toList x.f0.toList = b := hb.symm
                    clear hb
                    have HG : Aside0 ((l0_1.map (·.f0)).getD m ByteArray.empty = y.f0 ∧ (l0_1.map (·.f0)).getD (m + 1) ByteArray.empty = x.f0) := ⟨by rw [← HXE.out, ← HYE.out]; constructor <;> simp [List.getD_eq_getElem?_getD, h, show m < l0_1.length by omega]⟩
                    cases b
                    · have HFL : Aside0 (risesB (l0_1.map (·.f0)) = false) := ⟨rises_false m (by simpa using h) (by rw [HG.out.1, HG.out.2]; exact Hb.out.symm)⟩
                      have MK : Aside0 (∀ w1, Below wr.heap.size wr w1 → Below wr.heap.size wr w1 ∧ w1.cell? ⟨w.heap.size, 1, none⟩ = some (.slice (some adx) l0_1.length c0_1) ∧ w1.cell? (adx.add ((m + 1) * 2)) = some (.string x.f0) ∧ w1.cell? ⟨(adx.add ((m + 1) * 2)).block, (adx.add ((m + 1) * 2)).off + 1, none⟩ = some (.string x.f1) ∧ w1.cell? (adx.add (m * 2)) = some (.string y.f0) ∧ w1.cell? ⟨(adx.add (m * 2)).block, (adx.add (m * 2)).off + 1, none⟩ = some (.string y.f1)) := ⟨fun w1 hb => ⟨hb, nd_cell hb hbx, nd_cell hb hx0, nd_cell hb hx1, nd_cell hb hy0, nd_cell hb hy1⟩⟩
                      have FIN : Aside0 (∀ w1, Below wr.heap.size wr w1 → Below wa.heap.size wa w1) := ⟨fun w1 hb => HX2.out.trans (hb.mono HX2.out.size)⟩
                      have RF : Aside0 (false = r) := ⟨by rw [HR.out, ok_fallP HFL.out, Bool.and_false]⟩
                      clear hx0 hx1 hy0 hy1
                      go_wp2_with fail
                      refine wp_region_held_drew (S := fun w1 => Below wr.heap.size wr w1 ∧ w1.cell? ⟨w.heap.size, 1, none⟩ = some (.slice (some adx) l0_1.length c0_1) ∧ w1.cell? (adx.add ((m + 1) * 2)) = some (.string x.f0) ∧ w1.cell? ⟨(adx.add ((m + 1) * 2)).block, (adx.add ((m + 1) * 2)).off + 1, none⟩ = some (.string x.f1) ∧ w1.cell? (adx.add (m * 2)) = some (.string y.f0) ∧ w1.cell? ⟨(adx.add (m * 2)).block, (adx.add (m * 2)).off + 1, none⟩ = some (.string y.f1)) (by kernel_rfl) ?_ (fun hHeld => ?_)
                      · try dsimp only
                        first | exact MK.out _ (Below.drew (Below.refl _ _)) | exact MK.out _ SB1.out | assumption
                      refine nd_take 0 hHeld ?_
                      refine nd_take 1 hHeld ?_
                      refine nd_take 2 hHeld ?_
                      refine nd_take 3 hHeld ?_
                      refine nd_take 4 hHeld ?_
                      refine nd_take 5 hHeld ?_
                      refine wpAnyH_ready (rs := [6]) (by kernel_rfl) (by simp) ?_
                      refine AllReadyH.cons rfl (fun K hK => ?_) AllReadyH.nil
                      go_simp
                      refine (KY.out _).mono ?_
                      rintro e w6 ⟨rfl, hd6⟩
                      have SB1 : Aside0 (Below wr.heap.size wr w6) := ⟨Below.trans hHeld.1 (hd6.below.mono hHeld.1.size)⟩
                      clear hd6
                      go_simp
                      refine hK.out _ _ ?_ (fun hNew => ?_)
                      · try dsimp only
                        first | exact MK.out _ (Below.drew (Below.refl _ _)) | exact MK.out _ SB1.out | assumption
                      clear hK K hHeld
                      have hHeld := hNew
                      clear hNew
                      refine nd_take 7 hHeld ?_
                      refine nd_take 8 hHeld ?_
                      refine nd_take 9 hHeld ?_
                      refine nd_take 10 hHeld ?_
                      refine nd_take 11 hHeld ?_
                      refine nd_take 12 hHeld ?_
                      refine nd_take 13 hHeld ?_
                      refine nd_take 14 hHeld ?_
                      refine nd_take 15 hHeld ?_
                      refine nd_take 16 hHeld ?_
                      refine nd_take 17 hHeld ?_
                      refine nd_take 18 hHeld ?_
                      refine nd_take 19 hHeld ?_
                      refine nd_take 20 hHeld ?_
                      refine nd_take 21 hHeld ?_
                      refine nd_take 22 hHeld ?_
                      refine nd_take 23 hHeld ?_
                      refine nd_take 24 hHeld ?_
                      refine nd_take 25 hHeld ?_
                      refine nd_take 26 hHeld ?_
                      refine nd_take 27 hHeld ?_
                      refine nd_take 28 hHeld ?_
                      refine nd_take 29 hHeld ?_
                      refine nd_take 30 hHeld ?_
                      refine nd_take 31 hHeld ?_
                      refine nd_take 32 hHeld ?_
                      refine nd_take 33 hHeld ?_
                      refine nd_take 34 hHeld ?_
                      refine nd_take 35 hHeld ?_
                      refine nd_take 36 hHeld ?_
                      refine nd_take 37 hHeld ?_
                      refine wpAnyH_done (by kernel_rfl) ?_ _
                      go_wp2_with fail
                      go_ret
                      exact ⟨by rw [← RF.out]; rfl, (BA.out.trans ((FIN.out _ hHeld.1).mono BA.out.size))⟩

                    · have HA2 : Aside0 (∀ j, j + 1 < m + 1 + 1 → Op.bytesLess ((l0_1.map (·.f0)).getD j ByteArray.empty).toList ((l0_1.map (·.f0)).getD (j + 1) ByteArray.empty).toList = true) := ⟨fun j hj => by
                        by_cases e : j = m
                        · subst e
                          rw [HG.out.1, HG.out.2]
                          exact Hb.out.symm
                        · exact HA.out j (by omega)⟩
                      have MK : Aside0 (∀ w1, Below wr.heap.size wr w1 → Below wr.heap.size wr w1 ∧ w1.cell? ⟨w.heap.size, 1, none⟩ = some (.slice (some adx) l0_1.length c0_1) ∧ w1.cell? (adx.add ((m + 1) * 2)) = some (.string x.f0) ∧ w1.cell? ⟨(adx.add ((m + 1) * 2)).block, (adx.add ((m + 1) * 2)).off + 1, none⟩ = some (.string x.f1) ∧ w1.cell? (adx.add (m * 2)) = some (.string y.f0) ∧ w1.cell? ⟨(adx.add (m * 2)).block, (adx.add (m * 2)).off + 1, none⟩ = some (.string y.f1)) := ⟨fun w1 hb => ⟨hb, nd_cell hb hbx, nd_cell hb hx0, nd_cell hb hx1, nd_cell hb hy0, nd_cell hb hy1⟩⟩
                      have FIN : Aside0 (∀ w1, Below wr.heap.size wr w1 → Below wa.heap.size wa w1) := ⟨fun w1 hb => HX2.out.trans (hb.mono HX2.out.size)⟩
                      clear hx0 hx1 hy0 hy1
                      go_wp2_with fail
                      refine wp_region_held_drew (S := fun w1 => Below wr.heap.size wr w1 ∧ w1.cell? ⟨w.heap.size, 1, none⟩ = some (.slice (some adx) l0_1.length c0_1) ∧ w1.cell? (adx.add ((m + 1) * 2)) = some (.string x.f0) ∧ w1.cell? ⟨(adx.add ((m + 1) * 2)).block, (adx.add ((m + 1) * 2)).off + 1, none⟩ = some (.string x.f1) ∧ w1.cell? (adx.add (m * 2)) = some (.string y.f0) ∧ w1.cell? ⟨(adx.add (m * 2)).block, (adx.add (m * 2)).off + 1, none⟩ = some (.string y.f1)) (by kernel_rfl) ?_ (fun hHeld => ?_)
                      · try dsimp only
                        first | exact MK.out _ (Below.drew (Below.refl _ _)) | exact MK.out _ SB1.out | assumption
                      refine nd_take 0 hHeld ?_
                      refine nd_take 1 hHeld ?_
                      refine nd_take 2 hHeld ?_
                      refine nd_take 3 hHeld ?_
                      refine nd_take 4 hHeld ?_
                      refine nd_take 5 hHeld ?_
                      refine wpAnyH_ready (rs := [6]) (by kernel_rfl) (by simp) ?_
                      refine AllReadyH.cons rfl (fun K hK => ?_) AllReadyH.nil
                      go_simp
                      refine (KY.out _).mono ?_
                      rintro e w6 ⟨rfl, hd6⟩
                      have SB1 : Aside0 (Below wr.heap.size wr w6) := ⟨Below.trans hHeld.1 (hd6.below.mono hHeld.1.size)⟩
                      clear hd6
                      go_simp
                      refine hK.out _ _ ?_ (fun hNew => ?_)
                      · try dsimp only
                        first | exact MK.out _ (Below.drew (Below.refl _ _)) | exact MK.out _ SB1.out | assumption
                      clear hK K hHeld
                      have hHeld := hNew
                      clear hNew
                      refine nd_take 7 hHeld ?_
                      refine nd_take 8 hHeld ?_
                      refine nd_take 9 hHeld ?_
                      refine nd_take 10 hHeld ?_
                      refine nd_take 11 hHeld ?_
                      refine nd_take 12 hHeld ?_
                      refine nd_take 13 hHeld ?_
                      refine nd_take 14 hHeld ?_
                      refine nd_take 15 hHeld ?_
                      refine nd_take 16 hHeld ?_
                      refine nd_take 17 hHeld ?_
                      refine nd_take 18 hHeld ?_
                      refine nd_take 19 hHeld ?_
                      refine nd_take 20 hHeld ?_
                      refine nd_take 21 hHeld ?_
                      refine nd_take 22 hHeld ?_
                      refine nd_take 23 hHeld ?_
                      refine nd_take 24 hHeld ?_
                      refine nd_take 25 hHeld ?_
                      refine nd_take 26 hHeld ?_
                      refine nd_take 27 hHeld ?_
                      refine nd_take 28 hHeld ?_
                      refine nd_take 29 hHeld ?_
                      refine nd_take 30 hHeld ?_
                      refine nd_take 31 hHeld ?_
                      refine nd_take 32 hHeld ?_
                      refine nd_take 33 hHeld ?_
                      refine nd_take 34 hHeld ?_
                      refine nd_take 35 hHeld ?_
                      refine nd_take 36 hHeld ?_
                      refine nd_take 37 hHeld ?_
                      refine wpAnyH_done (by kernel_rfl) ?_ _
                      have FB := Aside0.mk (FIN.out _ hHeld.1)
                      clear hHeld
                      go_wp2_with fail
                      go_roundw
                      case rel => exact ⟨m + 1 + 1, by omega, by first | rfl | (simp; done) | go_num, HT, HA2, FB⟩
                      case measure => simp [intOf]; omega



            · have d1 : decide (k < l0_1.length) = false := decide_eq_false h
              have d1' : decide ((k : Int) < (l0_1.length : Int)) = false := decide_eq_false (by omega)
              have OKP : Aside0 (l0_1.any badP = false ∧ risesB (l0_1.map (·.f0)) = true) := ⟨by have := HTK.out; rwa [List.take_of_length_le (by omega)] at this, rises_true (fun j hj => HA.out j (by (try simp at hj); omega))⟩
              clear HTK HA
              go_wp2_with fail
              clear hbx
              go_loopw [4] (fun v w' => ∃ k : Nat, k ≤ l0_2.length ∧ v = .int .i64 (k : Int) ∧ Aside0 ((l0_2.take k).any badS = false) ∧ Aside0 (∀ j, j + 1 < k → Op.bytesLess (l0_2.getD j ByteArray.empty).toList (l0_2.getD (j + 1) ByteArray.empty).toList = true) ∧ Aside0 (Below wa.heap.size wa w')) (fun v _ => (l0_2.length - intOf v).toNat)
              case atStart => exact ⟨0, by omega, rfl, ⟨by simp⟩, ⟨fun j hj => by omega⟩, HX2⟩
              case round =>
                obtain ⟨k, hk, rfl, HTK, HA, HX2⟩ := hrel
                have hbx : wr.cell? ⟨w.heap.size, 2, none⟩ = some (.slice A0_2 l0_2.length c0_2) := nd_cell HX2.out BC2.out
                by_cases h : k < l0_2.length
                · have d1 : decide (k < l0_2.length) = true := decide_eq_true h
                  have d1' : decide ((k : Int) < (l0_2.length : Int)) = true := decide_eq_true (by omega)
                  have HB : Aside0 (Below w.heap.size w wr) := ⟨BA.out.trans (HX2.out.mono BA.out.size)⟩
                  by_cases hk0 : k = 0
                  · subst hk0
                    have z0 : decide ((0 : Int) < 0) = false := rfl
                    obtain ⟨x, xe'⟩ : ∃ x, x = rdOf ByteArray.empty l0_2 ((0 : Nat) : Int) := ⟨_, rfl⟩
                    have xe := xe'.symm
                    obtain ⟨adx, hax, hx0⟩ := Kd.at_string (Kd.C_below R2.out HB.out) ((0 : Nat) : Int) (by omega) (by omega)
                    rw [Int.toNat_natCast, show rdOf ByteArray.empty l0_2 ((0 : Nat) : Int) = x from xe] at hx0
                    have HXE : Aside0 (l0_2[0] = x) := ⟨by rw [xe']; simp [rdOf, List.getD_eq_getElem?_getD, h]⟩
                    clear xe xe'
                    subst hax
                    replace hx0 : wr.cell? adx = some (.string x) := by simpa [Addr.add_zero'] using hx0
                    obtain ⟨kb, hkb⟩ : ∃ b, b = keyB x := ⟨_, rfl⟩
                    have KY : Aside0 (∀ W, Calls Try.prog 29 #[.string x] W fun e w' => e = .returned (.bool kb) ∧ Drawn0 W w') := ⟨fun W => cisternref11_Key.calls x kb W (by rw [key_val, hkb])⟩
                    cases kb
                    · have HBD : Aside0 (badS l0_2[0] = true) := ⟨by rw [HXE.out]; unfold badS; rw [← hkb]; rfl⟩
                      clear hkb
                      have MK : Aside0 (∀ w1, Below wr.heap.size wr w1 → Below wr.heap.size wr w1 ∧ w1.cell? ⟨w.heap.size, 2, none⟩ = some (.slice (some adx) l0_2.length c0_2) ∧ w1.cell? adx = some (.string x)) := ⟨fun w1 hb => ⟨hb, nd_cell hb hbx, nd_cell hb hx0⟩⟩
                      have FIN : Aside0 (∀ w1, Below wr.heap.size wr w1 → Below wa.heap.size wa w1) := ⟨fun w1 hb => HX2.out.trans (hb.mono HX2.out.size)⟩
                      have RF : Aside0 (false = r) := ⟨by rw [HR.out, ok_badS (List.getElem_mem h) HBD.out, Bool.and_false]⟩
                      clear hx0
                      go_wp2_with fail
                      refine wp_region_held_drew (S := fun w1 => Below wr.heap.size wr w1 ∧ w1.cell? ⟨w.heap.size, 2, none⟩ = some (.slice (some adx) l0_2.length c0_2) ∧ w1.cell? adx = some (.string x)) (by kernel_rfl) ?_ (fun hHeld => ?_)
                      · try dsimp only
                        first | exact MK.out _ (Below.drew (Below.refl _ _)) | exact MK.out _ SB1.out | assumption
                      refine nd_take 0 hHeld ?_
                      refine nd_take 1 hHeld ?_
                      refine nd_take 2 hHeld ?_
                      refine nd_take 3 hHeld ?_
                      refine nd_take 4 hHeld ?_
                      refine wpAnyH_ready (rs := [5]) (by kernel_rfl) (by simp) ?_
                      refine AllReadyH.cons rfl (fun K hK => ?_) AllReadyH.nil
                      go_simp
                      refine (KY.out _).mono ?_
                      rintro e w6 ⟨rfl, hd6⟩
                      have SB1 : Aside0 (Below wr.heap.size wr w6) := ⟨Below.trans hHeld.1 (hd6.below.mono hHeld.1.size)⟩
                      clear hd6
                      go_simp
                      refine hK.out _ _ ?_ (fun hNew => ?_)
                      · try dsimp only
                        first | exact MK.out _ (Below.drew (Below.refl _ _)) | exact MK.out _ SB1.out | assumption
                      clear hK K hHeld
                      have hHeld := hNew
                      clear hNew
                      refine nd_take 6 hHeld ?_
                      refine nd_take 7 hHeld ?_
                      refine nd_skip 8 hHeld ?_
                      refine nd_skip 9 hHeld ?_
                      refine nd_skip 10 hHeld ?_
                      refine nd_skip 11 hHeld ?_
                      refine nd_skip 12 hHeld ?_
                      refine nd_skip 13 hHeld ?_
                      refine nd_skip 14 hHeld ?_
                      refine nd_skip 15 hHeld ?_
                      refine nd_skip 16 hHeld ?_
                      refine nd_skip 17 hHeld ?_
                      refine nd_skip 18 hHeld ?_
                      refine nd_skip 19 hHeld ?_
                      refine nd_skip 20 hHeld ?_
                      refine nd_skip 21 hHeld ?_
                      refine nd_skip 22 hHeld ?_
                      refine nd_skip 23 hHeld ?_
                      refine nd_take 24 hHeld ?_
                      refine wpAnyH_done (by kernel_rfl) ?_ _
                      go_wp2_with fail
                      go_ret
                      exact ⟨by rw [← RF.out]; rfl, (BA.out.trans ((FIN.out _ hHeld.1).mono BA.out.size))⟩

                    · have HBG : Aside0 (badS l0_2[0] = false) := ⟨by rw [HXE.out]; unfold badS; rw [← hkb]; rfl⟩
                      clear hkb
                      have HT : Aside0 ((l0_2.take (1)).any badS = false) := ⟨take_any _ _ 0 h HTK.out HBG.out⟩
                      have HA2 : Aside0 (∀ j, j + 1 < 1 → Op.bytesLess (l0_2.getD j ByteArray.empty).toList (l0_2.getD (j + 1) ByteArray.empty).toList = true) := ⟨fun j hj => by omega⟩
                      have MK : Aside0 (∀ w1, Below wr.heap.size wr w1 → Below wr.heap.size wr w1 ∧ w1.cell? ⟨w.heap.size, 2, none⟩ = some (.slice (some adx) l0_2.length c0_2) ∧ w1.cell? adx = some (.string x)) := ⟨fun w1 hb => ⟨hb, nd_cell hb hbx, nd_cell hb hx0⟩⟩
                      have FIN : Aside0 (∀ w1, Below wr.heap.size wr w1 → Below wa.heap.size wa w1) := ⟨fun w1 hb => HX2.out.trans (hb.mono HX2.out.size)⟩
                      clear hx0
                      go_wp2_with fail
                      refine wp_region_held_drew (S := fun w1 => Below wr.heap.size wr w1 ∧ w1.cell? ⟨w.heap.size, 2, none⟩ = some (.slice (some adx) l0_2.length c0_2) ∧ w1.cell? adx = some (.string x)) (by kernel_rfl) ?_ (fun hHeld => ?_)
                      · try dsimp only
                        first | exact MK.out _ (Below.drew (Below.refl _ _)) | exact MK.out _ SB1.out | assumption
                      refine nd_take 0 hHeld ?_
                      refine nd_take 1 hHeld ?_
                      refine nd_take 2 hHeld ?_
                      refine nd_take 3 hHeld ?_
                      refine nd_take 4 hHeld ?_
                      refine wpAnyH_ready (rs := [5]) (by kernel_rfl) (by simp) ?_
                      refine AllReadyH.cons rfl (fun K hK => ?_) AllReadyH.nil
                      go_simp
                      refine (KY.out _).mono ?_
                      rintro e w6 ⟨rfl, hd6⟩
                      have SB1 : Aside0 (Below wr.heap.size wr w6) := ⟨Below.trans hHeld.1 (hd6.below.mono hHeld.1.size)⟩
                      clear hd6
                      go_simp
                      refine hK.out _ _ ?_ (fun hNew => ?_)
                      · try dsimp only
                        first | exact MK.out _ (Below.drew (Below.refl _ _)) | exact MK.out _ SB1.out | assumption
                      clear hK K hHeld
                      have hHeld := hNew
                      clear hNew
                      refine nd_take 6 hHeld ?_
                      refine nd_take 7 hHeld ?_
                      refine nd_take 8 hHeld ?_
                      refine nd_take 9 hHeld ?_
                      refine nd_take 10 hHeld ?_
                      refine nd_skip 11 hHeld ?_
                      refine nd_skip 12 hHeld ?_
                      refine nd_skip 13 hHeld ?_
                      refine nd_skip 14 hHeld ?_
                      refine nd_skip 15 hHeld ?_
                      refine nd_skip 16 hHeld ?_
                      refine nd_skip 17 hHeld ?_
                      refine nd_skip 18 hHeld ?_
                      refine nd_skip 19 hHeld ?_
                      refine nd_skip 20 hHeld ?_
                      refine nd_skip 21 hHeld ?_
                      refine nd_skip 22 hHeld ?_
                      refine nd_take 23 hHeld ?_
                      refine nd_take 24 hHeld ?_
                      refine wpAnyH_done (by kernel_rfl) ?_ _
                      have FB := Aside0.mk (FIN.out _ hHeld.1)
                      clear hHeld
                      go_wp2_with fail
                      go_roundw
                      case rel => exact ⟨1, by omega, by first | rfl | (simp; done) | go_num, HT, HA2, FB⟩
                      case measure => simp [intOf]; omega


                  · obtain ⟨m, rfl⟩ : ∃ m, k = m + 1 := ⟨k - 1, by omega⟩
                    clear hk0
                    have z0 : decide ((0 : Int) < ((m + 1 : Nat) : Int)) = true := decide_eq_true (by omega)
                    have z0' : decide ((0 : Int) < (m : Int) + 1) = true := decide_eq_true (by omega)
                    have e1 : wrap64 (((m + 1 : Nat) : Int) - 1) = (m : Int) := by unfold wrap64; omega
                    have e1b : wrap64 ((m : Int) + 1 - 1) = (m : Int) := by unfold wrap64; omega
                    have e1c : wrap64 (m : Int) = (m : Int) := by unfold wrap64; omega
                    have e1d : IntKind.i64.wrap (m : Int) = (m : Int) := by rw [IntKind.wrap_i64]; omega
                    have p1 : (0 : Int) ≤ (m : Int) := by omega
                    have q1 : (m : Int) < (l0_2.length : Int) := by omega
                    have p2b : (0 : Int) ≤ (m : Int) + 1 := by omega
                    have q2b : (m : Int) + 1 < (l0_2.length : Int) := by omega
                    have e2b : ((m : Int) + 1).toNat = m + 1 := by omega
                    obtain ⟨x, xe'⟩ : ∃ x, x = rdOf ByteArray.empty l0_2 ((m + 1 : Nat) : Int) := ⟨_, rfl⟩
                    have xe := xe'.symm
                    obtain ⟨adx, hax, hx0⟩ := Kd.at_string (Kd.C_below R2.out HB.out) ((m + 1 : Nat) : Int) (by omega) (by omega)
                    rw [Int.toNat_natCast, show rdOf ByteArray.empty l0_2 ((m + 1 : Nat) : Int) = x from xe] at hx0
                    have HXE : Aside0 (l0_2[m + 1] = x) := ⟨by rw [xe']; simp [rdOf, List.getD_eq_getElem?_getD, h]⟩
                    clear xe xe'
                    obtain ⟨y, ye'⟩ : ∃ y, y = rdOf ByteArray.empty l0_2 ((m : Nat) : Int) := ⟨_, rfl⟩
                    have ye := ye'.symm
                    obtain ⟨ady0, hay0, hy0⟩ := Kd.at_string (Kd.C_below R2.out HB.out) ((m : Nat) : Int) (by omega) (by omega)
                    rw [Int.toNat_natCast, show rdOf ByteArray.empty l0_2 ((m : Nat) : Int) = y from ye] at hy0
                    rw [hax] at hay0
                    cases hay0
                    have hm' : m < l0_2.length := by omega
                    have HYE : Aside0 (l0_2[m] = y) := ⟨by rw [ye']; simp [rdOf, List.getD_eq_getElem?_getD, hm']⟩
                    clear ye ye'
                    subst hax
                    obtain ⟨kb, hkb⟩ : ∃ b, b = keyB x := ⟨_, rfl⟩
                    have KY : Aside0 (∀ W, Calls Try.prog 29 #[.string x] W fun e w' => e = .returned (.bool kb) ∧ Drawn0 W w') := ⟨fun W => cisternref11_Key.calls x kb W (by rw [key_val, hkb])⟩
                    cases kb
                    · have HBD : Aside0 (badS l0_2[m + 1] = true) := ⟨by rw [HXE.out]; unfold badS; rw [← hkb]; rfl⟩
                      clear hkb
                      have MK : Aside0 (∀ w1, Below wr.heap.size wr w1 → Below wr.heap.size wr w1 ∧ w1.cell? ⟨w.heap.size, 2, none⟩ = some (.slice (some adx) l0_2.length c0_2) ∧ w1.cell? (adx.add (m + 1)) = some (.string x) ∧ w1.cell? ⟨adx.block, adx.off + (m + 1), none⟩ = some (.string x) ∧ w1.cell? (adx.add m) = some (.string y)) := ⟨fun w1 hb => ⟨hb, nd_cell hb hbx, nd_cell hb hx0, nd_cell hb (by exact hx0), nd_cell hb hy0⟩⟩
                      have FIN : Aside0 (∀ w1, Below wr.heap.size wr w1 → Below wa.heap.size wa w1) := ⟨fun w1 hb => HX2.out.trans (hb.mono HX2.out.size)⟩
                      have RF : Aside0 (false = r) := ⟨by rw [HR.out, ok_badS (List.getElem_mem h) HBD.out, Bool.and_false]⟩
                      clear hx0 hy0
                      go_wp2_with fail
                      refine wp_region_held_drew (S := fun w1 => Below wr.heap.size wr w1 ∧ w1.cell? ⟨w.heap.size, 2, none⟩ = some (.slice (some adx) l0_2.length c0_2) ∧ w1.cell? (adx.add (m + 1)) = some (.string x) ∧ w1.cell? ⟨adx.block, adx.off + (m + 1), none⟩ = some (.string x) ∧ w1.cell? (adx.add m) = some (.string y)) (by kernel_rfl) ?_ (fun hHeld => ?_)
                      · try dsimp only
                        first | exact MK.out _ (Below.drew (Below.refl _ _)) | exact MK.out _ SB1.out | assumption
                      refine nd_take 0 hHeld ?_
                      refine nd_take 1 hHeld ?_
                      refine nd_take 2 hHeld ?_
                      refine nd_take 3 hHeld ?_
                      refine nd_take 4 hHeld ?_
                      refine wpAnyH_ready (rs := [5]) (by kernel_rfl) (by simp) ?_
                      refine AllReadyH.cons rfl (fun K hK => ?_) AllReadyH.nil
                      go_simp
                      refine (KY.out _).mono ?_
                      rintro e w6 ⟨rfl, hd6⟩
                      have SB1 : Aside0 (Below wr.heap.size wr w6) := ⟨Below.trans hHeld.1 (hd6.below.mono hHeld.1.size)⟩
                      clear hd6
                      go_simp
                      refine hK.out _ _ ?_ (fun hNew => ?_)
                      · try dsimp only
                        first | exact MK.out _ (Below.drew (Below.refl _ _)) | exact MK.out _ SB1.out | assumption
                      clear hK K hHeld
                      have hHeld := hNew
                      clear hNew
                      refine nd_take 6 hHeld ?_
                      refine nd_take 7 hHeld ?_
                      refine nd_skip 8 hHeld ?_
                      refine nd_skip 9 hHeld ?_
                      refine nd_skip 10 hHeld ?_
                      refine nd_skip 11 hHeld ?_
                      refine nd_skip 12 hHeld ?_
                      refine nd_skip 13 hHeld ?_
                      refine nd_skip 14 hHeld ?_
                      refine nd_skip 15 hHeld ?_
                      refine nd_skip 16 hHeld ?_
                      refine nd_skip 17 hHeld ?_
                      refine nd_skip 18 hHeld ?_
                      refine nd_skip 19 hHeld ?_
                      refine nd_skip 20 hHeld ?_
                      refine nd_skip 21 hHeld ?_
                      refine nd_skip 22 hHeld ?_
                      refine nd_skip 23 hHeld ?_
                      refine nd_take 24 hHeld ?_
                      refine wpAnyH_done (by kernel_rfl) ?_ _
                      go_wp2_with fail
                      go_ret
                      exact ⟨by rw [← RF.out]; rfl, (BA.out.trans ((FIN.out _ hHeld.1).mono BA.out.size))⟩

                    · have HBG : Aside0 (badS l0_2[m + 1] = false) := ⟨by rw [HXE.out]; unfold badS; rw [← hkb]; rfl⟩
                      clear hkb
                      have HT : Aside0 ((l0_2.take (m + 1 + 1)).any badS = false) := ⟨take_any _ _ (m + 1) h HTK.out HBG.out⟩
                      obtain ⟨b, hb⟩ : ∃ b, b = Op.bytesLess y.toList x.toList := ⟨_, rfl⟩
                      have Hb := Aside0.mk hb
                      have hb' : Op.bytesLess y.toList x.toList = b := hb.symm
                      clear hb
                      have HG : Aside0 (l0_2.getD m ByteArray.empty = y ∧ l0_2.getD (m + 1) ByteArray.empty = x) := ⟨by rw [← HXE.out, ← HYE.out]; constructor <;> simp [List.getD_eq_getElem?_getD, h, show m < l0_2.length by omega]⟩
                      cases b
                      · have HFL : Aside0 (risesB l0_2 = false) := ⟨rises_false m (by simpa using h) (by rw [HG.out.1, HG.out.2]; exact Hb.out.symm)⟩
                        have MK : Aside0 (∀ w1, Below wr.heap.size wr w1 → Below wr.heap.size wr w1 ∧ w1.cell? ⟨w.heap.size, 2, none⟩ = some (.slice (some adx) l0_2.length c0_2) ∧ w1.cell? (adx.add (m + 1)) = some (.string x) ∧ w1.cell? ⟨adx.block, adx.off + (m + 1), none⟩ = some (.string x) ∧ w1.cell? (adx.add m) = some (.string y)) := ⟨fun w1 hb => ⟨hb, nd_cell hb hbx, nd_cell hb hx0, nd_cell hb (by exact hx0), nd_cell hb hy0⟩⟩
                        have FIN : Aside0 (∀ w1, Below wr.heap.size wr w1 → Below wa.heap.size wa w1) := ⟨fun w1 hb => HX2.out.trans (hb.mono HX2.out.size)⟩
                        have RF : Aside0 (false = r) := ⟨by rw [HR.out, ok_fallS HFL.out, Bool.and_false]⟩
                        clear hx0 hy0
                        go_wp2_with fail
                        refine wp_region_held_drew (S := fun w1 => Below wr.heap.size wr w1 ∧ w1.cell? ⟨w.heap.size, 2, none⟩ = some (.slice (some adx) l0_2.length c0_2) ∧ w1.cell? (adx.add (m + 1)) = some (.string x) ∧ w1.cell? ⟨adx.block, adx.off + (m + 1), none⟩ = some (.string x) ∧ w1.cell? (adx.add m) = some (.string y)) (by kernel_rfl) ?_ (fun hHeld => ?_)
                        · try dsimp only
                          first | exact MK.out _ (Below.drew (Below.refl _ _)) | exact MK.out _ SB1.out | assumption
                        refine nd_take 0 hHeld ?_
                        refine nd_take 1 hHeld ?_
                        refine nd_take 2 hHeld ?_
                        refine nd_take 3 hHeld ?_
                        refine nd_take 4 hHeld ?_
                        refine wpAnyH_ready (rs := [5]) (by kernel_rfl) (by simp) ?_
                        refine AllReadyH.cons rfl (fun K hK => ?_) AllReadyH.nil
                        go_simp
                        refine (KY.out _).mono ?_
                        rintro e w6 ⟨rfl, hd6⟩
                        have SB1 : Aside0 (Below wr.heap.size wr w6) := ⟨Below.trans hHeld.1 (hd6.below.mono hHeld.1.size)⟩
                        clear hd6
                        go_simp
                        refine hK.out _ _ ?_ (fun hNew => ?_)
                        · try dsimp only
                          first | exact MK.out _ (Below.drew (Below.refl _ _)) | exact MK.out _ SB1.out | assumption
                        clear hK K hHeld
                        have hHeld := hNew
                        clear hNew
                        refine nd_take 6 hHeld ?_
                        refine nd_take 7 hHeld ?_
                        refine nd_take 8 hHeld ?_
                        refine nd_take 9 hHeld ?_
                        refine nd_take 10 hHeld ?_
                        refine nd_take 11 hHeld ?_
                        refine nd_take 12 hHeld ?_
                        refine nd_take 13 hHeld ?_
                        refine nd_take 14 hHeld ?_
                        refine nd_take 15 hHeld ?_
                        refine nd_take 16 hHeld ?_
                        refine nd_take 17 hHeld ?_
                        refine nd_take 18 hHeld ?_
                        refine nd_take 19 hHeld ?_
                        refine nd_take 20 hHeld ?_
                        refine nd_take 21 hHeld ?_
                        refine nd_take 22 hHeld ?_
                        refine nd_take 23 hHeld ?_
                        refine nd_take 24 hHeld ?_
                        refine wpAnyH_done (by kernel_rfl) ?_ _
                        go_wp2_with fail
                        go_ret
                        exact ⟨by rw [← RF.out]; rfl, (BA.out.trans ((FIN.out _ hHeld.1).mono BA.out.size))⟩

                      · have HA2 : Aside0 (∀ j, j + 1 < m + 1 + 1 → Op.bytesLess (l0_2.getD j ByteArray.empty).toList (l0_2.getD (j + 1) ByteArray.empty).toList = true) := ⟨fun j hj => by
                          by_cases e : j = m
                          · subst e
                            rw [HG.out.1, HG.out.2]
                            exact Hb.out.symm
                          · exact HA.out j (by omega)⟩
                        have MK : Aside0 (∀ w1, Below wr.heap.size wr w1 → Below wr.heap.size wr w1 ∧ w1.cell? ⟨w.heap.size, 2, none⟩ = some (.slice (some adx) l0_2.length c0_2) ∧ w1.cell? (adx.add (m + 1)) = some (.string x) ∧ w1.cell? ⟨adx.block, adx.off + (m + 1), none⟩ = some (.string x) ∧ w1.cell? (adx.add m) = some (.string y)) := ⟨fun w1 hb => ⟨hb, nd_cell hb hbx, nd_cell hb hx0, nd_cell hb (by exact hx0), nd_cell hb hy0⟩⟩
                        have FIN : Aside0 (∀ w1, Below wr.heap.size wr w1 → Below wa.heap.size wa w1) := ⟨fun w1 hb => HX2.out.trans (hb.mono HX2.out.size)⟩
                        clear hx0 hy0
                        go_wp2_with fail
                        refine wp_region_held_drew (S := fun w1 => Below wr.heap.size wr w1 ∧ w1.cell? ⟨w.heap.size, 2, none⟩ = some (.slice (some adx) l0_2.length c0_2) ∧ w1.cell? (adx.add (m + 1)) = some (.string x) ∧ w1.cell? ⟨adx.block, adx.off + (m + 1), none⟩ = some (.string x) ∧ w1.cell? (adx.add m) = some (.string y)) (by kernel_rfl) ?_ (fun hHeld => ?_)
                        · try dsimp only
                          first | exact MK.out _ (Below.drew (Below.refl _ _)) | exact MK.out _ SB1.out | assumption
                        refine nd_take 0 hHeld ?_
                        refine nd_take 1 hHeld ?_
                        refine nd_take 2 hHeld ?_
                        refine nd_take 3 hHeld ?_
                        refine nd_take 4 hHeld ?_
                        refine wpAnyH_ready (rs := [5]) (by kernel_rfl) (by simp) ?_
                        refine AllReadyH.cons rfl (fun K hK => ?_) AllReadyH.nil
                        go_simp
                        refine (KY.out _).mono ?_
                        rintro e w6 ⟨rfl, hd6⟩
                        have SB1 : Aside0 (Below wr.heap.size wr w6) := ⟨Below.trans hHeld.1 (hd6.below.mono hHeld.1.size)⟩
                        clear hd6
                        go_simp
                        refine hK.out _ _ ?_ (fun hNew => ?_)
                        · try dsimp only
                          first | exact MK.out _ (Below.drew (Below.refl _ _)) | exact MK.out _ SB1.out | assumption
                        clear hK K hHeld
                        have hHeld := hNew
                        clear hNew
                        refine nd_take 6 hHeld ?_
                        refine nd_take 7 hHeld ?_
                        refine nd_take 8 hHeld ?_
                        refine nd_take 9 hHeld ?_
                        refine nd_take 10 hHeld ?_
                        refine nd_take 11 hHeld ?_
                        refine nd_take 12 hHeld ?_
                        refine nd_take 13 hHeld ?_
                        refine nd_take 14 hHeld ?_
                        refine nd_take 15 hHeld ?_
                        refine nd_take 16 hHeld ?_
                        refine nd_take 17 hHeld ?_
                        refine nd_take 18 hHeld ?_
                        refine nd_take 19 hHeld ?_
                        refine nd_take 20 hHeld ?_
                        refine nd_take 21 hHeld ?_
                        refine nd_take 22 hHeld ?_
                        refine nd_take 23 hHeld ?_
                        refine nd_take 24 hHeld ?_
                        refine wpAnyH_done (by kernel_rfl) ?_ _
                        have FB := Aside0.mk (FIN.out _ hHeld.1)
                        clear hHeld
                        go_wp2_with fail
                        go_roundw
                        case rel => exact ⟨m + 1 + 1, by omega, by first | rfl | (simp; done) | go_num, HT, HA2, FB⟩
                        case measure => simp [intOf]; omega



                · have d1 : decide (k < l0_2.length) = false := decide_eq_false h
                  have d1' : decide ((k : Int) < (l0_2.length : Int)) = false := decide_eq_false (by omega)
                  have OKS : Aside0 (l0_2.any badS = false ∧ risesB l0_2 = true) := ⟨by have := HTK.out; rwa [List.take_of_length_le (by omega)] at this, rises_true (fun j hj => HA.out j (by (try simp at hj); omega))⟩
                  clear HTK HA
                  go_wp2_with fail
                  clear hbx
                  go_loopw [5] (fun v w' => ∃ k : Nat, k ≤ l0_3.length ∧ v = .int .i64 (k : Int) ∧ Aside0 ((l0_3.take k).any badI = false) ∧ Aside0 (Below wa.heap.size wa w')) (fun v _ => (l0_3.length - intOf v).toNat)
                  case atStart => exact ⟨0, by omega, rfl, ⟨by simp⟩, HX2⟩
                  case round =>
                    obtain ⟨k, hk, rfl, HTK, HX2⟩ := hrel
                    have hbx : wr.cell? ⟨w.heap.size, 3, none⟩ = some (.slice A0_3 l0_3.length c0_3) := nd_cell HX2.out BC3.out
                    by_cases h : k < l0_3.length
                    · have d1 : decide (k < l0_3.length) = true := decide_eq_true h
                      have d1' : decide ((k : Int) < (l0_3.length : Int)) = true := decide_eq_true (by omega)
                      have HB : Aside0 (Below w.heap.size w wr) := ⟨BA.out.trans (HX2.out.mono BA.out.size)⟩
                      have p1 : (0 : Int) ≤ (k : Int) := by omega
                      have q1 : (k : Int) < (l0_3.length : Int) := by omega
                      obtain ⟨ad, e, hx⟩ := Kd.at_int (Kd.C_below R3.out HB.out) (k : Int) p1 q1
                      cases e
                      obtain ⟨x, hxx⟩ : ∃ x, x = rd l0_3 (k : Int) := ⟨_, rfl⟩
                      rw [← hxx] at hx
                      have HXE : Aside0 (l0_3[k] = x) := ⟨by rw [hxx]; simp [rd, List.getD_eq_getElem?_getD, h]⟩
                      clear hxx
                      rw [Int.toNat_natCast] at hx
                      by_cases h1 : x < 1
                      · have f1 : decide (x < 1) = true := decide_eq_true h1
                        have RF : Aside0 (false = r) := ⟨by rw [HR.out, ok_badI (List.getElem_mem h) (by rw [HXE.out]; unfold badI; rw [f1]; rfl), Bool.and_false]⟩
                        clear h1
                        go_wp2_with fail
                        go_ret
                        exact ⟨by rw [← RF.out]; rfl, BA.out.trans (HX2.out.mono BA.out.size)⟩
                      · have f1 : decide (x < 1) = false := decide_eq_false h1
                        by_cases h2 : 65535 < x
                        · have f2 : decide (65535 < x) = true := decide_eq_true h2
                          have RF : Aside0 (false = r) := ⟨by rw [HR.out, ok_badI (List.getElem_mem h) (by rw [HXE.out]; unfold badI; rw [f2]; simp), Bool.and_false]⟩
                          clear h1 h2
                          go_wp2_with fail
                          go_ret
                          exact ⟨by rw [← RF.out]; rfl, BA.out.trans (HX2.out.mono BA.out.size)⟩
                        · have f2 : decide (65535 < x) = false := decide_eq_false h2
                          have HT : Aside0 ((l0_3.take (k + 1)).any badI = false) := ⟨take_any _ _ k h HTK.out (by rw [HXE.out]; unfold badI; rw [f1, f2]; rfl)⟩
                          clear h1 h2
                          go_wp2_with fail
                          go_roundw
                          case rel => exact ⟨k + 1, by omega, by first | rfl | (simp; done) | go_num, HT, HX2⟩
                          case measure => simp [intOf]; omega
                    · have d1 : decide (k < l0_3.length) = false := decide_eq_false h
                      have d1' : decide ((k : Int) < (l0_3.length : Int)) = false := decide_eq_false (by omega)
                      have RF : Aside0 (true = r) := ⟨by
                        have hi := HTK.out
                        rw [List.take_of_length_le (by omega)] at hi
                        rw [HR.out, GD.out]
                        unfold okV
                        rw [OKP.out.1, OKP.out.2, OKS.out.1, OKS.out.2, hi]
                        rfl⟩
                      go_wp2_with fail
                      go_ret
                      exact ⟨by rw [← RF.out]; rfl, BA.out.trans (HX2.out.mono BA.out.size)⟩

        · have ge0 : decide ((0 : Int) < (l0_3.length : Int)) = true := decide_eq_true (by omega)
          have ge1 : decide (0 < l0_3.length) = true := decide_eq_true (by omega)
          have RF : Aside0 (false = r) := ⟨by rw [HR.out, show gdV true l0_1 l0_2 l0_3 = false by unfold gdV; simp [hp, hd, hk, he], Bool.false_and]⟩
          clear hp hd hk he
          have bx := heap_alloc_new w (.cells #[.bool true, .slice A0_1 l0_1.length c0_1, .slice A0_2 l0_2.length c0_2, .slice A0_3 l0_3.length c0_3] 26)
          have xa := below_alloc (Below.refl w.heap.size w) (.cells #[.bool true, .slice A0_1 l0_1.length c0_1, .slice A0_2 l0_2.length c0_2, .slice A0_3 l0_3.length c0_3] 26)
          obtain ⟨wa, hwa⟩ : ∃ wa, wa = w.alloc (.cells #[.bool true, .slice A0_1 l0_1.length c0_1, .slice A0_2 l0_2.length c0_2, .slice A0_3 l0_3.length c0_3] 26) := ⟨_, rfl⟩
          have HWA := Aside0.mk hwa
          rw [← hwa] at bx xa
          have BA := Aside0.mk xa
          clear hwa xa
          have b0 : wa.cell? ⟨w.heap.size, 0, none⟩ = some (.bool true) := blk_cell bx 0
          have b1 : wa.cell? ⟨w.heap.size, 1, none⟩ = some (.slice A0_1 l0_1.length c0_1) := blk_cell bx 1
          have b2 : wa.cell? ⟨w.heap.size, 2, none⟩ = some (.slice A0_2 l0_2.length c0_2) := blk_cell bx 2
          have b3 : wa.cell? ⟨w.heap.size, 3, none⟩ = some (.slice A0_3 l0_3.length c0_3) := blk_cell bx 3
          have BC1 := Aside0.mk b1
          have BC2 := Aside0.mk b2
          have BC3 := Aside0.mk b3
          clear bx

          go_enter Try.func26, Try.ntmps26
          go_wp2_with fail
          go_ret
          exact ⟨by rw [← RF.out]; rfl, by rw [← HWA.out]; exact BA.out⟩

      · have gk0 : decide ((0 : Int) < (l0_2.length : Int)) = true := decide_eq_true (by omega)
        have gk1 : decide (0 < l0_2.length) = true := decide_eq_true (by omega)
        have RF : Aside0 (false = r) := ⟨by rw [HR.out, show gdV true l0_1 l0_2 l0_3 = false by unfold gdV; simp [hp, hd, hk], Bool.false_and]⟩
        clear hp hd hk
        have bx := heap_alloc_new w (.cells #[.bool true, .slice A0_1 l0_1.length c0_1, .slice A0_2 l0_2.length c0_2, .slice A0_3 l0_3.length c0_3] 26)
        have xa := below_alloc (Below.refl w.heap.size w) (.cells #[.bool true, .slice A0_1 l0_1.length c0_1, .slice A0_2 l0_2.length c0_2, .slice A0_3 l0_3.length c0_3] 26)
        obtain ⟨wa, hwa⟩ : ∃ wa, wa = w.alloc (.cells #[.bool true, .slice A0_1 l0_1.length c0_1, .slice A0_2 l0_2.length c0_2, .slice A0_3 l0_3.length c0_3] 26) := ⟨_, rfl⟩
        have HWA := Aside0.mk hwa
        rw [← hwa] at bx xa
        have BA := Aside0.mk xa
        clear hwa xa
        have b0 : wa.cell? ⟨w.heap.size, 0, none⟩ = some (.bool true) := blk_cell bx 0
        have b1 : wa.cell? ⟨w.heap.size, 1, none⟩ = some (.slice A0_1 l0_1.length c0_1) := blk_cell bx 1
        have b2 : wa.cell? ⟨w.heap.size, 2, none⟩ = some (.slice A0_2 l0_2.length c0_2) := blk_cell bx 2
        have b3 : wa.cell? ⟨w.heap.size, 3, none⟩ = some (.slice A0_3 l0_3.length c0_3) := blk_cell bx 3
        have BC1 := Aside0.mk b1
        have BC2 := Aside0.mk b2
        have BC3 := Aside0.mk b3
        clear bx

        go_enter Try.func26, Try.ntmps26
        go_wp2_with fail
        go_ret
        exact ⟨by rw [← RF.out]; rfl, by rw [← HWA.out]; exact BA.out⟩

    · have gd0 : decide ((255 : Int) < (l0_3.length : Int)) = true := decide_eq_true (by omega)
      have gd1 : decide (255 < l0_3.length) = true := decide_eq_true (by omega)
      have RF : Aside0 (false = r) := ⟨by rw [HR.out, show gdV true l0_1 l0_2 l0_3 = false by unfold gdV; simp [hp, hd], Bool.false_and]⟩
      clear hp hd
      have bx := heap_alloc_new w (.cells #[.bool true, .slice A0_1 l0_1.length c0_1, .slice A0_2 l0_2.length c0_2, .slice A0_3 l0_3.length c0_3] 26)
      have xa := below_alloc (Below.refl w.heap.size w) (.cells #[.bool true, .slice A0_1 l0_1.length c0_1, .slice A0_2 l0_2.length c0_2, .slice A0_3 l0_3.length c0_3] 26)
      obtain ⟨wa, hwa⟩ : ∃ wa, wa = w.alloc (.cells #[.bool true, .slice A0_1 l0_1.length c0_1, .slice A0_2 l0_2.length c0_2, .slice A0_3 l0_3.length c0_3] 26) := ⟨_, rfl⟩
      have HWA := Aside0.mk hwa
      rw [← hwa] at bx xa
      have BA := Aside0.mk xa
      clear hwa xa
      have b0 : wa.cell? ⟨w.heap.size, 0, none⟩ = some (.bool true) := blk_cell bx 0
      have b1 : wa.cell? ⟨w.heap.size, 1, none⟩ = some (.slice A0_1 l0_1.length c0_1) := blk_cell bx 1
      have b2 : wa.cell? ⟨w.heap.size, 2, none⟩ = some (.slice A0_2 l0_2.length c0_2) := blk_cell bx 2
      have b3 : wa.cell? ⟨w.heap.size, 3, none⟩ = some (.slice A0_3 l0_3.length c0_3) := blk_cell bx 3
      have BC1 := Aside0.mk b1
      have BC2 := Aside0.mk b2
      have BC3 := Aside0.mk b3
      clear bx

      go_enter Try.func26, Try.ntmps26
      go_wp2_with fail
      go_ret
      exact ⟨by rw [← RF.out]; rfl, by rw [← HWA.out]; exact BA.out⟩

  · have gp0 : decide ((255 : Int) < (l0_1.length : Int)) = true := decide_eq_true (by omega)
    have gp1 : decide (255 < l0_1.length) = true := decide_eq_true (by omega)
    have RF : Aside0 (false = r) := ⟨by rw [HR.out, show gdV true l0_1 l0_2 l0_3 = false by unfold gdV; simp [hp], Bool.false_and]⟩
    clear hp
    have bx := heap_alloc_new w (.cells #[.bool true, .slice A0_1 l0_1.length c0_1, .slice A0_2 l0_2.length c0_2, .slice A0_3 l0_3.length c0_3] 26)
    have xa := below_alloc (Below.refl w.heap.size w) (.cells #[.bool true, .slice A0_1 l0_1.length c0_1, .slice A0_2 l0_2.length c0_2, .slice A0_3 l0_3.length c0_3] 26)
    obtain ⟨wa, hwa⟩ : ∃ wa, wa = w.alloc (.cells #[.bool true, .slice A0_1 l0_1.length c0_1, .slice A0_2 l0_2.length c0_2, .slice A0_3 l0_3.length c0_3] 26) := ⟨_, rfl⟩
    have HWA := Aside0.mk hwa
    rw [← hwa] at bx xa
    have BA := Aside0.mk xa
    clear hwa xa
    have b0 : wa.cell? ⟨w.heap.size, 0, none⟩ = some (.bool true) := blk_cell bx 0
    have b1 : wa.cell? ⟨w.heap.size, 1, none⟩ = some (.slice A0_1 l0_1.length c0_1) := blk_cell bx 1
    have b2 : wa.cell? ⟨w.heap.size, 2, none⟩ = some (.slice A0_2 l0_2.length c0_2) := blk_cell bx 2
    have b3 : wa.cell? ⟨w.heap.size, 3, none⟩ = some (.slice A0_3 l0_3.length c0_3) := blk_cell bx 3
    have BC1 := Aside0.mk b1
    have BC2 := Aside0.mk b2
    have BC3 := Aside0.mk b3
    clear bx

    go_enter Try.func26, Try.ntmps26
    go_wp2_with fail
    go_ret
    exact ⟨by rw [← RF.out]; rfl, by rw [← HWA.out]; exact BA.out⟩
set_option maxHeartbeats 8000000 in
set_option maxRecDepth 100000 in
theorem right_false (A0_1 : Option Addr) (c0_1 : Nat) (l0_1 : List S48) (A0_2 : Option Addr) (c0_2 : Nat) (l0_2 : List ByteArray) (A0_3 : Option Addr) (c0_3 : Nat) (l0_3 : List Int) (r : Bool) (w : World) (hr0_1 : Kd.C k48 w A0_1 l0_1.length l0_1) (hc0_1 : l0_1.length ≤ c0_1) (hr0_2 : Kd.C Kd.string w A0_2 l0_2.length l0_2) (hc0_2 : l0_2.length ≤ c0_2) (hr0_3 : Kd.C (Kd.int .i64) w A0_3 l0_3.length l0_3) (hc0_3 : l0_3.length ≤ c0_3) (hr : r = (gdV false l0_1 l0_2 l0_3 && okV l0_1 l0_2 l0_3)) :
    Calls Try.prog 26 #[.agg #[.bool false, .slice A0_1 l0_1.length c0_1, .slice A0_2 l0_2.length c0_2, .slice A0_3 l0_3.length c0_3]] w fun e w' => e = .returned (.bool r) ∧ Below w.heap.size w w' := by
  have HR := Aside0.mk hr
  have L1 : l0_1.length ≤ 9223372036854775807 := hr0_1.2.1
  have L2 : l0_2.length ≤ 9223372036854775807 := hr0_2.2.1
  have L3 : l0_3.length ≤ 9223372036854775807 := hr0_3.2.1
  have R1 := Aside0.mk hr0_1
  have R2 := Aside0.mk hr0_2
  have R3 := Aside0.mk hr0_3
  clear hr0_1 hc0_1 hr0_2 hc0_2 hr0_3 hc0_3 hr
  by_cases hp : l0_1.length ≤ 255
  · have gp0 : decide ((255 : Int) < (l0_1.length : Int)) = false := decide_eq_false (by omega)
    have gp1 : decide (255 < l0_1.length) = false := decide_eq_false (by omega)
    by_cases hd : l0_3.length ≤ 255
    · have gd0 : decide ((255 : Int) < (l0_3.length : Int)) = false := decide_eq_false (by omega)
      have gd1 : decide (255 < l0_3.length) = false := decide_eq_false (by omega)
      by_cases hq : l0_1.length = 0
      · have gq0 : decide ((0 : Int) < (l0_1.length : Int)) = false := decide_eq_false (by omega)
        have gq1 : decide (0 < l0_1.length) = false := decide_eq_false (by omega)
        by_cases hz : l0_3.length ≠ 0
        · have gz0 : ((l0_3.length : Int) == 0) = false := beq_eq_false_iff_ne.2 (by omega)
          have gz1 : (l0_3.length == 0) = false := beq_eq_false_iff_ne.2 (by omega)
          by_cases hs : l0_2.length + 1 = l0_3.length
          · have gs0 : ((l0_2.length : Int) != (l0_3.length : Int) - 1) = false := by rw [bne_eq_false_iff_eq]; omega
            have GD : Aside0 (gdV false l0_1 l0_2 l0_3 = true) := ⟨by unfold gdV; simp [hp, hd, hq, hz, hs]⟩
            clear hp hd hq hz hs
            have bx := heap_alloc_new w (.cells #[.bool false, .slice A0_1 l0_1.length c0_1, .slice A0_2 l0_2.length c0_2, .slice A0_3 l0_3.length c0_3] 26)
            have xa := below_alloc (Below.refl w.heap.size w) (.cells #[.bool false, .slice A0_1 l0_1.length c0_1, .slice A0_2 l0_2.length c0_2, .slice A0_3 l0_3.length c0_3] 26)
            obtain ⟨wa, hwa⟩ : ∃ wa, wa = w.alloc (.cells #[.bool false, .slice A0_1 l0_1.length c0_1, .slice A0_2 l0_2.length c0_2, .slice A0_3 l0_3.length c0_3] 26) := ⟨_, rfl⟩
            have HWA := Aside0.mk hwa
            rw [← hwa] at bx xa
            have BA := Aside0.mk xa
            clear hwa xa
            have b0 : wa.cell? ⟨w.heap.size, 0, none⟩ = some (.bool false) := blk_cell bx 0
            have b1 : wa.cell? ⟨w.heap.size, 1, none⟩ = some (.slice A0_1 l0_1.length c0_1) := blk_cell bx 1
            have b2 : wa.cell? ⟨w.heap.size, 2, none⟩ = some (.slice A0_2 l0_2.length c0_2) := blk_cell bx 2
            have b3 : wa.cell? ⟨w.heap.size, 3, none⟩ = some (.slice A0_3 l0_3.length c0_3) := blk_cell bx 3
            have BC1 := Aside0.mk b1
            have BC2 := Aside0.mk b2
            have BC3 := Aside0.mk b3
            clear bx
            go_enter Try.func26, Try.ntmps26
            go_wp2_with fail
            rw [← HWA.out]
            clear b0 b1 b2 b3
            go_loopw [3] (fun v w' => ∃ k : Nat, k ≤ l0_1.length ∧ v = .int .i64 (k : Int) ∧ Aside0 ((l0_1.take k).any badP = false) ∧ Aside0 (∀ j, j + 1 < k → Op.bytesLess ((l0_1.map (·.f0)).getD j ByteArray.empty).toList ((l0_1.map (·.f0)).getD (j + 1) ByteArray.empty).toList = true) ∧ Aside0 (Below wa.heap.size wa w')) (fun v _ => (l0_1.length - intOf v).toNat)
            case atStart => exact ⟨0, by omega, rfl, ⟨by simp⟩, ⟨fun j hj => by omega⟩, ⟨Below.refl _ _⟩⟩
            case round =>
              obtain ⟨k, hk, rfl, HTK, HA, HX2⟩ := hrel
              have hbx : wr.cell? ⟨w.heap.size, 1, none⟩ = some (.slice A0_1 l0_1.length c0_1) := nd_cell HX2.out BC1.out
              by_cases h : k < l0_1.length
              · have d1 : decide (k < l0_1.length) = true := decide_eq_true h
                have d1' : decide ((k : Int) < (l0_1.length : Int)) = true := decide_eq_true (by omega)
                have HB : Aside0 (Below w.heap.size w wr) := ⟨BA.out.trans (HX2.out.mono BA.out.size)⟩
                by_cases hk0 : k = 0
                · subst hk0
                  have z0 : decide ((0 : Int) < 0) = false := rfl
                  obtain ⟨x, xe'⟩ : ∃ x, x = rd_T48 l0_1 ((0 : Nat) : Int) := ⟨_, rfl⟩
                  have xe := xe'.symm
                  obtain ⟨adx, hax, hx0, hx1⟩ := at_T48 (Kd.C_below R1.out HB.out) ((0 : Nat) : Int) (by omega) (by omega)
                  rw [Int.toNat_natCast, show rd_T48 l0_1 ((0 : Nat) : Int) = x from xe] at hx0 hx1
                  have HXE : Aside0 (l0_1[0] = x) := ⟨by rw [xe']; simp [rd_T48, List.getD_eq_getElem?_getD, h]⟩
                  clear xe xe'
                  subst hax
                  replace hx0 : wr.cell? adx = some (.string x.f0) := by simpa [Addr.add_zero'] using hx0
                  replace hx1 : wr.cell? ⟨adx.block, adx.off + 1, none⟩ = some (.string x.f1) := by simpa [Addr.add_zero'] using hx1
                  obtain ⟨kb, hkb⟩ : ∃ b, b = keyB x.f0 := ⟨_, rfl⟩
                  have KY : Aside0 (∀ W, Calls Try.prog 29 #[.string x.f0] W fun e w' => e = .returned (.bool kb) ∧ Drawn0 W w') := ⟨fun W => cisternref11_Key.calls x.f0 kb W (by rw [key_val, hkb])⟩
                  cases kb
                  · have HBD : Aside0 (badP l0_1[0] = true) := ⟨by rw [HXE.out]; unfold badP; rw [← hkb]; rfl⟩
                    clear hkb
                    have MK : Aside0 (∀ w1, Below wr.heap.size wr w1 → Below wr.heap.size wr w1 ∧ w1.cell? ⟨w.heap.size, 1, none⟩ = some (.slice (some adx) l0_1.length c0_1) ∧ w1.cell? adx = some (.string x.f0) ∧ w1.cell? ⟨adx.block, adx.off + 1, none⟩ = some (.string x.f1)) := ⟨fun w1 hb => ⟨hb, nd_cell hb hbx, nd_cell hb hx0, nd_cell hb hx1⟩⟩
                    have FIN : Aside0 (∀ w1, Below wr.heap.size wr w1 → Below wa.heap.size wa w1) := ⟨fun w1 hb => HX2.out.trans (hb.mono HX2.out.size)⟩
                    have RF : Aside0 (false = r) := ⟨by rw [HR.out, ok_badP (List.getElem_mem h) HBD.out, Bool.and_false]⟩
                    clear hx0 hx1
                    go_wp2_with fail
                    refine wp_region_held_drew (S := fun w1 => Below wr.heap.size wr w1 ∧ w1.cell? ⟨w.heap.size, 1, none⟩ = some (.slice (some adx) l0_1.length c0_1) ∧ w1.cell? adx = some (.string x.f0) ∧ w1.cell? ⟨adx.block, adx.off + 1, none⟩ = some (.string x.f1)) (by kernel_rfl) ?_ (fun hHeld => ?_)
                    · try dsimp only
                      first | exact MK.out _ (Below.drew (Below.refl _ _)) | exact MK.out _ SB1.out | assumption
                    refine nd_take 0 hHeld ?_
                    refine nd_take 1 hHeld ?_
                    refine nd_take 2 hHeld ?_
                    refine nd_take 3 hHeld ?_
                    refine nd_take 4 hHeld ?_
                    refine nd_take 5 hHeld ?_
                    refine wpAnyH_ready (rs := [6]) (by kernel_rfl) (by simp) ?_
                    refine AllReadyH.cons rfl (fun K hK => ?_) AllReadyH.nil
                    go_simp
                    refine (KY.out _).mono ?_
                    rintro e w6 ⟨rfl, hd6⟩
                    have SB1 : Aside0 (Below wr.heap.size wr w6) := ⟨Below.trans hHeld.1 (hd6.below.mono hHeld.1.size)⟩
                    clear hd6
                    go_simp
                    refine hK.out _ _ ?_ (fun hNew => ?_)
                    · try dsimp only
                      first | exact MK.out _ (Below.drew (Below.refl _ _)) | exact MK.out _ SB1.out | assumption
                    clear hK K hHeld
                    have hHeld := hNew
                    clear hNew
                    refine nd_take 7 hHeld ?_
                    refine nd_take 8 hHeld ?_
                    refine nd_skip 9 hHeld ?_
                    refine nd_skip 10 hHeld ?_
                    refine nd_skip 11 hHeld ?_
                    refine nd_skip 12 hHeld ?_
                    refine nd_skip 13 hHeld ?_
                    refine nd_skip 14 hHeld ?_
                    refine nd_skip 15 hHeld ?_
                    refine nd_skip 16 hHeld ?_
                    refine nd_take 17 hHeld ?_
                    refine nd_take 18 hHeld ?_
                    refine nd_skip 19 hHeld ?_
                    refine nd_skip 20 hHeld ?_
                    refine nd_skip 21 hHeld ?_
                    refine nd_skip 22 hHeld ?_
                    refine nd_skip 23 hHeld ?_
                    refine nd_skip 24 hHeld ?_
                    refine nd_skip 25 hHeld ?_
                    refine nd_skip 26 hHeld ?_
                    refine nd_skip 27 hHeld ?_
                    refine nd_skip 28 hHeld ?_
                    refine nd_skip 29 hHeld ?_
                    refine nd_skip 30 hHeld ?_
                    refine nd_skip 31 hHeld ?_
                    refine nd_skip 32 hHeld ?_
                    refine nd_skip 33 hHeld ?_
                    refine nd_skip 34 hHeld ?_
                    refine nd_skip 35 hHeld ?_
                    refine nd_skip 36 hHeld ?_
                    refine nd_take 37 hHeld ?_
                    refine wpAnyH_done (by kernel_rfl) ?_ _
                    go_wp2_with fail
                    go_ret
                    exact ⟨by rw [← RF.out]; rfl, (BA.out.trans ((FIN.out _ hHeld.1).mono BA.out.size))⟩

                  · by_cases hs : (48 : Int) < (x.f1.size : Int)
                    · have hs1 : decide ((48 : Int) < (x.f1.size : Int)) = true := decide_eq_true hs
                      have HBD : Aside0 (badP l0_1[0] = true) := ⟨by rw [HXE.out]; unfold badP; rw [decide_eq_true hs]; simp⟩
                      clear hkb
                      have MK : Aside0 (∀ w1, Below wr.heap.size wr w1 → Below wr.heap.size wr w1 ∧ w1.cell? ⟨w.heap.size, 1, none⟩ = some (.slice (some adx) l0_1.length c0_1) ∧ w1.cell? adx = some (.string x.f0) ∧ w1.cell? ⟨adx.block, adx.off + 1, none⟩ = some (.string x.f1)) := ⟨fun w1 hb => ⟨hb, nd_cell hb hbx, nd_cell hb hx0, nd_cell hb hx1⟩⟩
                      have FIN : Aside0 (∀ w1, Below wr.heap.size wr w1 → Below wa.heap.size wa w1) := ⟨fun w1 hb => HX2.out.trans (hb.mono HX2.out.size)⟩
                      have RF : Aside0 (false = r) := ⟨by rw [HR.out, ok_badP (List.getElem_mem h) HBD.out, Bool.and_false]⟩
                      clear hx0 hx1
                      go_wp2_with fail
                      refine wp_region_held_drew (S := fun w1 => Below wr.heap.size wr w1 ∧ w1.cell? ⟨w.heap.size, 1, none⟩ = some (.slice (some adx) l0_1.length c0_1) ∧ w1.cell? adx = some (.string x.f0) ∧ w1.cell? ⟨adx.block, adx.off + 1, none⟩ = some (.string x.f1)) (by kernel_rfl) ?_ (fun hHeld => ?_)
                      · try dsimp only
                        first | exact MK.out _ (Below.drew (Below.refl _ _)) | exact MK.out _ SB1.out | assumption
                      refine nd_take 0 hHeld ?_
                      refine nd_take 1 hHeld ?_
                      refine nd_take 2 hHeld ?_
                      refine nd_take 3 hHeld ?_
                      refine nd_take 4 hHeld ?_
                      refine nd_take 5 hHeld ?_
                      refine wpAnyH_ready (rs := [6]) (by kernel_rfl) (by simp) ?_
                      refine AllReadyH.cons rfl (fun K hK => ?_) AllReadyH.nil
                      go_simp
                      refine (KY.out _).mono ?_
                      rintro e w6 ⟨rfl, hd6⟩
                      have SB1 : Aside0 (Below wr.heap.size wr w6) := ⟨Below.trans hHeld.1 (hd6.below.mono hHeld.1.size)⟩
                      clear hd6
                      go_simp
                      refine hK.out _ _ ?_ (fun hNew => ?_)
                      · try dsimp only
                        first | exact MK.out _ (Below.drew (Below.refl _ _)) | exact MK.out _ SB1.out | assumption
                      clear hK K hHeld
                      have hHeld := hNew
                      clear hNew
                      refine nd_take 7 hHeld ?_
                      refine nd_take 8 hHeld ?_
                      refine nd_take 9 hHeld ?_
                      refine nd_take 10 hHeld ?_
                      refine nd_take 11 hHeld ?_
                      refine nd_take 12 hHeld ?_
                      refine nd_take 13 hHeld ?_
                      refine nd_take 14 hHeld ?_
                      refine nd_take 15 hHeld ?_
                      refine nd_take 16 hHeld ?_
                      refine nd_take 17 hHeld ?_
                      refine nd_take 18 hHeld ?_
                      refine nd_skip 19 hHeld ?_
                      refine nd_skip 20 hHeld ?_
                      refine nd_skip 21 hHeld ?_
                      refine nd_skip 22 hHeld ?_
                      refine nd_skip 23 hHeld ?_
                      refine nd_skip 24 hHeld ?_
                      refine nd_skip 25 hHeld ?_
                      refine nd_skip 26 hHeld ?_
                      refine nd_skip 27 hHeld ?_
                      refine nd_skip 28 hHeld ?_
                      refine nd_skip 29 hHeld ?_
                      refine nd_skip 30 hHeld ?_
                      refine nd_skip 31 hHeld ?_
                      refine nd_skip 32 hHeld ?_
                      refine nd_skip 33 hHeld ?_
                      refine nd_skip 34 hHeld ?_
                      refine nd_skip 35 hHeld ?_
                      refine nd_skip 36 hHeld ?_
                      refine nd_take 37 hHeld ?_
                      refine wpAnyH_done (by kernel_rfl) ?_ _
                      go_wp2_with fail
                      go_ret
                      exact ⟨by rw [← RF.out]; rfl, (BA.out.trans ((FIN.out _ hHeld.1).mono BA.out.size))⟩

                    · have hs1 : decide ((48 : Int) < (x.f1.size : Int)) = false := decide_eq_false hs
                      have HBG : Aside0 (badP l0_1[0] = false) := ⟨by rw [HXE.out]; unfold badP; rw [← hkb]; rw [decide_eq_false hs]; rfl⟩
                      clear hkb hs
                      have HT : Aside0 ((l0_1.take (1)).any badP = false) := ⟨take_any _ _ 0 h HTK.out HBG.out⟩
                      have HA2 : Aside0 (∀ j, j + 1 < 1 → Op.bytesLess ((l0_1.map (·.f0)).getD j ByteArray.empty).toList ((l0_1.map (·.f0)).getD (j + 1) ByteArray.empty).toList = true) := ⟨fun j hj => by omega⟩
                      have MK : Aside0 (∀ w1, Below wr.heap.size wr w1 → Below wr.heap.size wr w1 ∧ w1.cell? ⟨w.heap.size, 1, none⟩ = some (.slice (some adx) l0_1.length c0_1) ∧ w1.cell? adx = some (.string x.f0) ∧ w1.cell? ⟨adx.block, adx.off + 1, none⟩ = some (.string x.f1)) := ⟨fun w1 hb => ⟨hb, nd_cell hb hbx, nd_cell hb hx0, nd_cell hb hx1⟩⟩
                      have FIN : Aside0 (∀ w1, Below wr.heap.size wr w1 → Below wa.heap.size wa w1) := ⟨fun w1 hb => HX2.out.trans (hb.mono HX2.out.size)⟩
                      clear hx0 hx1
                      go_wp2_with fail
                      refine wp_region_held_drew (S := fun w1 => Below wr.heap.size wr w1 ∧ w1.cell? ⟨w.heap.size, 1, none⟩ = some (.slice (some adx) l0_1.length c0_1) ∧ w1.cell? adx = some (.string x.f0) ∧ w1.cell? ⟨adx.block, adx.off + 1, none⟩ = some (.string x.f1)) (by kernel_rfl) ?_ (fun hHeld => ?_)
                      · try dsimp only
                        first | exact MK.out _ (Below.drew (Below.refl _ _)) | exact MK.out _ SB1.out | assumption
                      refine nd_take 0 hHeld ?_
                      refine nd_take 1 hHeld ?_
                      refine nd_take 2 hHeld ?_
                      refine nd_take 3 hHeld ?_
                      refine nd_take 4 hHeld ?_
                      refine nd_take 5 hHeld ?_
                      refine wpAnyH_ready (rs := [6]) (by kernel_rfl) (by simp) ?_
                      refine AllReadyH.cons rfl (fun K hK => ?_) AllReadyH.nil
                      go_simp
                      refine (KY.out _).mono ?_
                      rintro e w6 ⟨rfl, hd6⟩
                      have SB1 : Aside0 (Below wr.heap.size wr w6) := ⟨Below.trans hHeld.1 (hd6.below.mono hHeld.1.size)⟩
                      clear hd6
                      go_simp
                      refine hK.out _ _ ?_ (fun hNew => ?_)
                      · try dsimp only
                        first | exact MK.out _ (Below.drew (Below.refl _ _)) | exact MK.out _ SB1.out | assumption
                      clear hK K hHeld
                      have hHeld := hNew
                      clear hNew
                      refine nd_take 7 hHeld ?_
                      refine nd_take 8 hHeld ?_
                      refine nd_take 9 hHeld ?_
                      refine nd_take 10 hHeld ?_
                      refine nd_take 11 hHeld ?_
                      refine nd_take 12 hHeld ?_
                      refine nd_take 13 hHeld ?_
                      refine nd_take 14 hHeld ?_
                      refine nd_take 15 hHeld ?_
                      refine nd_take 16 hHeld ?_
                      refine nd_take 17 hHeld ?_
                      refine nd_take 18 hHeld ?_
                      refine nd_take 19 hHeld ?_
                      refine nd_take 20 hHeld ?_
                      refine nd_take 21 hHeld ?_
                      refine nd_skip 22 hHeld ?_
                      refine nd_skip 23 hHeld ?_
                      refine nd_skip 24 hHeld ?_
                      refine nd_skip 25 hHeld ?_
                      refine nd_skip 26 hHeld ?_
                      refine nd_skip 27 hHeld ?_
                      refine nd_skip 28 hHeld ?_
                      refine nd_skip 29 hHeld ?_
                      refine nd_skip 30 hHeld ?_
                      refine nd_skip 31 hHeld ?_
                      refine nd_skip 32 hHeld ?_
                      refine nd_skip 33 hHeld ?_
                      refine nd_skip 34 hHeld ?_
                      refine nd_skip 35 hHeld ?_
                      refine nd_take 36 hHeld ?_
                      refine nd_take 37 hHeld ?_
                      refine wpAnyH_done (by kernel_rfl) ?_ _
                      have FB := Aside0.mk (FIN.out _ hHeld.1)
                      clear hHeld
                      go_wp2_with fail
                      go_roundw
                      case rel => exact ⟨1, by omega, by first | rfl | (simp; done) | go_num, HT, HA2, FB⟩
                      case measure => simp [intOf]; omega


                · obtain ⟨m, rfl⟩ : ∃ m, k = m + 1 := ⟨k - 1, by omega⟩
                  clear hk0
                  have z0 : decide ((0 : Int) < ((m + 1 : Nat) : Int)) = true := decide_eq_true (by omega)
                  have z0' : decide ((0 : Int) < (m : Int) + 1) = true := decide_eq_true (by omega)
                  have e1 : wrap64 (((m + 1 : Nat) : Int) - 1) = (m : Int) := by unfold wrap64; omega
                  have e1b : wrap64 ((m : Int) + 1 - 1) = (m : Int) := by unfold wrap64; omega
                  have e1c : wrap64 (m : Int) = (m : Int) := by unfold wrap64; omega
                  have e1d : IntKind.i64.wrap (m : Int) = (m : Int) := by rw [IntKind.wrap_i64]; omega
                  have p1 : (0 : Int) ≤ (m : Int) := by omega
                  have q1 : (m : Int) < (l0_1.length : Int) := by omega
                  have p2b : (0 : Int) ≤ (m : Int) + 1 := by omega
                  have q2b : (m : Int) + 1 < (l0_1.length : Int) := by omega
                  have e2b : ((m : Int) + 1).toNat = m + 1 := by omega
                  obtain ⟨x, xe'⟩ : ∃ x, x = rd_T48 l0_1 ((m + 1 : Nat) : Int) := ⟨_, rfl⟩
                  have xe := xe'.symm
                  obtain ⟨adx, hax, hx0, hx1⟩ := at_T48 (Kd.C_below R1.out HB.out) ((m + 1 : Nat) : Int) (by omega) (by omega)
                  rw [Int.toNat_natCast, show rd_T48 l0_1 ((m + 1 : Nat) : Int) = x from xe] at hx0 hx1
                  have HXE : Aside0 (l0_1[m + 1] = x) := ⟨by rw [xe']; simp [rd_T48, List.getD_eq_getElem?_getD, h]⟩
                  clear xe xe'
                  obtain ⟨y, ye'⟩ : ∃ y, y = rd_T48 l0_1 ((m : Nat) : Int) := ⟨_, rfl⟩
                  have ye := ye'.symm
                  obtain ⟨ady0, hay0, hy0, hy1⟩ := at_T48 (Kd.C_below R1.out HB.out) ((m : Nat) : Int) (by omega) (by omega)
                  rw [Int.toNat_natCast, show rd_T48 l0_1 ((m : Nat) : Int) = y from ye] at hy0 hy1
                  rw [hax] at hay0
                  cases hay0
                  have hm' : m < l0_1.length := by omega
                  have HYE : Aside0 (l0_1[m] = y) := ⟨by rw [ye']; simp [rd_T48, List.getD_eq_getElem?_getD, hm']⟩
                  clear ye ye'
                  subst hax
                  obtain ⟨kb, hkb⟩ : ∃ b, b = keyB x.f0 := ⟨_, rfl⟩
                  have KY : Aside0 (∀ W, Calls Try.prog 29 #[.string x.f0] W fun e w' => e = .returned (.bool kb) ∧ Drawn0 W w') := ⟨fun W => cisternref11_Key.calls x.f0 kb W (by rw [key_val, hkb])⟩
                  cases kb
                  · have HBD : Aside0 (badP l0_1[m + 1] = true) := ⟨by rw [HXE.out]; unfold badP; rw [← hkb]; rfl⟩
                    clear hkb
                    have MK : Aside0 (∀ w1, Below wr.heap.size wr w1 → Below wr.heap.size wr w1 ∧ w1.cell? ⟨w.heap.size, 1, none⟩ = some (.slice (some adx) l0_1.length c0_1) ∧ w1.cell? (adx.add ((m + 1) * 2)) = some (.string x.f0) ∧ w1.cell? ⟨(adx.add ((m + 1) * 2)).block, (adx.add ((m + 1) * 2)).off + 1, none⟩ = some (.string x.f1) ∧ w1.cell? (adx.add (m * 2)) = some (.string y.f0) ∧ w1.cell? ⟨(adx.add (m * 2)).block, (adx.add (m * 2)).off + 1, none⟩ = some (.string y.f1)) := ⟨fun w1 hb => ⟨hb, nd_cell hb hbx, nd_cell hb hx0, nd_cell hb hx1, nd_cell hb hy0, nd_cell hb hy1⟩⟩
                    have FIN : Aside0 (∀ w1, Below wr.heap.size wr w1 → Below wa.heap.size wa w1) := ⟨fun w1 hb => HX2.out.trans (hb.mono HX2.out.size)⟩
                    have RF : Aside0 (false = r) := ⟨by rw [HR.out, ok_badP (List.getElem_mem h) HBD.out, Bool.and_false]⟩
                    clear hx0 hx1 hy0 hy1
                    go_wp2_with fail
                    refine wp_region_held_drew (S := fun w1 => Below wr.heap.size wr w1 ∧ w1.cell? ⟨w.heap.size, 1, none⟩ = some (.slice (some adx) l0_1.length c0_1) ∧ w1.cell? (adx.add ((m + 1) * 2)) = some (.string x.f0) ∧ w1.cell? ⟨(adx.add ((m + 1) * 2)).block, (adx.add ((m + 1) * 2)).off + 1, none⟩ = some (.string x.f1) ∧ w1.cell? (adx.add (m * 2)) = some (.string y.f0) ∧ w1.cell? ⟨(adx.add (m * 2)).block, (adx.add (m * 2)).off + 1, none⟩ = some (.string y.f1)) (by kernel_rfl) ?_ (fun hHeld => ?_)
                    · try dsimp only
                      first | exact MK.out _ (Below.drew (Below.refl _ _)) | exact MK.out _ SB1.out | assumption
                    refine nd_take 0 hHeld ?_
                    refine nd_take 1 hHeld ?_
                    refine nd_take 2 hHeld ?_
                    refine nd_take 3 hHeld ?_
                    refine nd_take 4 hHeld ?_
                    refine nd_take 5 hHeld ?_
                    refine wpAnyH_ready (rs := [6]) (by kernel_rfl) (by simp) ?_
                    refine AllReadyH.cons rfl (fun K hK => ?_) AllReadyH.nil
                    go_simp
                    refine (KY.out _).mono ?_
                    rintro e w6 ⟨rfl, hd6⟩
                    have SB1 : Aside0 (Below wr.heap.size wr w6) := ⟨Below.trans hHeld.1 (hd6.below.mono hHeld.1.size)⟩
                    clear hd6
                    go_simp
                    refine hK.out _ _ ?_ (fun hNew => ?_)
                    · try dsimp only
                      first | exact MK.out _ (Below.drew (Below.refl _ _)) | exact MK.out _ SB1.out | assumption
                    clear hK K hHeld
                    have hHeld := hNew
                    clear hNew
                    refine nd_take 7 hHeld ?_
                    refine nd_take 8 hHeld ?_
                    refine nd_skip 9 hHeld ?_
                    refine nd_skip 10 hHeld ?_
                    refine nd_skip 11 hHeld ?_
                    refine nd_skip 12 hHeld ?_
                    refine nd_skip 13 hHeld ?_
                    refine nd_skip 14 hHeld ?_
                    refine nd_skip 15 hHeld ?_
                    refine nd_skip 16 hHeld ?_
                    refine nd_take 17 hHeld ?_
                    refine nd_take 18 hHeld ?_
                    refine nd_skip 19 hHeld ?_
                    refine nd_skip 20 hHeld ?_
                    refine nd_skip 21 hHeld ?_
                    refine nd_skip 22 hHeld ?_
                    refine nd_skip 23 hHeld ?_
                    refine nd_skip 24 hHeld ?_
                    refine nd_skip 25 hHeld ?_
                    refine nd_skip 26 hHeld ?_
                    refine nd_skip 27 hHeld ?_
                    refine nd_skip 28 hHeld ?_
                    refine nd_skip 29 hHeld ?_
                    refine nd_skip 30 hHeld ?_
                    refine nd_skip 31 hHeld ?_
                    refine nd_skip 32 hHeld ?_
                    refine nd_skip 33 hHeld ?_
                    refine nd_skip 34 hHeld ?_
                    refine nd_skip 35 hHeld ?_
                    refine nd_skip 36 hHeld ?_
                    refine nd_take 37 hHeld ?_
                    refine wpAnyH_done (by kernel_rfl) ?_ _
                    go_wp2_with fail
                    go_ret
                    exact ⟨by rw [← RF.out]; rfl, (BA.out.trans ((FIN.out _ hHeld.1).mono BA.out.size))⟩

                  · by_cases hs : (48 : Int) < (x.f1.size : Int)
                    · have hs1 : decide ((48 : Int) < (x.f1.size : Int)) = true := decide_eq_true hs
                      have HBD : Aside0 (badP l0_1[m + 1] = true) := ⟨by rw [HXE.out]; unfold badP; rw [decide_eq_true hs]; simp⟩
                      clear hkb
                      have MK : Aside0 (∀ w1, Below wr.heap.size wr w1 → Below wr.heap.size wr w1 ∧ w1.cell? ⟨w.heap.size, 1, none⟩ = some (.slice (some adx) l0_1.length c0_1) ∧ w1.cell? (adx.add ((m + 1) * 2)) = some (.string x.f0) ∧ w1.cell? ⟨(adx.add ((m + 1) * 2)).block, (adx.add ((m + 1) * 2)).off + 1, none⟩ = some (.string x.f1) ∧ w1.cell? (adx.add (m * 2)) = some (.string y.f0) ∧ w1.cell? ⟨(adx.add (m * 2)).block, (adx.add (m * 2)).off + 1, none⟩ = some (.string y.f1)) := ⟨fun w1 hb => ⟨hb, nd_cell hb hbx, nd_cell hb hx0, nd_cell hb hx1, nd_cell hb hy0, nd_cell hb hy1⟩⟩
                      have FIN : Aside0 (∀ w1, Below wr.heap.size wr w1 → Below wa.heap.size wa w1) := ⟨fun w1 hb => HX2.out.trans (hb.mono HX2.out.size)⟩
                      have RF : Aside0 (false = r) := ⟨by rw [HR.out, ok_badP (List.getElem_mem h) HBD.out, Bool.and_false]⟩
                      clear hx0 hx1 hy0 hy1
                      go_wp2_with fail
                      refine wp_region_held_drew (S := fun w1 => Below wr.heap.size wr w1 ∧ w1.cell? ⟨w.heap.size, 1, none⟩ = some (.slice (some adx) l0_1.length c0_1) ∧ w1.cell? (adx.add ((m + 1) * 2)) = some (.string x.f0) ∧ w1.cell? ⟨(adx.add ((m + 1) * 2)).block, (adx.add ((m + 1) * 2)).off + 1, none⟩ = some (.string x.f1) ∧ w1.cell? (adx.add (m * 2)) = some (.string y.f0) ∧ w1.cell? ⟨(adx.add (m * 2)).block, (adx.add (m * 2)).off + 1, none⟩ = some (.string y.f1)) (by kernel_rfl) ?_ (fun hHeld => ?_)
                      · try dsimp only
                        first | exact MK.out _ (Below.drew (Below.refl _ _)) | exact MK.out _ SB1.out | assumption
                      refine nd_take 0 hHeld ?_
                      refine nd_take 1 hHeld ?_
                      refine nd_take 2 hHeld ?_
                      refine nd_take 3 hHeld ?_
                      refine nd_take 4 hHeld ?_
                      refine nd_take 5 hHeld ?_
                      refine wpAnyH_ready (rs := [6]) (by kernel_rfl) (by simp) ?_
                      refine AllReadyH.cons rfl (fun K hK => ?_) AllReadyH.nil
                      go_simp
                      refine (KY.out _).mono ?_
                      rintro e w6 ⟨rfl, hd6⟩
                      have SB1 : Aside0 (Below wr.heap.size wr w6) := ⟨Below.trans hHeld.1 (hd6.below.mono hHeld.1.size)⟩
                      clear hd6
                      go_simp
                      refine hK.out _ _ ?_ (fun hNew => ?_)
                      · try dsimp only
                        first | exact MK.out _ (Below.drew (Below.refl _ _)) | exact MK.out _ SB1.out | assumption
                      clear hK K hHeld
                      have hHeld := hNew
                      clear hNew
                      refine nd_take 7 hHeld ?_
                      refine nd_take 8 hHeld ?_
                      refine nd_take 9 hHeld ?_
                      refine nd_take 10 hHeld ?_
                      refine nd_take 11 hHeld ?_
                      refine nd_take 12 hHeld ?_
                      refine nd_take 13 hHeld ?_
                      refine nd_take 14 hHeld ?_
                      refine nd_take 15 hHeld ?_
                      refine nd_take 16 hHeld ?_
                      refine nd_take 17 hHeld ?_
                      refine nd_take 18 hHeld ?_
                      refine nd_skip 19 hHeld ?_
                      refine nd_skip 20 hHeld ?_
                      refine nd_skip 21 hHeld ?_
                      refine nd_skip 22 hHeld ?_
                      refine nd_skip 23 hHeld ?_
                      refine nd_skip 24 hHeld ?_
                      refine nd_skip 25 hHeld ?_
                      refine nd_skip 26 hHeld ?_
                      refine nd_skip 27 hHeld ?_
                      refine nd_skip 28 hHeld ?_
                      refine nd_skip 29 hHeld ?_
                      refine nd_skip 30 hHeld ?_
                      refine nd_skip 31 hHeld ?_
                      refine nd_skip 32 hHeld ?_
                      refine nd_skip 33 hHeld ?_
                      refine nd_skip 34 hHeld ?_
                      refine nd_skip 35 hHeld ?_
                      refine nd_skip 36 hHeld ?_
                      refine nd_take 37 hHeld ?_
                      refine wpAnyH_done (by kernel_rfl) ?_ _
                      go_wp2_with fail
                      go_ret
                      exact ⟨by rw [← RF.out]; rfl, (BA.out.trans ((FIN.out _ hHeld.1).mono BA.out.size))⟩

                    · have hs1 : decide ((48 : Int) < (x.f1.size : Int)) = false := decide_eq_false hs
                      have HBG : Aside0 (badP l0_1[m + 1] = false) := ⟨by rw [HXE.out]; unfold badP; rw [← hkb]; rw [decide_eq_false hs]; rfl⟩
                      clear hkb hs
                      have HT : Aside0 ((l0_1.take (m + 1 + 1)).any badP = false) := ⟨take_any _ _ (m + 1) h HTK.out HBG.out⟩
                      obtain ⟨b, hb⟩ : ∃ b, b = Op.bytesLess y.f0.toList x.f0.toList := ⟨_, rfl⟩
                      have Hb := Aside0.mk hb
                      have hb' : Op.bytesLess y.f0.toList x.f0.toList = b := hb.symm
                      clear hb
                      have HG : Aside0 ((l0_1.map (·.f0)).getD m ByteArray.empty = y.f0 ∧ (l0_1.map (·.f0)).getD (m + 1) ByteArray.empty = x.f0) := ⟨by rw [← HXE.out, ← HYE.out]; constructor <;> simp [List.getD_eq_getElem?_getD, h, show m < l0_1.length by omega]⟩
                      cases b
                      · have HFL : Aside0 (risesB (l0_1.map (·.f0)) = false) := ⟨rises_false m (by simpa using h) (by rw [HG.out.1, HG.out.2]; exact Hb.out.symm)⟩
                        have MK : Aside0 (∀ w1, Below wr.heap.size wr w1 → Below wr.heap.size wr w1 ∧ w1.cell? ⟨w.heap.size, 1, none⟩ = some (.slice (some adx) l0_1.length c0_1) ∧ w1.cell? (adx.add ((m + 1) * 2)) = some (.string x.f0) ∧ w1.cell? ⟨(adx.add ((m + 1) * 2)).block, (adx.add ((m + 1) * 2)).off + 1, none⟩ = some (.string x.f1) ∧ w1.cell? (adx.add (m * 2)) = some (.string y.f0) ∧ w1.cell? ⟨(adx.add (m * 2)).block, (adx.add (m * 2)).off + 1, none⟩ = some (.string y.f1)) := ⟨fun w1 hb => ⟨hb, nd_cell hb hbx, nd_cell hb hx0, nd_cell hb hx1, nd_cell hb hy0, nd_cell hb hy1⟩⟩
                        have FIN : Aside0 (∀ w1, Below wr.heap.size wr w1 → Below wa.heap.size wa w1) := ⟨fun w1 hb => HX2.out.trans (hb.mono HX2.out.size)⟩
                        have RF : Aside0 (false = r) := ⟨by rw [HR.out, ok_fallP HFL.out, Bool.and_false]⟩
                        clear hx0 hx1 hy0 hy1
                        go_wp2_with fail
                        refine wp_region_held_drew (S := fun w1 => Below wr.heap.size wr w1 ∧ w1.cell? ⟨w.heap.size, 1, none⟩ = some (.slice (some adx) l0_1.length c0_1) ∧ w1.cell? (adx.add ((m + 1) * 2)) = some (.string x.f0) ∧ w1.cell? ⟨(adx.add ((m + 1) * 2)).block, (adx.add ((m + 1) * 2)).off + 1, none⟩ = some (.string x.f1) ∧ w1.cell? (adx.add (m * 2)) = some (.string y.f0) ∧ w1.cell? ⟨(adx.add (m * 2)).block, (adx.add (m * 2)).off + 1, none⟩ = some (.string y.f1)) (by kernel_rfl) ?_ (fun hHeld => ?_)
                        · try dsimp only
                          first | exact MK.out _ (Below.drew (Below.refl _ _)) | exact MK.out _ SB1.out | assumption
                        refine nd_take 0 hHeld ?_
                        refine nd_take 1 hHeld ?_
                        refine nd_take 2 hHeld ?_
                        refine nd_take 3 hHeld ?_
                        refine nd_take 4 hHeld ?_
                        refine nd_take 5 hHeld ?_
                        refine wpAnyH_ready (rs := [6]) (by kernel_rfl) (by simp) ?_
                        refine AllReadyH.cons rfl (fun K hK => ?_) AllReadyH.nil
                        go_simp
                        refine (KY.out _).mono ?_
                        rintro e w6 ⟨rfl, hd6⟩
                        have SB1 : Aside0 (Below wr.heap.size wr w6) := ⟨Below.trans hHeld.1 (hd6.below.mono hHeld.1.size)⟩
                        clear hd6
                        go_simp
                        refine hK.out _ _ ?_ (fun hNew => ?_)
                        · try dsimp only
                          first | exact MK.out _ (Below.drew (Below.refl _ _)) | exact MK.out _ SB1.out | assumption
                        clear hK K hHeld
                        have hHeld := hNew
                        clear hNew
                        refine nd_take 7 hHeld ?_
                        refine nd_take 8 hHeld ?_
                        refine nd_take 9 hHeld ?_
                        refine nd_take 10 hHeld ?_
                        refine nd_take 11 hHeld ?_
                        refine nd_take 12 hHeld ?_
                        refine nd_take 13 hHeld ?_
                        refine nd_take 14 hHeld ?_
                        refine nd_take 15 hHeld ?_
                        refine nd_take 16 hHeld ?_
                        refine nd_take 17 hHeld ?_
                        refine nd_take 18 hHeld ?_
                        refine nd_take 19 hHeld ?_
                        refine nd_take 20 hHeld ?_
                        refine nd_take 21 hHeld ?_
                        refine nd_take 22 hHeld ?_
                        refine nd_take 23 hHeld ?_
                        refine nd_take 24 hHeld ?_
                        refine nd_take 25 hHeld ?_
                        refine nd_take 26 hHeld ?_
                        refine nd_take 27 hHeld ?_
                        refine nd_take 28 hHeld ?_
                        refine nd_take 29 hHeld ?_
                        refine nd_take 30 hHeld ?_
                        refine nd_take 31 hHeld ?_
                        refine nd_take 32 hHeld ?_
                        refine nd_take 33 hHeld ?_
                        refine nd_take 34 hHeld ?_
                        refine nd_take 35 hHeld ?_
                        refine nd_take 36 hHeld ?_
                        refine nd_take 37 hHeld ?_
                        refine wpAnyH_done (by kernel_rfl) ?_ _
                        go_wp2_with fail
                        go_ret
                        exact ⟨by rw [← RF.out]; rfl, (BA.out.trans ((FIN.out _ hHeld.1).mono BA.out.size))⟩

                      · have HA2 : Aside0 (∀ j, j + 1 < m + 1 + 1 → Op.bytesLess ((l0_1.map (·.f0)).getD j ByteArray.empty).toList ((l0_1.map (·.f0)).getD (j + 1) ByteArray.empty).toList = true) := ⟨fun j hj => by
                          by_cases e : j = m
                          · subst e
                            rw [HG.out.1, HG.out.2]
                            exact Hb.out.symm
                          · exact HA.out j (by omega)⟩
                        have MK : Aside0 (∀ w1, Below wr.heap.size wr w1 → Below wr.heap.size wr w1 ∧ w1.cell? ⟨w.heap.size, 1, none⟩ = some (.slice (some adx) l0_1.length c0_1) ∧ w1.cell? (adx.add ((m + 1) * 2)) = some (.string x.f0) ∧ w1.cell? ⟨(adx.add ((m + 1) * 2)).block, (adx.add ((m + 1) * 2)).off + 1, none⟩ = some (.string x.f1) ∧ w1.cell? (adx.add (m * 2)) = some (.string y.f0) ∧ w1.cell? ⟨(adx.add (m * 2)).block, (adx.add (m * 2)).off + 1, none⟩ = some (.string y.f1)) := ⟨fun w1 hb => ⟨hb, nd_cell hb hbx, nd_cell hb hx0, nd_cell hb hx1, nd_cell hb hy0, nd_cell hb hy1⟩⟩
                        have FIN : Aside0 (∀ w1, Below wr.heap.size wr w1 → Below wa.heap.size wa w1) := ⟨fun w1 hb => HX2.out.trans (hb.mono HX2.out.size)⟩
                        clear hx0 hx1 hy0 hy1
                        go_wp2_with fail
                        refine wp_region_held_drew (S := fun w1 => Below wr.heap.size wr w1 ∧ w1.cell? ⟨w.heap.size, 1, none⟩ = some (.slice (some adx) l0_1.length c0_1) ∧ w1.cell? (adx.add ((m + 1) * 2)) = some (.string x.f0) ∧ w1.cell? ⟨(adx.add ((m + 1) * 2)).block, (adx.add ((m + 1) * 2)).off + 1, none⟩ = some (.string x.f1) ∧ w1.cell? (adx.add (m * 2)) = some (.string y.f0) ∧ w1.cell? ⟨(adx.add (m * 2)).block, (adx.add (m * 2)).off + 1, none⟩ = some (.string y.f1)) (by kernel_rfl) ?_ (fun hHeld => ?_)
                        · try dsimp only
                          first | exact MK.out _ (Below.drew (Below.refl _ _)) | exact MK.out _ SB1.out | assumption
                        refine nd_take 0 hHeld ?_
                        refine nd_take 1 hHeld ?_
                        refine nd_take 2 hHeld ?_
                        refine nd_take 3 hHeld ?_
                        refine nd_take 4 hHeld ?_
                        refine nd_take 5 hHeld ?_
                        refine wpAnyH_ready (rs := [6]) (by kernel_rfl) (by simp) ?_
                        refine AllReadyH.cons rfl (fun K hK => ?_) AllReadyH.nil
                        go_simp
                        refine (KY.out _).mono ?_
                        rintro e w6 ⟨rfl, hd6⟩
                        have SB1 : Aside0 (Below wr.heap.size wr w6) := ⟨Below.trans hHeld.1 (hd6.below.mono hHeld.1.size)⟩
                        clear hd6
                        go_simp
                        refine hK.out _ _ ?_ (fun hNew => ?_)
                        · try dsimp only
                          first | exact MK.out _ (Below.drew (Below.refl _ _)) | exact MK.out _ SB1.out | assumption
                        clear hK K hHeld
                        have hHeld := hNew
                        clear hNew
                        refine nd_take 7 hHeld ?_
                        refine nd_take 8 hHeld ?_
                        refine nd_take 9 hHeld ?_
                        refine nd_take 10 hHeld ?_
                        refine nd_take 11 hHeld ?_
                        refine nd_take 12 hHeld ?_
                        refine nd_take 13 hHeld ?_
                        refine nd_take 14 hHeld ?_
                        refine nd_take 15 hHeld ?_
                        refine nd_take 16 hHeld ?_
                        refine nd_take 17 hHeld ?_
                        refine nd_take 18 hHeld ?_
                        refine nd_take 19 hHeld ?_
                        refine nd_take 20 hHeld ?_
                        refine nd_take 21 hHeld ?_
                        refine nd_take 22 hHeld ?_
                        refine nd_take 23 hHeld ?_
                        refine nd_take 24 hHeld ?_
                        refine nd_take 25 hHeld ?_
                        refine nd_take 26 hHeld ?_
                        refine nd_take 27 hHeld ?_
                        refine nd_take 28 hHeld ?_
                        refine nd_take 29 hHeld ?_
                        refine nd_take 30 hHeld ?_
                        refine nd_take 31 hHeld ?_
                        refine nd_take 32 hHeld ?_
                        refine nd_take 33 hHeld ?_
                        refine nd_take 34 hHeld ?_
                        refine nd_take 35 hHeld ?_
                        refine nd_take 36 hHeld ?_
                        refine nd_take 37 hHeld ?_
                        refine wpAnyH_done (by kernel_rfl) ?_ _
                        have FB := Aside0.mk (FIN.out _ hHeld.1)
                        clear hHeld
                        go_wp2_with fail
                        go_roundw
                        case rel => exact ⟨m + 1 + 1, by omega, by first | rfl | (simp; done) | go_num, HT, HA2, FB⟩
                        case measure => simp [intOf]; omega



              · have d1 : decide (k < l0_1.length) = false := decide_eq_false h
                have d1' : decide ((k : Int) < (l0_1.length : Int)) = false := decide_eq_false (by omega)
                have OKP : Aside0 (l0_1.any badP = false ∧ risesB (l0_1.map (·.f0)) = true) := ⟨by have := HTK.out; rwa [List.take_of_length_le (by omega)] at this, rises_true (fun j hj => HA.out j (by (try simp at hj); omega))⟩
                clear HTK HA
                go_wp2_with fail
                clear hbx
                go_loopw [4] (fun v w' => ∃ k : Nat, k ≤ l0_2.length ∧ v = .int .i64 (k : Int) ∧ Aside0 ((l0_2.take k).any badS = false) ∧ Aside0 (∀ j, j + 1 < k → Op.bytesLess (l0_2.getD j ByteArray.empty).toList (l0_2.getD (j + 1) ByteArray.empty).toList = true) ∧ Aside0 (Below wa.heap.size wa w')) (fun v _ => (l0_2.length - intOf v).toNat)
                case atStart => exact ⟨0, by omega, rfl, ⟨by simp⟩, ⟨fun j hj => by omega⟩, HX2⟩
                case round =>
                  obtain ⟨k, hk, rfl, HTK, HA, HX2⟩ := hrel
                  have hbx : wr.cell? ⟨w.heap.size, 2, none⟩ = some (.slice A0_2 l0_2.length c0_2) := nd_cell HX2.out BC2.out
                  by_cases h : k < l0_2.length
                  · have d1 : decide (k < l0_2.length) = true := decide_eq_true h
                    have d1' : decide ((k : Int) < (l0_2.length : Int)) = true := decide_eq_true (by omega)
                    have HB : Aside0 (Below w.heap.size w wr) := ⟨BA.out.trans (HX2.out.mono BA.out.size)⟩
                    by_cases hk0 : k = 0
                    · subst hk0
                      have z0 : decide ((0 : Int) < 0) = false := rfl
                      obtain ⟨x, xe'⟩ : ∃ x, x = rdOf ByteArray.empty l0_2 ((0 : Nat) : Int) := ⟨_, rfl⟩
                      have xe := xe'.symm
                      obtain ⟨adx, hax, hx0⟩ := Kd.at_string (Kd.C_below R2.out HB.out) ((0 : Nat) : Int) (by omega) (by omega)
                      rw [Int.toNat_natCast, show rdOf ByteArray.empty l0_2 ((0 : Nat) : Int) = x from xe] at hx0
                      have HXE : Aside0 (l0_2[0] = x) := ⟨by rw [xe']; simp [rdOf, List.getD_eq_getElem?_getD, h]⟩
                      clear xe xe'
                      subst hax
                      replace hx0 : wr.cell? adx = some (.string x) := by simpa [Addr.add_zero'] using hx0
                      obtain ⟨kb, hkb⟩ : ∃ b, b = keyB x := ⟨_, rfl⟩
                      have KY : Aside0 (∀ W, Calls Try.prog 29 #[.string x] W fun e w' => e = .returned (.bool kb) ∧ Drawn0 W w') := ⟨fun W => cisternref11_Key.calls x kb W (by rw [key_val, hkb])⟩
                      cases kb
                      · have HBD : Aside0 (badS l0_2[0] = true) := ⟨by rw [HXE.out]; unfold badS; rw [← hkb]; rfl⟩
                        clear hkb
                        have MK : Aside0 (∀ w1, Below wr.heap.size wr w1 → Below wr.heap.size wr w1 ∧ w1.cell? ⟨w.heap.size, 2, none⟩ = some (.slice (some adx) l0_2.length c0_2) ∧ w1.cell? adx = some (.string x)) := ⟨fun w1 hb => ⟨hb, nd_cell hb hbx, nd_cell hb hx0⟩⟩
                        have FIN : Aside0 (∀ w1, Below wr.heap.size wr w1 → Below wa.heap.size wa w1) := ⟨fun w1 hb => HX2.out.trans (hb.mono HX2.out.size)⟩
                        have RF : Aside0 (false = r) := ⟨by rw [HR.out, ok_badS (List.getElem_mem h) HBD.out, Bool.and_false]⟩
                        clear hx0
                        go_wp2_with fail
                        refine wp_region_held_drew (S := fun w1 => Below wr.heap.size wr w1 ∧ w1.cell? ⟨w.heap.size, 2, none⟩ = some (.slice (some adx) l0_2.length c0_2) ∧ w1.cell? adx = some (.string x)) (by kernel_rfl) ?_ (fun hHeld => ?_)
                        · try dsimp only
                          first | exact MK.out _ (Below.drew (Below.refl _ _)) | exact MK.out _ SB1.out | assumption
                        refine nd_take 0 hHeld ?_
                        refine nd_take 1 hHeld ?_
                        refine nd_take 2 hHeld ?_
                        refine nd_take 3 hHeld ?_
                        refine nd_take 4 hHeld ?_
                        refine wpAnyH_ready (rs := [5]) (by kernel_rfl) (by simp) ?_
                        refine AllReadyH.cons rfl (fun K hK => ?_) AllReadyH.nil
                        go_simp
                        refine (KY.out _).mono ?_
                        rintro e w6 ⟨rfl, hd6⟩
                        have SB1 : Aside0 (Below wr.heap.size wr w6) := ⟨Below.trans hHeld.1 (hd6.below.mono hHeld.1.size)⟩
                        clear hd6
                        go_simp
                        refine hK.out _ _ ?_ (fun hNew => ?_)
                        · try dsimp only
                          first | exact MK.out _ (Below.drew (Below.refl _ _)) | exact MK.out _ SB1.out | assumption
                        clear hK K hHeld
                        have hHeld := hNew
                        clear hNew
                        refine nd_take 6 hHeld ?_
                        refine nd_take 7 hHeld ?_
                        refine nd_skip 8 hHeld ?_
                        refine nd_skip 9 hHeld ?_
                        refine nd_skip 10 hHeld ?_
                        refine nd_skip 11 hHeld ?_
                        refine nd_skip 12 hHeld ?_
                        refine nd_skip 13 hHeld ?_
                        refine nd_skip 14 hHeld ?_
                        refine nd_skip 15 hHeld ?_
                        refine nd_skip 16 hHeld ?_
                        refine nd_skip 17 hHeld ?_
                        refine nd_skip 18 hHeld ?_
                        refine nd_skip 19 hHeld ?_
                        refine nd_skip 20 hHeld ?_
                        refine nd_skip 21 hHeld ?_
                        refine nd_skip 22 hHeld ?_
                        refine nd_skip 23 hHeld ?_
                        refine nd_take 24 hHeld ?_
                        refine wpAnyH_done (by kernel_rfl) ?_ _
                        go_wp2_with fail
                        go_ret
                        exact ⟨by rw [← RF.out]; rfl, (BA.out.trans ((FIN.out _ hHeld.1).mono BA.out.size))⟩

                      · have HBG : Aside0 (badS l0_2[0] = false) := ⟨by rw [HXE.out]; unfold badS; rw [← hkb]; rfl⟩
                        clear hkb
                        have HT : Aside0 ((l0_2.take (1)).any badS = false) := ⟨take_any _ _ 0 h HTK.out HBG.out⟩
                        have HA2 : Aside0 (∀ j, j + 1 < 1 → Op.bytesLess (l0_2.getD j ByteArray.empty).toList (l0_2.getD (j + 1) ByteArray.empty).toList = true) := ⟨fun j hj => by omega⟩
                        have MK : Aside0 (∀ w1, Below wr.heap.size wr w1 → Below wr.heap.size wr w1 ∧ w1.cell? ⟨w.heap.size, 2, none⟩ = some (.slice (some adx) l0_2.length c0_2) ∧ w1.cell? adx = some (.string x)) := ⟨fun w1 hb => ⟨hb, nd_cell hb hbx, nd_cell hb hx0⟩⟩
                        have FIN : Aside0 (∀ w1, Below wr.heap.size wr w1 → Below wa.heap.size wa w1) := ⟨fun w1 hb => HX2.out.trans (hb.mono HX2.out.size)⟩
                        clear hx0
                        go_wp2_with fail
                        refine wp_region_held_drew (S := fun w1 => Below wr.heap.size wr w1 ∧ w1.cell? ⟨w.heap.size, 2, none⟩ = some (.slice (some adx) l0_2.length c0_2) ∧ w1.cell? adx = some (.string x)) (by kernel_rfl) ?_ (fun hHeld => ?_)
                        · try dsimp only
                          first | exact MK.out _ (Below.drew (Below.refl _ _)) | exact MK.out _ SB1.out | assumption
                        refine nd_take 0 hHeld ?_
                        refine nd_take 1 hHeld ?_
                        refine nd_take 2 hHeld ?_
                        refine nd_take 3 hHeld ?_
                        refine nd_take 4 hHeld ?_
                        refine wpAnyH_ready (rs := [5]) (by kernel_rfl) (by simp) ?_
                        refine AllReadyH.cons rfl (fun K hK => ?_) AllReadyH.nil
                        go_simp
                        refine (KY.out _).mono ?_
                        rintro e w6 ⟨rfl, hd6⟩
                        have SB1 : Aside0 (Below wr.heap.size wr w6) := ⟨Below.trans hHeld.1 (hd6.below.mono hHeld.1.size)⟩
                        clear hd6
                        go_simp
                        refine hK.out _ _ ?_ (fun hNew => ?_)
                        · try dsimp only
                          first | exact MK.out _ (Below.drew (Below.refl _ _)) | exact MK.out _ SB1.out | assumption
                        clear hK K hHeld
                        have hHeld := hNew
                        clear hNew
                        refine nd_take 6 hHeld ?_
                        refine nd_take 7 hHeld ?_
                        refine nd_take 8 hHeld ?_
                        refine nd_take 9 hHeld ?_
                        refine nd_take 10 hHeld ?_
                        refine nd_skip 11 hHeld ?_
                        refine nd_skip 12 hHeld ?_
                        refine nd_skip 13 hHeld ?_
                        refine nd_skip 14 hHeld ?_
                        refine nd_skip 15 hHeld ?_
                        refine nd_skip 16 hHeld ?_
                        refine nd_skip 17 hHeld ?_
                        refine nd_skip 18 hHeld ?_
                        refine nd_skip 19 hHeld ?_
                        refine nd_skip 20 hHeld ?_
                        refine nd_skip 21 hHeld ?_
                        refine nd_skip 22 hHeld ?_
                        refine nd_take 23 hHeld ?_
                        refine nd_take 24 hHeld ?_
                        refine wpAnyH_done (by kernel_rfl) ?_ _
                        have FB := Aside0.mk (FIN.out _ hHeld.1)
                        clear hHeld
                        go_wp2_with fail
                        go_roundw
                        case rel => exact ⟨1, by omega, by first | rfl | (simp; done) | go_num, HT, HA2, FB⟩
                        case measure => simp [intOf]; omega


                    · obtain ⟨m, rfl⟩ : ∃ m, k = m + 1 := ⟨k - 1, by omega⟩
                      clear hk0
                      have z0 : decide ((0 : Int) < ((m + 1 : Nat) : Int)) = true := decide_eq_true (by omega)
                      have z0' : decide ((0 : Int) < (m : Int) + 1) = true := decide_eq_true (by omega)
                      have e1 : wrap64 (((m + 1 : Nat) : Int) - 1) = (m : Int) := by unfold wrap64; omega
                      have e1b : wrap64 ((m : Int) + 1 - 1) = (m : Int) := by unfold wrap64; omega
                      have e1c : wrap64 (m : Int) = (m : Int) := by unfold wrap64; omega
                      have e1d : IntKind.i64.wrap (m : Int) = (m : Int) := by rw [IntKind.wrap_i64]; omega
                      have p1 : (0 : Int) ≤ (m : Int) := by omega
                      have q1 : (m : Int) < (l0_2.length : Int) := by omega
                      have p2b : (0 : Int) ≤ (m : Int) + 1 := by omega
                      have q2b : (m : Int) + 1 < (l0_2.length : Int) := by omega
                      have e2b : ((m : Int) + 1).toNat = m + 1 := by omega
                      obtain ⟨x, xe'⟩ : ∃ x, x = rdOf ByteArray.empty l0_2 ((m + 1 : Nat) : Int) := ⟨_, rfl⟩
                      have xe := xe'.symm
                      obtain ⟨adx, hax, hx0⟩ := Kd.at_string (Kd.C_below R2.out HB.out) ((m + 1 : Nat) : Int) (by omega) (by omega)
                      rw [Int.toNat_natCast, show rdOf ByteArray.empty l0_2 ((m + 1 : Nat) : Int) = x from xe] at hx0
                      have HXE : Aside0 (l0_2[m + 1] = x) := ⟨by rw [xe']; simp [rdOf, List.getD_eq_getElem?_getD, h]⟩
                      clear xe xe'
                      obtain ⟨y, ye'⟩ : ∃ y, y = rdOf ByteArray.empty l0_2 ((m : Nat) : Int) := ⟨_, rfl⟩
                      have ye := ye'.symm
                      obtain ⟨ady0, hay0, hy0⟩ := Kd.at_string (Kd.C_below R2.out HB.out) ((m : Nat) : Int) (by omega) (by omega)
                      rw [Int.toNat_natCast, show rdOf ByteArray.empty l0_2 ((m : Nat) : Int) = y from ye] at hy0
                      rw [hax] at hay0
                      cases hay0
                      have hm' : m < l0_2.length := by omega
                      have HYE : Aside0 (l0_2[m] = y) := ⟨by rw [ye']; simp [rdOf, List.getD_eq_getElem?_getD, hm']⟩
                      clear ye ye'
                      subst hax
                      obtain ⟨kb, hkb⟩ : ∃ b, b = keyB x := ⟨_, rfl⟩
                      have KY : Aside0 (∀ W, Calls Try.prog 29 #[.string x] W fun e w' => e = .returned (.bool kb) ∧ Drawn0 W w') := ⟨fun W => cisternref11_Key.calls x kb W (by rw [key_val, hkb])⟩
                      cases kb
                      · have HBD : Aside0 (badS l0_2[m + 1] = true) := ⟨by rw [HXE.out]; unfold badS; rw [← hkb]; rfl⟩
                        clear hkb
                        have MK : Aside0 (∀ w1, Below wr.heap.size wr w1 → Below wr.heap.size wr w1 ∧ w1.cell? ⟨w.heap.size, 2, none⟩ = some (.slice (some adx) l0_2.length c0_2) ∧ w1.cell? (adx.add (m + 1)) = some (.string x) ∧ w1.cell? ⟨adx.block, adx.off + (m + 1), none⟩ = some (.string x) ∧ w1.cell? (adx.add m) = some (.string y)) := ⟨fun w1 hb => ⟨hb, nd_cell hb hbx, nd_cell hb hx0, nd_cell hb (by exact hx0), nd_cell hb hy0⟩⟩
                        have FIN : Aside0 (∀ w1, Below wr.heap.size wr w1 → Below wa.heap.size wa w1) := ⟨fun w1 hb => HX2.out.trans (hb.mono HX2.out.size)⟩
                        have RF : Aside0 (false = r) := ⟨by rw [HR.out, ok_badS (List.getElem_mem h) HBD.out, Bool.and_false]⟩
                        clear hx0 hy0
                        go_wp2_with fail
                        refine wp_region_held_drew (S := fun w1 => Below wr.heap.size wr w1 ∧ w1.cell? ⟨w.heap.size, 2, none⟩ = some (.slice (some adx) l0_2.length c0_2) ∧ w1.cell? (adx.add (m + 1)) = some (.string x) ∧ w1.cell? ⟨adx.block, adx.off + (m + 1), none⟩ = some (.string x) ∧ w1.cell? (adx.add m) = some (.string y)) (by kernel_rfl) ?_ (fun hHeld => ?_)
                        · try dsimp only
                          first | exact MK.out _ (Below.drew (Below.refl _ _)) | exact MK.out _ SB1.out | assumption
                        refine nd_take 0 hHeld ?_
                        refine nd_take 1 hHeld ?_
                        refine nd_take 2 hHeld ?_
                        refine nd_take 3 hHeld ?_
                        refine nd_take 4 hHeld ?_
                        refine wpAnyH_ready (rs := [5]) (by kernel_rfl) (by simp) ?_
                        refine AllReadyH.cons rfl (fun K hK => ?_) AllReadyH.nil
                        go_simp
                        refine (KY.out _).mono ?_
                        rintro e w6 ⟨rfl, hd6⟩
                        have SB1 : Aside0 (Below wr.heap.size wr w6) := ⟨Below.trans hHeld.1 (hd6.below.mono hHeld.1.size)⟩
                        clear hd6
                        go_simp
                        refine hK.out _ _ ?_ (fun hNew => ?_)
                        · try dsimp only
                          first | exact MK.out _ (Below.drew (Below.refl _ _)) | exact MK.out _ SB1.out | assumption
                        clear hK K hHeld
                        have hHeld := hNew
                        clear hNew
                        refine nd_take 6 hHeld ?_
                        refine nd_take 7 hHeld ?_
                        refine nd_skip 8 hHeld ?_
                        refine nd_skip 9 hHeld ?_
                        refine nd_skip 10 hHeld ?_
                        refine nd_skip 11 hHeld ?_
                        refine nd_skip 12 hHeld ?_
                        refine nd_skip 13 hHeld ?_
                        refine nd_skip 14 hHeld ?_
                        refine nd_skip 15 hHeld ?_
                        refine nd_skip 16 hHeld ?_
                        refine nd_skip 17 hHeld ?_
                        refine nd_skip 18 hHeld ?_
                        refine nd_skip 19 hHeld ?_
                        refine nd_skip 20 hHeld ?_
                        refine nd_skip 21 hHeld ?_
                        refine nd_skip 22 hHeld ?_
                        refine nd_skip 23 hHeld ?_
                        refine nd_take 24 hHeld ?_
                        refine wpAnyH_done (by kernel_rfl) ?_ _
                        go_wp2_with fail
                        go_ret
                        exact ⟨by rw [← RF.out]; rfl, (BA.out.trans ((FIN.out _ hHeld.1).mono BA.out.size))⟩

                      · have HBG : Aside0 (badS l0_2[m + 1] = false) := ⟨by rw [HXE.out]; unfold badS; rw [← hkb]; rfl⟩
                        clear hkb
                        have HT : Aside0 ((l0_2.take (m + 1 + 1)).any badS = false) := ⟨take_any _ _ (m + 1) h HTK.out HBG.out⟩
                        obtain ⟨b, hb⟩ : ∃ b, b = Op.bytesLess y.toList x.toList := ⟨_, rfl⟩
                        have Hb := Aside0.mk hb
                        have hb' : Op.bytesLess y.toList x.toList = b := hb.symm
                        clear hb
                        have HG : Aside0 (l0_2.getD m ByteArray.empty = y ∧ l0_2.getD (m + 1) ByteArray.empty = x) := ⟨by rw [← HXE.out, ← HYE.out]; constructor <;> simp [List.getD_eq_getElem?_getD, h, show m < l0_2.length by omega]⟩
                        cases b
                        · have HFL : Aside0 (risesB l0_2 = false) := ⟨rises_false m (by simpa using h) (by rw [HG.out.1, HG.out.2]; exact Hb.out.symm)⟩
                          have MK : Aside0 (∀ w1, Below wr.heap.size wr w1 → Below wr.heap.size wr w1 ∧ w1.cell? ⟨w.heap.size, 2, none⟩ = some (.slice (some adx) l0_2.length c0_2) ∧ w1.cell? (adx.add (m + 1)) = some (.string x) ∧ w1.cell? ⟨adx.block, adx.off + (m + 1), none⟩ = some (.string x) ∧ w1.cell? (adx.add m) = some (.string y)) := ⟨fun w1 hb => ⟨hb, nd_cell hb hbx, nd_cell hb hx0, nd_cell hb (by exact hx0), nd_cell hb hy0⟩⟩
                          have FIN : Aside0 (∀ w1, Below wr.heap.size wr w1 → Below wa.heap.size wa w1) := ⟨fun w1 hb => HX2.out.trans (hb.mono HX2.out.size)⟩
                          have RF : Aside0 (false = r) := ⟨by rw [HR.out, ok_fallS HFL.out, Bool.and_false]⟩
                          clear hx0 hy0
                          go_wp2_with fail
                          refine wp_region_held_drew (S := fun w1 => Below wr.heap.size wr w1 ∧ w1.cell? ⟨w.heap.size, 2, none⟩ = some (.slice (some adx) l0_2.length c0_2) ∧ w1.cell? (adx.add (m + 1)) = some (.string x) ∧ w1.cell? ⟨adx.block, adx.off + (m + 1), none⟩ = some (.string x) ∧ w1.cell? (adx.add m) = some (.string y)) (by kernel_rfl) ?_ (fun hHeld => ?_)
                          · try dsimp only
                            first | exact MK.out _ (Below.drew (Below.refl _ _)) | exact MK.out _ SB1.out | assumption
                          refine nd_take 0 hHeld ?_
                          refine nd_take 1 hHeld ?_
                          refine nd_take 2 hHeld ?_
                          refine nd_take 3 hHeld ?_
                          refine nd_take 4 hHeld ?_
                          refine wpAnyH_ready (rs := [5]) (by kernel_rfl) (by simp) ?_
                          refine AllReadyH.cons rfl (fun K hK => ?_) AllReadyH.nil
                          go_simp
                          refine (KY.out _).mono ?_
                          rintro e w6 ⟨rfl, hd6⟩
                          have SB1 : Aside0 (Below wr.heap.size wr w6) := ⟨Below.trans hHeld.1 (hd6.below.mono hHeld.1.size)⟩
                          clear hd6
                          go_simp
                          refine hK.out _ _ ?_ (fun hNew => ?_)
                          · try dsimp only
                            first | exact MK.out _ (Below.drew (Below.refl _ _)) | exact MK.out _ SB1.out | assumption
                          clear hK K hHeld
                          have hHeld := hNew
                          clear hNew
                          refine nd_take 6 hHeld ?_
                          refine nd_take 7 hHeld ?_
                          refine nd_take 8 hHeld ?_
                          refine nd_take 9 hHeld ?_
                          refine nd_take 10 hHeld ?_
                          refine nd_take 11 hHeld ?_
                          refine nd_take 12 hHeld ?_
                          refine nd_take 13 hHeld ?_
                          refine nd_take 14 hHeld ?_
                          refine nd_take 15 hHeld ?_
                          refine nd_take 16 hHeld ?_
                          refine nd_take 17 hHeld ?_
                          refine nd_take 18 hHeld ?_
                          refine nd_take 19 hHeld ?_
                          refine nd_take 20 hHeld ?_
                          refine nd_take 21 hHeld ?_
                          refine nd_take 22 hHeld ?_
                          refine nd_take 23 hHeld ?_
                          refine nd_take 24 hHeld ?_
                          refine wpAnyH_done (by kernel_rfl) ?_ _
                          go_wp2_with fail
                          go_ret
                          exact ⟨by rw [← RF.out]; rfl, (BA.out.trans ((FIN.out _ hHeld.1).mono BA.out.size))⟩

                        · have HA2 : Aside0 (∀ j, j + 1 < m + 1 + 1 → Op.bytesLess (l0_2.getD j ByteArray.empty).toList (l0_2.getD (j + 1) ByteArray.empty).toList = true) := ⟨fun j hj => by
                            by_cases e : j = m
                            · subst e
                              rw [HG.out.1, HG.out.2]
                              exact Hb.out.symm
                            · exact HA.out j (by omega)⟩
                          have MK : Aside0 (∀ w1, Below wr.heap.size wr w1 → Below wr.heap.size wr w1 ∧ w1.cell? ⟨w.heap.size, 2, none⟩ = some (.slice (some adx) l0_2.length c0_2) ∧ w1.cell? (adx.add (m + 1)) = some (.string x) ∧ w1.cell? ⟨adx.block, adx.off + (m + 1), none⟩ = some (.string x) ∧ w1.cell? (adx.add m) = some (.string y)) := ⟨fun w1 hb => ⟨hb, nd_cell hb hbx, nd_cell hb hx0, nd_cell hb (by exact hx0), nd_cell hb hy0⟩⟩
                          have FIN : Aside0 (∀ w1, Below wr.heap.size wr w1 → Below wa.heap.size wa w1) := ⟨fun w1 hb => HX2.out.trans (hb.mono HX2.out.size)⟩
                          clear hx0 hy0
                          go_wp2_with fail
                          refine wp_region_held_drew (S := fun w1 => Below wr.heap.size wr w1 ∧ w1.cell? ⟨w.heap.size, 2, none⟩ = some (.slice (some adx) l0_2.length c0_2) ∧ w1.cell? (adx.add (m + 1)) = some (.string x) ∧ w1.cell? ⟨adx.block, adx.off + (m + 1), none⟩ = some (.string x) ∧ w1.cell? (adx.add m) = some (.string y)) (by kernel_rfl) ?_ (fun hHeld => ?_)
                          · try dsimp only
                            first | exact MK.out _ (Below.drew (Below.refl _ _)) | exact MK.out _ SB1.out | assumption
                          refine nd_take 0 hHeld ?_
                          refine nd_take 1 hHeld ?_
                          refine nd_take 2 hHeld ?_
                          refine nd_take 3 hHeld ?_
                          refine nd_take 4 hHeld ?_
                          refine wpAnyH_ready (rs := [5]) (by kernel_rfl) (by simp) ?_
                          refine AllReadyH.cons rfl (fun K hK => ?_) AllReadyH.nil
                          go_simp
                          refine (KY.out _).mono ?_
                          rintro e w6 ⟨rfl, hd6⟩
                          have SB1 : Aside0 (Below wr.heap.size wr w6) := ⟨Below.trans hHeld.1 (hd6.below.mono hHeld.1.size)⟩
                          clear hd6
                          go_simp
                          refine hK.out _ _ ?_ (fun hNew => ?_)
                          · try dsimp only
                            first | exact MK.out _ (Below.drew (Below.refl _ _)) | exact MK.out _ SB1.out | assumption
                          clear hK K hHeld
                          have hHeld := hNew
                          clear hNew
                          refine nd_take 6 hHeld ?_
                          refine nd_take 7 hHeld ?_
                          refine nd_take 8 hHeld ?_
                          refine nd_take 9 hHeld ?_
                          refine nd_take 10 hHeld ?_
                          refine nd_take 11 hHeld ?_
                          refine nd_take 12 hHeld ?_
                          refine nd_take 13 hHeld ?_
                          refine nd_take 14 hHeld ?_
                          refine nd_take 15 hHeld ?_
                          refine nd_take 16 hHeld ?_
                          refine nd_take 17 hHeld ?_
                          refine nd_take 18 hHeld ?_
                          refine nd_take 19 hHeld ?_
                          refine nd_take 20 hHeld ?_
                          refine nd_take 21 hHeld ?_
                          refine nd_take 22 hHeld ?_
                          refine nd_take 23 hHeld ?_
                          refine nd_take 24 hHeld ?_
                          refine wpAnyH_done (by kernel_rfl) ?_ _
                          have FB := Aside0.mk (FIN.out _ hHeld.1)
                          clear hHeld
                          go_wp2_with fail
                          go_roundw
                          case rel => exact ⟨m + 1 + 1, by omega, by first | rfl | (simp; done) | go_num, HT, HA2, FB⟩
                          case measure => simp [intOf]; omega



                  · have d1 : decide (k < l0_2.length) = false := decide_eq_false h
                    have d1' : decide ((k : Int) < (l0_2.length : Int)) = false := decide_eq_false (by omega)
                    have OKS : Aside0 (l0_2.any badS = false ∧ risesB l0_2 = true) := ⟨by have := HTK.out; rwa [List.take_of_length_le (by omega)] at this, rises_true (fun j hj => HA.out j (by (try simp at hj); omega))⟩
                    clear HTK HA
                    go_wp2_with fail
                    clear hbx
                    go_loopw [5] (fun v w' => ∃ k : Nat, k ≤ l0_3.length ∧ v = .int .i64 (k : Int) ∧ Aside0 ((l0_3.take k).any badI = false) ∧ Aside0 (Below wa.heap.size wa w')) (fun v _ => (l0_3.length - intOf v).toNat)
                    case atStart => exact ⟨0, by omega, rfl, ⟨by simp⟩, HX2⟩
                    case round =>
                      obtain ⟨k, hk, rfl, HTK, HX2⟩ := hrel
                      have hbx : wr.cell? ⟨w.heap.size, 3, none⟩ = some (.slice A0_3 l0_3.length c0_3) := nd_cell HX2.out BC3.out
                      by_cases h : k < l0_3.length
                      · have d1 : decide (k < l0_3.length) = true := decide_eq_true h
                        have d1' : decide ((k : Int) < (l0_3.length : Int)) = true := decide_eq_true (by omega)
                        have HB : Aside0 (Below w.heap.size w wr) := ⟨BA.out.trans (HX2.out.mono BA.out.size)⟩
                        have p1 : (0 : Int) ≤ (k : Int) := by omega
                        have q1 : (k : Int) < (l0_3.length : Int) := by omega
                        obtain ⟨ad, e, hx⟩ := Kd.at_int (Kd.C_below R3.out HB.out) (k : Int) p1 q1
                        cases e
                        obtain ⟨x, hxx⟩ : ∃ x, x = rd l0_3 (k : Int) := ⟨_, rfl⟩
                        rw [← hxx] at hx
                        have HXE : Aside0 (l0_3[k] = x) := ⟨by rw [hxx]; simp [rd, List.getD_eq_getElem?_getD, h]⟩
                        clear hxx
                        rw [Int.toNat_natCast] at hx
                        by_cases h1 : x < 1
                        · have f1 : decide (x < 1) = true := decide_eq_true h1
                          have RF : Aside0 (false = r) := ⟨by rw [HR.out, ok_badI (List.getElem_mem h) (by rw [HXE.out]; unfold badI; rw [f1]; rfl), Bool.and_false]⟩
                          clear h1
                          go_wp2_with fail
                          go_ret
                          exact ⟨by rw [← RF.out]; rfl, BA.out.trans (HX2.out.mono BA.out.size)⟩
                        · have f1 : decide (x < 1) = false := decide_eq_false h1
                          by_cases h2 : 65535 < x
                          · have f2 : decide (65535 < x) = true := decide_eq_true h2
                            have RF : Aside0 (false = r) := ⟨by rw [HR.out, ok_badI (List.getElem_mem h) (by rw [HXE.out]; unfold badI; rw [f2]; simp), Bool.and_false]⟩
                            clear h1 h2
                            go_wp2_with fail
                            go_ret
                            exact ⟨by rw [← RF.out]; rfl, BA.out.trans (HX2.out.mono BA.out.size)⟩
                          · have f2 : decide (65535 < x) = false := decide_eq_false h2
                            have HT : Aside0 ((l0_3.take (k + 1)).any badI = false) := ⟨take_any _ _ k h HTK.out (by rw [HXE.out]; unfold badI; rw [f1, f2]; rfl)⟩
                            clear h1 h2
                            go_wp2_with fail
                            go_roundw
                            case rel => exact ⟨k + 1, by omega, by first | rfl | (simp; done) | go_num, HT, HX2⟩
                            case measure => simp [intOf]; omega
                      · have d1 : decide (k < l0_3.length) = false := decide_eq_false h
                        have d1' : decide ((k : Int) < (l0_3.length : Int)) = false := decide_eq_false (by omega)
                        have RF : Aside0 (true = r) := ⟨by
                          have hi := HTK.out
                          rw [List.take_of_length_le (by omega)] at hi
                          rw [HR.out, GD.out]
                          unfold okV
                          rw [OKP.out.1, OKP.out.2, OKS.out.1, OKS.out.2, hi]
                          rfl⟩
                        go_wp2_with fail
                        go_ret
                        exact ⟨by rw [← RF.out]; rfl, BA.out.trans (HX2.out.mono BA.out.size)⟩

          · have gs0 : ((l0_2.length : Int) != (l0_3.length : Int) - 1) = true := bne_iff_ne.2 (by omega)
            have RF : Aside0 (false = r) := ⟨by rw [HR.out, show gdV false l0_1 l0_2 l0_3 = false by unfold gdV; simp [hp, hd, hq, hz, hs], Bool.false_and]⟩
            clear hp hd hq hz hs
            have bx := heap_alloc_new w (.cells #[.bool false, .slice A0_1 l0_1.length c0_1, .slice A0_2 l0_2.length c0_2, .slice A0_3 l0_3.length c0_3] 26)
            have xa := below_alloc (Below.refl w.heap.size w) (.cells #[.bool false, .slice A0_1 l0_1.length c0_1, .slice A0_2 l0_2.length c0_2, .slice A0_3 l0_3.length c0_3] 26)
            obtain ⟨wa, hwa⟩ : ∃ wa, wa = w.alloc (.cells #[.bool false, .slice A0_1 l0_1.length c0_1, .slice A0_2 l0_2.length c0_2, .slice A0_3 l0_3.length c0_3] 26) := ⟨_, rfl⟩
            have HWA := Aside0.mk hwa
            rw [← hwa] at bx xa
            have BA := Aside0.mk xa
            clear hwa xa
            have b0 : wa.cell? ⟨w.heap.size, 0, none⟩ = some (.bool false) := blk_cell bx 0
            have b1 : wa.cell? ⟨w.heap.size, 1, none⟩ = some (.slice A0_1 l0_1.length c0_1) := blk_cell bx 1
            have b2 : wa.cell? ⟨w.heap.size, 2, none⟩ = some (.slice A0_2 l0_2.length c0_2) := blk_cell bx 2
            have b3 : wa.cell? ⟨w.heap.size, 3, none⟩ = some (.slice A0_3 l0_3.length c0_3) := blk_cell bx 3
            have BC1 := Aside0.mk b1
            have BC2 := Aside0.mk b2
            have BC3 := Aside0.mk b3
            clear bx

            go_enter Try.func26, Try.ntmps26
            go_wp2_with fail
            go_ret
            exact ⟨by rw [← RF.out]; rfl, by rw [← HWA.out]; exact BA.out⟩

        · have gz0 : ((l0_3.length : Int) == 0) = true := beq_iff_eq.2 (by omega)
          have gz1 : (l0_3.length == 0) = true := beq_iff_eq.2 (by omega)
          have RF : Aside0 (false = r) := ⟨by rw [HR.out, show gdV false l0_1 l0_2 l0_3 = false by unfold gdV; simp [hp, hd, hq, hz], Bool.false_and]⟩
          clear hp hd hq hz
          have bx := heap_alloc_new w (.cells #[.bool false, .slice A0_1 l0_1.length c0_1, .slice A0_2 l0_2.length c0_2, .slice A0_3 l0_3.length c0_3] 26)
          have xa := below_alloc (Below.refl w.heap.size w) (.cells #[.bool false, .slice A0_1 l0_1.length c0_1, .slice A0_2 l0_2.length c0_2, .slice A0_3 l0_3.length c0_3] 26)
          obtain ⟨wa, hwa⟩ : ∃ wa, wa = w.alloc (.cells #[.bool false, .slice A0_1 l0_1.length c0_1, .slice A0_2 l0_2.length c0_2, .slice A0_3 l0_3.length c0_3] 26) := ⟨_, rfl⟩
          have HWA := Aside0.mk hwa
          rw [← hwa] at bx xa
          have BA := Aside0.mk xa
          clear hwa xa
          have b0 : wa.cell? ⟨w.heap.size, 0, none⟩ = some (.bool false) := blk_cell bx 0
          have b1 : wa.cell? ⟨w.heap.size, 1, none⟩ = some (.slice A0_1 l0_1.length c0_1) := blk_cell bx 1
          have b2 : wa.cell? ⟨w.heap.size, 2, none⟩ = some (.slice A0_2 l0_2.length c0_2) := blk_cell bx 2
          have b3 : wa.cell? ⟨w.heap.size, 3, none⟩ = some (.slice A0_3 l0_3.length c0_3) := blk_cell bx 3
          have BC1 := Aside0.mk b1
          have BC2 := Aside0.mk b2
          have BC3 := Aside0.mk b3
          clear bx

          go_enter Try.func26, Try.ntmps26
          go_wp2_with fail
          go_ret
          exact ⟨by rw [← RF.out]; rfl, by rw [← HWA.out]; exact BA.out⟩

      · have gq0 : decide ((0 : Int) < (l0_1.length : Int)) = true := decide_eq_true (by omega)
        have gq1 : decide (0 < l0_1.length) = true := decide_eq_true (by omega)
        have RF : Aside0 (false = r) := ⟨by rw [HR.out, show gdV false l0_1 l0_2 l0_3 = false by unfold gdV; simp [hp, hd, hq], Bool.false_and]⟩
        clear hp hd hq
        have bx := heap_alloc_new w (.cells #[.bool false, .slice A0_1 l0_1.length c0_1, .slice A0_2 l0_2.length c0_2, .slice A0_3 l0_3.length c0_3] 26)
        have xa := below_alloc (Below.refl w.heap.size w) (.cells #[.bool false, .slice A0_1 l0_1.length c0_1, .slice A0_2 l0_2.length c0_2, .slice A0_3 l0_3.length c0_3] 26)
        obtain ⟨wa, hwa⟩ : ∃ wa, wa = w.alloc (.cells #[.bool false, .slice A0_1 l0_1.length c0_1, .slice A0_2 l0_2.length c0_2, .slice A0_3 l0_3.length c0_3] 26) := ⟨_, rfl⟩
        have HWA := Aside0.mk hwa
        rw [← hwa] at bx xa
        have BA := Aside0.mk xa
        clear hwa xa
        have b0 : wa.cell? ⟨w.heap.size, 0, none⟩ = some (.bool false) := blk_cell bx 0
        have b1 : wa.cell? ⟨w.heap.size, 1, none⟩ = some (.slice A0_1 l0_1.length c0_1) := blk_cell bx 1
        have b2 : wa.cell? ⟨w.heap.size, 2, none⟩ = some (.slice A0_2 l0_2.length c0_2) := blk_cell bx 2
        have b3 : wa.cell? ⟨w.heap.size, 3, none⟩ = some (.slice A0_3 l0_3.length c0_3) := blk_cell bx 3
        have BC1 := Aside0.mk b1
        have BC2 := Aside0.mk b2
        have BC3 := Aside0.mk b3
        clear bx

        go_enter Try.func26, Try.ntmps26
        go_wp2_with fail
        go_ret
        exact ⟨by rw [← RF.out]; rfl, by rw [← HWA.out]; exact BA.out⟩

    · have gd0 : decide ((255 : Int) < (l0_3.length : Int)) = true := decide_eq_true (by omega)
      have gd1 : decide (255 < l0_3.length) = true := decide_eq_true (by omega)
      have RF : Aside0 (false = r) := ⟨by rw [HR.out, show gdV false l0_1 l0_2 l0_3 = false by unfold gdV; simp [hp, hd], Bool.false_and]⟩
      clear hp hd
      have bx := heap_alloc_new w (.cells #[.bool false, .slice A0_1 l0_1.length c0_1, .slice A0_2 l0_2.length c0_2, .slice A0_3 l0_3.length c0_3] 26)
      have xa := below_alloc (Below.refl w.heap.size w) (.cells #[.bool false, .slice A0_1 l0_1.length c0_1, .slice A0_2 l0_2.length c0_2, .slice A0_3 l0_3.length c0_3] 26)
      obtain ⟨wa, hwa⟩ : ∃ wa, wa = w.alloc (.cells #[.bool false, .slice A0_1 l0_1.length c0_1, .slice A0_2 l0_2.length c0_2, .slice A0_3 l0_3.length c0_3] 26) := ⟨_, rfl⟩
      have HWA := Aside0.mk hwa
      rw [← hwa] at bx xa
      have BA := Aside0.mk xa
      clear hwa xa
      have b0 : wa.cell? ⟨w.heap.size, 0, none⟩ = some (.bool false) := blk_cell bx 0
      have b1 : wa.cell? ⟨w.heap.size, 1, none⟩ = some (.slice A0_1 l0_1.length c0_1) := blk_cell bx 1
      have b2 : wa.cell? ⟨w.heap.size, 2, none⟩ = some (.slice A0_2 l0_2.length c0_2) := blk_cell bx 2
      have b3 : wa.cell? ⟨w.heap.size, 3, none⟩ = some (.slice A0_3 l0_3.length c0_3) := blk_cell bx 3
      have BC1 := Aside0.mk b1
      have BC2 := Aside0.mk b2
      have BC3 := Aside0.mk b3
      clear bx

      go_enter Try.func26, Try.ntmps26
      go_wp2_with fail
      go_ret
      exact ⟨by rw [← RF.out]; rfl, by rw [← HWA.out]; exact BA.out⟩

  · have gp0 : decide ((255 : Int) < (l0_1.length : Int)) = true := decide_eq_true (by omega)
    have gp1 : decide (255 < l0_1.length) = true := decide_eq_true (by omega)
    have RF : Aside0 (false = r) := ⟨by rw [HR.out, show gdV false l0_1 l0_2 l0_3 = false by unfold gdV; simp [hp], Bool.false_and]⟩
    clear hp
    have bx := heap_alloc_new w (.cells #[.bool false, .slice A0_1 l0_1.length c0_1, .slice A0_2 l0_2.length c0_2, .slice A0_3 l0_3.length c0_3] 26)
    have xa := below_alloc (Below.refl w.heap.size w) (.cells #[.bool false, .slice A0_1 l0_1.length c0_1, .slice A0_2 l0_2.length c0_2, .slice A0_3 l0_3.length c0_3] 26)
    obtain ⟨wa, hwa⟩ : ∃ wa, wa = w.alloc (.cells #[.bool false, .slice A0_1 l0_1.length c0_1, .slice A0_2 l0_2.length c0_2, .slice A0_3 l0_3.length c0_3] 26) := ⟨_, rfl⟩
    have HWA := Aside0.mk hwa
    rw [← hwa] at bx xa
    have BA := Aside0.mk xa
    clear hwa xa
    have b0 : wa.cell? ⟨w.heap.size, 0, none⟩ = some (.bool false) := blk_cell bx 0
    have b1 : wa.cell? ⟨w.heap.size, 1, none⟩ = some (.slice A0_1 l0_1.length c0_1) := blk_cell bx 1
    have b2 : wa.cell? ⟨w.heap.size, 2, none⟩ = some (.slice A0_2 l0_2.length c0_2) := blk_cell bx 2
    have b3 : wa.cell? ⟨w.heap.size, 3, none⟩ = some (.slice A0_3 l0_3.length c0_3) := blk_cell bx 3
    have BC1 := Aside0.mk b1
    have BC2 := Aside0.mk b2
    have BC3 := Aside0.mk b3
    clear bx

    go_enter Try.func26, Try.ntmps26
    go_wp2_with fail
    go_ret
    exact ⟨by rw [← RF.out]; rfl, by rw [← HWA.out]; exact BA.out⟩
def cisternref11_Right.f (a0_0 : Bool) (l0_1 : List (S48)) (l0_2 : List ByteArray) (l0_3 : List Int) : Option (Bool) := some (leafV a0_0 l0_1 l0_2 l0_3 || innerV a0_0 l0_1 l0_2 l0_3)
theorem cisternref11_Right.calls (a0_0 : Bool) (A0_1 : Option Addr) (c0_1 : Nat) (l0_1 : List S48) (A0_2 : Option Addr) (c0_2 : Nat) (l0_2 : List ByteArray) (A0_3 : Option Addr) (c0_3 : Nat) (l0_3 : List Int) (r : Bool) (w : World) (hr0_1 : Kd.C k48 w A0_1 l0_1.length l0_1) (hc0_1 : l0_1.length ≤ c0_1) (hr0_2 : Kd.C Kd.string w A0_2 l0_2.length l0_2) (hc0_2 : l0_2.length ≤ c0_2) (hr0_3 : Kd.C (Kd.int .i64) w A0_3 l0_3.length l0_3) (hc0_3 : l0_3.length ≤ c0_3) (h : cisternref11_Right.f a0_0 l0_1 l0_2 l0_3 = some r) :
    Calls Try.prog 26 #[.agg #[.bool a0_0, .slice A0_1 l0_1.length c0_1, .slice A0_2 l0_2.length c0_2, .slice A0_3 l0_3.length c0_3]] w fun e w' => e = .returned (.bool r) ∧ Below w.heap.size w w' := by
  have h := Option.some.inj h
  rw [← right_eq] at h
  cases a0_0
  · exact right_false A0_1 c0_1 l0_1 A0_2 c0_2 l0_2 A0_3 c0_3 l0_3 r w hr0_1 hc0_1 hr0_2 hc0_2 hr0_3 hc0_3 h.symm
  · exact right_true A0_1 c0_1 l0_1 A0_2 c0_2 l0_2 A0_3 c0_3 l0_3 r w hr0_1 hc0_1 hr0_2 hc0_2 hr0_3 hc0_3 h.symm
end
end Go.Proofs.Ytjjfeoigjhbbpaa.PA
namespace Go.Proofs.Ytjjfeoigjhbbpaa.PA
section

open Go.RowKit Go.Proofs.YtjjfeoigjhbbpaaW.PrintWords Go.Proofs.YtjjfeoigjhbbpaaW.PrintLast Go.Proofs.YtjjfeoigjhbbpaaW.PrintMore
attribute [local go_sem] pr_leq pr_geq pr_gtr max2_int min2_int max_two min_two max_three min_three max_four min_four
set_option linter.unusedVariables false
set_option linter.unusedSimpArgs false
theorem eqA48 (d : Nat) (w : World) (x0 y0 : ByteArray) (x1 y1 : ByteArray) :
    (Op.equalIn (d + 2) 48 (.agg #[.string x0, .string x1]) (.agg #[.string y0, .string y1])).run Try.prog w = .ok (x0.toList == y0.toList && (x1.toList == y1.toList)) w := by
  refine eqA_of Try.underlying48 (by kernel_rfl) ?_
  refine eqf_cons (by rfl) (by go_simp; rfl) (by go_simp; rfl) (by go_simp) ?_
  exact eqf_last (by rfl) (by go_simp; rfl) (by go_simp; rfl) (by go_simp)
end
end Go.Proofs.Ytjjfeoigjhbbpaa.PA
namespace Go.Proofs.Ytjjfeoigjhbbpaa.PA
section

open Go.RowKit Go.Proofs.YtjjfeoigjhbbpaaW.PrintWords Go.Proofs.YtjjfeoigjhbbpaaW.PrintLast Go.Proofs.YtjjfeoigjhbbpaaW.PrintMore
attribute [local go_sem] pr_leq pr_geq pr_gtr max2_int min2_int max_two min_two max_three min_three max_four min_four
set_option linter.unusedVariables false
set_option linter.unusedSimpArgs false
attribute [local go_sem high] eqA48
mutual
def cisternref11_Same.j0 : Nat → Bool → Bool → List (S48) → List ByteArray → List Int → Bool → List (S48) → List ByteArray → List Int → Option (Bool)
  | 0, _, _, _, _, _, _, _, _, _ => none
  | k + 1, x39, x326000, x326001, x326002, x326003, x327000, x327001, x327002, x327003 => if x39 = true then (some false) else (cisternref11_Same.l0 k 0 x326000 x326001 x326002 x326003 x327000 x327001 x327002 x327003)
def cisternref11_Same.l0 : Nat → Int → Bool → List (S48) → List ByteArray → List Int → Bool → List (S48) → List ByteArray → List Int → Option (Bool)
  | 0, _, _, _, _, _, _, _, _, _ => none
  | k + 1, x5, x326000, x326001, x326002, x326003, x327000, x327001, x327002, x327003 => if x5 < (x326001.length : Int) then (if 0 ≤ x5 then (if x5 < (x327001.length : Int) then (if (!((((rd_T48 x326001 x5).f0).toList) == (((rd_T48 x327001 x5).f0).toList)) || (!((((rd_T48 x326001 x5).f1).toList) == (((rd_T48 x327001 x5).f1).toList)))) = true then (some false) else (cisternref11_Same.l0 k (wrap64 (x5 + 1)) x326000 x326001 x326002 x326003 x327000 x327001 x327002 x327003)) else (none)) else (none)) else (cisternref11_Same.l1 k 0 x326000 x326001 x326002 x326003 x327000 x327001 x327002 x327003)
def cisternref11_Same.l1 : Nat → Int → Bool → List (S48) → List ByteArray → List Int → Bool → List (S48) → List ByteArray → List Int → Option (Bool)
  | 0, _, _, _, _, _, _, _, _, _ => none
  | k + 1, x6, x326000, x326001, x326002, x326003, x327000, x327001, x327002, x327003 => if x6 < (x326002.length : Int) then (if 0 ≤ x6 then (if x6 < (x327002.length : Int) then (if (rdOf ByteArray.empty x326002 x6).toList = (rdOf ByteArray.empty x327002 x6).toList then (cisternref11_Same.l1 k (wrap64 (x6 + 1)) x326000 x326001 x326002 x326003 x327000 x327001 x327002 x327003) else (some false)) else (none)) else (none)) else (cisternref11_Same.l2 k 0 x326000 x326001 x326002 x326003 x327000 x327001 x327002 x327003)
def cisternref11_Same.l2 : Nat → Int → Bool → List (S48) → List ByteArray → List Int → Bool → List (S48) → List ByteArray → List Int → Option (Bool)
  | 0, _, _, _, _, _, _, _, _, _ => none
  | k + 1, x7, x326000, x326001, x326002, x326003, x327000, x327001, x327002, x327003 => if x7 < (x326003.length : Int) then (if 0 ≤ x7 then (if x7 < (x327003.length : Int) then (if (rd x326003 x7) = (rd x327003 x7) then (cisternref11_Same.l2 k (wrap64 (x7 + 1)) x326000 x326001 x326002 x326003 x327000 x327001 x327002 x327003) else (some false)) else (none)) else (none)) else (some true)
end
def cisternref11_Same.f (k : Nat) (a0_0 : Bool) (l0_1 : List (S48)) (l0_2 : List ByteArray) (l0_3 : List Int) (a1_0 : Bool) (l1_1 : List (S48)) (l1_2 : List ByteArray) (l1_3 : List Int) : Option (Bool) := if (a0_0 != a1_0) = true then (cisternref11_Same.j0 k true a0_0 l0_1 l0_2 l0_3 a1_0 l1_1 l1_2 l1_3) else (if (l0_1.length : Int) = (l1_1.length : Int) then (if (l0_2.length : Int) = (l1_2.length : Int) then (cisternref11_Same.j0 k ((l0_3.length : Int) != (l1_3.length : Int)) a0_0 l0_1 l0_2 l0_3 a1_0 l1_1 l1_2 l1_3) else (cisternref11_Same.j0 k true a0_0 l0_1 l0_2 l0_3 a1_0 l1_1 l1_2 l1_3)) else (cisternref11_Same.j0 k true a0_0 l0_1 l0_2 l0_3 a1_0 l1_1 l1_2 l1_3))
set_option maxHeartbeats 8000000 in
set_option maxRecDepth 100000 in
theorem cisternref11_Same.calls (k : Nat) (a0_0 : Bool) (A0_1 : Option Addr) (c0_1 : Nat) (l0_1 : List (S48)) (A0_2 : Option Addr) (c0_2 : Nat) (l0_2 : List ByteArray) (A0_3 : Option Addr) (c0_3 : Nat) (l0_3 : List Int) (a1_0 : Bool) (A1_1 : Option Addr) (c1_1 : Nat) (l1_1 : List (S48)) (A1_2 : Option Addr) (c1_2 : Nat) (l1_2 : List ByteArray) (A1_3 : Option Addr) (c1_3 : Nat) (l1_3 : List Int) (r : Bool) (w : World) (hr0_1 : Kd.C k48 w A0_1 l0_1.length l0_1) (hc0_1 : l0_1.length ≤ c0_1) (hr0_2 : Kd.C Kd.string w A0_2 l0_2.length l0_2) (hc0_2 : l0_2.length ≤ c0_2) (hr0_3 : Kd.C (Kd.int .i64) w A0_3 l0_3.length l0_3) (hc0_3 : l0_3.length ≤ c0_3) (hr1_1 : Kd.C k48 w A1_1 l1_1.length l1_1) (hc1_1 : l1_1.length ≤ c1_1) (hr1_2 : Kd.C Kd.string w A1_2 l1_2.length l1_2) (hc1_2 : l1_2.length ≤ c1_2) (hr1_3 : Kd.C (Kd.int .i64) w A1_3 l1_3.length l1_3) (hc1_3 : l1_3.length ≤ c1_3) (h : cisternref11_Same.f k a0_0 l0_1 l0_2 l0_3 a1_0 l1_1 l1_2 l1_3 = some r) :
    Calls Try.prog 19 #[.agg #[.bool a0_0, .slice A0_1 l0_1.length c0_1, .slice A0_2 l0_2.length c0_2, .slice A0_3 l0_3.length c0_3], .agg #[.bool a1_0, .slice A1_1 l1_1.length c1_1, .slice A1_2 l1_2.length c1_2, .slice A1_3 l1_3.length c1_3]] w fun e w' => e = .returned (.bool r) ∧ Below w.heap.size w w' := by
  have hu26 := Try.underlying26
  have hu48 := Try.underlying48
  have HR0_1 := Aside0.mk hr0_1
  have HC0_1 := Aside0.mk hc0_1
  clear hr0_1 hc0_1
  have HR0_2 := Aside0.mk hr0_2
  have HC0_2 := Aside0.mk hc0_2
  clear hr0_2 hc0_2
  have HR0_3 := Aside0.mk hr0_3
  have HC0_3 := Aside0.mk hc0_3
  clear hr0_3 hc0_3
  have HR1_1 := Aside0.mk hr1_1
  have HC1_1 := Aside0.mk hc1_1
  clear hr1_1 hc1_1
  have HR1_2 := Aside0.mk hr1_2
  have HC1_2 := Aside0.mk hc1_2
  clear hr1_2 hc1_2
  have HR1_3 := Aside0.mk hr1_3
  have HC1_3 := Aside0.mk hc1_3
  clear hr1_3 hc1_3
  have HB := Aside0.mk (Below.refl w.heap.size w)
  have H : (if (a0_0 != a1_0) = true then (cisternref11_Same.j0 k true a0_0 l0_1 l0_2 l0_3 a1_0 l1_1 l1_2 l1_3) else (if (l0_1.length : Int) = (l1_1.length : Int) then (if (l0_2.length : Int) = (l1_2.length : Int) then (cisternref11_Same.j0 k ((l0_3.length : Int) != (l1_3.length : Int)) a0_0 l0_1 l0_2 l0_3 a1_0 l1_1 l1_2 l1_3) else (cisternref11_Same.j0 k true a0_0 l0_1 l0_2 l0_3 a1_0 l1_1 l1_2 l1_3)) else (cisternref11_Same.j0 k true a0_0 l0_1 l0_2 l0_3 a1_0 l1_1 l1_2 l1_3))) = some r := h
  clear h
  have HC3 := Aside0.mk H
  clear H
  go_enter Try.func19, Try.ntmps19
  go_upto_region 1 with (first | ((with_reducible refine gate_dst (N := 2) rfl ?_); (try (refine gate_guard (by rfl) ?_; dsimp only)); refine box_event ?hg (N := 2) ?hd (cs := #[.bool a0_0, .slice A0_1 l0_1.length c0_1, .slice A0_2 l0_2.length c0_2, .slice A0_3 l0_3.length c0_3]) (t := 26) ?hr ?_; (case hd => rfl); (case hg => rfl); (case hr => first | (go_simp; done) | (go_simp; rfl)); intro gb325 hg w4 hbox hb; have n0_ := Aside0.mk (below_step (by repeat (first | (with_reducible first | exact HB.out | apply below_alloc | apply pw_below_drewN | apply below_drew1) | exact HB.out)) hb); have n1_ := Aside0.mk (hbox); have n2_ := Aside0.mk ((by rw [hg]; exact (below_size (by repeat (first | (with_reducible first | exact HB.out | apply below_alloc | apply pw_below_drewN | apply below_drew1) | exact HB.out))) : w.heap.size ≤ gb325)); have n3_ := Aside0.mk ((by rw [hg]; exact (below_size (by repeat (first | (with_reducible first | exact HB.out | apply below_alloc | apply pw_below_drewN | apply below_drew1) | exact HB.out))) : w.heap.size ≤ gb325)); clear HB; have HB := n0_; have BK325 := n1_; have GW325 := n2_; have GE325 := n3_; clear n0_ n1_ n2_ n3_; clear hb hbox hg) | ((with_reducible refine gate_dst (N := 3) rfl ?_); (try (refine gate_guard (by rfl) ?_; dsimp only)); refine box_event ?hg (N := 3) ?hd (cs := #[.bool a1_0, .slice A1_1 l1_1.length c1_1, .slice A1_2 l1_2.length c1_2, .slice A1_3 l1_3.length c1_3]) (t := 26) ?hr ?_; (case hd => rfl); (case hg => rfl); (case hr => first | (go_simp; done) | (go_simp; rfl)); intro gb326 hg w5 hbox hb; have n0_ := Aside0.mk (blk_below (g := gb325) (o := .cells #[.bool a0_0, .slice A0_1 l0_1.length c0_1, .slice A0_2 l0_2.length c0_2, .slice A0_3 l0_3.length c0_3] 26 (0, 0)) (by (with_reducible repeat (first | refine blk_drewN ?_ _ | refine blk_drew ?_ | refine blk_alloc ?_ _)); exact BK325.out) hb); have n1_ := Aside0.mk (below_step (by repeat (first | (with_reducible first | exact HB.out | apply below_alloc | apply pw_below_drewN | apply below_drew1 | refine below_set ?_ GE325.out) | exact HB.out)) hb); have n2_ := Aside0.mk (hbox); have n3_ := Aside0.mk ((by rw [hg]; exact (below_size (by repeat (first | (with_reducible first | exact HB.out | apply below_alloc | apply pw_below_drewN | apply below_drew1 | refine below_set ?_ GE325.out) | exact HB.out))) : w.heap.size ≤ gb326)); have n4_ := Aside0.mk ((by rw [hg]; exact (below_size (by repeat (first | (with_reducible first | exact HB.out | apply below_alloc | apply pw_below_drewN | apply below_drew1 | refine below_set ?_ GE325.out) | exact HB.out))) : w.heap.size ≤ gb326)); have n5_ := Aside0.mk ((by rw [hg]; exact Nat.ne_of_lt (blk_lt (g := gb325) (o := .cells #[.bool a0_0, .slice A0_1 l0_1.length c0_1, .slice A0_2 l0_2.length c0_2, .slice A0_3 l0_3.length c0_3] 26 (0, 0)) (by (with_reducible repeat (first | refine blk_drewN ?_ _ | refine blk_drew ?_ | refine blk_alloc ?_ _)); exact BK325.out)) : gb325 ≠ gb326)); have n6_ := Aside0.mk ((by rw [hg]; exact Nat.ne_of_gt (blk_lt (g := gb325) (o := .cells #[.bool a0_0, .slice A0_1 l0_1.length c0_1, .slice A0_2 l0_2.length c0_2, .slice A0_3 l0_3.length c0_3] 26 (0, 0)) (by (with_reducible repeat (first | refine blk_drewN ?_ _ | refine blk_drew ?_ | refine blk_alloc ?_ _)); exact BK325.out)) : gb326 ≠ gb325)); clear BK325; clear HB; have BK325 := n0_; have HB := n1_; have BK326 := n2_; have GW326 := n3_; have GE326 := n4_; have NB325_326 := n5_; have NB326_325 := n6_; clear n0_ n1_ n2_ n3_ n4_ n5_ n6_; clear hb hbox hg))
  repeat (go_quiet (first | ((with_reducible refine gate_dst (N := 2) rfl ?_); (try (refine gate_guard (by rfl) ?_; dsimp only)); refine box_event ?hg (N := 2) ?hd (cs := #[.bool a0_0, .slice A0_1 l0_1.length c0_1, .slice A0_2 l0_2.length c0_2, .slice A0_3 l0_3.length c0_3]) (t := 26) ?hr ?_; (case hd => rfl); (case hg => rfl); (case hr => first | (go_simp; done) | (go_simp; rfl)); intro gb325 hg w4 hbox hb; have n0_ := Aside0.mk (below_step (by repeat (first | (with_reducible first | exact HB.out | apply below_alloc | apply pw_below_drewN | apply below_drew1) | exact HB.out)) hb); have n1_ := Aside0.mk (hbox); have n2_ := Aside0.mk ((by rw [hg]; exact (below_size (by repeat (first | (with_reducible first | exact HB.out | apply below_alloc | apply pw_below_drewN | apply below_drew1) | exact HB.out))) : w.heap.size ≤ gb325)); have n3_ := Aside0.mk ((by rw [hg]; exact (below_size (by repeat (first | (with_reducible first | exact HB.out | apply below_alloc | apply pw_below_drewN | apply below_drew1) | exact HB.out))) : w.heap.size ≤ gb325)); clear HB; have HB := n0_; have BK325 := n1_; have GW325 := n2_; have GE325 := n3_; clear n0_ n1_ n2_ n3_; clear hb hbox hg) | ((with_reducible refine gate_dst (N := 3) rfl ?_); (try (refine gate_guard (by rfl) ?_; dsimp only)); refine box_event ?hg (N := 3) ?hd (cs := #[.bool a1_0, .slice A1_1 l1_1.length c1_1, .slice A1_2 l1_2.length c1_2, .slice A1_3 l1_3.length c1_3]) (t := 26) ?hr ?_; (case hd => rfl); (case hg => rfl); (case hr => first | (go_simp; done) | (go_simp; rfl)); intro gb326 hg w5 hbox hb; have n0_ := Aside0.mk (blk_below (g := gb325) (o := .cells #[.bool a0_0, .slice A0_1 l0_1.length c0_1, .slice A0_2 l0_2.length c0_2, .slice A0_3 l0_3.length c0_3] 26 (0, 0)) (by (with_reducible repeat (first | refine blk_drewN ?_ _ | refine blk_drew ?_ | refine blk_alloc ?_ _)); exact BK325.out) hb); have n1_ := Aside0.mk (below_step (by repeat (first | (with_reducible first | exact HB.out | apply below_alloc | apply pw_below_drewN | apply below_drew1 | refine below_set ?_ GE325.out) | exact HB.out)) hb); have n2_ := Aside0.mk (hbox); have n3_ := Aside0.mk ((by rw [hg]; exact (below_size (by repeat (first | (with_reducible first | exact HB.out | apply below_alloc | apply pw_below_drewN | apply below_drew1 | refine below_set ?_ GE325.out) | exact HB.out))) : w.heap.size ≤ gb326)); have n4_ := Aside0.mk ((by rw [hg]; exact (below_size (by repeat (first | (with_reducible first | exact HB.out | apply below_alloc | apply pw_below_drewN | apply below_drew1 | refine below_set ?_ GE325.out) | exact HB.out))) : w.heap.size ≤ gb326)); have n5_ := Aside0.mk ((by rw [hg]; exact Nat.ne_of_lt (blk_lt (g := gb325) (o := .cells #[.bool a0_0, .slice A0_1 l0_1.length c0_1, .slice A0_2 l0_2.length c0_2, .slice A0_3 l0_3.length c0_3] 26 (0, 0)) (by (with_reducible repeat (first | refine blk_drewN ?_ _ | refine blk_drew ?_ | refine blk_alloc ?_ _)); exact BK325.out)) : gb325 ≠ gb326)); have n6_ := Aside0.mk ((by rw [hg]; exact Nat.ne_of_gt (blk_lt (g := gb325) (o := .cells #[.bool a0_0, .slice A0_1 l0_1.length c0_1, .slice A0_2 l0_2.length c0_2, .slice A0_3 l0_3.length c0_3] 26 (0, 0)) (by (with_reducible repeat (first | refine blk_drewN ?_ _ | refine blk_drew ?_ | refine blk_alloc ?_ _)); exact BK325.out)) : gb326 ≠ gb325)); clear BK325; clear HB; have BK325 := n0_; have HB := n1_; have BK326 := n2_; have GW326 := n3_; have GE326 := n4_; have NB325_326 := n5_; have NB326_325 := n6_; clear n0_ n1_ n2_ n3_ n4_ n5_ n6_; clear hb hbox hg)); go_upto_region 1 with (first | ((with_reducible refine gate_dst (N := 2) rfl ?_); (try (refine gate_guard (by rfl) ?_; dsimp only)); refine box_event ?hg (N := 2) ?hd (cs := #[.bool a0_0, .slice A0_1 l0_1.length c0_1, .slice A0_2 l0_2.length c0_2, .slice A0_3 l0_3.length c0_3]) (t := 26) ?hr ?_; (case hd => rfl); (case hg => rfl); (case hr => first | (go_simp; done) | (go_simp; rfl)); intro gb325 hg w4 hbox hb; have n0_ := Aside0.mk (below_step (by repeat (first | (with_reducible first | exact HB.out | apply below_alloc | apply pw_below_drewN | apply below_drew1) | exact HB.out)) hb); have n1_ := Aside0.mk (hbox); have n2_ := Aside0.mk ((by rw [hg]; exact (below_size (by repeat (first | (with_reducible first | exact HB.out | apply below_alloc | apply pw_below_drewN | apply below_drew1) | exact HB.out))) : w.heap.size ≤ gb325)); have n3_ := Aside0.mk ((by rw [hg]; exact (below_size (by repeat (first | (with_reducible first | exact HB.out | apply below_alloc | apply pw_below_drewN | apply below_drew1) | exact HB.out))) : w.heap.size ≤ gb325)); clear HB; have HB := n0_; have BK325 := n1_; have GW325 := n2_; have GE325 := n3_; clear n0_ n1_ n2_ n3_; clear hb hbox hg) | ((with_reducible refine gate_dst (N := 3) rfl ?_); (try (refine gate_guard (by rfl) ?_; dsimp only)); refine box_event ?hg (N := 3) ?hd (cs := #[.bool a1_0, .slice A1_1 l1_1.length c1_1, .slice A1_2 l1_2.length c1_2, .slice A1_3 l1_3.length c1_3]) (t := 26) ?hr ?_; (case hd => rfl); (case hg => rfl); (case hr => first | (go_simp; done) | (go_simp; rfl)); intro gb326 hg w5 hbox hb; have n0_ := Aside0.mk (blk_below (g := gb325) (o := .cells #[.bool a0_0, .slice A0_1 l0_1.length c0_1, .slice A0_2 l0_2.length c0_2, .slice A0_3 l0_3.length c0_3] 26 (0, 0)) (by (with_reducible repeat (first | refine blk_drewN ?_ _ | refine blk_drew ?_ | refine blk_alloc ?_ _)); exact BK325.out) hb); have n1_ := Aside0.mk (below_step (by repeat (first | (with_reducible first | exact HB.out | apply below_alloc | apply pw_below_drewN | apply below_drew1 | refine below_set ?_ GE325.out) | exact HB.out)) hb); have n2_ := Aside0.mk (hbox); have n3_ := Aside0.mk ((by rw [hg]; exact (below_size (by repeat (first | (with_reducible first | exact HB.out | apply below_alloc | apply pw_below_drewN | apply below_drew1 | refine below_set ?_ GE325.out) | exact HB.out))) : w.heap.size ≤ gb326)); have n4_ := Aside0.mk ((by rw [hg]; exact (below_size (by repeat (first | (with_reducible first | exact HB.out | apply below_alloc | apply pw_below_drewN | apply below_drew1 | refine below_set ?_ GE325.out) | exact HB.out))) : w.heap.size ≤ gb326)); have n5_ := Aside0.mk ((by rw [hg]; exact Nat.ne_of_lt (blk_lt (g := gb325) (o := .cells #[.bool a0_0, .slice A0_1 l0_1.length c0_1, .slice A0_2 l0_2.length c0_2, .slice A0_3 l0_3.length c0_3] 26 (0, 0)) (by (with_reducible repeat (first | refine blk_drewN ?_ _ | refine blk_drew ?_ | refine blk_alloc ?_ _)); exact BK325.out)) : gb325 ≠ gb326)); have n6_ := Aside0.mk ((by rw [hg]; exact Nat.ne_of_gt (blk_lt (g := gb325) (o := .cells #[.bool a0_0, .slice A0_1 l0_1.length c0_1, .slice A0_2 l0_2.length c0_2, .slice A0_3 l0_3.length c0_3] 26 (0, 0)) (by (with_reducible repeat (first | refine blk_drewN ?_ _ | refine blk_drew ?_ | refine blk_alloc ?_ _)); exact BK325.out)) : gb326 ≠ gb325)); clear BK325; clear HB; have BK325 := n0_; have HB := n1_; have BK326 := n2_; have GW326 := n3_; have GE326 := n4_; have NB325_326 := n5_; have NB326_325 := n6_; clear n0_ n1_ n2_ n3_ n4_ n5_ n6_; clear hb hbox hg)))
  (try simp only [Act.put, List.setIfInBounds_toArray, List.set_cons_zero, List.set_cons_succ])
  go_cut [39] (fun v39 wc => ∃ (kq : Nat) (x39_2 : Bool), v39 = .bool x39_2 ∧ Aside0 (cisternref11_Same.j0 kq x39_2 a0_0 l0_1 l0_2 l0_3 a1_0 l1_1 l1_2 l1_3 = some r) ∧ Aside0 (kq ≤ k) ∧ Aside0 (wc.heap[gb325]? = some (.cells #[.bool a0_0, (.slice A0_1 l0_1.length c0_1), (.slice A0_2 l0_2.length c0_2), (.slice A0_3 l0_3.length c0_3)] 26 (0, 0))) ∧ Aside0 (wc.heap[gb326]? = some (.cells #[.bool a1_0, (.slice A1_1 l1_1.length c1_1), (.slice A1_2 l1_2.length c1_2), (.slice A1_3 l1_3.length c1_3)] 26 (0, 0))) ∧ Aside0 (Below w.heap.size w wc))
  case first =>
    have H := HC3.out
    clear HC3
    by_cases c6 : (a0_0 != a1_0) = true
    · rw [if_pos c6] at H
      have c6b0 : (a0_0 != a1_0) = true := c6
      (try (have c6b1 : decide (a0_0 = a1_0) = false := by simpa using c6))
      (try (have c6b2 : (a0_0 == a1_0) = false := by simpa using c6))
      (try (have c6b3 : ¬ (a0_0 = a1_0) := by simpa using c6))
      clear c6
      (first | rw [c6b0] | (simp only [i64_w, i32_w]; rw [c6b0]) | skip)
      have H' := Aside0.mk H
      clear H
      have hnb7 := NB325_326.out
      have hnc7 := NB326_325.out
      have hcz8_0 : w5.cell? ⟨gb325, 0, none⟩ = some (.bool a0_0) := (blk_cell BK325.out 0).trans rfl
      have hcz8_1 : w5.cell? ⟨gb325, 1, none⟩ = some (.slice A0_1 l0_1.length c0_1) := (blk_cell BK325.out 1).trans rfl
      have hcz8_2 : w5.cell? ⟨gb325, 2, none⟩ = some (.slice A0_2 l0_2.length c0_2) := (blk_cell BK325.out 2).trans rfl
      have hcz8_3 : w5.cell? ⟨gb325, 3, none⟩ = some (.slice A0_3 l0_3.length c0_3) := (blk_cell BK325.out 3).trans rfl
      have hfz8_0 := blk_frozen BK325.out 0
      have hfz8_1 := blk_frozen BK325.out 1
      have hfz8_2 := blk_frozen BK325.out 2
      have hfz8_3 := blk_frozen BK325.out 3
      have hcz9_0 : w5.cell? ⟨gb326, 0, none⟩ = some (.bool a1_0) := (blk_cell BK326.out 0).trans rfl
      have hcz9_1 : w5.cell? ⟨gb326, 1, none⟩ = some (.slice A1_1 l1_1.length c1_1) := (blk_cell BK326.out 1).trans rfl
      have hcz9_2 : w5.cell? ⟨gb326, 2, none⟩ = some (.slice A1_2 l1_2.length c1_2) := (blk_cell BK326.out 2).trans rfl
      have hcz9_3 : w5.cell? ⟨gb326, 3, none⟩ = some (.slice A1_3 l1_3.length c1_3) := (blk_cell BK326.out 3).trans rfl
      have hfz9_0 := blk_frozen BK326.out 0
      have hfz9_1 := blk_frozen BK326.out 1
      have hfz9_2 := blk_frozen BK326.out 2
      have hfz9_3 := blk_frozen BK326.out 3
      go_wp2
      repeat (go_quiet (fail); try go_wp2)
      go_meet
      case rel => exact ⟨_, (true), (by first | rfl | (simp; done) | (simp [*]; done)), H', ⟨by first | omega | exact Nat.le_refl _⟩, ⟨by (with_reducible repeat (first | refine blk_drewN ?_ _ | refine blk_drew ?_ | refine blk_alloc ?_ _)); exact BK325.out⟩, ⟨by (with_reducible repeat (first | refine blk_drewN ?_ _ | refine blk_drew ?_ | refine blk_alloc ?_ _)); exact BK326.out⟩, ⟨by repeat (first | (with_reducible first | exact HB.out | apply below_alloc | apply pw_below_drewN | apply below_drew1 | refine below_set ?_ GE325.out | refine below_set ?_ GE326.out) | exact HB.out)⟩⟩
    · rw [if_neg c6] at H
      have c6b0 : (a0_0 != a1_0) = false := by simpa using c6
      (try (have c6b1 : decide (a0_0 = a1_0) = true := by simpa using c6))
      (try (have c6b2 : (a0_0 == a1_0) = true := by simpa using c6))
      clear c6
      (first | rw [c6b0] | (simp only [i64_w, i32_w]; rw [c6b0]) | skip)
      by_cases c10 : (l0_1.length : Int) = (l1_1.length : Int)
      · rw [if_pos c10] at H
        have c10b0 : ((l0_1.length : Int) == (l1_1.length : Int)) = true := beq_iff_eq.mpr c10
        have c10b1 : ((l0_1.length : Int) != (l1_1.length : Int)) = false := bne_eq_false_iff_eq.mpr c10
        have c10b2 : (l0_1.length == l1_1.length) = true := by first | simpa using c10 | (simp at c10 ⊢; omega)
        clear c10
        by_cases c11 : (l0_2.length : Int) = (l1_2.length : Int)
        · rw [if_pos c11] at H
          have c11b0 : ((l0_2.length : Int) == (l1_2.length : Int)) = true := beq_iff_eq.mpr c11
          have c11b1 : ((l0_2.length : Int) != (l1_2.length : Int)) = false := bne_eq_false_iff_eq.mpr c11
          have c11b2 : (l0_2.length == l1_2.length) = true := by first | simpa using c11 | (simp at c11 ⊢; omega)
          clear c11
          have H' := Aside0.mk H
          clear H
          have hnb12 := NB325_326.out
          have hnc12 := NB326_325.out
          have hcz13_0 : w5.cell? ⟨gb325, 0, none⟩ = some (.bool a0_0) := (blk_cell BK325.out 0).trans rfl
          have hcz13_1 : w5.cell? ⟨gb325, 1, none⟩ = some (.slice A0_1 l0_1.length c0_1) := (blk_cell BK325.out 1).trans rfl
          have hcz13_2 : w5.cell? ⟨gb325, 2, none⟩ = some (.slice A0_2 l0_2.length c0_2) := (blk_cell BK325.out 2).trans rfl
          have hcz13_3 : w5.cell? ⟨gb325, 3, none⟩ = some (.slice A0_3 l0_3.length c0_3) := (blk_cell BK325.out 3).trans rfl
          have hfz13_0 := blk_frozen BK325.out 0
          have hfz13_1 := blk_frozen BK325.out 1
          have hfz13_2 := blk_frozen BK325.out 2
          have hfz13_3 := blk_frozen BK325.out 3
          have hcz14_0 : w5.cell? ⟨gb326, 0, none⟩ = some (.bool a1_0) := (blk_cell BK326.out 0).trans rfl
          have hcz14_1 : w5.cell? ⟨gb326, 1, none⟩ = some (.slice A1_1 l1_1.length c1_1) := (blk_cell BK326.out 1).trans rfl
          have hcz14_2 : w5.cell? ⟨gb326, 2, none⟩ = some (.slice A1_2 l1_2.length c1_2) := (blk_cell BK326.out 2).trans rfl
          have hcz14_3 : w5.cell? ⟨gb326, 3, none⟩ = some (.slice A1_3 l1_3.length c1_3) := (blk_cell BK326.out 3).trans rfl
          have hfz14_0 := blk_frozen BK326.out 0
          have hfz14_1 := blk_frozen BK326.out 1
          have hfz14_2 := blk_frozen BK326.out 2
          have hfz14_3 := blk_frozen BK326.out 3
          go_wp2
          repeat (go_quiet (fail); try go_wp2)
          go_meet
          case rel => exact ⟨_, (((l0_3.length : Int) != (l1_3.length : Int))), (by first | rfl | (simp; done) | (simp [*]; done)), H', ⟨by first | omega | exact Nat.le_refl _⟩, ⟨by (with_reducible repeat (first | refine blk_drewN ?_ _ | refine blk_drew ?_ | refine blk_alloc ?_ _)); exact BK325.out⟩, ⟨by (with_reducible repeat (first | refine blk_drewN ?_ _ | refine blk_drew ?_ | refine blk_alloc ?_ _)); exact BK326.out⟩, ⟨by repeat (first | (with_reducible first | exact HB.out | apply below_alloc | apply pw_below_drewN | apply below_drew1 | refine below_set ?_ GE325.out | refine below_set ?_ GE326.out) | exact HB.out)⟩⟩
        · rw [if_neg c11] at H
          have c11b0 : ((l0_2.length : Int) == (l1_2.length : Int)) = false := beq_eq_false_iff_ne.mpr c11
          have c11b1 : ((l0_2.length : Int) != (l1_2.length : Int)) = true := bne_iff_ne.mpr c11
          have c11b2 : (l0_2.length == l1_2.length) = false := by first | simpa using c11 | (simp at c11 ⊢; omega)
          have H' := Aside0.mk H
          clear H
          have hnb15 := NB325_326.out
          have hnc15 := NB326_325.out
          have hcz16_0 : w5.cell? ⟨gb325, 0, none⟩ = some (.bool a0_0) := (blk_cell BK325.out 0).trans rfl
          have hcz16_1 : w5.cell? ⟨gb325, 1, none⟩ = some (.slice A0_1 l0_1.length c0_1) := (blk_cell BK325.out 1).trans rfl
          have hcz16_2 : w5.cell? ⟨gb325, 2, none⟩ = some (.slice A0_2 l0_2.length c0_2) := (blk_cell BK325.out 2).trans rfl
          have hcz16_3 : w5.cell? ⟨gb325, 3, none⟩ = some (.slice A0_3 l0_3.length c0_3) := (blk_cell BK325.out 3).trans rfl
          have hfz16_0 := blk_frozen BK325.out 0
          have hfz16_1 := blk_frozen BK325.out 1
          have hfz16_2 := blk_frozen BK325.out 2
          have hfz16_3 := blk_frozen BK325.out 3
          have hcz17_0 : w5.cell? ⟨gb326, 0, none⟩ = some (.bool a1_0) := (blk_cell BK326.out 0).trans rfl
          have hcz17_1 : w5.cell? ⟨gb326, 1, none⟩ = some (.slice A1_1 l1_1.length c1_1) := (blk_cell BK326.out 1).trans rfl
          have hcz17_2 : w5.cell? ⟨gb326, 2, none⟩ = some (.slice A1_2 l1_2.length c1_2) := (blk_cell BK326.out 2).trans rfl
          have hcz17_3 : w5.cell? ⟨gb326, 3, none⟩ = some (.slice A1_3 l1_3.length c1_3) := (blk_cell BK326.out 3).trans rfl
          have hfz17_0 := blk_frozen BK326.out 0
          have hfz17_1 := blk_frozen BK326.out 1
          have hfz17_2 := blk_frozen BK326.out 2
          have hfz17_3 := blk_frozen BK326.out 3
          go_wp2
          repeat (go_quiet (fail); try go_wp2)
          go_meet
          case rel => exact ⟨_, (true), (by first | rfl | (simp; done) | (simp [*]; done)), H', ⟨by first | omega | exact Nat.le_refl _⟩, ⟨by (with_reducible repeat (first | refine blk_drewN ?_ _ | refine blk_drew ?_ | refine blk_alloc ?_ _)); exact BK325.out⟩, ⟨by (with_reducible repeat (first | refine blk_drewN ?_ _ | refine blk_drew ?_ | refine blk_alloc ?_ _)); exact BK326.out⟩, ⟨by repeat (first | (with_reducible first | exact HB.out | apply below_alloc | apply pw_below_drewN | apply below_drew1 | refine below_set ?_ GE325.out | refine below_set ?_ GE326.out) | exact HB.out)⟩⟩
      · rw [if_neg c10] at H
        have c10b0 : ((l0_1.length : Int) == (l1_1.length : Int)) = false := beq_eq_false_iff_ne.mpr c10
        have c10b1 : ((l0_1.length : Int) != (l1_1.length : Int)) = true := bne_iff_ne.mpr c10
        have c10b2 : (l0_1.length == l1_1.length) = false := by first | simpa using c10 | (simp at c10 ⊢; omega)
        have H' := Aside0.mk H
        clear H
        have hnb18 := NB325_326.out
        have hnc18 := NB326_325.out
        have hcz19_0 : w5.cell? ⟨gb325, 0, none⟩ = some (.bool a0_0) := (blk_cell BK325.out 0).trans rfl
        have hcz19_1 : w5.cell? ⟨gb325, 1, none⟩ = some (.slice A0_1 l0_1.length c0_1) := (blk_cell BK325.out 1).trans rfl
        have hcz19_2 : w5.cell? ⟨gb325, 2, none⟩ = some (.slice A0_2 l0_2.length c0_2) := (blk_cell BK325.out 2).trans rfl
        have hcz19_3 : w5.cell? ⟨gb325, 3, none⟩ = some (.slice A0_3 l0_3.length c0_3) := (blk_cell BK325.out 3).trans rfl
        have hfz19_0 := blk_frozen BK325.out 0
        have hfz19_1 := blk_frozen BK325.out 1
        have hfz19_2 := blk_frozen BK325.out 2
        have hfz19_3 := blk_frozen BK325.out 3
        have hcz20_0 : w5.cell? ⟨gb326, 0, none⟩ = some (.bool a1_0) := (blk_cell BK326.out 0).trans rfl
        have hcz20_1 : w5.cell? ⟨gb326, 1, none⟩ = some (.slice A1_1 l1_1.length c1_1) := (blk_cell BK326.out 1).trans rfl
        have hcz20_2 : w5.cell? ⟨gb326, 2, none⟩ = some (.slice A1_2 l1_2.length c1_2) := (blk_cell BK326.out 2).trans rfl
        have hcz20_3 : w5.cell? ⟨gb326, 3, none⟩ = some (.slice A1_3 l1_3.length c1_3) := (blk_cell BK326.out 3).trans rfl
        have hfz20_0 := blk_frozen BK326.out 0
        have hfz20_1 := blk_frozen BK326.out 1
        have hfz20_2 := blk_frozen BK326.out 2
        have hfz20_3 := blk_frozen BK326.out 3
        go_wp2
        repeat (go_quiet (fail); try go_wp2)
        go_meet
        case rel => exact ⟨_, (true), (by first | rfl | (simp; done) | (simp [*]; done)), H', ⟨by first | omega | exact Nat.le_refl _⟩, ⟨by (with_reducible repeat (first | refine blk_drewN ?_ _ | refine blk_drew ?_ | refine blk_alloc ?_ _)); exact BK325.out⟩, ⟨by (with_reducible repeat (first | refine blk_drewN ?_ _ | refine blk_drew ?_ | refine blk_alloc ?_ _)); exact BK326.out⟩, ⟨by repeat (first | (with_reducible first | exact HB.out | apply below_alloc | apply pw_below_drewN | apply below_drew1 | refine below_set ?_ GE325.out | refine below_set ?_ GE326.out) | exact HB.out)⟩⟩
  case rest =>
    clear HC3
    try clear c1
    try clear p2
    try clear c6
    try clear c6b0
    try clear c6b1
    try clear c6b2
    try clear c7
    try clear c10
    try clear c10b0
    try clear c10b1
    try clear c10b2
    try clear c11
    try clear c11b0
    try clear c11b1
    try clear c11b2
    try clear c12
    try clear c15
    try clear c18
    try clear c19
    try clear hcz13_0
    try clear hcz13_1
    try clear hcz13_2
    try clear hcz13_3
    try clear hcz14_0
    try clear hcz14_1
    try clear hcz14_2
    try clear hcz14_3
    try clear hcz16_0
    try clear hcz16_1
    try clear hcz16_2
    try clear hcz16_3
    try clear hcz17_0
    try clear hcz17_1
    try clear hcz17_2
    try clear hcz17_3
    try clear hcz19_0
    try clear hcz19_1
    try clear hcz19_2
    try clear hcz19_3
    try clear hcz20_0
    try clear hcz20_1
    try clear hcz20_2
    try clear hcz20_3
    try clear hcz8_0
    try clear hcz8_1
    try clear hcz8_2
    try clear hcz8_3
    try clear hcz9_0
    try clear hcz9_1
    try clear hcz9_2
    try clear hcz9_3
    try clear hfz13_0
    try clear hfz13_1
    try clear hfz13_2
    try clear hfz13_3
    try clear hfz14_0
    try clear hfz14_1
    try clear hfz14_2
    try clear hfz14_3
    try clear hfz16_0
    try clear hfz16_1
    try clear hfz16_2
    try clear hfz16_3
    try clear hfz17_0
    try clear hfz17_1
    try clear hfz17_2
    try clear hfz17_3
    try clear hfz19_0
    try clear hfz19_1
    try clear hfz19_2
    try clear hfz19_3
    try clear hfz20_0
    try clear hfz20_1
    try clear hfz20_2
    try clear hfz20_3
    try clear hfz8_0
    try clear hfz8_1
    try clear hfz8_2
    try clear hfz8_3
    try clear hfz9_0
    try clear hfz9_1
    try clear hfz9_2
    try clear hfz9_3
    obtain ⟨kq, x39_2, rfl, HA, HJ2, BK325, BK326, HB⟩ := hcut
    cases kq with
    | zero => exact absurd HA.out (by simp [cisternref11_Same.j0])
    | succ kj2 =>
      have H := HA.out
      clear HA
      simp only [cisternref11_Same.j0] at H
      by_cases c21 : x39_2 = true
      · subst c21
        have H1 : (some false) = some r := by rw [if_pos rfl] at H; exact H
        clear H
        have H := H1
        clear H1
        obtain rfl := Option.some.inj H
        go_wp2
        repeat (go_quiet (fail); try go_wp2)
        go_ret
        exact ⟨by first | rfl | (simp [errW_none, errW_some] <;> rfl) | (simp [*, errW_none, errW_some] <;> rfl), by repeat (first | (with_reducible first | exact HB.out | apply below_alloc | apply pw_below_drewN | apply below_drew1 | refine below_set ?_ GE325.out | refine below_set ?_ GE326.out) | exact HB.out)⟩
      · replace c21 := Bool.eq_false_iff.mpr c21
        subst c21
        have H1 : (cisternref11_Same.l0 kj2 0 a0_0 l0_1 l0_2 l0_3 a1_0 l1_1 l1_2 l1_3) = some r := by rw [if_neg (show ¬ (false = true) by decide)] at H; exact H
        clear H
        have H := H1
        clear H1
        have H' := Aside0.mk H
        clear H
        go_wp2
        repeat (go_quiet (fail); try go_wp2)
        go_loopg [5] kj2 (fun kq v5 w' => ∃ (x5_2 : Int), v5 = .int .i64 x5_2 ∧ Aside0 (cisternref11_Same.l0 kq x5_2 a0_0 l0_1 l0_2 l0_3 a1_0 l1_1 l1_2 l1_3 = some r) ∧ Aside0 (kq ≤ kj2) ∧ Aside0 (w'.heap[gb325]? = some (.cells #[.bool a0_0, (.slice A0_1 l0_1.length c0_1), (.slice A0_2 l0_2.length c0_2), (.slice A0_3 l0_3.length c0_3)] 26 (0, 0))) ∧ Aside0 (w'.heap[gb326]? = some (.cells #[.bool a1_0, (.slice A1_1 l1_1.length c1_1), (.slice A1_2 l1_2.length c1_2), (.slice A1_3 l1_3.length c1_3)] 26 (0, 0))) ∧ Aside0 (Below w.heap.size w w'))
        case atStart => exact ⟨(0), (by first | rfl | (simp; done) | (simp [*]; done)), H', ⟨Nat.le_refl _⟩, ⟨by (with_reducible repeat (first | refine blk_drewN ?_ _ | refine blk_drew ?_ | refine blk_alloc ?_ _)); exact BK325.out⟩, ⟨by (with_reducible repeat (first | refine blk_drewN ?_ _ | refine blk_drew ?_ | refine blk_alloc ?_ _)); exact BK326.out⟩, ⟨by repeat (first | (with_reducible first | exact HB.out | apply below_alloc | apply pw_below_drewN | apply below_drew1 | refine below_set ?_ GE325.out | refine below_set ?_ GE326.out) | exact HB.out)⟩⟩
        case round =>
          clear H'
          try clear c1
          try clear c2
          try clear p2
          try clear c6
          try clear c6b0
          try clear c6b1
          try clear c6b2
          try clear c7
          try clear c10
          try clear c10b0
          try clear c10b1
          try clear c10b2
          try clear c11
          try clear c11b0
          try clear c11b1
          try clear c11b2
          try clear c12
          try clear c15
          try clear c18
          try clear c19
          try clear c21
          try clear hcz13_0
          try clear hcz13_1
          try clear hcz13_2
          try clear hcz13_3
          try clear hcz14_0
          try clear hcz14_1
          try clear hcz14_2
          try clear hcz14_3
          try clear hcz16_0
          try clear hcz16_1
          try clear hcz16_2
          try clear hcz16_3
          try clear hcz17_0
          try clear hcz17_1
          try clear hcz17_2
          try clear hcz17_3
          try clear hcz19_0
          try clear hcz19_1
          try clear hcz19_2
          try clear hcz19_3
          try clear hcz20_0
          try clear hcz20_1
          try clear hcz20_2
          try clear hcz20_3
          try clear hcz8_0
          try clear hcz8_1
          try clear hcz8_2
          try clear hcz8_3
          try clear hcz9_0
          try clear hcz9_1
          try clear hcz9_2
          try clear hcz9_3
          try clear hfz13_0
          try clear hfz13_1
          try clear hfz13_2
          try clear hfz13_3
          try clear hfz14_0
          try clear hfz14_1
          try clear hfz14_2
          try clear hfz14_3
          try clear hfz16_0
          try clear hfz16_1
          try clear hfz16_2
          try clear hfz16_3
          try clear hfz17_0
          try clear hfz17_1
          try clear hfz17_2
          try clear hfz17_3
          try clear hfz19_0
          try clear hfz19_1
          try clear hfz19_2
          try clear hfz19_3
          try clear hfz20_0
          try clear hfz20_1
          try clear hfz20_2
          try clear hfz20_3
          try clear hfz8_0
          try clear hfz8_1
          try clear hfz8_2
          try clear hfz8_3
          try clear hfz9_0
          try clear hfz9_1
          try clear hfz9_2
          try clear hfz9_3
          try clear p2
          obtain ⟨x5_2, rfl, HA, HK2, BK325, BK326, HB⟩ := hrel
          cases gk with
          | zero => exact absurd HA.out (by simp [cisternref11_Same.l0])
          | succ k2 =>
            have H := HA.out
            clear HA
            simp only [cisternref11_Same.l0] at H
            by_cases c22 : x5_2 < (l0_1.length : Int)
            · rw [if_pos c22] at H
              have c22b0 : decide (x5_2 < (l0_1.length : Int)) = true := decide_eq_true c22
              clear c22
              by_cases c23 : 0 ≤ x5_2
              · rw [if_pos c23] at H
                have c23b0 : decide (0 ≤ x5_2) = true := decide_eq_true c23
                clear c23
                by_cases c24 : x5_2 < (l1_1.length : Int)
                · rw [if_pos c24] at H
                  have c24b0 : decide (x5_2 < (l1_1.length : Int)) = true := decide_eq_true c24
                  clear c24
                  by_cases c25 : (!((((rd_T48 l0_1 x5_2).f0).toList) == (((rd_T48 l1_1 x5_2).f0).toList)) || (!((((rd_T48 l0_1 x5_2).f1).toList) == (((rd_T48 l1_1 x5_2).f1).toList)))) = true
                  · rw [if_pos c25] at H
                    have c25b0 : (!((((rd_T48 l0_1 x5_2).f0).toList) == (((rd_T48 l1_1 x5_2).f0).toList)) || (!((((rd_T48 l0_1 x5_2).f1).toList) == (((rd_T48 l1_1 x5_2).f1).toList)))) = true := c25
                    clear c25
                    obtain rfl := Option.some.inj H
                    have hnb26 := NB325_326.out
                    have hnc26 := NB326_325.out
                    have hcz27_0 : wr.cell? ⟨gb325, 0, none⟩ = some (.bool a0_0) := (blk_cell BK325.out 0).trans rfl
                    have hcz27_1 : wr.cell? ⟨gb325, 1, none⟩ = some (.slice A0_1 l0_1.length c0_1) := (blk_cell BK325.out 1).trans rfl
                    have hcz27_2 : wr.cell? ⟨gb325, 2, none⟩ = some (.slice A0_2 l0_2.length c0_2) := (blk_cell BK325.out 2).trans rfl
                    have hcz27_3 : wr.cell? ⟨gb325, 3, none⟩ = some (.slice A0_3 l0_3.length c0_3) := (blk_cell BK325.out 3).trans rfl
                    have hfz27_0 := blk_frozen BK325.out 0
                    have hfz27_1 := blk_frozen BK325.out 1
                    have hfz27_2 := blk_frozen BK325.out 2
                    have hfz27_3 := blk_frozen BK325.out 3
                    have p327 : 0 ≤ (x5_2 : Int) := of_decide_eq_true (by first | (with_reducible assumption) | assumption)
                    have q327 : x5_2 < (l0_1.length : Int) := of_decide_eq_true (by first | (with_reducible assumption) | assumption)
                    obtain ⟨ad327, e327, hx327_0, hx327_1⟩ := at_T48 HR0_1.out x5_2 p327 q327
                    cases e327
                    replace hx327_0 := (HB.out.cell (World.block_lt_of_cell? w _ hx327_0)).trans hx327_0
                    replace hx327_1 := (HB.out.cell (World.block_lt_of_cell? w _ hx327_1)).trans hx327_1
                    replace p327 := eq_true p327
                    replace q327 := eq_true q327
                    have hcz28_0 : wr.cell? ⟨gb326, 0, none⟩ = some (.bool a1_0) := (blk_cell BK326.out 0).trans rfl
                    have hcz28_1 : wr.cell? ⟨gb326, 1, none⟩ = some (.slice A1_1 l1_1.length c1_1) := (blk_cell BK326.out 1).trans rfl
                    have hcz28_2 : wr.cell? ⟨gb326, 2, none⟩ = some (.slice A1_2 l1_2.length c1_2) := (blk_cell BK326.out 2).trans rfl
                    have hcz28_3 : wr.cell? ⟨gb326, 3, none⟩ = some (.slice A1_3 l1_3.length c1_3) := (blk_cell BK326.out 3).trans rfl
                    have hfz28_0 := blk_frozen BK326.out 0
                    have hfz28_1 := blk_frozen BK326.out 1
                    have hfz28_2 := blk_frozen BK326.out 2
                    have hfz28_3 := blk_frozen BK326.out 3
                    have p328 : 0 ≤ (x5_2 : Int) := of_decide_eq_true (by first | (with_reducible assumption) | assumption)
                    have q328 : x5_2 < (l1_1.length : Int) := of_decide_eq_true (by first | (with_reducible assumption) | assumption)
                    obtain ⟨ad328, e328, hx328_0, hx328_1⟩ := at_T48 HR1_1.out x5_2 p328 q328
                    cases e328
                    replace hx328_0 := (HB.out.cell (World.block_lt_of_cell? w _ hx328_0)).trans hx328_0
                    replace hx328_1 := (HB.out.cell (World.block_lt_of_cell? w _ hx328_1)).trans hx328_1
                    replace p328 := eq_true p328
                    replace q328 := eq_true q328
                    go_wp2
                    repeat (go_quiet (fail); try go_wp2)
                    go_ret
                    exact ⟨by first | rfl | (simp [errW_none, errW_some] <;> rfl) | (simp [*, errW_none, errW_some] <;> rfl), by repeat (first | (with_reducible first | exact HB.out | apply below_alloc | apply pw_below_drewN | apply below_drew1 | refine below_set ?_ GE325.out | refine below_set ?_ GE326.out) | exact HB.out)⟩
                  · rw [if_neg c25] at H
                    have c25b0 : (!((((rd_T48 l0_1 x5_2).f0).toList) == (((rd_T48 l1_1 x5_2).f0).toList)) || (!((((rd_T48 l0_1 x5_2).f1).toList) == (((rd_T48 l1_1 x5_2).f1).toList)))) = false := by simpa using c25
                    clear c25
                    have H' := Aside0.mk H
                    clear H
                    have hnb29 := NB325_326.out
                    have hnc29 := NB326_325.out
                    have hcz30_0 : wr.cell? ⟨gb325, 0, none⟩ = some (.bool a0_0) := (blk_cell BK325.out 0).trans rfl
                    have hcz30_1 : wr.cell? ⟨gb325, 1, none⟩ = some (.slice A0_1 l0_1.length c0_1) := (blk_cell BK325.out 1).trans rfl
                    have hcz30_2 : wr.cell? ⟨gb325, 2, none⟩ = some (.slice A0_2 l0_2.length c0_2) := (blk_cell BK325.out 2).trans rfl
                    have hcz30_3 : wr.cell? ⟨gb325, 3, none⟩ = some (.slice A0_3 l0_3.length c0_3) := (blk_cell BK325.out 3).trans rfl
                    have hfz30_0 := blk_frozen BK325.out 0
                    have hfz30_1 := blk_frozen BK325.out 1
                    have hfz30_2 := blk_frozen BK325.out 2
                    have hfz30_3 := blk_frozen BK325.out 3
                    have p327 : 0 ≤ (x5_2 : Int) := of_decide_eq_true (by first | (with_reducible assumption) | assumption)
                    have q327 : x5_2 < (l0_1.length : Int) := of_decide_eq_true (by first | (with_reducible assumption) | assumption)
                    obtain ⟨ad327, e327, hx327_0, hx327_1⟩ := at_T48 HR0_1.out x5_2 p327 q327
                    cases e327
                    replace hx327_0 := (HB.out.cell (World.block_lt_of_cell? w _ hx327_0)).trans hx327_0
                    replace hx327_1 := (HB.out.cell (World.block_lt_of_cell? w _ hx327_1)).trans hx327_1
                    replace p327 := eq_true p327
                    replace q327 := eq_true q327
                    have hcz31_0 : wr.cell? ⟨gb326, 0, none⟩ = some (.bool a1_0) := (blk_cell BK326.out 0).trans rfl
                    have hcz31_1 : wr.cell? ⟨gb326, 1, none⟩ = some (.slice A1_1 l1_1.length c1_1) := (blk_cell BK326.out 1).trans rfl
                    have hcz31_2 : wr.cell? ⟨gb326, 2, none⟩ = some (.slice A1_2 l1_2.length c1_2) := (blk_cell BK326.out 2).trans rfl
                    have hcz31_3 : wr.cell? ⟨gb326, 3, none⟩ = some (.slice A1_3 l1_3.length c1_3) := (blk_cell BK326.out 3).trans rfl
                    have hfz31_0 := blk_frozen BK326.out 0
                    have hfz31_1 := blk_frozen BK326.out 1
                    have hfz31_2 := blk_frozen BK326.out 2
                    have hfz31_3 := blk_frozen BK326.out 3
                    have p328 : 0 ≤ (x5_2 : Int) := of_decide_eq_true (by first | (with_reducible assumption) | assumption)
                    have q328 : x5_2 < (l1_1.length : Int) := of_decide_eq_true (by first | (with_reducible assumption) | assumption)
                    obtain ⟨ad328, e328, hx328_0, hx328_1⟩ := at_T48 HR1_1.out x5_2 p328 q328
                    cases e328
                    replace hx328_0 := (HB.out.cell (World.block_lt_of_cell? w _ hx328_0)).trans hx328_0
                    replace hx328_1 := (HB.out.cell (World.block_lt_of_cell? w _ hx328_1)).trans hx328_1
                    replace p328 := eq_true p328
                    replace q328 := eq_true q328
                    go_wp2
                    repeat (go_quiet (fail); try go_wp2)
                    go_roundg k2
                    case measure => have := HJ2.out; have := HK2.out; omega
                    case rel => exact ⟨(wrap64 (x5_2 + 1)), (by first | rfl | (simp; done) | (simp [*]; done)), H', ⟨by have := HJ2.out; have := HK2.out; omega⟩, ⟨by (with_reducible repeat (first | refine blk_drewN ?_ _ | refine blk_drew ?_ | refine blk_alloc ?_ _)); exact BK325.out⟩, ⟨by (with_reducible repeat (first | refine blk_drewN ?_ _ | refine blk_drew ?_ | refine blk_alloc ?_ _)); exact BK326.out⟩, ⟨by repeat (first | (with_reducible first | exact HB.out | apply below_alloc | apply pw_below_drewN | apply below_drew1 | refine below_set ?_ GE325.out | refine below_set ?_ GE326.out) | exact HB.out)⟩⟩
                · rw [if_neg c24] at H
                  exact absurd H (by simp)
              · rw [if_neg c23] at H
                exact absurd H (by simp)
            · rw [if_neg c22] at H
              have c22b0 : decide (x5_2 < (l0_1.length : Int)) = false := decide_eq_false c22
              clear c22
              have H' := Aside0.mk H
              clear H
              have hnb32 := NB325_326.out
              have hnc32 := NB326_325.out
              have hcz33_0 : wr.cell? ⟨gb325, 0, none⟩ = some (.bool a0_0) := (blk_cell BK325.out 0).trans rfl
              have hcz33_1 : wr.cell? ⟨gb325, 1, none⟩ = some (.slice A0_1 l0_1.length c0_1) := (blk_cell BK325.out 1).trans rfl
              have hcz33_2 : wr.cell? ⟨gb325, 2, none⟩ = some (.slice A0_2 l0_2.length c0_2) := (blk_cell BK325.out 2).trans rfl
              have hcz33_3 : wr.cell? ⟨gb325, 3, none⟩ = some (.slice A0_3 l0_3.length c0_3) := (blk_cell BK325.out 3).trans rfl
              have hfz33_0 := blk_frozen BK325.out 0
              have hfz33_1 := blk_frozen BK325.out 1
              have hfz33_2 := blk_frozen BK325.out 2
              have hfz33_3 := blk_frozen BK325.out 3
              go_wp2
              repeat (go_quiet (fail); try go_wp2)
              go_loopg [6] k2 (fun kq v6 w' => ∃ (x6_3 : Int), v6 = .int .i64 x6_3 ∧ Aside0 (cisternref11_Same.l1 kq x6_3 a0_0 l0_1 l0_2 l0_3 a1_0 l1_1 l1_2 l1_3 = some r) ∧ Aside0 (kq ≤ k2) ∧ Aside0 (w'.heap[gb325]? = some (.cells #[.bool a0_0, (.slice A0_1 l0_1.length c0_1), (.slice A0_2 l0_2.length c0_2), (.slice A0_3 l0_3.length c0_3)] 26 (0, 0))) ∧ Aside0 (w'.heap[gb326]? = some (.cells #[.bool a1_0, (.slice A1_1 l1_1.length c1_1), (.slice A1_2 l1_2.length c1_2), (.slice A1_3 l1_3.length c1_3)] 26 (0, 0))) ∧ Aside0 (Below w.heap.size w w'))
              case atStart => exact ⟨(0), (by first | rfl | (simp; done) | (simp [*]; done)), H', ⟨Nat.le_refl _⟩, ⟨by (with_reducible repeat (first | refine blk_drewN ?_ _ | refine blk_drew ?_ | refine blk_alloc ?_ _)); exact BK325.out⟩, ⟨by (with_reducible repeat (first | refine blk_drewN ?_ _ | refine blk_drew ?_ | refine blk_alloc ?_ _)); exact BK326.out⟩, ⟨by repeat (first | (with_reducible first | exact HB.out | apply below_alloc | apply pw_below_drewN | apply below_drew1 | refine below_set ?_ GE325.out | refine below_set ?_ GE326.out) | exact HB.out)⟩⟩
              case round =>
                clear H'
                try clear c1
                try clear c2
                try clear p2
                try clear c3
                try clear p3
                try clear q3
                try clear hx3
                try clear c6
                try clear c6b0
                try clear c6b1
                try clear c6b2
                try clear p6
                try clear c7
                try clear c10
                try clear c10b0
                try clear c10b1
                try clear c10b2
                try clear c11
                try clear c11b0
                try clear c11b1
                try clear c11b2
                try clear c12
                try clear c15
                try clear c18
                try clear c19
                try clear c21
                try clear c22
                try clear c22b0
                try clear c23
                try clear c23b0
                try clear c24
                try clear c24b0
                try clear c25
                try clear c25b0
                try clear c26
                try clear c29
                try clear c32
                try clear p32
                try clear q32
                try clear hx32
                try clear hcz13_0
                try clear hcz13_1
                try clear hcz13_2
                try clear hcz13_3
                try clear hcz14_0
                try clear hcz14_1
                try clear hcz14_2
                try clear hcz14_3
                try clear hcz16_0
                try clear hcz16_1
                try clear hcz16_2
                try clear hcz16_3
                try clear hcz17_0
                try clear hcz17_1
                try clear hcz17_2
                try clear hcz17_3
                try clear hcz19_0
                try clear hcz19_1
                try clear hcz19_2
                try clear hcz19_3
                try clear hcz20_0
                try clear hcz20_1
                try clear hcz20_2
                try clear hcz20_3
                try clear hcz27_0
                try clear hcz27_1
                try clear hcz27_2
                try clear hcz27_3
                try clear hcz28_0
                try clear hcz28_1
                try clear hcz28_2
                try clear hcz28_3
                try clear hcz30_0
                try clear hcz30_1
                try clear hcz30_2
                try clear hcz30_3
                try clear hcz31_0
                try clear hcz31_1
                try clear hcz31_2
                try clear hcz31_3
                try clear hcz33_0
                try clear hcz33_1
                try clear hcz33_2
                try clear hcz33_3
                try clear hcz8_0
                try clear hcz8_1
                try clear hcz8_2
                try clear hcz8_3
                try clear hcz9_0
                try clear hcz9_1
                try clear hcz9_2
                try clear hcz9_3
                try clear hfz13_0
                try clear hfz13_1
                try clear hfz13_2
                try clear hfz13_3
                try clear hfz14_0
                try clear hfz14_1
                try clear hfz14_2
                try clear hfz14_3
                try clear hfz16_0
                try clear hfz16_1
                try clear hfz16_2
                try clear hfz16_3
                try clear hfz17_0
                try clear hfz17_1
                try clear hfz17_2
                try clear hfz17_3
                try clear hfz19_0
                try clear hfz19_1
                try clear hfz19_2
                try clear hfz19_3
                try clear hfz20_0
                try clear hfz20_1
                try clear hfz20_2
                try clear hfz20_3
                try clear hfz27_0
                try clear hfz27_1
                try clear hfz27_2
                try clear hfz27_3
                try clear hfz28_0
                try clear hfz28_1
                try clear hfz28_2
                try clear hfz28_3
                try clear hfz30_0
                try clear hfz30_1
                try clear hfz30_2
                try clear hfz30_3
                try clear hfz31_0
                try clear hfz31_1
                try clear hfz31_2
                try clear hfz31_3
                try clear hfz33_0
                try clear hfz33_1
                try clear hfz33_2
                try clear hfz33_3
                try clear hfz8_0
                try clear hfz8_1
                try clear hfz8_2
                try clear hfz8_3
                try clear hfz9_0
                try clear hfz9_1
                try clear hfz9_2
                try clear hfz9_3
                try clear hx327_0
                try clear hx327_1
                try clear hx328_0
                try clear hx328_1
                try clear p2
                try clear p327
                try clear p328
                try clear q327
                try clear q328
                obtain ⟨x6_3, rfl, HA, HK3, BK325, BK326, HB⟩ := hrel
                cases gk with
                | zero => exact absurd HA.out (by simp [cisternref11_Same.l1])
                | succ k3 =>
                  have H := HA.out
                  clear HA
                  simp only [cisternref11_Same.l1] at H
                  by_cases c34 : x6_3 < (l0_2.length : Int)
                  · rw [if_pos c34] at H
                    have c34b0 : decide (x6_3 < (l0_2.length : Int)) = true := decide_eq_true c34
                    clear c34
                    by_cases c35 : 0 ≤ x6_3
                    · rw [if_pos c35] at H
                      have c35b0 : decide (0 ≤ x6_3) = true := decide_eq_true c35
                      clear c35
                      by_cases c36 : x6_3 < (l1_2.length : Int)
                      · rw [if_pos c36] at H
                        have c36b0 : decide (x6_3 < (l1_2.length : Int)) = true := decide_eq_true c36
                        clear c36
                        by_cases c37 : (rdOf ByteArray.empty l0_2 x6_3).toList = (rdOf ByteArray.empty l1_2 x6_3).toList
                        · rw [if_pos c37] at H
                          have c37b0 : ((rdOf ByteArray.empty l0_2 x6_3).toList == (rdOf ByteArray.empty l1_2 x6_3).toList) = true := beq_iff_eq.mpr c37
                          have c37b1 : ((rdOf ByteArray.empty l0_2 x6_3).toList != (rdOf ByteArray.empty l1_2 x6_3).toList) = false := bne_eq_false_iff_eq.mpr c37
                          clear c37
                          have H' := Aside0.mk H
                          clear H
                          have hnb38 := NB325_326.out
                          have hnc38 := NB326_325.out
                          have hcz39_0 : wr.cell? ⟨gb325, 0, none⟩ = some (.bool a0_0) := (blk_cell BK325.out 0).trans rfl
                          have hcz39_1 : wr.cell? ⟨gb325, 1, none⟩ = some (.slice A0_1 l0_1.length c0_1) := (blk_cell BK325.out 1).trans rfl
                          have hcz39_2 : wr.cell? ⟨gb325, 2, none⟩ = some (.slice A0_2 l0_2.length c0_2) := (blk_cell BK325.out 2).trans rfl
                          have hcz39_3 : wr.cell? ⟨gb325, 3, none⟩ = some (.slice A0_3 l0_3.length c0_3) := (blk_cell BK325.out 3).trans rfl
                          have hfz39_0 := blk_frozen BK325.out 0
                          have hfz39_1 := blk_frozen BK325.out 1
                          have hfz39_2 := blk_frozen BK325.out 2
                          have hfz39_3 := blk_frozen BK325.out 3
                          have p329 : 0 ≤ (x6_3 : Int) := of_decide_eq_true (by first | (with_reducible assumption) | assumption)
                          have q329 : x6_3 < (l0_2.length : Int) := of_decide_eq_true (by first | (with_reducible assumption) | assumption)
                          obtain ⟨ad329, e329, hx329_0⟩ := Kd.at_string HR0_2.out x6_3 p329 q329
                          cases e329
                          replace hx329_0 := (HB.out.cell (World.block_lt_of_cell? w _ hx329_0)).trans hx329_0
                          replace p329 := eq_true p329
                          replace q329 := eq_true q329
                          have hcz40_0 : wr.cell? ⟨gb326, 0, none⟩ = some (.bool a1_0) := (blk_cell BK326.out 0).trans rfl
                          have hcz40_1 : wr.cell? ⟨gb326, 1, none⟩ = some (.slice A1_1 l1_1.length c1_1) := (blk_cell BK326.out 1).trans rfl
                          have hcz40_2 : wr.cell? ⟨gb326, 2, none⟩ = some (.slice A1_2 l1_2.length c1_2) := (blk_cell BK326.out 2).trans rfl
                          have hcz40_3 : wr.cell? ⟨gb326, 3, none⟩ = some (.slice A1_3 l1_3.length c1_3) := (blk_cell BK326.out 3).trans rfl
                          have hfz40_0 := blk_frozen BK326.out 0
                          have hfz40_1 := blk_frozen BK326.out 1
                          have hfz40_2 := blk_frozen BK326.out 2
                          have hfz40_3 := blk_frozen BK326.out 3
                          have p330 : 0 ≤ (x6_3 : Int) := of_decide_eq_true (by first | (with_reducible assumption) | assumption)
                          have q330 : x6_3 < (l1_2.length : Int) := of_decide_eq_true (by first | (with_reducible assumption) | assumption)
                          obtain ⟨ad330, e330, hx330_0⟩ := Kd.at_string HR1_2.out x6_3 p330 q330
                          cases e330
                          replace hx330_0 := (HB.out.cell (World.block_lt_of_cell? w _ hx330_0)).trans hx330_0
                          replace p330 := eq_true p330
                          replace q330 := eq_true q330
                          go_wp2
                          repeat (go_quiet (fail); try go_wp2)
                          go_roundg k3
                          case measure => have := HJ2.out; have := HK2.out; have := HK3.out; omega
                          case rel => exact ⟨(wrap64 (x6_3 + 1)), (by first | rfl | (simp; done) | (simp [*]; done)), H', ⟨by have := HJ2.out; have := HK2.out; have := HK3.out; omega⟩, ⟨by (with_reducible repeat (first | refine blk_drewN ?_ _ | refine blk_drew ?_ | refine blk_alloc ?_ _)); exact BK325.out⟩, ⟨by (with_reducible repeat (first | refine blk_drewN ?_ _ | refine blk_drew ?_ | refine blk_alloc ?_ _)); exact BK326.out⟩, ⟨by repeat (first | (with_reducible first | exact HB.out | apply below_alloc | apply pw_below_drewN | apply below_drew1 | refine below_set ?_ GE325.out | refine below_set ?_ GE326.out) | exact HB.out)⟩⟩
                        · rw [if_neg c37] at H
                          have c37b0 : ((rdOf ByteArray.empty l0_2 x6_3).toList == (rdOf ByteArray.empty l1_2 x6_3).toList) = false := beq_eq_false_iff_ne.mpr c37
                          have c37b1 : ((rdOf ByteArray.empty l0_2 x6_3).toList != (rdOf ByteArray.empty l1_2 x6_3).toList) = true := bne_iff_ne.mpr c37
                          obtain rfl := Option.some.inj H
                          have hnb41 := NB325_326.out
                          have hnc41 := NB326_325.out
                          have hcz42_0 : wr.cell? ⟨gb325, 0, none⟩ = some (.bool a0_0) := (blk_cell BK325.out 0).trans rfl
                          have hcz42_1 : wr.cell? ⟨gb325, 1, none⟩ = some (.slice A0_1 l0_1.length c0_1) := (blk_cell BK325.out 1).trans rfl
                          have hcz42_2 : wr.cell? ⟨gb325, 2, none⟩ = some (.slice A0_2 l0_2.length c0_2) := (blk_cell BK325.out 2).trans rfl
                          have hcz42_3 : wr.cell? ⟨gb325, 3, none⟩ = some (.slice A0_3 l0_3.length c0_3) := (blk_cell BK325.out 3).trans rfl
                          have hfz42_0 := blk_frozen BK325.out 0
                          have hfz42_1 := blk_frozen BK325.out 1
                          have hfz42_2 := blk_frozen BK325.out 2
                          have hfz42_3 := blk_frozen BK325.out 3
                          have p329 : 0 ≤ (x6_3 : Int) := of_decide_eq_true (by first | (with_reducible assumption) | assumption)
                          have q329 : x6_3 < (l0_2.length : Int) := of_decide_eq_true (by first | (with_reducible assumption) | assumption)
                          obtain ⟨ad329, e329, hx329_0⟩ := Kd.at_string HR0_2.out x6_3 p329 q329
                          cases e329
                          replace hx329_0 := (HB.out.cell (World.block_lt_of_cell? w _ hx329_0)).trans hx329_0
                          replace p329 := eq_true p329
                          replace q329 := eq_true q329
                          have hcz43_0 : wr.cell? ⟨gb326, 0, none⟩ = some (.bool a1_0) := (blk_cell BK326.out 0).trans rfl
                          have hcz43_1 : wr.cell? ⟨gb326, 1, none⟩ = some (.slice A1_1 l1_1.length c1_1) := (blk_cell BK326.out 1).trans rfl
                          have hcz43_2 : wr.cell? ⟨gb326, 2, none⟩ = some (.slice A1_2 l1_2.length c1_2) := (blk_cell BK326.out 2).trans rfl
                          have hcz43_3 : wr.cell? ⟨gb326, 3, none⟩ = some (.slice A1_3 l1_3.length c1_3) := (blk_cell BK326.out 3).trans rfl
                          have hfz43_0 := blk_frozen BK326.out 0
                          have hfz43_1 := blk_frozen BK326.out 1
                          have hfz43_2 := blk_frozen BK326.out 2
                          have hfz43_3 := blk_frozen BK326.out 3
                          have p330 : 0 ≤ (x6_3 : Int) := of_decide_eq_true (by first | (with_reducible assumption) | assumption)
                          have q330 : x6_3 < (l1_2.length : Int) := of_decide_eq_true (by first | (with_reducible assumption) | assumption)
                          obtain ⟨ad330, e330, hx330_0⟩ := Kd.at_string HR1_2.out x6_3 p330 q330
                          cases e330
                          replace hx330_0 := (HB.out.cell (World.block_lt_of_cell? w _ hx330_0)).trans hx330_0
                          replace p330 := eq_true p330
                          replace q330 := eq_true q330
                          go_wp2
                          repeat (go_quiet (fail); try go_wp2)
                          go_ret
                          exact ⟨by first | rfl | (simp [errW_none, errW_some] <;> rfl) | (simp [*, errW_none, errW_some] <;> rfl), by repeat (first | (with_reducible first | exact HB.out | apply below_alloc | apply pw_below_drewN | apply below_drew1 | refine below_set ?_ GE325.out | refine below_set ?_ GE326.out) | exact HB.out)⟩
                      · rw [if_neg c36] at H
                        exact absurd H (by simp)
                    · rw [if_neg c35] at H
                      exact absurd H (by simp)
                  · rw [if_neg c34] at H
                    have c34b0 : decide (x6_3 < (l0_2.length : Int)) = false := decide_eq_false c34
                    clear c34
                    have H' := Aside0.mk H
                    clear H
                    have hnb44 := NB325_326.out
                    have hnc44 := NB326_325.out
                    have hcz45_0 : wr.cell? ⟨gb325, 0, none⟩ = some (.bool a0_0) := (blk_cell BK325.out 0).trans rfl
                    have hcz45_1 : wr.cell? ⟨gb325, 1, none⟩ = some (.slice A0_1 l0_1.length c0_1) := (blk_cell BK325.out 1).trans rfl
                    have hcz45_2 : wr.cell? ⟨gb325, 2, none⟩ = some (.slice A0_2 l0_2.length c0_2) := (blk_cell BK325.out 2).trans rfl
                    have hcz45_3 : wr.cell? ⟨gb325, 3, none⟩ = some (.slice A0_3 l0_3.length c0_3) := (blk_cell BK325.out 3).trans rfl
                    have hfz45_0 := blk_frozen BK325.out 0
                    have hfz45_1 := blk_frozen BK325.out 1
                    have hfz45_2 := blk_frozen BK325.out 2
                    have hfz45_3 := blk_frozen BK325.out 3
                    go_wp2
                    repeat (go_quiet (fail); try go_wp2)
                    go_loopg [7] k3 (fun kq v7 w' => ∃ (x7_4 : Int), v7 = .int .i64 x7_4 ∧ Aside0 (cisternref11_Same.l2 kq x7_4 a0_0 l0_1 l0_2 l0_3 a1_0 l1_1 l1_2 l1_3 = some r) ∧ Aside0 (kq ≤ k3) ∧ Aside0 (w'.heap[gb325]? = some (.cells #[.bool a0_0, (.slice A0_1 l0_1.length c0_1), (.slice A0_2 l0_2.length c0_2), (.slice A0_3 l0_3.length c0_3)] 26 (0, 0))) ∧ Aside0 (w'.heap[gb326]? = some (.cells #[.bool a1_0, (.slice A1_1 l1_1.length c1_1), (.slice A1_2 l1_2.length c1_2), (.slice A1_3 l1_3.length c1_3)] 26 (0, 0))) ∧ Aside0 (Below w.heap.size w w'))
                    case atStart => exact ⟨(0), (by first | rfl | (simp; done) | (simp [*]; done)), H', ⟨Nat.le_refl _⟩, ⟨by (with_reducible repeat (first | refine blk_drewN ?_ _ | refine blk_drew ?_ | refine blk_alloc ?_ _)); exact BK325.out⟩, ⟨by (with_reducible repeat (first | refine blk_drewN ?_ _ | refine blk_drew ?_ | refine blk_alloc ?_ _)); exact BK326.out⟩, ⟨by repeat (first | (with_reducible first | exact HB.out | apply below_alloc | apply pw_below_drewN | apply below_drew1 | refine below_set ?_ GE325.out | refine below_set ?_ GE326.out) | exact HB.out)⟩⟩
                    case round =>
                      clear H'
                      try clear c1
                      try clear c2
                      try clear p2
                      try clear c3
                      try clear p3
                      try clear q3
                      try clear hx3
                      try clear c4
                      try clear c6
                      try clear c6b0
                      try clear c6b1
                      try clear c6b2
                      try clear p6
                      try clear c7
                      try clear c10
                      try clear c10b0
                      try clear c10b1
                      try clear c10b2
                      try clear c11
                      try clear c11b0
                      try clear c11b1
                      try clear c11b2
                      try clear c12
                      try clear c15
                      try clear c18
                      try clear c19
                      try clear c21
                      try clear c22
                      try clear c22b0
                      try clear c23
                      try clear c23b0
                      try clear c24
                      try clear c24b0
                      try clear c25
                      try clear c25b0
                      try clear c26
                      try clear c29
                      try clear c32
                      try clear p32
                      try clear q32
                      try clear hx32
                      try clear p33
                      try clear q33
                      try clear hx33
                      try clear c34
                      try clear c34b0
                      try clear c35
                      try clear c35b0
                      try clear c36
                      try clear c36b0
                      try clear c37
                      try clear c37b0
                      try clear c37b1
                      try clear c38
                      try clear c41
                      try clear c44
                      try clear hcz13_0
                      try clear hcz13_1
                      try clear hcz13_2
                      try clear hcz13_3
                      try clear hcz14_0
                      try clear hcz14_1
                      try clear hcz14_2
                      try clear hcz14_3
                      try clear hcz16_0
                      try clear hcz16_1
                      try clear hcz16_2
                      try clear hcz16_3
                      try clear hcz17_0
                      try clear hcz17_1
                      try clear hcz17_2
                      try clear hcz17_3
                      try clear hcz19_0
                      try clear hcz19_1
                      try clear hcz19_2
                      try clear hcz19_3
                      try clear hcz20_0
                      try clear hcz20_1
                      try clear hcz20_2
                      try clear hcz20_3
                      try clear hcz27_0
                      try clear hcz27_1
                      try clear hcz27_2
                      try clear hcz27_3
                      try clear hcz28_0
                      try clear hcz28_1
                      try clear hcz28_2
                      try clear hcz28_3
                      try clear hcz30_0
                      try clear hcz30_1
                      try clear hcz30_2
                      try clear hcz30_3
                      try clear hcz31_0
                      try clear hcz31_1
                      try clear hcz31_2
                      try clear hcz31_3
                      try clear hcz33_0
                      try clear hcz33_1
                      try clear hcz33_2
                      try clear hcz33_3
                      try clear hcz39_0
                      try clear hcz39_1
                      try clear hcz39_2
                      try clear hcz39_3
                      try clear hcz40_0
                      try clear hcz40_1
                      try clear hcz40_2
                      try clear hcz40_3
                      try clear hcz42_0
                      try clear hcz42_1
                      try clear hcz42_2
                      try clear hcz42_3
                      try clear hcz43_0
                      try clear hcz43_1
                      try clear hcz43_2
                      try clear hcz43_3
                      try clear hcz45_0
                      try clear hcz45_1
                      try clear hcz45_2
                      try clear hcz45_3
                      try clear hcz8_0
                      try clear hcz8_1
                      try clear hcz8_2
                      try clear hcz8_3
                      try clear hcz9_0
                      try clear hcz9_1
                      try clear hcz9_2
                      try clear hcz9_3
                      try clear hfz13_0
                      try clear hfz13_1
                      try clear hfz13_2
                      try clear hfz13_3
                      try clear hfz14_0
                      try clear hfz14_1
                      try clear hfz14_2
                      try clear hfz14_3
                      try clear hfz16_0
                      try clear hfz16_1
                      try clear hfz16_2
                      try clear hfz16_3
                      try clear hfz17_0
                      try clear hfz17_1
                      try clear hfz17_2
                      try clear hfz17_3
                      try clear hfz19_0
                      try clear hfz19_1
                      try clear hfz19_2
                      try clear hfz19_3
                      try clear hfz20_0
                      try clear hfz20_1
                      try clear hfz20_2
                      try clear hfz20_3
                      try clear hfz27_0
                      try clear hfz27_1
                      try clear hfz27_2
                      try clear hfz27_3
                      try clear hfz28_0
                      try clear hfz28_1
                      try clear hfz28_2
                      try clear hfz28_3
                      try clear hfz30_0
                      try clear hfz30_1
                      try clear hfz30_2
                      try clear hfz30_3
                      try clear hfz31_0
                      try clear hfz31_1
                      try clear hfz31_2
                      try clear hfz31_3
                      try clear hfz33_0
                      try clear hfz33_1
                      try clear hfz33_2
                      try clear hfz33_3
                      try clear hfz39_0
                      try clear hfz39_1
                      try clear hfz39_2
                      try clear hfz39_3
                      try clear hfz40_0
                      try clear hfz40_1
                      try clear hfz40_2
                      try clear hfz40_3
                      try clear hfz42_0
                      try clear hfz42_1
                      try clear hfz42_2
                      try clear hfz42_3
                      try clear hfz43_0
                      try clear hfz43_1
                      try clear hfz43_2
                      try clear hfz43_3
                      try clear hfz45_0
                      try clear hfz45_1
                      try clear hfz45_2
                      try clear hfz45_3
                      try clear hfz8_0
                      try clear hfz8_1
                      try clear hfz8_2
                      try clear hfz8_3
                      try clear hfz9_0
                      try clear hfz9_1
                      try clear hfz9_2
                      try clear hfz9_3
                      try clear hx327_0
                      try clear hx327_1
                      try clear hx328_0
                      try clear hx328_1
                      try clear hx329_0
                      try clear hx330_0
                      try clear p2
                      try clear p3
                      try clear p32
                      try clear p327
                      try clear p328
                      try clear p329
                      try clear p330
                      try clear p6
                      try clear q3
                      try clear q32
                      try clear q327
                      try clear q328
                      try clear q329
                      try clear q330
                      obtain ⟨x7_4, rfl, HA, HK4, BK325, BK326, HB⟩ := hrel
                      cases gk with
                      | zero => exact absurd HA.out (by simp [cisternref11_Same.l2])
                      | succ k4 =>
                        have H := HA.out
                        clear HA
                        simp only [cisternref11_Same.l2] at H
                        by_cases c46 : x7_4 < (l0_3.length : Int)
                        · rw [if_pos c46] at H
                          have c46b0 : decide (x7_4 < (l0_3.length : Int)) = true := decide_eq_true c46
                          clear c46
                          by_cases c47 : 0 ≤ x7_4
                          · rw [if_pos c47] at H
                            have c47b0 : decide (0 ≤ x7_4) = true := decide_eq_true c47
                            clear c47
                            by_cases c48 : x7_4 < (l1_3.length : Int)
                            · rw [if_pos c48] at H
                              have c48b0 : decide (x7_4 < (l1_3.length : Int)) = true := decide_eq_true c48
                              clear c48
                              by_cases c49 : (rd l0_3 x7_4) = (rd l1_3 x7_4)
                              · rw [if_pos c49] at H
                                have c49b0 : ((rd l0_3 x7_4) == (rd l1_3 x7_4)) = true := beq_iff_eq.mpr c49
                                have c49b1 : ((rd l0_3 x7_4) != (rd l1_3 x7_4)) = false := bne_eq_false_iff_eq.mpr c49
                                clear c49
                                have H' := Aside0.mk H
                                clear H
                                have hnb50 := NB325_326.out
                                have hnc50 := NB326_325.out
                                have hcz51_0 : wr.cell? ⟨gb325, 0, none⟩ = some (.bool a0_0) := (blk_cell BK325.out 0).trans rfl
                                have hcz51_1 : wr.cell? ⟨gb325, 1, none⟩ = some (.slice A0_1 l0_1.length c0_1) := (blk_cell BK325.out 1).trans rfl
                                have hcz51_2 : wr.cell? ⟨gb325, 2, none⟩ = some (.slice A0_2 l0_2.length c0_2) := (blk_cell BK325.out 2).trans rfl
                                have hcz51_3 : wr.cell? ⟨gb325, 3, none⟩ = some (.slice A0_3 l0_3.length c0_3) := (blk_cell BK325.out 3).trans rfl
                                have hfz51_0 := blk_frozen BK325.out 0
                                have hfz51_1 := blk_frozen BK325.out 1
                                have hfz51_2 := blk_frozen BK325.out 2
                                have hfz51_3 := blk_frozen BK325.out 3
                                have p331 : 0 ≤ (x7_4 : Int) := of_decide_eq_true (by first | (with_reducible assumption) | assumption)
                                have q331 : x7_4 < (l0_3.length : Int) := of_decide_eq_true (by first | (with_reducible assumption) | assumption)
                                obtain ⟨ad331, e331, hx331_0⟩ := Kd.at_int HR0_3.out x7_4 p331 q331
                                cases e331
                                replace hx331_0 := (HB.out.cell (World.block_lt_of_cell? w _ hx331_0)).trans hx331_0
                                replace p331 := eq_true p331
                                replace q331 := eq_true q331
                                have hcz52_0 : wr.cell? ⟨gb326, 0, none⟩ = some (.bool a1_0) := (blk_cell BK326.out 0).trans rfl
                                have hcz52_1 : wr.cell? ⟨gb326, 1, none⟩ = some (.slice A1_1 l1_1.length c1_1) := (blk_cell BK326.out 1).trans rfl
                                have hcz52_2 : wr.cell? ⟨gb326, 2, none⟩ = some (.slice A1_2 l1_2.length c1_2) := (blk_cell BK326.out 2).trans rfl
                                have hcz52_3 : wr.cell? ⟨gb326, 3, none⟩ = some (.slice A1_3 l1_3.length c1_3) := (blk_cell BK326.out 3).trans rfl
                                have hfz52_0 := blk_frozen BK326.out 0
                                have hfz52_1 := blk_frozen BK326.out 1
                                have hfz52_2 := blk_frozen BK326.out 2
                                have hfz52_3 := blk_frozen BK326.out 3
                                have p332 : 0 ≤ (x7_4 : Int) := of_decide_eq_true (by first | (with_reducible assumption) | assumption)
                                have q332 : x7_4 < (l1_3.length : Int) := of_decide_eq_true (by first | (with_reducible assumption) | assumption)
                                obtain ⟨ad332, e332, hx332_0⟩ := Kd.at_int HR1_3.out x7_4 p332 q332
                                cases e332
                                replace hx332_0 := (HB.out.cell (World.block_lt_of_cell? w _ hx332_0)).trans hx332_0
                                replace p332 := eq_true p332
                                replace q332 := eq_true q332
                                go_wp2
                                repeat (go_quiet (fail); try go_wp2)
                                go_roundg k4
                                case measure => have := HJ2.out; have := HK2.out; have := HK3.out; have := HK4.out; omega
                                case rel => exact ⟨(wrap64 (x7_4 + 1)), (by first | rfl | (simp; done) | (simp [*]; done)), H', ⟨by have := HJ2.out; have := HK2.out; have := HK3.out; have := HK4.out; omega⟩, ⟨by (with_reducible repeat (first | refine blk_drewN ?_ _ | refine blk_drew ?_ | refine blk_alloc ?_ _)); exact BK325.out⟩, ⟨by (with_reducible repeat (first | refine blk_drewN ?_ _ | refine blk_drew ?_ | refine blk_alloc ?_ _)); exact BK326.out⟩, ⟨by repeat (first | (with_reducible first | exact HB.out | apply below_alloc | apply pw_below_drewN | apply below_drew1 | refine below_set ?_ GE325.out | refine below_set ?_ GE326.out) | exact HB.out)⟩⟩
                              · rw [if_neg c49] at H
                                have c49b0 : ((rd l0_3 x7_4) == (rd l1_3 x7_4)) = false := beq_eq_false_iff_ne.mpr c49
                                have c49b1 : ((rd l0_3 x7_4) != (rd l1_3 x7_4)) = true := bne_iff_ne.mpr c49
                                obtain rfl := Option.some.inj H
                                have hnb53 := NB325_326.out
                                have hnc53 := NB326_325.out
                                have hcz54_0 : wr.cell? ⟨gb325, 0, none⟩ = some (.bool a0_0) := (blk_cell BK325.out 0).trans rfl
                                have hcz54_1 : wr.cell? ⟨gb325, 1, none⟩ = some (.slice A0_1 l0_1.length c0_1) := (blk_cell BK325.out 1).trans rfl
                                have hcz54_2 : wr.cell? ⟨gb325, 2, none⟩ = some (.slice A0_2 l0_2.length c0_2) := (blk_cell BK325.out 2).trans rfl
                                have hcz54_3 : wr.cell? ⟨gb325, 3, none⟩ = some (.slice A0_3 l0_3.length c0_3) := (blk_cell BK325.out 3).trans rfl
                                have hfz54_0 := blk_frozen BK325.out 0
                                have hfz54_1 := blk_frozen BK325.out 1
                                have hfz54_2 := blk_frozen BK325.out 2
                                have hfz54_3 := blk_frozen BK325.out 3
                                have p331 : 0 ≤ (x7_4 : Int) := of_decide_eq_true (by first | (with_reducible assumption) | assumption)
                                have q331 : x7_4 < (l0_3.length : Int) := of_decide_eq_true (by first | (with_reducible assumption) | assumption)
                                obtain ⟨ad331, e331, hx331_0⟩ := Kd.at_int HR0_3.out x7_4 p331 q331
                                cases e331
                                replace hx331_0 := (HB.out.cell (World.block_lt_of_cell? w _ hx331_0)).trans hx331_0
                                replace p331 := eq_true p331
                                replace q331 := eq_true q331
                                have hcz55_0 : wr.cell? ⟨gb326, 0, none⟩ = some (.bool a1_0) := (blk_cell BK326.out 0).trans rfl
                                have hcz55_1 : wr.cell? ⟨gb326, 1, none⟩ = some (.slice A1_1 l1_1.length c1_1) := (blk_cell BK326.out 1).trans rfl
                                have hcz55_2 : wr.cell? ⟨gb326, 2, none⟩ = some (.slice A1_2 l1_2.length c1_2) := (blk_cell BK326.out 2).trans rfl
                                have hcz55_3 : wr.cell? ⟨gb326, 3, none⟩ = some (.slice A1_3 l1_3.length c1_3) := (blk_cell BK326.out 3).trans rfl
                                have hfz55_0 := blk_frozen BK326.out 0
                                have hfz55_1 := blk_frozen BK326.out 1
                                have hfz55_2 := blk_frozen BK326.out 2
                                have hfz55_3 := blk_frozen BK326.out 3
                                have p332 : 0 ≤ (x7_4 : Int) := of_decide_eq_true (by first | (with_reducible assumption) | assumption)
                                have q332 : x7_4 < (l1_3.length : Int) := of_decide_eq_true (by first | (with_reducible assumption) | assumption)
                                obtain ⟨ad332, e332, hx332_0⟩ := Kd.at_int HR1_3.out x7_4 p332 q332
                                cases e332
                                replace hx332_0 := (HB.out.cell (World.block_lt_of_cell? w _ hx332_0)).trans hx332_0
                                replace p332 := eq_true p332
                                replace q332 := eq_true q332
                                go_wp2
                                repeat (go_quiet (fail); try go_wp2)
                                go_ret
                                exact ⟨by first | rfl | (simp [errW_none, errW_some] <;> rfl) | (simp [*, errW_none, errW_some] <;> rfl), by repeat (first | (with_reducible first | exact HB.out | apply below_alloc | apply pw_below_drewN | apply below_drew1 | refine below_set ?_ GE325.out | refine below_set ?_ GE326.out) | exact HB.out)⟩
                            · rw [if_neg c48] at H
                              exact absurd H (by simp)
                          · rw [if_neg c47] at H
                            exact absurd H (by simp)
                        · rw [if_neg c46] at H
                          have c46b0 : decide (x7_4 < (l0_3.length : Int)) = false := decide_eq_false c46
                          clear c46
                          obtain rfl := Option.some.inj H
                          have hnb56 := NB325_326.out
                          have hnc56 := NB326_325.out
                          have hcz57_0 : wr.cell? ⟨gb325, 0, none⟩ = some (.bool a0_0) := (blk_cell BK325.out 0).trans rfl
                          have hcz57_1 : wr.cell? ⟨gb325, 1, none⟩ = some (.slice A0_1 l0_1.length c0_1) := (blk_cell BK325.out 1).trans rfl
                          have hcz57_2 : wr.cell? ⟨gb325, 2, none⟩ = some (.slice A0_2 l0_2.length c0_2) := (blk_cell BK325.out 2).trans rfl
                          have hcz57_3 : wr.cell? ⟨gb325, 3, none⟩ = some (.slice A0_3 l0_3.length c0_3) := (blk_cell BK325.out 3).trans rfl
                          have hfz57_0 := blk_frozen BK325.out 0
                          have hfz57_1 := blk_frozen BK325.out 1
                          have hfz57_2 := blk_frozen BK325.out 2
                          have hfz57_3 := blk_frozen BK325.out 3
                          go_wp2
                          repeat (go_quiet (fail); try go_wp2)
                          go_ret
                          exact ⟨by first | rfl | (simp [errW_none, errW_some] <;> rfl) | (simp [*, errW_none, errW_some] <;> rfl), by repeat (first | (with_reducible first | exact HB.out | apply below_alloc | apply pw_below_drewN | apply below_drew1 | refine below_set ?_ GE325.out | refine below_set ?_ GE326.out) | exact HB.out)⟩
end
end Go.Proofs.Ytjjfeoigjhbbpaa.PA
namespace Go.Proofs.Ytjjfeoigjhbbpaa.PA
section

open Go.RowKit Go.Proofs.YtjjfeoigjhbbpaaW.PrintWords Go.Proofs.YtjjfeoigjhbbpaaW.PrintLast Go.Proofs.YtjjfeoigjhbbpaaW.PrintMore
attribute [local go_sem] pr_leq pr_geq pr_gtr max2_int min2_int max_two min_two max_three min_three max_four min_four
set_option linter.unusedVariables false
set_option linter.unusedSimpArgs false
theorem right_val (a : Bool) (P : List S48) (K : List ByteArray) (D : List Int) : cisternref11_Right.f a P K D = some (leafV a P K D || innerV a P K D) := rfl
theorem rdB {K : List ByteArray} {i : Nat} (h : i < K.length) : rdOf ByteArray.empty K (i : Int) = K[i] := by unfold rdOf; rw [Int.toNat_natCast, List.getD_eq_getElem?_getD, List.getElem?_eq_getElem h]; rfl
theorem wsuc {i : Nat} (h : i < 9223372036854775807) : wrap64 ((i : Int) + 1) = ((i + 1 : Nat) : Int) := by unfold wrap64; omega
theorem same_l2 (a b : Bool) (P Q : List S48) (K L : List ByteArray) (D : List Int) (hD : D.length ≤ 9223372036854775807) : ∀ (n i k : Nat), i + n = D.length → n < k → cisternref11_Same.l2 k (i : Int) a P K D b Q L D = some true
  | 0, i, k + 1, hi, _ => by
    unfold cisternref11_Same.l2
    rw [if_neg (by omega)]
  | n + 1, i, k + 1, hi, hk => by
    unfold cisternref11_Same.l2
    rw [if_pos (by omega), if_pos (by omega), if_pos (by omega), if_pos rfl, wsuc (by omega)]
    exact same_l2 a b P Q K L D hD n (i + 1) k (by omega) (by omega)
theorem same_l1 (a b : Bool) (P Q : List S48) (K : List ByteArray) (D : List Int) (hK : K.length ≤ 9223372036854775807) (hD : D.length ≤ 9223372036854775807) : ∀ (n i k : Nat), i + n = K.length → n + D.length + 1 < k → cisternref11_Same.l1 k (i : Int) a P K D b Q K D = some true
  | 0, i, k + 1, hi, hk => by
    unfold cisternref11_Same.l1
    rw [if_neg (by omega)]
    exact same_l2 a b P Q K K D hD D.length 0 k (by omega) (by omega)
  | n + 1, i, k + 1, hi, hk => by
    unfold cisternref11_Same.l1
    rw [if_pos (by omega), if_pos (by omega), if_pos (by omega), if_pos rfl, wsuc (by omega)]
    exact same_l1 a b P Q K D hK hD n (i + 1) k (by omega) (by omega)
theorem same_l0 (a b : Bool) (P : List S48) (K : List ByteArray) (D : List Int) (hP : P.length ≤ 9223372036854775807) (hK : K.length ≤ 9223372036854775807) (hD : D.length ≤ 9223372036854775807) : ∀ (n i k : Nat), i + n = P.length → n + K.length + D.length + 2 < k → cisternref11_Same.l0 k (i : Int) a P K D b P K D = some true
  | 0, i, k + 1, hi, hk => by
    unfold cisternref11_Same.l0
    rw [if_neg (by omega)]
    exact same_l1 a b P P K D hK hD K.length 0 k (by omega) (by omega)
  | n + 1, i, k + 1, hi, hk => by
    unfold cisternref11_Same.l0
    rw [if_pos (by omega), if_pos (by omega), if_pos (by omega), beq_self_eq_true, beq_self_eq_true, if_neg (by decide), wsuc (by omega)]
    exact same_l0 a b P K D hP hK hD n (i + 1) k (by omega) (by omega)
theorem same_self (a : Bool) (P : List S48) (K : List ByteArray) (D : List Int) (hP : P.length ≤ 9223372036854775807) (hK : K.length ≤ 9223372036854775807) (hD : D.length ≤ 9223372036854775807) (k : Nat) (hk : P.length + K.length + D.length + 3 < k) : cisternref11_Same.f k a P K D a P K D = some true := by
  obtain ⟨k, rfl⟩ : ∃ m, k = m + 1 := ⟨k - 1, by omega⟩
  unfold cisternref11_Same.f
  rw [if_neg (by simp), if_pos rfl, if_pos rfl]
  have : ((D.length : Int) != (D.length : Int)) = false := by simp
  rw [this, cisternref11_Same.j0, if_neg (by decide)]
  exact same_l0 a a P K D hP hK hD P.length 0 k (by omega) (by omega)
end
end Go.Proofs.Ytjjfeoigjhbbpaa.PA
