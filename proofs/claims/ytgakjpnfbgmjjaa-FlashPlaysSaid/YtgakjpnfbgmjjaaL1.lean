import Derived.Test.YtgakjpnfbgmjjaaL0
import Derived.Deep.RegionHeldLaw
import Derived.Deep.Slices
import Derived.SizedLaws
import Derived.IntWalk
import Derived.ArgAppend
namespace Go.Proofs.Ytgakjpnfbgmjjaa.PA
open Go.RowKit Go.Proofs.YtgakjpnfbgmjjaaW.PrintWords Go.Proofs.YtgakjpnfbgmjjaaW.PrintLast Go.Proofs.YtgakjpnfbgmjjaaW.PrintMore
set_option linter.unusedVariables false
set_option linter.unusedSimpArgs false
/-! ### The device's functions, walked -/
set_option maxHeartbeats 1000000 in
theorem dev_is {W : World} {F : Nat → Prop} {g gs : Nat} {vw : Value} {S : FSt} (h : DevAt W F g gs vw S) (hn : S.secs.length ≤ 4096) (p : Int) :
    Calls Try.prog 24 #[.pointer (some ⟨g, 0, none⟩), .int .i64 p] W fun e W' => e = .returned (.bool (S.isIn p)) ∧ W' = W := by
  obtain ⟨c0, _, _, _, _, _⟩ := h.cells
  obtain ⟨n, hnn⟩ : ∃ n, n = S.secs.length := ⟨_, rfl⟩
  have e : S.isIn p = (decide (0 ≤ p) && decide (p < (n : Int))) := by rw [hnn]; rfl
  rw [e]
  rw [← hnn] at c0
  clear h e hnn hn
  go_enter Try.func24, Try.ntmps24
  by_cases h0 : 0 ≤ p
  · have d0 : decide (0 ≤ p) = true := decide_eq_true h0
    go_wp2_with fail
    go_ret
    simp [d0]
  · have d0 : decide (0 ≤ p) = false := decide_eq_false h0
    go_wp2_with fail
    go_ret
    simp [d0]
set_option maxHeartbeats 1000000 in
theorem dev_size {W : World} {F : Nat → Prop} {g gs : Nat} {vw : Value} {S : FSt} (h : DevAt W F g gs vw S) :
    Calls Try.prog 16 #[.pointer (some ⟨g, 0, none⟩)] W fun e W' => e = .returned (.int .i64 (S.secs.length : Int)) ∧ W' = W := by
  obtain ⟨c0, _, _, _, _, _⟩ := h.cells
  clear h
  go_enter Try.func16, Try.ntmps16
  go_wp2_with fail
  go_ret
  exact ⟨rfl, rfl⟩
set_option maxHeartbeats 1000000 in
theorem dev_pending {W : World} {F : Nat → Prop} {g gs : Nat} {vw : Value} {S : FSt} (h : DevAt W F g gs vw S) :
    Calls Try.prog 19 #[.pointer (some ⟨g, 0, none⟩)] W fun e W' => e = .returned (.int .i64 (S.waits.length : Int)) ∧ W' = W := by
  obtain ⟨_, c1, _, _, _, _⟩ := h.cells
  obtain ⟨A, c, rfl, _⟩ := h.wslice
  clear h
  go_enter Try.func19, Try.ntmps19
  go_wp2_with fail
  go_ret
  exact ⟨rfl, rfl⟩
theorem FSt.spent_stop {S : FSt} (h : S.stops = true) : S.spent = { S with off := true } := by unfold FSt.spent; rw [h]; rfl
theorem FSt.spent_armed {S : FSt} (h : S.stops = false) (ha : S.armed = true) : S.spent = { S with left := wrap64 (S.left - 1) } := by
  unfold FSt.spent; rw [h, ha]
  have : S.off = false := by unfold FSt.stops at h; simp at h; exact h.1
  cases S; simp_all
theorem FSt.spent_free {S : FSt} (h : S.stops = false) (ha : S.armed = false) : S.spent = S := by
  unfold FSt.spent; rw [h, ha]
  have : S.off = false := by unfold FSt.stops at h; simp at h; exact h.1
  cases S; simp_all
theorem FSt.spent_secs (S : FSt) : S.spent.secs = S.secs := rfl
theorem FSt.spent_waits (S : FSt) : S.spent.waits = S.waits := rfl
/-- One block alone has turned. -/
structure Only (g : Nat) (w w' : World) : Prop where
  os : w'.os = w.os
  tape : w'.tape = w.tape
  output : w'.output = w.output
  size : w'.heap.size = w.heap.size
  block : ∀ k, k ≠ g → w'.heap[k]? = w.heap[k]?
theorem Only.refl (g : Nat) (w : World) : Only g w w := ⟨rfl, rfl, rfl, rfl, fun _ _ => rfl⟩
theorem Only.setCell {g : Nat} {a b : World} (h : Only g a b) (i : Nat) (u : Value) : Only g a (b.setCell ⟨g, i, none⟩ u) :=
  ⟨h.os, h.tape, h.output, by simpa [World.setCell] using h.size, fun k hk => (Below.heap_setCell b ⟨g, i, none⟩ u k hk).trans (h.block k hk)⟩
theorem Only.chg {F : Nat → Prop} {g : Nat} {a b : World} (h : Only g a b) (hg : F g) : Chg F a b := ⟨h.os, h.tape, h.output, Nat.le_of_eq h.size.symm, fun k _ hF => h.block k (fun e => hF (e ▸ hg))⟩
set_option maxHeartbeats 1000000 in
theorem dev_spend {W : World} {F : Nat → Prop} {g gs : Nat} {vw : Value} {S : FSt} (h : DevAt W F g gs vw S) :
    Calls Try.prog 25 #[.pointer (some ⟨g, 0, none⟩)] W fun e W' => e = .returned (.bool (!S.stops)) ∧ DevAt W' F g gs vw S.spent ∧ Only g W W' := by
  obtain ⟨_, _, c2, c3, c4, hf⟩ := h.cells
  have f2 := hf 2
  have f4 := hf 4
  clear hf
  have X := Aside0.mk h
  clear h
  by_cases ha : S.armed = true
  · by_cases hl : S.left = 0
    · have hs : S.stops = true := by unfold FSt.stops; rw [ha, hl]; simp
      rw [ha] at c3
      rw [hl] at c4
      have Y := Aside0.mk (X.out.set2 true)
      have c2' := Y.out.cells.2.2.1
      go_enter Try.func25, Try.ntmps25
      go_wp2_with fail
      go_ret
      rw [FSt.spent_stop hs]
      exact ⟨rfl, Y.out, (Only.refl _ _).setCell _ _⟩
    · have hz : (S.left == 0) = false := beq_eq_false_iff_ne.2 hl
      rw [ha] at c3
      by_cases ho : S.off = true
      · have hs : S.stops = true := by unfold FSt.stops; rw [ho]; rfl
        rw [ho] at c2
        go_enter Try.func25, Try.ntmps25
        go_wp2_with fail
        go_ret
        have hs' := FSt.spent_stop hs
        rw [hs', hs]
        refine ⟨rfl, ?_, Only.refl _ _⟩
        have := X.out
        rw [show ({ S with off := true } : FSt) = S by cases S; simp_all]
        exact this
      · have ho' : S.off = false := by simpa using ho
        have hs : S.stops = false := by unfold FSt.stops; rw [ho', ha, hz]; rfl
        rw [ho'] at c2
        have Y := Aside0.mk (X.out.set4 (wrap64 (S.left - 1)))
        go_enter Try.func25, Try.ntmps25
        go_wp2_with fail
        go_ret
        rw [FSt.spent_armed hs ha, hs]
        exact ⟨rfl, Y.out, (Only.refl _ _).setCell _ _⟩
  · have ha' : S.armed = false := by simpa using ha
    rw [ha'] at c3
    by_cases ho : S.off = true
    · have hs : S.stops = true := by unfold FSt.stops; rw [ho]; rfl
      rw [ho] at c2
      go_enter Try.func25, Try.ntmps25
      go_wp2_with fail
      go_ret
      rw [FSt.spent_stop hs, hs]
      refine ⟨rfl, ?_, Only.refl _ _⟩
      have := X.out
      rw [show ({ S with off := true } : FSt) = S by cases S; simp_all]
      exact this
    · have ho' : S.off = false := by simpa using ho
      have hs : S.stops = false := by unfold FSt.stops; rw [ho', ha']; rfl
      rw [ho'] at c2
      go_enter Try.func25, Try.ntmps25
      go_wp2_with fail
      go_ret
      rw [FSt.spent_free hs ha', hs]
      exact ⟨rfl, X.out, Only.refl _ _⟩
set_option maxHeartbeats 1000000 in
theorem dev_arm {W : World} {F : Nat → Prop} {g gs : Nat} {vw : Value} {S : FSt} (h : DevAt W F g gs vw S) (n : Int) :
    Calls Try.prog 17 #[.pointer (some ⟨g, 0, none⟩), .int .i64 n] W fun e W' => e = .returned (.tuple #[]) ∧ DevAt W' F g gs vw (S.arm n) ∧ Only g W W' := by
  obtain ⟨_, _, _, c3, c4, hf⟩ := h.cells
  have f3 := hf 3
  have f4 := hf 4
  clear hf
  have X := Aside0.mk ((h.set3 (decide (0 ≤ n))).set4 n)
  clear h
  go_enter Try.func17, Try.ntmps17
  go_wp2_with fail
  go_end0
  exact ⟨rfl, X.out, ((Only.refl _ _).setCell _ _).setCell _ _⟩

theorem world_row_zero {W : World} {F : Nat → Prop} (n : Nat) : SecRow W F (madeCells #[.slice none 0 0, .bool false] (n * 2)) (List.replicate n (none, false)) := by
  refine ⟨by rw [size_madeCells, List.length_replicate], fun i s hi => ?_, fun i s hi => ?_⟩
  · obtain ⟨hl, rfl⟩ := List.getElem?_eq_some_iff.1 hi
    rw [List.length_replicate] at hl
    refine ⟨.slice none 0 0, ?_, ?_⟩
    · rw [Array.getElem?_eq_getElem (by rw [size_madeCells]; omega)]
      simp [madeCells]
    · rw [List.getElem_replicate]
      exact rfl
  · obtain ⟨hl, rfl⟩ := List.getElem?_eq_some_iff.1 hi
    rw [List.length_replicate] at hl
    rw [Array.getElem?_eq_getElem (by rw [size_madeCells]; omega)]
    simp [madeCells, Nat.mul_add_mod]
theorem info71 : (Try.prog.info? 71).map (fun i => (i.zero, i.size, i.bytes)) = some (some (.agg #[.slice none 0 0, .bool false]), 2, 32) := by kernel_rfl
theorem dev_made (n : Nat) (W : World) : DevAt ((W.alloc (.cells (madeCells #[.slice none 0 0, .bool false] (n * 2)) 71)).alloc (.cells #[.slice (some ⟨W.heap.size, 0, none⟩) n n, .slice none 0 0, .bool false, .bool false, .int .i64 0] 61)) (fun k => W.heap.size ≤ k) (W.heap.size + 1) W.heap.size (.slice none 0 0) (.new n) := by
  have h2 := heap_alloc_new (W.alloc (.cells (madeCells #[.slice none 0 0, .bool false] (n * 2)) 71)) (.cells #[.slice (some ⟨W.heap.size, 0, none⟩) n n, .slice none 0 0, .bool false, .bool false, .int .i64 0] 61)
  rw [World.size_alloc] at h2
  refine ⟨by omega, Nat.le_refl _, ?_, ⟨_, (Below.heap_alloc _ _ _ (by simp)).trans (heap_alloc_new W _), world_row_zero n⟩, ⟨[], World.ownsRow_nil _ _ _ _, ⟨rfl, by simp [FSt.new], by simp [FSt.new]⟩⟩, fun k hk => by simp [Value.ownBlock] at hk⟩
  rw [h2]
  simp [FSt.new]
set_option maxHeartbeats 1000000 in
theorem dev_new (n : Nat) (h1 : 1 ≤ n) (h2 : n ≤ 4096) (W : World) :
    Calls Try.prog 11 #[.int .i64 (n : Int)] W fun e W' => e = .returned (.tuple #[.pointer (some ⟨W.heap.size + 1, 0, none⟩), .int .i64 0]) ∧ Dev W' (fun k => W.heap.size ≤ k) (W.heap.size + 1) (.new n) ∧ Below W.heap.size W W' := by
  obtain ⟨i, hi, hz, hs, hb⟩ := info_parts info71
  have mk := run_make (P := Try.prog) W 58 71 i _ Try.underlying58 hi hz .i64 .i64 (n : Int) (n : Int) (by omega) (by omega) (by rw [hb]; omega) (by omega)
  rw [Int.toNat_natCast, hs] at mk
  have X := Aside0.mk (dev_made n W)
  clear hi hz hs hb
  have g1 : decide ((n : Int) < 1) = false := decide_eq_false (by omega)
  have g2 : decide (4096 < (n : Int)) = false := decide_eq_false (by omega)
  go_enter Try.func11, Try.ntmps11
  go_wp2_with fail
  go_ret2
  exact ⟨rfl, ⟨_, _, X.out⟩, below_alloc (below_alloc (Below.refl _ _) _) _⟩
set_option maxHeartbeats 1000000 in
theorem dev_new_bad (n : Int) (h1 : n < 1 ∨ 4096 < n) (W : World) :
    Calls Try.prog 11 #[.int .i64 n] W fun e W' => e = .returned (.tuple #[.pointer none, .int .i64 1]) ∧ W' = W := by
  by_cases h : n < 1
  · have g1 : decide (n < 1) = true := decide_eq_true h
    clear h h1
    go_enter Try.func11, Try.ntmps11
    go_wp2_with fail
    go_ret2
    exact ⟨rfl, rfl⟩
  · have g1 : decide (n < 1) = false := decide_eq_false h
    have g2 : decide (4096 < n) = true := decide_eq_true (by omega)
    clear h h1
    go_enter Try.func11, Try.ntmps11
    go_wp2_with fail
    go_ret2
    exact ⟨rfl, rfl⟩
/-! ### slices.Clone of bytes -/
theorem nums_get (b : List Int) (j : Nat) : (nums .u8 b)[j]? = (b[j]?).map (fun x => .int .u8 x) := by simp [nums]
set_option maxHeartbeats 1000000 in
theorem clone_calls {W : World} {F G : Nat → Prop} {v : Value} {b : List Int} (h : ByteBlk W F v b) (hb : b.length ≤ 4096) (hb0 : 0 < b.length) (hG : ∀ k, W.heap.size ≤ k → G k) :
    Calls Try.prog 26 #[v] W fun e W' => ∃ v', e = .returned v' ∧ ByteBlk W' G v' b ∧ Below W.heap.size W W' := by
  obtain ⟨q, c, cs, rfl, hc, hq, hh, hv⟩ := h
  obtain ⟨i, hi, hz, hs, hby⟩ := info_parts info5
  have q30 : ∀ (w : World) (a : Option Addr) (n c n' c' : Nat), (binOp .eql 30 (.slice a n c) (.slice none n' c')).run Try.prog w = .ok (.bool a.isNone) w := fun w a n c n' c' => Lib.run_eql_slice_nil w _ _ a n c n' c' Try.underlying30
  obtain ⟨news, hnews⟩ : ∃ l, l = nums .u8 b := ⟨_, rfl⟩
  have hl : news.length = b.length := by rw [hnews]; simp [nums]
  have A := Aside0.mk (show ∀ j u, news[j]? = some u → (W.alloc (.cells #[] 5)).cell? ((⟨q, 0, none⟩ : Addr).add j) = some u by
    intro j u hj
    rw [add_plain, blk_cell ((Below.heap_alloc W _ q (blk_lt hh)).trans hh)]
    rw [hnews, nums_get] at hj
    obtain ⟨x, hx, rfl⟩ := Option.map_eq_some_iff.1 hj
    obtain ⟨hlt, rfl⟩ := List.getElem?_eq_some_iff.1 hx
    exact hv j hlt)
  have A1 : Aside0 (∀ u ∈ news, u.oneCell' = true) := ⟨by
    intro u hu
    rw [hnews] at hu
    simp only [nums, List.mem_map] at hu
    obtain ⟨x, _, rfl⟩ := hu
    rfl⟩
  obtain ⟨v', w1, hr, ho, hg, hf⟩ := run_append_own2 (P := Try.prog) (W.alloc (.cells #[] 5)) W.heap.size 30 30 5 i _ 1 1 Try.underlying30 hi hz hs hby rfl (by decide) _ 0 [] (World.ownsRow_made W #[] 0 (Nat.le_refl _) (Nat.zero_le _) (by simp)) ⟨q, 0, none⟩ b.length c news (by omega) A.out A1.out hb0 (by simp only [maxLen]; omega) (by omega) (by simp)
  have HR := Aside0.mk hr
  have B1 := Aside0.mk (((Below.refl W.heap.size W).alloc (Nat.le_refl _) (.cells #[] 5)).grown hg (by simp) (by intro k hk; simp [Value.ownBlock] at hk; omega))
  have R1 : Aside0 (ByteBlk w1 G v' b) := ⟨by
    rw [Nat.zero_add, List.nil_append] at ho
    rcases ho.2 with ⟨_, h0⟩ | ⟨g', cap, cur, rfl, hbase, hh', hle, _, hsz, htk⟩
    · omega
    · refine ⟨g', cap, cur, rfl, ⟨hle, by omega⟩, hG g' hbase, hh', fun j hj => ?_⟩
      have h2 : news[j]? = some (.int .u8 b[j]) := by rw [hnews, nums_get, List.getElem?_eq_getElem hj]; rfl
      rw [← htk, List.getElem?_take] at h2
      split at h2
      · rw [← Array.getElem?_toList]; exact h2
      · cases h2⟩
  clear A A1 hr ho hg hf hnews hl hi hz hs hby hv hh hq hc hG
  go_enter Try.func26, Try.ntmps26
  go_wp2_with (first | (at_builtin; refine wpList_append_ran rfl (.tmp 5) (.tmp 6) 30 rfl _ _ _ rfl rfl HR.out ?_) | fail)
  go_ret
  exact ⟨v', rfl, R1.out, B1.out⟩
end Go.Proofs.Ytgakjpnfbgmjjaa.PA
