import Derived.Test.YtgakjpnfbgmjjaaL7
import Derived.RangeFuncBox
import Derived.RangeFuncLeaves
import Derived.RangeFuncNested
import Derived.RangeFuncBound
import Derived.RangeFuncCalls
import Derived.Shelf.Abstract
import Derived.WalkKit
import Derived.OwnWalkIn
import Derived.TacticsInMore
import Derived.LoopNIn
import Derived.LoopIn
import Derived.Deep.Slices
import Derived.SizedLaws
import Derived.IntWalk
import Derived.ArgAppend
namespace Go.Proofs.Ytgakjpnfbgmjjaa.PA
open Go.RowKit Go.Proofs.YtgakjpnfbgmjjaaW.PrintWords Go.Proofs.YtgakjpnfbgmjjaaW.PrintLast Go.Proofs.YtgakjpnfbgmjjaaW.PrintMore
set_option linter.unusedVariables false
set_option linter.unusedSimpArgs false
/-! ### known -/
set_option maxHeartbeats 1000000 in
theorem known_calls (W : World) : Calls Try.prog 10 #[] W fun e W' => e = .returned (.bool true) ∧ Below W.heap.size W W' := by
  go_enter Try.func10, Try.ntmps10
  go_wp2_with fail
  refine (devB_new 2 (by decide) (by decide) W 2 rfl).mono ?_
  rintro e wa ⟨g, rfl, hD, hB⟩
  have D0 := Aside0.mk hD
  have B0 := Aside0.mk hB
  clear hD hB
  go_wp2_with fail
  refine (devB_size D0.out 2 (by simp [FSt.new])).mono ?_
  rintro e w1 ⟨rfl, rfl⟩
  go_wp2_with fail
  refine (bytes_calls 7 0 _).mono ?_
  rintro e wb ⟨A1, c1, rfl, hb, hB⟩
  rw [bytesN_zero] at hb ⊢
  have X1 := Aside0.mk (hb (by decide))
  have B1 := Aside0.mk (B0.out.trans (hB.mono B0.out.size))
  have D1 := Aside0.mk (D0.out.below hB)
  clear hb hB
  have S1 : Aside0 ((FSt.new 2).write 1 (bytesL 7 0) = ({ FSt.new 2 with waits := [(1, bytesL 7 0)] }, 0)) := ⟨by
    rw [FSt.write_on rfl (by rw [FSt.new_isIn]; rfl) (bytesL_len 7)]
    rfl⟩
  go_wp2_with fail
  refine (devB_write D1.out (by simp [FSt.new]) 1 A1 256 c1 (bytesL 7 0) (bytesL_len 7).symm (fun _ => X1.out.move (fun _ _ _ _ => rfl) (fun _ _ _ => trivial))).mono ?_
  rintro e wc ⟨rfl, hD, hB⟩
  rw [S1.out] at hD ⊢
  have D2 := Aside0.mk hD
  have B2 := Aside0.mk (B1.out.trans hB)
  clear hD hB
  go_wp2_with fail
  refine (devB_flush D2.out).mono ?_
  rintro e wd ⟨rfl, hD, hB⟩
  have D3 := Aside0.mk hD
  have B3 := Aside0.mk (B2.out.trans hB)
  have F2 : Aside0 ((({ FSt.new 2 with waits := [(1, bytesL 7 0)] } : FSt).flush).2 = 0) := ⟨FSt.flush_on rfl⟩
  rw [F2.out]
  obtain ⟨S3, hS3⟩ : ∃ S3, S3 = ({ FSt.new 2 with waits := [(1, bytesL 7 0)] } : FSt).flush.1 := ⟨_, rfl⟩
  rw [← hS3] at D3
  have R3 : Aside0 ((S3.crash []).read 1 = (bytesL 7 0, 0)) := ⟨by rw [hS3]; rfl⟩
  clear hD hB hS3
  go_wp2_with fail
  refine (devB_crash D3.out _ [] (IntBlk.nil _)).mono ?_
  rintro e we ⟨rfl, hD, hB⟩
  have D4 := Aside0.mk hD
  have B4 := Aside0.mk (B3.out.trans hB)
  clear hD hB
  go_wp2_with fail
  refine (devB_read D4.out 1 _ R3.out).mono ?_
  rintro e wf ⟨A5, c5, rfl, hv, -, hB⟩
  have V5 := Aside0.mk hv
  have B5 := Aside0.mk (B4.out.trans (hB.mono B4.out.size))
  rw [bytesL_len 7] at V5 ⊢
  clear hv hB
  go_wp2_with fail
  go_region_held (fun w1 => Below wf.heap.size wf w1 ∧ (∀ c, (convert 30 9 (.slice A5 256 c)).run Try.prog w1 = .ok (.string (strOfNums (bytesL 7 0))) w1))
    (first
      | exact ⟨Below.drew (Below.refl _ _), V5.out _ (Below.drew (Below.refl _ _))⟩
      | exact ⟨pw_below_drewN (Below.refl _ _) _, V5.out _ (pw_below_drewN (Below.refl _ _) _)⟩
      | exact (by go_split_ands; assumption)
      | exact ⟨SB1.out, V5.out _ SB1.out⟩
      | fail)
    (first
      | (go_at_call 13; refine (bytes_calls 7 0 _).mono ?_; rintro e w1 ⟨A6, c6, rfl, hb, hB1⟩; rw [bytesN_zero] at hb ⊢; obtain ⟨q6, k6, hq6, -, -, -, hC6⟩ := (hb (by decide)).reads; rw [Value.slice.injEq] at hq6; obtain ⟨rfl, -, -⟩ := hq6; rw [bytesL_len 7] at hC6; have SB1 : Aside0 (Below wf.heap.size wf w1) := ⟨by go_split_ands; exact Below.trans (by assumption) (hB1.mono (Below.size (by assumption)))⟩; have hv6 : ∀ c, (convert 30 9 (.slice (some ⟨q6, 0, none⟩) 256 c)).run Try.prog w1 = .ok (.string (strOfNums (bytesL 7 0))) w1 := fun c => Kd.C_string (P := Try.prog) Try.underlying30 Try.underlying5 Try.underlying9 hC6; clear hB1 hb hC6)
      | fail)
  go_wp2
  go_ret
  exact ⟨rfl, B5.out.trans (SB1.out.mono B5.out.size)⟩
end Go.Proofs.Ytgakjpnfbgmjjaa.PA
