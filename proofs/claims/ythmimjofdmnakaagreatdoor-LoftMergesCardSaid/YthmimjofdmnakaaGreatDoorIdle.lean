/- RX: deferred calls that find nothing to recover. -/
import Derived.Test.YthmimjofdmnakaaGreatDoorRun0
import Derived.Test.YthmimjofdmnakaaGreatDoorRxY
import Derived.RecoverIn
import Derived.TacticsIn
namespace Go.Proofs.YthmimjofdmnakaaGreatDoor
namespace RX
theorem neq_nil (w : World) : (binOp .neq 20 .nilIface .nilIface).run Tryz.prog w = .ok (.bool false) w := by kernel_rfl
set_option maxHeartbeats 1000000 in
theorem idle209 : IdleOk Tryz.prog 209 1 := by
  intro args w hk
  refine ⟨?_, fun m => ?_⟩
  · simp [callFunc, go_sem, Tryz.func209, Tryz.f209]
  · obtain ⟨l⟩ := args
    obtain ⟨u, rfl⟩ : ∃ u, l = [u] := by
      match l, hk with
      | [u], _ => exact ⟨u, rfl⟩
    refine callsDIn_of_wpSIn Tryz.func209 rfl trivial fun c₀ cs hu => ?_
    apply wpSIn_seq
    apply wpSIn_region
    simp [wpOpsSIn, go_sem, recoverD, hu, Tryz.ntmps209, Exit.thenS]
    apply wpSIn_seq
    apply wpSIn_region
    simp [wpOpsSIn, go_sem, Exit.thenS, neq_nil w]
    refine wpSIn_cond (t := false) (by simp [Act.eval]) ?_
    simp only [Bool.false_eq_true, if_false]
    refine wpSIn_of_wpIn rfl (wpIn_skip ?_)
    cases c₀
    simp_all [bodyPostS, results, Tryz.results209]
set_option maxHeartbeats 1000000 in
theorem idle200 : IdleOk Tryz.prog 200 2 := by
  intro args w hk
  refine ⟨?_, fun m => ?_⟩
  · simp [callFunc, go_sem, Tryz.func200, Tryz.f200]
  · obtain ⟨l⟩ := args
    obtain ⟨u, v, rfl⟩ : ∃ u v, l = [u, v] := by
      match l, hk with
      | [u, v], _ => exact ⟨u, v, rfl⟩
    refine callsDIn_of_wpSIn Tryz.func200 rfl trivial fun c₀ cs hu => ?_
    apply wpSIn_seq
    apply wpSIn_region
    simp [wpOpsSIn, go_sem, recoverD, hu, Tryz.ntmps200, Exit.thenS]
    apply wpSIn_seq
    apply wpSIn_region
    simp [wpOpsSIn, go_sem, Exit.thenS, neq_nil w]
    refine wpSIn_cond (t := false) (by simp [Act.eval]) ?_
    simp only [Bool.false_eq_true, if_false]
    refine wpSIn_of_wpIn rfl (wpIn_skip ?_)
    cases c₀
    simp_all [bodyPostS, results, Tryz.results200]
end RX
end Go.Proofs.YthmimjofdmnakaaGreatDoor
