/- RX: piece 9 of lent, evaluated by the kernel. -/
import Derived.Test.YthmimjofdmnakaaGreatDoorLit2
namespace Go.Proofs.YthmimjofdmnakaaGreatDoor
section
namespace RX
noncomputable section
theorem ck9 : cutR tm9 keep9 (spn Y 600 3 d8 f8 s8) = some (f9, s9) := by kernel_rfl
end
end RX
end
section
namespace RX
noncomputable section
theorem ck10 : cutR tm10 keep10 (spn Y 600 1 d9 f9 s9) = some (f10, s10) := by kernel_rfl
end
end RX
end
section
namespace RX
noncomputable section
def ended (x : Option (Ex × Fr × St)) : Bool := match x with
  | some (.ret, fr, s) => match leaveA Y.idle fr.df s with
    | some s2 => match resA Y.M.E fr.t F8.results.toList s2 with
      | some ([.bool true], s3) => Nat.beq (s3.wr % 256) 0
      | _ => false
    | none => false
  | _ => false
theorem ck11 : ended ((run Y 600).code false f10 d10 s10) = true := by kernel_rfl
end
end RX
end
end Go.Proofs.YthmimjofdmnakaaGreatDoor
