/- RX: piece 5 of lent, evaluated by the kernel. -/
import Derived.Test.YthmimjofdmnakaaGreatDoorLit2
namespace Go.Proofs.YthmimjofdmnakaaGreatDoor
section
namespace RX
noncomputable section
theorem ck5 : cutR tm5 keep5 (spn Y 600 3 d4 f4 s4) = some (f5, s5) := by kernel_rfl
end
end RX
end
section
namespace RX
noncomputable section
theorem ck6 : cutR tm6 keep6 (spn Y 600 2 d5 f5 s5) = some (f6, s6) := by kernel_rfl
end
end RX
end
section
namespace RX
noncomputable section
theorem ck7 : cutR tm7 keep7 (spn Y 600 3 d6 f6 s6) = some (f7, s7) := by kernel_rfl
end
end RX
end
section
namespace RX
noncomputable section
theorem ck8 : cutR tm8 keep8 (spn Y 600 1 d7 f7 s7) = some (f8, s8) := by kernel_rfl
end
end RX
end
end Go.Proofs.YthmimjofdmnakaaGreatDoor
