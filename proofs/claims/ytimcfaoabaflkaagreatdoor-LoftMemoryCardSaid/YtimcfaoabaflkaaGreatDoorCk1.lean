/- RX: piece 1 of lent, evaluated by the kernel. -/
import Derived.Test.YtimcfaoabaflkaaGreatDoorLit2
namespace Go.Proofs.YtimcfaoabaflkaaGreatDoor
section
namespace RX
noncomputable section
theorem ck1:Ek tm1 keep1 (spn Y 600 5 d0 f0 s0)=some (f1,s1):=Yw
end
end RX
end
section
namespace RX
noncomputable section
theorem ck2:Ek tm2 keep2 (spn Y 600 1 d1 f1 s1)=some (f2,s2):=Yw
end
end RX
end
section
namespace RX
noncomputable section
theorem ck3:Ek tm3 keep3 (spn Y 600 2 d2 f2 s2)=some (f3,s3):=Yw
end
end RX
end
section
namespace RX
noncomputable section
theorem ck4:Ek tm4 keep4 (spn Y 600 2 d3 f3 s3)=some (f4,s4):=Yw
end
end RX
end
end Go.Proofs.YtimcfaoabaflkaaGreatDoor
