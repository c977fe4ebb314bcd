/- RX: piece 5 of lent, evaluated by the kernel. -/
import Derived.Test.YtimcfaoabaflkaaGreatDoorLit2
namespace Go.Proofs.YtimcfaoabaflkaaGreatDoor
section
namespace RX
noncomputable section
theorem ck5:Ek tm5 keep5 (spn Y 600 3 d4 f4 s4)=some (f5,s5):=Yw
end
end RX
end
section
namespace RX
noncomputable section
theorem ck6:Ek tm6 keep6 (spn Y 600 2 d5 f5 s5)=some (f6,s6):=Yw
end
end RX
end
section
namespace RX
noncomputable section
theorem ck7:Ek tm7 keep7 (spn Y 600 3 d6 f6 s6)=some (f7,s7):=Yw
end
end RX
end
section
namespace RX
noncomputable section
theorem ck8:Ek tm8 keep8 (spn Y 600 1 d7 f7 s7)=some (f8,s8):=Yw
end
end RX
end
end Go.Proofs.YtimcfaoabaflkaaGreatDoor
