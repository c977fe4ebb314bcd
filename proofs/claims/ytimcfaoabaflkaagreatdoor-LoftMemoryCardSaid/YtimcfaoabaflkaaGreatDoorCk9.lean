/- RX: piece 9 of lent, evaluated by the kernel. -/
import Derived.Test.YtimcfaoabaflkaaGreatDoorLit2
namespace Go.Proofs.YtimcfaoabaflkaaGreatDoor
section
namespace RX
noncomputable section
theorem ck9:Ek tm9 keep9 (spn Y 600 3 d8 f8 s8)=some (f9,s9):=Yw
end
end RX
end
section
namespace RX
noncomputable section
theorem ck10:Ek tm10 keep10 (spn Y 600 1 d9 f9 s9)=some (f10,s10):=Yw
end
end RX
end
section
namespace RX
noncomputable section
def ended (x:Option (Ex×Fr×St)):Bool:=match x with
 | some (.ret,fr,s)=>match ue Y.idle fr.df s with
  | some s2=>match Nm Y.M.E fr.t F8.results.toList s2 with
   | some ([.bool true],s3)=>Nat.beq (s3.wr % 256) 0
   | _=>false
  | none=>false
 | _=>false
theorem ck11:ended ((run Y 600).code false f10 d10 s10)=true:=Yw
end
end RX
end
end Go.Proofs.YtimcfaoabaflkaaGreatDoor
