/- strickleref09: Order. -/
import Derived.Test.YtimcfaoabaflkaaGreatDoorJDel
import Derived.Lib.Overlaps
import Derived.Lib.AppendZerosOnto
import Derived.Shelf.RegionOpenPlain
namespace Go.Proofs.YtimcfaoabaflkaaGreatDoor
open AbA AbI
set_option maxHeartbeats 16000000
set_option maxRecDepth 100000
open Go.Proofs.Tryz
theorem Xn {P:Prop} (h:P:=by
 have HS1:=hid (ij.takeS HRU k hk);have hkc:k<=co:=Yi;have hkz:(0:Int)<=k:=Yi;have hk3:(k:Int)<=m.length:=Yi;have hk4:(k:Int)<=co:=Yi;clear hbm hgm2 hsz htk hmax
 by_cases hck:co=k
 ·obtain rfl:k=co:=hck.symm;have hmk:m.length=k:=Yi;have HSV:Hid (ij UU (.slice (Yn gm) (m.length - k) 0) (m.drop k)):=hid (by
   rw[List.drop_eq_nil_of_le Yi,hmk,Nat.sub_self];exact ij.nil _ _ _)
  clear HRU;obtain⟨q1,hq1⟩:∃q,UU.heap.size=q:=⟨_,rfl⟩;have HQ:=hid (λu2 (h:Gr UU u2)=>show q1<=u2.heap.size by rw[<-hq1];exact h.b.size);have HQ1:=hid hq1;clear hq1;refine bm [15] (λu2=>Gr UU u2) (λ_=>True) [10,14] (λu2 u3 h g=>h.trans g) (λ_ _ _ _=>trivial) (Yu _) trivial Yh
   [.sat (λv u2=>∃b,v= .slice (Yn b) 0 0/\(q1<=b/\u2.heap[b]?=some (.cells #[] 36 (0,0)))),.val (.slice (Yn gm) m.length k),.val (Yp k),.val (.slice (Yn gm) k k),.sat (λv u2=>u2.ownsRow q1 36 4 v (m.take k).length (rcs (m.take k))),
    .val (.slice (some ⟨g,o,none⟩) l.length cl),.val (Yp i),.val (.pointer (some ⟨g,o+i * 4,none⟩)),.val x.v,.sat (λv u2=>∃b,v= .slice (Yn b) 1 1/\u2.heap[b]?=some (.cells #[Yp x.s,Yp x.k,Yp x.d,.string x.t] 36 (0,0))),
    .turn (λv u2=>u2.ownsRow q1 36 4 v (m.take k ++ [x]).length (rcs (m.take k ++ [x]))) [0,4,9],.val (.slice (Yn gm) m.length k),.val (Yp k),.val (.slice (Yn gm) (m.length - k) 0),.turn (λv u2=>u2.ownsRow q1 36 4 v (m.take k ++ [x] ++ m.drop k).length (rcs (m.take k ++ [x] ++ m.drop k))) [0,4,9,10],.later] Yh Yh (λV=>finT) ?_ ?_
  ·refine⟨?_,?_,?_,?_,?_,?_,?_,?_,?_,?_,?_,?_,?_,?_,?_,?_,trivial⟩
   ·refine⟨λv u2 u3 h g=>?_,λV u2 hu hj hk=>⟨Yh,?_⟩⟩
    ·obtain⟨b,h1,h2,h3⟩:=h;exact⟨b,h1,h2,g.heap h3⟩
    ·have hq:=HQ.out _ hu;go_simp;exact⟨⟨_,rfl,hq,ae _ _⟩,(Yu _).alloc _⟩
   iterate 3 ·(intro V u2 hu hj hk;refine⟨Yh,?_⟩;obtain⟨hc,hf,hz⟩:=hu.cells;go_simp;first | exact⟨rfl,Yu _⟩ | skip)
   ·refine⟨λv u2 u3 h g=>ek h g,λV u2 hu hj hk=>⟨Yh,?_⟩⟩;obtain⟨b,hv,hb1,hb2⟩:=hk 0 (λv u2=>∃b,v= .slice (Yn b) 0 0/\(q1<=b/\u2.heap[b]?=some (.cells #[] 36 (0,0)))) Yh Yh;obtain⟨v',u3,hr,h1,h2⟩:=zd2 u2 q1 22 b hb1 hb2 _ _ (HS1.out.gr hu) (by rw[List.length_take];omega) (HQ.out _ hu);exact ar _ _ 22 22 rfl _ _ hv rfl hr ⟨h1,h2⟩
   iterate 4 ·(intro V u2 hu hj hk;refine⟨Yh,?_⟩;obtain⟨hc,hf,hz⟩:=hu.cells;go_simp;first | exact⟨rfl,Yu _⟩ | skip)
   ·refine⟨λv u2 u3 h g=>?_,λV u2 hu hj hk=>⟨Yh,?_⟩⟩
    ·obtain⟨b,h1,h3⟩:=h;exact⟨b,h1,g.heap h3⟩
    ·go_simp;exact⟨⟨_,rfl,ae _ _⟩,(Yu _).alloc _⟩
   ·refine⟨λv u2 u3 h g=>ek h g,λV u2 hu hj hk=>⟨Yh,?_⟩⟩;refine ju (R:=λu2=>Gr UU u2) (J:=λ_=>True) (dj:=[10,14]) (k:=10) (drop:=[0,4,9]) (V:=V) (u:=u2) Yh Yh ?_;have h4:=hk 4 (λv u2=>u2.ownsRow q1 36 4 v (m.take k).length (rcs (m.take k))) Yh Yh;obtain⟨b,hv,hb⟩:=hk 9 (λv u2=>∃b,v= .slice (Yn b) 1 1/\u2.heap[b]?=some (.cells #[Yp x.s,Yp x.k,Yp x.d,.string x.t] 36 (0,0))) Yh Yh;obtain⟨v',u3,hr,h1,h2⟩:=je u2 q1 22 (V 4) (m.take k) h4 _ [x] (Cm u2 b x hb) (by rw[List.length_take,List.length_singleton];omega) (HQ.out _ hu);exact ar _ _ 22 22 rfl _ _ rfl hv hr ⟨h1,GrL.gr hu h2 (λi hi=>by rw[HQ1.out];exact(h4.lt i (by simpa using hi)).1)⟩
   iterate 3 ·(intro V u2 hu hj hk;refine⟨Yh,?_⟩;obtain⟨hc,hf,hz⟩:=hu.cells;go_simp;first | exact⟨rfl,Yu _⟩ | skip)
   ·refine⟨λv u2 u3 h g=>ek h g,λV u2 hu hj hk=>⟨Yh,?_⟩⟩;refine ju (R:=λu2=>Gr UU u2) (J:=λ_=>True) (dj:=[10,14]) (k:=14) (drop:=[0,4,9,10]) (V:=V) (u:=u2) Yh Yh ?_;have h4:=hk 10 (λv u2=>u2.ownsRow q1 36 4 v (m.take k ++ [x]).length (rcs (m.take k ++ [x]))) Yh Yh;obtain⟨v',u3,hr,h1,h2⟩:=je u2 q1 22 (V 10) (m.take k ++ [x]) h4 _ (m.drop k) (HSV.out.gr hu) (by simp only[List.length_append,List.length_take,List.length_drop,List.length_singleton];omega) (HQ.out _ hu);exact ar _ _ 22 22 rfl _ _ rfl rfl hr ⟨h1,GrL.gr hu h2 (λi hi=>by rw[HQ1.out];exact(h4.lt i (by simpa using hi)).1)⟩
   ·exact trivial
  ·intro V u2 hg2 hs2;have h15:=hs2 14 _ rfl;rw[<-HINS.out]at h15;have HN:=hid (World.ownsRow.mono (base':=w.heap.size) h15 (by rw[<-HQ1.out];exact GU.b.size));have G2:=GU.trans hg2;clear h15 hs2 hg2;refine⟨⟨some 8,_,_,_,_,_⟩,rfl,rfl,?_⟩;generalize V 14=v15 at *;go_simp;refine Fa.fin ?_;go_simp;go_wp2;refine⟨⟨i+1,Yj,Yi,hid (by rw[HST.out];exact HN.out),G2⟩,by simp[intOf];omega⟩
 ·have HSV:Hid (ij UU (.slice (some ⟨gm,k * 4,none⟩) (m.length - k) (co - k)) (m.drop k)):=hid (by
   have:=ij.dropS HRU k _ rfl hk
   rwa [Nat.zero_add]at this)
  clear HRU;obtain⟨q1,hq1⟩:∃q,UU.heap.size=q:=⟨_,rfl⟩;have HQ:=hid (λu2 (h:Gr UU u2)=>show q1<=u2.heap.size by rw[<-hq1];exact h.b.size);have HQ1:=hid hq1;clear hq1;refine bm [15] (λu2=>Gr UU u2) (λ_=>True) [10,14] (λu2 u3 h g=>h.trans g) (λ_ _ _ _=>trivial) (Yu _) trivial Yh
   [.sat (λv u2=>∃b,v= .slice (Yn b) 0 0/\(q1<=b/\u2.heap[b]?=some (.cells #[] 36 (0,0)))),.val (.slice (Yn gm) m.length co),.val (Yp k),.val (.slice (Yn gm) k co),.sat (λv u2=>u2.ownsRow q1 36 4 v (m.take k).length (rcs (m.take k))),
    .val (.slice (some ⟨g,o,none⟩) l.length cl),.val (Yp i),.val (.pointer (some ⟨g,o+i * 4,none⟩)),.val x.v,.sat (λv u2=>∃b,v= .slice (Yn b) 1 1/\u2.heap[b]?=some (.cells #[Yp x.s,Yp x.k,Yp x.d,.string x.t] 36 (0,0))),
    .turn (λv u2=>u2.ownsRow q1 36 4 v (m.take k ++ [x]).length (rcs (m.take k ++ [x]))) [0,4,9],.val (.slice (Yn gm) m.length co),.val (Yp k),.val (.slice (some ⟨gm,k * 4,none⟩) (m.length - k) (co - k)),.turn (λv u2=>u2.ownsRow q1 36 4 v (m.take k ++ [x] ++ m.drop k).length (rcs (m.take k ++ [x] ++ m.drop k))) [0,4,9,10],.later] Yh Yh (λV=>finT) ?_ ?_
  ·refine⟨?_,?_,?_,?_,?_,?_,?_,?_,?_,?_,?_,?_,?_,?_,?_,?_,trivial⟩
   ·refine⟨λv u2 u3 h g=>?_,λV u2 hu hj hk=>⟨Yh,?_⟩⟩
    ·obtain⟨b,h1,h2,h3⟩:=h;exact⟨b,h1,h2,g.heap h3⟩
    ·have hq:=HQ.out _ hu;go_simp;exact⟨⟨_,rfl,hq,ae _ _⟩,(Yu _).alloc _⟩
   iterate 3 ·(intro V u2 hu hj hk;refine⟨Yh,?_⟩;obtain⟨hc,hf,hz⟩:=hu.cells;go_simp;first | exact⟨rfl,Yu _⟩ | skip)
   ·refine⟨λv u2 u3 h g=>ek h g,λV u2 hu hj hk=>⟨Yh,?_⟩⟩;obtain⟨b,hv,hb1,hb2⟩:=hk 0 (λv u2=>∃b,v= .slice (Yn b) 0 0/\(q1<=b/\u2.heap[b]?=some (.cells #[] 36 (0,0)))) Yh Yh;obtain⟨v',u3,hr,h1,h2⟩:=zd2 u2 q1 22 b hb1 hb2 _ _ (HS1.out.gr hu) (by rw[List.length_take];omega) (HQ.out _ hu);exact ar _ _ 22 22 rfl _ _ hv rfl hr ⟨h1,h2⟩
   iterate 4 ·(intro V u2 hu hj hk;refine⟨Yh,?_⟩;obtain⟨hc,hf,hz⟩:=hu.cells;go_simp;first | exact⟨rfl,Yu _⟩ | skip)
   ·refine⟨λv u2 u3 h g=>?_,λV u2 hu hj hk=>⟨Yh,?_⟩⟩
    ·obtain⟨b,h1,h3⟩:=h;exact⟨b,h1,g.heap h3⟩
    ·go_simp;exact⟨⟨_,rfl,ae _ _⟩,(Yu _).alloc _⟩
   ·refine⟨λv u2 u3 h g=>ek h g,λV u2 hu hj hk=>⟨Yh,?_⟩⟩;refine ju (R:=λu2=>Gr UU u2) (J:=λ_=>True) (dj:=[10,14]) (k:=10) (drop:=[0,4,9]) (V:=V) (u:=u2) Yh Yh ?_;have h4:=hk 4 (λv u2=>u2.ownsRow q1 36 4 v (m.take k).length (rcs (m.take k))) Yh Yh;obtain⟨b,hv,hb⟩:=hk 9 (λv u2=>∃b,v= .slice (Yn b) 1 1/\u2.heap[b]?=some (.cells #[Yp x.s,Yp x.k,Yp x.d,.string x.t] 36 (0,0))) Yh Yh;obtain⟨v',u3,hr,h1,h2⟩:=je u2 q1 22 (V 4) (m.take k) h4 _ [x] (Cm u2 b x hb) (by rw[List.length_take,List.length_singleton];omega) (HQ.out _ hu);exact ar _ _ 22 22 rfl _ _ rfl hv hr ⟨h1,GrL.gr hu h2 (λi hi=>by rw[HQ1.out];exact(h4.lt i (by simpa using hi)).1)⟩
   iterate 3 ·(intro V u2 hu hj hk;refine⟨Yh,?_⟩;obtain⟨hc,hf,hz⟩:=hu.cells;go_simp;first | exact⟨rfl,Yu _⟩ | skip)
   ·refine⟨λv u2 u3 h g=>ek h g,λV u2 hu hj hk=>⟨Yh,?_⟩⟩;refine ju (R:=λu2=>Gr UU u2) (J:=λ_=>True) (dj:=[10,14]) (k:=14) (drop:=[0,4,9,10]) (V:=V) (u:=u2) Yh Yh ?_;have h4:=hk 10 (λv u2=>u2.ownsRow q1 36 4 v (m.take k ++ [x]).length (rcs (m.take k ++ [x]))) Yh Yh;obtain⟨v',u3,hr,h1,h2⟩:=je u2 q1 22 (V 10) (m.take k ++ [x]) h4 _ (m.drop k) (HSV.out.gr hu) (by simp only[List.length_append,List.length_take,List.length_drop,List.length_singleton];omega) (HQ.out _ hu);exact ar _ _ 22 22 rfl _ _ rfl rfl hr ⟨h1,GrL.gr hu h2 (λi hi=>by rw[HQ1.out];exact(h4.lt i (by simpa using hi)).1)⟩
   ·exact trivial
  ·intro V u2 hg2 hs2;have h15:=hs2 14 _ rfl;rw[<-HINS.out]at h15;have HN:=hid (World.ownsRow.mono (base':=w.heap.size) h15 (by rw[<-HQ1.out];exact GU.b.size));have G2:=GU.trans hg2;clear h15 hs2 hg2;refine⟨⟨some 8,_,_,_,_,_⟩,rfl,rfl,?_⟩;generalize V 14=v15 at *;go_simp;refine Fa.fin ?_;go_simp;go_wp2;refine⟨⟨i+1,Yj,Yi,hid (by rw[HST.out];exact HN.out),G2⟩,by simp[intOf];omega⟩):P:=h
theorem Xo {P:Prop} (h:P:=by
 refine⟨?_,?_,?_,?_,?_,?_,?_,?_,?_,?_,?_,?_,?_,?_,?_,trivial⟩ <;> (first | exact trivial | exact osGr | (refine⟨osK,?_⟩;intro V u hu hk;refine⟨Yh,aw Yh ?_⟩;obtain⟨hc,hf,hz⟩:=hu.cells;go_simp;skip) | (refine⟨osK,?_⟩;intro V u hu hk;refine⟨Yh,?_⟩;obtain⟨hc,hf,hz⟩:=hu.cells;go_simp;skip) | (intro V u hu hk;refine⟨Yh,?_⟩;obtain⟨hc,hf,hz⟩:=hu.cells;go_simp;first | exact⟨rfl,Yu _⟩ | skip) | (intro V u hu hk;show _=false;kernel_rfl));exact BFK.out _):P:=h
section
open Go.RowKit Go.Shelf Go.Lib
theorem zch (n:Int) (v:Value) (w:World) (hc:(decide (n=3) || decide (n=5))=false):
  Calls prog 16 #[Yp n,v] w λe w'=>e= .returned (.tuple #[.slice none 0 0,Yp 1])/\Gr w w':=by
 have CH:=hid (Y8 n v w hc);clear hc;go_enter func16,ntmps16;go_wp2_with fail;refine CH.out.mono ?_;rintro e w1 ⟨rfl,hg1⟩;go_wp2;go_ret2;exact⟨rfl,hg1⟩
theorem zeQ (n:Int) (v:Value) (i0 e0:Int) (w:World) (h0:e0≠0)
  (hc:∀u,Gr w u->Calls prog 55 #[Yp n,v] u λe w'=>e= .returned (.tuple #[Yp i0,Yp e0])/\Gr u w'):
  Calls prog 18 #[Yp n,v] w λe w'=>e= .returned (.tuple #[.slice none 0 0,Yp e0])/\Gr w w':=by
 have CH:=hid hc;have h1:(e0 == 0)=false:=by simpa using h0
 have h2:decide (e0=0)=false:=by simpa using h0
 clear hc;go_enter func18,ntmps18;go_wp2_with fail;refine(CH.out _ (Yu w)).mono ?_;rintro e w1 ⟨rfl,hg1⟩;go_wp2;go_ret2;exact⟨rfl,hg1⟩
theorem He {α:Type} (P:α->Bool):∀(m:List α) (k:Nat),k<=m.length->(∀j (hj:j < m.length),j < k->P m[j]=true)->(∀h:k < m.length,P m[k]=false)->m.takeWhile P=m.take k/\m.dropWhile P=m.drop k
 | [],k,_,_,_=>by simp
 | a :: m,0,_,_,h=>by
  have h0:=h Yj;simp only[List.getElem_cons_zero]at h0;simp[h0]
 | a :: m,k+1,hk,h1,h2=>by
  have h0:=h1 0 Yj Yi;simp only[List.getElem_cons_zero]at h0;obtain⟨e1,e2⟩:=He P m k (by simpa using hk) (λj hj hjk=>h1 (j+1) (by simpa using hj) Yi) (λh=>h2 (by simpa using h));simp[h0,e1,e2]
theorem Rk {m:List Rc} {x:Rc} {k:Nat} (hk:k<=m.length) (h1:∀j (hj:j < m.length),j < k->m9 m[j] x=true) (h2:∀h:k < m.length,m9 m[k] x=false):n9 m x=m.take k ++ [x] ++ m.drop k:=by
 obtain⟨e1,e2⟩:=He (λa=>m9 a x) m k hk h1 h2;unfold n9;rw[e1,e2]
theorem Th {l:List Rc} {i:Nat} (hi:i < l.length):i7 (l.take (i+1))=n9 (i7 (l.take i)) l[i]:=by
 unfold i7;rw[List.take_succ_eq_append_getElem hi,List.foldl_append];rfl
theorem K9 (l:List Rc) (x:Rc):(n9 l x).length=l.length+1:=by
 have:=(yk l x).length_eq;simpa using this
theorem zao (n:Int) (v:Value) (l:List Rc) (w:World) (hv:ij w v l) (hl:l.length<=1000)
  (hc:∀u,Gr w u->Calls prog 55 #[Yp n,v] u λe w'=>e= .returned (.tuple #[Yp 0,Yp 0])/\Gr u w'):
  Calls prog 18 #[Yp n,v] w λe w'=>∃v',e= .returned (.tuple #[v',Yp 0])/\w'.ownsRow w.heap.size 36 4 v' (i7 l).length (rcs (i7 l))/\Gr w w':=by
 have CH:=hid hc;obtain⟨al,cl,rfl,hcl,hcell⟩:=hv;have HC:=hid hcell;have BF:=hid (λa b w=>Ph a b w);clear hc hcell;go_enter func18,ntmps18;go_wp2_with fail;refine(CH.out _ (Yu w)).mono ?_;rintro e w1 ⟨rfl,hg1⟩;clear CH;go_wp2;go_loopw [8,9,10] (λo q _ wr=>∃i:Nat,q= .int .i64 i/\i<=l.length/\Hid (wr.ownsRow w.heap.size 36 4 o (i7 (l.take i)).length (rcs (i7 (l.take i))))/\Gr w wr) (λ_ q _ _=>l.length - (intOf q).toNat)
 case atStart=>exact⟨0,rfl,Yi,hid (World.ownsRow_nil _ _ _ _),hg1⟩
 case round=>
  obtain⟨i,rfl,hi,HO,gr⟩:=hrel
  by_cases hil:i < l.length
  ·have hil':(i:Int) < l.length:=Yi;have hi0:(0:Int)<=i:=Yi;obtain⟨g,o,rfl,hgl,c0,c1,c2,c3⟩:=HC.out i hil;have HST:=hid (Th hil);have hml:(i7 (l.take i)).length<=1000:=by
    have:∀(l acc:List Rc),(l.foldl n9 acc).length=acc.length+l.length:=λl=>by
     induction l with
     | nil=>intro acc;rfl
     | cons a l ih=>intro acc;rw[List.foldl_cons,ih,K9,List.length_cons];omega
    unfold i7;rw[this,List.length_take];simp;omega
   obtain⟨m,hm⟩:∃m,i7 (l.take i)=m:=⟨_,rfl⟩;rw[hm]at HO HST hml;clear hm;generalize l[i]=x at *;obtain⟨ao,co,rfl⟩:=wc HO.out;have HCO:=hid (qe HO.out).cells.2;go_wp2;go_loopw [10] (λq wr2=>∃k:Nat,q= .int .i64 k/\k<=m.length/\Hid (∀j (hj:j < m.length),j < k->m9 m[j] x=true)/\Gr wr wr2) (λq _=>m.length - (intOf q).toNat)
   case atStart=>exact⟨0,rfl,Yi,hid (λj _ h=>absurd h (Nat.not_lt_zero _)),Yu _⟩
   case round=>
    obtain⟨k,rfl,hk,HB,gi⟩:=hrel;rw[<-(gr.trans gi).cells.1 g _ hgl]at c0 c1 c2 c3;have hzg:g < wr.heap.size:=Nat.lt_of_lt_of_le hgl (gr.trans gi).b.size
    by_cases hkm:k < m.length
    ·have hkm':(k:Int) < m.length:=Yi;have hk0:(0:Int)<=k:=Yi;obtain⟨gx,om,rfl,hgm,d0,d1,d2,d3⟩:=HCO.out k hkm;rw[<-gi.cells.1 gx _ hgm]at d0 d1 d2 d3;have hzm:gx < wr.heap.size:=Nat.lt_of_lt_of_le hgm gi.b.size;obtain⟨bq,hbq⟩:∃b,m9 m[k] x=b:=⟨_,rfl⟩;have BFK:=hid (λw=>BF.out m[k] x w);rw[hbq]at BFK;cases bq
     ·have HE:Hid (∀h:k < m.length,m9 m[k] x=false):=hid (λ_=>hbq);clear hbq;generalize m[k]=y at *;go_wp2_with fail;refine ah [.val (Yp k),.val (.slice (some ⟨gx,om,none⟩) m.length co),.val (Yp m.length),.val (.bool true),.val (.bool true),.val (.slice (some ⟨gx,om,none⟩) m.length co),.val (Yp k),.val (.pointer (some ⟨gx,om+k * 4,none⟩)),.val y.v,.val (.slice (some ⟨g,o,none⟩) l.length cl),.val (Yp i),.val (.pointer (some ⟨g,o+i * 4,none⟩)),.val x.v,.val (.bool false),.val (.bool false)] Yh Yh (λV=>finT) ?_ ?_
      ·exact Xo
      ·intro V UU hg hsx;have GU:=(gr.trans gi).trans hg;have HOU:=hid (ek HO.out (gi.trans hg));rw[<-hg.cells.1 g _ hzg]at c0 c1 c2 c3;have hzg2:g < UU.heap.size:=Nat.lt_of_lt_of_le hzg hg.b.size;clear d0 d1 d2 d3 hzm hgm HCO HO BFK BF hzg hg gi gr hsx;go_simp;go_wp2_with fail;have HINS:Hid (n9 m x=m.take k ++ [x] ++ m.drop k):=hid (Rk hk HB.out HE.out);have HRU:=qe HOU.out;rcases HOU.out.2 with ⟨hv,hmz⟩ | ⟨gm,co',cur,hv,hbm,hgm2,hcap,hmax,hsz,htk⟩
       ·injection hv with ha _ hcc
        cases ha
       ·injection hv with ha _ hcc
        injection ha with ha
        injection ha with ha1 ha2
        obtain rfl:gm=gx:=ha1.symm;subst ha2;subst hcc;have hcm:co<=9223372036854775807:=by unfold maxLen at hmax;omega
        exact Xn
     ·have HB2:Hid (∀j (hj:j < m.length),j < k+1->m9 m[j] x=true):=hid (λj hj h=>by
       rcases Nat.lt_or_ge j k with h2 | h2
       ·exact HB.out j hj h2
       ·obtain rfl:j=k:=Yi;exact hbq)
      clear hbq HB;generalize m[k]=y at *;go_wp2_with fail;refine ah [.val (Yp k),.val (.slice (some ⟨gx,om,none⟩) m.length co),.val (Yp m.length),.val (.bool true),.val (.bool true),.val (.slice (some ⟨gx,om,none⟩) m.length co),.val (Yp k),.val (.pointer (some ⟨gx,om+k * 4,none⟩)),.val y.v,.val (.slice (some ⟨g,o,none⟩) l.length cl),.val (Yp i),.val (.pointer (some ⟨g,o+i * 4,none⟩)),.val x.v,.val (.bool true),.val (.bool true)] Yh Yh (λV=>finT) ?_ ?_
      ·exact Xo
      ·intro V u hg hsx;have gu:=gi.trans hg;clear HCO HO BFK BF;go_simp;go_wp2;refine⟨?_,by simp[intOf];omega⟩
       (repeat apply Exists.intro)
       exact⟨(show Value.int .i64 ((k:Int)+1)= .int .i64 ((k+1:Nat):Int) by simp),Yi,HB2,gu⟩
    ·have hkm':¬(k:Int) < m.length:=Yi;have HE:Hid (∀h:k < m.length,m9 m[k] x=false):=hid (λh=>absurd h hkm);go_wp2_with fail;refine ah [.val (Yp k),.val (.slice ao m.length co),.val (Yp m.length),.val (.bool false),.val (.bool false),.off,.off,.off,.off,.off,.off,.off,.off,.off,.val (.bool false)] Yh Yh (λV=>finT) ?_ ?_
     ·refine⟨?_,?_,?_,?_,?_,?_,?_,?_,?_,?_,?_,?_,?_,?_,?_,trivial⟩ <;> exact osA
     ·intro V UU hg hsx;have GU:=(gr.trans gi).trans hg;have HOU:=hid (ek HO.out (gi.trans hg));rw[<-hg.cells.1 g _ hzg]at c0 c1 c2 c3;have hzg2:g < UU.heap.size:=Nat.lt_of_lt_of_le hzg hg.b.size;clear HCO HO BF hzg hg gi gr hsx;go_simp;go_wp2_with fail;have HINS:Hid (n9 m x=m.take k ++ [x] ++ m.drop k):=hid (Rk hk HB.out HE.out);have HRU:=qe HOU.out;rcases HOU.out.2 with ⟨hv,hmz⟩ | ⟨gm,co',cur,hv,hbm,hgm2,hcap,hmax,hsz,htk⟩
      ·injection hv with ha _ hcc
       subst ha;subst hcc;obtain rfl:=List.eq_nil_of_length_eq_zero hmz;obtain rfl:k=0:=Nat.le_zero.1 hk;have HS1:Hid (ij UU (.slice none 0 0) (([]:List Rc).take 0)):=hid (ij.nil _ _ _);have HSV:Hid (ij UU (.slice none 0 0) (([]:List Rc).drop 0)):=hid (ij.nil _ _ _);clear HRU hmz;obtain⟨q1,hq1⟩:∃q,UU.heap.size=q:=⟨_,rfl⟩;have HQ:=hid (λu2 (h:Gr UU u2)=>show q1<=u2.heap.size by rw[<-hq1];exact h.b.size);have HQ1:=hid hq1;clear hq1;refine bm [15] (λu2=>Gr UU u2) (λ_=>True) [10,14] (λu2 u3 h g=>h.trans g) (λ_ _ _ _=>trivial) (Yu _) trivial Yh
        [.sat (λv u2=>∃b,v= .slice (Yn b) 0 0/\(q1<=b/\u2.heap[b]?=some (.cells #[] 36 (0,0)))),.val (.slice none 0 0),.val (Yp 0),.val (.slice none 0 0),.sat (λv u2=>u2.ownsRow q1 36 4 v (([]:List Rc).take 0).length (rcs (([]:List Rc).take 0))),
         .val (.slice (some ⟨g,o,none⟩) l.length cl),.val (Yp i),.val (.pointer (some ⟨g,o+i * 4,none⟩)),.val x.v,.sat (λv u2=>∃b,v= .slice (Yn b) 1 1/\u2.heap[b]?=some (.cells #[Yp x.s,Yp x.k,Yp x.d,.string x.t] 36 (0,0))),
         .turn (λv u2=>u2.ownsRow q1 36 4 v (([]:List Rc).take 0 ++ [x]).length (rcs (([]:List Rc).take 0 ++ [x]))) [0,4,9],.val (.slice none 0 0),.val (Yp 0),.val (.slice none 0 0),.turn (λv u2=>u2.ownsRow q1 36 4 v (([]:List Rc).take 0 ++ [x] ++ ([]:List Rc).drop 0).length (rcs (([]:List Rc).take 0 ++ [x] ++ ([]:List Rc).drop 0))) [0,4,9,10],.later] Yh Yh (λV=>finT) ?_ ?_
       ·refine⟨?_,?_,?_,?_,?_,?_,?_,?_,?_,?_,?_,?_,?_,?_,?_,?_,trivial⟩
        ·refine⟨λv u2 u3 h g=>?_,λV u2 hu hj hk=>⟨Yh,?_⟩⟩
         ·obtain⟨b,h1,h2,h3⟩:=h;exact⟨b,h1,h2,g.heap h3⟩
         ·have hq:=HQ.out _ hu;go_simp;exact⟨⟨_,rfl,hq,ae _ _⟩,(Yu _).alloc _⟩
        iterate 3 ·(intro V u2 hu hj hk;refine⟨Yh,?_⟩;obtain⟨hc,hf,hz⟩:=hu.cells;go_simp;first | exact⟨rfl,Yu _⟩ | skip)
        ·refine⟨λv u2 u3 h g=>ek h g,λV u2 hu hj hk=>⟨Yh,?_⟩⟩;obtain⟨b,hv,hb1,hb2⟩:=hk 0 (λv u2=>∃b,v= .slice (Yn b) 0 0/\(q1<=b/\u2.heap[b]?=some (.cells #[] 36 (0,0)))) Yh Yh;obtain⟨v',u3,hr,h1,h2⟩:=zd2 u2 q1 22 b hb1 hb2 _ _ (HS1.out.gr hu) (by rw[List.length_take];omega) (HQ.out _ hu);exact ar _ _ 22 22 rfl _ _ hv rfl hr ⟨h1,h2⟩
        iterate 4 ·(intro V u2 hu hj hk;refine⟨Yh,?_⟩;obtain⟨hc,hf,hz⟩:=hu.cells;go_simp;first | exact⟨rfl,Yu _⟩ | skip)
        ·refine⟨λv u2 u3 h g=>?_,λV u2 hu hj hk=>⟨Yh,?_⟩⟩
         ·obtain⟨b,h1,h3⟩:=h;exact⟨b,h1,g.heap h3⟩
         ·go_simp;exact⟨⟨_,rfl,ae _ _⟩,(Yu _).alloc _⟩
        ·refine⟨λv u2 u3 h g=>ek h g,λV u2 hu hj hk=>⟨Yh,?_⟩⟩;refine ju (R:=λu2=>Gr UU u2) (J:=λ_=>True) (dj:=[10,14]) (k:=10) (drop:=[0,4,9]) (V:=V) (u:=u2) Yh Yh ?_;have h4:=hk 4 (λv u2=>u2.ownsRow q1 36 4 v (([]:List Rc).take 0).length (rcs (([]:List Rc).take 0))) Yh Yh;obtain⟨b,hv,hb⟩:=hk 9 (λv u2=>∃b,v= .slice (Yn b) 1 1/\u2.heap[b]?=some (.cells #[Yp x.s,Yp x.k,Yp x.d,.string x.t] 36 (0,0))) Yh Yh;obtain⟨v',u3,hr,h1,h2⟩:=je u2 q1 22 (V 4) (([]:List Rc).take 0) h4 _ [x] (Cm u2 b x hb) (by rw[List.length_take,List.length_singleton];omega) (HQ.out _ hu);exact ar _ _ 22 22 rfl _ _ rfl hv hr ⟨h1,GrL.gr hu h2 (λi hi=>by rw[HQ1.out];exact(h4.lt i (by simpa using hi)).1)⟩
        iterate 3 ·(intro V u2 hu hj hk;refine⟨Yh,?_⟩;obtain⟨hc,hf,hz⟩:=hu.cells;go_simp;first | exact⟨rfl,Yu _⟩ | skip)
        ·refine⟨λv u2 u3 h g=>ek h g,λV u2 hu hj hk=>⟨Yh,?_⟩⟩;refine ju (R:=λu2=>Gr UU u2) (J:=λ_=>True) (dj:=[10,14]) (k:=14) (drop:=[0,4,9,10]) (V:=V) (u:=u2) Yh Yh ?_;have h4:=hk 10 (λv u2=>u2.ownsRow q1 36 4 v (([]:List Rc).take 0 ++ [x]).length (rcs (([]:List Rc).take 0 ++ [x]))) Yh Yh;obtain⟨v',u3,hr,h1,h2⟩:=je u2 q1 22 (V 10) (([]:List Rc).take 0 ++ [x]) h4 _ (([]:List Rc).drop 0) (HSV.out.gr hu) (by simp only[List.length_append,List.length_take,List.length_drop,List.length_singleton];omega) (HQ.out _ hu);exact ar _ _ 22 22 rfl _ _ rfl rfl hr ⟨h1,GrL.gr hu h2 (λi hi=>by rw[HQ1.out];exact(h4.lt i (by simpa using hi)).1)⟩
        ·exact trivial
       ·intro V u2 hg2 hs2;have h15:=hs2 14 _ rfl;rw[<-HINS.out]at h15;have HN:=hid (World.ownsRow.mono (base':=w.heap.size) h15 (by rw[<-HQ1.out];exact GU.b.size));have G2:=GU.trans hg2;clear h15 hs2 hg2;refine⟨⟨some 8,_,_,_,_,_⟩,rfl,rfl,?_⟩;generalize V 14=v15 at *;go_simp;refine Fa.fin ?_;go_simp;go_wp2;refine⟨⟨i+1,Yj,Yi,hid (by rw[HST.out];exact HN.out),G2⟩,by simp[intOf];omega⟩
      ·injection hv with ha _ hcc
       subst ha;subst hcc;have hcm:co<=9223372036854775807:=by unfold maxLen at hmax;omega
       exact Xn
  ·have hil':¬(i:Int) < l.length:=Yi;obtain rfl:i=l.length:=Yi;rw[List.take_length]at HO;go_wp2;go_ret2;exact⟨_,rfl,HO.out,gr⟩
end
section
def Down (n:Int) (l:List Rc):Prop:=∀x∈l,okR n x=true/\(x.k=1\/∃p∈l,p.s=x.s/\p.k+1=x.k/\p.d<=x.d)
abbrev Fd (n:Int) (l:List Rc):Prop:=∀j,j < l.length->kw n l j=0
theorem Rr {n:Int} {l:List Rc} (h:Fd n l):Down n l:=λx hx=>by
 obtain⟨j,hj,rfl⟩:=List.mem_iff_getElem.1 hx;have hok:=Jb hj (h j hj);refine⟨hok,?_⟩;cases j with
 | zero=>
  have:=h 0 hj;rw[show kw n l 0=kr n none l[0]from Pb hj]at this;exact Or.inl (Pa this)
 | succ j=>
  have:=h (j+1) hj;rw[Ja hj]at this;rcases Wq this with ⟨h1,h2⟩ | ⟨_,h2⟩
  ·refine Or.inr ⟨l[j],List.getElem_mem _,h1.symm,h2.symm,?_⟩;rw[O5 hok h1 Yi,if_pos h2]at this
   by_cases hd:l[j+1].d < l[j].d
   ·rw[if_pos hd]at this;cases this
   ·omega
  ·exact Or.inl h2
theorem allok_s {n:Int} {l:List Rc} (h:Fd n l):∀x∈l,0<=x.s/\x.s<=n - 1/\1<=x.k:=λx hx=>by
 have:=Ki (Rr h x hx).1;omega
theorem Gp {n:Int} (l:List Rc):((ot n l).2=0->ot n l=(0,0)/\Fd n l):=λh=>by
 have:=Wr h;exact⟨Bw this,this⟩
theorem Xl {n:Int} {l:List Rc} (h:Fd n l):ot n l=(0,0):=Bw h
end
section
open Go.RowKit Go.Shelf
def mny (n:Int):Bool:=decide (n=3) || decide (n=5)
theorem De {n:Int} (h:mny n=true):3<=n/\n<=5:=by
 unfold mny at h;simp only[Bool.or_eq_true,decide_eq_true_eq]at h;omega
def cR (n:Int) (l:List Rc):Int×Int:=if mny n=true then ot n l else(0,1)
def oR (n:Int) (l:List Rc):Int×List Rc:=if (cR n l).2=0 then(0,i7 l)else((cR n l).2,[])
def sR (n:Int) (l:List Rc) (f:Nat->Int):Int×List Rc:=if (cR n l).2=0 then(0,zeb f l)else((cR n l).2,[])
theorem zcw {n:Int} {l:List Rc} (h:(cR n l).2=0):mny n=true/\cR n l=(0,0)/\Fd n l:=by
 unfold cR at h ⊢;cases hm:mny n with
 | false=>rw[hm]at h;cases h
 | true=>
  rw[hm]at h;simp only[if_true]at h ⊢;exact⟨trivial,(Gp l h).1,(Gp l h).2⟩
theorem zdZ (n:Int) (v:Value) (l:List Rc) (w:World) (hr:ij w v l) (hl:l.length<=1000) (ht:∀x∈l,x.t.size<=1000):
  Calls prog 39 #[Yp n,v] w λe w'=>e= .returned (.tuple #[Yp (cR n l).1,Yp (cR n l).2])/\Gr w w':=by
 unfold cR;cases hm:mny n with
 | false=>exact Y8 n v w hm
 | true=>
  have:=De hm;exact Fb n v l w Yi Yi hr Yi (λx hx=>by have:=ht x hx;omega) hm
theorem zeR (n:Int) (v:Value) (l:List Rc) (w:World) (hr:ij w v l) (hl:l.length<=1000) (ht:∀x∈l,x.t.size<=1000):
  Calls prog 55 #[Yp n,v] w λe w'=>e= .returned (.tuple #[Yp (cR n l).1,Yp (cR n l).2])/\Gr w w':=by
 unfold cR;cases hm:mny n with
 | false=>exact Ns n v w hm
 | true=>
  have:=De hm;exact Kd n v l w Yi Yi hr Yi (λx hx=>by have:=ht x hx;omega) hm
def zeL (r:Int×List Rc) (w:World) (e:Ending) (w':World):Prop:=∃v',e= .returned (.tuple #[v',Yp r.1])/\w'.ownsRow w.heap.size 36 4 v' r.2.length (rcs r.2)/\Gr w w'
theorem zeL.no {w:World} {e0:Int} {e:Ending} {w':World} (h:e= .returned (.tuple #[.slice none 0 0,Yp e0])/\Gr w w'):zeL (e0,[]) w e w':=⟨_,h.1,World.ownsRow_nil _ _ _ _,h.2⟩
theorem Ord_is (n:Int) (v:Value) (l:List Rc) (w:World) (hr:ij w v l) (hl:l.length<=1000) (ht:∀x∈l,x.t.size<=1000):
  Calls prog 16 #[Yp n,v] w (zeL (oR n l) w):=by
 unfold oR
 by_cases h:(cR n l).2=0
 ·rw[if_pos h];obtain⟨hm, -,ha⟩:=zcw h;have:=De hm;refine(OrdA_is n v l w Yi Yi hr Yi (λx hx=>by have:=ht x hx;omega) hm (Xl ha)).mono ?_;rintro e w' ⟨v',h1,h2,h3⟩;exact⟨v',h1,h2,h3⟩
 ·rw[if_neg h];cases hm:mny n with
  | false=>
   have e1:cR n l=(0,1):=by unfold cR;rw[hm];rfl
   rw[e1];exact(zch n v w hm).mono λe w' h=>zeL.no h
  | true=>
   have e1:cR n l=ot n l:=by unfold cR;rw[if_pos hm]
   rw[e1]at h ⊢;have:=De hm;exact(zeT n v l w Yi Yi hr Yi (λx hx=>by have:=ht x hx;omega) hm _ _ rfl h).mono λe w' h=>zeL.no h
theorem rOrd_is (n:Int) (v:Value) (l:List Rc) (w:World) (hr:ij w v l) (hl:l.length<=1000) (ht:∀x∈l,x.t.size<=1000):
  Calls prog 18 #[Yp n,v] w (zeL (oR n l) w):=by
 have hc:=λu (g:Gr w u)=>zeR n v l u (hr.gr g) hl ht;unfold oR
 by_cases h:(cR n l).2=0
 ·rw[if_pos h];obtain⟨hm,he,ha⟩:=zcw h;rw[he]at hc;refine(zao n v l w hr hl hc).mono ?_;rintro e w' ⟨v',h1,h2,h3⟩;exact⟨v',h1,h2,h3⟩
 ·rw[if_neg h];exact(zeQ n v _ _ w h hc).mono λe w' h=>zeL.no h
theorem Mis_is (n:Int) (v:Value) (l:List Rc) (a0 a1 a2 a3 a4:Int) (w:World) (hr:ij w v l) (hl:l.length<=1000) (ht:∀x∈l,x.t.size<=1000):
  Calls prog 17 #[Yp n,v,zeM a0 a1 a2 a3 a4] w (zeL (sR n l (hav a0 a1 a2 a3 a4)) w):=by
 have hc:=λu (g:Gr w u)=>zdZ n v l u (hr.gr g) hl ht;unfold sR
 by_cases h:(cR n l).2=0
 ·rw[if_pos h];obtain⟨hm,he,ha⟩:=zcw h;have hn:=De hm;rw[he]at hc;refine(zeK n v l a0 a1 a2 a3 a4 w hr Yi (λj hj=>by have:=allok_s ha l[j] (List.getElem_mem hj);omega) hc).mono ?_;rintro e w' ⟨v',h1,h2,h3⟩;exact⟨v',h1,h2,h3⟩
 ·rw[if_neg h];exact(zeO n v a0 a1 a2 a3 a4 _ _ w h hc).mono λe w' h=>zeL.no h
theorem C8 (l:List Rc):(i7 l).length=l.length:=by
 have:∀(l acc:List Rc),(l.foldl n9 acc).length=acc.length+l.length:=λl=>by
  induction l with
  | nil=>intro acc;rfl
  | cons a l ih=>intro acc;rw[List.foldl_cons,ih,K9,List.length_cons];omega
 unfold i7;rw[this];simp
theorem oR_len (n:Int) (l:List Rc):(oR n l).2.length<=l.length:=by
 unfold oR;split
 ·exact Nat.le_of_eq (C8 l)
 ·exact Nat.zero_le _
theorem sR_len (n:Int) (l:List Rc) (f:Nat->Int):(sR n l f).2.length<=l.length:=by
 unfold sR;split
 ·exact ze5 f l
 ·exact Nat.zero_le _
theorem zeJ (v v2:Value) (l:List Rc) (w:World) (hv:ij w v l) (hv2:ij w v2 l) (hl:l.length<=1000):
  Calls prog 19 #[v,v2] w λe w'=>e= .returned (.bool true)/\Gr w w':=by
 have:=ze6 v v2 l l w hv hv2 Yi Yi;rw[decide_eq_true (rfl:l=l)]at this;exact this
end
end Go.Proofs.YtimcfaoabaflkaaGreatDoor
