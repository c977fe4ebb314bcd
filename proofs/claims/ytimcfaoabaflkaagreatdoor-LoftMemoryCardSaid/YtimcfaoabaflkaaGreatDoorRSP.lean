/- reference: texts of solids, plainly: reading byte by byte what is written. -/
import Derived.Test.YtimcfaoabaflkaaGreatDoorLPar
namespace Go.Proofs.YtimcfaoabaflkaaGreatDoor
open AbA AbI
set_option maxHeartbeats 2000000
set_option maxRecDepth 100000
open Go.Proofs.Tryz
section
open Go.RowKit Go.Shelf Go.Lib
theorem Lf {l:List Nat} {i:Nat} (h:i < l.length):l.getD i 0=l[i]:=by simp[List.getD,h]
def Ei (c:UInt8):Int×Bool:=if 48<=c.toNat/\c.toNat<=57 then((c.toNat:Int) - 48,true)else(IntKind.u64.wrap ((IntKind.u8.wrap ((c.toNat:Int) - 97))+10),decide (97<=c.toNat/\c.toNat<=102))
def jw (q:Nat×List Nat) (c:UInt8):Option (Nat×List Nat):=
 if c=46 then some (q.1+1,q.2)
 else if (Ei c).2=false\/7 < q.1\/2 ^ 60<=q.2.getD q.1 0 then none
 else some (q.1,q.2.set q.1 (16 * q.2.getD q.1 0+(Ei c).1.toNat))
def ib:Option (Nat×List Nat)->List UInt8->Option (Nat×List Nat)
 | none,_=>none
 | some q,[]=>some q
 | some q,c :: r=>ib (jw q c) r
theorem od (l:List UInt8):ib none l=none:=by cases l <;> rfl
theorem jl:∀(l m:List UInt8) (o:Option (Nat×List Nat)),ib o (l ++ m)=ib (ib o l) m
 | l,m,none=>by rw[od,od,od]
 | [],m,some q=>rfl
 | c :: l,m,some q=>jl l m (jw q c)
theorem digV_D:∀{d:Nat} (_:d < 16),Ei (j0 d)=((d:Int),true):=by
 intro d h;have:∀k:Fin 16,Ei (j0 k.1)=((k.1:Int),true):=Yk;exact this ⟨d,h⟩
theorem Qe {z:Nat} {out:List Nat} {d:Nat} (hd:d < 16) (hz:z<=7) (ho:out.getD z 0 < 2 ^ 60):jw (z,out) (j0 d)=some (z,out.set z (16 * out.getD z 0+d)):=by
 unfold jw;rw[if_neg (ug hd),digV_D hd,if_neg]
 ·simp
 ·simp only[not_or];exact⟨Yj,Yi,Yi⟩
theorem ym:∀(k n:Nat),n<=k->n < 2 ^ 64->∀(z:Nat) (out:List Nat),z<=7->out.length=8->out.getD z 0=0->ib (some (z,out)) (cf n)=some (z,out.set z n)
 | k,n,hk,hn,z,out,hz,hl,h0=>by
  by_cases h16:n < 16
  ·rw[lp h16];show ib (jw (z,out) (j0 n)) []=_;rw[Qe h16 hz (by rw[h0];decide),h0];simp[ib]
  ·cases k with
   | zero=>omega
   | succ k=>
    rw[m6 Yi hn,jl,ym k (n / 16) Yi Yi z out hz hl h0];show ib (jw (z,out.set z (n / 16)) (j0 (n % 16))) []=_;have hg:(out.set z (n / 16)).getD z 0=n / 16:=by simp[List.getD,show z < out.length by omega]
    rw[Qe Yi hz (by rw[hg];omega),hg,List.set_set];have:16 * (n / 16)+n % 16=n:=Yi;rw[this];rfl
def Tc (out:List Nat):Nat->List Nat->List Nat
 | _,[]=>out
 | z,n :: r=>Tc (out.set z n) (z+1) r
theorem Kg:∀(P:List Nat) (z:Nat) (out:List Nat),(Tc out z P).length=out.length
 | [],z,out=>rfl
 | n :: r,z,out=>by rw[Tc,Kg r];simp
theorem Qo:∀(P:List Nat) (z:Nat) (out:List Nat) (i:Nat),i < out.length->(Tc out z P).getD i 0=if z<=i/\i < z+P.length then P.getD (i - z) 0 else out.getD i 0
 | [],z,out,i,hi=>by
  rw[if_neg Yj];rfl
 | n :: r,z,out,i,hi=>by
  rw[Tc,Qo r (z+1) (out.set z n) i (by simpa using hi)]
  by_cases h1:z+1<=i/\i < z+1+r.length
  ·rw[if_pos h1,if_pos (by simp;omega)];obtain⟨j,hj⟩:∃j,i - z=j+1:=⟨i - z - 1,Yi⟩;rw[hj,show i - (z+1)=j by omega];simp
  ·rw[if_neg h1]
   by_cases h2:i=z
   ·subst h2;rw[if_pos Yj];simp[List.getD,hi]
   ·rw[if_neg (by simp;omega)];simp[List.getD,List.getElem?_set_ne (Ne.symm h2)]
theorem D9:∀(P:List Nat) (z:Nat) (out:List Nat),P≠[]->(∀n∈P,n < 2 ^ 64)->z+P.length<=8->out.length=8->(∀i,z<=i->out.getD i 0=0)->
  ∃z',ib (some (z,out)) (join (P.map cf) [46])=some (z',Tc out z P)
 | [],_,_,h,_,_,_,_=>absurd rfl h
 | [n],z,out,_,hb,hz,hl,h0=>by
  refine⟨z,?_⟩;rw[List.map_singleton,join_one,ym n n (Yv _) (hb n Yj) z out (by simp at hz;omega) hl (h0 z (Yv _))];rfl
 | n :: m :: r,z,out,_,hb,hz,hl,h0=>by
  simp only[List.length_cons]at hz;rw[List.map_cons,List.map_cons,m5,jl,ym n n (Yv _) (hb n Yj) z out Yi hl (h0 z (Yv _))];show∃z',ib (jw (z,out.set z n) 46) _=_;have e:jw (z,out.set z n) 46=some (z+1,out.set z n):=rfl;rw[e];obtain⟨z',hz'⟩:=D9 (m :: r) (z+1) (out.set z n) Yj (λx hx=>hb x (List.mem_cons_of_mem _ hx)) (by simp only[List.length_cons];omega) (by simpa using hl) (λi hi=>by
   have:=h0 i Yi;have e:(out.set z n).getD i 0=out.getD i 0:=by simp[List.getD,List.getElem?_set_ne (show z≠i by omega)]
   rw[e,this])
  exact⟨z',hz'⟩
theorem zee {P:List Nat} (hP:P.length=8) (hb:∀n∈P,n < 2 ^ 64):∃z,ib (some (0,[0,0,0,0,0,0,0,0])) (dg P)=some (z,P):=by
 have hk8:=rs P 8;have hk1:=qr (P:=P) 8 Yi;have hl:(P.take (gj P 8)).length=gj P 8:=by rw[List.length_take];omega
 obtain⟨z,hz⟩:=D9 (P.take (gj P 8)) 0 [0,0,0,0,0,0,0,0] (λe=>by rw[e]at hl;simp at hl;omega) (λn hn=>hb n (List.mem_of_mem_take hn)) Yi rfl (λi _=>by
  by_cases hi:i < 8
  ·rcases(by omega:i=0\/i=1\/i=2\/i=3\/i=4\/i=5\/i=6\/i=7)with rfl | rfl | rfl | rfl | rfl | rfl | rfl | rfl <;> rfl
  ·simp[List.getD,List.getElem?_eq_none (show [0,0,0,0,0,0,0,(0:Nat)].length<=i by simp;omega)])
 refine⟨z,?_⟩;unfold dg;rw[hz];congr 2;apply List.ext_getElem
 ·rw[Kg,hP];rfl
 ·intro i h1 h2;have h8:i < 8:=by rw[hP]at h2;exact h2
  have:=Qo (P.take (gj P 8)) 0 [0,0,0,0,0,0,0,0] i (by simpa using h8);rw[Lf h1]at this;rw[this]
  by_cases hi:i < gj P 8
  ·rw[if_pos Yi];simp[List.getD,hi,h2]
  ·rw[if_neg Yi];have h3:=yx (P:=P) 8 i Yi h8;rw[Lf h2]at h3;rw[h3];rcases(by omega:i=0\/i=1\/i=2\/i=3\/i=4\/i=5\/i=6\/i=7)with rfl | rfl | rfl | rfl | rfl | rfl | rfl | rfl <;> rfl
end
section
section
open Go.RowKit Go.Shelf
theorem Jz (sep:ByteArray) (save:Nat):∀(k:Nat) (s:ByteArray),∀x∈Lib.splitB sep save k s,x.size<=s.size
 | 0,s,x,hx=>by
  rw[Lib.splitB_zero]at hx;simp at hx;subst hx;omega
 | k+1,s,x,hx=>by
  unfold Lib.splitB at hx;split at hx
  ·simp at hx;subst hx;omega
  ·rcases List.mem_cons.1 hx with rfl | hx
   ·rw[ByteArray.size_extract];omega
   ·have:=Jz sep save k _ x hx;rw[ByteArray.size_extract]at this;omega
theorem um (c:UInt8):∀l:List UInt8,c∉l\/∃a m,c∉a/\l=a ++ c :: m
 | []=> .inl Yj
 | b :: l=>by
  by_cases h:b=c
  ·exact .inr ⟨[],l,Yj,by simp[h]⟩
  ·rcases um c l with h1 | ⟨a,m,h1,h2⟩
   ·exact .inl (by simp[h1,Ne.symm h])
   ·exact .inr ⟨b :: a,m,by simp[h1,Ne.symm h],by simp[h2]⟩
theorem Fz {c:UInt8} {l:List UInt8} (k:Nat) (h:c∉l):Lib.splitK [c] 0 k l=[l]:=by
 cases k with
 | zero=>rfl
 | succ k=>
  unfold Lib.splitK;rw[indexc_no c l h];rfl
theorem rg {c:UInt8} {a m:List UInt8} (k:Nat) (h:c∉a):Lib.splitK [c] 0 (k+1) (a ++ c :: m)=a :: Lib.splitK [c] 0 k m:=by
 unfold Lib.splitK;rw[indexc_at c a m h];have e:((a.length:Int) == -1)=false:=beq_eq_false_iff_ne.2 Yi;rw[e,if_neg Yj];have e1:((a.length:Int)).toNat=a.length:=Yj;have e2:(a ++ c :: m).take (a.length+0)=a:=Yj;have e3:(a ++ c :: m).drop (a.length+([c]:List UInt8).length)=m:=by
  rw[<-List.drop_drop,List.drop_left];rfl
 rw[e1,e2,e3];cases k <;> rfl
theorem Lv (n:Nat):(32:UInt8)∉Lib.decDigits n:=λh=>by
 have:=dec_digits n n (Yv _) _ h;have e:(32:UInt8).toNat=32:=rfl;omega
theorem Lw:∀(k n:Nat),n < 10 ^ (k+1)->(Lib.decDigits n).length<=k+1
 | 0,n,h=>by rw[Lib.decDigits,dif_pos Yi];simp
 | k+1,n,h=>by
  rw[Lib.decDigits];split
  ·simp
  ·have:=Lw k (n / 10) (by rw[Nat.pow_succ]at h;omega);simp only[List.length_append,List.length_cons,List.length_nil];omega
theorem dec_all (n:Nat):(Lib.decDigits n).all isDig=true:=by
 rw[List.all_eq_true];intro c hc;have:=dec_digits n n (Yv _) c hc;unfold isDig;simp[this.1,this.2]
theorem Ju:∀(k n:Nat),n<=k->valI (Lib.decDigits n)=n
 | 0,n,h=>by
  obtain rfl:n=0:=Yi
  decide +kernel
 | k+1,n,h=>by
  by_cases h10:n < 10
  ·rw[Lib.decDigits,dif_pos h10];unfold valI;simp only[List.foldl_cons,List.foldl_nil,u8 (show 48+n < 256 by omega)];omega
  ·rw[Lib.decDigits,dif_neg h10];have ih:=Ju k (n / 10) Yi;unfold valI at ih ⊢;rw[List.foldl_append,ih];simp only[List.foldl_cons,List.foldl_nil,u8 (show 48+n % 10 < 256 by omega)];omega
theorem Zk (n:Nat) (h:n<=9999999):valV (Lib.decDigits n)=n:=by
 have h1:=Lw 6 n Yi;have h2:1<=(Lib.decDigits n).length:=by
  obtain⟨c,l,e,_⟩:=dec_cons n;rw[e];simp
 unfold valV;rw[if_pos ⟨h2,h1,dec_all n⟩];exact Ju n n (Yv _)
theorem Db (n:Nat) (h:n<=1000000000):jh (Lib.decDigits n)=n:=by
 have e:Lib.itoa (n:Int)=Lib.decDigits n:=Lib.itoa_nonneg n;have:=atoi_itoa n Yi Yi;unfold jh;rw[e]at this;rw[this];simp only[e,if_true]
theorem Tm {l:List UInt8} {x:Nat} (h:jh l=x):l=Lib.decDigits x:=by
 unfold jh at h;split at h
 ·split at h
  ·subst h;rename_i hl;rw[<-Lib.itoa_nonneg,hl]
  ·omega
 ·omega
theorem many_le {n:Int} (h:(decide (n=3) || decide (n=5))=true):n<=5/\ -1000000<=n/\n<=1000000:=by
 simp at h;omega
theorem Bt (l:List UInt8) (c:UInt8):(Lib.cut l [c]).1.length<=l.length/\(Lib.cut l [c]).2.1.length<=l.length:=by
 unfold Lib.cut;split
 ·simp;omega
 ·simp
end
end
section
open Go.RowKit Go.Shelf Go.Lib
theorem kh {P Q:List Nat} (hP:P.length=8) (hp:∀n∈P,n < 2 ^ 64) (hQ:Q.length=8) (hq:∀n∈Q,n < 2 ^ 64) (h:dg P=dg Q):P=Q:=by
 obtain⟨z,e1⟩:=zee hP hp;obtain⟨z',e2⟩:=zee hQ hq;rw[h,e2]at e1;injection e1 with e1
 exact(Prod.mk.inj e1).2.symm
theorem Rt {a b:Nat} (ha:a<=1000000000) (hb:b<=1000000000) (h:Lib.decDigits a=Lib.decDigits b):a=b:=by
 have h1:=Db a ha;have h2:=Db b hb;rw[h,h2]at h1;omega
theorem s8_of {P:List Nat} (h:P.length=8):∃s:S8,s.l=P:=by
 obtain⟨a,b,c,d,e,f,g,i,rfl⟩:=lst8 h;exact⟨⟨a,b,c,d,e,f,g,i⟩,rfl⟩
theorem Jn {a b:Ac} (ha:okA 8 a.k a.p a.c.l=true) (ha8:a.c.ok) (hb:okA 8 b.k b.p b.c.l=true) (hb8:b.c.ok) (h:dl a.k a.p a.c.l=dl b.k b.p b.c.l):a=b:=by
 have kind:∀x:Ac,okA 8 x.k x.p x.c.l=true->(x.k=1/\x.p=0)\/((x.k=2\/x.k=3)/\(∃i:Nat,i < 8/\x.p=i)/\x.c=S8.zero):=λx hx=>by
  rcases jc hx with h1 | ⟨h1,h2⟩
  ·exact Or.inl h1
  ·refine Or.inr ⟨h1,h2,?_⟩;unfold okA at hx;have hc:x.c.l=aq:=by
    rcases h1 with h1 | h1 <;> (rw[h1]at hx;simpa using (by simpa using hx:_/\_).2)
   exact S8.l_inj hc
 obtain⟨ak,ap,ac⟩:=a;obtain⟨bk,bp,bc⟩:=b;have key:∀(i j:Nat),i < 8->j < 8->Lib.itoa (i:Int)=Lib.itoa (j:Int)->i=j:=λi j hi hj e=>by
  rw[Lib.itoa_nonneg,Lib.itoa_nonneg]at e;exact Rt Yi Yi e
 rcases kind _ ha with ⟨h1,h2⟩ | ⟨h1,⟨i,hi,h2⟩,h3⟩ <;> rcases kind _ hb with ⟨h4,h5⟩ | ⟨h4,⟨j,hj,h5⟩,h6⟩ <;> dsimp only at *
 ·subst h1 h2 h4 h5;have:=kh rfl ha8 rfl hb8 (by simpa[dl]using h);rw[S8.l_inj this]
 ·rcases h4 with rfl | rfl <;> subst h1 <;> simp[dl]at h
 ·rcases h1 with rfl | rfl <;> subst h4 <;> simp[dl]at h
 ·subst h2 h3 h5 h6;rcases h1 with rfl | rfl <;> rcases h4 with rfl | rfl <;> simp[dl]at h
  iterate 2 ·rw[key i j hi hj h]
def Fm.word:Fm->List UInt8
 | .new _ _=>[110,101,119]
 | .keep _ _=>[107,101,101,112]
 | .act _ _=>[100,111]
def Fm.num:Fm->Nat
 | .new n _=>n
 | .keep n _=>n
 | .act n _=>n
def Fm.tail:Fm->List UInt8
 | .new _ s=>dg s.l
 | .keep _ s=>dg s.l
 | .act _ a=>dl a.k a.p a.c.l
theorem Fm.text_is (f:Fm):f.text=f.word ++ 32 :: (Lib.decDigits f.num ++ 32 :: f.tail):=by cases f <;> rfl
theorem Fm.word_no (f:Fm):(32:UInt8)∉f.word:=by cases f <;> simp[Fm.word]
theorem Fm.num_ok {f:Fm} (h:f.ok):1<=f.num/\f.num<=1000000:=by cases f <;> exact⟨h.1,h.2.1⟩
theorem Hf {c:UInt8} {l a b d:List UInt8} (h:Lib.splitK [c] 0 2 l=[a,b,d]):l=a ++ c :: (b ++ c :: d)/\c∉a/\c∉b:=by
 rcases um c l with h1 | ⟨a',m,h1,rfl⟩
 ·rw[Fz 2 h1]at h;simp at h
 rw[rg 1 h1]at h;simp only[List.cons.injEq]at h;obtain⟨rfl,h⟩:=h;rcases um c m with h2 | ⟨b',m',h2,rfl⟩
 ·rw[Fz 1 h2]at h;simp at h
 rw[rg 0 h2]at h;change b' :: [m']=[b,d]at h;simp only[List.cons.injEq,and_true]at h;obtain⟨rfl,rfl⟩:=h;exact⟨rfl,h1,h2⟩
theorem Au {c:UInt8} {a b d:List UInt8} (h1:c∉a) (h2:c∉b):Lib.splitK [c] 0 2 (a ++ c :: (b ++ c :: d))=[a,b,d]:=by
 rw[rg 1 h1,rg 0 h2];rfl
theorem Fm.split (f:Fm):Lib.splitK [32] 0 2 f.text=[f.word,Lib.decDigits f.num,f.tail]:=by
 rw[f.text_is];exact Au f.word_no (Lv _)
theorem Dm {t:ByteArray} {f:Fm} (h:f.text=t.data.toList):(jx t).map (·.data.toList)=[f.word,Lib.decDigits f.num,f.tail]:=by
 have hz:2<=t.size:=by
  have e:t.size=t.data.toList.length:=rfl;rw[e,<-h,f.text_is];simp only[List.length_append,List.length_cons];omega
 unfold jx;rw[show min 3 (t.size+1) - 1=2 by omega,Lib.splitB_data,<-h];exact f.split
abbrev wh (wd:ByteArray) (n:Int) (s:S8) (a:Ac):Array Value:=#[.string wd,Yp n,s.a0,s.a1,s.a2,s.a3,s.a4,s.a5,s.a6,s.a7,Ys a.k,Yp a.p,a.c.a0,a.c.a1,a.c.a2,a.c.a3,a.c.a4,a.c.a5,a.c.a6,a.c.a7]
structure En where
 wd:ByteArray
 n:Int
 s:S8
 a:Ac
def n5:Ac:=⟨0,0,S8.zero⟩
def Fm.ent:Fm->En
 | .new n s=>⟨⟨#[110,101,119]⟩,n,s,n5⟩
 | .keep n s=>⟨⟨#[107,101,101,112]⟩,n,s,n5⟩
 | .act n a=>⟨⟨#[100,111]⟩,n,S8.zero,a⟩
def ParR (t:ByteArray) (e:Ending):Prop:=∃x:En,e= .returned (.tuple #[.agg (wh x.wd x.n x.s x.a),.bool (ee t).isSome])/\∀f,ee t=some f->x=f.ent
theorem ParR.no {t:ByteArray} (h:∀f:Fm,f.ok->f.text≠t.data.toList):ParR t (.returned (.tuple #[.agg ff,.bool false])):=by
 have hn:ee t=none:=by
  cases hf:ee t with
  | none=>rfl
  | some f=>exact absurd (cu hf).2 (h f (cu hf).1)
 refine⟨⟨⟨#[]⟩,0,S8.zero,n5⟩,?_,λf hf=>by rw[hn]at hf;cases hf⟩;rw[hn];rfl
theorem ParR.yes {t:ByteArray} (x:En) (b:Bool) (hx:b=true->∃f:Fm,f.ok/\f.text=t.data.toList) (hu:∀f:Fm,f.ok->f.text=t.data.toList->b=true/\x=f.ent):ParR t (.returned (.tuple #[.agg (wh x.wd x.n x.s x.a),.bool b])):=by
 refine⟨x,?_,λf hf=>(hu f (cu hf).1 (cu hf).2).2⟩;have:(ee t).isSome=b:=by
  cases hf:ee t with
  | some f=>rw[(hu f (cu hf).1 (cu hf).2).1];rfl
  | none=>
   cases b with
   | false=>rfl
   | true=>
    obtain⟨f,h1,h2⟩:=hx rfl;exact absurd h2 (Gl hf f h1)
 rw[this]
theorem Zt {ws:List ByteArray} (h:ws.length=3):∃a b c,ws=[a,b,c]:=by
 match ws,h with
 | [a,b,c],_=>exact⟨a,b,c,rfl⟩
theorem Qg {wd:List UInt8} (h:wd=[110,101,119]\/wd=[107,101,101,112]):∃con:Nat->S8->Fm,(∀m s,(con m s).text=wd ++ 32 :: (Lib.decDigits m ++ 32 :: dg s.l))/\(∀m s,1<=m->m<=1000000->s.ok->s≠S8.zero->(con m s).ok)/\
  (∀f:Fm,f.ok->f.word=wd->∃n s,f=con n s/\s.ok/\s≠S8.zero/\f.num=n/\f.tail=dg s.l)/\(∀m s,(con m s).ent=⟨⟨wd.toArray⟩,(m:Nat),s,n5⟩)/\(wd == [100,111])=false/\((wd == [110,101,119])=true\/((wd == [110,101,119])=false/\(wd == [107,101,101,112])=true)):=by
 rcases h with rfl | rfl
 ·refine⟨.new,λ_ _=>rfl,λ_ _ h1 h2 h3 h4=>⟨h1,h2,h3,h4⟩,λf hf hw=>?_,λ_ _=>rfl,Yk⟩;cases f with
  | new n s=>exact⟨n,s,rfl,hf.2.2.1,hf.2.2.2,rfl,rfl⟩
  | keep _ _=>cases hw
  | act _ _=>cases hw
 ·refine⟨.keep,λ_ _=>rfl,λ_ _ h1 h2 h3 h4=>⟨h1,h2,h3,h4⟩,λf hf hw=>?_,λ_ _=>rfl,Yk⟩;cases f with
  | keep n s=>exact⟨n,s,rfl,hf.2.2.1,hf.2.2.2,rfl,rfl⟩
  | new _ _=>cases hw
  | act _ _=>cases hw
theorem ll (t:ByteArray) (w:World) (hs:t.size<=1000) (tw:TW w) (ht:w.cell? ⟨7,15,none⟩=some (.int .u8 4)):
  Calls prog 30 #[.string t] w λe w'=>ParR t e/\Gr w w':=by
 by_cases h3:(jx t).length < 3
 ·refine(Cx t _ w Yi tw (Or.inl ⟨h3,rfl⟩)).mono ?_;rintro e w' ⟨rfl,g⟩;refine⟨ParR.no λf _ hx=>?_,g⟩;have:=congrArg List.length (Dm hx);simp at this;omega
 ·have hlen:(jx t).length<=3:=by
   have:=Lib.splitB_length_le ⟨#[32]⟩ 0 (min 3 (t.size+1) - 1) t;unfold jx;omega
  obtain⟨a,b,c,hl⟩:=Zt (show(jx t).length=3 by omega);have hz2:2<=t.size:=by
   have:=Lib.splitB_length_le ⟨#[32]⟩ 0 (min 3 (t.size+1) - 1) t;unfold jx at hl;rw[hl]at this;simp at this;omega
  have hsm:∀x∈jx t,x.size<=t.size:=Jz _ _ _ _;rw[hl]at hsm;have hb1:b.size<=1000:=Nat.le_trans (hsm b Yj) hs;have hc1:c.size<=1000:=Nat.le_trans (hsm c Yj) hs;have hform:∀f:Fm,f.text=t.data.toList->a.data.toList=f.word/\b.data.toList=Lib.decDigits f.num/\c.data.toList=f.tail:=λf hf=>by
   have:=Dm hf;rw[hl]at this;simpa using this
  have hback:t.data.toList=a.data.toList ++ 32 :: (b.data.toList ++ 32 :: c.data.toList):=by
   have e:=Lib.splitB_data ⟨#[32]⟩ 0 (min 3 (t.size+1) - 1) t;have hl2:=hl;unfold jx at hl2;rw[hl2,show min 3 (t.size+1) - 1=2 by omega]at e;exact(Hf (by simpa using e.symm)).1
  have hHT:∀u,Gr w u->u.cell? ⟨7,15,none⟩=some (.int .u8 4):=λu g=>(g.cells.1 _ _ (World.block_lt_of_cell? _ _ ht)).trans ht;obtain⟨al,rfl⟩:∃al:List UInt8,a=⟨al.toArray⟩:=⟨a.data.toList,rfl⟩;obtain⟨bl,rfl⟩:∃bl:List UInt8,b=⟨bl.toArray⟩:=⟨b.data.toList,rfl⟩;obtain⟨cl,rfl⟩:∃cl:List UInt8,c=⟨cl.toArray⟩:=⟨c.data.toList,rfl⟩;simp only at hform hback;have hcl:cl.length<=100000:=by
   have:cl.length<=1000:=hc1;omega
  have num:∀f:Fm,f.ok->Lib.decDigits f.num=bl->jh bl=f.num:=λf hf e=>by
   rw[<-e];exact Db _ (by have:=(Fm.num_ok hf).2;omega)
  have rng:∀f:Fm,f.ok->Lib.decDigits f.num=bl->(decide (1<=jh bl) && decide (jh bl<=1000000))=true:=λf hf e=>by
   rw[num f hf e];have:=Fm.num_ok hf;simp only[Bool.and_eq_true,decide_eq_true_eq];omega
  have rngb:(decide (1<=jh bl) && decide (jh bl<=1000000))=true->∃m:Nat,jh bl=m/\bl=Lib.decDigits m/\1<=m/\m<=1000000:=λh=>by
   simp only[Bool.and_eq_true,decide_eq_true_eq]at h;refine⟨(jh bl).toNat,Yi,Tm Yi,Yi,Yi⟩
  have run:∀res,ParH w al ⟨cl.toArray⟩ (jh bl) res->_:=λres h=>Cx t res w Yi tw (Or.inr ⟨al,_,_,_,hl,hz2,Yi,rfl,h⟩)
  by_cases hsk:al=[110,101,119]\/al=[107,101,101,112]
  ·obtain⟨con,kc1,kc2,kc3,kc4, -,hbw⟩:=Qg hsk
   by_cases hS:∃P:List Nat,P.length=8/\(∀p∈P,p < 2 ^ 64)/\dg P=cl
   ·obtain⟨P,hP,hp,rfl⟩:=hS;obtain⟨s,rfl⟩:=s8_of hP;have HR:=λu (g:Gr w u)=>p8 s.a0 s.a1 s.a2 s.a3 s.a4 s.a5 s.a6 s.a7 hp u (tw.gr g) (hHT u g)
    by_cases hz:s.l=aq
    ·refine(run _ (Or.inl ⟨s.a0,s.a1,s.a2,s.a3,s.a4,s.a5,s.a6,s.a7,0,hbw,HR,Or.inl ⟨hz,rfl⟩⟩)).mono ?_;rintro e w' ⟨rfl,g⟩;refine⟨ParR.no λf hf hx=>?_,g⟩;obtain⟨h1,h2,h4⟩:=hform f hx;obtain⟨n,s',_,k1,k2,_,k3⟩:=kc3 f hf h1.symm;exact k2 (S8.l_inj ((kh rfl k1 rfl hp (k3.symm.trans h4.symm)).trans hz))
    ·refine(run _ (Or.inl ⟨s.a0,s.a1,s.a2,s.a3,s.a4,s.a5,s.a6,s.a7,0,hbw,HR,Or.inr ⟨hz,rfl⟩⟩)).mono ?_;rintro e w' ⟨rfl,g⟩;refine⟨ParR.yes ⟨⟨al.toArray⟩,jh bl,s,n5⟩ (decide ((0:Int)=0) && (decide (1<=jh bl) && decide (jh bl<=1000000))) (λhb=>?_) (λf hf hx=>?_),g⟩
     ·obtain⟨m,h1,h2,h4,h5⟩:=rngb (by simpa using hb);exact⟨con m s,kc2 m s h4 h5 hp (λe=>hz (by rw[e];rfl)),by rw[kc1,hback,h2]⟩
     ·obtain⟨h1,h2,h4⟩:=hform f hx;refine⟨by rw[rng f hf h2.symm];rfl,?_⟩;obtain⟨n,s',rfl,k1,k2,kn,k3⟩:=kc3 f hf h1.symm;have:=S8.l_inj (kh rfl k1 rfl hp (k3.symm.trans h4.symm));subst this;rw[num _ hf h2.symm,kn,kc4]
   ·have HR:=λu (g:Gr w u)=>Ch cl hcl (λP h1 h2 h4=>hS ⟨P,h1,h2,h4⟩) u (tw.gr g) (hHT u g);refine(run _ (Or.inl ⟨0,0,0,0,0,0,0,0,4,hbw,HR,Or.inl ⟨rfl,rfl⟩⟩)).mono ?_;rintro e w' ⟨rfl,g⟩;refine⟨ParR.no λf hf hx=>?_,g⟩;obtain⟨h1,h2,h4⟩:=hform f hx;obtain⟨n,s',_,k1,k2,_,k3⟩:=kc3 f hf h1.symm;exact hS ⟨s'.l,rfl,k1,k3.symm.trans h4.symm⟩
  by_cases hdo:al=[100,111]
  ·subst hdo
   by_cases hA:∃x:Ac,x.c.ok/\okA 8 x.k x.p x.c.l=true/\dl x.k x.p x.c.l=cl
   ·obtain⟨x,hx8,hxo,rfl⟩:=hA;have HR:=λu (g:Gr w u)=>M7 x.k x.p x.c.a0 x.c.a1 x.c.a2 x.c.a3 x.c.a4 x.c.a5 x.c.a6 x.c.a7 hx8 hxo u (tw.gr g) (hHT u g);refine(run _ (Or.inr (Or.inl ⟨x.k,x.p,x.c.a0,x.c.a1,x.c.a2,x.c.a3,x.c.a4,x.c.a5,x.c.a6,x.c.a7,0,Yk,HR,rfl⟩))).mono ?_;rintro e w' ⟨rfl,g⟩;refine⟨ParR.yes ⟨⟨#[100,111]⟩,jh bl,S8.zero,x⟩ (decide ((0:Int)=0) && (decide (1<=jh bl) && decide (jh bl<=1000000))) (λhb=>?_) (λf hf hx=>?_),g⟩
    ·obtain⟨m,h1,h2,h4,h5⟩:=rngb (by simpa using hb);exact⟨.act m x,⟨h4,h5,hx8,hxo⟩,by rw[hback,h2];rfl⟩
    ·obtain⟨h1,h2,h4⟩:=hform f hx;refine⟨by rw[rng f hf h2.symm];rfl,?_⟩;cases f with
     | act n a'=>
      have:=Jn hf.2.2.2 hf.2.2.1 hxo hx8 h4.symm;subst this;have:=num _ hf h2.symm;simp only[Fm.num]at this;rw[this];rfl
     | new n s'=>simp[Fm.word]at h1
     | keep n s'=>simp[Fm.word]at h1
   ·have HR:=(λu (g:Gr w u)=>Se cl hcl (λk pc c0 c1 c2 c3 c4 c5 c6 c7 h1 h2 h4=>hA ⟨⟨k,pc,⟨c0,c1,c2,c3,c4,c5,c6,c7⟩⟩,h1,h2,h4⟩) u (tw.gr g) (hHT u g));refine(run _ (Or.inr (Or.inl ⟨0,0,0,0,0,0,0,0,0,0,4,Yk,HR,rfl⟩))).mono ?_;rintro e w' ⟨rfl,g⟩;refine⟨ParR.yes ⟨⟨#[100,111]⟩,jh bl,S8.zero,n5⟩ (decide ((4:Int)=0) && (decide (1<=jh bl) && decide (jh bl<=1000000))) (λhb=>by simp at hb) (λf hf hx=>?_),g⟩;exfalso;obtain⟨h1,h2,h4⟩:=hform f hx;cases f with
    | act n a'=>exact hA ⟨a',hf.2.2.1,hf.2.2.2,h4.symm⟩
    | new n s'=>simp[Fm.word]at h1
    | keep n s'=>simp[Fm.word]at h1
  ·refine(run _ (Or.inr (Or.inr ⟨⟨beq_eq_false_iff_ne.2 λh=>hsk (Or.inl h),beq_eq_false_iff_ne.2 λh=>hsk (Or.inr h),beq_eq_false_iff_ne.2 hdo⟩,rfl⟩))).mono ?_;rintro e w' ⟨rfl,g⟩;refine⟨ParR.no λf hf hx=>?_,g⟩;obtain⟨h1,_,_⟩:=hform f hx;cases f with
   | new n s'=>exact hsk (Or.inl h1)
   | keep n s'=>exact hsk (Or.inr h1)
   | act n a'=>exact hdo h1
structure Sv where
 a:Option Addr
 n:Nat
 c:Nat
 deriving Inhabited
def Sv.v (s:Sv):Value:= .slice s.a s.n s.c
structure Q3 where
 k:Kp
 p:Sv
 a:Sv
 deriving Inhabited
def Q3.cs (q:Q3):List Value:=[Yp q.k.id,Yp q.k.size,Yp q.k.st,q.k.blank.a0,q.k.blank.a1,q.k.blank.a2,q.k.blank.a3,q.k.blank.a4,q.k.blank.a5,q.k.blank.a6,q.k.blank.a7,q.p.v,q.a.v]
theorem Q3.cs_len (q:Q3):q.cs.length=13:=rfl
theorem Q3.cs_one (q:Q3):∀v∈q.cs,v.oneCell'=true:=by
 intro v hv;simp only[Q3.cs,List.mem_cons,List.not_mem_nil,or_false]at hv;rcases hv with rfl | rfl | rfl | rfl | rfl | rfl | rfl | rfl | rfl | rfl | rfl | rfl | rfl <;> rfl
structure QOk (w:World) (base:Nat) (q:Q3):Prop where
 p:w.ownsRow base 39 8 q.p.v q.k.pieces.length (q.k.pieces.flatMap S8.cs)
 a:w.ownsRow base 54 10 q.a.v q.k.acts.length (q.k.acts.flatMap Ac.cs)
theorem QOk.gr {w w':World} {base:Nat} {q:Q3} (h:QOk w base q) (g:Gr w w'):QOk w' base q:=⟨h.p.gr1 g,h.a.gr1 g⟩
structure az (w:World) (base:Nat) (v:Value) (Q:List Q3):Prop where
 r:w.ownsRow base 47 13 v Q.length (Q.flatMap Q3.cs)
 q:∀q∈Q,QOk w base q
theorem az.gr {w w':World} {base:Nat} {v:Value} {Q:List Q3} (h:az w base v Q) (g:Gr w w'):az w' base v Q:=⟨h.r.gr1 g,λq hq=>(h.q q hq).gr g⟩
theorem Dx {α:Type} (p:α->Bool) (d:α):∀(l:List α) (k:Nat),Lib.idxByFrom (λ_ y=>p y) d l k=match l.findIdx? p with | none=> -1 | some i=>((k+i:Nat):Int)
 | [],k=>rfl
 | x :: l,k=>by
  have ih:=Dx p d l (k+1);rw[List.findIdx?_cons];unfold Lib.idxByFrom;cases hp:p x with
  | true=>simp
  | false=>
   simp only[Bool.false_eq_true,if_false];rw[ih];cases l.findIdx? p with
   | none=>rfl
   | some i=>show((k+1+i:Nat):Int)=((k+(i+1):Nat):Int);omega
theorem zbn {α:Type} (p:α->Bool) (d:α) (l:List α):Lib.idxBy (λ_ y=>p y) l d=match l.findIdx? p with | none=> -1 | some i=>(i:Int):=by
 unfold Lib.idxBy;rw[Dx];cases l.findIdx? p with
 | none=>rfl
 | some i=>simp
theorem zcm (v:Value) (w:World):
  Calls prog 264 #[.slice none 0 0,v] w λe w'=>e= .returned (Yp (-1))/\w'=w:=by
 go_enter func264,ntmps264;go_wp2;refine wp_loop_rounds 3 ?_;rw[rounds_succ];go_wp2;go_ret;exact⟨rfl,rfl⟩
theorem Oe (id:Int) (B:Nat) (w:World) (hB:B < w.heap.size) (hcell:w.cell? ⟨B,0,none⟩=some (.int .i64 id)):
  PredBelow prog 265 #[Ym B] (λq:Q3=> .agg q.cs.toArray) (λq=>decide (q.k.id=id)) w:=λW q hb=>by
 have hc:W.cell? ⟨B,0,none⟩=some (.int .i64 id):=(hb.cell (p:=⟨B,0,none⟩) hB).trans hcell;have hBW:B < W.heap.size:=Nat.lt_of_lt_of_le hB hb.size;have hne:B≠W.heap.size:=Yi;obtain⟨⟨qi,qs,qt,⟨a0,a1,a2,a3,a4,a5,a6,a7⟩,qp,qa⟩,⟨pa,pn,pc⟩,⟨aa,an,ac⟩⟩:=q;show Calls prog 265 #[.agg #[Yp qi,Yp qs,Yp qt,a0,a1,a2,a3,a4,a5,a6,a7,.slice pa pn pc,.slice aa an ac],Ym B] W _;go_enter func265,ntmps265;go_wp2;go_ret;refine⟨?_,hb.alloc hb.size _⟩;congr 2
theorem Kz (Lb base:Nat) (v:Value) (T:TypeId) (Q:List Q3) (id:Int) (w:World) (hL:w.heap[Lb]?=some (.cells #[v] T (0,0))) (hB:az w base v Q) (hl:Q.length<=1000):
  Calls prog 223 #[Ym Lb,Yp id] w λe w'=>Gr w w'/\(match gh (Q.map Q3.k) id with | none=>e= .returned (.pointer none) | some i=>∃g,v.ownBlock=some g/\e= .returned (.pointer (some ⟨g,i * 13,none⟩))):=by
 have gI:=(Yu w).alloc (.cells #[Yp id] 3);have h0:=ae w (.cells #[Yp id] 3);have hL':=gI.heap hL;have hr:=hB.r.gr1 gI;have hfind:gh (Q.map Q3.k) id=Q.findIdx? λq=>decide (q.k.id=id):=by
  unfold gh;rw[List.findIdx?_map];rfl
 have hidx:=zbn (λq:Q3=>decide (q.k.id=id)) default Q;have GI:=hid gI;have HF:=hid hfind;obtain⟨s0,t0,z0⟩:=ed h0;have PR:=hid (Oe id w.heap.size (w.alloc (.cells #[Yp id] 3)) (ai h0) (s0 0));rcases hr.2 with ⟨rfl,hn⟩ | ⟨g,cap,cur,rfl,hbg,hg,hcap,hmax,hsz,htk⟩
 ·obtain rfl:=List.eq_nil_of_length_eq_zero hn;obtain⟨sl,tl,zl⟩:=ed hL';have IX:=hid (λv u=>zcm v u);clear hr PR hidx hL' hfind;go_enter func223,ntmps223;go_wp2_with fail;refine(IX.out _ _).mono ?_;rintro e w1 ⟨rfl,rfl⟩;go_wp2;go_ret;exact⟨GI.out,by simp⟩
 ·obtain⟨sl,tl,zl⟩:=ed hL';have hrow:=ra Q3.cs 13 Q3.cs_len hr;have IX:=hid (AnyQ.slices_IndexFunc Tryz.idxfKept 13 Tryz.isAgg47 Tryz.sizeOf47 Q3.cs Q3.cs_len _ 265 #[Ym w.heap.size] (λargs w=>rfl) g 0 Q.length cap Q _ PR.out (Yv _) Yi (ai hg) (λj hj i x hx=>by
   have:=lc Q3.cs 13 Q3.cs_len hrow (j * 13+i) x (by
    rw[qo Q3.cs 13 Q3.cs_len Q j i hj (by
     have:=(List.getElem?_eq_some_iff.1 hx).1
     rwa [Q3.cs_len]at this)]
    rw[getElem!_pos Q j hj]at hx;exact hx)
   have e:0+(j * 13+i)=0+j * 13+i:=Yi;rw[e]at this;exact this))
  rw[List.take_length,hidx]at IX;clear hr PR hidx hfind htk hsz hmax hbg hrow;have hlen0:Q.length<=cap:=hcap;have HG0:=hid hg;clear hg;have HL:=hid hL';have hlk:∀i,gh (Q.map Q3.k) id=some i->i < Q.length:=λi h=>by
   obtain⟨hi,_⟩:=i8 h;simpa using hi
  have HLK:=hid hlk;rw[<-HF.out]at IX;clear hlk HF hL';generalize gh (Q.map Q3.k) id=o at *;go_enter func223,ntmps223;go_wp2_with fail;refine IX.out.mono ?_;rintro e w1 ⟨rfl,hb1⟩;have g1:=Gr.of_below hb1;have G1:=hid (GI.out.trans g1);clear sl tl zl s0 t0 z0 IX;obtain⟨sl,tl,zl⟩:=ed (g1.heap HL.out);clear g1 hb1;cases o with
  | none=>
   go_wp2;go_ret;exact⟨G1.out,rfl⟩
  | some i=>
   have hi:=HLK.out i rfl;have hi0:¬(i:Int) < 0:=Yi;have hi1:(i:Int) < Q.length:=Yi;have hi2:(0:Int)<=i:=Yi;go_wp2;go_ret;exact⟨G1.out,g,rfl,rfl⟩
end
end Go.Proofs.YtimcfaoabaflkaaGreatDoor
