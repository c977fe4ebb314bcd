/- reference 09: FormOf. -/
import Derived.Test.YtimcfaoabaflkaaGreatDoorRSr
import Derived.Test.YtimcfaoabaflkaaGreatDoorTTd
namespace Go.Proofs.YtimcfaoabaflkaaGreatDoor
open AbBase AbTrV
open AbA AbI
set_option maxHeartbeats 16000000
set_option maxRecDepth 100000
open Go.Proofs.Tryz
section
open Go.RowKit Go.Shelf Go.Lib
structure Cuts (l wd rest a tl:List UInt8):Prop where
 c1:(Lib.cut l [32]).1=wd
 c2:(Lib.cut l [32]).2.1=rest
 c3:(Lib.cut rest [32]).1=a
 c4:(Lib.cut rest [32]).2.1=tl
theorem Cuts.form {l wd rest a tl:List UInt8} (h:Cuts l wd rest a tl) {f:Fm} (hf:f.text=l):wd=f.word/\a=Lib.decDigits f.num/\tl=f.tail:=by
 obtain⟨h1,h2,h3,h4⟩:=h;rw[<-hf,f.text_is,cutc_at f.word_no]at h1 h2;dsimp only at h1 h2;rw[<-h2,cutc_at (Lv _)]at h3 h4;exact⟨h1.symm,h3.symm,h4.symm⟩
theorem Cuts.num {l wd rest a tl:List UInt8} (h:Cuts l wd rest a tl) {f:Fm} (hf:f.text=l) (ho:f.ok):valV a=f.num:=by
 rw[(h.form hf).2.1];exact Zk _ (by have:=(Fm.num_ok ho).2;omega)
theorem yf {l:List UInt8} (h:∀f:Fm,f.ok->f.text≠l):ee ⟨l.toArray⟩=none:=fmOf_no (by simpa using h)
theorem zbh {l:List UInt8} {f:Fm} (hf:f.ok) (h:f.text=l):ee ⟨l.toArray⟩=some f:=fmOf_is hf (by simpa using h)
theorem J8 {l:List UInt8} {o:Option Fm} {x:En} (h:ee ⟨l.toArray⟩=o) (hx:Ov o=x):Ending.returned x.v= .returned (Ov (ee ⟨l.toArray⟩)).v:=by rw[h,hx]
theorem Kc (l:List UInt8) (hl:l.length<=1000) (w:World):
  Calls prog 15 #[sv l] w λe w'=>e= .returned (Ov (ee ⟨l.toArray⟩)).v/\Gr w w':=by
 obtain⟨wd,rest,a,tl,hc⟩:∃wd rest a tl,Cuts l wd rest a tl:=⟨_,_,_,_,rfl,rfl,rfl,rfl⟩;have C1:=hid (λu=>rcut_any ⟨l.toArray⟩ 32 u (show l.toArray.size<=100000 by simp;omega));change Hid (∀u,Calls prog 44 #[sv l,Ys 32] u λe w'=>e= .returned (.tuple #[sv (Lib.cut l [32]).1,sv (Lib.cut l [32]).2.1,.bool (Lib.cut l [32]).2.2])/\Gr u w')at C1;have hsz:=(Bt l 32).2;have hsw:=(Bt l 32).1;rw[hc.c1,hc.c2]at C1;rw[hc.c1]at hsw;rw[hc.c2]at hsz;have C2:=hid (λu=>rcut_any ⟨rest.toArray⟩ 32 u (show rest.toArray.size<=100000 by simp;omega));change Hid (∀u,Calls prog 44 #[sv rest,Ys 32] u λe w'=>e= .returned (.tuple #[sv (Lib.cut rest [32]).1,sv (Lib.cut rest [32]).2.1,.bool (Lib.cut rest [32]).2.2])/\Gr u w')at C2;have hsa:=(Bt rest 32).1;have hst:=(Bt rest 32).2;rw[hc.c3,hc.c4]at C2;rw[hc.c3]at hsa;rw[hc.c4]at hst;have V1:=hid (λu=>rvalue_any ⟨a.toArray⟩ u (show a.toArray.size<=100000 by simp;omega));change Hid (∀u,Calls prog 45 #[sv a] u λe w'=>e= .returned (Yp (valV a))/\Gr u w')at V1;obtain⟨n,hnv⟩:∃n,valV a=n:=⟨_,rfl⟩;rw[hnv]at V1;have HNV:=hid hnv;clear hnv;generalize (Lib.cut l [32]).2.2=b1 at C1;generalize (Lib.cut rest [32]).2.2=b2 at C2;have HCU:=hid hc;have HSW:=hid hsw;have HST:=hid (show tl.length<=1000 by omega);clear hsz hsw hsa hst hc;go_enter func15,ntmps15;go_upto_region 1 with (fail);generalize hX:Obj.cells _ 56 (0,0)=X;have hX2:∃c:Array Value,X= .cells c 56 (0,0)/\c.size=20:=⟨_,hX.symm,rfl⟩;clear hX;obtain⟨cz,rfl,hcz⟩:=hX2;obtain⟨U0,hU0,h0,gi⟩:∃U,w.alloc (.cells cz 56 (0,0))=U/\U.heap[w.heap.size]?=some (.cells cz 56 (0,0))/\Gr w U:=⟨_,rfl,ae w _,(Yu w).alloc _⟩;rw[hU0];have GI:=hid gi;have H0:=hid h0;clear hU0 h0 gi;obtain⟨b,hb⟩:∃p,w.heap.size=p:=⟨_,rfl⟩;have HPW:=hid hb;rw[hb]at H0;rw[hb];clear hb;go_wp2_with fail;refine(C1.out _).mono ?_;rintro e w1 ⟨rfl,g1⟩;go_wp2_with fail;refine(C2.out _).mono ?_;rintro e w2 ⟨rfl,g2⟩;go_wp2_with fail;refine(V1.out _).mono ?_;rintro e w3 ⟨rfl,g3⟩;have K0:=hid (g3.heap (g2.heap (g1.heap H0.out)));have G3:=hid (GI.out.trans (g1.trans (g2.trans g3)));clear g1 g2 g3 H0 GI C1 C2 V1;go_simp;rename_i hK0;refine hK0 _ _ ?_;clear hK0;(iterate 2 refine wpList_plain rfl λ_ hK=>?_;go_simp;refine hK _ _ ?_;clear hK);have hqb:=ae w3 (.cells Za 56 (0,0));refine wpList_store_row rfl _ _ _ rfl w3.heap.size #[sv wd,Yp n,Yq 0,Yq 0,Yq 0,Yq 0,Yq 0,Yq 0,Yq 0,Yq 0,Ys 0,Yp 0,Yq 0,Yq 0,Yq 0,Yq 0,Yq 0,Yq 0,Yq 0,Yq 0] rfl rfl _ Za hqb Yh rfl (by simp[Value.oneCell']) ?_;obtain⟨U,hU,hq0,gu,hk0,hb0⟩:∃U,(w3.alloc (.cells Za 56 (0,0))).setRow w3.heap.size #[sv wd,Yp n,Yq 0,Yq 0,Yq 0,Yq 0,Yq 0,Yq 0,Yq 0,Yq 0,Ys 0,Yp 0,Yq 0,Yq 0,Yq 0,Yq 0,Yq 0,Yq 0,Yq 0,Yq 0]=U/\U.heap[w3.heap.size]?=some (.cells #[sv wd,Yp n,Yq 0,Yq 0,Yq 0,Yq 0,Yq 0,Yq 0,Yq 0,Yq 0,Ys 0,Yp 0,Yq 0,Yq 0,Yq 0,Yq 0,Yq 0,Yq 0,Yq 0,Yq 0] 56 (0,0))/\Gr w U/\U.heap[b]?=some (.cells cz 56 (0,0))/\b < w3.heap.size:=
  ⟨_,rfl,setRow_heap _ _ _ _ _ _ hqb,G3.out.trans (((Yu w3).alloc _).setRow w3.heap.size _ (Yv _)),(ky _ (by have:=ai K0.out;omega)).trans (((Yu w3).alloc _).heap K0.out),ai K0.out⟩
 try simp only[Act.put]
 rw[hU];have HQ:=hid hq0;have GU:=hid gu;have HK:=hid hk0;have HNQ:=hid hb0;clear hqb G3 K0 hU hq0 gu hk0 hb0;obtain⟨q,hq⟩:∃q,w3.heap.size=q:=⟨_,rfl⟩;rw[hq]at HQ HNQ;rw[hq];clear hq;obtain⟨xq,yq,zq⟩:=ed HQ.out;refine dite (1<=n/\n<=1000000) (λhr=>?good) (λhr=>?bad)
 case' bad=>
  have NO:=hid (show ee ⟨l.toArray⟩=none from yf (λf ho hf=>hr (by
   have h:=HCU.out.num hf ho;have:=HNV.out;have:=Fm.num_ok ho;omega)))
  have dn:(decide (n < 1)=true)\/(decide (n < 1)=false/\decide (1000000 < n)=true):=by
   by_cases h:n < 1
   ·exact Or.inl (decide_eq_true h)
   ·exact Or.inr ⟨decide_eq_false h,decide_eq_true Yi⟩
  have K:=HK;have G:=GU;clear hr;rcases dn with dn | ⟨dn,dm⟩
  all_goals
   go_upto_region 5 with (fail);clear xq yq zq
 case' good=>
  obtain⟨m,rfl⟩:∃m:Nat,n=m:=⟨n.toNat,Yi⟩;obtain⟨hn1,hn2⟩:=hr;have hm1:¬(m:Int) < 1:=Yi;have hm2:¬(1000000:Int) < m:=Yi;obtain⟨Ua,hUa,ga,ha⟩:∃V,U.alloc (.cells #[Yp (m:Nat)] 3)=V/\Gr U V/\V.heap[U.heap.size]?=some (.cells #[Yp (m:Nat)] 3):=⟨_,rfl,(Yu U).alloc _,ae U _⟩;have RW:=hid (Row_any wd [m] U.heap.size 1 Ua (ai ha) (by have:=HSW.out;omega) Yj (λx hx=>by simp at hx;omega) (λj h=>by
   rw[(ed ha).1 j]
   match j,h with
   | 0,_=>rfl))
  have hR0:rowL wd [m]=wd ++ 32 :: Lib.decDigits m:=rfl;change Hid (Calls prog 46 #[sv wd,.slice (Yn U.heap.size) 1 1] Ua λe w'=>e= .returned (sv (rowL wd [m]))/\Gr Ua w')at RW;obtain⟨R,hR⟩:∃R,rowL wd [m]=R:=⟨_,rfl⟩;rw[hR]at RW hR0;have hRl:R.length<=1100:=by
   rw[hR0];simp only[List.length_append,List.length_cons];have:=HSW.out;have:=dec_len20 m Yi;omega
  have l1:¬9223372036854775807 < R.length+1:=Yi;have HR0:=hid hR0;have HRL:=hid hRl;have Q3:=hid (ga.heap HQ.out);have K3:=hid (ga.heap HK.out);have GA:=hid (GU.out.trans ga);have HUa:=hid hUa;clear hR hR0 hRl ga HQ HK GU hUa ha;go_wp2_with fail;rw[HUa.out];clear xq yq zq;refine(RW.out).mono ?_;rintro e w4 ⟨rfl,g4⟩;have Q4:=hid (g4.heap Q3.out);have K4:=hid (g4.heap K3.out);have G4:=hid (GA.out.trans g4);clear g4 Q3 K3 GA RW;clear HUa;refine dite (wd=[110,101,119]\/wd=[107,101,101,112]) (λhw=>?sol) (λhw=>?nosol)
  case' sol=>
   obtain⟨con,hc1,hc2,hc3,hc4,hb3,hbw⟩:=Qg hw;have HC:=hid (And.intro hc1 (And.intro hc2 (And.intro hc3 hc4)));clear hc1 hc2 hc3 hc4 hw;rcases hbw with hb1 | ⟨hb1,hb2⟩
   all_goals
    have h32:(⟨R.toArray⟩ ++ ⟨#[32]⟩:ByteArray)=⟨(R ++ [32]).toArray⟩:=nk R [32];go_upto_region 7 with (fail);clear h32;have hR2:=hid (show R ++ [32]=R ++ [32]from rfl);obtain⟨R2,hR2e⟩:∃x,R ++ [32]=x:=⟨_,rfl⟩;have HR2:=hid hR2e;have HR2L:=hid (show R2.length<=1101 by rw[<-hR2e];simp;exact HRL.out);rw[hR2e];clear hR2e hR2;have RD:=hid (vg tl (by have:=HST.out;omega) w4);go_wp2_with fail;refine(RD.out).mono ?_;rintro e w5 ⟨⟨s,er,he,hso,hs⟩,g5⟩;rw[show s.cs.toArray=(Yc s)from rfl]at he;subst he;have HS:=hid hs;have HSO:=hid hso;obtain⟨w6,h6,gb,a6⟩:∃V,w5.alloc (.cells (Yc s) 39)=V/\Gr w5 V/\V.heap[w5.heap.size]?=some (.cells (Yc s) 39):=⟨_,rfl,(Yu w5).alloc _,ae w5 _⟩;have H6:=hid h6;have A6:=hid a6;have Q6:=hid (gb.heap (g5.heap Q4.out));have K6:=hid (gb.heap (g5.heap K4.out));have G6:=hid (G4.out.trans (g5.trans gb));have HRQ:=hid (show w5.heap.size≠q by have:=ai (g5.heap Q4.out);omega);have HQW:=hid (show w.heap.size<=q by have:=HPW.out;have:=HNQ.out;omega);clear hs hso g5 gb Q4 K4 G4 RD h6 a6;go_upto_region 9 with (fail);rw[H6.out];clear H6;obtain⟨r,hr⟩:∃r,w5.heap.size=r:=⟨_,rfl⟩;rw[hr]at A6 HRQ;rw[hr];clear hr;obtain⟨xr,yr,zr⟩:=ed A6.out;obtain⟨xq,yq,zq⟩:=ed Q6.out;obtain⟨w7,h7,q7,g7,kp⟩:=setS8 s.a0 s.a1 s.a2 s.a3 s.a4 s.a5 s.a6 s.a7 Q6.out G6.out HQW.out;have H7:=hid h7;have Q7:=hid q7;have K7:=hid ((kp _ (by have:=HNQ.out;omega)).trans K6.out);have A7:=hid ((kp _ HRQ.out).trans A6.out);have G7:=hid g7;clear h7 q7 g7 kp;go_upto_region 10 with (fail);clear xr yr zr xq yq zq;rw[H7.out];clear H7;have he:∀u,(Op.equalIn 10000 39 (.agg (Yc s)) (.agg Zc)).run prog u= .ok (decide (s.l=aq)) u:=λu=>ge s.a0 s.a1 s.a2 s.a3 s.a4 s.a5 s.a6 s.a7 0 0 0 0 0 0 0 0 u;have NF:=hid (fun(h:∀s':S8,s'.ok->s'≠S8.zero->dg s'.l=tl->False)=>show ee ⟨l.toArray⟩=none from yf (λf ho hf=>by
     obtain⟨h1,_,h3⟩:=HCU.out.form hf;obtain⟨n',s',_,k1,k2,_,k3⟩:=HC.out.2.2.1 f ho h1.symm;exact h s' k1 k2 (k3.symm.trans h3.symm)))
    clear Q6 K6 A6 G6;obtain⟨xr,yr,zr⟩:=ed A7.out;rcases HS.out with ⟨rfl,hts⟩ | ⟨rfl,rfl,hno⟩
    case' inl=>
     by_cases hz:s.l=aq
     case' pos=>
      have NO:=hid (NF.out (λs' h1 h2 h3=>h2 (S8.l_inj ((kh rfl h1 rfl HSO.out (h3.trans hts.symm)).trans hz))));have K:=K7;have G:=G7;rw[decide_eq_true hz]at he;clear hts;go_upto_region 18 with (fail);clear he xr yr zr
     case' neg=>
      rw[decide_eq_false hz]at he;have WR:=hid (mn s HSO.out);change Hid (∀u,Calls prog 48 #[.agg (Yc s)] u λe w'=>e= .returned (sv (dg s.l))/\Gr u w')at WR;have HTS:=hid hts;have htl:(dg s.l).length<=1000:=Bj s.l rfl HSO.out;have HNZ:=hid hz;obtain⟨T2,hT2⟩:∃y,dg s.l=y:=⟨_,rfl⟩;have HT2:=hid hT2;rw[hT2]at WR htl;have hcat:(⟨R2.toArray⟩ ++ ⟨T2.toArray⟩:ByteArray)=⟨(R2 ++ T2).toArray⟩:=nk R2 T2;have l2:¬9223372036854775807 < R2.length+T2.length:=by have:=HR2L.out;omega
      clear hT2 hts htl hz;obtain⟨L2,hL2⟩:∃y,R2 ++ T2=y:=⟨_,rfl⟩;rw[hL2]at hcat;have HL2:=hid hL2;clear hL2;go_wp2_with fail;refine(WR.out _).mono ?_;rintro e w8 ⟨rfl,g8⟩;have Q8:=hid (g8.heap Q7.out);have K:=hid (g8.heap K7.out);have G:=hid (G7.out.trans g8);clear g8 he xr yr zr Q7 K7 G7 A7;have TX:L2=(con m s).text:=by
       rw[<-HL2.out,<-HR2.out,HR0.out,<-HT2.out,HC.out.1];simp
      by_cases hq:L2=l
      case' pos=>
       have hb9:(L2 == l)=true:=by simpa using hq
       have YES:=hid (zbh (HC.out.2.1 m s Yi Yi HSO.out λe=>HNZ.out (by rw[e];rfl)) (TX.symm.trans hq));clear TX;go_upto_region 11 with (fail);apply wp_region_lit;refine wpList_load_row rfl _ _ rfl q rfl _ #[sv wd,Yp (m:Nat),s.a0,s.a1,s.a2,s.a3,s.a4,s.a5,s.a6,s.a7,Ys 0,Yp 0,Yq 0,Yq 0,Yq 0,Yq 0,Yq 0,Yq 0,Yq 0,Yq 0] _ _ Q8.out underlying56 rfl Yh ?_;refine wpList_store_row rfl _ _ _ rfl b #[sv wd,Yp (m:Nat),s.a0,s.a1,s.a2,s.a3,s.a4,s.a5,s.a6,s.a7,Ys 0,Yp 0,Yq 0,Yq 0,Yq 0,Yq 0,Yq 0,Yq 0,Yq 0,Yq 0] rfl rfl _ cz K.out Yh (by rw[hcz];rfl) (by simp[Value.oneCell']) ?_;simp only[Act.put];obtain⟨V,hV,f2,hgr⟩:=Bk #[sv wd,Yp (m:Nat),s.a0,s.a1,s.a2,s.a3,s.a4,s.a5,s.a6,s.a7,Ys 0,Yp 0,Yq 0,Yq 0,Yq 0,Yq 0,Yq 0,Yq 0,Yq 0,Yq 0] K.out G.out HPW.out;rw[hV];have hld:=run_loadVar_row (P:=prog) _ b 56 56 _ (0,0) _ f2 underlying56 rfl Yh;go_wp2_with fail;exact bodyPost_ret (v:= .agg #[sv wd,Yp (m:Nat),s.a0,s.a1,s.a2,s.a3,s.a4,s.a5,s.a6,s.a7,Ys 0,Yp 0,Yq 0,Yq 0,Yq 0,Yq 0,Yq 0,Yq 0,Yq 0,Yq 0]) (by simp[results,results15,asAddr,hld]) rfl ⟨by rw[YES.out,Ov,HC.out.2.2.2];rfl,hgr⟩
      case' neg=>
       have hb9:(L2 == l)=false:=by simpa using hq
       have NO:=hid (show ee ⟨l.toArray⟩=none from yf (λf ho hf=>by
        obtain⟨h1,_,h3⟩:=HCU.out.form hf;have h4:=HCU.out.num hf ho;obtain⟨n',s',rfl,k1,k2,k4,k3⟩:=HC.out.2.2.1 f ho h1.symm;have h5:=S8.l_inj (kh rfl k1 rfl HSO.out (k3.symm.trans (h3.symm.trans HTS.out.symm)));subst h5;have h6:m=n':=by
         have:=HNV.out;omega
        subst h6;exact hq (TX.trans hf)))
       clear TX;go_upto_region 18 with (fail)
    case' inr=>
     have NO:=hid (NF.out (λs' h1 h2 h3=>hno s' h1 h3));have K:=K7;have G:=G7;clear hno;go_upto_region 18 with (fail);clear he xr yr zr
  case' nosol=>
   refine dite (wd=[100,111]) (λh3=>?dor) (λh3=>?other)
   case' dor=>
    subst h3;have h32:(⟨R.toArray⟩ ++ ⟨#[32]⟩:ByteArray)=⟨(R ++ [32]).toArray⟩:=nk R [32];go_upto_region 7 with (fail);clear h32;have hR2:=hid (show R ++ [32]=R ++ [32]from rfl);obtain⟨R2,hR2e⟩:∃x,R ++ [32]=x:=⟨_,rfl⟩;have HR2:=hid hR2e;have HR2L:=hid (show R2.length<=1101 by rw[<-hR2e];simp;exact HRL.out);rw[hR2e];clear hR2e hR2;have RD:=hid (Kb tl (by have:=HST.out;omega) w4);go_wp2_with fail;refine(RD.out).mono ?_;rintro e w5 ⟨⟨x,er,he,hso,hs⟩,g5⟩;rw[show x.cs.toArray=(#[.int .u8 x.k,.int .i64 x.p,x.c.a0,x.c.a1,x.c.a2,x.c.a3,x.c.a4,x.c.a5,x.c.a6,x.c.a7]:Array Value)from rfl]at he;subst he;have HS:=hid hs;have HSO:=hid hso;obtain⟨w6,h6,gb,a6⟩:∃V,w5.alloc (.cells #[Ys x.k,Yp x.p,x.c.a0,x.c.a1,x.c.a2,x.c.a3,x.c.a4,x.c.a5,x.c.a6,x.c.a7] 54)=V/\Gr w5 V/\V.heap[w5.heap.size]?=some (.cells #[Ys x.k,Yp x.p,x.c.a0,x.c.a1,x.c.a2,x.c.a3,x.c.a4,x.c.a5,x.c.a6,x.c.a7] 54):=⟨_,rfl,(Yu w5).alloc _,ae w5 _⟩;have H6:=hid h6;have A6:=hid a6;have Q6:=hid (gb.heap (g5.heap Q4.out));have K6:=hid (gb.heap (g5.heap K4.out));have G6:=hid (G4.out.trans (g5.trans gb));have HRQ:=hid (show w5.heap.size≠q by have:=ai (g5.heap Q4.out);omega);have HQW:=hid (show w.heap.size<=q by have:=HPW.out;have:=HNQ.out;omega);clear hs hso g5 gb Q4 K4 G4 RD h6 a6;go_upto_region 14 with (fail);rw[H6.out];clear H6;obtain⟨r,hr⟩:∃r,w5.heap.size=r:=⟨_,rfl⟩;rw[hr]at A6 HRQ;rw[hr];clear hr;obtain⟨xr,yr,zr⟩:=ed A6.out;obtain⟨xq,yq,zq⟩:=ed Q6.out;obtain⟨w7,h7,q7,g7,kp⟩:=zab (Ys x.k) (Yp x.p) x.c.a0 x.c.a1 x.c.a2 x.c.a3 x.c.a4 x.c.a5 x.c.a6 x.c.a7 Q6.out G6.out HQW.out;have H7:=hid h7;have Q7:=hid q7;have K7:=hid ((kp _ (by have:=HNQ.out;omega)).trans K6.out);have A7:=hid ((kp _ HRQ.out).trans A6.out);have G7:=hid g7;clear h7 q7 g7 kp;go_upto_region 15 with (fail);clear xr yr zr xq yq zq;rw[H7.out];clear H7;have WR:=hid (λu=>nv x.k x.p x.c.a0 x.c.a1 x.c.a2 x.c.a3 x.c.a4 x.c.a5 x.c.a6 x.c.a7 HSO.out u);change Hid (∀u,Calls prog 50 #[.agg #[Ys x.k,Yp x.p,x.c.a0,x.c.a1,x.c.a2,x.c.a3,x.c.a4,x.c.a5,x.c.a6,x.c.a7]] u λe w'=>e= .returned (if okA 8 x.k x.p x.c.l=true then .tuple #[sv (dl x.k x.p x.c.l),Yp 0]else .tuple #[.string ⟨#[]⟩,Yp 1])/\Gr u w')at WR;have NF:=hid (fun(h:∀y:Ac,y.ok->dl y.k y.p y.c.l=tl->False)=>show ee ⟨l.toArray⟩=none from yf (λf ho hf=>by
     obtain⟨h1,_,h3⟩:=HCU.out.form hf;cases f with
     | act n' y=>exact h y ⟨ho.2.2.1,ho.2.2.2⟩ h3.symm
     | new _ _=>cases h1
     | keep _ _=>cases h1))
    clear Q6 K6 A6 G6;obtain⟨xr,yr,zr⟩:=ed A7.out;rcases HS.out with ⟨rfl,hxo,hts⟩ | ⟨rfl,hxn,hno⟩
    case' inl=>
     rw[if_pos hxo.2]at WR;have HXO:=hid hxo;have HTS:=hid hts;have htl:(dl x.k x.p x.c.l).length<=1000:=by rw[hts];exact HST.out
     obtain⟨T2,hT2⟩:∃y,dl x.k x.p x.c.l=y:=⟨_,rfl⟩;have HT2:=hid hT2;rw[hT2]at WR htl;have hcat:(⟨R2.toArray⟩ ++ ⟨T2.toArray⟩:ByteArray)=⟨(R2 ++ T2).toArray⟩:=nk R2 T2;have l2:¬9223372036854775807 < R2.length+T2.length:=by have:=HR2L.out;omega
     clear hT2 hts htl hxo;obtain⟨L2,hL2⟩:∃y,R2 ++ T2=y:=⟨_,rfl⟩;rw[hL2]at hcat;have HL2:=hid hL2;clear hL2;go_wp2_with fail;refine(WR.out _).mono ?_;rintro e w8 ⟨rfl,g8⟩;have Q8:=hid (g8.heap Q7.out);have K:=hid (g8.heap K7.out);have G:=hid (G7.out.trans g8);clear g8 xr yr zr Q7 K7 G7 A7;have TX:L2=(Fm.act m x).text:=by
      rw[<-HL2.out,<-HR2.out,HR0.out,<-HT2.out];simp[Fm.text]
     by_cases hq:L2=l
     case' pos=>
      have hb9:(L2 == l)=true:=by simpa using hq
      have YES:=hid (zbh (f:= .act m x) ⟨Yi,Yi,HXO.out.1,HXO.out.2⟩ (TX.symm.trans hq));clear TX;go_upto_region 17 with (fail);apply wp_region_lit;refine wpList_load_row rfl _ _ rfl q rfl _ (Zx m x) _ _ Q8.out underlying56 rfl Yh ?_;refine wpList_store_row rfl _ _ _ rfl b (Zx m x) rfl rfl _ cz K.out Yh (by rw[hcz];rfl) (by simp[Value.oneCell']) ?_;simp only[Act.put];obtain⟨V,hV,f2,hgr⟩:=Bk (Zx m x) K.out G.out HPW.out;rw[hV];have hld:=run_loadVar_row (P:=prog) _ b 56 56 _ (0,0) _ f2 underlying56 rfl Yh;go_wp2_with fail;exact bodyPost_ret (v:= .agg (Zx m x)) (by simp[results,results15,asAddr,hld]) rfl ⟨J8 YES.out rfl,hgr⟩
     case' neg=>
      have hb9:(L2 == l)=false:=by simpa using hq
      have NO:=hid (show ee ⟨l.toArray⟩=none from yf (λf ho hf=>by
       obtain⟨h1,_,h3⟩:=HCU.out.form hf;have h4:=HCU.out.num hf ho;cases f with
       | act n' y=>
        have h5:=Jn ho.2.2.2 ho.2.2.1 HXO.out.2 HXO.out.1 (h3.symm.trans HTS.out.symm);subst h5;have h6:m=n':=by
         have:=HNV.out;simp only[Fm.num]at h4;omega
        subst h6;exact hq (TX.trans hf)
       | new _ _=>cases h1
       | keep _ _=>cases h1))
      clear TX;go_upto_region 18 with (fail)
    case' inr=>
     have NO:=hid (NF.out (λy h1 h2=>hno y h1 h2));have hok0:okA 8 x.k x.p x.c.l=false:=by rw[hxn];rfl
     rw[hok0,if_neg Yj]at WR;clear hno hxn hok0;go_wp2_with fail;refine(WR.out _).mono ?_;rintro e w8 ⟨rfl,g8⟩;have K:=hid (g8.heap K7.out);have G:=hid (G7.out.trans g8);clear g8 xr yr zr Q7 K7 G7 A7;go_upto_region 18 with (fail)
   case' other=>
    have NO:=hid (show ee ⟨l.toArray⟩=none from yf (λf ho hf=>by
     have h:=(HCU.out.form hf).1;cases f with
     | new _ _=>exact hw (Or.inl h)
     | keep _ _=>exact hw (Or.inr h)
     | act _ _=>exact h3 h))
    have hb1:(wd == [110,101,119])=false:=by simpa using λh=>hw (Or.inl h)
    have hb2:(wd == [107,101,101,112])=false:=by simpa using λh=>hw (Or.inr h)
    have hb3:(wd == [100,111])=false:=by simpa using h3
    have K:=K4;have G:=G4;clear hw h3;go_upto_region 18 with (fail)
 all_goals
  apply wp_region_lit;refine wpList_plain rfl λ_ hK=>?_;go_simp;refine hK _ _ ?_;clear hK;refine wpList_store_row rfl _ _ _ rfl b Za rfl rfl _ cz K.out Yh (by rw[hcz];rfl) (by simp[Value.oneCell']) ?_;simp only[Act.put];obtain⟨V,hV,f2,hgr⟩:=Bk Za K.out G.out HPW.out;rw[hV];have hld:=run_loadVar_row (P:=prog) _ b 56 56 _ (0,0) _ f2 underlying56 rfl Yh;go_wp2_with fail;exact bodyPost_ret (v:= .agg Za) (by simp[results,results15,asAddr,hld]) rfl ⟨J8 NO.out rfl,hgr⟩
theorem Ol {α:Type} (p:α->Bool) {l:List α} {i:Nat} (hi:i < l.length) (h:p l[i]=true) (hb:∀j (hj:j < l.length),j < i->p l[j]=false):l.findIdx? p=some i:=by
 rw[List.findIdx?_eq_some_iff_getElem];exact⟨hi,h,λj hj=>by simpa using hb j Yi hj⟩
theorem Oj {α:Type} (p:α->Bool) {l:List α} (hb:∀j (hj:j < l.length),p l[j]=false):l.findIdx? p=none:=by
 rw[List.findIdx?_eq_none_iff];intro x hx;obtain⟨j,hj,rfl⟩:=List.mem_iff_getElem.1 hx;exact hb j hj
def atK (K:List Kp) (id:Int):Int:=match gh K id with | some i=>(i:Nat) | none=> -1
theorem S9 (base:Nat) (v:Value) (Q:List Q3) (id:Int) (w:World) (hB:az w base v Q) (hql:Q.length<=1000):
  Calls prog 90 #[.agg #[v],Yp id] w λe w'=>e= .returned (Yp (atK (Q.map Q3.k) id))/\Gr w w':=by
 have h0:=ae w (.cells #[v] 27);have g0:=(Yu w).alloc (.cells #[v] 27);have GI:=hid g0;have H0:=hid h0;have HR:=hid (hB.r.gr1 g0);obtain⟨a,cap,rfl,hcap⟩:=aj hB.r;clear h0 g0 hB;obtain⟨R,hR⟩:∃R,atK (Q.map Q3.k) id=R:=⟨_,rfl⟩;have HR1:Hid (∀i (hi:i < Q.length),Q[i].k.id=id->(∀j (hj:j < Q.length),j < i->Q[j].k.id≠id)->R=(i:Nat)):=hid (λi hi h1 h2=>by
  rw[<-hR];unfold atK gh;rw[Ol (i:=i) _ (by simpa using hi) (by simpa using h1) (λj hj hji=>by simpa using h2 j (by simpa using hj) hji)])
 have HR0:Hid ((∀j (hj:j < Q.length),Q[j].k.id≠id)->R= -1):=hid (λh2=>by
  rw[<-hR];unfold atK gh;rw[Oj _ (λj hj=>by simpa using h2 j (by simpa using hj))])
 rw[hR];clear hR;go_enter func90,ntmps90;go_wp2;generalize w.alloc (.cells #[.slice a Q.length cap] 27)=W at *;obtain⟨pb,hpb⟩:∃b,w.heap.size=b:=⟨_,rfl⟩;rw[hpb]at H0;rw[hpb];clear hpb;go_loopw [5] (λu wr=>∃i:Nat,u= .int .i64 i/\i<=Q.length/\Hid (∀j (hj:j < Q.length),j < i->Q[j].k.id≠id)/\Gr W wr) (λu _=>Q.length - (intOf u).toNat)
 case atStart=>exact⟨0,rfl,Yi,hid (λj hj h=>absurd h (Nat.not_lt_zero _)),Yu _⟩
 case round=>
  obtain⟨i,rfl,hi,hall,gr⟩:=hrel;have G:=hid (GI.out.trans gr);have HG:=hid gr;obtain⟨c_,f_,z_⟩:=ed (gr.heap H0.out)
  by_cases hil:i < Q.length
  ·have hil':(i:Int) < Q.length:=Yi;have hi0:(0:Int)<=i:=Yi;have hrow:=HR.out.gr1 gr;obtain⟨g,rfl⟩:∃g,a=some ⟨g,0,none⟩:=by
    rcases hrow.2 with ⟨_,hz⟩ | ⟨g,cap,cur,e,_⟩
    ·omega
    ·cases e;exact⟨g,rfl⟩
   have hc0:=gc Q3.cs 13 Q3.cs_len hrow i 0 hil Yk (Yp Q[i].k.id) rfl;rw[Nat.add_zero]at hc0;clear gr hrow;obtain⟨y,hy⟩:∃y,Q[i].k.id=y:=⟨_,rfl⟩;rw[hy]at hc0;have HY:=hid hy;clear hy
   by_cases hn:y=id
   ·have HN:=hid hn;subst hn;go_wp2_with fail;go_ret;refine⟨?_,G.out⟩;rw[HR1.out i hil HY.out hall.out];rfl
   ·have hn':(y == id)=false:=by simpa using hn
    have HN:=hid hn;go_wp2_with fail;exact⟨⟨i+1,Yj,Yi,hid (λj hj h=>by
     by_cases e:j=i
     ·subst e;rw[HY.out];exact HN.out
     ·exact hall.out j hj Yi),HG.out⟩,by simp[intOf];omega⟩
  ·have hil':¬(i:Int) < Q.length:=Yi;clear gr;go_wp2;go_ret;refine⟨?_,G.out⟩;rw[HR0.out (λj hj=>hall.out j hj Yi)];rfl
theorem zbt {w:World} {base:Nat} {a:Option Addr} {cap:Nat} {l:List Nat} (h:w.ownsRow base 29 1 (.slice a l.length cap) l.length (l.flatMap m8)) (i:Nat) (hi:i < l.length):∃g,a=some ⟨g,0,none⟩/\g < w.heap.size/\w.cell? ⟨g,i,none⟩=some (.int .i64 (l[i]:Nat)):=by
 have h':=h;rcases h.2 with ⟨h0,hz⟩ | ⟨g,c,cur,e,_⟩
 ·omega
 ·cases e;have:=gc m8 1 (λ_=>rfl) h' i 0 hi Yk _ rfl;rw[Nat.mul_one,Nat.add_zero]at this;exact⟨g,rfl,(h'.lt g rfl).2,this⟩
theorem Cn (b1 b2:Nat) (x y:Value) (l:List Nat) (w:World) (hx:w.ownsRow b1 29 1 x l.length (l.flatMap m8)) (hy:w.ownsRow b2 29 1 y l.length (l.flatMap m8)) (hl:l.length<=1000000):
  Calls prog 11 #[x,y] w λe w'=>e= .returned (.bool true)/\Gr w w':=by
 obtain⟨a,c,rfl,_⟩:=aj hx;obtain⟨a',c',rfl,_⟩:=aj hy;have HX:=hid (λi hi=>zbt hx i hi);have HY:=hid (λi hi=>zbt hy i hi);clear hx hy;go_enter func11,ntmps11;go_wp2;go_loopw [5] (λu wr=>∃i:Nat,u= .int .i64 i/\i<=l.length/\Gr w wr) (λu _=>l.length - (intOf u).toNat)
 case atStart=>exact⟨0,rfl,Yi,Yu _⟩
 case round=>
  obtain⟨i,rfl,hi,gr⟩:=hrel
  by_cases hil:i < l.length
  ·have hil':(i:Int) < l.length:=Yi;have hi0:(0:Int)<=i:=Yi;obtain⟨g,rfl,hg,hc⟩:=HX.out i hil;obtain⟨g',rfl,hg',hc'⟩:=HY.out i hil;generalize l[i]=e at *;have HC:=hid hc;have HC':=hid hc';have HG:=hid gr;clear hc hc' gr;go_upto_region 6 with (fail);refine ah [.val (.slice (Yn g) l.length c),.val (Yp i),.val (.pointer (some ⟨g,i,none⟩)),.val (Yp e),.val (.slice (Yn g') l.length c'),.val (Yp i),.val (.pointer (some ⟨g',i,none⟩)),.val (Yp e),.val (.bool false)] Yh Yh (λV=>finT) ?_ ?_
   ·refine⟨?_,?_,?_,?_,?_,?_,?_,?_,?_,trivial⟩
    all_goals (intro V u hu hk;refine⟨Yh,?_⟩;have k0:=((HG.out.trans hu).cells.1 g i hg).trans HC.out;have k1:=((HG.out.trans hu).cells.1 g' i hg').trans HC'.out;go_simp;first | exact⟨rfl,Yu _⟩ | skip)
   ·intro V u hg2 hs;have HG2:=hid (HG.out.trans hg2);clear hs hg2;go_wp2_with fail;exact⟨⟨i+1,Yj,Yi,HG2.out⟩,by simp[intOf];omega⟩
  ·have hil':¬(i:Int) < l.length:=Yi;go_wp2_with fail;go_ret;exact⟨rfl,gr⟩
def BehH (base:Nat) (pt:List Value) (A B:List Ac) (v:Value) (u:World):Prop:=∃y,v= .agg (pt ++ [y]).toArray/\u.ownsRow base 54 10 y (A.length+B.length) (A.flatMap Ac.cs ++ B.flatMap Ac.cs)
theorem Ke (p0 p1 p2 p3 p4 p5 p6 p7:Nat) (pa:Option Addr) (pn pc:Nat) (aa:Option Addr) (ac:Nat) (A B:List Ac) (bv:Value) (w:World) (ha:bo w 10 (.slice aa A.length ac) (A.map Ac.cs)) (hb:bo w 10 bv (B.map Ac.cs)) (hl:A.length+B.length<=100000):
  Calls prog 155 #[.agg #[p0,p1,p2,p3,p4,p5,p6,p7,.slice pa pn pc,.slice aa A.length ac],bv] w λe w'=>∃y,e= .returned (.agg #[p0,p1,p2,p3,p4,p5,p6,p7,.slice pa pn pc,y])/\w'.ownsRow w.heap.size 54 10 y (A.length+B.length) ((A ++ B).flatMap Ac.cs)/\Gr w w':=by
 have gI:=((Yu w).alloc (.cells #[p0,p1,p2,p3,p4,p5,p6,p7,.slice pa pn pc,.slice aa A.length ac] 45)).alloc (.cells Zd 45);have h1:=ae (w.alloc (.cells #[p0,p1,p2,p3,p4,p5,p6,p7,.slice pa pn pc,.slice aa A.length ac] 45)) (.cells Zd 45);have h0:=((Yu _).alloc (.cells Zd 45)).heap (ae w (.cells #[p0,p1,p2,p3,p4,p5,p6,p7,.slice pa pn pc,.slice aa A.length ac] 45));rw[World.size_alloc]at h1;have GI:=hid gI;have H0:=hid h0;have H1:=hid h1;have HA:=hid (ha.gr gI);have HB:=hid (hb.gr gI);clear gI h0 h1 ha hb;go_enter func155,ntmps155;go_upto_region 1 with (fail);generalize (w.alloc (.cells #[p0,p1,p2,p3,p4,p5,p6,p7,.slice pa pn pc,.slice aa A.length ac] 45)).alloc (.cells Zd 45)=W at *;obtain⟨p,hp⟩:∃p,w.heap.size=p:=⟨_,rfl⟩;have HPW:=hid hp;rw[hp]at H0 H1;rw[hp];clear hp;refine bm [9] (λu=>Gr W u) (λ_=>True) [5,7] (λu u' h g=>h.trans g) (λu u' h g=>trivial) (Yu _) trivial Yh [.val (Ym p),.val (.agg #[p0,p1,p2,p3,p4,p5,p6,p7,.slice pa pn pc]),.sat (λv u=>u.ownsRow W.heap.size 54 10 v 0 []),.val (.pointer (some ⟨p,9,none⟩)),.val (.slice aa A.length ac),.turn (λv u=>u.ownsRow W.heap.size 54 10 v A.length (A.flatMap Ac.cs)) [2],.val bv,.turn (λv u=>u.ownsRow W.heap.size 54 10 v (A.length+B.length) (A.flatMap Ac.cs ++ B.flatMap Ac.cs)) [2,5],.sat (BehH W.heap.size [p0,p1,p2,p3,p4,p5,p6,p7,.slice pa pn pc] A B),.later] Yh Yh (λV=>finT) ?_ ?_
 ·refine⟨?_,?_,?_,?_,?_,?_,?_,?_,?_,trivial,trivial⟩
  iterate 2 ·(intro V u hu hj hk;refine⟨Yh,?_⟩;obtain⟨c_,f_,z_⟩:=ed (hu.heap H0.out);go_simp;first | exact⟨rfl,Yu _⟩ | skip)
  ·refine⟨λv u u1 h g=>h.gr1 g,λV u hu hj hk=>⟨Yh,?_⟩⟩;go_simp;exact⟨yd hu.b.size (ae _ _),(Yu _).alloc _⟩
  iterate 2 ·(intro V u hu hj hk;refine⟨Yh,?_⟩;obtain⟨c_,f_,z_⟩:=ed (hu.heap H0.out);go_simp;first | exact⟨rfl,Yu _⟩ | skip)
  ·refine⟨λv u u1 h g=>h.gr1 g,λV u hu hj hk=>⟨Yh,?_⟩⟩;refine ju (R:=λu=>Gr W u) (J:=λ_=>True) (dj:=[5,7]) (k:=5) (drop:=[2]) (V:=V) (u:=u) Yh Yh ?_;have h2:=hk 2 (λv u=>u.ownsRow W.heap.size 54 10 v 0 []) Yh Yh;obtain⟨v',u',hr,h1,h3⟩:=dw Ac.cs Ac.cs_len Ac.cs_one Oy u W.heap.size 43 (V 2) 0 _ h2 (.slice aa A.length ac) A (HA.out.gr hu) Yi Yk hu.b.size;exact ar _ _ 43 43 rfl _ _ rfl rfl hr ⟨by simpa using h1,GrL.gr hu h3 (λi hi=>(h2.lt i (by simpa using hi)).1)⟩
  ·(intro V u hu hj hk;refine⟨Yh,?_⟩;obtain⟨c_,f_,z_⟩:=ed (hu.heap H0.out);go_simp;first | exact⟨rfl,Yu _⟩ | skip)
  ·refine⟨λv u u1 h g=>h.gr1 g,λV u hu hj hk=>⟨Yh,?_⟩⟩;refine ju (R:=λu=>Gr W u) (J:=λ_=>True) (dj:=[5,7]) (k:=7) (drop:=[2,5]) (V:=V) (u:=u) Yh Yh ?_;have h5:=hk 5 (λv u=>u.ownsRow W.heap.size 54 10 v A.length (A.flatMap Ac.cs)) Yh Yh;obtain⟨v',u',hr,h1,h3⟩:=dw Ac.cs Ac.cs_len Ac.cs_one Oy u W.heap.size 43 (V 5) A.length _ h5 bv B (HB.out.gr hu) Yi Yk hu.b.size;exact ar _ _ 43 43 rfl _ _ rfl rfl hr ⟨h1,GrL.gr hu h3 (λi hi=>(h5.lt i (by simpa using hi)).1)⟩
  ·refine⟨λv u u1 h g=>?_,λV u hu hj hk=>⟨Yh,?_⟩⟩
   ·obtain⟨y,h1,h2⟩:=h;exact⟨y,h1,h2.gr1 g⟩
   ·have h7:=hk 7 (λv u=>u.ownsRow W.heap.size 54 10 v (A.length+B.length) (A.flatMap Ac.cs ++ B.flatMap Ac.cs)) Yh Yh;obtain⟨xa,xc,hx,_⟩:=aj h7;have H7:=hid h7;obtain⟨y,hy⟩:∃y,V 7=y:=⟨_,rfl⟩;rw[hy]at hx H7;subst hx;go_simp;exact⟨⟨_,rfl,H7.out⟩,Yu _⟩
 ·intro V u hg hs;obtain⟨y,e8,hy⟩:=hs 8 (BehH W.heap.size [p0,p1,p2,p3,p4,p5,p6,p7,.slice pa pn pc] A B) rfl;obtain⟨xa,xc,hx,_⟩:=aj hy;have hq:=hg.heap H1.out;refine⟨⟨none,_,_,_,_,_⟩,rfl,rfl,?_⟩;refine wp_store_row _ _ _ rfl (p+1) #[p0,p1,p2,p3,p4,p5,p6,p7,.slice pa pn pc,y] rfl e8 _ _ hq Yh rfl (by rw[hx];simp[Value.oneCell']) ?_;refine Fa.fin ?_;generalize V 2=w2 at *;generalize V 5=w5 at *;generalize V 7=w7 at *;generalize V 8=w8 at *;subst e8;dsimp only[Act.put];have f2:=setRow_heap u (p+1) _ #[p0,p1,p2,p3,p4,p5,p6,p7,.slice pa pn pc,y] _ _ hq;have hld:=run_loadVar_row (P:=prog) _ (p+1) 45 45 _ (0,0) _ f2 underlying45 rfl Yh;have hys:=tu hy (q:=p+1) (λe=>by
   obtain⟨c,h1⟩:=bi hy e;rw[hq]at h1;simp at h1) #[p0,p1,p2,p3,p4,p5,p6,p7,.slice pa pn pc,y]
  have hgr:=(GI.out.trans hg).setRow (p+1) #[p0,p1,p2,p3,p4,p5,p6,p7,.slice pa pn pc,y] (by have:=HPW.out;omega);go_wp2_with fail;exact bodyPost_ret (v:= .agg #[p0,p1,p2,p3,p4,p5,p6,p7,.slice pa pn pc,y]) (by simp[results,results155,asAddr,hld]) rfl ⟨y,rfl,by rw[List.flatMap_append];exact hys.mono GI.out.b.size,hgr⟩
theorem Nt (p0 p1 p2 p3 p4 p5 p6 p7:Nat) (pv:Value) (k:Nat) (pc:Int) (c0 c1 c2 c3 c4 c5 c6 c7:Nat) (w:World) (hk:(k:Int)=1):
  Calls prog 156 #[.agg #[p0,p1,p2,p3,p4,p5,p6,p7,pv],.agg #[Ys k,Yp pc,c0,c1,c2,c3,c4,c5,c6,c7]] w λe w'=>e= .returned (.agg #[c0,c1,c2,c3,c4,c5,c6,c7])/\Gr w w':=by
 have h0:=ae w (.cells #[p0,p1,p2,p3,p4,p5,p6,p7,pv] 42);have h1:=ae (w.alloc (.cells #[p0,p1,p2,p3,p4,p5,p6,p7,pv] 42)) (.cells #[Ys k,Yp pc,c0,c1,c2,c3,c4,c5,c6,c7] 54);have h2:=ae ((w.alloc (.cells #[p0,p1,p2,p3,p4,p5,p6,p7,pv] 42)).alloc (.cells #[Ys k,Yp pc,c0,c1,c2,c3,c4,c5,c6,c7] 54)) (.cells Zc 39);have gI:=(((Yu w).alloc (.cells #[p0,p1,p2,p3,p4,p5,p6,p7,pv] 42)).alloc (.cells #[Ys k,Yp pc,c0,c1,c2,c3,c4,c5,c6,c7] 54)).alloc (.cells Zc 39);have h1:=((Yu _).alloc (.cells Zc 39)).heap h1;have h0:=(((Yu _).alloc (.cells #[Ys k,Yp pc,c0,c1,c2,c3,c4,c5,c6,c7] 54)).alloc (.cells Zc 39)).heap h0;simp only[World.size_alloc]at h1 h2;have GI:=hid gI;have H0:=hid h0;have H1:=hid h1;have H2:=hid h2;have HK:=hid hk;clear gI h0 h1 h2 hk;go_enter func156,ntmps156;go_upto_region 1 with (fail);generalize ((w.alloc (.cells #[p0,p1,p2,p3,p4,p5,p6,p7,pv] 42)).alloc (.cells #[Ys k,Yp pc,c0,c1,c2,c3,c4,c5,c6,c7] 54)).alloc (.cells Zc 39)=W at *;obtain⟨p,hp⟩:∃p,w.heap.size=p:=⟨_,rfl⟩;have HPW:=hid hp;rw[hp]at H0 H1 H2;rw[hp];clear hp;obtain⟨x0,y0,z0⟩:=ed H0.out;obtain⟨x1,y1,z1⟩:=ed H1.out;have hk:=HK.out;go_upto_region 2 with (fail);apply wp_region_lit;refine wpList_plain rfl λ_ hK=>?_;go_simp;refine hK _ _ ?_;clear hK;refine wpList_load_mid rfl 39 (.tmp 8) rfl (p+1) 2 rfl [c0,c1,c2,c3,c4,c5,c6,c7] _ (λj v hv=>by
  have:=x1 (2+j);rw[this,Nat.add_comm];simpa using hv) underlying39 rfl Yh ?_
 refine wpList_store_row rfl 39 (.tmp 4) (.tmp 9) rfl (p+1+1) #[c0,c1,c2,c3,c4,c5,c6,c7] rfl rfl _ _ H2.out Yh rfl (by simp[Value.oneCell']) ?_;simp only[Act.put,List.setIfInBounds_toArray,List.set_cons_zero,List.set_cons_succ];have f2:=setRow_heap W (p+1+1) _ #[c0,c1,c2,c3,c4,c5,c6,c7] _ _ H2.out;have hld:=run_loadVar_row (P:=prog) _ (p+1+1) 39 39 _ (0,0) _ f2 underlying39 rfl Yh;have hgr:=GI.out.setRow (p+1+1) #[c0,c1,c2,c3,c4,c5,c6,c7] (by have:=HPW.out;omega);clear x0 y0 z0 x1 y1 z1;generalize W.setRow (p+1+1) #[c0,c1,c2,c3,c4,c5,c6,c7]=W2 at *;go_wp2_with fail;exact bodyPost_ret (v:= .agg #[c0,c1,c2,c3,c4,c5,c6,c7]) (by simp[results,results156,asAddr,hld]) rfl ⟨rfl,hgr⟩
theorem Hs (p0 p1 p2 p3 p4 p5 p6 p7:Nat) (L:List S8) (pv:Value) (k:Nat) (pn:Nat) (c0 c1 c2 c3 c4 c5 c6 c7:Nat) (w:World) (hv:bo w 8 pv (L.map S8.cs)) (hk:¬(k:Int)=1) (hp:pn < L.length):
  Calls prog 156 #[.agg #[p0,p1,p2,p3,p4,p5,p6,p7,pv],.agg #[Ys k,Yp (pn:Nat),c0,c1,c2,c3,c4,c5,c6,c7]] w λe w'=>e= .returned (.agg (L[pn].cs).toArray)/\Gr w w':=by
 have h0:=ae w (.cells #[p0,p1,p2,p3,p4,p5,p6,p7,pv] 42);have h1:=ae (w.alloc (.cells #[p0,p1,p2,p3,p4,p5,p6,p7,pv] 42)) (.cells #[Ys k,Yp (pn:Nat),c0,c1,c2,c3,c4,c5,c6,c7] 54);have h2:=ae ((w.alloc (.cells #[p0,p1,p2,p3,p4,p5,p6,p7,pv] 42)).alloc (.cells #[Ys k,Yp (pn:Nat),c0,c1,c2,c3,c4,c5,c6,c7] 54)) (.cells Zc 39);have gI:=(((Yu w).alloc (.cells #[p0,p1,p2,p3,p4,p5,p6,p7,pv] 42)).alloc (.cells #[Ys k,Yp (pn:Nat),c0,c1,c2,c3,c4,c5,c6,c7] 54)).alloc (.cells Zc 39);have h1:=((Yu _).alloc (.cells Zc 39)).heap h1;have h0:=(((Yu _).alloc (.cells #[Ys k,Yp (pn:Nat),c0,c1,c2,c3,c4,c5,c6,c7] 54)).alloc (.cells Zc 39)).heap h0;simp only[World.size_alloc]at h1 h2;have GI:=hid gI;have H0:=hid h0;have H1:=hid h1;have H2:=hid h2;have HK:=hid hk;obtain⟨a_,cap,hsl,hcap,hcell⟩:=hv.gr gI;simp only[List.length_map]at hsl hcap hcell;subst hsl;obtain⟨g,o,rfl,hg,hc⟩:=hcell pn hp;have HC:=hid (λj v (hj:(L[pn].cs)[j]?=some v)=>hc j v (by simpa using hj));obtain⟨s,hs⟩:∃s,L[pn]=s:=⟨_,rfl⟩;rw[hs]at HC ⊢;clear gI h0 h1 h2 hk hcell hc hv hs;go_enter func156,ntmps156;go_upto_region 1 with (fail);generalize ((w.alloc (.cells #[p0,p1,p2,p3,p4,p5,p6,p7,.slice (some ⟨g,o,none⟩) L.length cap] 42)).alloc (.cells #[Ys k,Yp (pn:Nat),c0,c1,c2,c3,c4,c5,c6,c7] 54)).alloc (.cells Zc 39)=W at *;obtain⟨p,hp⟩:∃p,w.heap.size=p:=⟨_,rfl⟩;have HPW:=hid hp;rw[hp]at H0 H1 H2;rw[hp];clear hp;obtain⟨x0,y0,z0⟩:=ed H0.out;obtain⟨x1,y1,z1⟩:=ed H1.out;have hk:=HK.out;have hpn':(pn:Int) < L.length:=Yi;have hpn0:(0:Int)<=pn:=Yi;go_upto_region 3 with (fail);apply wp_region_lit;(iterate 5 refine wpList_plain rfl λ_ hK=>?_;go_simp;refine hK _ _ ?_;clear hK);refine wpList_load_mid rfl 39 (.tmp 14) rfl g (o+pn * 8) rfl [s.a0,s.a1,s.a2,s.a3,s.a4,s.a5,s.a6,s.a7] _ (λj v hj=>HC.out j v hj) underlying39 rfl Yh ?_;refine wpList_store_row rfl 39 (.tmp 4) (.tmp 15) rfl (p+1+1) (Yc s) rfl rfl _ _ H2.out Yh rfl (by simp[Value.oneCell']) ?_;simp only[Act.put,List.setIfInBounds_toArray,List.set_cons_zero,List.set_cons_succ];have f2:=setRow_heap W (p+1+1) _ (Yc s) _ _ H2.out;have hld:=run_loadVar_row (P:=prog) _ (p+1+1) 39 39 _ (0,0) _ f2 underlying39 rfl Yh;have hgr:=GI.out.setRow (p+1+1) (Yc s) (by have:=HPW.out;omega);clear x0 y0 z0 x1 y1 z1;generalize W.setRow (p+1+1) (Yc s)=W2 at *;go_wp2_with fail;exact bodyPost_ret (v:= .agg (Yc s)) (by simp[results,results156,asAddr,hld]) rfl ⟨rfl,hgr⟩
end
end Go.Proofs.YtimcfaoabaflkaaGreatDoor
