/- loft/disk.go: sum, of any bytes that stand in a block. -/
import Derived.Test.YtimcfaoabaflkaaGreatDoorLSum0
namespace Go.Proofs.YtimcfaoabaflkaaGreatDoor
open AbA AbI
set_option maxHeartbeats 80000000
set_option maxRecDepth 100000
open Go.Proofs.Tryz
open Go.RowKit Go.Shelf
theorem Xr {P:Prop} (h:P:=by
 (first | exact trivial | exact osGr | (refine⟨osK,?_⟩;intro V u hu hk;refine⟨Yh,aw Yh ?_⟩;obtain⟨hc,hf,hz⟩:=hu.cells;go_simp;skip) | (refine⟨osK,?_⟩;intro V u hu hk;refine⟨Yh,?_⟩;obtain⟨hc,hf,hz⟩:=hu.cells;go_simp;skip) | (intro V u hu hk;refine⟨Yh,?_⟩;obtain⟨hc,hf,hz⟩:=hu.cells;go_simp;first | exact⟨rfl,Yu _⟩ | skip) | (intro V u hu hk;show _=false;kernel_rfl))):P:=h
theorem Ka {w w':World} {b o:Nat} {cs:List Value} (h:w.rangeAt b o cs) (g:Gr w w'):w'.rangeAt b o cs:=λj v hv=>by
 have:=h j v hv;exact(g.cells.1 b (o+j) (World.block_lt_of_cell? w _ this)).trans this
theorem Qa (g o cap:Nat) (zs:List Int) (w:World) (hr:w.rangeAt g o (zs.map (Value.int .u8))) (hl:zs.length<=1000000):
  Calls prog 171 #[.slice (some ⟨g,o,none⟩) zs.length cap] w λe w'=>∃v',e= .returned v'/\Fu w' w.heap.size v' zs/\Gr w w':=by
 obtain⟨i0,hi,hz0,hz1,hz2⟩:=info_parts Il;refine(AnyE.slices_Clone Tryz.cloneByte i0 _ 1 1 hi hz0 hz1 hz2 rfl Yi Tryz.sizeOf5 g o zs.length cap (zs.map (Value.int .u8)) w Yj (by unfold maxLen;omega) Yi (λj u hu=>hr j u hu) (u8_one zs)).mono ?_;rintro e w' ⟨v',rfl,h1,_,h2⟩;exact⟨v',rfl,h1,Gr.of_below h2⟩
theorem sum_gen (g o cap:Nat) (zs:List Int) (w:World) (hr:w.rangeAt g o (zs.map (Value.int .u8))) (hn:zs.length<=1000):
  Calls prog 108 #[.slice (some ⟨g,o,none⟩) zs.length cap] w λe w'=>(∃d:List Int,d.length=32/\e= .returned (.agg (d.map (Value.int .u8)).toArray))/\Gr w w':=by
 obtain⟨i0,hi,hz0,hz1,hz2⟩:=info_parts Il;have CL:=Hd (λw1 (gg:Gr w w1)=>Qa g o cap zs w1 (Ka hr gg) Yi);have RO:=Hd (λw=>Ss w);have hK:∃K:Array Value,(roundK.map (Value.int .u32)).toArray=K/\K.size=64/\K.all (·.oneCell')=true/\∃W:List Int,W.length=64/\K=(W.map (Value.int .u32)).toArray:=⟨_,rfl,rfl,zdo _,roundK,rfl,rfl⟩;obtain⟨K,hK1,hK2,hK3,hK4⟩:=hK;rw[hK1]at RO;clear hK1;have hst:=fun(W:World) (c:Array Value) (h:c.size=64)=>Ff K 64 hK2 hK3 W c 280 h;obtain⟨a,ha⟩:∃a,some (⟨g,o,none⟩:Addr)=a:=⟨_,rfl⟩;rw[ha]at CL ⊢;clear hr ha;go_enter func108,ntmps108;go_upto_region 1 with (fail);generalize hX:Obj.cells _ 153 (0,0)=X;have hX2:∃c:Array Value,X= .cells c 153 (0,0)/\c.size=32:=⟨_,hX.symm,rfl⟩;clear hX;obtain⟨c2,rfl,hc2⟩:=hX2;have b2':=ae w (.cells c2 153 (0,0));have g1:Gr w (w.alloc (.cells c2 153 (0,0))):=(Yu w).alloc _;have sz1:(w.alloc (.cells c2 153 (0,0))).heap.size=w.heap.size+1:=World.size_alloc _ _;generalize w.alloc (.cells c2 153 (0,0))=W1 at *;obtain⟨b2,hb2⟩:∃b,w.heap.size=b:=⟨_,rfl⟩;rw[hb2]at b2' sz1;rw[hb2];go_upto_region 2 with (fail);generalize hX:Obj.cells _ 279 (0,0)=X;have hX2:∃W:List Int,W.length=8/\X= .cells (W.map (Value.int .u32)).toArray 279 (0,0):=⟨[1779033703,3144134277,1013904242,2773480762,1359893119,2600822924,528734635,1541459225],rfl,hX.symm⟩;clear hX;have ub3:∀W:World,UB (W.alloc X) W.heap.size 8 279:=λW=>by
  obtain⟨L,hL,rfl⟩:=hX2;exact⟨L,hL,ae W _⟩
 have ub3:=ub3 W1;have g2:Gr W1 (W1.alloc X):=(Yu W1).alloc _;have sz2:(W1.alloc X).heap.size=W1.heap.size+1:=World.size_alloc _ _;generalize W1.alloc X=W2 at *;clear hX2;obtain⟨b3,hb3⟩:∃b,W1.heap.size=b:=⟨_,rfl⟩;rw[hb3]at ub3 sz1 sz2;obtain rfl:b3=b2+1:=sz1;have b2'':=g2.heap b2';have G:=g1.trans g2;clear b2' g1 g2 hb3;go_wp2_with fail;refine(RO.out _).mono ?_;rintro e w3 ⟨rfl,hg3⟩;have ub3':=ub3.gr hg3;have b2':=hg3.heap b2'';have sz3:b2+2<=w3.heap.size:=by have:=hg3.b.size;omega
 have G3:=G.trans hg3;clear ub3 b2'' G hg3 sz2;obtain⟨L4,hL4,rfl⟩:=hK4;have b4':UB (w3.alloc (.cells (L4.map (Value.int .u32)).toArray 280 (0,0))) w3.heap.size 64 280:=⟨L4,hL4,ae _ _⟩;have g4:Gr w3 (w3.alloc (.cells (L4.map (Value.int .u32)).toArray 280 (0,0))):=(Yu w3).alloc _;generalize (L4.map (Value.int .u32)).toArray=K at *;go_upto_region 3 with (fail);generalize w3.alloc (.cells K 280 (0,0))=W4 at *;have SB:xe w W4 b2 (b2+1) w3.heap.size:=⟨G3.trans g4,⟨c2,g4.heap b2',hc2⟩,ub3'.gr g4,b4',Nat.le_of_eq hb2,Yi,Yi⟩;generalize w3.heap.size=b4 at *;clear sz3 ub3' b2' G3 g4 b4' hst hK2 hK3 RO hL4;generalize b2+1=b3 at *;have HB2:=Hd hb2;clear hb2;obtain⟨B,hB⟩:∃B,W4.heap.size=B:=⟨_,rfl⟩;have hB4:b4 < B:=by rw[<-hB];exact SB.h4.lt
 go_wp2_with fail;refine(CL.out _ SB.g).mono ?_;rintro e w5 ⟨v5,rfl,hr5,hg5⟩;have SB5:=SB.gr hg5;rw[hB]at hr5;have hB5:B<=w5.heap.size:=by rw[<-hB];exact hg5.b.size
 unfold Fu at hr5;clear SB hg5 CL hB;go_wp2_with (at_builtin;refine wpList_append_own _ rfl _ _ 205 rfl B 5 i0 (Ys 0) 1 1 underlying205 hi hz0 hz1 hz2 rfl Yk _ _ _ rfl (hr5.alloc _) ⟨w5.heap.size,0,none⟩ 1 1 [Ys 128] rfl rfl (cell_one_new _ _ _) (by simp[Value.oneCell']) (by unfold maxLen;omega) Yi (by simp;omega) ?_;intro v6 w6 hown6 hgrow6 _);change World.grownBy _ _ v5.ownBlock at hgrow6;have SB6:xe w w6 b2 b3 b4:=(SB5.gr ((Yu _).alloc _)).grl (GrL.of_grown' hgrow6) (λi hi=>by have:=((hr5.alloc (.cells #[Ys 128] 5)).lt i (by simpa using hi)).1;omega);have hB6:B<=w6.heap.size:=by have:=hgrow6.size;rw[World.size_alloc]at this;omega
 have hown6':w6.ownsRow B 5 1 v6 (zs.length+1) ((zs ++ [128]).map (Value.int .u8)):=by simpa using hown6
 obtain⟨a6,c6,rfl⟩:=wc hown6;clear hr5 hgrow6 hown6 SB5 hB5;have L0:(zs ++ [128]).length=zs.length+1:=Yj;go_loopw [5] (λp wr=>∃ys a c,p= .slice a ys.length c/\Fu wr B (.slice a ys.length c) ys/\ys.length+(120 - ys.length % 64) % 64=(zs.length+1)+(120 - (zs.length+1) % 64) % 64/\xe w wr b2 b3 b4/\B<=wr.heap.size) (λp _=>(120 - p9 p % 64) % 64)
 case atStart=>exact⟨zs ++ [128],a6,c6,by rw[L0],by unfold Fu;rw[L0];exact hown6',by rw[L0],SB6,hB6⟩
 case round=>
  obtain⟨ys,a1,c1,rfl,hry,hle,SB,hBr⟩:=hrel;clear SB6 hB6 hown6' L0
  by_cases h56:ys.length % 64=56
  ·have q1:(((ys.length:Int) % 64) == 56)=true:=by simp;omega
   have q3:(((ys.length:Int) % 64) !=56)=false:=by simp;omega
   have q2:decide ((ys.length:Int) % 64=56)=true:=by simp;omega
   clear hi hz0 hz1 hz2;obtain⟨i0,hi,hz0,hz1,hz2⟩:=info_parts Il;have hlen:ys.length<=1064:=Yi;have h8:(ys.length+8) % 64=0:=Yi;go_wp2_with fail;obtain⟨N,hN⟩:∃N,ys.length=N:=⟨_,rfl⟩;have HN:=Hd hN;rw[hN]at hlen h8;clear q1 q2 q3 h56 hle hN;go_loopw [5,6] (λp q wr=>∃(j:Nat) (xs:List Int) (a:Option Addr) (c:Nat),p= .slice a xs.length c/\q= .int .i64 (56 - 8 * (j:Int))/\j<=8/\xs.length=N+j/\Fu wr B (.slice a xs.length c) xs/\xe w wr b2 b3 b4/\B<=wr.heap.size) (λ_ q _=>(intOf q+8).toNat)
   case atStart=>exact⟨0,ys,a1,c1,rfl,rfl,Yi,HN.out,hry,SB,hBr⟩
   case round=>
    obtain⟨j,xs,a2,c3,rfl,rfl,hj,hxl,hrx,SB',hBx⟩:=hrel;clear hry SB hBr HN
    by_cases hj8:j < 8
    ·obtain⟨k,hk⟩:∃k:Nat,(56 - 8 * (j:Int))=k:=⟨56 - 8 * j,Yi⟩;have hk2:k<=56:=Yi;rw[hk];have HK:=Hd hk;have HX:=Hd hxl;have hxl2:xs.length<=1100:=Yi;clear hk hxl;unfold Fu at hrx;go_wp2_with (at_builtin;refine wpList_append_own _ rfl _ _ 205 rfl B 5 i0 (Ys 0) 1 1 underlying205 hi hz0 hz1 hz2 rfl Yk _ _ _ rfl (hrx.alloc _) ⟨wr.heap.size,0,none⟩ 1 1 [Ys _] rfl rfl (cell_one_new _ _ _) (by simp[Value.oneCell']) (by unfold maxLen;omega) Yi (by simp;omega) ?_;intro v8 w8 hown8 hgrow8 _);change World.grownBy _ _ (Value.slice a2 xs.length c3).ownBlock at hgrow8;have SB8:xe w w8 b2 b3 b4:=(SB'.gr ((Yu _).alloc _)).grl (GrL.of_grown' hgrow8) (λi hi=>by
      rcases hrx.2 with ⟨hv,_⟩ | ⟨g,cap',cur,hv,hbg,_⟩
      ·injection hv with ha;subst ha;simp[Value.ownBlock]at hi
      ·injection hv with ha;subst ha;simp[Value.ownBlock]at hi;omega)
     have hB8:B<=w8.heap.size:=by have:=hgrow8.size;rw[World.size_alloc]at this;omega
     obtain⟨a8,c8,rfl⟩:=wc hown8;have hk3:=HK.out;refine⟨⟨j+1,xs ++ [_],a8,c8,Yj,by congr 1;omega,Yi,by simp[HX.out];omega,by simpa[Fu]using hown8,SB8,hB8⟩,by simp[intOf];omega⟩
    ·obtain rfl:j=8:=Yi;go_wp2_with fail;obtain⟨gm,cm,hva,hgB,hcm,hcm2,hRest⟩:=Fu.rest hrx Yi;injection hva with ha2 _ hc3
     subst ha2 hc3;obtain⟨L,hL⟩:∃L,xs.length=L:=⟨_,rfl⟩;rw[hL]at hRest hcm hxl;have hL64:L % 64=0:=Yi;have hLb:L<=1100:=Yi;have hgb:b4 < gm:=Yi;rw[hL];have HL:=Hd hL;clear hL hrx hxl h8 hlen hgB;go_loopw [5] (λp wr=>∃(o:Nat) (a:Option Addr) (c:Nat),p= .slice a ((L - o:Nat)) c/\o<=L/\o % 64=0/\c<=9223372036854775807/\(o < L->a=some ⟨gm,o,none⟩/\L - o<=c)/\xe w wr b2 b3 b4/\Pw wr gm L 0 xs) (λp _=>p9 p)
     case atStart=>exact⟨0,_,_,rfl,Yi,Yi,hcm2,λ_=>⟨rfl,Yi⟩,SB',hRest⟩
     case round=>
      obtain⟨o,ao,co,rfl,ho,ho64,hco,hoa,SB2,hR⟩:=hrel;clear hRest SB' hBx
      by_cases hoL:o < L
      ·obtain⟨rfl,hco2⟩:=hoa hoL;have hlen0:(0:Int) < ((L - o:Nat):Int):=Yi;have hge:64<=L - o:=Yi;go_upto_region 13 with (fail);generalize hX:Obj.cells _ 280 (0,0)=X;have hX2:∃W:List Int,W.length=64/\X= .cells (W.map (Value.int .u32)).toArray 280 (0,0):=⟨List.replicate 64 0,rfl,hX.symm⟩;clear hX;have u7:UB (wr.alloc X) wr.heap.size 64 280:=by
        obtain⟨L',hL',rfl⟩:=hX2;exact⟨L',hL',ae _ _⟩
       have g7:Gr wr (wr.alloc X):=(Yu wr).alloc _;have I7:Mw w (wr.alloc X) b2 b3 b4 wr.heap.size gm L xs:=⟨SB2.gr g7,hR.gr g7,u7,SB2.h4.lt,hR.h⟩;generalize wr.alloc X=W7 at *;generalize wr.heap.size=b7 at *;clear u7 g7 hX2 SB2 hR;go_wp2_with fail;go_loopw [8,59] (λ_ q wr=>∃i:Nat,q= .int .i64 i/\i<=16/\Mw w wr b2 b3 b4 b7 gm L xs) (λ_ q _=>16 - (intOf q).toNat)
       case atStart=>exact⟨0,rfl,Yi,I7⟩
       case round=>
        obtain⟨i,rfl,hi16,I⟩:=hrel;clear I7
        by_cases hi:i < 16
        ·have hi':(i:Int) < 16:=Yi;have hxsl:xs.length=L:=I.r.l;have HXS:=Hd hxsl;have e0:=I.r.c (o+4 * i) Yi;have e1:=I.r.c (o+4 * i+1) Yi;have e2:=I.r.c (o+4 * i+2) Yi;have e3:=I.r.c (o+4 * i+3) Yi;have hgz:=I.r.h;generalize xs[o+4 * i]=z0 at e0;generalize xs[o+4 * i+1]=z1 at e1;generalize xs[o+4 * i+2]=z2 at e2;generalize xs[o+4 * i+3]=z3 at e3;clear hxsl;have hi64:(i:Int) < 64:=Yi;have hi0:(0:Int)<=(i:Int):=Yi;have w0:IntKind.i64.wrap (4 * (i:Int))=4 * (i:Int):=IntWalk.i64_in _ Yi;have w1:IntKind.i64.wrap (4 * (i:Int)+1)=4 * (i:Int)+1:=IntWalk.i64_in _ Yi;have w2:IntKind.i64.wrap (4 * (i:Int)+2)=4 * (i:Int)+2:=IntWalk.i64_in _ Yi;have w3:IntKind.i64.wrap (4 * (i:Int)+3)=4 * (i:Int)+3:=IntWalk.i64_in _ Yi;have p0:(0:Int)<=4 * (i:Int):=Yi;have p1:(0:Int)<=4 * (i:Int)+1:=Yi;have p2:(0:Int)<=4 * (i:Int)+2:=Yi;have p3:(0:Int)<=4 * (i:Int)+3:=Yi;have r0:4 * (i:Int) < ((L - o:Nat):Int):=Yi;have r1:4 * (i:Int)+1 < ((L - o:Nat):Int):=Yi;have r2:4 * (i:Int)+2 < ((L - o:Nat):Int):=Yi;have r3:4 * (i:Int)+3 < ((L - o:Nat):Int):=Yi;have t0:(4 * (i:Int)).toNat=4 * i:=Yi;have t1:(4 * (i:Int)+1).toNat=4 * i+1:=Yi;have t2:(4 * (i:Int)+2).toNat=4 * i+2:=Yi;have t3:(4 * (i:Int)+3).toNat=4 * i+3:=Yi;go_wp2_with fail;refine bz [35] [.val (Yp i),.val (.slice (some ⟨gm,o,none⟩) ((L - o:Nat)) co),.val (Yp i),.val (Yp (4 * (i:Int))),.val (.pointer (some ⟨gm,o+4 * i,none⟩)),.val (Ys z0),.sat (λv _=>∃x,v= .int .u32 x),.sat (λv _=>∃x,v= .int .u32 x),.val (.slice (some ⟨gm,o,none⟩) ((L - o:Nat)) co),.val (Yp i),.val (Yp (4 * (i:Int))),.val (Yp (4 * (i:Int)+1)),.val (.pointer (some ⟨gm,o+4 * i+1,none⟩)),.val (Ys z1),.sat (λv _=>∃x,v= .int .u32 x),.sat (λv _=>∃x,v= .int .u32 x),.sat (λv _=>∃x,v= .int .u32 x),.val (.slice (some ⟨gm,o,none⟩) ((L - o:Nat)) co),.val (Yp i),.val (Yp (4 * (i:Int))),.val (Yp (4 * (i:Int)+2)),.val (.pointer (some ⟨gm,o+4 * i+2,none⟩)),.val (Ys z2),.sat (λv _=>∃x,v= .int .u32 x),.sat (λv _=>∃x,v= .int .u32 x),.sat (λv _=>∃x,v= .int .u32 x),.val (.slice (some ⟨gm,o,none⟩) ((L - o:Nat)) co),.val (Yp i),.val (Yp (4 * (i:Int))),.val (Yp (4 * (i:Int)+3)),.val (.pointer (some ⟨gm,o+4 * i+3,none⟩)),.val (Ys z3),.sat (λv _=>∃x,v= .int .u32 x),.sat (λv _=>∃x,v= .int .u32 x),.val (.pointer (some ⟨b7,i,none⟩)),.later] Yh Yh (λV=>finT) ?_ ?_
         ·refine⟨?_,?_,?_,?_,?_,?_,?_,?_,?_,?_,?_,?_,?_,?_,?_,?_,?_,?_,?_,?_,?_,?_,?_,?_,?_,?_,?_,?_,?_,?_,?_,?_,?_,?_,?_,?_,trivial⟩
          iterate 6 ·exact osA
          ·refine⟨λv u u1 h _=>h,?_⟩;intro V u hu hk;refine⟨Yh,?_⟩;obtain⟨hc,hf,hz⟩:=hu.cells;go_simp;exact⟨⟨_,rfl⟩,Yu _⟩
          ·refine⟨λv u u1 h _=>h,?_⟩;intro V u hu hk;obtain⟨y0,hy0⟩:=hk 6 _ rfl Yh;refine⟨Yh,?_⟩;obtain⟨hc,hf,hz⟩:=hu.cells;go_simp;exact⟨⟨_,rfl⟩,Yu _⟩
          iterate 6 ·exact osA
          ·refine⟨λv u u1 h _=>h,?_⟩;intro V u hu hk;refine⟨Yh,?_⟩;obtain⟨hc,hf,hz⟩:=hu.cells;go_simp;exact⟨⟨_,rfl⟩,Yu _⟩
          ·refine⟨λv u u1 h _=>h,?_⟩;intro V u hu hk;obtain⟨y0,hy0⟩:=hk 14 _ rfl Yh;refine⟨Yh,?_⟩;obtain⟨hc,hf,hz⟩:=hu.cells;go_simp;exact⟨⟨_,rfl⟩,Yu _⟩
          ·refine⟨λv u u1 h _=>h,?_⟩;intro V u hu hk;obtain⟨y0,hy0⟩:=hk 7 _ rfl Yh;obtain⟨y1,hy1⟩:=hk 15 _ rfl Yh;refine⟨Yh,?_⟩;obtain⟨hc,hf,hz⟩:=hu.cells;go_simp;exact⟨⟨_,rfl⟩,Yu _⟩
          iterate 6 ·exact osA
          ·refine⟨λv u u1 h _=>h,?_⟩;intro V u hu hk;refine⟨Yh,?_⟩;obtain⟨hc,hf,hz⟩:=hu.cells;go_simp;exact⟨⟨_,rfl⟩,Yu _⟩
          ·refine⟨λv u u1 h _=>h,?_⟩;intro V u hu hk;obtain⟨y0,hy0⟩:=hk 23 _ rfl Yh;refine⟨Yh,?_⟩;obtain⟨hc,hf,hz⟩:=hu.cells;go_simp;exact⟨⟨_,rfl⟩,Yu _⟩
          ·refine⟨λv u u1 h _=>h,?_⟩;intro V u hu hk;obtain⟨y0,hy0⟩:=hk 16 _ rfl Yh;obtain⟨y1,hy1⟩:=hk 24 _ rfl Yh;refine⟨Yh,?_⟩;obtain⟨hc,hf,hz⟩:=hu.cells;go_simp;exact⟨⟨_,rfl⟩,Yu _⟩
          iterate 6 ·exact osA
          ·refine⟨λv u u1 h _=>h,?_⟩;intro V u hu hk;refine⟨Yh,?_⟩;obtain⟨hc,hf,hz⟩:=hu.cells;go_simp;exact⟨⟨_,rfl⟩,Yu _⟩
          ·refine⟨λv u u1 h _=>h,?_⟩;intro V u hu hk;obtain⟨y0,hy0⟩:=hk 25 _ rfl Yh;obtain⟨y1,hy1⟩:=hk 32 _ rfl Yh;refine⟨Yh,?_⟩;obtain⟨hc,hf,hz⟩:=hu.cells;go_simp;exact⟨⟨_,rfl⟩,Yu _⟩
          ·exact Xr
          ·exact trivial
         ·intro V u3 hg3 hs3;have I3:=I.gr hg3;obtain⟨yv,hyv⟩:=hs3 33 _ rfl;obtain⟨x7,hx7⟩:=I3.u.cell (show i < 64 by omega);have hf7:=I3.u.fr i;have hz7:=I3.u.lt;clear e0 e1 e2 e3 hs3;refine⟨⟨none,_,_,_,_,_⟩,rfl,rfl,?_⟩;go_simp;refine Fa.fin ?_;go_simp;go_wp2;exact⟨⟨i+1,Yj,Yi,I3.set7 i yv⟩,by simp[intOf];omega⟩
        ·obtain rfl:i=16:=Yi;go_wp2_with fail;go_loopw [9,10,11] (λq _ _ wr=>∃j:Nat,q= .int .i64 j/\16<=j/\j<=64/\Mw w wr b2 b3 b4 b7 gm L xs) (λq _ _ _=>64 - (intOf q).toNat)
         case atStart=>exact⟨16,rfl,Yi,Yi,I⟩
         case round=>
          obtain⟨j,rfl,hj16,hj64,I5⟩:=hrel;clear I
          by_cases hj:j < 64
          ·skip
           have hj':(j:Int) < 64:=Yi;obtain⟨j15,e15,h15⟩:∃k:Nat,IntKind.i64.wrap ((j:Int) - 15)=(k:Int)/\(k+15<=j/\j<=k+15):=⟨j - 15,by rw[IntWalk.i64_in _ Yi];omega,Yi⟩;obtain⟨j2,e2,h2⟩:∃k:Nat,IntKind.i64.wrap ((j:Int) - 2)=(k:Int)/\(k+2<=j/\j<=k+2):=⟨j - 2,by rw[IntWalk.i64_in _ Yi];omega,Yi⟩;obtain⟨j7,e7,h7⟩:∃k:Nat,IntKind.i64.wrap ((j:Int) - 7)=(k:Int)/\(k+7<=j/\j<=k+7):=⟨j - 7,by rw[IntWalk.i64_in _ Yi];omega,Yi⟩;obtain⟨j16,e16,h16⟩:∃k:Nat,IntKind.i64.wrap ((j:Int) - 16)=(k:Int)/\(k+16<=j/\j<=k+16):=⟨j - 16,by rw[IntWalk.i64_in _ Yi];omega,Yi⟩;have l15:(j15:Int) < 64:=Yi;have l2:(j2:Int) < 64:=Yi;have l7:(j7:Int) < 64:=Yi;have l16:(j16:Int) < 64:=Yi;obtain⟨x15,c15⟩:=I5.u.cell (show j15 < 64 by omega);obtain⟨x2,c2⟩:=I5.u.cell (show j2 < 64 by omega);have hz7:=I5.u.lt;go_wp2_with fail;refine ah [.val (Yp j),.val (Yp j15),.val (.pointer (some ⟨b7,j15,none⟩)),.val (.int .u32 x15),.val (Yp j),.val (Yp j2),.val (.pointer (some ⟨b7,j2,none⟩)),.val (.int .u32 x2),.val (.int .u32 x15),.val (.int .u32 x2)] Yh Yh (λV=>finT) ?_ ?_
           ·refine⟨?_,?_,?_,?_,?_,?_,?_,?_,?_,?_,trivial⟩
            iterate 10 ·exact osA
           intro V u hg hs;have I6:=I5.gr hg;clear c15 c2 hz7 hg hs;obtain⟨x7,c7⟩:=I6.u.cell (show j7 < 64 by omega);obtain⟨x16,c16⟩:=I6.u.cell (show j16 < 64 by omega);have hz7:=I6.u.lt;go_simp;go_wp2_with fail;refine bz [25] [.val (Yp j),.val (.int .u32 x2),.sat (λv u=>∃g,v= .slice (Yn g) 2 2/\u.heap[g]?=some (.cells #[Yp 17,Yp 19] 3 (0,0))),.sat (λv _=>∃x,v= .int .u32 x),.val (.int .u32 x2),.sat (λv _=>∃x,v= .int .u32 x),.sat (λv _=>∃x,v= .int .u32 x),.val (Yp j),.val (Yp j7),.val (.pointer (some ⟨b7,j7,none⟩)),.val (.int .u32 x7),.sat (λv _=>∃x,v= .int .u32 x),.val (.int .u32 x15),.sat (λv u=>∃g,v= .slice (Yn g) 2 2/\u.heap[g]?=some (.cells #[Yp 7,Yp 18] 3 (0,0))),.sat (λv _=>∃x,v= .int .u32 x),.val (.int .u32 x15),.sat (λv _=>∃x,v= .int .u32 x),.sat (λv _=>∃x,v= .int .u32 x),.sat (λv _=>∃x,v= .int .u32 x),.val (Yp j),.val (Yp j16),.val (.pointer (some ⟨b7,j16,none⟩)),.val (.int .u32 x16),.sat (λv _=>∃x,v= .int .u32 x),.val (.pointer (some ⟨b7,j,none⟩)),.later] Yh Yh (λV=>finT) ?_ ?_
           ·refine⟨?_,?_,?_,?_,?_,?_,?_,?_,?_,?_,?_,?_,?_,?_,?_,?_,?_,?_,?_,?_,?_,?_,?_,?_,?_,?_,trivial⟩
            iterate 3 ·exact osA
            ·refine⟨λv u u1 h _=>h,?_⟩;intro V u hu hk;obtain⟨gs,hvs,hbs⟩:=hk 2 _ rfl Yh;refine⟨Yh,?_⟩;go_simp;rw[ii.enter];exact Zp _ gs _ hbs
            ·exact Xr
            ·refine⟨λv u u1 h _=>h,?_⟩;intro V u hu hk;refine⟨Yh,?_⟩;obtain⟨hc,hf,hz⟩:=hu.cells;go_simp;exact⟨⟨_,rfl⟩,Yu _⟩
            ·refine⟨λv u u1 h _=>h,?_⟩;intro V u hu hk;obtain⟨y0,hy0⟩:=hk 3 _ rfl Yh;obtain⟨y1,hy1⟩:=hk 5 _ rfl Yh;refine⟨Yh,?_⟩;obtain⟨hc,hf,hz⟩:=hu.cells;go_simp;exact⟨⟨_,rfl⟩,Yu _⟩
            iterate 4 ·exact osA
            ·refine⟨λv u u1 h _=>h,?_⟩;intro V u hu hk;obtain⟨y0,hy0⟩:=hk 6 _ rfl Yh;refine⟨Yh,?_⟩;obtain⟨hc,hf,hz⟩:=hu.cells;go_simp;exact⟨⟨_,rfl⟩,Yu _⟩
            iterate 2 ·exact osA
            ·refine⟨λv u u1 h _=>h,?_⟩;intro V u hu hk;obtain⟨gs,hvs,hbs⟩:=hk 13 _ rfl Yh;refine⟨Yh,?_⟩;go_simp;rw[ii.enter];exact Zo _ gs _ hbs
            ·exact Xr
            ·refine⟨λv u u1 h _=>h,?_⟩;intro V u hu hk;refine⟨Yh,?_⟩;obtain⟨hc,hf,hz⟩:=hu.cells;go_simp;exact⟨⟨_,rfl⟩,Yu _⟩
            ·refine⟨λv u u1 h _=>h,?_⟩;intro V u hu hk;obtain⟨y0,hy0⟩:=hk 14 _ rfl Yh;obtain⟨y1,hy1⟩:=hk 16 _ rfl Yh;refine⟨Yh,?_⟩;obtain⟨hc,hf,hz⟩:=hu.cells;go_simp;exact⟨⟨_,rfl⟩,Yu _⟩
            ·refine⟨λv u u1 h _=>h,?_⟩;intro V u hu hk;obtain⟨y0,hy0⟩:=hk 11 _ rfl Yh;obtain⟨y1,hy1⟩:=hk 17 _ rfl Yh;refine⟨Yh,?_⟩;obtain⟨hc,hf,hz⟩:=hu.cells;go_simp;exact⟨⟨_,rfl⟩,Yu _⟩
            iterate 4 ·exact osA
            ·refine⟨λv u u1 h _=>h,?_⟩;intro V u hu hk;obtain⟨y0,hy0⟩:=hk 18 _ rfl Yh;refine⟨Yh,?_⟩;obtain⟨hc,hf,hz⟩:=hu.cells;go_simp;exact⟨⟨_,rfl⟩,Yu _⟩
            ·exact Xr
            ·exact trivial
           intro V u1 hg1 hs1;have I7:=I6.gr hg1;obtain⟨yv,hyv⟩:=hs1 23 _ rfl;obtain⟨xj,hxj⟩:=I7.u.cell (show j < 64 by omega);have hf7:=I7.u.fr j;have hz8:=I7.u.lt;clear c7 c16 hz7 hs1;refine⟨⟨none,_,_,_,_,_⟩,rfl,rfl,?_⟩;go_simp;refine Fa.fin ?_;go_simp;go_wp2;refine⟨?_,by simp[intOf];omega⟩
           (repeat apply Exists.intro)
           refine⟨?_,rfl⟩;exact⟨j+1,Yj,Yi,Yi,I7.set7 j yv⟩
          ·obtain rfl:j=64:=Yi
           skip
           obtain⟨W3,hW3l,hW3⟩:=I5.s.h3;obtain⟨s0,s1,s2,s3,s4,s5,s6,s7,rfl⟩:∃s0 s1 s2 s3 s4 s5 s6 s7,W3=[s0,s1,s2,s3,s4,s5,s6,s7]:=eight hW3l;obtain⟨k1,k2,k3⟩:=ed hW3;have q0:=k1 0;have q1:=k1 1;have q2:=k1 2;have q3:=k1 3;have q4:=k1 4;have q5:=k1 5;have q6:=k1 6;have q7:=k1 7;simp only[List.map_cons,List.map_nil]at q0 q1 q2 q3 q4 q5 q6 q7;clear k1 k2;go_wp2_with fail;have u12:UB (wr.alloc (.cells #[.int .u32 s0,.int .u32 s1,.int .u32 s2,.int .u32 s3,.int .u32 s4,.int .u32 s5,.int .u32 s6,.int .u32 s7] 279 (0,0))) wr.heap.size 8 279:=⟨[s0,s1,s2,s3,s4,s5,s6,s7],rfl,ae _ _⟩;have I12:Jq w (wr.alloc (.cells #[.int .u32 s0,.int .u32 s1,.int .u32 s2,.int .u32 s3,.int .u32 s4,.int .u32 s5,.int .u32 s6,.int .u32 s7] 279 (0,0))) b2 b3 b4 b7 wr.heap.size gm L xs:=⟨I5.gr ((Yu wr).alloc _),u12,I5.u.lt⟩;generalize (wr.alloc (.cells #[.int .u32 s0,.int .u32 s1,.int .u32 s2,.int .u32 s3,.int .u32 s4,.int .u32 s5,.int .u32 s6,.int .u32 s7] 279 (0,0)))=W12 at *;generalize wr.heap.size=b12 at *;clear q0 q1 q2 q3 q4 q5 q6 q7 u12 hW3 I5 hW3l;go_loopw [13,14,15,16,17,18,19,20,21,136] (λ_ _ _ _ _ _ _ _ _ q wr=>∃i:Nat,q= .int .i64 i/\i<=64/\Jq w wr b2 b3 b4 b7 b12 gm L xs) (λ_ _ _ _ _ _ _ _ _ q _=>64 - (intOf q).toNat)
           case atStart=>exact⟨0,rfl,Yi,I12⟩
           case round=>
            obtain⟨i,rfl,hi64,I⟩:=hrel;clear I12
            by_cases hi:i < 64
            ·skip
             have hi':(i:Int) < 64:=Yi;obtain⟨x0,c0⟩:=I.u.cell (show 0 < 8 by omega);obtain⟨x1,c1⟩:=I.u.cell (show 1 < 8 by omega);obtain⟨x2,c2⟩:=I.u.cell (show 2 < 8 by omega);obtain⟨x4,c4⟩:=I.u.cell (show 4 < 8 by omega);obtain⟨x5,c5⟩:=I.u.cell (show 5 < 8 by omega);obtain⟨x6,c6⟩:=I.u.cell (show 6 < 8 by omega);have hz12:=I.u.lt;go_wp2_with fail;refine ah [.val (Ym b12),.val (.int .u32 x0),.val (.pointer (some ⟨b12,1,none⟩)),.val (.int .u32 x1),.val (.pointer (some ⟨b12,2,none⟩)),.val (.int .u32 x2),.val (.pointer (some ⟨b12,4,none⟩)),.val (.int .u32 x4),.val (.pointer (some ⟨b12,5,none⟩)),.val (.int .u32 x5),.val (.pointer (some ⟨b12,6,none⟩)),.val (.int .u32 x6),.val (.int .u32 x0),.val (.int .u32 x1),.val (.int .u32 x2),.val (.int .u32 x4),.val (.int .u32 x5),.val (.int .u32 x6)] Yh Yh (λV=>finT) ?_ ?_
             ·refine⟨?_,?_,?_,?_,?_,?_,?_,?_,?_,?_,?_,?_,?_,?_,?_,?_,?_,?_,trivial⟩
              iterate 18 ·exact osA
             intro V u hg hs;have I1:=I.gr hg;clear c0 c1 c2 c4 c5 c6 hz12 hg hs;obtain⟨x7,c7⟩:=I1.u.cell (show 7 < 8 by omega);obtain⟨kv,ck⟩:=I1.i.s.h4.cell (show i < 64 by omega);obtain⟨wv,cw⟩:=I1.i.u.cell (show i < 64 by omega);have hz12:=I1.u.lt;have hz7:=I1.i.u.lt;have hz4:=I1.i.s.h4.lt;go_simp;go_wp2_with fail;refine ah [.val (.pointer (some ⟨b12,7,none⟩)),.val (.int .u32 x7),.val (.int .u32 x4),.sat (λv u=>∃g,v= .slice (Yn g) 3 3/\u.heap[g]?=some (.cells #[Yp 6,Yp 11,Yp 25] 3 (0,0))),.sat (λv _=>∃x,v= .int .u32 x),.sat (λv _=>∃x,v= .int .u32 x),.val (.int .u32 x4),.val (.int .u32 x5),.sat (λv _=>∃x,v= .int .u32 x),.val (.int .u32 x4),.sat (λv _=>∃x,v= .int .u32 x),.val (.int .u32 x6),.sat (λv _=>∃x,v= .int .u32 x),.sat (λv _=>∃x,v= .int .u32 x),.sat (λv _=>∃x,v= .int .u32 x),.val (Yp i),.val (.pointer (some ⟨b4,i,none⟩)),.val (.int .u32 kv),.sat (λv _=>∃x,v= .int .u32 x),.val (Yp i),.val (.pointer (some ⟨b7,i,none⟩)),.val (.int .u32 wv),.sat (λv _=>∃x,v= .int .u32 x),.sat (λv _=>∃x,v= .int .u32 x)] Yh Yh (λV=>finT) ?_ ?_
             ·refine⟨?_,?_,?_,?_,?_,?_,?_,?_,?_,?_,?_,?_,?_,?_,?_,?_,?_,?_,?_,?_,?_,?_,?_,?_,trivial⟩
              iterate 4 ·exact osA
              ·refine⟨λv u u1 h _=>h,?_⟩;intro V u hu hk;obtain⟨gs,hvs,hbs⟩:=hk 3 _ rfl Yh;refine⟨Yh,?_⟩;go_simp;rw[ii.enter];exact Zn _ gs _ hbs
              ·refine⟨λv u u1 h _=>h,?_⟩;intro V u hu hk;obtain⟨y0,hy0⟩:=hk 4 _ rfl Yh;refine⟨Yh,?_⟩;obtain⟨hc,hf,hz⟩:=hu.cells;go_simp;exact⟨⟨_,rfl⟩,Yu _⟩
              iterate 2 ·exact osA
              ·refine⟨λv u u1 h _=>h,?_⟩;intro V u hu hk;refine⟨Yh,?_⟩;obtain⟨hc,hf,hz⟩:=hu.cells;go_simp;exact⟨⟨_,rfl⟩,Yu _⟩
              ·exact Xr
              ·refine⟨λv u u1 h _=>h,?_⟩;intro V u hu hk;refine⟨Yh,?_⟩;obtain⟨hc,hf,hz⟩:=hu.cells;go_simp;exact⟨⟨_,rfl⟩,Yu _⟩
              ·exact Xr
              ·refine⟨λv u u1 h _=>h,?_⟩;intro V u hu hk;obtain⟨y0,hy0⟩:=hk 10 _ rfl Yh;refine⟨Yh,?_⟩;obtain⟨hc,hf,hz⟩:=hu.cells;go_simp;exact⟨⟨_,rfl⟩,Yu _⟩
              ·refine⟨λv u u1 h _=>h,?_⟩;intro V u hu hk;obtain⟨y0,hy0⟩:=hk 8 _ rfl Yh;obtain⟨y1,hy1⟩:=hk 12 _ rfl Yh;refine⟨Yh,?_⟩;obtain⟨hc,hf,hz⟩:=hu.cells;go_simp;exact⟨⟨_,rfl⟩,Yu _⟩
              ·refine⟨λv u u1 h _=>h,?_⟩;intro V u hu hk;obtain⟨y0,hy0⟩:=hk 5 _ rfl Yh;obtain⟨y1,hy1⟩:=hk 13 _ rfl Yh;refine⟨Yh,?_⟩;obtain⟨hc,hf,hz⟩:=hu.cells;go_simp;exact⟨⟨_,rfl⟩,Yu _⟩
              iterate 3 ·exact osA
              ·refine⟨λv u u1 h _=>h,?_⟩;intro V u hu hk;obtain⟨y0,hy0⟩:=hk 14 _ rfl Yh;refine⟨Yh,?_⟩;obtain⟨hc,hf,hz⟩:=hu.cells;go_simp;exact⟨⟨_,rfl⟩,Yu _⟩
              iterate 3 ·exact osA
              ·refine⟨λv u u1 h _=>h,?_⟩;intro V u hu hk;obtain⟨y0,hy0⟩:=hk 18 _ rfl Yh;refine⟨Yh,?_⟩;obtain⟨hc,hf,hz⟩:=hu.cells;go_simp;exact⟨⟨_,rfl⟩,Yu _⟩
              ·refine⟨λv u u1 h _=>h,?_⟩;intro V u hu hk;obtain⟨y0,hy0⟩:=hk 22 _ rfl Yh;refine⟨Yh,?_⟩;obtain⟨hc,hf,hz⟩:=hu.cells;go_simp;exact⟨⟨_,rfl⟩,Yu _⟩
             intro V1 u1 hg1 hs1;have I2:=I1.gr hg1;obtain⟨y20,hy20⟩:=hs1 23 _ rfl;clear c7 ck cw hz12 hz7 hz4 hg1 hs1;go_simp;go_wp2_with fail;refine(Zm _ _ _ (ae _ _)).mono ?_;rintro e u2 ⟨_,rfl,⟨yt,rfl⟩,hg2⟩;have I3:=(I2.gr ((Yu _).alloc _)).gr hg2;clear hg2;obtain⟨d0,e0⟩:=I3.u.cell (show 0 < 8 by omega);have f0:=I3.u.fr 0;obtain⟨d1,e1⟩:=I3.u.cell (show 1 < 8 by omega);have f1:=I3.u.fr 1;obtain⟨d2,e2⟩:=I3.u.cell (show 2 < 8 by omega);have f2:=I3.u.fr 2;obtain⟨d3,e3⟩:=I3.u.cell (show 3 < 8 by omega);have f3:=I3.u.fr 3;obtain⟨d4,e4⟩:=I3.u.cell (show 4 < 8 by omega);have f4:=I3.u.fr 4;obtain⟨d5,e5⟩:=I3.u.cell (show 5 < 8 by omega);have f5:=I3.u.fr 5;obtain⟨d6,e6⟩:=I3.u.cell (show 6 < 8 by omega);have f6:=I3.u.fr 6;obtain⟨d7,e7⟩:=I3.u.cell (show 7 < 8 by omega);have f7:=I3.u.fr 7;have hz12:=I3.u.lt;go_simp;go_wp2_with fail;refine⟨?_,by simp[intOf];omega⟩
             (repeat apply Exists.intro)
             refine⟨?_,rfl⟩;exact⟨i+1,Yj,Yi,(((((((I3.set12 0 _).set12 1 _).set12 2 _).set12 3 _).set12 4 _).set12 5 _).set12 6 _).set12 7 _⟩
            ·obtain rfl:i=64:=Yi;go_wp2_with fail;go_loopw [22,204] (λ_ q wr=>∃i:Nat,q= .int .i64 i/\i<=8/\Jq w wr b2 b3 b4 b7 b12 gm L xs) (λ_ q _=>8 - (intOf q).toNat)
             case atStart=>exact⟨0,rfl,Yi,I⟩
             case round=>
              obtain⟨k,rfl,hk8,I9⟩:=hrel;clear I
              by_cases hk:k < 8
              ·skip
               have hk':(k:Int) < 8:=Yi;obtain⟨x3,c3⟩:=I9.i.s.h3.cell (show k < 8 by omega);obtain⟨x12,c12⟩:=I9.u.cell (show k < 8 by omega);have hz12:=I9.u.lt;have hz3:=I9.i.s.h3.lt;go_wp2_with fail;refine bz [8] [.val (Yp k),.val (.pointer (some ⟨b3,k,none⟩)),.val (.int .u32 x3),.val (Yp k),.val (.pointer (some ⟨b12,k,none⟩)),.val (.int .u32 x12),.sat (λv _=>∃x,v= .int .u32 x),.val (.pointer (some ⟨b3,k,none⟩)),.later] Yh Yh (λV=>finT) ?_ ?_
               ·refine⟨?_,?_,?_,?_,?_,?_,?_,?_,?_,trivial⟩
                iterate 6 ·exact osA
                ·refine⟨λv u u1 h _=>h,?_⟩;intro V u hu hk;refine⟨Yh,?_⟩;obtain⟨hc,hf,hz⟩:=hu.cells;go_simp;exact⟨⟨_,rfl⟩,Yu _⟩
                ·exact Xr
                ·exact trivial
               intro V u hg hs;have Ia:=I9.gr hg;obtain⟨yv,hyv⟩:=hs 6 _ rfl;clear c3 c12 hz12 hz3 hs;obtain⟨xo,co3⟩:=Ia.i.s.h3.cell (show k < 8 by omega);have hf3:=Ia.i.s.h3.fr k;have hz3:=Ia.i.s.h3.lt;refine⟨⟨none,_,_,_,_,_⟩,rfl,rfl,?_⟩;go_simp;refine Fa.fin ?_;go_simp;go_wp2;refine⟨?_,by simp[intOf];omega⟩
               (repeat apply Exists.intro)
               refine⟨?_,rfl⟩;exact⟨k+1,Yj,Yi,Ia.set3 hgb k yv⟩
              ·obtain rfl:k=8:=Yi;obtain⟨R,hR⟩:∃R,L - o=R:=⟨_,rfl⟩;have h64:(64:Int)<=(R:Int):=Yi;have HRR:=Hd hR;have HGE:=Hd hge;have HC2:=Hd hco2;have HL0:=Hd hlen0;rw[hR];clear hR hge hco2 hlen0;go_upto_region 11 with (fail);refine wp_fin λF HF=>?_
               by_cases hc64:co=64
               ·go_wp2_with fail;have hRL:=HRR.out;have hge2:=HGE.out;have hc2':=HC2.out;refine HF.out _ _ ?_;refine⟨?_,?_⟩
                ·(repeat apply Exists.intro)
                 refine⟨?_,rfl⟩;exact⟨o+64,_,_,by congr 1;omega,Yi,Yi,Yi,λh=>by omega,I9.i.s,I9.i.r⟩
                ·show p9 (Value.slice _ (R - 64) _) < p9 (Value.slice _ (L - o) _);simp only[p9];omega
               ·go_wp2_with fail;have hRL:=HRR.out;have hge2:=HGE.out;have hc2':=HC2.out;refine HF.out _ _ ?_;refine⟨?_,?_⟩
                ·(repeat apply Exists.intro)
                 refine⟨?_,rfl⟩;exact⟨o+64,_,_,by congr 1;omega,Yi,Yi,Yi,λh=>⟨rfl,Yi⟩,I9.i.s,I9.i.r⟩
                ·show p9 (Value.slice _ (R - 64) _) < p9 (Value.slice _ (L - o) _);simp only[p9];omega
      ·obtain rfl:o=L:=Yi
       skip
       clear hoa;have h00:((o - o:Nat):Int)=0:=Yj;go_upto_region 38 with (fail);generalize hX:Obj.cells _ 153 (0,0)=X;have hX2:∃D:List Int,D.length=32/\X= .cells (D.map (Value.int .u8)).toArray 153 (0,0):=⟨List.replicate 32 0,rfl,hX.symm⟩;clear hX;have O:Out w (wr.alloc X) b2 wr.heap.size b3:=by
        obtain⟨c2',k1,k2⟩:=SB2.h2;obtain⟨D,hD,rfl⟩:=hX2;have n3:=SB2.h3.lt;have n2:=ai k1;exact⟨SB2.g.alloc _,⟨D,hD,ae _ _⟩,⟨c2',((Yu wr).alloc _).heap k1,k2⟩,SB2.n2,n2,SB2.h3.gr ((Yu wr).alloc _),n3⟩
       generalize wr.alloc X=W9 at *;generalize wr.heap.size=b23 at *;clear hX2 SB2 hR;obtain⟨W3,hW3l,hW3⟩:=O.u3;obtain⟨s0,s1,s2,s3,s4,s5,s6,s7,rfl⟩:∃s0 s1 s2 s3 s4 s5 s6 s7,W3=[s0,s1,s2,s3,s4,s5,s6,s7]:=eight hW3l;obtain⟨k1,k2,k3⟩:=ed hW3;have q0:=k1 0;have q1:=k1 1;have q2:=k1 2;have q3:=k1 3;have q4:=k1 4;have q5:=k1 5;have q6:=k1 6;have q7:=k1 7;simp only[List.map_cons,List.map_nil]at q0 q1 q2 q3 q4 q5 q6 q7;clear k1 k2;go_wp2_with fail;clear q0 q1 q2 q3 q4 q5 q6 q7 hW3 hW3l;go_loopw [24,25,217] (λ_ _ q wr=>∃i:Nat,q= .int .i64 i/\i<=8/\Out w wr b2 b23 b3) (λ_ _ q _=>8 - (intOf q).toNat)
       case atStart=>exact⟨0,rfl,Yi,O⟩
       case round=>
        obtain⟨i,rfl,hi8,O8⟩:=hrel;clear O
        by_cases hi:i < 8
        ·have hi':(i:Int) < 8:=Yi;obtain⟨x,hx⟩:=Ng wr s0 s1 s2 s3 s4 s5 s6 s7 i hi;go_wp2_with fail;clear hx;go_loopw [26,221] (λ_ q wr=>∃k:Nat,q= .int .i64 k/\k<=4/\Out w wr b2 b23 b3) (λ_ q _=>4 - (intOf q).toNat)
         case atStart=>exact⟨0,rfl,Yi,O8⟩
         case round=>
          obtain⟨k,rfl,hk4,O9⟩:=hrel;clear O8
          by_cases hk:k < 4
          ·have hk':(k:Int) < 4:=Yi;have w0:IntKind.i64.wrap (4 * (i:Int))=4 * (i:Int):=IntWalk.i64_in _ Yi;have w8:IntKind.i64.wrap (8 * (k:Int))=8 * (k:Int):=IntWalk.i64_in _ Yi;obtain⟨m,e1,hm⟩:∃m:Nat,IntKind.i64.wrap (4 * (i:Int)+(k:Int))=(m:Int)/\(m<=4 * i+k/\4 * i+k<=m):=⟨4 * i+k,by rw[IntWalk.i64_in _ Yi];omega,Yi⟩;obtain⟨sh,e2,hsh⟩:∃n:Nat,IntKind.i64.wrap (24 - 8 * (k:Int))=(n:Int)/\n<=24:=⟨24 - 8 * k,by rw[IntWalk.i64_in _ Yi];omega,Yi⟩;have hm32:(m:Int) < 32:=Yi;obtain⟨xo,hxo⟩:=O9.cell (show m < 32 by omega);have hf9:=O9.fr m;have hz9:=O9.lt;go_wp2_with fail;exact⟨⟨k+1,Yj,Yi,O9.set m _⟩,by simp[intOf];omega⟩
          ·obtain rfl:k=4:=Yi;go_wp2_with fail;exact⟨⟨i+1,Yj,Yi,O9⟩,by simp[intOf];omega⟩
        ·obtain rfl:i=8:=Yi;go_upto_region 47 with (fail);obtain⟨D,hD,hDb⟩:=O8.u;obtain⟨c2',hk1,hk2⟩:=O8.h2;have n2:=O8.n2;have n:=O8.n;have gw:=O8.g;clear O8;have hCz:(D.map (Value.int .u8)).toArray.size=32:=by simp[hD]
         have hC4:(D.map (Value.int .u8)).toArray.all (·.oneCell')=true:=by
          rw[Array.all_eq_true_iff_forall_mem];intro x hx;simp only[List.mem_toArray,List.mem_map]at hx;obtain⟨n,_,rfl⟩:=hx;rfl
         obtain⟨C,hC⟩:∃C,(D.map (Value.int .u8)).toArray=C:=⟨_,rfl⟩;rw[hC]at hDb hCz hC4;have HCC:=Hd hC;have HDD:=Hd hD;clear hC hD;apply wp_region_lit;refine wpList_load_row rfl _ _ rfl b23 rfl _ C _ _ hDb underlying153 rfl (by rw[hCz];kernel_rfl) ?_;refine wpList_store_row rfl _ _ _ rfl b2 C rfl rfl _ c2' hk1 (by rw[hCz];kernel_rfl) (by rw[hk2,hCz]) hC4 ?_;have hb2':=setRow_heap wr b2 c2' C _ _ hk1;have gp:GrL [b2] wr (wr.setRow b2 C):=(GrL.of_gr (Yu wr)).setRow b2 C (Or.inr Yj);generalize wr.setRow b2 C=W2 at *;clear hDb hk1;go_wp2_with fail;exact bodyPost_ret (v:= .agg C) (results_cell_row results108 _ W2 b2 _ C _ _ rfl hb2' underlying153 rfl (by rw[hCz];kernel_rfl)) rfl ⟨⟨D,HDD.out,by rw[HCC.out]⟩,GrL.gr gw gp (λi hi=>by obtain rfl:=List.mem_singleton.1 hi;exact n2)⟩
  ·have q1:(((ys.length:Int) % 64) == 56)=false:=by simp;omega
   have q2:decide ((ys.length:Int) % 64=56)=false:=by simp;omega
   unfold Fu at hry;go_wp2_with (at_builtin;refine wpList_append_own _ rfl _ _ 205 rfl B 5 i0 (Ys 0) 1 1 underlying205 hi hz0 hz1 hz2 rfl Yk _ _ _ rfl (hry.alloc _) ⟨wr.heap.size,0,none⟩ 1 1 [Ys 0] rfl rfl (cell_one_new _ _ _) (by simp[Value.oneCell']) (by unfold maxLen;omega) Yi (by simp;omega) ?_;intro v7 w7 hown7 hgrow7 _);change World.grownBy _ _ (Value.slice a1 ys.length c1).ownBlock at hgrow7;have SB7:xe w w7 b2 b3 b4:=(SB.gr ((Yu _).alloc _)).grl (GrL.of_grown' hgrow7) (λi hi=>by have:=((hry.alloc (.cells #[Ys 0] 5)).lt i (by simpa using hi)).1;omega);have hB7:B<=w7.heap.size:=by have:=hgrow7.size;rw[World.size_alloc]at this;omega
   have hown7':w7.ownsRow B 5 1 v7 (ys ++ [0]).length ((ys ++ [0]).map (Value.int .u8)):=by simpa using hown7
   obtain⟨a7,c7,rfl⟩:=wc hown7;have L1:(ys ++ [0]).length=ys.length+1:=Yj;clear q1 q2;exact⟨⟨ys ++ [0],a7,c7,by rw[L1],by unfold Fu;rw[L1];rw[L1]at hown7';exact hown7',by rw[L1];omega,SB7,hB7⟩,by simp[p9];omega⟩
end Go.Proofs.YtimcfaoabaflkaaGreatDoor
