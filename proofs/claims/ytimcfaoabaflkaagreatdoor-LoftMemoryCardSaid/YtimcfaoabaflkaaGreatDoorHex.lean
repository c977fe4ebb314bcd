/- internal/strconv: formatBits at base 16; FormatUint. -/
import Derived.Test.YtimcfaoabaflkaaGreatDoorJCheck
import Derived.OwnWalk
import Derived.DeepKeys
import Derived.StillTailTactics
namespace Go.Proofs.YtimcfaoabaflkaaGreatDoor
open AbBase
open AbA AbI
set_option maxHeartbeats 8000000
set_option maxRecDepth 100000
open Go.Proofs.Tryz
section
open Go.RowKit Go.Shelf Go.Lib
def j0 (d:Nat):UInt8:=if d < 10 then UInt8.ofNat (48+d)else UInt8.ofNat (87+d)
def Dz:Nat->Nat->List UInt8
 | 0,_=>[]
 | f+1,n=>if n < 16 then [j0 n]else Dz f (n / 16) ++ [j0 (n % 16)]
def cf (n:Nat):List UInt8:=Dz 17 n
theorem zd0 (f n:Nat):Dz (f+1) n=if n < 16 then [j0 n]else Dz f (n / 16) ++ [j0 (n % 16)]:=rfl
theorem yl:∀(f g n:Nat),n < 16 ^ (f+1)->f<=g->Dz (f+1) n=Dz (g+1) n
 | 0,g,n,h,_=>by
  have h':n < 16:=by simpa using h
  rw[zd0,zd0,if_pos h',if_pos h']
 | f+1,0,n,h,hg=>by omega
 | f+1,g+1,n,h,hg=>by
  rw[zd0 (f+1),zd0 (g+1)];split
  ·rfl
  ·have h1:n / 16 < 16 ^ (f+1):=by
    rw[Nat.pow_succ]at h;omega
   rw[yl f g (n / 16) h1 Yi]
theorem lp {n:Nat} (h:n < 16):cf n=[j0 n]:=by
 unfold cf;rw[zd0,if_pos h]
theorem m6 {n:Nat} (h:16<=n) (hn:n < 2 ^ 64):cf n=cf (n / 16) ++ [j0 (n % 16)]:=by
 unfold cf;rw[zd0,if_neg Yi,yl 15 16 (n / 16) Yi Yi]
theorem Le:∀(f n:Nat),(Dz f n).length<=f
 | 0,_=>Nat.zero_le _
 | f+1,n=>by
  rw[Dz];split
  ·simp
  ·have:=Le f (n / 16);simp;exact this
theorem gf {n:Nat} (hn:n < 2 ^ 64):1<=(cf n).length/\(cf n).length<=16:=by
 have e:cf n=Dz 16 n:=(yl 15 16 n Yi Yi).symm;rw[e];refine⟨?_,Le 16 n⟩;rw[zd0];split <;> simp
theorem TZ64 (w:World) (ht:w.cell? ⟨7,15,none⟩=some (.int .u8 4)):
  Calls prog 312 #[Yq 16] w λe w'=>e= .returned (Yp 4)/\Gr w w':=by
 have q1:IntKind.u64.wrap (-16)=18446744073709551600:=Yh;have q2:bits .and .u64 16 18446744073709551600=16:=Yh;have q3:IntKind.u64.wrap 4573923408821661840=4573923408821661840:=Yh;go_enter func312,ntmps312;go_wp2;go_ret;exact⟨rfl,Yu _⟩
theorem TZ16 (w:World) (ht:w.cell? ⟨7,15,none⟩=some (.int .u8 4)):
  Calls prog 303 #[Yq 16] w λe w'=>e= .returned (Yp 4)/\Gr w w':=by
 have TZ:=hid (TZ64 w ht);clear ht;go_enter func303,ntmps303;go_wp2_with fail;refine TZ.out.mono ?_;rintro e w1 ⟨rfl,hg⟩;go_wp2;go_ret;exact⟨rfl,hg⟩
theorem pow16 (w:World):Calls prog 302 #[Yp 16] w λe w'=>e= .returned (.bool true)/\Gr w w':=by
 have q1:bits .and .i64 16 15=0:=Yh;go_enter func302,ntmps302;go_wp2;go_ret;exact⟨rfl,Yu _⟩
theorem and15 (m:Nat) (h:m < 2 ^ 64):bits .and .u64 (m:Int) 15=((m % 16:Nat):Int):=by
 have:=bits_mask .u64 64 Yk (λn h0 h1=>IntWalk.u64_in n Yi) 4 Yk (m:Int) Yi Yi;have e:((m % 16:Nat):Int)=(m:Int) % 16:=Yi;rw[e];exact this
def ZB (w:World) (b k:Nat) (L:List UInt8):Prop:=∃Z:List Int,Z.length=65/\w.heap[b]?=some (.cells (Z.map (Value.int .u8)).toArray 407 (0,0))/\Z.drop k=L.map λc=>(c.toNat:Int)
theorem ZB.gr {w w':World} {b k:Nat} {L:List UInt8} (h:ZB w b k L) (g:Gr w w'):ZB w' b k L:=by
 obtain⟨Z,h1,h2,h3⟩:=h;exact⟨Z,h1,g.heap h2,h3⟩
theorem ZB.cell {w:World} {b k:Nat} {L:List UInt8} (h:ZB w b k L) (j:Nat) (hj:j < 65):∃x,w.cell? ⟨b,j,none⟩=some (.int .u8 x)/\w.frozen? ⟨b,j,none⟩=false:=by
 obtain⟨Z,h1,h2,h3⟩:=h;obtain⟨c,f,z⟩:=ed h2;exact⟨Z[j],by rw[c];simp[show j < Z.length by omega],f j⟩
theorem ZB.put {w:World} {b j:Nat} {L:List UInt8} (h:ZB w b (j+1) L) (c:UInt8) (hj:j < 65):ZB (w.setCell (Yo b j) (Ys c.toNat)) b j (c :: L):=by
 obtain⟨Z,h1,h2,h3⟩:=h;refine⟨Z.set j c.toNat,by simpa using h1,?_,?_⟩
 ·rw[dz h2];congr 2;apply Array.ext';simp[List.map_set]
 ·have e:(Z.set j c.toNat).drop j=(c.toNat:Int) :: Z.drop (j+1):=by
   rw[List.drop_eq_getElem_cons (by rw[List.length_set];omega),List.getElem_set_self,List.drop_set_of_lt Yi]
  rw[e,h3];rfl
theorem Nz:∀(L:List UInt8),strOfNums (L.map λc=>(c.toNat:Int))=⟨L.toArray⟩:=λL=>by
 unfold strOfNums;congr 1;rw[List.map_map];congr 1;have:((λx:Int=>UInt8.ofNat x.toNat)∘λc:UInt8=>(c.toNat:Int))=id:=by
  funext c;simp
 first | rw[this,List.map_id] | (simp)
theorem ZB.conv {w:World} {b k:Nat} {L:List UInt8} (h:ZB w b k L) (hk:k<=65):∀c,(convert 205 9 (.slice (some ⟨b,k,none⟩) (65 - k) c)).run prog w= .ok (.string ⟨L.toArray⟩) w:=λc=>by
 obtain⟨Z,h1,h2,h3⟩:=h;rw[<-Nz,<-h3];exact run_convert_bytes_arg w 205 5 underlying205 underlying5 b k (65 - k) c (Z.drop k) (by rw[List.length_drop];omega) (λi hi=>by
  rw[(ed h2).1];have e:k+i < Z.length:=Yi;simp[List.getD,e]) 9 underlying9
theorem digs:∀{j:Nat} (_:j < 16) (h2:j < (⟨#[48,49,50,51,52,53,54,55,56,57,97,98,99,100,101,102,103,104,105,106,107,108,109,110,111,112,113,114,115,116,117,118,119,120,121,122]⟩:ByteArray).size),(⟨#[48,49,50,51,52,53,54,55,56,57,97,98,99,100,101,102,103,104,105,106,107,108,109,110,111,112,113,114,115,116,117,118,119,120,121,122]⟩:ByteArray)[j]'h2=j0 j
 | 0,_,_=>rfl
 | 1,_,_=>rfl
 | 2,_,_=>rfl
 | 3,_,_=>rfl
 | 4,_,_=>rfl
 | 5,_,_=>rfl
 | 6,_,_=>rfl
 | 7,_,_=>rfl
 | 8,_,_=>rfl
 | 9,_,_=>rfl
 | 10,_,_=>rfl
 | 11,_,_=>rfl
 | 12,_,_=>rfl
 | 13,_,_=>rfl
 | 14,_,_=>rfl
 | 15,_,_=>rfl
 | _+16,h,_=>absurd h Yi
theorem zero65:Tryz.zeroCells407=((List.replicate 65 (0:Int)).map (Value.int .u8)).toArray:=Yh
theorem fmt16 (n:Nat) (hn:n < 2 ^ 64) (w:World) (ht:w.cell? ⟨7,15,none⟩=some (.int .u8 4)):
  Calls prog 287 #[.slice none 0 0,n,Yp 16,.bool false,.bool false] w λe w'=>e= .returned (.tuple #[.slice none 0 0,.string ⟨(cf n).toArray⟩])/\Gr w w':=by
 have TZ:=hid (λu (g:Gr w u)=>TZ16 u ((g.cells.1 _ _ (World.block_lt_of_cell? _ _ ht)).trans ht));have PW:=hid (λu=>pow16 u);clear ht;go_enter func287,ntmps287;go_upto_region 4 with (fail);have bx:=ae w (.cells Tryz.zeroCells407 407);have g0:Gr w (w.alloc (.cells Tryz.zeroCells407 407)):=(Yu w).alloc _;generalize w.alloc (.cells Tryz.zeroCells407 407)=W at *;obtain⟨b,hb⟩:∃b,w.heap.size=b:=⟨_,rfl⟩;rw[hb]at bx;simp only[hb];have HB:=hid hb;clear hb;have HZ:Hid (ZB W b 65 []):=hid ⟨List.replicate 65 0,Yj,by rw[bx,zero65],Yj⟩;clear bx;go_wp2_with fail;refine(PW.out _).mono ?_;rintro e w1 ⟨rfl,hg1⟩;go_wp2_with fail;refine(TZ.out _ (g0.trans hg1)).mono ?_;rintro e w2 ⟨rfl,hg2⟩;have G2:=(g0.trans hg1).trans hg2;have HZ2:=hid (HZ.out.gr (hg1.trans hg2));clear HZ hg1 hg2 PW TZ;have hlen:=gf hn;go_wp2;go_loopw [1,13] (λu q wr=>∃(m:Nat) (L:List UInt8),u= .int .u64 m/\q= .int .i64 ((65 - L.length:Nat):Int)/\m < 2 ^ 64/\L.length+(cf m).length<=16/\Hid (cf n=cf m ++ L)/\GrL [b] w2 wr/\Hid (ZB wr b (65 - L.length) L)) (λu _ _=>(intOf u).toNat)
 case atStart=>exact⟨n,[],rfl,rfl,hn,by simpa using hlen.2,hid Yj,GrL.of_gr (Yu _),HZ2⟩
 case round=>
  obtain⟨m,L,rfl,rfl,hm,hL,HN,gr,HZ⟩:=hrel;have hl1:=(gf hm).1;obtain⟨k,hk⟩:∃k,65 - L.length=k+1:=⟨64 - L.length,Yi⟩;rw[hk]at HZ;simp only[hk];have hk64:k < 65:=Yi;have hk64':(k:Int) < 65:=Yi;have hk0:(0:Int)<=k:=Yi;obtain⟨x0,c0,f0⟩:=HZ.out.cell k hk64
  by_cases h16:16<=m
  ·have h16':(16:Int)<=m:=Yi;have ha:=and15 m hm;have hm16:m % 16 < 16:=Nat.mod_lt _ Yi;go_wp2;have hst:=m6 h16 hm;have hlen2:(cf m).length=(cf (m / 16)).length+1:=by rw[hst,List.length_append];rfl
   have hkl:65 - (j0 (m % 16) :: L).length=k:=by rw[List.length_cons];omega
   rw[digs hm16];refine⟨⟨m / 16,j0 (m % 16) :: L,Yj,by rw[hkl],Yi,by rw[List.length_cons];omega,hid (by rw[HN.out,hst];simp),GrL.set gr _ _ (Or.inr Yj),hid (by rw[hkl];exact HZ.out.put _ hk64)⟩,by simp[intOf];omega⟩
  ·have h16':¬(16:Int)<=m:=Yi;have hm16:m < 16:=Yi;go_wp2;rw[digs hm16];have HZ3:=hid (HZ.out.put (j0 m) hk64);have G3:GrL [b] w2 (wr.setCell (Yo b k) (Ys (j0 m).toNat)):=GrL.set gr _ _ (Or.inr Yj);generalize wr.setCell (Yo b k) (Ys (j0 m).toNat)=W3 at *;have hst:=lp hm16;have hLn:cf n=j0 m :: L:=by rw[HN.out,hst];rfl
   have hkL:65 - k=(j0 m :: L).length:=by rw[List.length_cons];omega
   have hcv:=HZ3.out.conv Yi;rw[show 65 - k=L.length+1 from by omega]at hcv;have HLN:=hid hLn;clear hLn;have hk65:(k:Int)<=65:=Yi;have hk65':¬65=k:=Yi;have HR:=hid (GrL.gr G2 G3 (λi hi=>by rw[HB.out];simp at hi;omega));clear G3 HZ3 HZ HN gr c0 f0;go_simp;go_wp2;go_ret2;exact⟨(by rw[HLN.out];rfl),HR.out⟩
theorem Bf (n:Nat) (hn:n < 2 ^ 64) (w:World) (ht:w.cell? ⟨7,15,none⟩=some (.int .u8 4)):
  Calls prog 260 #[n,Yp 16] w λe w'=>e= .returned (.string ⟨(cf n).toArray⟩)/\Gr w w':=by
 have F:=hid (fmt16 n hn w ht);clear ht;go_enter func260,ntmps260;go_wp2_with fail;refine F.out.mono ?_;rintro e w1 ⟨rfl,hg⟩;go_wp2;go_ret;exact⟨rfl,hg⟩
theorem pd (n:Nat) (hn:n < 2 ^ 64) (w:World) (ht:w.cell? ⟨7,15,none⟩=some (.int .u8 4)):
  Calls prog 216 #[n,Yp 16] w λe w'=>e= .returned (.string ⟨(cf n).toArray⟩)/\Gr w w':=by
 have F:=hid (Bf n hn w ht);clear ht;go_enter func216,ntmps216;go_wp2_with fail;refine F.out.mono ?_;rintro e w1 ⟨rfl,hg⟩;go_wp2;go_ret;exact⟨rfl,hg⟩
abbrev Av (p0 p1 p2 p3 p4 p5 p6 p7:Nat):Value:= .agg #[p0,p1,p2,p3,p4,p5,p6,p7]
def gj (P:List Nat):Nat->Nat
 | 0=>0
 | 1=>1
 | k+2=>if P.getD (k+1) 0=0 then gj P (k+1)else k+2
theorem rs (P:List Nat):∀k,gj P k<=k
 | 0=>Yv _
 | 1=>Yv _
 | k+2=>by
  rw[gj];split
  ·have:=rs P (k+1);omega
  ·exact Yv _
def dg (P:List Nat):List UInt8:=Lib.join ((P.take (gj P 8)).map cf) [46]
theorem U5 {n:Nat} (hn:n < 2 ^ 64):cf n=[48]↔n=0:=by
 constructor
 ·intro h
  by_cases h16:n < 16
  ·rw[lp h16]at h;injection h with h
   have:∀k:Fin 16,j0 k.1=48->k.1=0:=Yk;exact this ⟨n,h16⟩ h
  ·have h1:=congrArg List.length (m6 Yi hn);have h2:=(gf (n:=n / 16) Yi).1;rw[h,List.length_append,List.length_singleton,List.length_singleton]at h1;omega
 ·rintro rfl;rfl
theorem J4 (W:World) (p0 p1 p2 p3 p4 p5 p6 p7:Nat) (i:Nat) (hi:i < 8):(Instr.index 39 (Av p0 p1 p2 p3 p4 p5 p6 p7) (Yp i)).run prog W= .ok ([p0,p1,p2,p3,p4,p5,p6,p7].getD i 0:Nat) W:=by
 have hu:=underlying39;have hs:=Tryz.sizeOf37;rcases(by omega:i=0\/i=1\/i=2\/i=3\/i=4\/i=5\/i=6\/i=7)with rfl | rfl | rfl | rfl | rfl | rfl | rfl | rfl
 all_goals simp[Instr.index,run_underlying hu,asIntOf,hs,go_sem]
theorem zaC {base:Nat} {T:TypeId} {g cap n k:Nat} {xs:List Value} {w:World} (h:w.ownsRow base T 1 (.slice (Yn g) n cap) n xs) (hk:k<=n):
  w.ownsRow base T 1 (.slice (Yn g) k cap) k (xs.take k):=by
 rcases h.2 with ⟨hv,_⟩ | ⟨g',cap',cur,hv,hb,hg,hcap,hmax,hsz,htk⟩
 ·cases hv
 injection hv with ha _ hc
 subst hc;injection ha with ha
 injection ha with ha
 subst ha;refine⟨by rw[List.length_take,h.1];omega,.inr ⟨g,cap,cur,rfl,hb,hg,Yi,hmax,hsz,?_⟩⟩;rw[<-htk,List.take_take,Nat.mul_one,Nat.mul_one,Nat.min_eq_left hk]
theorem zcj (base:Nat) (v:Value) (ws:List (List UInt8)) (W:World) (hrow:W.ownsRow base 9 1 v ws.length (ws.map sv)) (hne:ws≠[]) (hk:ws.length<=1000) (hlen:(Lib.join ws [46]).length<=140737488355328):
  Calls prog 120 #[v,.string ⟨#[46]⟩] W λe w'=>e= .returned (sv (Lib.join ws [46]))/\Gr W w':=by
 have h':=hrow;rcases hrow.2 with ⟨_,hn⟩ | ⟨g,cap,cur,rfl,hb,hg,hcap,_⟩
 ·exact absurd (List.eq_nil_of_length_eq_zero hn) hne
 ·have em:(ws.map λl=>(⟨l.toArray⟩:ByteArray)).map (·.data.toList)=ws:=by
   rw[List.map_map];exact(List.map_congr_left (λ_ _=>rfl)).trans (List.map_id ws)
  have J:=Tryz.strings_Join g 0 cap (ws.map λl=>(⟨l.toArray⟩:ByteArray)) ⟨#[46]⟩ W (λj x hx=>by
   have hj:j < ws.length:=by
    have:=(List.getElem?_eq_some_iff.1 hx).1;simpa using this
   rw[Nat.zero_add,h'.cellAt j Yi];simp[hj]at hx ⊢;rw[<-hx]) (ai hg) (by simp;omega) (by simpa using hcap) (by rw[em];exact hlen)
  rw[em,List.length_map]at J;exact J.mono λe w' ⟨h1,h2⟩=>⟨h1,Gr.of_below h2⟩
theorem T8 (ws:List (List UInt8)) (hn:ws.length<=8) (h:∀l∈ws,l.length<=16):(Lib.join ws [46]).length<=140737488355328:=by
 cases ws with
 | nil=>simp[Lib.join]
 | cons x r=>
  have h1:=zes 16 _ h;rw[Lib.join_length];simp only[List.length_cons,List.length_nil]at *;omega
theorem Z0 {n:Nat} (hn:n < 2 ^ 64):((⟨(cf n).toArray⟩:ByteArray).toList == [48])=decide (n=0):=by
 rw[ByteArray.toList_eq]
 by_cases h:n=0
 ·subst h;rfl
 ·rw[decide_eq_false h,beq_eq_false_iff_ne];intro he;exact h ((U5 hn).1 he)
theorem kc {P:List Nat} {j:Nat} (h:j < P.length):P.getD j 0=P[j]:=by simp[List.getD,h]
theorem C7 {w:World} {base:Nat} {T:TypeId} {v:Value} {m:Nat} {xs:List Value} (h:w.ownsRow base T 1 v m xs):∃a c,v= .slice a m c:=by
 rcases h.2 with ⟨rfl,hz⟩ | ⟨g,cap,cur,rfl,_⟩
 ·rw[hz];exact⟨none,0,rfl⟩
 ·exact⟨_,cap,rfl⟩
theorem _root_.Go.World.ownsRow.gr1 {w w':World} {base:Nat} {T:TypeId} {size:Nat} {v:Value} {m:Nat} {xs:List Value} (h:w.ownsRow base T size v m xs) (g:Gr w w'):w'.ownsRow base T size v m xs:=by
 refine⟨h.1,?_⟩;rcases h.2 with h | ⟨g',cap,cur,h1,h2,h3,h4⟩
 ·exact .inl h
 ·exact .inr ⟨g',cap,cur,h1,h2,g.heap h3,h4⟩
theorem nt (p0 p1 p2 p3 p4 p5 p6 p7:Nat) (hP:∀p∈[p0,p1,p2,p3,p4,p5,p6,p7],p < 2 ^ 64) (w:World) (ht:w.cell? ⟨7,15,none⟩=some (.int .u8 4)):
  Calls prog 140 #[Av p0 p1 p2 p3 p4 p5 p6 p7] w λe w'=>e= .returned (sv (dg [p0,p1,p2,p3,p4,p5,p6,p7]))/\Gr w w':=by
 obtain⟨i0,hi,hz0,hz1,hz2⟩:=info_parts zbj;have IX:=hid (λW i hi=>J4 W p0 p1 p2 p3 p4 p5 p6 p7 i hi);have HPL:=hid hP;have FM:=hid (λn (hn:n < 2 ^ 64) u (g:Gr w u)=>pd n hn u ((g.cells.1 _ _ (World.block_lt_of_cell? _ _ ht)).trans ht));obtain⟨P,hPd⟩:∃P,[p0,p1,p2,p3,p4,p5,p6,p7]=P:=⟨_,rfl⟩;have hPl:P.length=8:=by rw[<-hPd];rfl
 rw[hPd]at HPL ⊢;simp only[hPd]at IX;have bx:=ae w (.cells #[p0,p1,p2,p3,p4,p5,p6,p7] 39);have g0:Gr w (w.alloc (.cells #[p0,p1,p2,p3,p4,p5,p6,p7] 39)):=(Yu w).alloc _;clear ht hP hPd;go_enter func140,ntmps140;go_wp2;generalize w.alloc (.cells #[p0,p1,p2,p3,p4,p5,p6,p7] 39)=W at *;clear bx;go_loopw [3,5,7] (λo _ q wr=>∃j:Nat,q= .int .i64 j/\j<=8/\Gr w wr/\Hid (wr.ownsRow w.heap.size 9 1 o j ((P.take j).map λn=>sv (cf n)))) (λ_ _ q _=>8 - (intOf q).toNat)
 case atStart=>exact⟨0,rfl,Yi,g0,hid (World.ownsRow_nil _ _ _ _)⟩
 case round=>
  obtain⟨j,rfl,hj,gr,HO⟩:=hrel
  by_cases hj8:j < 8
  ·have hj8':(j:Int) < 8:=Yi;have ix:=λW=>IX.out W j hj8;have hlt:=HPL.out (P.getD j 0) (by rw[kc (by omega:j < P.length)];exact List.getElem_mem _);have htk:(P.take (j+1)).map (λn=>sv (cf n))=(P.take j).map (λn=>sv (cf n)) ++ [sv (cf (P.getD j 0))]:=by
    rw[List.take_succ_eq_append_getElem (by omega:j < P.length),List.map_append,kc (by omega:j < P.length)];rfl
   have HE:Hid (∀(u:World) (s:Value),u.ownsRow w.heap.size 9 1 s (j+1) ((P.take j).map (λn=>sv (cf n)) ++ [sv (cf (P.getD j 0))])->u.ownsRow w.heap.size 9 1 s (j+1) ((P.take (j+1)).map λn=>sv (cf n))):=hid (λu s h=>by rw[htk];exact h);clear htk;generalize P.getD j 0=pj at *;generalize (P.take j).map (λn=>sv (cf n))=R at *;obtain⟨ao,co,rfl⟩:=C7 HO.out;go_wp2_with fail;refine(FM.out pj hlt _ gr).mono ?_;rintro e w1 ⟨rfl,hg1⟩;have gr1:=gr.trans hg1;have HOA:=hid ((HO.out.gr1 hg1).alloc (.cells #[sv (cf pj)] 9));have HCX:=hid (ed (ae w1 (.cells #[sv (cf pj)] 9))).1;have hb0:w.heap.size<=(w1.alloc (.cells #[sv (cf pj)] 9)).heap.size:=by rw[World.size_alloc];have:=gr1.b.size;omega
   have HB:=hid hb0;clear hb0 ix hlt;generalize cf pj=hx at *;go_wp2_with (at_builtin;refine wpList_append_own _ rfl _ _ 182 rfl w.heap.size 9 i0 _ 1 16 underlying182 hi hz0 hz1 hz2 rfl Yk _ _ _ rfl HOA.out ⟨w1.heap.size,0,none⟩ 1 1 [sv hx] rfl rfl ?c1 ?c2 ?c3 ?c4 ?c5 ?c6)
   case c1=>
    intro k u hu;rw[Addr.add_mid,Nat.zero_add,HCX.out k];simpa using hu
   case c2=>intro v hv;obtain rfl:=List.mem_singleton.1 hv;rfl
   case c3=>unfold maxLen;omega
   case c4=>omega
   case c5=>exact HB.out
   case c6=>
    intro v' w2 hown hgrow _;have G2:Gr w w2:=GrL.gr (gr1.alloc _) (GrL.of_grown' hgrow) (λk hk=>(HOA.out.lt k (by simpa using hk)).1);have HN:=hid (HE.out _ _ hown);clear hown hgrow;go_wp2;exact⟨⟨j+1,Yj,Yi,G2,HN⟩,by simp[intOf];omega⟩
  ·obtain rfl:j=8:=Yi;have HO8:=HO.out;rcases HO.out.2 with ⟨_,hz⟩ | ⟨g,cap,cur,rfl,_,_,hcap,hmax,_,_⟩
   ·cases hz
   have hcm:cap<=9223372036854775807:=by unfold maxLen at hmax;omega
   have HO9:=hid HO8;clear HO8 HO hmax FM IX;go_wp2;go_loopw [3] (λo wr2=>∃k:Nat,o= .slice (Yn g) k cap/\1<=k/\k<=8/\Gr wr wr2/\Hid (gj P 8=gj P k)/\Hid (wr2.ownsRow w.heap.size 9 1 (.slice (Yn g) k cap) k ((P.take k).map λn=>sv (cf n)))) (λo _=>p9 o)
   case atStart=>exact⟨8,rfl,Yi,Yi,Yu _,hid rfl,HO9⟩
   case round=>
    obtain⟨k,rfl,hk1,hk8,g2,HK,HO⟩:=hrel;have JN:Hid (gj P k=k->Calls prog 120 #[.slice (Yn g) k cap,.string ⟨#[46]⟩] wr λe w'=>e= .returned (sv (dg P))/\Gr wr w'):=hid (λhc=>by
     have hlk:((P.take k).map cf).length=k:=by rw[List.length_map,List.length_take];omega
     have hst:dg P=Lib.join ((P.take k).map cf) [46]:=by unfold dg;rw[HK.out,hc]
     rw[hst];refine zcj w.heap.size _ ((P.take k).map cf) wr ?_ ?_ Yi (T8 _ Yi (λl hl=>?_))
     ·rw[hlk,List.map_map];exact HO.out
     ·intro h;rw[h]at hlk;simp at hlk;omega
     ·obtain⟨p,hp,rfl⟩:=List.mem_map.1 hl;exact(gf (HPL.out p (List.mem_of_mem_take hp))).2)
    have GG:=gr.trans g2
    by_cases hk:1 < k
    ·obtain⟨i,rfl⟩:∃i,k=i+1:=⟨k - 1,Yi⟩;have hi1:1<=i:=Yi;have hcell:=HO.out.cellAt i Yi;have hpi:P.getD i 0 < 2 ^ 64:=by
      rw[kc (by omega:i < P.length)];exact HPL.out _ (List.getElem_mem _)
     have hq:((⟨(cf (P.getD i 0)).toArray⟩:ByteArray).toList == [48])=decide (P.getD i 0=0):=Z0 hpi;have hce:wr.cell? ⟨g,i,none⟩=some (.string ⟨(cf (P.getD i 0)).toArray⟩):=by
      rw[hcell,List.getElem?_map,List.getElem?_take,if_pos Yi,List.getElem?_eq_getElem (by omega:i < P.length),kc (by omega:i < P.length)];rfl
     have hzg:g < wr.heap.size:=World.block_lt_of_cell? _ _ hce;obtain⟨S,hS⟩:∃S,(⟨(cf (P.getD i 0)).toArray⟩:ByteArray)=S:=⟨_,rfl⟩;rw[hS]at hq hce;have hi2:(1:Int) < (i:Int)+1:=Yi;have hi3:(i:Int)<=cap:=Yi;have hi0:(0:Int)<=i:=Yi;obtain⟨m,rfl⟩:∃m,i=m+1:=⟨i - 1,Yi⟩;have hcut:gj P (m+1+1)=if P.getD (m+1) 0=0 then gj P (m+1)else m+1+1:=rfl;have HCUT:=hid hcut;have HOC:=hid (zaC HO.out (k:=m+1) Yi);clear hcell hS hcut
     by_cases hz:P.getD (m+1) 0=0
     ·rw[decide_eq_true hz]at hq;have HK2:Hid (gj P 8=gj P (m+1)):=hid (by rw[HK.out,HCUT.out,if_pos hz]);have HO2:Hid (wr.ownsRow w.heap.size 9 1 (.slice (Yn g) (m+1) cap) (m+1) ((P.take (m+1)).map λn=>sv (cf n))):=hid (by
       have:=HOC.out
       rwa [<-List.map_take,List.take_take,Nat.min_eq_left Yi]at this)
      clear HCUT HOC HO JN hz;go_wp2;refine⟨?_,by simp[p9]⟩
      (repeat apply Exists.intro)
      refine⟨?_,rfl⟩;exact⟨m+1,rfl,Yi,Yi,g2,HK2,HO2⟩
     ·rw[decide_eq_false hz]at hq;have JM:=hid (JN.out (by rw[HCUT.out,if_neg hz]));clear JN HOC HCUT hz HO;go_wp2_with fail;refine JM.out.mono ?_;rintro e w9 ⟨rfl,hg9⟩;go_wp2;go_ret;exact⟨rfl,GG.trans hg9⟩
    ·obtain rfl:k=1:=Yi;have JM:=hid (JN.out rfl);clear JN;go_wp2_with fail;refine JM.out.mono ?_;rintro e w9 ⟨rfl,hg9⟩;go_wp2;go_ret;exact⟨rfl,GG.trans hg9⟩
theorem ge (q0 q1 q2 q3 q4 q5 q6 q7 p0 p1 p2 p3 p4 p5 p6 p7:Nat) (w:World):(Op.equalIn 10000 39 (Av q0 q1 q2 q3 q4 q5 q6 q7) (Av p0 p1 p2 p3 p4 p5 p6 p7)).run prog w= .ok (decide ([q0,q1,q2,q3,q4,q5,q6,q7]=[p0,p1,p2,p3,p4,p5,p6,p7])) w:=by
 have hu:=underlying39;obtain⟨i,hi⟩:=Option.isSome_iff_exists.1 (show(prog.info? 37).isSome=true by kernel_rfl);have hc:prog.cellsOf 37=1:=Yh;rw[show(10000:Nat)=9999+1 from rfl,run_equalIn_array w 9999 _ _ hu hi];have h8:List.range 8=[0,1,2,3,4,5,6,7]:=rfl;rw[hc,h8]
 by_cases h0:q0=p0
 ·by_cases h1:q1=p1
  ·by_cases h2:q2=p2
   ·by_cases h3:q3=p3
    ·by_cases h4:q4=p4
     ·by_cases h5:q5=p5
      ·by_cases h6:q6=p6
       ·by_cases h7:q7=p7
        ·simp[Op.eqItems,go_sem, *]
        ·simp[Op.eqItems,go_sem, *];omega
       ·simp[Op.eqItems,go_sem, *];omega
      ·simp[Op.eqItems,go_sem, *];omega
     ·simp[Op.eqItems,go_sem, *];omega
    ·simp[Op.eqItems,go_sem, *];omega
   ·simp[Op.eqItems,go_sem, *];omega
  ·simp[Op.eqItems,go_sem, *];omega
 ·simp[Op.eqItems,go_sem, *];omega
def ef (w:World) (v:Value) (L:List (List Nat)):Prop:=∃a cap,v= .slice a L.length cap/\L.length<=cap/\∀j (hj:j < L.length),∃g o,a=some ⟨g,o,none⟩/\g < w.heap.size/\
  ∃p0 p1 p2 p3 p4 p5 p6 p7:Nat,L[j]=[p0,p1,p2,p3,p4,p5,p6,p7]/\(∀p∈L[j],p < 2 ^ 64)/\
  w.cell? ⟨g,o+j * 8,none⟩=some (.int .u64 p0)/\w.cell? ⟨g,o+j * 8+1,none⟩=some (.int .u64 p1)/\w.cell? ⟨g,o+j * 8+2,none⟩=some (.int .u64 p2)/\w.cell? ⟨g,o+j * 8+3,none⟩=some (.int .u64 p3)/\w.cell? ⟨g,o+j * 8+4,none⟩=some (.int .u64 p4)/\w.cell? ⟨g,o+j * 8+5,none⟩=some (.int .u64 p5)/\w.cell? ⟨g,o+j * 8+6,none⟩=some (.int .u64 p6)/\w.cell? ⟨g,o+j * 8+7,none⟩=some (.int .u64 p7)
theorem ef.gr {w w':World} {v:Value} {L:List (List Nat)} (h:ef w v L) (g:Gr w w'):ef w' v L:=by
 obtain⟨a,cap,hv,hc,hr⟩:=h;refine⟨a,cap,hv,hc,λj hj=>?_⟩;obtain⟨b,o,ha,hb,p0,p1,p2,p3,p4,p5,p6,p7,hp,hl,c0,c1,c2,c3,c4,c5,c6,c7⟩:=hr j hj;have k:=λi=>g.cells.1 b i hb;exact⟨b,o,ha,Nat.lt_of_lt_of_le hb g.b.size,p0,p1,p2,p3,p4,p5,p6,p7,hp,hl,(k _).trans c0,(k _).trans c1,(k _).trans c2,(k _).trans c3,(k _).trans c4,(k _).trans c5,(k _).trans c6,(k _).trans c7⟩
theorem blk8 {w:World} {b:Nat} {x0 x1 x2 x3 x4 x5 x6 x7:Value} {T:TypeId} (h:w.heap[b]?=some (.cells #[x0,x1,x2,x3,x4,x5,x6,x7] T (0,0))):w.cell? ⟨b,0,none⟩=some x0/\w.cell? ⟨b,1,none⟩=some x1/\w.cell? ⟨b,2,none⟩=some x2/\w.cell? ⟨b,3,none⟩=some x3/\w.cell? ⟨b,4,none⟩=some x4/\w.cell? ⟨b,5,none⟩=some x5/\w.cell? ⟨b,6,none⟩=some x6/\w.cell? ⟨b,7,none⟩=some x7:=by
 have k:=(ed h).1;exact⟨k 0,k 1,k 2,k 3,k 4,k 5,k 6,k 7⟩
abbrev aq:List Nat:=[0,0,0,0,0,0,0,0]
theorem Jr (v:Value) (L:List (List Nat)) (w:World) (hv:ef w v L) (hl:L.length<=8):
  Calls prog 304 #[v,Av 0 0 0 0 0 0 0 0] w λe w'=>∃i:Int,e= .returned (Yp i)/\(0<=i↔aq∈L)/\Gr w w':=by
 have bp:=ae w (.cells Zc 39);have g0:Gr w (w.alloc (.cells Zc 39)):=(Yu w).alloc _;obtain⟨a,cap,rfl,hcap,hcell⟩:=hv.gr g0;have HC:=hid hcell;have G0:=hid g0;have BP:=hid bp;clear hcell g0 hv bp;go_enter func304,ntmps304;go_wp2;go_loopw [8] (λr wr=>∃i:Nat,r= .int .i64 i/\i<=L.length/\Hid (∀j (hj:j < L.length),j < i->L[j]≠aq)/\Gr (w.alloc (.cells Zc 39)) wr) (λr _=>L.length - (intOf r).toNat)
 case atStart=>exact⟨0,rfl,Yi,hid (λj hj h=>absurd h (Nat.not_lt_zero _)),Yu _⟩
 case round=>
  obtain⟨i,rfl,hi,HS,gr⟩:=hrel
  by_cases hil:i < L.length
  ·have hil':(i:Int) < L.length:=Yi;obtain⟨g,o,rfl,hgl,p0,p1,p2,p3,p4,p5,p6,p7,hp,hlt,c0,c1,c2,c3,c4,c5,c6,c7⟩:=HC.out i hil;obtain⟨b0,b1,b2,b3,b4,b5,b6,b7⟩:=blk8 (gr.heap BP.out);rw[<-gr.cells.1 g _ hgl]at c0 c1 c2 c3 c4 c5 c6 c7;have GW:=hid (G0.out.trans gr);have HG:=hid gr;clear gr BP hgl;have HE:=hid (ge 0 0 0 0 0 0 0 0 p0 p1 p2 p3 p4 p5 p6 p7)
   by_cases hz:L[i]=aq
   ·have hm:Hid (aq∈L):=hid (hz▸List.getElem_mem hil);rw[hp]at hz;have he:∀u,(Op.equalIn 10000 39 (.agg Zc) (.agg #[p0,p1,p2,p3,p4,p5,p6,p7])).run prog u= .ok true u:=λu=>(HE.out u).trans (congrArg (λb=>Result.ok b u) (decide_eq_true hz.symm));clear HC hp hlt hz HE;go_wp2;go_quiet (fail);go_wp2;go_ret;exact⟨i,rfl,⟨λ_=>hm.out,λ_=>by omega⟩,GW.out.drewN _⟩
   ·have HS2:Hid (∀j (hj:j < L.length),j < i+1->L[j]≠aq):=hid (λj hj hji=>by
     rcases Nat.lt_or_ge j i with h | h
     ·exact HS.out j hj h
     ·obtain rfl:j=i:=Yi;exact hz)
    rw[hp]at hz;have he:∀u,(Op.equalIn 10000 39 (.agg Zc) (.agg #[p0,p1,p2,p3,p4,p5,p6,p7])).run prog u= .ok false u:=λu=>(HE.out u).trans (congrArg (λb=>Result.ok b u) (decide_eq_false (λh=>hz h.symm)));clear HC hp hlt hz HE;go_wp2;go_quiet (fail);go_wp2;exact⟨⟨i+1,Yj,Yi,HS2,HG.out.drewN _⟩,by simp[intOf];omega⟩
  ·have hil':¬(i:Int) < L.length:=Yi;go_wp2;go_ret;refine⟨-1,rfl,?_,G0.out.trans gr⟩;constructor
   ·intro h;omega
   ·intro h;obtain⟨j,hj,hh⟩:=List.getElem_of_mem h;exact absurd hh (HS.out j hj Yi)
theorem Bg (v:Value) (L:List (List Nat)) (w:World) (hv:ef w v L) (hl:L.length<=8):
  Calls prog 290 #[v,Av 0 0 0 0 0 0 0 0] w λe w'=>e= .returned (.bool (decide (aq∈L)))/\Gr w w':=by
 have g0:Gr w (w.alloc (.cells Zc 39)):=(Yu w).alloc _;have IX:=hid (Jr v L _ (hv.gr g0) hl);have bp:=ae w (.cells Zc 39);obtain⟨b0,b1,b2,b3,b4,b5,b6,b7⟩:=blk8 bp;have G0:=hid g0;obtain⟨q,hq⟩:∃q,decide (aq∈L)=q:=⟨_,rfl⟩;have HQ:=hid hq;rw[hq];clear hq bp g0 hv hl;go_enter func290,ntmps290;go_wp2_with fail;refine IX.out.mono ?_;rintro e w1 ⟨i,rfl,hi,g1⟩;have G1:=hid (G0.out.trans g1);have HI:=hid hi;clear hi g1
 by_cases h:0<=i
 ·have e1:q=true:=by rw[<-HQ.out];exact decide_eq_true (HI.out.1 h)
  subst e1;go_wp2;go_ret;exact⟨rfl,G1.out⟩
 ·have e1:q=false:=by rw[<-HQ.out];exact decide_eq_false (λk=>h (HI.out.2 k))
  subst e1;have hd:decide (0<=i)=false:=decide_eq_false h;go_wp2;go_ret;exact⟨rfl,G1.out⟩
def ci (P:List Nat) (L:List (List Nat)):Nat:=if 8 < L.length then 2 else if P=aq\/aq∈L then 1 else 0
theorem im (p0 p1 p2 p3 p4 p5 p6 p7:Nat) (v:Value) (L:List (List Nat)) (w:World) (hv:ef w v L):
  Calls prog 261 #[.agg #[p0,p1,p2,p3,p4,p5,p6,p7,v]] w λe w'=>e= .returned (Yp (ci [p0,p1,p2,p3,p4,p5,p6,p7] L))/\Gr w w':=by
 have bp:=ae w (.cells #[p0,p1,p2,p3,p4,p5,p6,p7,v] 42);have g0:Gr w (w.alloc (.cells #[p0,p1,p2,p3,p4,p5,p6,p7,v] 42)):=(Yu w).alloc _;have bc:=(ed bp).1;have b0:=bc 0;have b1:=bc 1;have b2:=bc 2;have b3:=bc 3;have b4:=bc 4;have b5:=bc 5;have b6:=bc 6;have b7:=bc 7;have b8:=bc 8;have hv':=hv;obtain⟨a,cap,rfl,hcap, -⟩:=hv';have HC:=hid (λhl=>Bg _ L _ (hv.gr g0) hl);have HE:=hid (ge p0 p1 p2 p3 p4 p5 p6 p7 0 0 0 0 0 0 0 0);have HG:=hid g0;obtain⟨q,hq⟩:∃q,ci [p0,p1,p2,p3,p4,p5,p6,p7] L=q:=⟨_,rfl⟩;have HQ:=hid hq;rw[hq];clear hq g0 hv bp bc hcap;simp only[List.getElem?_toArray,List.getElem?_cons_zero,List.getElem?_cons_succ]at b0 b1 b2 b3 b4 b5 b6 b7 b8
 by_cases hl:8 < L.length
 ·have hl':(8:Int) < L.length:=Yi;have eq:q=2:=by rw[<-HQ.out,ci,if_pos hl]
  subst eq;go_enter func261,ntmps261;go_wp2;go_ret;exact⟨rfl,HG.out⟩
 ·have hl':¬(8:Int) < L.length:=Yi
  by_cases hz:[p0,p1,p2,p3,p4,p5,p6,p7]=aq
  ·have he:∀u,(Op.equalIn 10000 39 (.agg #[p0,p1,p2,p3,p4,p5,p6,p7]) (.agg Zc)).run prog u= .ok true u:=λu=>(HE.out u).trans (congrArg (λb=>Result.ok b u) (decide_eq_true hz));have eq:q=1:=by rw[<-HQ.out,ci,if_neg hl,if_pos (.inl hz)]
   subst eq;clear HE hz;go_enter func261,ntmps261;go_wp2;go_ret;exact⟨rfl,HG.out⟩
  ·have he:∀u,(Op.equalIn 10000 39 (.agg #[p0,p1,p2,p3,p4,p5,p6,p7]) (.agg Zc)).run prog u= .ok false u:=λu=>(HE.out u).trans (congrArg (λb=>Result.ok b u) (decide_eq_false hz));have CC:=hid (HC.out Yi);have HQ:Hid ((decide (aq∈L)=true->q=1)/\(decide (aq∈L)=false->q=0)):=hid (by
    rw[<-HQ.out,ci,if_neg hl];constructor
    ·intro h;rw[if_pos (.inr (of_decide_eq_true h))]
    ·intro h;rw[if_neg (λk=>k.elim hz (of_decide_eq_false h))])
   clear HE hz HC;generalize decide (aq∈L)=d at *;go_enter func261,ntmps261;go_wp2_with fail;refine CC.out.mono ?_;rintro e w1 ⟨rfl,g1⟩;have G1:=hid (HG.out.trans g1);clear g1;cases d
   ·obtain rfl:=HQ.out.2 rfl;go_wp2;go_ret;exact⟨rfl,G1.out⟩
   ·obtain rfl:=HQ.out.1 rfl;go_wp2;go_ret;exact⟨rfl,G1.out⟩
theorem Rh (p0 p1 p2 p3 p4 p5 p6 p7 k:Nat) (pc:Int) (c0 c1 c2 c3 c4 c5 c6 c7:Nat) (v:Value) (L:List (List Nat)) (w:World) (hv:ef w v L) (h:pc < 0\/(L.length:Int)<=pc\/[c0,c1,c2,c3,c4,c5,c6,c7]≠aq):
  Calls prog 305 #[.agg #[p0,p1,p2,p3,p4,p5,p6,p7,v],.agg #[Ys k,Yp pc,c0,c1,c2,c3,c4,c5,c6,c7]] w λe w'=>e= .returned (.tuple #[.agg Zg,.bool false])/\Gr w w':=by
 have HE:=hid (ge c0 c1 c2 c3 c4 c5 c6 c7 0 0 0 0 0 0 0 0);have bp:=ae w (.cells #[p0,p1,p2,p3,p4,p5,p6,p7,v] 42);have g0:Gr w (w.alloc (.cells #[p0,p1,p2,p3,p4,p5,p6,p7,v] 42)):=(Yu w).alloc _;obtain⟨a,cap,rfl,hcap, -⟩:=hv;have HG:=hid g0;have bc:=(ed bp).1;have b8:=bc 8;simp only[List.getElem?_toArray,List.getElem?_cons_zero,List.getElem?_cons_succ]at b8;clear bp bc g0
 by_cases h1:pc < 0
 ·clear HE h;go_enter func305,ntmps305;go_wp2;refine bodyPost_ret (v:= .tuple #[.agg Zg,.bool false]) (by simp[results,results305,go_sem, *]) rfl ⟨rfl,?_⟩;exact(HG.out.alloc _).alloc _
 by_cases h2:(L.length:Int)<=pc
 ·clear HE h;go_enter func305,ntmps305;go_wp2;refine bodyPost_ret (v:= .tuple #[.agg Zg,.bool false]) (by simp[results,results305,go_sem, *]) rfl ⟨rfl,?_⟩;exact(HG.out.alloc _).alloc _
 ·have hz:¬[c0,c1,c2,c3,c4,c5,c6,c7]=aq:=by rcases h with h | h | h <;> first | exact h | exact absurd h (by assumption)
  have he:∀u,(Op.equalIn 10000 39 (.agg #[c0,c1,c2,c3,c4,c5,c6,c7]) (.agg Zc)).run prog u= .ok false u:=λu=>(HE.out u).trans (congrArg (λb=>Result.ok b u) (decide_eq_false hz));clear HE h hz;go_enter func305,ntmps305;go_wp2;refine bodyPost_ret (v:= .tuple #[.agg Zg,.bool false]) (by simp[results,results305,go_sem, *]) rfl ⟨rfl,?_⟩;exact(HG.out.alloc _).alloc _
theorem vk {u:World} {g:Nat} {y0 y1 y2 y3 y4 y5 y6 y7 y8 x0 x1 x2 x3 x4 x5 x6 x7 x8:Value} {T:TypeId} (h:u.heap[g]?=some (.cells #[y0,y1,y2,y3,y4,y5,y6,y7,y8] T (0,0))):(((((((((u.setCell (Yo g 0) x0).setCell (Yo g 1) x1).setCell (Yo g 2) x2).setCell (Yo g 3) x3).setCell (Yo g 4) x4).setCell (Yo g 5) x5).setCell (Yo g 6) x6).setCell (Yo g 7) x7).setCell (Yo g 8) x8).heap[g]?=some (.cells #[x0,x1,x2,x3,x4,x5,x6,x7,x8] T (0,0)):=by
 have go:∀(v:World) (c:Array Value) (i:Nat) (s:Value),v.heap[g]?=some (.cells c T (0,0))->(v.setCell (Yo g i) s).heap[g]?=some (.cells (c.setIfInBounds i s) T (0,0)):=λv c i s hv=>by
  have:(v.setCell (Yo g i) s).heap=v.heap.modify g fun | .cells c elem fr=> .cells (c.setIfInBounds i s) elem fr | o=>o:=rfl;rw[this,Array.getElem?_modify];simp[hv]
 have:=(go _ _ 8 x8 (go _ _ 7 x7 (go _ _ 6 x6 (go _ _ 5 x5 (go _ _ 4 x4 (go _ _ 3 x3 (go _ _ 2 x2 (go _ _ 1 x1 (go _ _ 0 x0 h)))))))));simpa using this
theorem zbX (i:Nat) (hi:i < 8):IntKind.u8.wrap ((2:Int) ^ i)=(2:Int) ^ i:=by
 rcases(by omega:i=0\/i=1\/i=2\/i=3\/i=4\/i=5\/i=6\/i=7)with rfl | rfl | rfl | rfl | rfl | rfl | rfl | rfl <;> decide
theorem Ky (p0 p1 p2 p3 p4 p5 p6 p7 k i:Nat) (v:Value) (L:List (List Nat)) (w:World) (hv:ef w v L) (hi:i < L.length) (hl:L.length<=8) (x0 x1 x2 x3 x4 x5 x6 x7:Nat) (hx:L[i]=[x0,x1,x2,x3,x4,x5,x6,x7]):
  Calls prog 305 #[.agg #[p0,p1,p2,p3,p4,p5,p6,p7,v],.agg #[Ys k,Yp i,Yq 0,Yq 0,Yq 0,Yq 0,Yq 0,Yq 0,Yq 0,Yq 0]] w λe w'=>e= .returned (.tuple #[.agg #[Ys ((2:Int) ^ i),x0,x1,x2,x3,x4,x5,x6,x7],.bool true])/\Gr w w':=by
 have HE:=hid (ge 0 0 0 0 0 0 0 0 0 0 0 0 0 0 0 0);have he:∀u,(Op.equalIn 10000 39 (.agg Zc) (.agg Zc)).run prog u= .ok true u:=λu=>(HE.out u).trans rfl;have bp:=ae w (.cells #[p0,p1,p2,p3,p4,p5,p6,p7,v] 42);have g0:Gr w (w.alloc (.cells #[p0,p1,p2,p3,p4,p5,p6,p7,v] 42)):=(Yu w).alloc _;obtain⟨a,cap,rfl,hcap,hc⟩:=hv;obtain⟨g,o,rfl,hgl,q0,q1,q2,q3,q4,q5,q6,q7,hp,hlt,c0,c1,c2,c3,c4,c5,c6,c7⟩:=hc i hi;rw[hx]at hp;simp only[List.cons.injEq,and_true]at hp;obtain⟨rfl,rfl,rfl,rfl,rfl,rfl,rfl,rfl⟩:=hp;have HG:=hid g0;have bc:=(ed bp).1;have b8:=bc 8;simp only[List.getElem?_toArray,List.getElem?_cons_zero,List.getElem?_cons_succ]at b8;have hi':(i:Int) < L.length:=Yi;clear bp bc g0 HE hc hx hlt;go_enter func305,ntmps305;go_wp2;have gr:Gr w (((w.alloc (.cells #[p0,p1,p2,p3,p4,p5,p6,p7,.slice (some ⟨g,o,none⟩) L.length cap] 42)).alloc (.cells #[Ys k,Yp i,Yq 0,Yq 0,Yq 0,Yq 0,Yq 0,Yq 0,Yq 0,Yq 0] 54)).alloc (.cells Zg 410)):=(HG.out.alloc _).alloc _;have r2:=ae ((w.alloc (.cells #[p0,p1,p2,p3,p4,p5,p6,p7,.slice (some ⟨g,o,none⟩) L.length cap] 42)).alloc (.cells #[Ys k,Yp i,Yq 0,Yq 0,Yq 0,Yq 0,Yq 0,Yq 0,Yq 0,Yq 0] 54)) (.cells Zg 410);have r1:=((Yu _).alloc (.cells Zg 410)).heap (ae (w.alloc (.cells #[p0,p1,p2,p3,p4,p5,p6,p7,.slice (some ⟨g,o,none⟩) L.length cap] 42)) (.cells #[Ys k,Yp i,Yq 0,Yq 0,Yq 0,Yq 0,Yq 0,Yq 0,Yq 0,Yq 0] 54));have r0:=(((Yu _).alloc (.cells #[Ys k,Yp i,Yq 0,Yq 0,Yq 0,Yq 0,Yq 0,Yq 0,Yq 0,Yq 0] 54)).alloc (.cells Zg 410)).heap (ae w (.cells #[p0,p1,p2,p3,p4,p5,p6,p7,.slice (some ⟨g,o,none⟩) L.length cap] 42));have cc:=gr.cells.1 g;have cl:=λn=>cc n hgl;rw[<-cl]at c0 c1 c2 c3 c4 c5 c6 c7;have hg2:g < ((((w.alloc (.cells #[p0,p1,p2,p3,p4,p5,p6,p7,.slice (some ⟨g,o,none⟩) L.length cap] 42)).alloc (.cells #[Ys k,Yp i,Yq 0,Yq 0,Yq 0,Yq 0,Yq 0,Yq 0,Yq 0,Yq 0] 54)).alloc (.cells Zg 410))).heap.size:=Nat.lt_of_lt_of_le hgl gr.b.size;simp only[World.size_alloc]at r1 r2;generalize (((w.alloc (.cells #[p0,p1,p2,p3,p4,p5,p6,p7,.slice (some ⟨g,o,none⟩) L.length cap] 42)).alloc (.cells #[Ys k,Yp i,Yq 0,Yq 0,Yq 0,Yq 0,Yq 0,Yq 0,Yq 0,Yq 0] 54)).alloc (.cells Zg 410))=U at *;have hsh:=zbX i Yi;obtain⟨s0,t0,z0⟩:=ed r0;obtain⟨s1,t1,z1⟩:=ed r1;clear cc cl b8 HG he;generalize hn0:w.heap.size=n0 at *;go_still_tail 10,Yh;have hp9:=vk (x0:= .int .u8 ((2:Int) ^ i)) (x1:= .int .u64 x0) (x2:= .int .u64 x1) (x3:= .int .u64 x2) (x4:= .int .u64 x3) (x5:= .int .u64 x4) (x6:= .int .u64 x5) (x7:= .int .u64 x6) (x8:= .int .u64 x7) r2;have hg9:Gr w (((((((((U.setCell (Yo (n0+1+1) 0) (Ys ((2:Int) ^ i))).setCell (Yo (n0+1+1) 1) x0).setCell (Yo (n0+1+1) 2) x1).setCell (Yo (n0+1+1) 3) x2).setCell (Yo (n0+1+1) 4) x3).setCell (Yo (n0+1+1) 5) x4).setCell (Yo (n0+1+1) 6) x5).setCell (Yo (n0+1+1) 7) x6).setCell (Yo (n0+1+1) 8) x7):=(((((((((gr.set _ _ (by show w.heap.size<=n0+1+1;omega)).set _ _ (by show w.heap.size<=n0+1+1;omega)).set _ _ (by show w.heap.size<=n0+1+1;omega)).set _ _ (by show w.heap.size<=n0+1+1;omega)).set _ _ (by show w.heap.size<=n0+1+1;omega)).set _ _ (by show w.heap.size<=n0+1+1;omega)).set _ _ (by show w.heap.size<=n0+1+1;omega)).set _ _ (by show w.heap.size<=n0+1+1;omega)).set _ _ (by show w.heap.size<=n0+1+1;omega));have HP:=hid hp9;have HG9:=hid hg9;obtain⟨s2,t2,z2⟩:=ed r2;clear hp9 hg9;go_wp2;have hp:=HP.out;have hg:=HG9.out.drew;clear HP HG9 s2 t2 z2;generalize (((((((((U.setCell (Yo (n0+1+1) 0) (Ys ((2:Int) ^ i))).setCell (Yo (n0+1+1) 1) x0).setCell (Yo (n0+1+1) 2) x1).setCell (Yo (n0+1+1) 3) x2).setCell (Yo (n0+1+1) 4) x3).setCell (Yo (n0+1+1) 5) x4).setCell (Yo (n0+1+1) 6) x5).setCell (Yo (n0+1+1) 7) x6).setCell (Yo (n0+1+1) 8) x7)=V at *;have hp:V.drew.heap[n0+1+1]?=_:=hp;obtain⟨s3,t3,z3⟩:=ed hp;exact bodyPost_ret (v:= .tuple #[.agg #[Ys ((2:Int) ^ i),x0,x1,x2,x3,x4,x5,x6,x7],.bool true]) (by simp[results,results305,go_sem,s3]) rfl ⟨rfl,hg⟩
theorem cutD_no (p0 p1 p2 p3 p4 p5 p6 p7 k:Nat) (pc:Int) (c0 c1 c2 c3 c4 c5 c6 c7:Nat) (v:Value) (w:World) (h:pc≠0\/[c0,c1,c2,c3,c4,c5,c6,c7]=aq):
  Calls prog 306 #[.agg #[p0,p1,p2,p3,p4,p5,p6,p7,v],.agg #[Ys k,Yp pc,c0,c1,c2,c3,c4,c5,c6,c7]] w λe w'=>e= .returned .nilIface/\Gr w w':=by
 have HE:=hid (ge c0 c1 c2 c3 c4 c5 c6 c7 0 0 0 0 0 0 0 0);have bp:=ae w (.cells #[p0,p1,p2,p3,p4,p5,p6,p7,v] 42);have g0:Gr w (w.alloc (.cells #[p0,p1,p2,p3,p4,p5,p6,p7,v] 42)):=(Yu w).alloc _;have HG:=hid g0;clear bp g0
 by_cases h1:pc=0
 ·have hz:[c0,c1,c2,c3,c4,c5,c6,c7]=aq:=h.resolve_left (λk=>k h1);have he:∀u,(Op.equalIn 10000 39 (.agg #[c0,c1,c2,c3,c4,c5,c6,c7]) (.agg Zc)).run prog u= .ok true u:=λu=>(HE.out u).trans (congrArg (λb=>Result.ok b u) (decide_eq_true hz));clear HE h hz;subst h1;go_enter func306,ntmps306;go_wp2;go_ret;exact⟨rfl,HG.out.alloc _⟩
 ·clear HE h;go_enter func306,ntmps306;go_wp2;go_ret;exact⟨rfl,HG.out.alloc _⟩
theorem zbD (p0 p1 p2 p3 p4 p5 p6 p7 k:Nat) (c0 c1 c2 c3 c4 c5 c6 c7:Nat) (v:Value) (w:World) (hz:[c0,c1,c2,c3,c4,c5,c6,c7]≠aq):
  Calls prog 306 #[.agg #[p0,p1,p2,p3,p4,p5,p6,p7,v],.agg #[Ys k,Yp 0,c0,c1,c2,c3,c4,c5,c6,c7]] w λe w'=>e= .returned (.iface 413 (.agg #[c0,c1,c2,c3,c4,c5,c6,c7]))/\Gr w w':=by
 have HE:=hid (ge c0 c1 c2 c3 c4 c5 c6 c7 0 0 0 0 0 0 0 0);have bp:=ae w (.cells #[p0,p1,p2,p3,p4,p5,p6,p7,v] 42);have g0:Gr w (w.alloc (.cells #[p0,p1,p2,p3,p4,p5,p6,p7,v] 42)):=(Yu w).alloc _;have HG:=hid g0;clear bp g0;have he:∀u,(Op.equalIn 10000 39 (.agg #[c0,c1,c2,c3,c4,c5,c6,c7]) (.agg Zc)).run prog u= .ok false u:=λu=>(HE.out u).trans (congrArg (λb=>Result.ok b u) (decide_eq_false hz));clear HE hz;go_enter func306,ntmps306;go_wp2;go_ret;exact⟨rfl,HG.out.alloc _⟩
end
end Go.Proofs.YtimcfaoabaflkaaGreatDoor
