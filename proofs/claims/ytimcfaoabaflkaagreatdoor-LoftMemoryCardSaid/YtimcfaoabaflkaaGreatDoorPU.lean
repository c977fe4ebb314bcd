/- strconv: ParseUint at base 16; solid.plane. -/
import Derived.Test.YtimcfaoabaflkaaGreatDoorTrF
namespace Go.Proofs.YtimcfaoabaflkaaGreatDoor
open AbBase
open AbA AbI
set_option maxHeartbeats 8000000
set_option maxRecDepth 100000
open Go.Proofs.Tryz
theorem Xs {P:Prop} (h:P:=by
 by_cases h97:97<=mz c
 ·by_cases h102:mz c<=102
  ·obtain⟨d,hd⟩:∃d:Nat,mz c=d+87:=⟨(mz c - 87).toNat,Yi⟩;have HV:Hid (zet c=some d):=hid (by
    unfold zet;rw[if_neg Yi,if_pos ⟨h97,h102⟩,hd];congr 1;omega)
   have hd16:d < 16:=Yi;have hd10:10<=d:=Yi;have LC:=hid (λw=>LC.out w);rw[hd]at LC;have hh0:True:=trivial;have hdi:((d:Int)+87 - 97)+10=d:=Yi;have hdi0:(97:Int)<=(d:Int)+87:=Yi;have hdi1:(d:Int)+87<=122:=Yi;have hdi2:¬(16:Int)<=d:=Yi;clear hl0 hl1 h97 h102 hd;have hcut2:acc < 1152921504606846976\/1152921504606846976<=acc:=Yi;rcases hcut2 with hcut | hcut
   ·have HN:Hid (a * 16+(d:Int)=((acc * 16+d:Nat):Int)/\acc * 16+d < 18446744073709551616/\puH 0 bs=puH (acc * 16+d) (bs.drop (k+1))):=hid ⟨by have:=HAC.out;omega,Yi,by
     rw[HDEC.out,puH,HV.out];dsimp only;rw[if_neg Yi]⟩
    have icut:a < 1152921504606846976:=by have:=HAC.out;omega
    have iov:a * 16+(d:Int) < 18446744073709551616:=Yi;have ilt:¬a * 16+(d:Int) < a:=Yi;have imx:¬18446744073709551615 < a * 16+(d:Int):=Yi;clear hcut HDEC HAC HV hacc hh0;go_wp2_with fail;refine(LC.out _).mono ?_;rintro e wq ⟨rfl,hwq⟩;obtain rfl:wr=wq:=hwq.symm;clear hwq;go_wp2_with fail;refine(LC.out _).mono ?_;rintro e wq ⟨rfl,hwq⟩;obtain rfl:wr=wq:=hwq.symm;clear hwq;go_wp2_with fail;refine(LC.out _).mono ?_;rintro e wq ⟨rfl,hwq⟩;obtain rfl:wr=wq:=hwq.symm;clear hwq;go_wp2;refine⟨⟨k+1,acc * 16+d,a * 16+(d:Int),rfl,(by first | rfl | (congr 1;omega)),(by first | rfl | (congr 1;omega)),Yi,HN,gr⟩,by simp[intOf];omega⟩
   ·have HD:Hid (puV (puH 0 bs)= .tuple #[Yq 18446744073709551615,.iface 348 (Yp 1)]):=hid (by
     rw[HDEC.out,puH,HV.out];dsimp only;rw[if_pos hcut];rfl)
    have icut:1152921504606846976<=a:=by have:=HAC.out;omega
    clear hcut HDEC HAC HV hacc hh0;go_wp2_with fail;refine(LC.out _).mono ?_;rintro e wq ⟨rfl,hwq⟩;obtain rfl:wr=wq:=hwq.symm;clear hwq;go_wp2_with fail;refine(LC.out _).mono ?_;rintro e wq ⟨rfl,hwq⟩;obtain rfl:wr=wq:=hwq.symm;clear hwq;go_wp2_with fail;refine(LC.out _).mono ?_;rintro e wq ⟨rfl,hwq⟩;obtain rfl:wr=wq:=hwq.symm;clear hwq;go_wp2;go_ret2;exact⟨(by rw[HD.out];rfl),G⟩
  ·have HV:Hid (zet c=none):=hid (by
    unfold zet;rw[if_neg Yi,if_neg Yi])
   have hh0:True:=trivial
   by_cases h122:mz c<=122
   ·obtain⟨d,hd⟩:∃d:Nat,mz c=d+87:=⟨(mz c - 87).toNat,Yi⟩;have LC:=hid (λw=>LC.out w);rw[hd]at LC;have hdi:((d:Int)+87 - 97)+10=d:=Yi;have hdi0:(97:Int)<=(d:Int)+87:=Yi;have hdi1:(d:Int)+87<=122:=Yi;have hdi2:(16:Int)<=d:=Yi;clear hl0 hl1 h97 h102 hd h122;have HD:Hid (puV (puH 0 bs)= .tuple #[Yq 0,.iface 348 (Yp 2)]):=hid (by
     rw[HDEC.out,puH,HV.out];rfl)
    clear HDEC HAC HV hacc hh0;go_wp2_with fail;refine(LC.out _).mono ?_;rintro e wq ⟨rfl,hwq⟩;obtain rfl:wr=wq:=hwq.symm;clear hwq;go_wp2_with fail;refine(LC.out _).mono ?_;rintro e wq ⟨rfl,hwq⟩;obtain rfl:wr=wq:=hwq.symm;clear hwq;go_wp2_with fail;refine(LC.out _).mono ?_;rintro e wq ⟨rfl,hwq⟩;obtain rfl:wr=wq:=hwq.symm;clear hwq;go_wp2;go_ret2;exact⟨(by rw[HD.out];rfl),G⟩
   ·obtain⟨l,hl⟩:∃l,mz c=l:=⟨_,rfl⟩;have LC:=hid (λw=>LC.out w);rw[hl]at LC h97 h122 h102;have h122':122 < l:=Yi;clear hl0 hl1 hl;have HD:Hid (puV (puH 0 bs)= .tuple #[Yq 0,.iface 348 (Yp 2)]):=hid (by
     rw[HDEC.out,puH,HV.out];rfl)
    clear HDEC HAC HV hacc hh0;go_wp2_with fail;refine(LC.out _).mono ?_;rintro e wq ⟨rfl,hwq⟩;obtain rfl:wr=wq:=hwq.symm;clear hwq;go_wp2_with fail;refine(LC.out _).mono ?_;rintro e wq ⟨rfl,hwq⟩;obtain rfl:wr=wq:=hwq.symm;clear hwq;go_wp2;go_ret2;exact⟨(by rw[HD.out];rfl),G⟩
 ·have HV:Hid (zet c=none):=hid (by
   unfold zet;rw[if_neg Yi,if_neg Yi])
  have hh0:True:=trivial;obtain⟨l,hl⟩:∃l,mz c=l:=⟨_,rfl⟩;have LC:=hid (λw=>LC.out w);rw[hl]at LC h97;have h97':l < 97:=Yi;clear hl0 hl1 hl;have HD:Hid (puV (puH 0 bs)= .tuple #[Yq 0,.iface 348 (Yp 2)]):=hid (by
   rw[HDEC.out,puH,HV.out];rfl)
  clear HDEC HAC HV hacc hh0;go_wp2_with fail;refine(LC.out _).mono ?_;rintro e wq ⟨rfl,hwq⟩;obtain rfl:wr=wq:=hwq.symm;clear hwq;go_wp2;go_ret2;exact⟨(by rw[HD.out];rfl),G⟩):P:=h
section
open Go.RowKit Go.Shelf Go.Lib
def mz (c:UInt8):Int:=bits .or .u8 (c.toNat:Int) 32
def zet (c:UInt8):Option Nat:=if 48<=c.toNat/\c.toNat<=57 then some (c.toNat - 48)else if 97<=mz c/\mz c<=102 then some (mz c - 87).toNat else none
inductive PR where
 | ok (n:Nat)
 | syn
 | rng
def puH:Nat->List UInt8->PR
 | a,[]=> .ok a
 | a,c :: r=>match zet c with
  | none=> .syn
  | some d=>if 1152921504606846976<=a then .rng else puH (a * 16+d) r
def PR.bind (r:PR) (f:Nat->PR):PR:=match r with | .ok n=>f n | .syn=> .syn | .rng=> .rng
theorem Cu:∀(l m:List UInt8) (a:Nat),puH a (l ++ m)=(puH a l).bind λb=>puH b m
 | [],m,a=>rfl
 | c :: l,m,a=>by
  rw[List.cons_append,puH,puH];cases zet c with
  | none=>rfl
  | some d=>
   dsimp only;split
   ·rfl
   ·exact Cu l m _
theorem zbo:∀{d:Nat} (_:d < 16),zet (j0 d)=some d
 | 0,_=>by kernel_rfl
 | 1,_=>by kernel_rfl
 | 2,_=>by kernel_rfl
 | 3,_=>by kernel_rfl
 | 4,_=>by kernel_rfl
 | 5,_=>by kernel_rfl
 | 6,_=>by kernel_rfl
 | 7,_=>by kernel_rfl
 | 8,_=>by kernel_rfl
 | 9,_=>by kernel_rfl
 | 10,_=>by kernel_rfl
 | 11,_=>by kernel_rfl
 | 12,_=>by kernel_rfl
 | 13,_=>by kernel_rfl
 | 14,_=>by kernel_rfl
 | 15,_=>by kernel_rfl
 | _+16,h=>absurd h Yi
theorem Qq:∀(k n:Nat),n<=k->n < 2 ^ 64->puH 0 (cf n)= .ok n
 | k,n,hk,hn=>by
  by_cases h16:n < 16
  ·rw[lp h16,puH,zbo h16];simp[puH]
  ·rw[m6 Yi hn,Cu];cases k with
   | zero=>omega
   | succ k=>
    rw[Qq k (n / 16) Yi Yi];show puH (n / 16) [j0 (n % 16)]=_;rw[puH,zbo (Nat.mod_lt _ Yi)];dsimp only;rw[if_neg Yi,puH];congr 1;omega
def puV:PR->Value
 | .ok n=> .tuple #[n,.nilIface]
 | .syn=> .tuple #[.int .u64 0,.iface 348 (.int .i64 2)]
 | .rng=> .tuple #[.int .u64 18446744073709551615,.iface 348 (.int .i64 1)]
theorem Tz (c:UInt8) (w:World):Calls prog 288 #[Ys c.toNat] w λe w'=>e= .returned (Ys (mz c))/\w'=w:=by
 go_enter func288,ntmps288;go_wp2;go_ret;exact⟨rfl,rfl⟩
theorem PUI_any (t:ByteArray) (hne:t.size≠0) (hmax:t.size<=1000000) (w:World):
  Calls prog 259 #[.string t,Yp 16,Yp 64] w λe w'=>e= .returned (puV (puH 0 t.data.toList))/\Gr w w':=by
 have LW:=hid (λc w=>Tz c w);have hemp:t.toList.isEmpty=false:=by
  rw[<-decide_eq_emptyBytes];exact decide_eq_false (λh=>hne (by rw[h];rfl))
 have hcv:=Lib.run_convert_string_bytes (P:=prog) w 9 205 5 t (u:= .string) underlying9 underlying205 underlying5;have hB:∀j,j < t.size->(Lib.bytesWorld w 5 t).cell? ⟨w.heap.size,j,none⟩=some (.int .u8 (t.data.toList.getD j 0).toNat):=λj hj=>Lib.bytesWorld_cell w 5 t j hj;have gB:Gr w (Lib.bytesWorld w 5 t):=Gr.of_below (Lib.bytesWorld_below w 5 t);have hBz:w.heap.size < (Lib.bytesWorld w 5 t).heap.size:=by rw[Lib.bytesWorld_size];omega
 obtain⟨W1,hW1⟩:∃W1,W1=Lib.bytesWorld w 5 t:=⟨_,rfl⟩;rw[<-hW1]at hcv hB gB hBz;clear hW1;obtain⟨b,hb⟩:∃b,w.heap.size=b:=⟨_,rfl⟩;rw[hb]at hcv hB hBz;clear hb;obtain⟨bs,hL⟩:∃bs,bs=t.data.toList:=⟨_,rfl⟩;have hLn:bs.length=t.size:=by rw[hL,Lib.size_eq]
 rw[<-hL]at hB ⊢;have HBC:=hid hB;clear hL hB;have hmv:IntKind.u64.wrap (IntKind.u64.wrap 18446744073709551616 - 1)=18446744073709551615:=by
  rw[IntKind.wrap_u64,IntKind.wrap_u64]
  decide
 go_enter func259,ntmps259;go_wp2;go_loopw [12,13,101] (λvu vn vi wr=>∃(k acc:Nat) (a:Int),vu= .bool false/\vn= .int .u64 a/\vi= .int .i64 k/\k<=t.size/\Hid (a=(acc:Int)/\acc < 18446744073709551616/\puH 0 bs=puH acc (bs.drop k))/\Gr W1 wr)
  (λ_ _ vi _=>t.size - (intOf vi).toNat)
 case atStart=>exact⟨0,0,0,rfl,rfl,rfl,Yi,hid ⟨rfl,Yi,rfl⟩,Yu _⟩
 case round=>
  obtain⟨k,acc,a,rfl,rfl,rfl,hk,hh,gr⟩:=hrel;obtain⟨ha,hacc,hdec⟩:=hh.out;clear hh;have a0:0<=a:=Yi;have a1:a < 18446744073709551616:=Yi;have G:=gB.trans gr
  by_cases hkn:k < t.size
  ·have hc:=(gr.cells.1 b k hBz).trans (HBC.out k hkn);have hzb:b < wr.heap.size:=Nat.lt_of_lt_of_le hBz gr.b.size;have hdrop:bs.drop k=bs[k]'Yi :: bs.drop (k+1):=List.drop_eq_getElem_cons Yi;have hget:bs.getD k 0=bs[k]'Yi:=by simp[List.getD,List.getElem?_eq_getElem (show k < bs.length by omega)]
   rw[hdrop]at hdec;rw[hget]at hc;generalize bs[k]'Yi=c at hc hdec;have LC:=hid (LW.out c);have hc256:c.toNat < 256:=c.toNat_lt;have hkt:(k:Int) < t.size:=Yi;have hk0:(0:Int)<=k:=Yi;clear hdrop hget;have HDEC:=hid hdec;have HAC:=hid ha;clear hdec ha
   by_cases h48:48<=c.toNat
   ·by_cases h57:c.toNat<=57
    ·have HV:Hid (zet c=some (c.toNat - 48)):=hid (by unfold zet;rw[if_pos ⟨h48,h57⟩]);have hh0:True:=trivial;have hd9:¬(16:Int)<=(c.toNat:Int) - 48:=Yi;have hcut2:acc < 1152921504606846976\/1152921504606846976<=acc:=Yi;rcases hcut2 with hcut | hcut
     ·have HN:Hid (a * 16+((c.toNat:Int) - 48)=((acc * 16+(c.toNat - 48):Nat):Int)/\acc * 16+(c.toNat - 48) < 18446744073709551616/\puH 0 bs=puH (acc * 16+(c.toNat - 48)) (bs.drop (k+1))):=hid ⟨by have:=HAC.out;omega,Yi,by
       rw[HDEC.out,puH,HV.out];dsimp only;rw[if_neg Yi]⟩
      have icut:a < 1152921504606846976:=by have:=HAC.out;omega
      have iov:a * 16+((c.toNat:Int) - 48) < 18446744073709551616:=Yi;have ilt:¬a * 16+((c.toNat:Int) - 48) < a:=Yi;have imx:¬18446744073709551615 < a * 16+((c.toNat:Int) - 48):=Yi;clear hcut HDEC HAC HV hacc hh0;go_wp2;refine⟨⟨k+1,acc * 16+(c.toNat - 48),a * 16+((c.toNat:Int) - 48),rfl,(by first | rfl | (congr 1;omega)),(by first | rfl | (congr 1;omega)),Yi,HN,gr⟩,by simp[intOf];omega⟩
     ·have HD:Hid (puV (puH 0 bs)= .tuple #[Yq 18446744073709551615,.iface 348 (Yp 1)]):=hid (by
       rw[HDEC.out,puH,HV.out];dsimp only;rw[if_pos hcut];rfl)
      have icut:1152921504606846976<=a:=by have:=HAC.out;omega
      clear hcut HDEC HAC HV hacc hh0;go_wp2;go_ret2;exact⟨(by rw[HD.out];rfl),G⟩
    ·have h57':57 < c.toNat:=Yi
     by_cases h95n:c.toNat=95
     ·have hc95:c=95:=UInt8.toNat_inj.1 (by rw[h95n];rfl);subst hc95;have HD:Hid (puV (puH 0 bs)= .tuple #[Yq 0,.iface 348 (Yp 2)]):=hid (by
       rw[HDEC.out,puH,show zet 95=none from by kernel_rfl];rfl)
      have LC:=hid (λw=>LC.out w);rw[show mz 95=127 from by kernel_rfl]at LC;clear HDEC HAC hacc;go_wp2_with fail;refine(LC.out _).mono ?_;rintro e wq ⟨rfl,hwq⟩;obtain rfl:wr=wq:=hwq.symm;clear hwq;go_wp2_with fail;refine(LC.out _).mono ?_;rintro e wq ⟨rfl,hwq⟩;obtain rfl:wr=wq:=hwq.symm;clear hwq;go_wp2;go_ret2;exact⟨(by rw[HD.out];rfl),G⟩
     ·have h95:¬((c.toNat:Int)=95):=Yi;have hl0:0<=mz c:=bits_lo_u8 .or (c.toNat:Int) 32;have hl1:=bits_hi_u8 .or (c.toNat:Int) 32;replace hl1:mz c<=255:=by unfold mz;omega
      exact Xs
   ·have h48':c.toNat < 48:=Yi;have h95:¬((c.toNat:Int)=95):=Yi;have h95n:¬c.toNat=95:=Yi;have hl0:0<=mz c:=bits_lo_u8 .or (c.toNat:Int) 32;have hl1:=bits_hi_u8 .or (c.toNat:Int) 32;replace hl1:mz c<=255:=by unfold mz;omega
    exact Xs
  ·have hkk:k=t.size:=Yi;subst hkk;rw[List.drop_eq_nil_of_le Yi]at hdec;have hdec2:puV (puH 0 bs)= .tuple #[a,.nilIface]:=by rw[hdec,ha];rfl
   have HD:=hid hdec2;clear hdec hdec2 ha hacc;go_wp2;go_ret2;exact⟨by rw[HD.out];rfl,G⟩
def puT (l:List UInt8):Option Nat:=if l=[]then none else match puH 0 l with | .ok n=>some n | _=>none
theorem zau:∀(l:List UInt8) (a n:Nat),a < 2 ^ 64->puH a l= .ok n->n < 2 ^ 64
 | [],a,n,ha,h=>by
  rw[puH]at h;injection h with h
  omega
 | c :: r,a,n,ha,h=>by
  rw[puH]at h;cases hv:zet c with
  | none=>rw[hv]at h;cases h
  | some d=>
   rw[hv]at h;dsimp only at h;split at h
   ·cases h
   ·rename_i hc;have hd:d < 16:=by
     unfold zet at hv;split at hv
     ·injection hv with hv;omega
     ·split at hv
      ·injection hv with hv;omega
      ·cases hv
    exact zau r _ n Yi h
theorem puT_lt {l:List UInt8} {n:Nat} (h:puT l=some n):n < 2 ^ 64:=by
 unfold puT at h;split at h
 ·cases h
 ·cases hp:puH 0 l with
  | ok m=>rw[hp]at h;injection h with h;exact h▸zau l 0 m Yi hp
  | syn=>rw[hp]at h;cases h
  | rng=>rw[hp]at h;cases h
theorem puT_hex {n:Nat} (hn:n < 2 ^ 64):puT (cf n)=some n:=by
 unfold puT;rw[if_neg (by intro h;have:=(gf hn).1;rw[h]at this;simp at this),Qq n n (Yv _) hn]
theorem ze3 (w:World):Calls prog 259 #[.string ⟨#[]⟩,Yp 16,Yp 64] w λe w'=>e= .returned (puV .syn)/\Gr w w':=by
 go_enter func259,ntmps259;go_wp2;go_ret2;exact⟨rfl,Yu _⟩
def puW (o:Option Nat) (v:Value):Prop:=match o with
 | some n=>v= .tuple #[n,.nilIface]
 | none=>∃(n:Int) (N:Nat),v= .tuple #[n,.iface 351 (.pointer (some ⟨N,0,none⟩))]
theorem zce (l:List UInt8) (hl:l.length<=1000000) (w:World) (tw:TW w):
  Calls prog 215 #[sv l,Yp 16,Yp 64] w λe w'=>∃v,e= .returned v/\puW (puT l) v/\Gr w w':=by
 have IN:∃r,Calls prog 259 #[sv l,Yp 16,Yp 64] w (λe w'=>e= .returned (puV r)/\Gr w w')/\puT l=(match r with | .ok n=>some n | _=>none):=by
  by_cases h:l=[]
  ·subst h;exact⟨.syn,ze3 w,rfl⟩
  ·refine⟨puH 0 l,PUI_any ⟨l.toArray⟩ ?_ hl w,?_⟩
   ·show l.length≠0;intro h0;exact h (List.eq_nil_of_length_eq_zero h0)
   ·unfold puT;rw[if_neg h]
 obtain⟨r,IN,hr⟩:=IN;have IN:=hid IN;rw[hr];have hlim:(⟨l.toArray⟩:ByteArray).size<=281474976710656:=by show l.length<=_;omega
 obtain⟨tp,pv,h1⟩:=tw.s;obtain⟨tp2,pv2,h2⟩:=tw.r;have TS:=hid (λu (g:Gr w u)=>Tryz.strconv_toError_syntax ⟨#[80,97,114,115,101,85,105,110,116]⟩ ⟨l.toArray⟩ 16 64 (.iface tp pv) u hlim ((g.cells.1 _ _ (World.block_lt_of_cell? _ _ h1)).trans h1) (Or.inr ⟨tp,pv,rfl⟩));have TR:=hid (λu (g:Gr w u)=>Tryz.strconv_toError_range ⟨#[80,97,114,115,101,85,105,110,116]⟩ ⟨l.toArray⟩ 16 64 (.iface tp2 pv2) u hlim ((g.cells.1 _ _ (World.block_lt_of_cell? _ _ h2)).trans h2) (Or.inr ⟨tp2,pv2,rfl⟩));clear h1 h2;clear tw hr;cases r with
 | ok n=>
  go_enter func215,ntmps215;go_wp2_with fail;refine IN.out.mono ?_;rintro e w1 ⟨rfl,hg⟩;unfold puV;go_wp2;go_ret2;exact⟨_,rfl,rfl,hg⟩
 | syn=>
  go_enter func215,ntmps215;go_wp2_with fail;refine IN.out.mono ?_;rintro e w1 ⟨rfl,hg⟩;unfold puV;go_wp2_with fail;refine(TS.out _ hg).mono ?_;rintro e w2 ⟨N,rfl, -, -,hb⟩;have G:=hg.trans (Gr.of_below hb);go_wp2;go_ret2;exact⟨_,rfl,⟨0,N,rfl⟩,G⟩
 | rng=>
  go_enter func215,ntmps215;go_wp2_with fail;refine IN.out.mono ?_;rintro e w1 ⟨rfl,hg⟩;unfold puV;go_wp2_with fail;refine(TR.out _ hg).mono ?_;rintro e w2 ⟨N,rfl, -, -,hb⟩;have G:=hg.trans (Gr.of_below hb);go_wp2;go_ret2;exact⟨_,rfl,⟨18446744073709551615,N,rfl⟩,G⟩
abbrev qn:Value:= .iface 254 (.agg #[])
theorem Gb (n:Nat) (hn:n < 2 ^ 64) (w:World) (tw:TW w) (ht:w.cell? ⟨7,15,none⟩=some (.int .u8 4)):
  Calls prog 139 #[sv (cf n)] w λe w'=>e= .returned n/\Gr w w':=by
 have PU:=hid (zce (cf n) (by have:=(gf hn).2;omega) w tw);rw[puT_hex hn]at PU;have FM:=hid (λu (g:Gr w u)=>pd n hn u ((g.cells.1 _ _ (World.block_lt_of_cell? _ _ ht)).trans ht));clear tw ht;go_enter func139,ntmps139;go_wp2_with fail;refine PU.out.mono ?_;rintro e w1 ⟨v,rfl,hv,hg⟩;obtain rfl:v= .tuple #[n,.nilIface]:=hv;go_wp2_with fail;refine(FM.out _ hg).mono ?_;rintro e w2 ⟨rfl,hg2⟩;have G:=hg.trans hg2;go_wp2;go_ret;exact⟨rfl,G⟩
theorem zaw (l:List UInt8) (hl:l.length<=1000000) (h:∀n,n < 2 ^ 64->l≠cf n) (w:World) (tw:TW w) (ht:w.cell? ⟨7,15,none⟩=some (.int .u8 4)):
  Calls prog 139 #[sv l] w λe w'=>e= .panicked [{v:=qn,recovered:=false}]/\Gr w w':=by
 have PU:=hid (zce l hl w tw);cases hp:puT l with
 | none=>
  rw[hp]at PU;clear tw ht hp;go_enter func139,ntmps139;go_wp2_with fail;refine PU.out.mono ?_;rintro e w1 ⟨v,rfl,⟨n,N,rfl⟩,hg⟩;have q1:∀w,(binOp .neq 250 (.iface 351 (Ym N)) .nilIface).run prog w= .ok (.bool true) w:=λw=>by kernel_rfl
  go_wp2;exact⟨rfl,rfl,hg⟩
 | some n=>
  rw[hp]at PU;have hn:=puT_lt hp;have FM:=hid (λu (g:Gr w u)=>pd n hn u ((g.cells.1 _ _ (World.block_lt_of_cell? _ _ ht)).trans ht));have hne:(cf n == l)=false:=beq_eq_false_iff_ne.2 (λe=>h n hn e.symm);clear tw ht hp;go_enter func139,ntmps139;go_wp2_with fail;refine PU.out.mono ?_;rintro e w1 ⟨v,rfl,hv,hg⟩;obtain rfl:v= .tuple #[n,.nilIface]:=hv;go_wp2_with fail;refine(FM.out _ hg).mono ?_;rintro e w2 ⟨rfl,hg2⟩;have G:=hg.trans hg2;go_wp2;exact⟨rfl,rfl,G⟩
theorem L8 (p q:Addr) (w:World):
  CallsD prog 137 #[.pointer (some p),.pointer (some q)] .returning w λe u' w'=>e= .returned (.tuple #[])/\u'= .returning/\w'=w:=by
 refine callsD_of_wpS func137 rfl λc₀ cs hu=>?_;simp only[ntmps137,List.size_toArray,List.length_cons,List.length_nil,Nat.reduceAdd,Nat.reduceSub,Array.replicate_succ,Array.replicate_zero,List.push_toArray,List.append_toArray,List.nil_append,List.cons_append];apply wpS_seq;apply wpS_region;simp[wpOpsS,go_sem,recoverD,hu,Exit.thenS];refine wpS_of_wp ?_;go_wp2;cases c₀;simp_all[bodyPostS,results,results137]
theorem lst8 {α:Type} {l:List α} (h:l.length=8):∃a b c d e f g i,l=[a,b,c,d,e,f,g,i]:=by
 match l,h with
 | [a,b,c,d,e,f,g,i],_=>exact⟨a,b,c,d,e,f,g,i,rfl⟩
theorem xi (w:World):(binOp .neq 20 qn .nilIface).run prog w= .ok (.bool true) w:=Yh
theorem Aw (w:World):(Instr.typeAssert qn 20 254 true).run prog w= .ok (.tuple #[.agg #[],.bool true]) w:=Yh
theorem oz (p q:Nat) (C:Array Value) (x:Value) (older:List PanicEntry) (w:World) (hp:w.heap[p]?=some (.cells C 39 (0,0))) (hC:C.size=8) (hq:w.heap[q]?=some (.cells #[x] 29 (0,0))) (hne:p≠q):
  CallsD prog 137 #[Ym p,Ym q] (.panicking ({v:=qn,recovered:=false} :: older)) w λe u' w'=>
   e= .returned (.tuple #[])/\u'= .panicking ({v:=qn,recovered:=true} :: older)/\w'.heap[p]?=some (.cells Zc 39 (0,0))/\w'.heap[q]?=some (.cells #[Yp 4] 29 (0,0))/\GrL [p,q] w w':=by
 have q1:=xi;have q2:=Aw;have g0:Gr w (w.alloc (.cells #[] 254)):=(Yu w).alloc _;obtain⟨C⟩:=C;obtain⟨x0,x1,x2,x3,x4,x5,x6,x7,rfl⟩:=lst8 (show C.length=8 from hC);have bp:=g0.heap hp;have bq:=g0.heap hq;obtain⟨cp,fp,zp⟩:=ed bp;obtain⟨cq,fq,zq⟩:=ed bq;refine callsD_of_wpS func137 rfl λc₀ cs hu=>?_;simp only[ntmps137,List.size_toArray,List.length_cons,List.length_nil,Nat.reduceAdd,Nat.reduceSub,Array.replicate_succ,Array.replicate_zero,List.push_toArray,List.append_toArray,List.nil_append,List.cons_append];apply wpS_seq;apply wpS_region;simp[wpOpsS,go_sem,recoverD,hu,Exit.thenS];refine wpS_of_wp ?_;go_wp2;have e8:=(dz (dz (dz (dz (dz (dz (dz (dz bp 0 (Yq 0)) 1 (Yq 0)) 2 (Yq 0)) 3 (Yq 0)) 4 (Yq 0)) 5 (Yq 0)) 6 (Yq 0)) 7 (Yq 0));replace e8:_=some (Obj.cells Zc 39 (0,0)):=e8;have g8:=(GrL.set (GrL.set (GrL.set (GrL.set (GrL.set (GrL.set (GrL.set (GrL.set (GrL.of_gr (l:=[p]) g0) ⟨p,0,none⟩ (Yq 0) (Or.inr Yj)) ⟨p,1,none⟩ (Yq 0) (Or.inr Yj)) ⟨p,2,none⟩ (Yq 0) (Or.inr Yj)) ⟨p,3,none⟩ (Yq 0) (Or.inr Yj)) ⟨p,4,none⟩ (Yq 0) (Or.inr Yj)) ⟨p,5,none⟩ (Yq 0) (Or.inr Yj)) ⟨p,6,none⟩ (Yq 0) (Or.inr Yj)) ⟨p,7,none⟩ (Yq 0) (Or.inr Yj));generalize (((((((((w.alloc (.cells #[] 254)).setCell (Yo p 0) (Yq 0)).setCell (Yo p 1) (Yq 0)).setCell (Yo p 2) (Yq 0)).setCell (Yo p 3) (Yq 0)).setCell (Yo p 4) (Yq 0)).setCell (Yo p 5) (Yq 0)).setCell (Yo p 6) (Yq 0)).setCell (Yo p 7) (Yq 0))=W8 at *;have hq8:W8.heap[q]?=some (.cells #[x] 29 (0,0)):=(g8.block q (ai hq) (by simpa using Ne.symm hne)).trans hq;have e9:=dz hq8 0 (Yp 4);replace e9:_=some (Obj.cells #[Yp 4] 29 (0,0)):=e9;have h9:=((GrL.set (l:=[q]) (GrL.of_gr (Yu W8)) ⟨q,0,none⟩ (Yp 4) (Or.inr Yj)).block p (ai e8) (by simpa using hne)).trans e8;have g9:GrL [p,q] w (W8.setCell (Yo q 0) (Yp 4)):=GrL.set (g8.mono Yj) _ _ (Or.inr Yj);simp[bodyPostS,results,results137];exact⟨h9,e9,g9⟩
end
end Go.Proofs.YtimcfaoabaflkaaGreatDoor
