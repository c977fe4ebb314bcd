/- Library functions at records: Clone, SortFunc; Order. -/
import Derived.Test.YtimcfaoabaflkaaGreatDoorShelg
import Derived.Test.YtimcfaoabaflkaaGreatDoorLNum
import Derived.Deep.Onto
import Derived.Test.YtimcfaoabaflkaaGreatDoorSteps
import Derived.Shelf.SlSortCmp.NoneTotal
import Derived.Test.YtimcfaoabaflkaaGreatDoorLDisk
import Derived.OwnWalk
import Derived.Test.YtimcfaoabaflkaaGreatDoorIdle
import Derived.Deep.Slices
import Derived.ReadAgain
import Derived.Test.YtimcfaoabaflkaaGreatDoorLSum0
import Derived.Laws.OwnMore
import Derived.Laws.CopyOwn
import Derived.Great.Walk
namespace Go.Proofs.YtimcfaoabaflkaaGreatDoor
open AbA AbI
set_option maxHeartbeats 2000000
set_option maxRecDepth 100000
open Go.Proofs.Tryz
section
open Go.RowKit Go.Shelf
theorem Dw:(prog.info? 36).map (fun i=>(i.zero,i.size,i.bytes))=some (some (.agg #[Yp 0,Yp 0,Yp 0,.string ⟨#[]⟩]),4,40):=Yh
theorem Ho (l:List Rc):∀u∈rcs l,u.oneCell'=true:=by
 intro u hu;obtain⟨r,_,hr⟩:=List.mem_flatMap.1 hu;simp only[Rc.cells,List.mem_cons,List.not_mem_nil,or_false]at hr;rcases hr with rfl | rfl | rfl | rfl <;> rfl
theorem RowR.cells {w:World} {v:Value} {l:List Rc} {g cap:Nat} (h:RowR w v l) (hv:v= .slice (Yn g) l.length cap):∀j u,(rcs l)[j]?=some u→w.cell? ⟨g,0+j,none⟩=some u:=by
 subst hv;intro j u hu;have hj:j < l.length * 4:=by
  have:=(List.getElem?_eq_some_iff.1 hu).1
  rwa [vf]at this
 rw[Nat.zero_add,World.ownsRow.cellAt h j hj,hu]
end
section
section
open Go.RowKit Go.Shelf
structure GD (w w':World):Prop where
 g:Gr w w'
 d:w.drawn≤w'.drawn
theorem GD.refl (w:World):GD w w:=⟨Yu w,Yv _⟩
theorem GD.trans {a b c:World} (h:GD a b) (k:GD b c):GD a c:=⟨h.g.trans k.g,Nat.le_trans h.d k.d⟩
theorem GD.drew {w w':World} (h:GD w w'):GD w w'.drew:=⟨h.g.drew,Nat.le_trans h.d (Nat.le_succ _)⟩
theorem GD.alloc {w w':World} (h:GD w w') (o:Obj):GD w (w'.alloc o):=⟨h.g.alloc o,h.d⟩
theorem GD.cells {W w1:World} (h:GD W w1):(∀b o,b < W.heap.size→w1.cell? ⟨b,o,none⟩=W.cell? ⟨b,o,none⟩)∧(∀b o,b < W.heap.size→w1.frozen? ⟨b,o,none⟩=W.frozen? ⟨b,o,none⟩)∧W.heap.size≤w1.heap.size:=h.g.cells
theorem GD.heap {u u':World} (g:GD u u') {k:Nat} {o:Obj} (h:u.heap[k]?=some o):u'.heap[k]?=some o:=g.g.heap h
theorem GD.grow {w w':World} (h:GD w w'):∃q os,w'=Sort.grow (w.drewN q) os:=by
 refine⟨w'.drawn - w.drawn,w'.heap.extract w.heap.size w'.heap.size,?_⟩;have hd:=h.d;have e1:w'.heap=w.heap ++ w'.heap.extract w.heap.size w'.heap.size:=by
  apply Array.ext_getElem?;intro i
  by_cases hi:i < w.heap.size
  ·rw[Array.getElem?_append_left hi];exact h.g.b.block i hi
  ·rw[Array.getElem?_append_right Yi,Array.getElem?_extract]
   by_cases hj:i < w'.heap.size
   ·rw[if_pos Yi];congr 1;omega
   ·rw[if_neg Yi,Array.getElem?_eq_none Yi]
 have e2:w'.drawn=w.drawn+(w'.drawn - w.drawn):=Yi;cases w';simp only[Sort.grow,World.drewN]at *;rw[←e1];have h1:=h.g.b.os;have h2:=h.g.b.tape;have h3:=h.g.b.output;simp only at h1 h2 h3;rw[h1,h2,h3,←e2]
variable {P:Program} {ops:Array Oper} {Q:Exit→Act→World→Prop}
theorem l9 {id:Nat} {w:World} {a0:Act} (pl:List Step) {F:(Nat→Value)→Act} (hm:P.follows .mixedOrders=true) (hok:(o8 ops pl && ji pl && (Region.ready .any ops (fd pl)).isEmpty)=true)
  (hE:∀V,finS V a0 0 ops.toList pl=F V)
  (hO:re P GD ops pl w F 0 ops.toList pl)
  (hF:∀V u,GD w u→(∀(i:Nat) (F:Value→World→Prop),ic pl i=some F→F (V i) u)→Q .normal (F V) u):
  (Code.region id ops true).wp P Q a0 w:=by
 rw[Bool.and_eq_true,Bool.and_eq_true]at hok;refine mt GD.refl (fun _ _ _ h g=>h.trans g) (GD.refl w).drew pl hm hok.1.1 hE hO (fun k chain hk=>?_) fun _ V u hg hb fuel _=>wpAny_done (by simpa using hok.2) (hF V u hg hb) fuel;have h:=hok.1.2;unfold ji at h;rw[List.all_eq_true]at h;simpa using h _ (List.mem_of_getElem? hk)
end
end
section
open Go.RowKit Go.Shelf Go.Lib Go.Sort
theorem V8 (a b:Rc) (w:World):Calls prog 42 #[a.v,b.v] w fun e w'=>e= .returned (Yp (ul a b))∧GD w w':=by
 obtain⟨s,k,d,t⟩:=a;obtain⟨s2,k2,d2,t2⟩:=b;unfold ul Rc.v;dsimp only;have bx:=ae w (.cells #[Yp s,Yp k,Yp d,.string t] 36);have by_:=ae (w.alloc (.cells #[Yp s,Yp k,Yp d,.string t] 36)) (.cells #[Yp s2,Yp k2,Yp d2,.string t2] 36);have bx:=((Yu _).alloc (.cells #[Yp s2,Yp k2,Yp d2,.string t2] 36)).heap bx;have g0:GD w ((w.alloc (.cells #[Yp s,Yp k,Yp d,.string t] 36)).alloc (.cells #[Yp s2,Yp k2,Yp d2,.string t2] 36)):=((GD.refl w).alloc _).alloc _;simp only[World.size_alloc]at by_;go_enter func42,ntmps42;go_wp2;generalize (w.alloc (.cells #[Yp s,Yp k,Yp d,.string t] 36)).alloc (.cells #[Yp s2,Yp k2,Yp d2,.string t2] 36)=W at *;obtain⟨p2,h2⟩:∃p2,w.heap.size+1=p2:=⟨_,rfl⟩;rw[h2]at by_;rw[h2];clear h2;generalize w.heap.size=p1 at *;obtain⟨cx,fx,zx⟩:=bw bx;obtain⟨cy,fy,zy⟩:=bw by_;refine l9 [.val (Ym p1),.val (Yp s),.val (Ym p2),.val (Yp s2),.val (Yp (jo s s2)),.val (.pointer (some ⟨p1,1,none⟩)),.val (Yp k),.val (.pointer (some ⟨p2,1,none⟩)),.val (Yp k2),.val (Yp (jo k k2)),.sat (fun v u=>∃g,v= .slice (Yn g) 2 2∧u.heap[g]?=some (.cells #[Yp (jo s s2),Yp (jo k k2)] 3 (0,0))),.val (Yp (orI (jo s s2) (jo k k2))),.val (Yp (orI (jo s s2) (jo k k2)))] Yh Yh (fun V=>finT) ?_ ?_
 ·refine⟨?_,?_,?_,?_,?_,?_,?_,?_,?_,?_,?_,?_,?_,trivial⟩ <;> (first | exact trivial | exact osGD | (refine⟨osK,?_⟩;intro V u hu hk;refine⟨Yh,aw Yh ?_⟩;obtain⟨hc,hf,hz⟩:=hu.cells;go_simp;skip) | (refine⟨osK,?_⟩;intro V u hu hk;refine⟨Yh,?_⟩;obtain⟨hc,hf,hz⟩:=hu.cells;go_simp;skip) | (intro V u hu hk;refine⟨Yh,?_⟩;obtain⟨hc,hf,hz⟩:=hu.cells;go_simp;first | exact⟨rfl,GD.refl _⟩ | skip) | (intro V u hu hk;show _=false;kernel_rfl))
  iterate 2 ·exact(ml _ _ _).mono fun e w' ⟨h,e'⟩=>⟨h,e'▸GD.refl _⟩
  ·obtain⟨g,hv,hb⟩:=hk 10 _ rfl Yh;rw[hv];obtain⟨cg,fg,zg⟩:=bw hb;exact(Px g 2 _ _ _ (cg 0) (cg 1)).mono fun e w' ⟨h,e'⟩=>⟨h,e'▸GD.refl _⟩
 ·intro V u hg hs;go_simp;go_wp2;go_ret;exact⟨rfl,g0.trans hg⟩
def Bb (a b:Rc):Int:=orI (jo a.d b.d) (ul a b)
theorem zaD (a b:Rc) (w:World):Calls prog 52 #[a.v,b.v] w fun e w'=>e= .returned (Yp (Bb a b))∧GD w w':=by
 have CR:=hid (fun w=>V8 a b w);unfold Bb;generalize ul a b=q at *;obtain⟨s,k,d,t⟩:=a;obtain⟨s2,k2,d2,t2⟩:=b;unfold Rc.v;dsimp only;have bx:=ae w (.cells #[Yp s,Yp k,Yp d,.string t] 36);have by_:=ae (w.alloc (.cells #[Yp s,Yp k,Yp d,.string t] 36)) (.cells #[Yp s2,Yp k2,Yp d2,.string t2] 36);have bx:=((Yu _).alloc (.cells #[Yp s2,Yp k2,Yp d2,.string t2] 36)).heap bx;have g0:GD w ((w.alloc (.cells #[Yp s,Yp k,Yp d,.string t] 36)).alloc (.cells #[Yp s2,Yp k2,Yp d2,.string t2] 36)):=((GD.refl w).alloc _).alloc _;simp only[World.size_alloc]at by_;go_enter func52,ntmps52;go_wp2;generalize (w.alloc (.cells #[Yp s,Yp k,Yp d,.string t] 36)).alloc (.cells #[Yp s2,Yp k2,Yp d2,.string t2] 36)=W at *;obtain⟨p2,h2⟩:∃p2,w.heap.size+1=p2:=⟨_,rfl⟩;rw[h2]at by_;rw[h2];clear h2;generalize w.heap.size=p1 at *;obtain⟨cx,fx,zx⟩:=bw bx;obtain⟨cy,fy,zy⟩:=bw by_;refine l9 [.val (.pointer (some ⟨p1,2,none⟩)),.val (Yp d),.val (.pointer (some ⟨p2,2,none⟩)),.val (Yp d2),.val (Yp (jo d d2)),.val (rcd s k d t),.val (rcd s2 k2 d2 t2),.val (Yp q),.sat (fun v u=>∃g,v= .slice (Yn g) 2 2∧u.heap[g]?=some (.cells #[Yp (jo d d2),Yp q] 3 (0,0))),.val (Yp (orI (jo d d2) q)),.val (Yp (orI (jo d d2) q))] Yh Yh (fun V=>finT) ?_ ?_
 ·refine⟨?_,?_,?_,?_,?_,?_,?_,?_,?_,?_,?_,trivial⟩ <;> (first | exact trivial | exact osGD | (refine⟨osK,?_⟩;intro V u hu hk;refine⟨Yh,aw Yh ?_⟩;obtain⟨hc,hf,hz⟩:=hu.cells;go_simp;skip) | (refine⟨osK,?_⟩;intro V u hu hk;refine⟨Yh,?_⟩;obtain⟨hc,hf,hz⟩:=hu.cells;go_simp;skip) | (intro V u hu hk;refine⟨Yh,?_⟩;obtain⟨hc,hf,hz⟩:=hu.cells;go_simp;first | exact⟨rfl,GD.refl _⟩ | skip) | (intro V u hu hk;show _=false;kernel_rfl))
  ·exact(ml _ _ _).mono fun e w' ⟨h,e'⟩=>⟨h,e'▸GD.refl _⟩
  ·exact CR.out _
  ·obtain⟨g,hv,hb⟩:=hk 8 _ rfl Yh;rw[hv];obtain⟨cg,fg,zg⟩:=bw hb;exact(Px g 2 _ _ _ (cg 0) (cg 1)).mono fun e w' ⟨h,e'⟩=>⟨h,e'▸GD.refl _⟩
 ·intro V u hg hs;go_simp;go_wp2;go_ret;exact⟨rfl,g0.trans hg⟩
end
section
open Go.RowKit Go.Shelf Go.Lib Go.Sort
section
variable {α:Type} (enc:α→List Value) (k:Nat) (hk:∀x,(enc x).length=k)
include hk
theorem Lj (l:List α):(l.flatMap enc).length=l.length * k:=by
 induction l with
 | nil=>simp
 | cons x l ih=>rw[List.flatMap_cons,List.length_append,ih,hk,List.length_cons,Nat.succ_mul];omega
theorem Ro:∀(l:List α) (j c:Nat) (hj:j < l.length) (_:c < k),(l.flatMap enc)[j * k+c]?=(enc l[j])[c]?
 | [],j,c,hj,_=>by simp at hj
 | x :: l,0,c,_,hc=>by
  rw[List.flatMap_cons,List.getElem?_append_left (by rw[hk];omega)];simp
 | x :: l,j+1,c,hj,hc=>by
  have e:(j+1) * k=j * k+k:=Nat.succ_mul _ _;rw[List.flatMap_cons,List.getElem?_append_right (by rw[hk];omega)];have:=Ro l j c (by simpa using hj) hc;simp only[List.getElem_cons_succ];rw[←this,hk];congr 1;omega
end
section
variable {α:Type} [Inhabited α] (enc:α→List Value) (k:Nat) (hk:∀x,(enc x).length=k)
include hk
theorem Eb (hk0:0 < k) (d:Array α):(flatK enc k d).toList=d.toList.flatMap enc:=by
 apply List.ext_getElem?;intro t
 by_cases ht:t < d.size * k
 ·have h1:t / k < d.size:=Nat.div_lt_of_lt_mul (by rw[Nat.mul_comm];exact ht);have h2:t % k < k:=Nat.mod_lt _ hk0;have h3:t / k * k+t % k=t:=by rw[Nat.mul_comm];exact Nat.div_add_mod t k
  have f:=Ro enc k hk d.toList (t / k) (t % k) (by simpa using h1) h2;rw[h3]at f;rw[f];have g:=get_flatK enc k d t ht;have hs:t < (flatK enc k d).size:=by simpa using ht
  rw[getElem!_pos _ t hs]at g;have e1:(flatK enc k d).toList[t]?=some ((flatK enc k d)[t]):=by simp
  rw[e1,g];have e2:d[t / k]! =d.toList[t / k]'(by simpa using h1):=by rw[getElem!_pos d _ h1];simp
  rw[e2,getElem!_pos _ _ (by rw[hk];exact h2),List.getElem?_eq_getElem (by rw[hk];exact h2)]
 ·rw[List.getElem?_eq_none (by simpa using ht),List.getElem?_eq_none (by rw[Lj enc k hk];simpa using ht)]
theorem sq (hk0:0 < k) {w:World} {base:Nat} {T:TypeId} {g cap:Nat} {l:List α} (h:w.ownsRow base T k (.slice (Yn g) l.length cap) l.length (l.flatMap enc)):HoldsK enc k w g 0 l.toArray:=by
 intro j hj;have hj':j < l.length * k:=by simpa using hj
 have h1:=h.cellAt j hj';rw[Nat.zero_add,h1];refine⟨?_,h.frozenAt j⟩;rw[getElem!_pos _ j hj];have e:=Eb enc k hk hk0 l.toArray;rw[show(l.flatMap enc)=(flatK enc k l.toArray).toList from e.symm];simp[id]
theorem Ai (hk0:0 < k) {w:World} {base:Nat} {T:TypeId} {g cap:Nat} {l:List α} (h:w.ownsRow base T k (.slice (Yn g) l.length cap) l.length (l.flatMap enc)) (d:Array α) (hd:d.size=l.length) (n:Nat) (os:Array Obj):
  (sortWorldK enc k w g 0 n d os).ownsRow base T k (.slice (Yn g) l.length cap) l.length (d.toList.flatMap enc)∧GrL [g] w (sortWorldK enc k w g 0 n d os):=by
 rcases h.2 with ⟨hv,_⟩ | ⟨g',cap',cur,hv,hb,hg,hcap,hmax,hsz,htk⟩
 ·cases hv
 injection hv with ha _ hc
 subst hc;injection ha with ha
 injection ha with ha
 subst ha;have hlt:=ai hg;have hbl:(sortWorldK enc k w g 0 n d os).heap[g]?=some (.cells (putCells id 0 (flatK enc k d) cur) T (0,0)):=by
  have:(sortWorldK enc k w g 0 n d os).heap=(w.heap.modify g (onCells (putCells id 0 (flatK enc k d)))) ++ os:=rfl;rw[this,Array.getElem?_append_left (by simpa using hlt),Array.getElem?_modify,if_pos rfl,hg];rfl
 have hsz':(putCells id 0 (flatK enc k d) cur).size=cap * k:=by simp[putCells,hsz]
 refine⟨⟨by rw[Lj enc k hk];simp[hd],.inr ⟨g,cap,_,rfl,hb,hbl,hcap,hmax,hsz',?_⟩⟩,?_⟩
 ·rw[←Eb enc k hk hk0 d];apply List.ext_getElem?;intro t
  by_cases ht:t < l.length * k
  ·have hle:l.length * k≤cap * k:=Nat.mul_le_mul_right _ hcap;have hs:t < (flatK enc k d).size:=by simpa[hd]using ht
   rw[List.getElem?_take_of_lt ht];have hc:t < cur.size:=Yi;simp only[putCells,Array.toList_mapIdx,List.getElem?_mapIdx,Array.getElem?_toList,Array.getElem?_eq_getElem hc,Array.getElem?_eq_getElem hs,Option.map_some];rw[if_pos (by constructor;omega;omega)];rw[Nat.sub_zero,getElem!_pos _ t hs];rfl
  ·rw[List.getElem?_eq_none (by simp;omega),List.getElem?_eq_none (by simp[hd];omega)]
 ·refine⟨rfl,rfl,rfl,?_,?_,trivial⟩
  ·show w.heap.size≤((w.heap.modify g (onCells (putCells id 0 (flatK enc k d)))) ++ os).size;simp
  ·intro j hj hn;show((w.heap.modify g (onCells (putCells id 0 (flatK enc k d)))) ++ os)[j]?=_;rw[Array.getElem?_append_left (by simpa using hj),Array.getElem?_modify,if_neg (fun e=>hn (by simp[e]))]
end
end
section
open Go.RowKit Go.Shelf Go.Lib Go.Sort
theorem Bu (x y:Rc):ul x y < 0↔x.s < y.s∨x.s=y.s∧x.k < y.k:=by
 unfold ul orI jo
 repeat' split
 all_goals omega
theorem zdn (x y:Rc):ul x y=0↔x.s=y.s∧x.k=y.k:=by
 unfold ul orI jo
 repeat' split
 all_goals omega
theorem Bv (x y:Rc):Bb x y < 0↔x.d < y.d∨x.d=y.d∧(x.s < y.s∨x.s=y.s∧x.k < y.k):=by
 have h:=Bu x y;unfold Bb orI jo
 repeat' split
 all_goals omega
theorem H9 (x y:Rc):ltOf Bb x y=decide (x.d < y.d∨x.d=y.d∧(x.s < y.s∨x.s=y.s∧x.k < y.k)):=by
 unfold ltOf;exact decide_eq_decide.2 (Bv x y)
theorem Zv:SWO (ltOf Bb) where
 irrefl x:=by rw[H9];simp
 trans x y z h1 h2:=by rw[H9]at *;simp only[decide_eq_true_eq]at *;omega
 ntrans x y z h1 h2:=by rw[H9]at *;simp only[decide_eq_false_iff_not]at *;omega
theorem Fs (g size:Nat) (w:World):CmpLays prog 52 #[] Rc.cells 4 Bb g 0 size w:=
 fun _ _ _ _ x y=>(zaD x y _).mono fun _ _ ⟨he,hg⟩=>⟨he,hg.grow⟩
abbrev Bz (l:List Rc):Prop:=l.Pairwise fun a b=>¬Bb b a < 0
theorem Cw {α:Type} [Inhabited α] {l:List α} {d:Array α} (h:PermIn 0 l.toArray.size l.toArray d):d.toList.Perm l:=by
 have h1:=h.1;have h2:=h.2.2;simp only[List.size_toArray]at h1 h2;have e1:d.extract 0 l.length=d:=by rw[←h1];simp
 have e2:l.toArray.extract 0 l.length=l.toArray:=Yj;rw[e1,e2]at h2;simpa using h2
theorem uz {α:Type} [Inhabited α] {lt:α→α→Bool} {d:Array α} (h:SortedIn lt 0 d.size d):d.toList.Pairwise fun a b=>lt b a=false:=by
 rw[List.pairwise_iff_getElem];intro i j hi hj hij;have:=h i j (Nat.zero_le _) hij (by simpa using hj);rw[getElem!_pos d j (by simpa using hj),getElem!_pos d i (by simpa using hi)]at this;simpa using this
theorem Yl (base g cap:Nat) (l:List Rc) (w:World) (hr:w.ownsRow base 36 4 (.slice (Yn g) l.length cap) l.length (rcs l)) (hl:l.length≤1000000):
  Calls prog 51 #[.slice (Yn g) l.length cap,.func (.func 52) #[] #[]] w fun e w'=>e= .returned (.tuple #[])∧∃l',l'.Perm l∧Bz l'∧w'.ownsRow base 36 4 (.slice (Yn g) l.length cap) l'.length (rcs l')∧GrL [g] w w':=by
 have hk:∀x:Rc,(Rc.cells x).length=4:=fun _=>rfl;have h1:∀x:Rc,∀v∈Rc.cells x,v.oneCell'=true:=fun x v hv=>Ho [x] v (by simpa[rcs]using hv);have eg:∀args w,(callFunc 52 args).run prog w= .ok (.enter 52 args) w:=enters_of func52 Yh rfl;have hg:g < w.heap.size:=(hr.lt g rfl).2;have hH:=sq Rc.cells 4 hk Yi hr;have C:=AnyQ.slices_SortFunc Tryz.sortRec 4 Tryz.isAgg36 Tryz.sizeOf36 Rc.cells hk h1 Bb Zv 52 #[] g 0 cap l.toArray w eg (Fs g _ w) hH hg (by simp;omega);rw[List.size_toArray]at C;refine C.mono ?_;rintro e w' ⟨rfl,d',n,os,hp,hs,rfl⟩;have hp':PermIn 0 l.toArray.size l.toArray d':=by simpa using hp
 have hd:d'.size=l.length:=by simpa using hp'.1
 obtain⟨o1,o2⟩:=Ai Rc.cells 4 hk Yi hr d' hd n os;refine⟨rfl,d'.toList,Cw hp',?_,?_,o2⟩
 ·have hs':SortedIn (ltOf Bb) 0 d'.size d':=by rw[hd];exact hs
  refine(uz hs').imp ?_;intro a b h;simpa[ltOf]using h
 ·have:d'.toList.length=l.length:=by simpa using hd
  rw[this];exact o1
theorem Yd (base:Nat) (v:Value) (l:List Rc) (w:World) (hr:w.ownsRow base 36 4 v l.length (rcs l)) (hl:l.length≤1000000):
  Calls prog 51 #[v,.func (.func 52) #[] #[]] w fun e w'=>e= .returned (.tuple #[])∧∃l',l'.Perm l∧Bz l'∧w'.ownsRow base 36 4 v l'.length (rcs l')∧GrL v.ownBlock.toList w w':=by
 have hr':=hr;rcases hr.2 with ⟨rfl,hz⟩ | ⟨g,cap,cur,rfl,_⟩
 ·obtain rfl:=List.eq_nil_of_length_eq_zero hz;refine(AnyF.slices_SortFunc_none Tryz.sortRec none 0 _ w).mono ?_;rintro e w' ⟨rfl,rfl⟩;exact⟨rfl,[],List.Perm.refl _,List.Pairwise.nil,World.ownsRow_nil _ _ _ _,GrL.of_gr (Yu _)⟩
 ·exact(Yl base g cap l w hr' hl).mono fun e w' ⟨h,l',h1,h2,h3,h4⟩=>⟨h,l',h1,h2,h3,h4⟩
end
section
open Go.RowKit Go.Shelf
theorem Ki {n:Int} {x:Rc} (h:okR n x=true):0≤x.d∧1≤x.k∧x.k≤400∧0≤x.s∧x.s≤n - 1:=by
 unfold okR ob at h;simp only[Bool.and_eq_true,decide_eq_true_eq]at h;omega
theorem Ep {n:Int} {p:Option Rc} {x:Rc} (h:okR n x=false):kr n p x=1:=by
 unfold kr;cases p with
 | none=>simp[j5,h]
 | some q=>dsimp only;split <;> simp[j5,h]
theorem zbL {n:Int} {x:Rc} (h:okR n x=true):kr n none x=if x.k=1 then 0 else 93:=by
 have:=Ki h;have h1:¬x.d < 0:=Yi;unfold kr j5
 by_cases hk:x.k=1
 ·simp[h,hk,h1]
 ·simp[h,hk]
theorem Eo {n:Int} {q x:Rc} (h:okR n x=true) (c:x.s < q.s∨x.s=q.s∧x.k≤q.k):kr n (some q) x=6:=by
 have hc:0≤ul q x:=by
  rcases Int.lt_or_le (ul q x) 0 with h | h
  ·rw[Bu]at h;omega
  ·exact h
 unfold kr;dsimp only;split <;> simp[j5,h,hc]
theorem zbN {n:Int} {q x:Rc} (h:okR n x=true) (c:q.s < x.s):kr n (some q) x=if x.k=1 then 0 else 93:=by
 have hc:¬0≤ul q x:=by
  have:=(Bu q x).2 (Or.inl c);omega
 have h2:¬q.s=x.s:=Yi;have:=Ki h;have h1:¬x.d < 0:=Yi;unfold kr j5
 by_cases hk:x.k=1
 ·simp[h,hk,h1,h2,hc]
 ·simp[h,hk,h2,hc]
theorem O5 {n:Int} {q x:Rc} (h:okR n x=true) (c:x.s=q.s) (c2:q.k < x.k):kr n (some q) x=if x.k=q.k+1 then if x.d < q.d then 7 else 0 else 93:=by
 have hc:¬0≤ul q x:=by
  have:=(Bu q x).2 (Or.inr ⟨c.symm,c2⟩);omega
 unfold kr j5
 by_cases hk:x.k=q.k+1
 iterate 2 ·simp[h,hk,hc,c]
end
section
open Go.RowKit Go.Shelf
theorem zdV {a b:ByteArray} (h:a.toList=b.toList):a=b:=by
 rw[ByteArray.toList_eq,ByteArray.toList_eq]at h;obtain⟨⟨x⟩⟩:=a;obtain⟨⟨y⟩⟩:=b;simp at h;rw[h]
theorem rc_eq (a b:Rc):(decide (a=b))=(decide (a.s=b.s) && (decide (a.k=b.k) && (decide (a.d=b.d) && decide (a.t=b.t)))):=by
 obtain⟨s,k,d,t⟩:=a;obtain⟨s2,k2,d2,t2⟩:=b;simp[Rc.mk.injEq]
theorem zdU (x y:Rc) (b:Bool) (u:World) (h:b= !decide (x=y)):
  Mx prog (.bool b) (Gr u) (if x.s=y.s then if x.k=y.k then if x.d=y.d then if x.t.toList=y.t.toList then Result.ok (Next.value (.bool false)) u else Result.ok (Next.value (.bool true)) u else Result.ok (Next.value (.bool true)) u else Result.ok (Next.value (.bool true)) u else Result.ok (Next.value (.bool true)) u):=by
 subst h;rw[rc_eq];have h5:x.t.toList=y.t.toList→x.t=y.t:=zdV
 by_cases h1:x.s=y.s
 ·by_cases h2:x.k=y.k
  ·by_cases h3:x.d=y.d
   ·by_cases h4:x.t=y.t
    ·rw[if_pos h1,if_pos h2,if_pos h3,if_pos (by rw[h4]),decide_eq_true h1,decide_eq_true h2,decide_eq_true h3,decide_eq_true h4];exact⟨rfl,Yu _⟩
    ·rw[if_pos h1,if_pos h2,if_pos h3,if_neg (fun h=>h4 (h5 h)),decide_eq_true h1,decide_eq_true h2,decide_eq_true h3,decide_eq_false h4];exact⟨rfl,Yu _⟩
   ·rw[if_pos h1,if_pos h2,if_neg h3,decide_eq_true h1,decide_eq_true h2,decide_eq_false h3];exact⟨rfl,Yu _⟩
  ·rw[if_pos h1,if_neg h2,decide_eq_true h1,decide_eq_false h2];exact⟨rfl,Yu _⟩
 ·rw[if_neg h1,decide_eq_false h1];exact⟨rfl,Yu _⟩
def Ee (l:List Rc) (m:Nat):Bool:=decide (l.length≤m) && l.all fun x=>decide (x.t.size≤300)
theorem fewB_no {l:List Rc} {m i:Nat} (hi:i < l.length) (h:¬l[i].t.size≤300):Ee l m=false:=by
 unfold Ee;have:(l.all fun x=>decide (x.t.size≤300))=false:=by
  cases e:l.all fun x=>decide (x.t.size≤300)with
  | false=>rfl
  | true=>exact absurd (of_decide_eq_true (List.all_eq_true.1 e _ (List.getElem_mem hi))) h
 rw[this,Bool.and_false]
theorem zbs {l:List Rc} {m:Nat} (h:l.length≤m) (k:∀j (hj:j < l.length),l[j].t.size≤300):Ee l m=true:=by
 unfold Ee;rw[decide_eq_true h,Bool.true_and,List.all_eq_true];intro x hx;obtain⟨j,hj,rfl⟩:=List.mem_iff_getElem.1 hx;exact decide_eq_true (k j hj)
theorem fewB_is {l:List Rc} {m:Nat} (h:Ee l m=true):l.length≤m∧∀x∈l,x.t.size≤300:=by
 unfold Ee at h;rw[Bool.and_eq_true,List.all_eq_true]at h;exact⟨of_decide_eq_true h.1,fun x hx=>of_decide_eq_true (h.2 x hx)⟩
theorem Few_any (v:Value) (l:List Rc) (m:Nat) (w:World) (hv:dr w v l) (hm:m≤1000):
  Calls prog 6 #[v,Yp m] w fun e w'=>e= .returned (.bool (Ee l m))∧w'=w:=by
 obtain⟨a,cap,rfl,hcap,hcell⟩:=hv
 by_cases hlm:l.length≤m
 ·have HC:=hid hcell;have h1:¬(m:Int) < l.length:=Yi;obtain⟨q,hq⟩:∃q,Ee l m=q:=⟨_,rfl⟩;have HQ:=hid hq;rw[hq];clear hcell hq;go_enter func6,ntmps6;go_wp2;go_loopw [5] (fun r wr=>∃i:Nat,r= .int .i64 i∧i≤l.length∧Hid (∀j (hj:j < l.length),j < i→l[j].t.size≤300)∧wr=w) (fun r _=>l.length - (intOf r).toNat)
  case atStart=>exact⟨0,rfl,Yi,hid (fun j hj h=>absurd h (Nat.not_lt_zero _)),rfl⟩
  case round=>
   obtain⟨i,rfl,hi,HS,rfl⟩:=hrel
   by_cases hil:i < l.length
   ·have hil':(i:Int) < l.length:=Yi;obtain⟨g,o,rfl,hgl, -, -, -,c3⟩:=HC.out i hil;have HN:=hid (fun h=>fewB_no (m:=m) hil h)
    by_cases hs:l[i].t.size≤300
    ·have hs':¬(300:Int) < l[i].t.size:=Yi;have HI:Hid (∀j (hj:j < l.length),j < i+1→l[j].t.size≤300):=hid (fun j hj hji=>by
      rcases Nat.lt_or_ge j i with h | h
      ·exact HS.out j hj h
      ·obtain rfl:j=i:=Yi;exact hs)
     generalize l[i].t=t at *;go_wp2;exact⟨⟨i+1,Yj,Yi,HI,trivial⟩,by simp[intOf];omega⟩
    ·have hs':(300:Int) < l[i].t.size:=Yi;have hE:=HN.out hs;generalize l[i].t=t at *;go_wp2;go_ret;exact⟨cn (hE.symm.trans HQ.out),rfl⟩
   ·have hil':¬(i:Int) < l.length:=Yi;obtain rfl:i=l.length:=Yi;go_wp2;go_ret;exact⟨cn ((zbs hlm (fun j hj=>HS.out j hj hj)).symm.trans HQ.out),rfl⟩
 ·have hE:Ee l m=false:=by unfold Ee;rw[decide_eq_false hlm,Bool.false_and]
  rw[hE];have h1:(m:Int) < l.length:=Yi;clear hcell hE;go_enter func6,ntmps6;go_wp2;go_ret;exact⟨rfl,rfl⟩
end
section
open Go.RowKit Go.Shelf
def hav (a0 a1 a2 a3 a4:Int):Nat→Int
 | 0=>a0 | 1=>a1 | 2=>a2 | 3=>a3 | _=>a4
theorem qe {w:World} {base:Nat} {v:Value} {l:List Rc} (h:w.ownsRow base 36 4 v l.length (rcs l)):dr w v l:=
 RowR.recs (World.ownsRow.mono (base':=0) h (Nat.zero_le _))
end
section
open Go.ChangeShapes Go.WideShapes Go.ChangeAt Go.RowKit Go.Joins Go.Deep
theorem J2:∀t e,t < prog.types.size→prog.underlying t=some (.slice e)→0 < prog.cellsOf e:=slices_full_of _ Yh
theorem zdW {H:Type} {enc:TypeId×Value→H} {W W':World} {t:TypeId} {v:Value} {d:DataW H} {p:List MemPlace} (h:DataW.Trod enc prog W 0 (fun _=>true) true t v d p) (g:Gr W W') (ht:t < prog.types.size):
  DataW.Trod enc prog W' 0 (fun b=>decide (b < W.heap.size)) true t v d p:=by
 obtain⟨n,hn⟩:=h;have hl:=DataW.trod_lt n _ _ _ hn;have h2:=DataW.trod_carry n _ _ _ hn (fun q hq=>g.b.same (hl q hq));have h3:DataW.Trod enc prog W' 0 (fun _=>true) true t v d p:=⟨n,h2⟩;exact h3.respare (kids_rows laidOut mapsRow) J2 ht (fun q hq=>decide_eq_true (hl q hq))
section
variable {H:Type} {enc:TypeId×Value→H} {W:World}
theorem Pc:prog.cellsOf 36=4:=Yh
theorem zbP:prog.cellsOf 9=1:=Yh
theorem Et:prog.cellsOf 3=1:=Yh
theorem list4 {α:Type} {l:List α} (h:l.length=4):∃a b c d,l=[a,b,c,d]:=by
 match l,h with
 | [a,b,c,d],_=>exact⟨a,b,c,d,rfl⟩
theorem rec_of {n:Nat} {cs:List Value} {x:DataW H×List MemPlace} (h:DataW.trod enc prog W 0 (fun _=>true) true n 36 cs=some x):∃r:Rc,cs=r.cells:=by
 obtain⟨xs,m, -, -,hl,hlen,hf⟩:=DataW.trod_struct underlying36 h;rw[Pc]at hl;obtain⟨c0,c1,c2,c3,rfl⟩:=list4 hl;obtain⟨y0,y1,y2,y3,rfl⟩:=list4 (show xs.length=4 from hlen);have q0:DataW.trod enc prog W 0 (fun _=>true) true m 3 (([c0,c1,c2,c3].drop 0).take (prog.cellsOf 3))=some y0:=hf 0 _ rfl;rw[Et]at q0;have q1:DataW.trod enc prog W 0 (fun _=>true) true m 3 (([c0,c1,c2,c3].drop 1).take (prog.cellsOf 3))=some y1:=hf 1 _ rfl;rw[Et]at q1;have q2:DataW.trod enc prog W 0 (fun _=>true) true m 3 (([c0,c1,c2,c3].drop 2).take (prog.cellsOf 3))=some y2:=hf 2 _ rfl;rw[Et]at q2;have q3:DataW.trod enc prog W 0 (fun _=>true) true m 9 (([c0,c1,c2,c3].drop 3).take (prog.cellsOf 9))=some y3:=hf 3 _ rfl;rw[zbP]at q3;obtain⟨s,e0, -, -⟩:=DataW.trod_int underlying3 q0;obtain⟨k,e1, -, -⟩:=DataW.trod_int underlying3 q1;obtain⟨d,e2, -, -⟩:=DataW.trod_int underlying3 q2;obtain⟨t,e3, -, -⟩:=DataW.trod_string underlying9 q3;replace e0:[c0]=_:=e0;replace e1:[c1]=_:=e1;replace e2:[c2]=_:=e2;replace e3:[c3]=_:=e3;simp only[List.cons.injEq,and_true]at e0 e1 e2 e3;subst e0;subst e1;subst e2;subst e3;exact⟨⟨s,k,d,t⟩,rfl⟩
theorem Ti {b0:Nat} {r:Reach} {v:Value} {d:DataW H} {p:List MemPlace} (hv:Value.okWide prog W r b0 22 v) (h:DataW.Trod enc prog W 0 (fun _=>true) true 22 v d p):
  ∃l:List Rc,dr W v l:=by
 obtain⟨a0,len,cap,rfl⟩:=okWide_slice underlying22 hv;obtain⟨fuel,hf⟩:=h;rcases open_slice underlying22 hf with ⟨hcs, -⟩ | ⟨a,len',cap',m,n,D,Pl,hcs,hb,hl,hm,hmm, -,hx⟩
 ·simp[Value.cells]at hcs;obtain⟨rfl,rfl,rfl⟩:=hcs;exact⟨[],dr.nil _ _ _⟩
 ·simp[Value.cells]at hcs;obtain⟨rfl,rfl,rfl⟩:=hcs;simp only[if_true]at hmm;subst hmm;have each:∀i,i < len→∃r:Rc,∃g off,a=⟨g,off,none⟩∧g < W.heap.size∧W.cell? ⟨g,off+i * 4,none⟩=some (.int .i64 r.s)∧W.cell? ⟨g,off+i * 4+1,none⟩=some (.int .i64 r.k)∧W.cell? ⟨g,off+i * 4+2,none⟩=some (.int .i64 r.d)∧
    W.cell? ⟨g,off+i * 4+3,none⟩=some (.string r.t):=fun i hi=>by
   obtain⟨cs',h1,h2⟩:=hx i Yi;rw[Pc]at h1;obtain⟨-, -,hc⟩:=World.cells?_some h1;obtain⟨r,rfl⟩:=rec_of h2;have c0:=hc 0 Yi;have c1:=hc 1 Yi;have c2:=hc 2 Yi;have c3:=hc 3 Yi;obtain⟨b,off,spot⟩:=a;have hspot:spot=none:=by
    obtain⟨cs0,h0, -⟩:=hx 0 Yi;rw[Pc]at h0;have:=World.cell?_spot (((World.cells?_some h0).2.2 0 Yi).trans (List.getElem?_eq_getElem (by rw[(World.cells?_some h0).2.1];omega)));simpa[Addr.add]using this
   subst hspot;rw[add_plain,add_plain]at c0 c1 c2 c3;refine⟨r,b,off,rfl,?_,c0,c1,c2,c3⟩;exact World.block_lt_of_cell? _ _ c0
  have:Inhabited Rc:=⟨⟨0,0,0,ByteArray.empty⟩⟩;obtain⟨F,hF⟩:=choose_lt each;have hlen:((List.range len).map F).length=len:=Yj;refine⟨(List.range len).map F,some a,_,by rw[hlen],by rw[hlen];omega,fun j hj=>?_⟩;rw[hlen]at hj;have ej:((List.range len).map F)[j]=F j:=Yj;rw[ej];obtain⟨g,off,rfl,hg,c0,c1,c2,c3⟩:=hF j hj;exact⟨g,off,rfl,hg,c0,c1,c2,c3⟩
end
end
section
open Go.ChangeShapes Go.WideShapes Go.ChangeAt Go.RowKit Go.Joins
theorem Ej {W:World} (h:laidMetH prog laid7 W):W.cell? ⟨7,15,none⟩=some (.int .u8 4)∧7 < W.heap.size:=by
 rw[MakeChecks.laidMetH_plain _ _ _ Yh]at h;obtain⟨ps,⟨g0,t0,cs0,f0,p0,q0,hg0,ht0,hv0,hd0,⟨g1,t1,cs1,f1,p1,q1,hg1,ht1,hv1,hd1,_,_⟩,_⟩,_,_⟩:=h;obtain rfl:=Yt ((show prog.globalNamed "math/bits.deBruijn64tab" =some 7 by kernel_rfl).symm.trans hg1)
 obtain rfl:=Yt ((show(prog.globals[7]?).map (·.type)=some 211 by kernel_rfl).symm.trans ht1);have hd:DataW.trod _ prog W 0 _ _ f1 211 cs1.toList=some (Lib.tabData .u8 (intsOf RX.t7),p1):=hd1;have hc:=Lib.cells_of_tab (n:=64) (e:=5) underlying211 underlying5 Yh Yh hd;have h1:=World.var?_cell hg1 hv1 15;have h2:cs1[15]?=some (.int .u8 4):=by
  rw[←Array.getElem?_toList];have:cs1.toList=(intsOf RX.t7).map (Value.int .u8):=by first | exact hc | (rw[hc];done) | (rw[←hc];done) | (have:=congrArg Array.toList hc;simpa using this)
  rw[this];rfl
 obtain⟨e,fz,hh⟩:=heap_of_var hg1 hv1;exact⟨h1.trans h2,(Array.getElem?_eq_some_iff.1 hh).1⟩
end
section
open Go.RowKit Go.Shelf
theorem Jc {P:Program} {F:Value→World→Prop} {R:World→Prop} {o:Oper} {a:Act} {w:World} (s x:Operand) (t:TypeId)
  (ho:o.op= .call {callee:= .builtin .append,args:=#[s,x],argTypes:=#[t,t]})
  (base:Nat) (e:TypeId) (i:TypeInfo) (z:Value) (size bytes:Nat) (ht:P.underlying t=some (.slice e)) (hi:P.info? e=some i) (hz:i.zero=some z)
  (hsize:i.size=size) (hby:i.bytes=bytes) (hzs:z.cells.size=size) (hsz:0 < size)
  (v:Value) (n:Nat) (xs:List Value) (hs:a.eval s=v) (hown:w.ownsRow base e size v n xs)
  (ad:Addr) (m c:Nat) (news:List Value) (hx:a.eval x= .slice (some ad) m c) (hl:news.length=m * size) (hnews:∀j u,news[j]?=some u→w.cell? (ad.add j)=some u) (h1:∀u∈news,u.oneCell'=true)
  (h63:n+m≤maxLen) (hbytes:(n+m) * bytes≤140737488355328) (hbase:base≤w.heap.size)
  (h:∀v' w',w'.ownsRow base e size v' (n+m) (xs ++ news)→w.grownBy w' v.ownBlock→F v' w'∧R w'):ii P F R ((execOp a.eval o).run P w):=by
 obtain⟨v',w',hr,h2,h3,_⟩:=run_append_own (P:=P) w base t o.type e i z size bytes ht hi hz hsize hby hzs hsz v n xs hown ad m c news hl hnews h1 h63 hbytes hbase;unfold execOp;simp only[ho,resolve,invoke,builtin,Sem.run_bind,Sem.run_pure,Result.andThen_ok,List.map_toArray,List.map_cons,List.map_nil,hs,hx,hr];exact h v' w' h2 h3
theorem fold_set:∀(l:List Value) (k off:Nat) (Z:Array Value),off+k+l.length≤Z.size→
  ((l.zipIdx k).foldl (fun(cs:Array Value) (x:Value×Nat)=>cs.setIfInBounds (off+x.2) x.1) Z).toList=Z.toList.take (off+k) ++ l ++ Z.toList.drop (off+k+l.length)
 | [],k,off,Z,h=>by simp
 | v :: r,k,off,Z,h=>by
  simp only[List.length_cons]at h;rw[List.zipIdx_cons,List.foldl_cons,fold_set r (k+1) off _ (by simp;omega)];simp only[Array.toList_setIfInBounds,List.length_cons];have hz:Z.toList.length=Z.size:=rfl;generalize Z.toList=L at *;rw[List.set_eq_take_append_cons_drop,if_pos Yi];have ht:(L.take (off+k)).length=off+k:=by rw[List.length_take];omega
  have e1:(L.take (off+k) ++ v :: L.drop (off+k+1)).take (off+(k+1))=L.take (off+k) ++ [v]:=by
   rw[List.take_append,ht,show off+(k+1) - (off+k)=1 by omega];simp[List.take_take]
  have e2:(L.take (off+k) ++ v :: L.drop (off+k+1)).drop (off+(k+1)+r.length)=L.drop (off+k+(r.length+1)):=by
   rw[List.drop_append,ht,show(L.take (off+k)).drop (off+(k+1)+r.length)=[]from List.drop_eq_nil_of_le Yi,show off+(k+1)+r.length - (off+k)=r.length+1 by omega];simp[List.drop_drop];congr 1;omega
  rw[e1,e2];simp
theorem fill_fold (C Z:Array Value) (off:Nat) (h:off+C.size≤Z.size):
  C.zipIdx.foldl (fun(cs:Array Value) (x:Value×Nat)=>cs.setIfInBounds (off+x.2) x.1) Z=(Z.toList.take off ++ C.toList ++ Z.toList.drop (off+C.size)).toArray:=by
 apply Array.ext';rw[←Array.foldl_toList,Array.toList_zipIdx,fold_set C.toList 0 off Z (by have:C.toList.length=C.size:=rfl;omega)];simp
end
end Go.Proofs.YtimcfaoabaflkaaGreatDoor
