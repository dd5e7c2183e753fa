/- s -/
import Derived.Test.YtdghpfejmlpjhaaANil
import Derived.Test.YtdghpfejmlpjhaaRSort
import Derived.Test.YtdghpfejmlpjhaaAWq
import Derived.Test.YtdghpfejmlpjhaaRCon2
import Derived.Test.YtdghpfejmlpjhaaASimP
import Derived.Test.YtdghpfejmlpjhaaChecked
import Derived.Test.YtdghpfejmlpjhaaASimJ
import Derived.Test.YtdghpfejmlpjhaaRCon3
import Derived.Test.YtdghpfejmlpjhaaRA1
import Derived.Test.YtdghpfejmlpjhaaRP2
set_option linter.unusedVariables false
set_option linter.unusedSimpArgs false
set_option maxRecDepth 100000
set_option maxRecDepth 1000000
namespace Go.AM
open Go.RowKit Go.Sort Go.Proofs Go.Lib
def cfF (x y:apiFact):Int:=orI2 (cmpI x.qb y.qb) (cmpL x.qa y.qa)
def sortF (l:List apiFact):List apiFact:=l.mergeSort fun x y=>!ltOf cfF y x
theorem QK (l:List apiFact):(sortF l).length=l.length:=by unfold sortF;exact List.length_mergeSort l
theorem qcp (x y:Int):cmpI y x = - cmpI x y:=by
 unfold cmpI
 by_cases h1:x<y
 ·have:¬ y<x:=by omega
  simp[h1,this]
 ·by_cases h2:y<x <;> simp[h1,h2]
theorem Xw (x y:Int):cmpI x y=0↔x=y:=by
 unfold cmpI
 by_cases h1:x<y
 ·simp[h1];omega
 ·by_cases h2:y<x
  ·simp[h1,h2];omega
  ·simp[h1,h2];omega
theorem YP (x y:Int):cmpI x y<0↔x<y:=by
 unfold cmpI
 by_cases h1:x<y
 ·simp[h1]
 ·by_cases h2:y<x <;> simp[h1,h2]
theorem qco:∀ a b:List Int,cmpL b a = - cmpL a b
 | [],[]=>rfl
 | [],_::_=>rfl
 | _::_,[]=>rfl
 | x::a,y::b=>by
  simp only[cmpL];rw[qco a b,qcp x y]
  by_cases h:cmpI x y=0 <;> simp[h]
theorem qaz:∀ a b:List Int,cmpL a b=0↔a=b
 | [],[]=>by simp[cmpL]
 | [],_::_=>by simp[cmpL]
 | _::_,[]=>by simp[cmpL]
 | x::a,y::b=>by
  simp only[cmpL]
  by_cases h:cmpI x y=0
  ·rw[if_neg (by simpa using h),qaz a b,(Xw x y).1 h]
   simp
  ·rw[if_pos h]
   have:x≠y:=fun e=>h ((Xw x y).2 e)
   simp[h,this]
theorem Dg:∀ a b c:List Int,cmpL a b<0→cmpL b c<0→cmpL a c<0
 | [],_,[],h1,h2=>by
  rename_i b
  cases b with
  | nil=>simp[cmpL]at h1
  | cons y b=>simp[cmpL]at h2
 | [],_,_::_,_,_=>by simp[cmpL]
 | x::a,[],_,h1,_=>by simp[cmpL]at h1
 | x::a,y::b,[],_,h2=>by simp[cmpL]at h2
 | x::a,y::b,z::c,h1,h2=>by
  simp only[cmpL]at h1 h2 ⊢
  by_cases k1:cmpI x y=0
  ·have e1:=(Xw x y).1 k1;subst e1;rw[if_neg (by simpa using k1)]at h1
   by_cases k2:cmpI x z=0
   ·rw[if_neg (by simpa using k2)]at h2 ⊢;exact Dg a b c h1 h2
   ·rw[if_pos k2]at h2 ⊢;exact h2
  ·rw[if_pos k1,YP]at h1
   by_cases k2:cmpI y z=0
   ·have e2:=(Xw y z).1 k2;subst e2;rw[if_pos k1,YP];exact h1
   ·rw[if_pos k2,YP]at h2;have h3:cmpI x z<0:=(YP x z).2 (by omega);rw[if_pos (by omega)];exact h3
theorem VI (x y:apiFact):cfF y x = - cfF x y:=by
 unfold cfF orI2;rw[qcp x.qb y.qb,qco x.qa y.qa]
 by_cases h:cmpI x.qb y.qb=0 <;> simp[h]
theorem UT (x y:apiFact):cfF x y=0↔x=y:=by
 unfold cfF orI2;obtain⟨a,b⟩:=x;obtain⟨c,d⟩:=y
 by_cases h:cmpI a c=0
 ·simp only[h,ne_eq,not_true_eq_false,if_false,qaz];rw[(Xw a c).1 h]
  simp
 ·have:a≠c:=fun e=>h ((Xw a c).2 e)
  simp[h,this]
theorem qaA (x y z:apiFact) (h1:cfF x y<0) (h2:cfF y z<0):cfF x z<0:=by
 obtain⟨a,b⟩:=x;obtain⟨c,d⟩:=y;obtain⟨e,f⟩:=z;unfold cfF orI2 at *;simp only at *
 by_cases k1:cmpI a c=0
 ·have e1:=(Xw a c).1 k1;subst e1;rw[if_neg (by simpa using k1)]at h1
  by_cases k2:cmpI a e=0
  ·rw[if_neg (by simpa using k2)]at h2 ⊢;exact Dg _ _ _ h1 h2
  ·rw[if_pos k2]at h2 ⊢;exact h2
 ·rw[if_pos k1,YP]at h1
  by_cases k2:cmpI c e=0
  ·have e2:=(Xw c e).1 k2;subst e2;rw[if_pos k1,YP];exact h1
  ·rw[if_pos k2,YP]at h2;have h3:cmpI a e<0:=(YP a e).2 (by omega);rw[if_pos (by omega)];exact h3
theorem ltF (a b:apiFact):ltOf cfF a b=true↔cfF a b<0:=by
 have e:ltOf cfF a b=decide (cfF a b<0):=rfl;rw[e,decide_eq_true_eq]
theorem ltFf (a b:apiFact):ltOf cfF a b=false↔¬ cfF a b<0:=by
 rw[← ltF,Bool.not_eq_true]
theorem swoF:SWO (ltOf cfF) where
 irrefl x:=by rw[ltFf,(UT x x).2 rfl];omega
 trans x y z h1 h2:=by rw[ltF]at *;exact qaA x y z h1 h2
 ntrans x y z h1 h2:=by
  rw[ltFf]at *;intro h3;have n1:=VI x y;have n2:=VI y z
  by_cases k1:cfF x y=0
  ·rw[(UT x y).1 k1]at h3;exact h2 h3
  ·by_cases k2:cfF y z=0
   ·rw[← (UT y z).1 k2]at h3;exact h1 h3
   ·have h4:=qaA z y x (by omega) (by omega);have n3:=VI x z;omega
theorem totF (x y:apiFact) (h1:ltOf cfF x y=false) (h2:ltOf cfF y x=false):x=y:=by
 rw[ltFf]at h1 h2;have:=VI x y;exact (UT x y).1 (by omega)
theorem cells2 (l:List apiFact):∀ x,x∈l.map qg→x.cells.length=2:=by
 intro x hx;obtain⟨y,_,rfl⟩:=List.mem_map.1 hx;rfl
theorem flat2 (l:List apiFact) {j:Nat} (hj:j<l.length * 2):(flat (l.map qg))[j]? = (qg (l[j / 2]'(by omega))).cells[j % 2]?:=by
 have hd:j / 2<l.length:=by omega
 have h2:=QI (k:=2) (xs:=l.map qg) (i:=j / 2) (x:=qg l[j / 2]) (cells2 l) (by simp[hd]) (j % 2) (by omega);rw[show j / 2 * 2+j % 2=j by omega]at h2;exact h2
theorem qfv {n:Nat} (l:List apiFact) (hn:l.length=n) (s:List (Fin n)) (hs:s=(List.finRange n).mergeSort fun x y=>!ltOf (fun i j:Fin n=>cfF (l[i.1]'(by omega)) (l[j.1]'(by omega))) y x):sortF l=s.map fun i=>l[i.1]'(by omega):=by
 subst hn
 have e:l=(List.finRange l.length).map fun i=>l[i.1]:=by
  refine List.ext_getElem (by simp) fun i h1 h2=>?_
  simp
 subst hs;unfold sortF
 conv=>lhs;rw[e]
 rw[List.map_mergeSort];intro a _ b _;rfl
theorem sort109 {l:List apiFact} (hl:l.length<4611686018427387904) (hnd:l.Nodup) (hla:∀ f,f∈l→f.qa.length≤1000000) :
  CallMOk Try.prog 109 [.sb 2000000 41 2 0 l.length,.clo 110 []] [(2000000,.obj 41 2 (l.map qg))] (.tup []) [(2000000,.obj 41 2 ((sortF l).map qg))]:=by
 intro M O w vs hG hC hlen hO hOi hR hH
 obtain⟨v,fv,rfl⟩:∃ v fv,vs=[v,fv]:=by
  match vs,hlen with
  | [v,fv],_=>exact⟨v,fv,rfl⟩
 have hv:=hR 0 _ v rfl rfl;have hf:=(hR 1 _ fv rfl rfl).1;have ho:=hH 2000000 (.obj 41 2 (l.map qg)) rfl;obtain⟨q1,q2⟩:=hv;obtain⟨k0,k1,k2,k3⟩:=ho
 obtain rfl:fv=.func (.func 110) #[] #[]:=by
  generalize hx:AV.clo 110 []=x at hf
  have hx':x.strip=x:=by rw[← hx];rfl
  rw[hx']at hf
  cases hf with
  | clo e1 e2 =>
   rename_i vs;cases hx
   match vs,e1 with
   | [],_=>rfl
  | _=>cases hx
 have aE:∀ w,(isAgg 41).run Try.prog w=.ok true w:=Try.isAgg41;have zE:∀ w,(Go.sizeOf 41).run Try.prog w=.ok 2 w:=Try.sizeOf41
 by_cases hne:l=[]
 ·subst hne
  have q2':∃ p cap,v=.slice p 0 cap:=by
   rcases q2 with ⟨_,ad,rfl⟩ | ⟨g,cap,rfl,_⟩
   ·exact⟨_,_,rfl⟩
   ·exact⟨_,_,rfl⟩
  obtain⟨p,cap,rfl⟩:=q2';refine (Try.slices_SortFunc_none (α:=Nat) p cap _ w).mono ?_
  rintro ed w' ⟨rfl,rfl⟩
  have es:sortF []=[]:=by simp[sortF]
  refine⟨_,M,O,rfl,BelowD.refl _ _,Sub.refl M,hC,fun _ _ _ _=>rfl,fun i c g hh=>?_,fun i i' c c' g hh hh'=>?_,fun c _ _=>Gh.Eq1.refl O c,⟨.tup (vs:=[]) rfl (fun j c v hc=>by simp at hc),trivial⟩,fun id x hx=>?_⟩
  ·obtain⟨rfl,h2⟩:=hO i c g hh;exact⟨h2,.inr ⟨c,hh⟩⟩
  ·obtain⟨rfl,_⟩:=hO i c g hh;obtain⟨rfl,_⟩:=hO i' c' g hh';exact⟨rfl,hOi c c' g hh hh'⟩
  ·simp only[look]at hx
   split at hx
   ·rename_i hb;cases hx;obtain rfl:=(Nat.eq_of_beq_eq_true hb).symm;rw[es];exact⟨k0,k1,k2,k3⟩
   ·cases hx
 have hpos:0<l.length:=List.length_pos_iff.2 hne
 rcases q2 with ⟨h0,_⟩ | ⟨g,cap,rfl,p1,p2,p3,p4⟩
 ·omega
 rcases k3 with ⟨h0,_⟩ | ⟨g',cur,r1,r2,r3,r4,r5,r6⟩
 ·exact absurd (List.map_eq_nil_iff.1 h0) hne
 have hgg:g'=g:=by rw[p1]at r1;exact (Option.some.inj r1).symm
 subst hgg
 have r4':l.length * 2≤cur.size:=by simpa using r4
 have hb:=r2.plain (by omega);have hgs:g'<w.heap.size:=(hO _ _ _ p1).2;obtain⟨n,hn⟩:∃ n,n=l.length:=⟨_,rfl⟩
 haveI:Inhabited (Fin n):=⟨⟨0,by omega⟩⟩
 let enc:Fin n→List Value:=fun i=>[.int .i64 (l[i.1]'(by omega)).qb,cur[i.1 * 2+1]'(by omega)]
 let cf:Fin n→Fin n→Int:=fun i j=>cfF (l[i.1]'(by omega)) (l[j.1]'(by omega))
 have hrel:∀ i (hi:i<l.length),cur[i * 2]? = some (.int .i64 l[i].qb):=fun i hi=>by
  have h1:=r6 (i * 2) (.int .i64 l[i].qb) (cur[i * 2]'(by omega)) (by
   rw[flat2 l (by omega)]
   have e1:i * 2 / 2=i:=by omega
   have e2:i * 2 % 2=0:=by omega
   simp only[e1,e2]
   rfl) (by rw[Array.getElem?_eq_getElem])
  rw[Array.getElem?_eq_getElem (by omega),h1.int_inv]
 have harg:∀ i (hi:i<l.length),R M (l3 none l[i].qa) (cur[i * 2+1]'(by omega)):=fun i hi=>by
  refine r6 (i * 2+1) (l3 none l[i].qa) (cur[i * 2+1]'(by omega)) ?_ (by rw[Array.getElem?_eq_getElem]);rw[flat2 l (by omega)]
  have e1:(i * 2+1) / 2=i:=by omega
  have e2:(i * 2+1) % 2=1:=by omega
  simp only[e1,e2];rfl
 have hone:∀ (x:Fin n) v,v∈enc x→v.oneCell'=true:=fun x v hv=>by
  rcases List.mem_cons.1 hv with rfl | hv
  ·rfl
  ·obtain rfl:=List.mem_singleton.1 hv;obtain⟨a,c,e⟩:=ZR (harg x.1 (by omega));rw[e];rfl
 obtain⟨d,hd⟩:∃ d:Array (Fin n),d=(List.finRange n).toArray:=⟨_,rfl⟩
 have hds:d.size=l.length:=by rw[hd];simp[hn]
 have hdat:∀ i (hi:i<n),d[i]! = ⟨i,hi⟩:=fun i hi=>by
  rw[hd]
  simp[hi]
 have hflat:∀ (s:Array (Fin n)) (j:Nat),j<s.size * 2→(flatK enc 2 s)[j]! = (enc s[j / 2]!)[j % 2]!:=fun s j hj=>get_flatK _ _ _ j hj
 have hHd:HoldsK enc 2 w g' 0 d:=by
  intro j hj
  have hj':j<l.length * 2:=by simpa[hds] using hj
  constructor
  ·simp only[World.cell?,hb,Nat.zero_add,Option.isSome_none,Bool.false_eq_true,if_false];have e0:=hflat d j (by omega);rw[hdat _ (by omega)]at e0;show cur[j]? = some (flatK enc 2 d)[j]!;rw[e0]
   rcases Nat.mod_two_eq_zero_or_one j with h0 | h0
   ·have:=hrel (j / 2) (by omega);rw[show j / 2 * 2=j by omega]at this;rw[this,h0];rfl
   ·rw[h0]
    have e1:j / 2 * 2+1=j:=by omega
    show cur[j]? = some (cur[j / 2 * 2+1]'(by omega));simp only[e1];rw[Array.getElem?_eq_getElem (by omega)]
  ·simp[World.frozen?,hb]
 have eg:∀ args w,(callFunc 110 args).run Try.prog w=.ok (.enter 110 args) w:=enters_of Try.func110 (by kernel_rfl) rfl
 have hbk0:∀ (m:Nat) (os:Array Obj) (dk:Array (Fin n)),∀ q,q<w.heap.size→q≠g'→(sortWorldK enc 2 w g' 0 m dk os).heap[q]? = w.heap[q]?:=by
  intro m os dk q hq hne2;show (grow (Go.Sort.putRow id (Sort.ahead w m) g' 0 (flatK enc 2 dk)) os).heap[q]? = _;rw[heap_grow_old _ _ (by simpa using hq)]
  have:g'≠q:=fun e=>hne2 e.symm
  simp[Go.Sort.putRow,mapBlock,Sort.ahead,Array.getElem?_modify,this]
 have hCk:∀ (m:Nat) (os:Array Obj) (dk:Array (Fin n)),Cons M (sortWorldK enc 2 w g' 0 m dk os):=fun m os dk b o u hu=>by
  have h1:=hC b o u hu
  have hne2:b≠g':=fun e1=>by rw[e1,r5]at hu;cases hu
  rw[Qp (hbk0 m os dk b (ZL h1) hne2)];exact h1
 have hcmp:CmpLays Try.prog 110 #[] enc 2 cf g' 0 d.size w:=by
  intro m os dk hs x y;exact Try.cmp110 _ _ _ _ _ _ M _ (hCk m os dk) (harg x.1 (by omega)) (harg y.1 (by omega)) (hla _ (List.getElem_mem _))
 have hswo:SWO (ltOf cf):=⟨fun x=>swoF.irrefl _,fun x y z h1 h2=>swoF.trans _ _ _ h1 h2,fun x y z h1 h2=>swoF.ntrans _ _ _ h1 h2⟩
 have htot:∀ x y:Fin n,ltOf cf x y=false→ltOf cf y x=false→x=y:=fun x y h1 h2=>by
  have:=totF _ _ h1 h2;exact Fin.ext ((List.getElem_inj hnd).1 this)
 have hcon:=Try.slices_SortFunc_total (α:=Fin n) 2 aE zE enc (fun _=>rfl) hone cf hswo 110 #[] g' 0 cap d w eg hcmp hHd hgs (by rw[hds];exact hl) htot;rw[hds]at hcon;refine hcon.mono ?_
 rintro ed w' ⟨rfl,m,os,hw⟩
 obtain⟨s,hs⟩:∃ s,s=(d.toList.mergeSort fun x y=>!(ltOf cf) y x):=⟨_,rfl⟩;rw[← hs]at hw
 have hsl:s.length=l.length:=by rw[hs,List.length_mergeSort,Array.length_toList,hds]
 have hsort:sortF l=s.map fun i=>l[i.1]'(by omega):=by
  refine qfv l hn.symm s ?_;rw[hs,hd]
 have hw2:w'=grow (Go.Sort.putRow id (Sort.ahead w m) g' 0 (flatK enc 2 s.toArray)) os:=hw
 have hb':w'.heap[g']? = some (.cells (putCells id 0 (flatK enc 2 s.toArray) cur) 41 (0,0)):=by
  subst hw2;rw[heap_grow_old _ _ (by simpa using hgs)]
  simp[Go.Sort.putRow,mapBlock,Sort.ahead,Array.getElem?_modify,hb,onCells]
 have hbk:∀ q,q<w.heap.size→q≠g'→w'.heap[q]? = w.heap[q]?:=fun q hq hne2=>by rw[hw];exact hbk0 m os _ q hq hne2
 have hszw:w.heap.size≤w'.heap.size:=by subst hw2;simp[grow]
 have hps:(putCells id 0 (flatK enc 2 s.toArray) cur).size=cur.size:=by simp[putCells]
 refine⟨_,M,O,rfl,⟨by subst hw2;rfl,by subst hw2;rfl,by subst hw2;rfl,hszw,fun q hq=>hbk q hq.1 fun e1=>hq.2 2000000 (by rw[e1];exact p1)⟩,Sub.refl M,?_,fun _ _ _ _=>rfl,fun i c g hh=>?_,fun i i' c c' g hh hh'=>?_,fun c _ _=>Gh.Eq1.refl O c,⟨.tup (vs:=[]) rfl (fun j c v hc=>by simp at hc),trivial⟩,fun id x hx=>?_⟩
 ·rw[hw];exact hCk m os _
 ·obtain⟨rfl,h2⟩:=hO i c g hh;exact⟨Nat.lt_of_lt_of_le h2 hszw,.inr ⟨c,hh⟩⟩
 ·obtain⟨rfl,_⟩:=hO i c g hh;obtain⟨rfl,_⟩:=hO i' c' g hh';exact⟨rfl,hOi c c' g hh hh'⟩
 ·simp only[look]at hx
  split at hx
  ·rename_i hbq;cases hx;obtain rfl:=(Nat.eq_of_beq_eq_true hbq).symm;refine⟨k0,fun y hy=>?_,by simpa[QK] using k2,.inr ⟨g',_,p1,RowAt.of hb',by rw[hps];exact r3,by rw[hps];simpa[QK] using r4,r5,fun j c u hc hu=>?_⟩⟩
   ·obtain⟨z,_,rfl⟩:=List.mem_map.1 hy;exact⟨rfl,rfl⟩
   ·have hjl:j<(sortF l).length * 2:=by
     have h1:=(List.getElem?_eq_some_iff.1 hc).1;rw[qW (cells2 _)]at h1
     simpa using h1
    rw[flat2 _ hjl]at hc;rw[QK]at hjl
    have hjc:j<cur.size:=by omega
    have hput:(putCells id 0 (flatK enc 2 s.toArray) cur)[j]? = some ((flatK enc 2 s.toArray)[j]!):=by
     have hz:(flatK enc 2 s.toArray).size=l.length * 2:=by simp[hsl]
     simp only[putCells,Array.getElem?_mapIdx,Array.getElem?_eq_getElem hjc,Option.map_some,hz];rw[if_pos (by omega)]
     simp
    rw[hput,hflat _ _ (by simpa[hsl] using hjl)]at hu
    have hsj:j / 2<s.length:=by omega
    have e1:s.toArray[j / 2]! = s[j / 2]:=by simp[hsj]
    have e2:(sortF l)[j / 2]'(by rw[QK];omega)=l[(s[j / 2]).1]'(by omega):=by
     simp only[hsort,List.getElem_map]
    rw[e1]at hu;rw[e2]at hc;have hu:=Option.some.inj hu;subst hu
    rcases Nat.mod_two_eq_zero_or_one j with h0 | h0
    ·rw[h0]at hc ⊢;cases hc;exact .int _ _
    ·rw[h0]at hc ⊢;cases hc;exact harg _ (by omega)
  ·cases hx
end Go.AM
namespace Go.AM
open Go.RowKit Go.Sort Go.Proofs Go.Lib
def apiF (f:rufact):apiFact:=if f.f_b=0 then ⟨f.ql,[f.f_a]⟩ else ⟨f.ql,[f.f_a,f.f_b]⟩
theorem qen (f:rufact):YL f=some (apiF f):=by
 obtain⟨a,b,c⟩:=f;unfold YL apiF
 by_cases h:c=0
 ·subst h;rfl
 ·have:(c == 0)=false:=by simp[h]
  simp[this,h]
theorem Do {f g:rufact} (h:apiF f=apiF g):f=g:=by
 obtain⟨a,b,c⟩:=f;obtain⟨d,e,i⟩:=g;unfold apiF at h
 by_cases h1:c=0 <;> by_cases h2:i=0 <;> simp_all
abbrev fK (l:List (rufact×Bool)):List AV:=l.map fun p=>qh p.1
abbrev fV (l:List (rufact×Bool)):List AV:=l.map fun p=>AV.bool p.2
abbrev aL (l:List apiFact):List AV:=l.map qg
abbrev apis (l:List (rufact×Bool)):List apiFact:=l.map fun p=>apiF p.1
theorem Un {α β:Type} (f:α→β):∀ (l:List α) (j:Nat),(l.map f).eraseIdx j=(l.eraseIdx j).map f
 | [],j=>by simp
 | a::l,0=>by simp
 | a::l,j+1=>by simp[Un f l j]
theorem HD (rem:List (rufact×Bool)) {j:Nat} (h:j<rem.length):nextEnt (fK rem) (fV rem) j=.hob 2 (qh rem[j].1::fK (rem.eraseIdx j)) (AV.bool rem[j].2::fV (rem.eraseIdx j)):=by
 unfold nextEnt fK fV;rw[Un,Un]
 have e1:(rem.map fun p=>qh p.1).getD j .und=qh rem[j].1:=by
  rw[List.getD_eq_getElem?_getD,List.getElem?_map,List.getElem?_eq_getElem h];rfl
 have e2:(rem.map fun p=>AV.bool p.2).getD j .und=AV.bool rem[j].2:=by
  rw[List.getD_eq_getElem?_getD,List.getElem?_map,List.getElem?_eq_getElem h];rfl
 rw[e1,e2]
theorem Vp {α:Type}:∀ (l:List α) (j:Nat) (h:j<l.length),l.Perm (l[j]::l.eraseIdx j)
 | [],j,h=>by simp at h
 | a::l,0,h=>by simp
 | a::l,j+1,h=>by
  have ih:=Vp l j (by simpa using h);simp only[List.getElem_cons_succ,List.eraseIdx_cons_succ];exact (ih.cons a).trans (List.Perm.swap _ _ _)
theorem Ua {l m:List apiFact} (h:l.Perm m):sortF l=sortF m:=by
 have h1:∀ l:List apiFact,(sortF l).Pairwise fun a b=>(!ltOf cfF b a)=true:=fun l=>List.pairwise_mergeSort (le:=fun a b=>!ltOf cfF b a) (by
  intro a b c h1 h2;simp only[Bool.not_eq_true']at *
  exact swoF.ntrans _ _ _ h2 h1) (by
  intro a b;simp only[Bool.or_eq_true,Bool.not_eq_true']
  cases hh:ltOf cfF b a with
  | false=>exact .inl rfl
  | true =>
   right
   rw[ltF]at hh;rw[ltFf];have:=VI a b
   omega) l
 refine List.Perm.eq_of_pairwise (le:=fun a b=>(!ltOf cfF b a)=true) (fun a b _ _ x y=>?_) (h1 l) (h1 m) ?_
 ·simp only[Bool.not_eq_true']at x y;exact totF a b y x
 ·exact ((List.mergeSort_perm l _).trans h).trans (List.mergeSort_perm m _).symm
def nodupF:List rufact→Bool
 | []=>true
 | f::r=>!(r.any (qp f)) && nodupF r
theorem Vj:∀ {l:List rufact},nodupF l=true→l.Nodup
 | [],_=>by simp
 | f::r,h=>by
  simp only[nodupF,Bool.and_eq_true,Bool.not_eq_true',List.any_eq_false]at h;rw[List.nodup_cons];exact⟨fun hm=>h.1 f hm (Vl.2 rfl),Vj h.2⟩
theorem DZ:∀ {l:List rufact},l.Nodup→nodupF l=true
 | [],_=>rfl
 | f::r,h=>by
  rw[List.nodup_cons]at h;simp only[nodupF,Bool.and_eq_true,Bool.not_eq_true',List.any_eq_false];exact⟨fun g hg hk=>h.1 (by rw[Vl.1 hk];exact hg),DZ h.2⟩
def ListI (l:List (rufact×Bool)) (k:Nat) (e:Env):Prop:=∃ (acc:List apiFact) (rem:List (rufact×Bool)) (y:AV),rem.length=k∧leftE y=some (fK rem,fV rem)∧(acc++apis rem).Perm (apis l) ∧
 Goes 19 e [(3,.sb 1500003 41 2 0 acc.length),(6,.mb 1 1000006),(1000006,y),(1500003,.obj 41 2 (aL acc))]
theorem list58 {l:List (rufact×Bool)} (hl:l.length≤1000) (hnd:(l.map Prod.fst).Nodup):CallOk Try.prog 58 [mpE qh AV.bool l] (.lst 41 2 none (aL (sortF (apis l)))):=by
 have hnd2:(apis l).Nodup:=by
  have e:apis l=(l.map Prod.fst).map apiF:=by simp[apis,List.map_map,Function.comp_def]
  rw[e];exact List.Pairwise.map apiF (fun a b h e=>h (Do e)) hnd
 refine qcs Try.func58 rfl (by kernel_rfl) (fun e k q xs hh=>by cases hh) ?_;refine CodeP.seq (CodeP.reg mixedP (e2:=[(0,mpE qh AV.bool l),(2,.nils)]) ?_);refine CodeP.wk (env':=[(0,mpE qh AV.bool l)]) ?_;refine CodeP.seq (CodeP.reg mixedP (e2:=[(0,mpE qh AV.bool l),(3,.nils)]) ?_);refine CodeP.mv [.nil 3 41 2 1500003] (env':=[(0,mpE qh AV.bool l),(3,.sb 1500003 41 2 0 0),(1500003,.obj 41 2 [])]) ?_;refine CodeP.seq (CodeP.seq (CodeP.reg mixedP (e2:=[(0,mpE qh AV.bool l),(3,.sb 1500003 41 2 0 0),(5,mpE qh AV.bool l),(6,.mb 1 1000006),(1000006,.hob 1 (fK l) (fV l)),(1500003,.obj 41 2 [])]) ?_));refine CodeP.wk (env':=[(3,.sb 1500003 41 2 0 0),(6,.mb 1 1000006),(1000006,.hob 1 (fK l) (fV l)),(1500003,.obj 41 2 [])]) ?_;refine CodeP.block (CodeP.loop (I:=ListI l) ?_ l.length ⟨[],l,.hob 1 (fK l) (fV l),rfl,rfl,List.Perm.refl _,Goes.refl _⟩)
 rintro k e ⟨acc,rem,y,hk,hy,hp,hg⟩
 have hlen:acc.length+rem.length≤1000:=by
  have:=hp.length_eq;simp only[List.length_append,List.length_map]at this;omega
 refine CodeP.goes hg ?_;refine CodeP.seq ?_;refine CodeP.next mixedP rfl rfl (by kernel_rfl) (it:=1000006) (y:=y) (ks:=fK rem) (vs:=fV rem) rfl rfl hy (envF:=[(3,.sb 1500003 41 2 0 acc.length),(6,.mb 1 1000006),(7,.tup [.bool false]),(1000006,y),(1500003,.obj 41 2 (aL acc))]) (by kernel_rfl)
  (envT:=fun j=>[(3,.sb 1500003 41 2 0 acc.length),(6,.mb 1 1000006),(7,.tup [.bool true,.top,.top]),(1000006,nextEnt (fK rem) (fV rem) j),(1500003,.obj 41 2 (aL acc))]) (fun j _=>by kernel_rfl) (fun h0 _=>?_) (fun j hj _=>?_)
 ·
  refine WO.end0 (e2:=[(3,.sb 1500003 41 2 0 acc.length),(6,.mb 1 1000006),(7,.tup [.bool false]),(8,.bool false),(1000006,y),(1500003,.obj 41 2 (aL acc))]) (by kernel_rfl) ?_
  have hr0:rem=[]:=by simpa[fK] using h0
  subst hr0
  have hpa:acc.Perm (apis l):=by simpa using hp
  have hnda:acc.Nodup:=hpa.nodup_iff.2 hnd2
  have hca:∀ f,f∈acc→f.qa.length≤1000000:=fun f hf=>by
   obtain⟨p,_,rfl⟩:=List.mem_map.1 (hpa.mem_iff.1 hf);unfold apiF
   split <;> simp
  refine CodeP.seq (CodeP.cond false (by kernel_rfl) (fun h=>Bool.noConfusion h) (fun _=>CodeP.of mixedP (W.exit ?_)));refine CodeP.wk (env':=[(3,.sb 1500003 41 2 0 acc.length),(1500003,.obj 41 2 (aL acc))]) ?_;refine CodeP.of mixedP ?_;refine W.seq ?_;refine W.region (by kernel_rfl) ?_;have hsort:Run Try.prog (.callM 109 [.sb 2000000 41 2 0 acc.length,.clo 110 []] [(2000000,.obj 41 2 (aL acc))] (.tup []) [(2000000,.obj 41 2 (aL (sortF acc)))]):=.extM (sort109 (by have:=hlen;simp at this;omega) hnda hca) (fun id x hx=>by simp only[look]at hx;split at hx <;> cases hx;rfl);refine WO.callMK 1 [(1500003,2000000)] [] (F:=109) (args:=[.sb 2000000 41 2 0 acc.length,.clo 110 []]) (hp:=[(2000000,.obj 41 2 (aL acc))]) (hp2:=[(2000000,.obj 41 2 (aL (sortF acc)))]) (r:=.tup []) (by kernel_rfl) hsort (e1:=[(3,.sb 1500003 41 2 0 acc.length),(16,.sb 1500003 41 2 0 acc.length),(17,.tup []),(1500003,.obj 41 2 (aL (sortF acc)))]) (by kernel_rfl) ?_;refine WO.fin [3,1500003] [] [] [] (e2:=[(3,.sb 1500003 41 2 0 acc.length),(1500003,.obj 41 2 (aL (sortF acc)))]) (by kernel_rfl) (fun _ h=>h) ?_;refine W.seq ?_;refine W.regT [2,1500003] [] [] [] (e2:=[(2,.sb 1500003 41 2 0 acc.length),(1500003,.obj 41 2 (aL (sortF acc)))]) (by kernel_rfl) (by kernel_rfl) (fun _ h=>h) ?_;have hsl:(sortF acc).length=acc.length:=QK acc
  have hsn:snapA 0 acc.length (aL (sortF acc))=aL (sortF (apis l)):=by
   rw[Ua hpa]at hsl ⊢;unfold snapA aL;rw[List.drop_zero,List.take_of_length_le (by rw[List.length_map,hsl];exact Nat.le_refl _)]
  refine W.mv [.frz 1500003] (env':=[(2,.lst 41 2 none (aL (sortF (apis l))))]) ((by kernel_rfl:mvAll [(2,.sb 1500003 41 2 0 acc.length),(1500003,.obj 41 2 (aL (sortF acc)))] [.frz 1500003]=[(2,.lst 41 2 none (snapA 0 acc.length (aL (sortF acc))))]).trans (by rw[hsn])) ?_
  have hr:qq Try.prog Try.f58 [(2,.lst 41 2 none (aL (sortF (apis l))))]=some (.lst 41 2 none (aL (sortF (apis l)))):=by kernel_rfl
  exact W.ret hr
 ·
  have hj:j<rem.length:=by simpa[fK] using hj
  show WO Try.prog _ false _ _ _ [(3,.sb 1500003 41 2 0 acc.length),(6,.mb 1 1000006),(7,.tup [.bool true,.top,.top]),(1000006,nextEnt (fK rem) (fV rem) j),(1500003,.obj 41 2 (aL acc))];rw[HD rem hj]
  have hpt:(acc++[apiF rem[j].1]++apis (rem.eraseIdx j)).Perm (apis l):=by
   refine List.Perm.trans ?_ hp;rw[List.append_assoc];refine List.Perm.append_left _ ?_;exact ((Vp rem j hj).map fun p=>apiF p.1).symm
  have hel:(rem.eraseIdx j).length=rem.length - 1:=by rw[List.length_eraseIdx,if_pos hj]
  generalize hp1:rem[j].1=pk at hpt ⊢;generalize hp2:rem[j].2=pv at hpt ⊢;generalize rem.eraseIdx j=rem2 at hpt hel ⊢;refine WO.end0 (e2:=[(3,.sb 1500003 41 2 0 acc.length),(6,.mb 1 1000006),(7,.tup [.bool true,.top,.top]),(8,.bool true),(1000006,.hob 2 (qh pk::fK rem2) (.bool pv::fV rem2)),(1500003,.obj 41 2 (aL acc))]) (by kernel_rfl) ?_;refine CodeP.seq (CodeP.cond true (by kernel_rfl) (fun _=>CodeP.of mixedP (W.skip ?_)) (fun h=>Bool.noConfusion h));refine CodeP.wk (env':=[(3,.sb 1500003 41 2 0 acc.length),(6,.mb 1 1000006),(1000006,.hob 2 (qh pk::fK rem2) (.bool pv::fV rem2)),(1500003,.obj 41 2 (aL acc))]) ?_;refine CodeP.block (CodeP.seq (CodeP.reg mixedP (e2:=[(3,.sb 1500003 41 2 0 acc.length),(4,.box [.int .i64 pk.ql,.int .i64 pk.f_a,.int .i64 pk.f_b]),(6,.mb 1 1000006),(9,.tup [qh pk,.bool pv]),(10,qh pk),(1000006,.hob 2 (qh pk::fK rem2) (.bool pv::fV rem2)),(1500003,.obj 41 2 (aL acc))]) ?_));refine CodeP.wk (env':=[(3,.sb 1500003 41 2 0 acc.length),(4,.box [.int .i64 pk.ql,.int .i64 pk.f_a,.int .i64 pk.f_b]),(6,.mb 1 1000006),(1000006,.hob 2 (qh pk::fK rem2) (.bool pv::fV rem2)),(1500003,.obj 41 2 (aL acc))]) ?_;refine CodeP.of mixedP (W.region (by kernel_rfl) ?_);refine WO.callK 2 (F:=108) (l:=[qh pk]) (C:=[]) (r:=qg (apiF pk)) (by kernel_rfl) (by kernel_rfl) (ZN pk _ (qen pk)) (e1:=[(3,.sb 1500003 41 2 0 acc.length),(4,.box [.int .i64 pk.ql,.int .i64 pk.f_a,.int .i64 pk.f_b]),(6,.mb 1 1000006),(11,.sb 1500003 41 2 0 acc.length),(12,qh pk),(13,qg (apiF pk)),(1000006,.hob 2 (qh pk::fK rem2) (.bool pv::fV rem2)),(1500003,.obj 41 2 (aL acc))]) (by kernel_rfl) ?_;refine WO.appendOK 1 (d:=15) (e:=41) (s:=2) (bytes:=32) (m:=acc.length) (n2:=(acc++[apiF pk]).length) (xs:=aL acc) (ys:=aL [apiF pk]) (zs:=aL (acc++[apiF pk])) (env1:=[(3,.top),(4,.box [.int .i64 pk.ql,.int .i64 pk.f_a,.int .i64 pk.f_b]),(6,.mb 1 1000006),(11,.top),(12,qh pk),(13,qg (apiF pk)),(14,.lst 41 2 (some 14) (aL [apiF pk])),(1000006,.hob 2 (qh pk::fK rem2) (.bool pv::fV rem2))]) (by kernel_rfl) ?_ ?_ (List.length_map _) (e1:=[(3,.top),(4,.box [.int .i64 pk.ql,.int .i64 pk.f_a,.int .i64 pk.f_b]),(6,.mb 1 1000006),(11,.top),(12,qh pk),(13,qg (apiF pk)),(14,.lst 41 2 (some 14) (aL [apiF pk])),(15,.sb 1000015 41 2 0 (acc++[apiF pk]).length),(1000006,.hob 2 (qh pk::fK rem2) (.bool pv::fV rem2)),(1000015,.obj 41 2 (aL (acc++[apiF pk])))]) (by kernel_rfl) ?_
  ·have:(aL [apiF pk]).length=1:=rfl;rw[this];simp only[capOk,Bool.and_eq_true,Nat.ble_eq];omega
  ·unfold snapA aL;rw[List.drop_zero,List.map_append,List.take_of_length_le (by rw[List.length_map];exact Nat.le_refl _)]
  ·refine WO.end0 (e2:=[(3,.sb 1000015 41 2 0 (acc++[apiF pk]).length),(4,.box [.int .i64 pk.ql,.int .i64 pk.f_a,.int .i64 pk.f_b]),(6,.mb 1 1000006),(11,.top),(12,qh pk),(13,qg (apiF pk)),(14,.lst 41 2 (some 14) (aL [apiF pk])),(15,.sb 1000015 41 2 0 (acc++[apiF pk]).length),(1000006,.hob 2 (qh pk::fK rem2) (.bool pv::fV rem2)),(1000015,.obj 41 2 (aL (acc++[apiF pk])))]) (by kernel_rfl) ?_;exact⟨rem.length - 1,by omega,acc++[apiF pk],rem2,.hob 2 (qh pk::fK rem2) (.bool pv::fV rem2),hel,rfl,hpt,Goes.wk (e1:=[(3,.sb 1000015 41 2 0 (acc++[apiF pk]).length),(6,.mb 1 1000006),(1000006,.hob 2 (qh pk::fK rem2) (.bool pv::fV rem2)),(1000015,.obj 41 2 (aL (acc++[apiF pk])))]) (Goes.mv [.ren 1000015 1500003] (Goes.refl _))⟩
end Go.AM
namespace Go.AM
open Go.Proofs
end Go.AM
