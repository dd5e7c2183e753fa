import Derived.Test.YtdghpfejmlpjhaaRSort
set_option linter.all false
set_option maxRecDepth 1000000
open List renaming mem_cons_self→A0, mem_cons_of_mem→A2, replicate→A3, getD_eq_getElem?_getD→A4, mem_cons→A6, take_of_length_le→A7, length_cons→A8, length_map→A9, getElem?_eq_getElem→B1, map_cons→C0, map_map→D4, length_append→D5, append_assoc→D6, range→D7, map_congr_left→D8, ext_getElem→D9, drop_zero→E9, nil_append→F7, getElem?_replicate→F8, mem_append_left→F9, flatMap_def→G0, mem_of_mem_take→G1, finRange→G3, getElem_mem→G5, take_succ_cons→G6, length_mergeSort→G8, getElem?_set_self→H7, getElem?_set_ne→H8, getElem?_eq_none→H9
open Option renaming bind_some→A1
open Int renaming toNat→A5, le_refl→G2, tmod_eq_emod_of_nonneg→I1, tdiv_eq_ediv_of_nonneg→I3
open Bool renaming not_true→C7, not_false→D0, not_eq_true'→E0, or_eq_true→E7, and_eq_true→E8, false_eq_true→G4
open Go.IntKind renaming wrap→D1
open Nat renaming zero_add→D2, or_lt_two_pow→F6, testBit_or→G7, eq_of_beq_eq_true→G9, mod_two_eq_zero_or_one→H0, testBit_lt_two_pow→H5
open Array renaming getElem?_eq_getElem→D3, getElem?_modify→H4
namespace Go.AM
open Go.RowKit Go.Sort Go.Proofs Go.Lib
variable {j:Nat} {l:LG}
def cfF (x y:apiFact):Int:=orI2 (cmpI x.qc y.qc) (cmpL x.qa y.qa)
def sortF (l:LG):LG:=l.mergeSort fun x y=>!ltOf cfF y x
theorem UN (l:LG):(sortF l).length=l.length:=by unfold sortF;exact G8 l
theorem qgG (x y:Int):cmpI y x = - cmpI x y:=by
 unfold cmpI;by_cases h1:x<y
 .have:¬ y<x:=by omega
  simp[h1,this]
 by_cases h2:y<x <;> simp[h1,h2]
theorem Zn (x y:Int):cmpI x y=0↔x=y:=by
 unfold cmpI;by_cases h1:x<y
 .simp[h1];omega
 by_cases h2:y<x
 .simp[h1,h2];omega
 simp[h1,h2];omega
theorem UD (x y:Int):cmpI x y<0↔x<y:=by
 unfold cmpI;by_cases h1:x<y
 .simp[h1]
 by_cases h2:y<x <;> simp[h1,h2]
theorem qgF:∀ a b:LA,cmpL b a = - cmpL a b
 | [],[]=>rfl
 | [],_::_=>rfl
 | _::_,[]=>rfl
 | x::a,y::b=>by
  simp only[cmpL];rw[qgF a b,qgG x y];by_cases h:cmpI x y=0 <;> simp[h]
theorem qeB:∀ a b:LA,cmpL a b=0↔a=b
 | [],[]=>by simp[cmpL]
 | [],_::_=>by simp[cmpL]
 | _::_,[]=>by simp[cmpL]
 | x::a,y::b=>by
  simp only[cmpL];by_cases h:cmpI x y=0
  .rw[if_neg (by simpa using h),qeB a b,(Zn x y).1 h];simp
  rw[if_pos h]
  have:x≠y:=fun e=>h ((Zn x y).2 e)
  simp[h,this]
theorem qcW:∀ a b c:LA,cmpL a b<0->cmpL b c<0->cmpL a c<0
 | [],_,[],h1,h2=>by
  rename_i b
  cases b with
  | nil=>simp[cmpL]at h1
  | cons y b=>simp[cmpL]at h2
 | [],_,_::_,_,_=>by simp[cmpL]
 | x::a,[],_,h1,_=>by simp[cmpL]at h1
 | x::a,y::b,[],_,h2=>by simp[cmpL]at h2
 | x::a,y::b,z::c,h1,h2=>by
  simp only[cmpL]at h1 h2 ⊢;by_cases k1:cmpI x y=0
  .have e1:=(Zn x y).1 k1;subst e1;rw[if_neg (by simpa using k1)]at h1;by_cases k2:cmpI x z=0
   .rw[if_neg (by simpa using k2)]at h2 ⊢;exact qcW a b c h1 h2
   rw[if_pos k2]at h2 ⊢;exact h2
  rw[if_pos k1,UD]at h1;by_cases k2:cmpI y z=0
  .have e2:=(Zn y z).1 k2;subst e2;rw[if_pos k1,UD];exact h1
  rw[if_pos k2,UD]at h2;have h3:cmpI x z<0:=(UD x z).2 oM;rw[if_pos (by omega)];exact h3
theorem qaA (x y:apiFact):cfF y x = - cfF x y:=by
 unfold cfF orI2;rw[qgG x.qc y.qc,qgF x.qa y.qa];by_cases h:cmpI x.qc y.qc=0 <;> simp[h]
theorem qaz (x y:apiFact):cfF x y=0↔x=y:=by
 unfold cfF orI2;obtain⟨a,b⟩:=x;obtain⟨c,d⟩:=y;by_cases h:cmpI a c=0
 .simp only[h,ne_eq,not_true_eq_false,if_false,qeB];rw[(Zn a c).1 h];simp
 have:a≠c:=fun e=>h ((Zn a c).2 e)
 simp[h,this]
theorem qeD (x y z:apiFact) (h1:cfF x y<0) (h2:cfF y z<0):cfF x z<0:=by
 obtain⟨a,b⟩:=x;obtain⟨c,d⟩:=y;obtain⟨e,f⟩:=z;unfold cfF orI2 at *;simp only at *;by_cases k1:cmpI a c=0
 .have e1:=(Zn a c).1 k1;subst e1;rw[if_neg (by simpa using k1)]at h1;by_cases k2:cmpI a e=0
  .rw[if_neg (by simpa using k2)]at h2 ⊢;exact qcW _ _ _ h1 h2
  rw[if_pos k2]at h2 ⊢;exact h2
 rw[if_pos k1,UD]at h1;by_cases k2:cmpI c e=0
 .have e2:=(Zn c e).1 k2;subst e2;rw[if_pos k1,UD];exact h1
 rw[if_pos k2,UD]at h2;have h3:cmpI a e<0:=(UD a e).2 oM;rw[if_pos (by omega)];exact h3
theorem ltF (a b:apiFact):ltOf cfF a b=true↔cfF a b<0:=by
 have e:ltOf cfF a b=decide (cfF a b<0):=rfl;rw[e,decide_eq_true_eq]
theorem ltFf (a b:apiFact):ltOf cfF a b=false↔¬ cfF a b<0:=by
 rw[<- ltF,Bool.not_eq_true]
theorem swoF:SWO (ltOf cfF) where
 irrefl x:=by rw[ltFf,(qaz x x).2 rfl];omega
 trans x y z h1 h2:=by rw[ltF]at *;exact qeD x y z h1 h2
 ntrans x y z h1 h2:=by
  rw[ltFf]at *;intro h3;have n1:=qaA x y;have n2:=qaA y z;by_cases k1:cfF x y=0
  .rw[(qaz x y).1 k1]at h3;exact h2 h3
  by_cases k2:cfF y z=0
  .rw[<- (qaz y z).1 k2]at h3;exact h1 h3
  have h4:=qeD z y x oM oM;have n3:=qaA x z;omega
theorem totF (x y:apiFact) (h1:ltOf cfF x y=false) (h2:ltOf cfF y x=false):x=y:=by
 rw[ltFf]at h1 h2;have:=qaA x y;exact (qaz x y).1 oM
theorem cells2 (l:LG):∀ x,x∈l.map qP->x.cells.length=2:=by
 intro x hx;obtain⟨y,_,rfl⟩:=List.mem_map.1 hx;rfl
theorem flat2 (l:LG) (hj:j<l.length * 2):(flat (l.map qP))[j]? = (qP (l[j / 2]'(by omega))).cells[j % 2]?:=by
 have hd:j / 2<l.length:=by omega
 have h2:=YP (k:=2) (xs:=l.map qP) (i:=j / 2) (x:=qP l[j / 2]) (cells2 l) (by simp[hd]) (j % 2) oM;rw[show j / 2 * 2+j % 2=j by omega]at h2;exact h2
theorem qjU {n:Nat} (l:LG) (hn:l.length=n) (s:List (Fin n)) (hs:s=(G3 n).mergeSort fun x y=>!ltOf (fun i j:Fin n=>cfF (l[i.1]'(by omega)) (l[j.1]'(by omega))) y x):sortF l=s.map fun i=>l[i.1]'(by omega):=by
 subst hn
 have e:l=(G3 l.length).map fun i=>l[i.1]:=by
  refine D9 (by simp) fun i h1 h2=>?_
  simp
 subst hs;unfold sortF
 conv=>lhs;rw[e]
 rw[List.map_mergeSort];intro a _ b _;rfl
theorem sort109 (hl:l.length<4611686018427387904) (hnd:l.Nodup) (hla:∀ f,f∈l->f.qa.length<=1000000) :
  CallMOk Try.prog 109 [.sb 2000000 41 2 0 l.length,.clo 110 []] [(2000000,.obj 41 2 (l.map qP))] (.tup []) [(2000000,.obj 41 2 ((sortF l).map qP))]:=by
 intro M O w vs hG hC hlen hO hOi hR hH
 obtain⟨v,fv,rfl⟩:∃ v fv,vs=[v,fv]:=by
  match vs,hlen with
  | [v,fv],_=>exact⟨v,fv,rfl⟩
 have hv:=hR 0 _ v rfl rfl;have hf:=(hR 1 _ fv rfl rfl).1;have ho:=hH 2000000 (.obj 41 2 (l.map qP)) rfl;obtain⟨q1,q2⟩:=hv;obtain⟨k0,k1,k2,k3⟩:=ho
 obtain rfl:fv=.func (.func 110) #[] #[]:=by
  generalize hx:AV.clo 110 []=x at hf
  have hx':x.strip=x:=by rw[<- hx];rfl
  rw[hx']at hf
  cases hf with
  | clo e1 e2 =>
   rename_i vs;cases hx
   match vs,e1 with
   | [],_=>rfl
  | _=>cases hx
 have aE:∀ w,(isAgg 41).run Try.prog w=.ok true w:=Try.isAgg41;have zE:∀ w,(Go.sizeOf 41).run Try.prog w=.ok 2 w:=Try.sizeOf41;by_cases hne:l=[]
 .subst hne
  have q2':∃ p cap,v=.slice p 0 cap:=by
   rcases q2 with ⟨_,ad,rfl⟩ | ⟨g,cap,rfl,_⟩
   .exact⟨_,_,rfl⟩
   exact⟨_,_,rfl⟩
  obtain⟨p,cap,rfl⟩:=q2';refine (Try.slices_SortFunc_none (α:=Nat) p cap _ w).mono ?_
  rintro ed w' ⟨rfl,rfl⟩
  have es:sortF []=[]:=by simp[sortF]
  refine⟨_,M,O,rfl,BelowD.refl _ _,Sub.refl M,hC,fun _ _ _ _=>rfl,fun i c g hh=>?_,fun i i' c c' g hh hh'=>?_,fun c _ _=>Gh.Eq1.refl O c,⟨.tup (vs:=[]) rfl (fun j c v hc=>by simp at hc),trivial⟩,fun id x hx=>?_⟩
  .obtain⟨rfl,h2⟩:=hO i c g hh;exact⟨h2,.inr ⟨c,hh⟩⟩
  .obtain⟨rfl,_⟩:=hO i c g hh;obtain⟨rfl,_⟩:=hO i' c' g hh';exact⟨rfl,hOi c c' g hh hh'⟩
  simp only[look]at hx;split at hx
  .rename_i hb;cases hx;obtain rfl:=(G9 hb).symm;rw[es];exact⟨k0,k1,k2,k3⟩
  cases hx
 have hpos:0<l.length:=List.length_pos_iff.2 hne
 rcases q2 with ⟨h0,_⟩ | ⟨g,cap,rfl,p1,p2,p3,p4⟩
 .omega
 rcases k3 with ⟨h0,_⟩ | ⟨g',cur,r1,r2,r3,r4,r5,r6⟩
 .exact absurd (List.map_eq_nil_iff.1 h0) hne
 have hgg:g'=g:=by rw[p1]at r1;exact (Option.some.inj r1).symm
 subst hgg
 have r4':l.length * 2<=cur.size:=by simpa using r4
 have hb:=r2.plain oM;have hgs:g'<w.heap.size:=(hO _ _ _ p1).2;obtain⟨n,hn⟩:∃ n,n=l.length:=⟨_,rfl⟩
 haveI:Inhabited (Fin n):=⟨⟨0,by omega⟩⟩
 let enc:Fin n->LT:=fun i=>[.int .i64 (l[i.1]'(by omega)).qc,cur[i.1 * 2+1]'(by omega)]
 let cf:Fin n->Fin n->Int:=fun i j=>cfF (l[i.1]'(by omega)) (l[j.1]'(by omega))
 have hrel:∀ i (hi:i<l.length),cur[i * 2]? = some (.int .i64 l[i].qc):=fun i hi=>by
  have h1:=r6 (i * 2) (.int .i64 l[i].qc) (cur[i * 2]'(by omega)) (by
   rw[flat2 l (by omega)]
   have e1:i * 2 / 2=i:=by omega
   have e2:i * 2 % 2=0:=by omega
   simp only[e1,e2]
   rfl) (by rw[D3])
  rw[D3 (by omega),h1.int_inv]
 have harg:∀ i (hi:i<l.length),R M (l3 none l[i].qa) (cur[i * 2+1]'(by omega)):=fun i hi=>by
  refine r6 (i * 2+1) (l3 none l[i].qa) (cur[i * 2+1]'(by omega)) ?_ (by rw[D3]);rw[flat2 l (by omega)]
  have e1:(i * 2+1) / 2=i:=by omega
  have e2:(i * 2+1) % 2=1:=by omega
  simp only[e1,e2];rfl
 have hone:∀ (x:Fin n) v,v∈enc x->v.oneCell'=true:=fun x v hv=>by
  rcases List.mem_cons.1 hv with rfl | hv
  .rfl
  obtain rfl:=List.mem_singleton.1 hv;obtain⟨a,c,e⟩:=NG (harg x.1 oM);rw[e];rfl
 obtain⟨d,hd⟩:∃ d:Array (Fin n),d=(G3 n).toArray:=⟨_,rfl⟩
 have hds:d.size=l.length:=by rw[hd];simp[hn]
 have hdat:∀ i (hi:i<n),d[i]! = ⟨i,hi⟩:=fun i hi=>by
  rw[hd];simp[hi]
 have hflat:∀ (s:Array (Fin n)) (j:Nat),j<s.size * 2->(flatK enc 2 s)[j]! = (enc s[j / 2]!)[j % 2]!:=fun s j hj=>get_flatK _ _ _ j hj
 have hHd:HoldsK enc 2 w g' 0 d:=by
  intro j hj
  have hj':j<l.length * 2:=by simpa[hds] using hj
  constructor
  .simp only[World.cell?,hb,D2,Option.isSome_none,G4,if_false];have e0:=hflat d j oM;rw[hdat _ (by omega)]at e0;show cur[j]? = some (flatK enc 2 d)[j]!;rw[e0]
   rcases H0 j with h0 | h0
   .have:=hrel (j / 2) oM;rw[show j / 2 * 2=j by omega]at this;rw[this,h0];rfl
   rw[h0]
   have e1:j / 2 * 2+1=j:=by omega
   show cur[j]? = some (cur[j / 2 * 2+1]'(by omega));simp only[e1];rw[D3 (by omega)]
  simp[World.frozen?,hb]
 have eg:∀ args w,(callFunc 110 args).run Try.prog w=.ok (.enter 110 args) w:=enters_of Try.func110 kR rfl
 have hbk0:∀ (m:Nat) (os:Array Obj) (dk:Array (Fin n)),∀ q,q<w.heap.size->q≠g'->(sortWorldK enc 2 w g' 0 m dk os).heap[q]? = w.heap[q]?:=by
  intro m os dk q hq hne2;show (grow (Go.Sort.putRow id (Sort.ahead w m) g' 0 (flatK enc 2 dk)) os).heap[q]? = _;rw[heap_grow_old _ _ (by simpa using hq)]
  have:g'≠q:=fun e=>hne2 e.symm
  simp[Go.Sort.putRow,mapBlock,Sort.ahead,H4,this]
 have hCk:∀ (m:Nat) (os:Array Obj) (dk:Array (Fin n)),Cons M (sortWorldK enc 2 w g' 0 m dk os):=fun m os dk b o u hu=>by
  have h1:=hC b o u hu
  have hne2:b≠g':=fun e1=>by rw[e1,r5]at hu;cases hu
  rw[Qr (hbk0 m os dk b (Ny h1) hne2)];exact h1
 have hcmp:CmpLays Try.prog 110 #[] enc 2 cf g' 0 d.size w:=by
  intro m os dk hs x y;exact Try.cmp110 _ _ _ _ _ _ M _ (hCk m os dk) (harg x.1 oM) (harg y.1 oM) (hla _ (G5 _))
 have hswo:SWO (ltOf cf):=⟨fun x=>swoF.irrefl _,fun x y z h1 h2=>swoF.trans _ _ _ h1 h2,fun x y z h1 h2=>swoF.ntrans _ _ _ h1 h2⟩
 have htot:∀ x y:Fin n,ltOf cf x y=false->ltOf cf y x=false->x=y:=fun x y h1 h2=>by
  have:=totF _ _ h1 h2;exact Fin.ext ((List.getElem_inj hnd).1 this)
 have hcon:=Try.slices_SortFunc_total (α:=Fin n) 2 aE zE enc (fun _=>rfl) hone cf hswo 110 #[] g' 0 cap d w eg hcmp hHd hgs (by rw[hds];exact hl) htot;rw[hds]at hcon;refine hcon.mono ?_
 rintro ed w' ⟨rfl,m,os,hw⟩
 obtain⟨s,hs⟩:∃ s,s=(d.toList.mergeSort fun x y=>!(ltOf cf) y x):=⟨_,rfl⟩;rw[<- hs]at hw
 have hsl:s.length=l.length:=by rw[hs,G8,Array.length_toList,hds]
 have hsort:sortF l=s.map fun i=>l[i.1]'(by omega):=by
  refine qjU l hn.symm s ?_;rw[hs,hd]
 have hw2:w'=grow (Go.Sort.putRow id (Sort.ahead w m) g' 0 (flatK enc 2 s.toArray)) os:=hw
 have hb':w'.heap[g']? = some (.cells (putCells id 0 (flatK enc 2 s.toArray) cur) 41 (0,0)):=by
  subst hw2;rw[heap_grow_old _ _ (by simpa using hgs)];simp[Go.Sort.putRow,mapBlock,Sort.ahead,H4,hb,onCells]
 have hbk:∀ q,q<w.heap.size->q≠g'->w'.heap[q]? = w.heap[q]?:=fun q hq hne2=>by rw[hw];exact hbk0 m os _ q hq hne2
 have hszw:w.heap.size<=w'.heap.size:=by subst hw2;simp[grow]
 have hps:(putCells id 0 (flatK enc 2 s.toArray) cur).size=cur.size:=by simp[putCells]
 refine⟨_,M,O,rfl,⟨by subst hw2;rfl,by subst hw2;rfl,by subst hw2;rfl,hszw,fun q hq=>hbk q hq.1 fun e1=>hq.2 2000000 (by rw[e1];exact p1)⟩,Sub.refl M,?_,fun _ _ _ _=>rfl,fun i c g hh=>?_,fun i i' c c' g hh hh'=>?_,fun c _ _=>Gh.Eq1.refl O c,⟨.tup (vs:=[]) rfl (fun j c v hc=>by simp at hc),trivial⟩,fun id x hx=>?_⟩
 .rw[hw];exact hCk m os _
 .obtain⟨rfl,h2⟩:=hO i c g hh;exact⟨Nat.lt_of_lt_of_le h2 hszw,.inr ⟨c,hh⟩⟩
 .obtain⟨rfl,_⟩:=hO i c g hh;obtain⟨rfl,_⟩:=hO i' c' g hh';exact⟨rfl,hOi c c' g hh hh'⟩
 simp only[look]at hx;split at hx
 .rename_i hbq;cases hx;obtain rfl:=(G9 hbq).symm;refine⟨k0,fun y hy=>?_,by simpa[UN] using k2,.inr ⟨g',_,p1,RowAt.of hb',by rw[hps];exact r3,by rw[hps];simpa[UN] using r4,r5,fun j c u hc hu=>?_⟩⟩
  .obtain⟨z,_,rfl⟩:=List.mem_map.1 hy;exact⟨rfl,rfl⟩
  have hjl:j<(sortF l).length * 2:=by
   have h1:=(List.getElem?_eq_some_iff.1 hc).1;rw[jE (cells2 _)]at h1
   simpa using h1
  rw[flat2 _ hjl]at hc;rw[UN]at hjl
  have hjc:j<cur.size:=by omega
  have hput:(putCells id 0 (flatK enc 2 s.toArray) cur)[j]? = some ((flatK enc 2 s.toArray)[j]!):=by
   have hz:(flatK enc 2 s.toArray).size=l.length * 2:=by simp[hsl]
   simp only[putCells,Array.getElem?_mapIdx,D3 hjc,Option.map_some,hz];rw[if_pos (by omega)];simp
  rw[hput,hflat _ _ (by simpa[hsl] using hjl)]at hu
  have hsj:j / 2<s.length:=by omega
  have e1:s.toArray[j / 2]! = s[j / 2]:=by simp[hsj]
  have e2:(sortF l)[j / 2]'(by rw[UN];omega)=l[(s[j / 2]).1]'(by omega):=by
   simp only[hsort,List.getElem_map]
  rw[e1]at hu;rw[e2]at hc;have hu:=Option.some.inj hu;subst hu
  rcases H0 j with h0 | h0
  .rw[h0]at hc ⊢;cases hc;exact .int _ _
  rw[h0]at hc ⊢;cases hc;exact harg _ oM
 cases hx
def apiF (f:rufact):apiFact:=if f.f_b=0 then ⟨f.qm,[f.f_a]⟩ else ⟨f.qm,[f.f_a,f.f_b]⟩
theorem qiH (f:rufact):Vh f=some (apiF f):=by
 obtain⟨a,b,c⟩:=f;unfold Vh apiF;by_cases h:c=0
 .subst h;rfl
 have:(c == 0)=false:=by simp[h]
 simp[this,h]
theorem qlc {f g:rufact} (h:apiF f=apiF g):f=g:=by
 obtain⟨a,b,c⟩:=f;obtain⟨d,e,i⟩:=g;unfold apiF at h;by_cases h1:c=0 <;> by_cases h2:i=0 <;> simp_all
abbrev fK (l:LB):LM:=l.map fun p=>qj p.1
abbrev fV (l:LB):LM:=l.map fun p=>AV.bool p.2
abbrev aL (l:LG):LM:=l.map qP
abbrev apis (l:LB):LG:=l.map fun p=>apiF p.1
theorem DN {α β:Type} (f:α->β):∀ (l:List α) (j:Nat),(l.map f).eraseIdx j=(l.eraseIdx j).map f
 | [],j=>by simp
 | a::l,0=>by simp
 | a::l,j+1=>by simp[DN f l j]
theorem qhz (rem:LB) (h:j<rem.length):nextEnt (fK rem) (fV rem) j=.hob 2 (qj rem[j].1::fK (rem.eraseIdx j)) (AV.bool rem[j].2::fV (rem.eraseIdx j)):=by
 unfold nextEnt fK fV;rw[DN,DN]
 have e1:(rem.map fun p=>qj p.1).getD j .und=qj rem[j].1:=by
  rw[A4,List.getElem?_map,B1 h];rfl
 have e2:(rem.map fun p=>AV.bool p.2).getD j .und=AV.bool rem[j].2:=by
  rw[A4,List.getElem?_map,B1 h];rfl
 rw[e1,e2]
theorem qbv {α:Type}:∀ (l:List α) (j:Nat) (h:j<l.length),l.Perm (l[j]::l.eraseIdx j)
 | [],j,h=>by simp at h
 | a::l,0,h=>by simp
 | a::l,j+1,h=>by
  have ih:=qbv l j (by simpa using h);simp only[List.getElem_cons_succ,List.eraseIdx_cons_succ];exact (ih.cons a).trans (List.Perm.swap _ _ _)
theorem qha {m:LG} (h:l.Perm m):sortF l=sortF m:=by
 have h1:∀ l:LG,(sortF l).Pairwise fun a b=>(!ltOf cfF b a)=true:=fun l=>List.pairwise_mergeSort (le:=fun a b=>!ltOf cfF b a) (by
  intro a b c h1 h2;simp only[E0]at *
  exact swoF.ntrans _ _ _ h2 h1) (by
  intro a b;simp only[E7,E0]
  cases hh:ltOf cfF b a with
  | false=>exact .inl rfl
  | true =>
   right;rw[ltF]at hh;rw[ltFf];have:=qaA a b
   omega) l
 refine List.Perm.eq_of_pairwise (le:=fun a b=>(!ltOf cfF b a)=true) (fun a b _ _ x y=>?_) (h1 l) (h1 m) ?_
 .simp only[E0]at x y;exact totF a b y x
 exact ((List.mergeSort_perm l _).trans h).trans (List.mergeSort_perm m _).symm
def nodupF:LH->Bool
 | []=>true
 | f::r=>!(r.any (qh f)) && nodupF r
theorem qbq:∀ {l:LH},nodupF l=true->l.Nodup
 | [],_=>by simp
 | f::r,h=>by
  simp only[nodupF,E8,E0,List.any_eq_false]at h;rw[List.nodup_cons];exact⟨fun hm=>h.1 f hm (YN.2 rfl),qbq h.2⟩
def ListI (l:LB) (k:Nat) (e:Env):Prop:=∃ (acc:LG) (rem:LB) (y:AV),rem.length=k/\leftE y=some (fK rem,fV rem)/\(acc++apis rem).Perm (apis l) /\
 Goes 19 e [(3,.sb 1500003 41 2 0 acc.length),(6,.mb 1 1000006),(1000006,y),(1500003,.obj 41 2 (aL acc))]
theorem list58 {l:LB} (hl:l.length<=1000) (hnd:(l.map Prod.fst).Nodup):CallOk Try.prog 58 [mpE qj AV.bool l] (.lst 41 2 none (aL (sortF (apis l)))):=by
 have hnd2:(apis l).Nodup:=by
  have e:apis l=(l.map Prod.fst).map apiF:=by simp[apis,D4,Function.comp_def]
  rw[e];exact List.Pairwise.map apiF (fun a b h e=>h (qlc e)) hnd
 refine qbC Try.func58 rfl kR (fun e k q xs hh=>by cases hh) ?_;refine CodeP.seq (CodeP.reg mixedP (e2:=[(0,mpE qj AV.bool l),(2,.nils)]) ?_);refine CodeP.wk (env':=[(0,mpE qj AV.bool l)])<|CodeP.seq (CodeP.reg mixedP (e2:=[(0,mpE qj AV.bool l),(3,.nils)]) ?_);refine CodeP.mv [.nil 3 41 2 1500003] (env':=[(0,mpE qj AV.bool l),(3,.sb 1500003 41 2 0 0),(1500003,.obj 41 2 [])])<|CodeP.seq (CodeP.seq (CodeP.reg mixedP (e2:=[(0,mpE qj AV.bool l),(3,.sb 1500003 41 2 0 0),(5,mpE qj AV.bool l),(6,.mb 1 1000006),(1000006,.hob 1 (fK l) (fV l)),(1500003,.obj 41 2 [])]) ?_));refine CodeP.wk (env':=[(3,.sb 1500003 41 2 0 0),(6,.mb 1 1000006),(1000006,.hob 1 (fK l) (fV l)),(1500003,.obj 41 2 [])])<|CodeP.block (CodeP.loop (I:=ListI l) ?_ l.length ⟨[],l,.hob 1 (fK l) (fV l),rfl,rfl,List.Perm.refl _,Goes.refl _⟩)
 rintro k e ⟨acc,rem,y,hk,hy,hp,hg⟩
 have hlen:acc.length+rem.length<=1000:=by
  have:=hp.length_eq;simp only[D5,A9]at this;omega
 refine CodeP.goes hg<|CodeP.seq<|CodeP.next mixedP rfl rfl kR (it:=1000006) (y:=y) (ks:=fK rem) (vs:=fV rem) rfl rfl hy (envF:=[(3,.sb 1500003 41 2 0 acc.length),(6,.mb 1 1000006),(7,.tup [.bool false]),(1000006,y),(1500003,.obj 41 2 (aL acc))]) kR
  (envT:=fun j=>[(3,.sb 1500003 41 2 0 acc.length),(6,.mb 1 1000006),(7,.tup [.bool true,.top,.top]),(1000006,nextEnt (fK rem) (fV rem) j),(1500003,.obj 41 2 (aL acc))]) (fun j _=>by kernel_rfl) (fun h0 _=>?_) (fun j hj _=>?_)
 .
  refine WO.end0 (e2:=[(3,.sb 1500003 41 2 0 acc.length),(6,.mb 1 1000006),(7,.tup [.bool false]),(8,.bool false),(1000006,y),(1500003,.obj 41 2 (aL acc))]) kR ?_
  have hr0:rem=[]:=by simpa[fK] using h0
  subst hr0
  have hpa:acc.Perm (apis l):=by simpa using hp
  have hnda:acc.Nodup:=hpa.nodup_iff.2 hnd2
  have hca:∀ f,f∈acc->f.qa.length<=1000000:=fun f hf=>by
   obtain⟨p,_,rfl⟩:=List.mem_map.1 (hpa.mem_iff.1 hf);unfold apiF;split <;> simp
  refine CodeP.seq (CodeP.cond false kR (fun h=>Bool.noConfusion h) (fun _=>CodeP.of mixedP (W.exit ?_)));refine CodeP.wk (env':=[(3,.sb 1500003 41 2 0 acc.length),(1500003,.obj 41 2 (aL acc))])<|CodeP.of mixedP<|W.seq<|W.region kR ?_;have hsort:Run Try.prog (.callM 109 [.sb 2000000 41 2 0 acc.length,.clo 110 []] [(2000000,.obj 41 2 (aL acc))] (.tup []) [(2000000,.obj 41 2 (aL (sortF acc)))]):=.extM (sort109 (by have:=hlen;simp at this;omega) hnda hca) (fun id x hx=>by simp only[look]at hx;split at hx <;> cases hx;rfl);refine WO.callMK 1 [(1500003,2000000)] [] (F:=109) (args:=[.sb 2000000 41 2 0 acc.length,.clo 110 []]) (hp:=[(2000000,.obj 41 2 (aL acc))]) (hp2:=[(2000000,.obj 41 2 (aL (sortF acc)))]) (r:=.tup []) kR hsort (e1:=[(3,.sb 1500003 41 2 0 acc.length),(16,.sb 1500003 41 2 0 acc.length),(17,.tup []),(1500003,.obj 41 2 (aL (sortF acc)))]) kR<|WO.fin [3,1500003] [] [] [] (e2:=[(3,.sb 1500003 41 2 0 acc.length),(1500003,.obj 41 2 (aL (sortF acc)))]) kR (fun _ h=>h) ?_;refine W.seq<|W.regT [2,1500003] [] [] [] (e2:=[(2,.sb 1500003 41 2 0 acc.length),(1500003,.obj 41 2 (aL (sortF acc)))]) kR kR (fun _ h=>h) ?_;have hsl:(sortF acc).length=acc.length:=UN acc
  have hsn:snapA 0 acc.length (aL (sortF acc))=aL (sortF (apis l)):=by
   rw[qha hpa]at hsl ⊢;unfold snapA aL;rw[E9,A7 (by rw[A9,hsl];exact Nat.le_refl _)]
  refine W.mv [.frz 1500003] (env':=[(2,.lst 41 2 none (aL (sortF (apis l))))]) ((by kernel_rfl:mvAll [(2,.sb 1500003 41 2 0 acc.length),(1500003,.obj 41 2 (aL (sortF acc)))] [.frz 1500003]=[(2,.lst 41 2 none (snapA 0 acc.length (aL (sortF acc))))]).trans (by rw[hsn])) ?_
  have hr:jK Try.prog Try.f58 [(2,.lst 41 2 none (aL (sortF (apis l))))]=some (.lst 41 2 none (aL (sortF (apis l)))):=by kernel_rfl
  exact W.ret hr
 
 have hj:j<rem.length:=by simpa[fK] using hj
 show WO Try.prog _ false _ _ _ [(3,.sb 1500003 41 2 0 acc.length),(6,.mb 1 1000006),(7,.tup [.bool true,.top,.top]),(1000006,nextEnt (fK rem) (fV rem) j),(1500003,.obj 41 2 (aL acc))];rw[qhz rem hj]
 have hpt:(acc++[apiF rem[j].1]++apis (rem.eraseIdx j)).Perm (apis l):=by
  refine List.Perm.trans ?_ hp;rw[D6];refine List.Perm.append_left _ ?_;exact ((qbv rem j hj).map fun p=>apiF p.1).symm
 have hel:(rem.eraseIdx j).length=rem.length - 1:=by rw[List.length_eraseIdx,if_pos hj]
 generalize hp1:rem[j].1=pk at hpt ⊢;generalize hp2:rem[j].2=pv at hpt ⊢;generalize rem.eraseIdx j=rem2 at hpt hel ⊢;refine WO.end0 (e2:=[(3,.sb 1500003 41 2 0 acc.length),(6,.mb 1 1000006),(7,.tup [.bool true,.top,.top]),(8,.bool true),(1000006,.hob 2 (qj pk::fK rem2) (.bool pv::fV rem2)),(1500003,.obj 41 2 (aL acc))]) kR<|CodeP.seq (CodeP.cond true kR (fun _=>CodeP.of mixedP (W.skip ?_)) (fun h=>Bool.noConfusion h));refine CodeP.wk (env':=[(3,.sb 1500003 41 2 0 acc.length),(6,.mb 1 1000006),(1000006,.hob 2 (qj pk::fK rem2) (.bool pv::fV rem2)),(1500003,.obj 41 2 (aL acc))])<|CodeP.block (CodeP.seq (CodeP.reg mixedP (e2:=[(3,.sb 1500003 41 2 0 acc.length),(4,.box [.int .i64 pk.qm,.int .i64 pk.f_a,.int .i64 pk.f_b]),(6,.mb 1 1000006),(9,.tup [qj pk,.bool pv]),(10,qj pk),(1000006,.hob 2 (qj pk::fK rem2) (.bool pv::fV rem2)),(1500003,.obj 41 2 (aL acc))]) ?_));refine CodeP.wk (env':=[(3,.sb 1500003 41 2 0 acc.length),(4,.box [.int .i64 pk.qm,.int .i64 pk.f_a,.int .i64 pk.f_b]),(6,.mb 1 1000006),(1000006,.hob 2 (qj pk::fK rem2) (.bool pv::fV rem2)),(1500003,.obj 41 2 (aL acc))])<|CodeP.of mixedP (W.region kR ?_);refine WO.callK 2 (F:=108) (l:=[qj pk]) (C:=[]) (r:=qP (apiF pk)) kR kR (NB pk _ (qiH pk)) (e1:=[(3,.sb 1500003 41 2 0 acc.length),(4,.box [.int .i64 pk.qm,.int .i64 pk.f_a,.int .i64 pk.f_b]),(6,.mb 1 1000006),(11,.sb 1500003 41 2 0 acc.length),(12,qj pk),(13,qP (apiF pk)),(1000006,.hob 2 (qj pk::fK rem2) (.bool pv::fV rem2)),(1500003,.obj 41 2 (aL acc))]) kR<|WO.appendOK 1 (d:=15) (e:=41) (s:=2) (bytes:=32) (m:=acc.length) (n2:=(acc++[apiF pk]).length) (xs:=aL acc) (ys:=aL [apiF pk]) (zs:=aL (acc++[apiF pk])) (env1:=[(3,.top),(4,.box [.int .i64 pk.qm,.int .i64 pk.f_a,.int .i64 pk.f_b]),(6,.mb 1 1000006),(11,.top),(12,qj pk),(13,qP (apiF pk)),(14,.lst 41 2 (some 14) (aL [apiF pk])),(1000006,.hob 2 (qj pk::fK rem2) (.bool pv::fV rem2))]) kR ?_ ?_ (A9 _) (e1:=[(3,.top),(4,.box [.int .i64 pk.qm,.int .i64 pk.f_a,.int .i64 pk.f_b]),(6,.mb 1 1000006),(11,.top),(12,qj pk),(13,qP (apiF pk)),(14,.lst 41 2 (some 14) (aL [apiF pk])),(15,.sb 1000015 41 2 0 (acc++[apiF pk]).length),(1000006,.hob 2 (qj pk::fK rem2) (.bool pv::fV rem2)),(1000015,.obj 41 2 (aL (acc++[apiF pk])))]) kR ?_
 .have:(aL [apiF pk]).length=1:=rfl;rw[this];simp only[capOk,E8,Nat.ble_eq];omega
 .unfold snapA aL;rw[E9,List.map_append,A7 (by rw[A9];exact Nat.le_refl _)]
 refine WO.end0 (e2:=[(3,.sb 1000015 41 2 0 (acc++[apiF pk]).length),(4,.box [.int .i64 pk.qm,.int .i64 pk.f_a,.int .i64 pk.f_b]),(6,.mb 1 1000006),(11,.top),(12,qj pk),(13,qP (apiF pk)),(14,.lst 41 2 (some 14) (aL [apiF pk])),(15,.sb 1000015 41 2 0 (acc++[apiF pk]).length),(1000006,.hob 2 (qj pk::fK rem2) (.bool pv::fV rem2)),(1000015,.obj 41 2 (aL (acc++[apiF pk])))]) kR ?_;exact⟨rem.length - 1,by omega,acc++[apiF pk],rem2,.hob 2 (qj pk::fK rem2) (.bool pv::fV rem2),hel,rfl,hpt,Goes.wk (e1:=[(3,.sb 1000015 41 2 0 (acc++[apiF pk]).length),(6,.mb 1 1000006),(1000006,.hob 2 (qj pk::fK rem2) (.bool pv::fV rem2)),(1000015,.obj 41 2 (aL (acc++[apiF pk])))]) (Goes.mv [.ren 1000015 1500003] (Goes.refl _))⟩
end Go.AM
namespace Go.AM
open Go.Proofs
variable {α:Type} {b:Nat} {B n rel:Int} {l:LN} {f:apiFact} {a:rf2Atom} {S:Lg} {facts:LG} {args v:LA}
def Vs (fuel:Nat) (a1:LJ) (a2:LB) (a3:LB):Option LB:=consP fuel a1 a2 a3
theorem Dg (fuel:Nat) (a1:LJ) (a2:LB) (a3:LB) (r:LB) (h:Vs fuel a1 a2 a3=some r):Run Try.prog (.call 74 [l54 none a1,mpE qj AV.bool a2,mpE qj AV.bool a3] (mpE qj AV.bool r)):=.ext0 (Try.cons74 h)
def QY (v29:LB):Ll :=
 (some (v29,true))
def Yn (fuel:Nat) (v14:LB) (N1:(LB->Ll)) (v27:LJ):Ll :=
 ((Vs fuel v27 v14 v14).bind fun w28=>(N1 w28))
def Zs (N2:(LJ->Ll)) (v26:LJ):Ll :=
 (N2 v26)
def QA (k1:Nat) (w5:(LA×Bool)) (K18:(LJ->Ll)):LJ->Nat->LJ->Ll
 | [],k2,v20=>(K18 v20)
 | x2::r2,k2,v20=>((idx w5.1 x2.qf.qc).bind fun e24=>(bif (e24 == (k1:Int)) then (chk (capOk 56 ((v20++[x2])).length) ((Zs (QA k1 w5 K18 r2 (k2+1))) (v20++[x2]))) else ((Zs (QA k1 w5 K18 r2 (k2+1))) v20)))
def Qh (fuel:Nat) (a1:LJ) (w5:(LA×Bool)) (K11:(LB->Ll)):LQ->Nat->LB->Ll
 | [],k1,v14=>(K11 v14)
 | x1::r1,k1,v14=>(chk (lenOk a1) (QA k1 w5 (Yn fuel v14 (Qh fuel a1 w5 K11 r1 (k1+1))) a1 0 ([]:LJ)))
def Ye (fuel:Nat) (a1:LJ) (a2:LG):Ll :=
 ((ZJ fuel a1).bind fun w5=>(bif (!w5.2) then (some (([]:LB),false)) else ((YE a2).bind fun w10=>((Qk fuel w5.1).bind fun w13=>(chk (lenOk (D7 (A5 (D1 .i64 (w13+1))))) (Qh fuel a1 w5 (QY) (D7 (A5 (D1 .i64 (w13+1)))) 0 w10))))))
theorem DY (fuel:Nat) (a1:LJ) (a2:LG) (r:(LB×Bool)) (h:Ye fuel a1 a2=some r):Run Try.prog (.call 57 [l54 none a1,l41 none a2] (.tup [mpE qj AV.bool r.1,.bool r.2])):=by
 refine cW Try.func57 rfl (env0:=[(0,l54 none a1),(1,l41 none a2)]) ?_;unfold Ye at h;refine W.seq ?_;let z0:=fun t=>EN ((0,l54 none a1)::t);let z1:=fun t=>z0 ((1,l41 none a2)::t);refine W.rt (e2:=z1 []) ?_;refine W.sr ?_;obtain⟨w5,hw5,h⟩:=qb h;refine WO.ck 1 (F:=85) (l:=[l54 none a1]) (C:=[]) (r:=.tup [l3 none w5.1,.bool w5.2]) (qdj fuel a1 w5 hw5) ?_;let z2:=fun t=>z1 ((6,l3 none w5.1)::t);refine WO.fn (e2:=z2 [(7,.bool w5.2)]) ?_;refine W.seq<|W.seq<|W.rt (e2:=z2 [(19,.bool (!w5.2))]) ?_;refine W.ch (!w5.2) h (fun h=>?_) (fun h=>?_)
 .refine W.seq ?_;let z3:=fun t=>EN ((4,mpE qj AV.bool ([]:LB))::(5,.bool false)::t);refine W.rt (e2:=z3 []) ?_;refine W.wk (e:=z3 []) ?_;cases h;exact W.rr
 refine W.sw (e:=z2 []) ?_;refine W.sr ?_;obtain⟨w10,hw10,h⟩:=qb h;refine WO.ck 1 (F:=73) (l:=[l41 none a2]) (C:=[]) (r:=mpE qj AV.bool w10) (DZ a2 w10 hw10) ?_;let z4:=fun t=>z0 ((6,l3 none w5.1)::t);let z5:=fun t=>z4 ((8,mpE qj AV.bool w10)::t);refine WO.fn (e2:=z5 []) ?_;refine W.seq<|W.join (σ:=(LB)) (fun s=>[(8,mpE qj AV.bool s)]) (fun s=>(QY) s=some r) (fun v29 h=>?_) (fun hK11=>?_)
 .unfold QY at h;refine W.seq ?_;let z6:=fun t=>EN ((4,mpE qj AV.bool v29)::(5,.bool true)::t);refine W.rt (e2:=z6 []) ?_;refine W.wk (e:=z6 []) ?_;cases h;exact W.rr
 refine W.sr ?_;obtain⟨w13,hw13,h⟩:=qb h;refine WO.ck 1 (F:=107) (l:=[l3 none w5.1]) (C:=[]) (r:=I6 w13) (Zo fuel w5.1 w13 hw13)<|WO.fn (e2:=z5 [(24,I6 (W6 (w13+1))),(25,.int .i64 0)]) ?_;refine W.block ?_;obtain⟨hl1,h⟩:=qg h;refine W.wk<|W.range (σ:=(LB)) (D7 (A5 (W6 (w13+1)))) (fun k1 s=>z4 [(8,mpE qj AV.bool s),(24,I6 (W6 (w13+1))),(25,I6 (k1:Int))]) (fun r0 k0 s=>Qh fuel a1 w5 (QY) r0 k0 s=some r) (fun v14 h=>?_) (fun x1 r1 k1 s hx1 hk1 h hN1=>?_) w10 h
 .rw[Qh.eq_1]at h;refine W.sr<|WO.pq 0 (jB (VJ (n:=(W6 (w13+1)))))<|WO.fn (e2:=z4 [(8,mpE qj AV.bool v14),(24,I6 (W6 (w13+1))),(25,I6 (((D7 (A5 (W6 (w13+1))))).length:Int)),(26,.bool false)]) ?_;exact W.seq<|W.cF<|W.exit<|W.wk (hK11 v14 h)
 obtain⟨v14,rfl⟩:∃ x,x=s:=⟨s,rfl⟩;rw[Qh.eq_2]at h;refine W.sr<|WO.pq 0 (jB (UV hk1)) ?_;let z7:=fun t=>z4 ((8,mpE qj AV.bool v14)::t);refine WO.fn (e2:=z7 [(24,I6 (W6 (w13+1))),(25,I6 (k1:Int)),(26,.bool true)]) ?_;refine W.seq<|W.cT ?_;let y0:Env:=[(24,I6 (W6 (w13+1))),(25,I6 (k1:Int))];refine W.sw (e:=z7 y0) ?_;refine W.seq<|W.block<|W.seq ?_;let z8:=fun t=>z7 ((9,I6 (k1:Int))::t);refine W.rt (e2:=z8 y0) ?_;refine W.seq<|W.rt (e2:=z8 ((10,.nils)::y0)) ?_;refine W.seq<|W.join (σ:=(LJ)) (fun s=>z7 ((10,l54 (some 11000) s)::y0)) (fun s=>(Yn fuel v14 (Qh fuel a1 w5 (QY) r1 (k1+1))) s=some r) (fun v27 h=>?_) (fun hK18=>?_)
 .unfold Yn at h;refine W.rg ?_;obtain⟨w28,hw28,h⟩:=qb h;refine WO.ck 3 (F:=74) (l:=[l54 none v27,mpE qj AV.bool v14,mpE qj AV.bool v14]) (C:=[]) (r:=mpE qj AV.bool w28) (Dg fuel v27 v14 v14 w28 hw28)<|WO.fn (e2:=z4 ((8,mpE qj AV.bool w28)::y0)) ?_;exact W.rg<|WO.pq 0 (jI (qz hl1 hk1))<|WO.fn (hN1 w28 h)
 refine W.sr<|WO.pq 1 (jM Yj a1)<|WO.fn (e2:=z8 [(10,.nils),(24,I6 (W6 (w13+1))),(25,I6 (k1:Int)),(28,l54 none a1),(29,I6 (a1.length:Int)),(30,.int .i64 0)]) ?_;refine W.block ?_;obtain⟨hl2,h⟩:=qg h;refine W.weak [0,6,8,9,10,24,25,28,29,30] [] [(10,0,54,3,11000)] [] (env':=z8 [(10,l54 (some 11000) ([]:LJ)),(24,I6 (W6 (w13+1))),(25,I6 (k1:Int)),(28,l54 none a1),(29,I6 (a1.length:Int)),(30,I6 ((0:Nat):Int))]) kR<|W.range (σ:=(LJ)) a1 (fun k2 s=>z8 [(10,l54 (some 11000) s),(24,I6 (W6 (w13+1))),(25,I6 (k1:Int)),(28,l54 none a1),(29,I6 (a1.length:Int)),(30,I6 (k2:Int))]) (fun r0 k0 s=>QA k1 w5 (Yn fuel v14 (Qh fuel a1 w5 (QY) r1 (k1+1))) r0 k0 s=some r) (fun v20 h=>?_) (fun x2 r2 k2 s hx2 hk2 h hN2=>?_) ([]:LJ) h
 .rw[QA.eq_1]at h;refine W.sr<|WO.pq 0 (jB (qL (l:=a1)))<|WO.fn (e2:=z8 [(10,l54 (some 11000) v20),(24,I6 (W6 (w13+1))),(25,I6 (k1:Int)),(28,l54 none a1),(29,I6 (a1.length:Int)),(30,I6 ((a1).length:Int)),(31,.bool false)]) ?_;exact W.seq<|W.cF<|W.exit<|W.wk (hK18 v20 h)
 obtain⟨v20,rfl⟩:∃ x,x=s:=⟨s,rfl⟩;rw[QA.eq_2]at h;refine W.sr<|WO.pq 0 (jB (qW hk2)) ?_;let z9:=fun t=>z8 ((10,l54 (some 11000) v20)::t);refine WO.fn (e2:=z9 [(24,I6 (W6 (w13+1))),(25,I6 (k1:Int)),(28,l54 none a1),(29,I6 (a1.length:Int)),(30,I6 (k2:Int)),(31,.bool true)]) ?_;refine W.seq<|W.cT ?_;let y1:Env:=[(24,I6 (W6 (w13+1))),(25,I6 (k1:Int)),(28,l54 none a1),(29,I6 (a1.length:Int)),(30,I6 (k2:Int))];refine W.sw (e:=z9 y1) ?_;refine W.seq<|W.join (σ:=(LJ)) (fun s=>z8 ((10,l54 (some 11000) s)::y1)) (fun s=>(Zs (QA k1 w5 (Yn fuel v14 (Qh fuel a1 w5 (QY) r1 (k1+1))) r2 (k2+1))) s=some r) (fun v26 h=>?_) (fun hK21=>?_)
 .unfold Zs at h;exact W.rg<|WO.pq 0 (jI (qz hl2 hk2))<|WO.fn (hN2 v26 h)
 refine W.block<|W.sr<|WO.pq 0 (qX (f:=Yj) hx2) ?_;let z10:=fun t=>z9 ((12,.ptr (.agg [I6 x2.qf.qc,l3 none x2.qf.qa,l56 none x2.qd]))::t);refine WO.fi [0,6,8,9,10,12,24,25,28,29,30] [12] (e2:=z10 y1) ?_;refine W.sr ?_;obtain⟨e24,he24,h⟩:=qb h;refine WO.pq 4 (Xu (f:=(AV.int .i64)) he24)<|WO.fn (e2:=z10 [(24,I6 (W6 (w13+1))),(25,I6 (k1:Int)),(28,l54 none a1),(29,I6 (a1.length:Int)),(30,I6 (k2:Int)),(41,.bool (e24 == (k1:Int)))]) ?_;refine W.ch (e24 == (k1:Int)) h (fun h=>?_) (fun h=>?_)
 .refine W.rg ?_;obtain⟨hc25,h⟩:=qg h;refine WO.ak 3 45 54 3 Yj v20 [x2] hc25<|WO.fin [0,6,8,9,10,24,25,28,29,30] [] [] [(45,some 11000)] (e2:=z8 ((10,l54 (some 11000) (v20++[x2]))::y1)) kR (fun _ h=>h) ?_;exact hK21 (v20++[x2]) h
 exact W.sw (hK21 v20 h)
def Vg (a1:LB):Option LG:=chk (decide (a1.length<=1000) && nodupF (a1.map Prod.fst)) (some (sortF (apis a1)))
theorem qbJ (a1:LB) (r:LG) (h:Vg a1=some r):Run Try.prog (.call 58 [mpE qj AV.bool a1] (l41 none r)):=by
 unfold Vg at h;obtain⟨hc,h⟩:=qg h;cases h;rw[E8,decide_eq_true_eq]at hc;exact .ext0 (list58 hc.1 (qbq hc.2))
def qaf (fuel:Nat) (a1:LJ) (a2:LG):Option (LG×Int) :=
 ((Yc fuel a1 a2).bind fun w6=>(bif (!w6) then (some (([]:LG),2)) else ((Ye fuel a1 a2).bind fun w9=>(bif (!w9.2) then (some (([]:LG),8)) else ((Vg w9.1).bind fun w14=>(some (w14,0)))))))
theorem qeT (fuel:Nat) (a1:LJ) (a2:LG) (r:(LG×Int)) (h:qaf fuel a1 a2=some r):Run Try.prog (.call 17 [l54 none a1,l41 none a2] (.tup [l41 none r.1,I6 r.2])):=by
 refine cW Try.func17 rfl (env0:=[(0,l54 none a1),(1,l41 none a2)]) ?_;unfold qaf at h;refine W.seq ?_;let z0:=fun t=>EN ((0,l54 none a1)::(1,l41 none a2)::t);refine W.rt (e2:=z0 []) ?_;refine W.seq<|W.sr ?_;obtain⟨w6,hw6,h⟩:=qb h;refine WO.ck 2 (F:=56) (l:=[l54 none a1,l41 none a2]) (C:=[]) (r:=.bool w6) (DX fuel a1 a2 w6 hw6)<|WO.fn (e2:=z0 [(11,.bool (!w6))]) ?_;refine W.ch (!w6) h (fun h=>?_) (fun h=>?_)
 .refine W.seq<|W.rt (e2:=[(4,.nils),(5,.int .i64 2)]) ?_;refine W.weak [4,5] [] [(4,0,41,2,70004)] [] (env':=[(4,l41 (some 70004) ([]:LG)),(5,.int .i64 2)]) kR ?_;cases h;exact W.rr
 refine W.sw (e:=z0 []) ?_;refine W.sr ?_;obtain⟨w9,hw9,h⟩:=qb h;refine WO.ck 2 (F:=57) (l:=[l54 none a1,l41 none a2]) (C:=[]) (r:=.tup [mpE qj AV.bool w9.1,.bool w9.2]) (DY fuel a1 a2 w9 hw9) ?_;let z1:=fun t=>EN ((6,mpE qj AV.bool w9.1)::t);refine WO.fn (e2:=z1 [(7,.bool w9.2)]) ?_;refine W.seq<|W.seq<|W.rt (e2:=z1 [(19,.bool (!w9.2))]) ?_;refine W.ch (!w9.2) h (fun h=>?_) (fun h=>?_)
 .refine W.seq<|W.rt (e2:=[(4,.nils),(5,.int .i64 8)]) ?_;refine W.weak [4,5] [] [(4,0,41,2,70004)] [] (env':=[(4,l41 (some 70004) ([]:LG)),(5,.int .i64 8)]) kR ?_;cases h;exact W.rr
 refine W.sw (e:=z1 []) ?_;refine W.sr ?_;obtain⟨w14,hw14,h⟩:=qb h;refine WO.ck 1 (F:=58) (l:=[mpE qj AV.bool w9.1]) (C:=[]) (r:=l41 none w14) (qbJ w9.1 w14 hw14)<|WO.fn (e2:=[(4,l41 none w14),(5,.int .i64 0)]) ?_;refine W.wk (e:=[(4,l41 none w14),(5,.int .i64 0)]) ?_;cases h;exact W.rr
def VB (v6:Bool):LD :=
 (some v6)
def QS (fuel:Nat):LD :=
 ((qaf fuel [(ruRule.mk (qo.mk 1 [0]) [(ruLit.mk false (qo.mk 0 [0]))])] [(apiFact.mk 0 [3])]).bind fun w3=>(bif (w3.2 == 0) then ((Uf w3.1 [(apiFact.mk 0 [3]),(apiFact.mk 1 [3])]).bind fun w5=>((VB) w5)) else ((VB) false)))
theorem YD (fuel:Nat)  (r:Bool) (h:QS fuel=some r):Run Try.prog (.call 21 [] (.bool r)):=by
 refine cW Try.func21 rfl (env0:=[]) ?_;unfold QS at h;refine W.seq<|W.rt (e2:=[]) ?_;refine W.sr ?_;obtain⟨w3,hw3,h⟩:=qb h;refine WO.ck 11 (F:=17) (l:=[l54 none [(ruRule.mk (qo.mk 1 [0]) [(ruLit.mk false (qo.mk 0 [0]))])],l41 none [(apiFact.mk 0 [3])]]) (C:=[]) (r:=.tup [l41 none w3.1,I6 w3.2]) (qeT fuel [(ruRule.mk (qo.mk 1 [0]) [(ruLit.mk false (qo.mk 0 [0]))])] [(apiFact.mk 0 [3])] w3 hw3)<|WO.fn (e2:=[(1,l41 none w3.1),(2,I6 w3.2)]) ?_;refine W.seq<|W.join (σ:=(Bool)) (fun s=>[(0,.bool s)]) (fun s=>(VB) s=some r) (fun v6 h=>?_) (fun hK4=>?_)
 .unfold VB at h;refine W.wk (e:=[(0,.bool v6)]) ?_;cases h;exact W.rr
 refine W.rg<|WO.bh 3 (fun b=>[(1,l41 none w3.1),(2,I6 w3.2),(18,I6 w3.2),(19,.bool b),(20,.bool b)]) (w3.2 == 0) h (fun h=>?_) (fun h=>?_)
 .obtain⟨w5,hw5,h⟩:=qb h;exact WO.ck 6 (F:=23) (l:=[l41 none w3.1,l41 none [(apiFact.mk 0 [3]),(apiFact.mk 1 [3])]]) (C:=[]) (r:=.bool w5) (qae w3.1 [(apiFact.mk 0 [3]),(apiFact.mk 1 [3])] w5 hw5)<|WO.fn (hK4 w5 h)
 exact WO.fn (hK4 false h)
theorem qM {l:List α} (h:l.length<=9223372036854775807):lenOk l=true:=Nat.ble_eq_true_of_le oM
theorem QP {n:Nat} (hb:b<=64) (h:n<=1000000000):capOk b n=true:=by
 simp only[capOk,E8,Nat.ble_eq];refine⟨?_,by omega⟩;exact Nat.le_trans (Nat.mul_le_mul h hb) oM
theorem Nw {b:Bool} {o:Option α} (h:b=true):chk b o=o:=by rw[h];rfl
theorem wrap64 (h1 : -9223372036854775808<=n) (h2:n<=9223372036854775807):D1 .i64 n=n:=by
 simp[D1,IntKind.signed,IntKind.bits];omega
def cvA (a:rf2Atom):qo:=⟨a.qc,a.qa.take 5⟩
def cvL (x:rf3Lit):ruLit:=⟨x.qu,cvA x.qe⟩
def cvR (r:rf3Rule):ruRule:=⟨cvA r.qf,(r.qd.take 5).map cvL⟩
def cvF (f:apiFact):apiFact:=⟨f.qc,f.qa.take 9⟩
theorem qca {l:LA} (n:Nat):sub l 0 (if (n:Int)<(l.length:Int) then (n:Int) else (l.length:Int))=some (l.take n):=by
 unfold sub;split
 .rw[if_pos ⟨by omega,by omega,by omega⟩];simp
 rw[if_pos ⟨by omega,by omega,by omega⟩];simp[A7 (show l.length<=n by omega)]
theorem qbh {l:LA} (h:l.length<=1000):Qu l=some l:=by
 unfold Qu;rw[Nw (QP (by omega) (by omega))]
theorem qgN (a:rf2Atom):UT a=some (cvA a):=by
 unfold UT;have:=qca (l:=a.qa) 5;rw[show ((5:Nat):Int)=5 from rfl]at this;rw[this];show (Qu (a.qa.take 5)).bind _=_;rw[qbh (by simp;omega)];rfl
theorem qlA (l:LA):qak l=some (l.take 9):=by
 unfold qak;have:=qca (l:=l) 9;rw[show ((9:Nat):Int)=9 from rfl]at this;rw[this];show (Qu (l.take 9)).bind _=_;rw[qbh (by simp;omega)];rfl
theorem qkq (K:ruRule->Option LJ):∀ (body:Lp) (k:Nat) (rel:Int) (args:LA) (acc:LS),acc.length<=k->acc.length<=5->QT K body k rel args acc=K ⟨⟨rel,args⟩,acc++(body.take (5 - k)).map cvL⟩
 | [],k,rel,args,acc,_,_=>by simp[QT]
 | x::r,k,rel,args,acc,h1,h2=>by
  rw[QT];by_cases hk:k<5
  .rw[dT (by omega:(k:Int)<5),cT,qgN];show chk _ _=_;rw[Nw (QP (by omega) (by simp;omega))];unfold ZP;rw[qkq K r (k+1) rel args _ (by simp;omega) (by simp;omega)];obtain⟨m,hm⟩:∃ m,5 - k=m+1:=⟨5 - k - 1,by omega⟩;rw[hm,show 5 - (k+1)=m by omega,G6,C0,D6];rfl
  rw[dF (by omega:¬ (k:Int)<5),cN];unfold ZP;rw[qkq K r (k+1) rel args acc (by omega) h2,show 5 - (k+1)=0 by omega,show 5 - k=0 by omega];simp
theorem qlJ (K:LJ->Option LJ):∀ (l:LN) (k:Nat) (acc:LJ),(∀ r,r∈l->lenOk r.qd=true)->acc.length<=k->acc.length<=12->QJ K l k acc=K (acc++(l.take (12 - k)).map cvR)
 | [],k,acc,_,_,_=>by simp[QJ]
 | x::r,k,acc,hb,h1,h2=>by
  rw[QJ];by_cases hk:k > 11
  .rw[dT (by omega:(k:Int) > 11),cT,show 12 - k=0 by omega];simp
  rw[dF (by omega:¬ (k:Int) > 11),cN,qgN];show chk (lenOk x.qd) _=_;rw[Nw (hb x (A0 ..)),qkq _ _ _ _ _ _ (by simp) (by simp)];show chk _ _=_;rw[Nw (QP (by omega) (by simp;omega)),qlJ K r (k+1) _ (fun q hq=>hb q (A2 _ hq)) (by simp;omega) (by simp;omega)];obtain⟨m,hm⟩:∃ m,12 - k=m+1:=⟨12 - k - 1,by omega⟩;rw[hm,show 12 - (k+1)=m by omega,G6,C0,D6];rfl
theorem qlM (hl:lenOk l=true) (hb:∀ r,r∈l->lenOk r.qd=true):qcy l=some ((l.take 12).map cvR):=by
 unfold qcy;rw[Nw hl,qlJ _ _ _ _ hb (by simp) (by simp)];rfl
theorem qgC (K:LG->Option LG):∀ (l:LG) (k:Nat) (acc:LG),acc.length<=k->acc.length<=26->Xf K l k acc=K (acc++(l.take (26 - k)).map cvF)
 | [],k,acc,_,_=>by simp[Xf]
 | x::r,k,acc,h1,h2=>by
  rw[Xf];by_cases hk:k > 25
  .rw[dT (by omega:(k:Int) > 25),cT,show 26 - k=0 by omega];simp
  rw[dF (by omega:¬ (k:Int) > 25),cN,qlA];show chk _ _=_;rw[Nw (QP (by omega) (by simp;omega)),qgC K r (k+1) _ (by simp;omega) (by simp;omega)];obtain⟨m,hm⟩:∃ m,26 - k=m+1:=⟨26 - k - 1,by omega⟩;rw[hm,show 26 - (k+1)=m by omega,G6,C0,D6];rfl
theorem qjz {l:LG} (hl:lenOk l=true):UU l=some ((l.take 26).map cvF):=by
 unfold UU;rw[Nw hl,qgC _ _ _ _ (by simp) (by simp)];rfl
def groundP (f:apiFact):Prop:=(0<=f.qc/\f.qc<=5)/\(1<=f.qa.length/\f.qa.length<=2)/\∀ x,x∈f.qa->1<=x/\x<=6
def fitP (rel:Int) (args:LA):Prop:=(0<=rel/\rel<=5)/\(1<=args.length/\args.length<=2)/\∀ x,x∈args -> -6<=x/\x<=7
instance (f:apiFact):Decidable (groundP f):=by unfold groundP;infer_instance
instance (rel:Int) (args:LA):Decidable (fitP rel args):=by unfold fitP;infer_instance
theorem qem (K:LD):∀ (args:LA) (k:Nat),JD K args k=if ∀ x,x∈args->1<=x/\x<=6 then K else some false
 | [],k=>by simp[JD]
 | x::r,k=>by
  rw[JD];unfold YK;rw[qem K r (k+1)];by_cases h1:x<1
  .rw[dT h1,cT,cT,if_neg (fun h=>by have:=h x (A0 ..);omega)]
  rw[dF h1,cN];by_cases h2:x > 6
  .rw[dT h2,cT,if_neg (fun h=>by have:=h x (A0 ..);omega)]
  rw[dF h2,cN]
  have:(∀ y,y∈x::r->1<=y/\y<=6)↔∀ y,y∈r->1<=y/\y<=6:=by
   simp only[A6,forall_eq_or_imp];exact⟨fun h=>h.2,fun h=>⟨by omega,h⟩⟩
  simp only[this]
theorem DI (hl:lenOk f.qa=true):YX f=some (decide (groundP f)):=by
 unfold YX;rw[Nw hl,qem];unfold XT QL;by_cases h:∀ x,x∈f.qa->1<=x/\x<=6
 .rw[if_pos h];by_cases h1:f.qc >= 0
  .rw[dT h1,cT];by_cases h2:f.qc<=5
   .rw[dT h2,cT];by_cases h3:(f.qa.length:Int) >= 1
    .rw[dT h3,cT]
     congr 1
     rw[decide_eq_decide];unfold groundP;constructor
     .intro h4;exact⟨⟨h1,h2⟩,⟨by omega,by omega⟩,h⟩
     intro h4;have:=h4.2.1.2;omega
    rw[dF h3,cN,dF (fun h4:groundP f=>by have:=h4.2.1.1;omega)]
   rw[dF h2,cN,dF (fun h4:groundP f=>h2 h4.1.2)]
  rw[dF h1,cN,dF (fun h4:groundP f=>h1 h4.1.1)]
 rw[if_neg h,dF (fun h4:groundP f=>h h4.2.2)]
theorem qiB (K:LD):∀ (args:LA) (k:Nat),QC K args k=if ∀ x,x∈args -> -6<=x/\x<=7 then K else some false
 | [],k=>by simp[QC]
 | x::r,k=>by
  rw[QC];unfold Vi;rw[qiB K r (k+1)];by_cases h1:x < -6
  .rw[dT h1,cT,cT,if_neg (fun h=>by have:=h x (A0 ..);omega)]
  rw[dF h1,cN];by_cases h2:x > 7
  .rw[dT h2,cT,if_neg (fun h=>by have:=h x (A0 ..);omega)]
  rw[dF h2,cN]
  have:(∀ y,y∈x::r -> -6<=y/\y<=7)↔∀ y,y∈r -> -6<=y/\y<=7:=by
   simp only[A6,forall_eq_or_imp];exact⟨fun h=>h.2,fun h=>⟨by omega,h⟩⟩
  simp only[this]
theorem qgy (hl:lenOk a.qa=true):UQ a=some (decide (fitP a.qc a.qa)):=by
 unfold UQ;rw[Nw hl,qiB];unfold Zf XD;by_cases h:∀ x,x∈a.qa -> -6<=x/\x<=7
 .rw[if_pos h];by_cases h1:a.qc >= 0
  .rw[dT h1,cT];by_cases h2:a.qc<=5
   .rw[dT h2,cT];by_cases h3:(a.qa.length:Int) >= 1
    .rw[dT h3,cT]
     congr 1
     rw[decide_eq_decide];unfold fitP;constructor
     .intro h4;exact⟨⟨h1,h2⟩,⟨by omega,by omega⟩,h⟩
     intro h4;have:=h4.2.1.2;omega
    rw[dF h3,cN,dF (fun h4:fitP _ _=>by have:=h4.2.1.1;omega)]
   rw[dF h2,cN,dF (fun h4:fitP _ _=>h2 h4.1.2)]
  rw[dF h1,cN,dF (fun h4:fitP _ _=>h1 h4.1.1)]
 rw[if_neg h,dF (fun h4:fitP _ _=>h h4.2.2)]
theorem qbR {a:Nat} (ha:a<256) (hb:b<256):iOr .i64 (a:Int) (b:Int)=((a ||| b:Nat):Int):=by
 have h:a ||| b<256:=F6 (n:=8) ha hb
 unfold iOr
 have e:(BitVec.ofInt IntKind.i64.bits (a:Int) ||| BitVec.ofInt IntKind.i64.bits (b:Int)).toNat=a ||| b:=by
  rw[BitVec.toNat_or]
  have e1:∀ n:Nat,n<256->(BitVec.ofInt IntKind.i64.bits (n:Int)).toNat=n:=fun n hn=>by
   rw[BitVec.ofInt_natCast,BitVec.toNat_ofNat];exact Nat.mod_eq_of_lt (by show n<2 ^ 64;omega)
  rw[e1 a ha,e1 b hb]
 rw[e,wrap64 (by omega) (by omega)]
theorem qkE {x:Int} (h0:0<=x) (h1:x<=7):iShl .i64 1 x=((2 ^ x.toNat:Nat):Int)/\2 ^ x.toNat<256:=by
 obtain⟨n,rfl⟩:=Int.eq_ofNat_of_zero_le h0
 have hn:n<=7:=by omega
 match n,hn with
 | 0,_ | 1,_ | 2,_ | 3,_ | 4,_ | 5,_ | 6,_ | 7,_=>decide
theorem qeJ (K:Int->La):∀ (args:LA) (k m:Nat),m<256->(∀ x,x∈args->x<=7)->∃ m':Nat,m'<256/\QG K args k (m:Int)=K (m':Int)/\∀ i,i<8->(m'.testBit i=true↔m.testBit i=true\/(i:Int)∈args)
 | [],k,m,hm,_=>⟨m,hm,by rw[QG],fun i _=>by simp⟩
 | x::r,k,m,hm,hx=>by
  have hx0:=hx x (A0 ..)
  have hr:∀ y,y∈r->y<=7:=fun y hy=>hx y (A2 _ hy)
  rw[QG];unfold Vk;by_cases h0:x >= 0
  .rw[dT h0,cT,Nw rfl];obtain⟨e1,e2⟩:=qkE h0 hx0;rw[e1,qbR hm e2];obtain⟨m',q1,q2,q3⟩:=qeJ K r (k+1) _ (F6 (n:=8) hm e2) hr;refine⟨m',q1,q2,fun i hi=>?_⟩;rw[q3 i hi,G7,E7,Nat.testBit_two_pow,decide_eq_true_eq,A6]
   have:x.toNat=i↔(i:Int)=x:=by omega
   rw[this];constructor
   .rintro ((h | h) | h)
    .exact .inl h
    .exact .inr (.inl h)
    exact .inr (.inr h)
   rintro (h | h | h)
   .exact .inl (.inl h)
   .exact .inl (.inr h)
   exact .inr h
  rw[dF h0,cN];obtain⟨m',q1,q2,q3⟩:=qeJ K r (k+1) m hm hr;refine⟨m',q1,q2,fun i hi=>?_⟩;rw[q3 i hi,A6]
  have:¬ (i:Int)=x:=by omega
  simp[this]
theorem qfs (hl:lenOk a.qa=true) (hx:∀ x,x∈a.qa->x<=7):∃ m:Nat,m<256/\Uc a=some (m:Int)/\∀ i,i<8->(m.testBit i=true↔(i:Int)∈a.qa):=by
 unfold Uc;rw[Nw hl];obtain⟨m,h1,h2,h3⟩:=qeJ Zi a.qa 0 0 oM hx;exact⟨m,h1,h2,fun i hi=>by rw[h3 i hi];simp⟩
theorem qkw {a:Nat} (ha:a<256) (hb:b<256) (h:∀ i,i<8->(a.testBit i=true↔b.testBit i=true)):a=b:=by
 refine Nat.eq_of_testBit_eq fun i=>?_
 by_cases hi:i<8
 .rw[Bool.eq_iff_iff];exact h i hi
 have h8:256<=2 ^ i:=by
  calc 256=2 ^ 8:=by decide
   _<=2 ^ i:=Nat.pow_le_pow_right oM oM
 rw[H5 (by omega),H5 (by omega)]
open Classical
def szF (f:apiFact):qq:=⟨f.qc,(f.qa.length:Int)⟩
def szA (a:rf2Atom):qq:=⟨a.qc,(a.qa.length:Int)⟩
def sizesR (r:rf3Rule):Lg:=szA r.qf::r.qd.map fun b=>szA b.qe
def conP (S:Lg):Prop:=∀ x,x∈S->∀ y,y∈S->x.f_0=y.f_0->x.f_1=y.f_1
def safeR (r:rf3Rule):Prop:=∀ i:Nat,i<8->(((i:Int)∈r.qf.qa\/∃ b,b∈r.qd/\(i:Int)∈b.qe.qa)↔∃ b,b∈r.qd/\b.qu=false/\(i:Int)∈b.qe.qa)
def okR (r:rf3Rule):Prop:=fitP r.qf.qc r.qf.qa/\r.qd.length<=3/\(∀ b,b∈r.qd->fitP b.qe.qc b.qe.qa)/\safeR r
def VR (l:LN) (facts:LG):Prop:=l.length<=10/\facts.length<=20/\(∀ f,f∈facts->groundP f)/\(∀ r,r∈l->okR r)/\conP (facts.map szF++l.flatMap sizesR)
def okArgs (l:LA):Prop:=lenOk l=true/\∀ x,x∈l->wfI .i64 x=true
def okAtom (a:rf2Atom):Prop:=wfI .i64 a.qc=true/\okArgs a.qa
def okRule (r:rf3Rule):Prop:=okAtom r.qf/\lenOk r.qd=true/\∀ b,b∈r.qd->okAtom b.qe
def okRules (l:LN):Prop:=lenOk l=true/\∀ r,r∈l->okRule r
def okFact (f:apiFact):Prop:=wfI .i64 f.qc=true/\okArgs f.qa
def okFacts (l:LG):Prop:=lenOk l=true/\∀ f,f∈l->okFact f
theorem qft (x:qq) (K:LD):∀ (S:Lg) (k:Nat),Qc x K S k=if ∀ y,y∈S->x.f_0=y.f_0->x.f_1=y.f_1 then K else some false
 | [],k=>by simp[Qc]
 | y::r,k=>by
  rw[Qc];unfold YG;rw[qft x K r (k+1)];simp only[A6,forall_eq_or_imp];by_cases h1:x.f_0=y.f_0
  .have:(x.f_0 == y.f_0)=true:=by simp[h1]
   rw[this,cT];by_cases h2:x.f_1=y.f_1
   .have:(x.f_1 != y.f_1)=false:=by simp[h2]
    rw[this,cN];simp[h2]
   have:(x.f_1 != y.f_1)=true:=by simp[h2]
   rw[this,cT,if_neg (fun h=>h2 (h.1 h1))]
  have:(x.f_0 == y.f_0)=false:=by simp[h1]
  rw[this,cN,cN];simp[h1]
theorem qfu (S:Lg) (hS:lenOk S=true):∀ (T:Lg) (k:Nat),JJ S Qd T k=if ∀ x,x∈T->∀ y,y∈S->x.f_0=y.f_0->x.f_1=y.f_1 then some true else some false
 | [],k=>by simp[JJ,Qd]
 | x::r,k=>by
  rw[JJ,Nw hS,qft];unfold XO;rw[qfu S hS r (k+1)];simp only[A6,forall_eq_or_imp];by_cases h1:∀ y,y∈S->x.f_0=y.f_0->x.f_1=y.f_1
  .rw[if_pos h1];by_cases h2:∀ a,a∈r->∀ y,y∈S->a.f_0=y.f_0->a.f_1=y.f_1
   .rw[if_pos h2,if_pos ⟨h1,h2⟩]
   rw[if_neg h2,if_neg (fun h=>h2 h.2)]
  rw[if_neg h1,if_neg (fun h=>h1 h.1)]
theorem qiJ (hS:lenOk S=true):jC S=if conP S then some true else some false:=by
 unfold jC;rw[Nw hS,qfu S hS];by_cases h:conP S
 .rw[if_pos h];exact if_pos h
 rw[if_neg h];exact if_neg h
theorem qfv (K:Lg->Int->Int->LD):∀ (body:Lp) (k:Nat) (S:Lg) (a b:Nat),(∀ x,x∈body->okAtom x.qe)->a<256->b<256->S.length+body.length<=1000000 ->
  ((∀ x,x∈body->fitP x.qe.qc x.qe.qa)/\∃ a' b':Nat,a'<256/\b'<256/\jv K body k S a b=K (S++body.map fun x=>szA x.qe) a' b' /\
   (∀ i,i<8->(a'.testBit i=true↔a.testBit i=true\/∃ x,x∈body/\(i:Int)∈x.qe.qa))/\∀ i,i<8->(b'.testBit i=true↔b.testBit i=true\/∃ x,x∈body/\x.qu=false/\(i:Int)∈x.qe.qa)) \/
  (¬ (∀ x,x∈body->fitP x.qe.qc x.qe.qa)/\jv K body k S a b=some false)
 | [],k,S,a,b,_,ha,hb,_=>.inl ⟨fun x hx=>by simp at hx,a,b,ha,hb,by rw[jv];simp,fun i _=>by simp,fun i _=>by simp⟩
 | x::r,k,S,a,b,ho,ha,hb,hl=>by
  have hox:=ho x (A0 ..);rw[jv,qgy hox.2.1];simp only[A1];by_cases hf:fitP x.qe.qc x.qe.qa
  .rw[dT hf];simp only[C7,cN];rw[Nw (QP (by omega) (by simp at hl ⊢;omega))];obtain⟨m,hm,hv,hbit⟩:=qfs hox.2.1 (fun y hy=>(hf.2.2 y hy).2);rw[hv];simp only[A1];unfold XP
   have ho':∀ y,y∈r->okAtom y.qe:=fun y hy=>ho y (A2 _ hy)
   have hl':(S++[qq.mk x.qe.qc (x.qe.qa.length:Int)]).length+r.length<=1000000:=by simp at hl ⊢;omega
   have ham:a ||| m<256:=F6 (n:=8) ha hm
   have hbm:b ||| m<256:=F6 (n:=8) hb hm
   have key:∀ b2:Nat,b2<256->(∀ i,i<8->(b2.testBit i=true↔b.testBit i=true\/(x.qu=false/\(i:Int)∈x.qe.qa))) ->
     ((∀ y,y∈x::r->fitP y.qe.qc y.qe.qa)/\∃ a' b':Nat,a'<256/\b'<256/\jv K r (k+1) (S++[qq.mk x.qe.qc (x.qe.qa.length:Int)]) ((a ||| m:Nat):Int) (b2:Int)=K (S++(x::r).map fun x=>szA x.qe) a' b' /\
      (∀ i,i<8->(a'.testBit i=true↔a.testBit i=true\/∃ y,y∈x::r/\(i:Int)∈y.qe.qa))/\∀ i,i<8->(b'.testBit i=true↔b.testBit i=true\/∃ y,y∈x::r/\y.qu=false/\(i:Int)∈y.qe.qa)) \/
     (¬ (∀ y,y∈x::r->fitP y.qe.qc y.qe.qa)/\jv K r (k+1) (S++[qq.mk x.qe.qc (x.qe.qa.length:Int)]) ((a ||| m:Nat):Int) (b2:Int)=some false):=by
    intro b2 hb2 hbits
    rcases qfv K r (k+1) _ (a ||| m) b2 ho' ham hb2 hl' with ⟨q1,a',b',q2,q3,q4,q5,q6⟩ | ⟨q1,q2⟩
    .left;refine⟨fun y hy=>?_,a',b',q2,q3,?_,fun i hi=>?_,fun i hi=>?_⟩
     .rcases List.mem_cons.1 hy with rfl | hy
      .exact hf
      exact q1 y hy
     .rw[q4,C0,D6];rfl
     .rw[q5 i hi,G7,E7,hbit i hi];simp only[A6];constructor
      .rintro ((h | h) | ⟨y,hy,h⟩)
       .exact .inl h
       .exact .inr ⟨x,.inl rfl,h⟩
       exact .inr ⟨y,.inr hy,h⟩
      rintro (h | ⟨y,rfl | hy,h⟩)
      .exact .inl (.inl h)
      .exact .inl (.inr h)
      exact .inr ⟨y,hy,h⟩
     rw[q6 i hi,hbits i hi];simp only[A6];constructor
     .rintro ((h | h) | ⟨y,hy,h⟩)
      .exact .inl h
      .exact .inr ⟨x,.inl rfl,h⟩
      exact .inr ⟨y,.inr hy,h⟩
     rintro (h | ⟨y,rfl | hy,h⟩)
     .exact .inl (.inl h)
     .exact .inl (.inr h)
     exact .inr ⟨y,hy,h⟩
    exact .inr ⟨fun h=>q1 fun y hy=>h y (A2 _ hy),q2⟩
   cases hn:x.qu with
   | true =>
    simp only[C7,cN];rw[qbR ha hm];exact key b hb (fun i _=>by simp[hn])
   | false =>
    simp only[D0,cT];rw[qbR ha hm,qbR hb hm];refine key (b ||| m) hbm (fun i hi=>?_);rw[G7,E7,hbit i hi];simp[hn]
  rw[dF hf];simp only[D0,cT];exact .inr ⟨fun h=>hf (h x (A0 ..)),by first | rfl | trivial⟩
theorem qfw (K:Lg->LD):∀ (l:LN) (k:Nat) (S:Lg),(∀ r,r∈l->okRule r)->S.length+5 * l.length<=100000->jm K l k S=if ∀ r,r∈l->okR r then K (S++l.flatMap sizesR) else some false
 | [],k,S,_,_=>by simp[jm]
 | x::r,k,S,ho,hl=>by
  obtain⟨hoh,hob,hol⟩:=ho x (A0 ..);rw[jm,qgy hoh.2.1];simp only[A1,A6,forall_eq_or_imp];unfold YH;by_cases hf:fitP x.qf.qc x.qf.qa
  .rw[dT hf];simp only[C7,cN];by_cases h3:x.qd.length<=3
   .rw[dF (by omega:¬ (x.qd.length:Int) > 3),cN,Nw (QP (by omega) (by simp at hl ⊢;omega))];obtain⟨m,hm,hv,hbit⟩:=qfs hoh.2.1 (fun y hy=>(hf.2.2 y hy).2);rw[hv];simp only[A1];rw[Nw hob]
    rcases qfv (Jo (jm K r (k+1))) x.qd 0 (S++[qq.mk x.qf.qc (x.qf.qa.length:Int)]) m 0 hol hm oM (by simp at hl ⊢;omega) with ⟨q1,a',b',q2,q3,q4,q5,q6⟩ | ⟨q1,q2⟩
    .rw[show ((0:Nat):Int)=0 from rfl]at q4;rw[q4];unfold Jo
     have hsafe:a'=b'↔safeR x:=by
      constructor
      .rintro rfl i hi
       have h1:=q5 i hi;have h2:=q6 i hi;rw[hbit i hi]at h1;rw[h2]at h1;simp only[Nat.zero_testBit,G4,false_or]at h1;exact h1.symm
      intro h
      refine qkw q2 q3 fun i hi=>?_
      rw[q5 i hi,q6 i hi,hbit i hi];simp only[Nat.zero_testBit,G4,false_or];exact h i hi
     by_cases hs:safeR x
     .have hab:=hsafe.2 hs
      have:((a':Int) != (b':Int))=false:=by simp[hab]
      rw[this,cN,qfw K r (k+1) _ (fun q hq=>ho q (A2 _ hq)) (by simp at hl ⊢;omega)];have hokx:okR x:=⟨hf,h3,q1,hs⟩
      have e:S++[qq.mk x.qf.qc (x.qf.qa.length:Int)]++x.qd.map (fun x=>szA x.qe)++r.flatMap sizesR=S++(x::r).flatMap sizesR:=by
       simp[sizesR,szA]
      rw[e];simp only[hokx,true_and]
     have hab:a'≠b':=fun e=>hs (hsafe.1 e)
     have:((a':Int) != (b':Int))=true:=by simp;omega
     rw[this,cT,if_neg (fun h=>hs h.1.2.2.2)]
    rw[show ((0:Nat):Int)=0 from rfl]at q2;rw[q2,if_neg (fun h=>q1 h.1.2.2.1)]
   rw[dT (by omega:(x.qd.length:Int) > 3),cT,if_neg (fun h=>h3 h.1.2.1)]
  rw[dF hf];simp only[D0,cT];rw[if_neg (fun h=>hf h.1.1)]
theorem qfx (K:Lg->LD):∀ (l:LG) (k:Nat) (S:Lg),(∀ f,f∈l->okFact f)->S.length+l.length<=100000->Xa K l k S=if ∀ f,f∈l->groundP f then K (S++l.map szF) else some false
 | [],k,S,_,_=>by simp[Xa]
 | x::r,k,S,ho,hl=>by
  obtain⟨_,hox,_⟩:=ho x (A0 ..);rw[Xa,DI hox];simp only[A1,A6,forall_eq_or_imp];by_cases hf:groundP x
  .rw[dT hf];simp only[C7,cN];rw[Nw (QP (by omega) (by simp at hl ⊢;omega)),qfx K r (k+1) _ (fun q hq=>ho q (A2 _ hq)) (by simp at hl ⊢;omega)]
   have e:S++[qq.mk x.qc (x.qa.length:Int)]++r.map szF=S++(x::r).map szF:=by simp[szF]
   rw[e];simp only[hf,true_and]
  rw[dF hf];simp only[D0,cT];rw[if_neg (fun h=>hf h.1)]
theorem Vy (hl:okRules l) (hf:okFacts facts):VF l facts=some (decide (VR l facts)):=by
 have key:VF l facts=if VR l facts then some true else some false:=by
  unfold VF Zz;by_cases h1:l.length<=10
  .rw[dF (by omega:¬ (l.length:Int) > 10),cN];by_cases h2:facts.length<=20
   .rw[dF (by omega:¬ (facts.length:Int) > 20),cN,Nw hf.1,qfx _ _ _ _ hf.2 (by simp;omega)];by_cases h3:∀ f,f∈facts->groundP f
    .rw[if_pos h3];unfold Zy;rw[Nw hl.1,F7,qfw _ _ _ _ hl.2 (by simp;omega)];by_cases h4:∀ r,r∈l->okR r
     .rw[if_pos h4,qiJ]
      .by_cases h5:conP (facts.map szF++l.flatMap sizesR)
       .rw[if_pos h5,if_pos ⟨h1,h2,h3,h4,h5⟩]
       rw[if_neg h5,if_neg (fun h=>h5 h.2.2.2.2)]
      refine qM ?_
      have:∀ l:LN,(∀ r,r∈l->okR r)->(l.flatMap sizesR).length<=4 * l.length:=by
       intro l hl
       induction l with
       | nil=>simp
       | cons r l ih =>
        have h5:=ih fun q hq=>hl q (A2 _ hq)
        have h6:=(hl r (A0 ..)).2.1;simp only[List.flatMap_cons,D5,A8,sizesR,A9];omega
      have:=this l h4;simp only[D5,A9];omega
     rw[if_neg h4,if_neg (fun h=>h4 h.2.2.2.1)]
    rw[if_neg h3,if_neg (fun h=>h3 h.2.2.1)]
   rw[dT (by omega:(facts.length:Int) > 20),cT,if_neg (fun h=>h2 h.2.1)]
  rw[dT (by omega:(l.length:Int) > 10),cT,cT,if_neg (fun h=>h1 h.1)]
 rw[key];by_cases h:VR l facts <;> simp[h]
theorem qir {fuel:Nat} (hf:4<=fuel) {l:LA} (h1:1<=l.length) (h2:l.length<=2):∃ m,Ya fuel l=some m/\m∈l/\∀ x,x∈l->m<=x:=by
 obtain⟨f,rfl⟩:∃ f,fuel=f+4:=⟨fuel - 4,by omega⟩
 match l,h1,h2 with
 | [a],_,_ =>
  refine⟨a,?_,by simp,by simp⟩;simp[Ya,JY,Qy,idx]
 | [a,b],_,_ =>
  have e:Ya (f+4) [a,b]=some (if b<a then b else a):=by
   simp[Ya,JY,Qy,idx,wrap64]
  rw[e];by_cases h:b<a
  .rw[if_pos h];exact⟨b,rfl,by simp,by simp;omega⟩
  rw[if_neg h];exact⟨a,rfl,by simp,by simp;omega⟩
theorem qiv {fuel:Nat} (hf:4<=fuel) {l:LA} (h1:1<=l.length) (h2:l.length<=2):∃ m,Qk fuel l=some m/\m∈l/\∀ x,x∈l->x<=m:=by
 obtain⟨f,rfl⟩:∃ f,fuel=f+4:=⟨fuel - 4,by omega⟩
 match l,h1,h2 with
 | [a],_,_ =>
  refine⟨a,?_,by simp,by simp⟩;simp[Qk,Jc,JZ,idx]
 | [a,b],_,_ =>
  have e:Qk (f+4) [a,b]=some (if b > a then b else a):=by
   simp[Qk,Jc,JZ,idx,wrap64]
  rw[e];by_cases h:b > a
  .rw[if_pos h];exact⟨b,rfl,by simp,by simp;omega⟩
  rw[if_neg h];exact⟨a,rfl,by simp,by simp;omega⟩
def rangeP (s:qq):Prop:=(0<=s.f_0/\s.f_0<=5)/\1<=s.f_1/\s.f_1<=2
def Tab (n:LA) (S:Lg):Prop:=n.length=6/\(∀ s,s∈S->rangeP s)/\∀ i:Nat,i<6->(n[i]? = some 0/\∀ s,s∈S->s.f_0≠i)\/∃ k,n[i]? = some k/\k≠0/\(⟨i,k⟩:qq)∈S/\∀ s,s∈S->s.f_0=i->s.f_1=k
theorem Tab.zero:Tab (A3 6 0) []:=⟨by simp,fun s hs=>by simp at hs,fun i hi=>.inl ⟨by rw[F8,if_pos hi],fun s hs=>by simp at hs⟩⟩
theorem Tab.con {n:LA} (h:Tab n S):conP S:=by
 intro x hx y hy hxy;obtain⟨⟨r1,r2⟩,_⟩:=h.2.1 x hx
 rcases h.2.2 x.f_0.toNat oM with ⟨_,q⟩ | ⟨k,_,_,_,q⟩
 .exact absurd (show x.f_0=(x.f_0.toNat:Int) by omega) (q x hx)
 rw[q x hx (by omega),q y hy (by omega)]
theorem Tab.add {n:LA} (h:Tab n S) (rel k:Int) :
  ((rangeP ⟨rel,k⟩/\conP (S++[⟨rel,k⟩]))/\∃ n',Qi n rel k=some (true,n')/\Tab n' (S++[⟨rel,k⟩]))\/(¬ (rangeP ⟨rel,k⟩/\conP (S++[⟨rel,k⟩]))/\Qi n rel k=some (false,n)):=by
 unfold Qi jV;by_cases h1:rel<0
 .rw[dT h1,cT,cT];exact .inr ⟨fun h2=>by have:=h2.1.1.1;simp only at this;omega,rfl⟩
 rw[dF h1,cN];by_cases h2:rel >= 6
 .rw[dT h2,cT,cT];exact .inr ⟨fun h2=>by have:=h2.1.1.2;simp only at this;omega,rfl⟩
 rw[dF h2,cN];by_cases h3:k<1
 .rw[dT h3,cT,cT];exact .inr ⟨fun h2=>by have:=h2.1.2.1;simp only at this;omega,rfl⟩
 rw[dF h3,cN];by_cases h4:k > 2
 .rw[dT h4,cT,cT];exact .inr ⟨fun h2=>by have:=h2.1.2.2;simp only at this;omega,rfl⟩
 rw[dF h4,cN];have hr:rangeP ⟨rel,k⟩:=⟨⟨by simp only;omega,by simp only;omega⟩,by simp only;omega,by simp only;omega⟩;obtain⟨i,rfl⟩:∃ i:Nat,rel=i:=⟨rel.toNat,by omega⟩
 have hi:i<6:=by omega
 have e0:(0+A5 (i:Int) * 1)=i:=by omega
 rw[Nw (dT (by omega)),e0]
 have hset:∀ m:Int,n[i]? = some m->(m=0\/m=k)->conP (S++[⟨i,k⟩])/\Tab (n.set i k) (S++[⟨i,k⟩]):=by
  intro m hm hmk
  have hq:∀ s,s∈S->s.f_0=i->s.f_1=k:=by
   rcases h.2.2 i hi with ⟨q1,q2⟩ | ⟨k',q1,q2,q3,q4⟩
   .exact fun s hs e=>absurd e (q2 s hs)
   rw[hm]at q1;cases q1;intro s hs e;rw[q4 s hs e]
   rcases hmk with h5 | h5
   .exact absurd h5 q2
   exact h5
  have hTab:Tab (n.set i k) (S++[⟨i,k⟩]):=by
   refine⟨by simp[h.1],fun s hs=>?_,fun j hj=>?_⟩
   .rcases List.mem_append.1 hs with hs | hs
    .exact h.2.1 s hs
    rw[List.mem_singleton.1 hs];exact hr
   by_cases hij:j=i
   .subst hij;refine .inr ⟨k,by rw[H7 (by rw[h.1];omega)],by omega,by simp,fun s hs e=>?_⟩
    rcases List.mem_append.1 hs with hs | hs
    .exact hq s hs e
    rw[List.mem_singleton.1 hs]
   rw[H8 (fun e=>hij e.symm)]
   rcases h.2.2 j hj with ⟨q1,q2⟩ | ⟨k',q1,q2,q3,q4⟩
   .refine .inl ⟨q1,fun s hs=>?_⟩
    rcases List.mem_append.1 hs with hs | hs
    .exact q2 s hs
    rw[List.mem_singleton.1 hs];simp only;omega
   refine .inr ⟨k',q1,q2,F9 _ q3,fun s hs e=>?_⟩
   rcases List.mem_append.1 hs with hs | hs
   .exact q4 s hs e
   rw[List.mem_singleton.1 hs]at e;simp only at e;omega
  exact⟨hTab.con,hTab⟩
 have hlen:i<n.length:=by rw[h.1];exact hi
 rcases h.2.2 i hi with ⟨q1,q2⟩ | ⟨k',q1,q2,q3,q4⟩
 .rw[q1];simp only[A1,bne_self_eq_false,cN];rw[Nw (dT (by omega)),Nw (dT hlen)];obtain⟨c1,c2⟩:=hset 0 q1 (.inl rfl);exact .inl ⟨⟨hr,c1⟩,_,rfl,c2⟩
 rw[q1];simp only[A1]
 have:(k' != 0)=true:=by simp[q2]
 rw[this,cT];by_cases hk:k'=k
 .have e1:(k' != k)=false:=by simp[hk]
  rw[e1,cN,Nw (dT (by omega)),Nw (dT (by omega)),Nw (dT hlen)];obtain⟨c1,c2⟩:=hset k' q1 (.inr hk);exact .inl ⟨⟨hr,c1⟩,_,rfl,c2⟩
 have e1:(k' != k)=true:=by simp[hk]
 rw[e1,cT,Nw (dT (by omega))];exact .inr ⟨fun h2=>hk (h2.2 ⟨i,k'⟩ (F9 _ q3) ⟨i,k⟩ (by simp) rfl),rfl⟩
theorem Uj {fuel:Nat} (hf:4<=fuel) (f:apiFact):ZK fuel f=some (decide (groundP f)):=by
 unfold ZK Yo
 rcases Tab.zero.add f.qc (f.qa.length:Int) with ⟨⟨h1,_⟩,n',h2,_⟩ | ⟨h1,h2⟩
 .rw[h2];simp only[A1,cT];obtain⟨⟨r1,r2⟩,r3,r4⟩:=h1;simp only at r1 r2 r3 r4;obtain⟨m,e1,e2,e3⟩:=qir hf (l:=f.qa) oM oM;rw[e1];simp only[A1];by_cases hm:m >= 1
  .rw[dT hm,cT];obtain⟨M,g1,g2,g3⟩:=qiv hf (l:=f.qa) oM oM;rw[g1];simp only[A1]
   congr 1
   rw[decide_eq_decide];constructor
   .intro h;exact⟨⟨r1,r2⟩,⟨by omega,by omega⟩,fun x hx=>⟨by have:=e3 x hx;omega,by have:=g3 x hx;omega⟩⟩
   intro h;exact (h.2.2 M g2).2
  rw[dF hm,cN,dF (fun h:groundP f=>by have:=(h.2.2 m e2).1;omega)]
 rw[h2];simp only[A1,cN];rw[dF];intro h;refine h1 ⟨⟨h.1,by simp only;have:=h.2.1.1;omega,by simp only;have:=h.2.1.2;omega⟩,?_⟩;intro x hx y hy _;rw[F7]at hx hy;rw[List.mem_singleton.1 hx,List.mem_singleton.1 hy]
theorem qay {T:Lg} (h:conP (S++T)):conP S:=fun x hx y hy e=>h x (F9 _ hx) y (F9 _ hy) e
theorem qdY {fuel:Nat} (hf:4<=fuel) (K:LA->LD):∀ (l:LG) (k:Nat) (n:LA) (S:Lg),Tab n S ->
  (((∀ f,f∈l->groundP f)/\conP (S++l.map szF))/\∃ n',JQ fuel K l k n=K n'/\Tab n' (S++l.map szF))\/(¬ ((∀ f,f∈l->groundP f)/\conP (S++l.map szF))/\JQ fuel K l k n=some false)
 | [],k,n,S,h=>.inl ⟨⟨fun f hf=>by simp at hf,by simpa using h.con⟩,n,by rw[JQ],by simpa using h⟩
 | x::r,k,n,S,h=>by
  rw[JQ,Uj hf];simp only[A1];unfold Ym;by_cases hx:groundP x
  .rw[dT hx];simp only[C7,cN]
   have e:S++(x::r).map szF=S++[szF x]++r.map szF:=by simp
   rcases h.add x.qc (x.qa.length:Int) with ⟨⟨q1,q2⟩,n',q3,q4⟩ | ⟨q1,q2⟩
   .rw[q3];simp only[A1,C7,cN]
    rcases qdY hf K r (k+1) n' _ q4 with ⟨⟨p1,p2⟩,n2,p3,p4⟩ | ⟨p1,p2⟩
    .rw[e];refine .inl ⟨⟨fun f hf=>?_,p2⟩,n2,p3,p4⟩
     rcases List.mem_cons.1 hf with rfl | hf
     .exact hx
     exact p1 f hf
    rw[e];exact .inr ⟨fun h2=>p1 ⟨fun f hf=>h2.1 f (A2 _ hf),h2.2⟩,p2⟩
   rw[q2];simp only[A1,D0,cT];refine .inr ⟨fun h2=>q1 ⟨⟨hx.1,?_,?_⟩,?_⟩,by first | rfl | trivial⟩
   .have:=hx.2.1.1;simp only;omega
   .have:=hx.2.1.2;simp only;omega
   rw[e]at h2;exact qay h2.2
  rw[dF hx];simp only[D0,cT];exact .inr ⟨fun h2=>hx (h2.1 x (A0 ..)),by first | rfl | trivial⟩
theorem mgetI (k x:Int) (v:Bool):∀ l:LY,mget keq1 false x (mset keq1 k v l)=if x=k then v else mget keq1 false x l
 | []=>by
  simp only[mset,mget,keq1];by_cases h:x=k
  .subst h;simp
  have:(k == x)=false:=by simp;omega
  simp[this,h]
 | p::r=>by
  have ih:=mgetI k x v r;simp only[mset]
  cases hq:keq1 p.1 k with
  | true =>
   have hpk:p.1=k:=by simpa[keq1] using hq
   simp only[cT,mget,keq1];by_cases h:x=k
   .subst h;simp[hpk]
   have h2:(p.1 == x)=false:=by simp;omega
   rw[h2];simp[h]
  | false =>
   have hpk:¬ p.1=k:=by simpa[keq1] using hq
   simp only[cN,mget];rw[ih];by_cases h:x=k
   .subst h;rw[hq];simp
   simp[h]
theorem qee (k:Int) (v:Bool):∀ l:LY,(mset keq1 k v l).length<=l.length+1
 | []=>by simp[mset]
 | p::r=>by
  have:=qee k v r;unfold mset;cases keq1 p.1 k <;> simp <;> omega
theorem qil (x:ruLit) (K:LY->LD):∀ (args:LA) (k:Nat) (m:LY),(∀ y,y∈args->wfI .i64 y=true)->m.length+args.length<=100000 ->
  ∃ m',jJ x K args k m=K m'/\m'.length<=m.length+args.length/\∀ y,mget keq1 false y m'=true↔mget keq1 false y m=true\/(x.qu=false/\y∈args)
 | [],k,m,_,_=>⟨m,by rw[jJ],by simp,fun y=>by simp⟩
 | a::r,k,m,hw,hl=>by
  have hwa:=hw a (A0 ..)
  have hwr:∀ y,y∈r->wfI .i64 y=true:=fun y hy=>hw y (A2 _ hy)
  rw[A8]at hl;rw[jJ,Nw hwa,Nw hwa,Nw hwa,Nw (by simp[Nat.blt];omega),Nw (by simp[Nat.blt];omega)];unfold Xp
  have key:∀ v:Bool,(v=true↔mget keq1 false a m=true\/x.qu=false)->∃ m',jJ x K r (k+1) (mset keq1 a v m)=K m'/\m'.length<=m.length+(a::r).length/\∀ y,mget keq1 false y m'=true↔mget keq1 false y m=true\/(x.qu=false/\y∈a::r):=by
   intro v hv;have h1:=qee a v m;obtain⟨m',q1,q2,q3⟩:=qil x K r (k+1) (mset keq1 a v m) hwr oM;refine⟨m',q1,by simp;omega,fun y=>?_⟩;rw[q3 y,mgetI,A6];by_cases hy:y=a
   .subst hy;rw[if_pos rfl,hv];constructor
    .rintro ((h | h) | h)
     .exact .inl h
     .exact .inr ⟨h,.inl rfl⟩
     exact .inr ⟨h.1,.inl rfl⟩
    rintro (h | h)
    .exact .inl (.inl h)
    exact .inl (.inr h.1)
   rw[if_neg hy];simp[hy]
  cases hm:mget keq1 false a m with
  | true =>
   rw[cT];exact key true (by simp[hm])
  | false =>
   rw[cN];exact key (!x.qu) (by simp[hm])
theorem qim (K:LY->LD):∀ (body:LS) (k:Nat) (m:LY),(∀ b,b∈body->b.qe.qa.length<=5/\∀ y,y∈b.qe.qa->wfI .i64 y=true)->m.length+5 * body.length<=100000 ->
  ∃ m',jx K body k m=K m'/\∀ y,mget keq1 false y m'=true↔mget keq1 false y m=true\/∃ b,b∈body/\b.qu=false/\y∈b.qe.qa
 | [],k,m,_,_=>⟨m,by rw[jx],fun y=>by simp⟩
 | x::r,k,m,hw,hl=>by
  obtain⟨w1,w2⟩:=hw x (A0 ..);rw[A8]at hl;rw[jx,Nw (qM (by omega))];obtain⟨m1,q1,q2,q3⟩:=qil x (Qn (jx K r (k+1))) x.qe.qa 0 m w2 oM;rw[q1];unfold Qn;obtain⟨m2,p1,p2⟩:=qim K r (k+1) m1 (fun b hb=>hw b (A2 _ hb)) oM;refine⟨m2,p1,fun y=>?_⟩;rw[p2 y,q3 y];simp only[A6];constructor
  .rintro ((h | h) | ⟨b,hb,h⟩)
   .exact .inl h
   .exact .inr ⟨x,.inl rfl,h⟩
   exact .inr ⟨b,.inr hb,h⟩
  rintro (h | ⟨b,rfl | hb,h⟩)
  .exact .inl (.inl h)
  .exact .inl (.inr h)
  exact .inr ⟨b,hb,h⟩
theorem qij (m:LY) (K:LD):∀ (args:LA) (k:Nat),(∀ y,y∈args->wfI .i64 y=true)->Je m K args k=if ∀ v,v∈args->0<=v->mget keq1 false v m=true then K else some false
 | [],k,_=>by simp[Je]
 | a::r,k,hw=>by
  rw[Je];unfold Xo;rw[qij m K r (k+1) fun y hy=>hw y (A2 _ hy)];simp only[A6,forall_eq_or_imp];by_cases h0:a >= 0
  .rw[dT h0,cT,Nw (hw a (A0 ..))]
   cases hm:mget keq1 false a m with
   | true=>simp
   | false =>
    simp only[D0,cT];rw[if_neg (fun h=>by have:=h.1 h0;cases this)]
  rw[dF h0,cN,cN]
  have:(0<=a->mget keq1 false a m=true):=fun h=>absurd h h0
  by_cases h1:∀ v,v∈r->0<=v->mget keq1 false v m=true
  .rw[if_pos h1,if_pos ⟨this,h1⟩]
  rw[if_neg h1,if_neg (fun h=>h1 h.2)]
theorem qik (m:LY):∀ (l:List qo) (k:Nat),(∀ a,a∈l->a.qa.length<=5/\∀ y,y∈a.qa->wfI .i64 y=true)->jH m Jh l k=if ∀ a,a∈l->∀ v,v∈a.qa->0<=v->mget keq1 false v m=true then some true else some false
 | [],k,_=>by simp[jH,Jh]
 | a::r,k,hw=>by
  obtain⟨w1,w2⟩:=hw a (A0 ..);rw[jH,Nw (qM (by omega)),qij _ _ _ _ w2];unfold QI;rw[qik m r (k+1) fun b hb=>hw b (A2 _ hb)];simp only[A6,forall_eq_or_imp];by_cases h1:∀ v,v∈a.qa->0<=v->mget keq1 false v m=true
  .rw[if_pos h1];by_cases h2:∀ a,a∈r->∀ v,v∈a.qa->0<=v->mget keq1 false v m=true
   .rw[if_pos h2,if_pos ⟨h1,h2⟩]
   rw[if_neg h2,if_neg (fun h=>h2 h.2)]
  rw[if_neg h1,if_neg (fun h=>h1 h.1)]
theorem qgM (K:List qo->Option (List qo)):∀ (body:LS) (k:Nat) (acc:List qo),acc.length+body.length<=100000->Jz K body k acc=K (acc++body.map fun x=>x.qe)
 | [],k,acc,_=>by simp[Jz]
 | x::r,k,acc,hl=>by
  rw[Jz,Nw (QP (by omega) (by simp at hl ⊢;omega)),qgM K r (k+1) _ (by simp at hl ⊢;omega)];simp
def atomsU (r:ruRule):List qo:=r.qf::r.qd.map fun x=>x.qe
theorem qeF {r:ruRule} (h:r.qd.length<=5):XN r=some (atomsU r):=by
 unfold XN;rw[Nw (qM (by omega)),qgM _ _ _ _ (by simp;omega)];rfl
def safeU (r:ruRule):Prop:=∀ a,a∈atomsU r->∀ v,v∈a.qa->0<=v->∃ b,b∈r.qd/\b.qu=false/\v∈b.qe.qa
def smallU (r:ruRule):Prop:=r.qd.length<=5/\∀ a,a∈atomsU r->a.qa.length<=5/\∀ y,y∈a.qa->wfI .i64 y=true
theorem qje {r:ruRule} (h:smallU r):Zt r=some (decide (safeU r)):=by
 unfold Zt;rw[Nw (qM (by have:=h.1;omega))];obtain⟨m,q1,q2⟩:=qim (Js r) r.qd 0 [] (fun b hb=>h.2 b.qe (A2 _ (List.mem_map.2 ⟨b,hb,rfl⟩))) (by have:=h.1;simp;omega);rw[q1];unfold Js;rw[qeF h.1];simp only[A1];rw[Nw (qM (by have:=h.1;simp[atomsU];omega)),qik _ _ _ h.2]
 have e:(∀ a,a∈atomsU r->∀ v,v∈a.qa->0<=v->mget keq1 false v m=true)↔safeU r:=by
  unfold safeU;constructor
  .intro h a ha v hv h0;have:=(q2 v).1 (h a ha v hv h0)
   simpa[mget] using this
  intro h a ha v hv h0;exact (q2 v).2 (.inr (h a ha v hv h0))
 by_cases hs:safeU r
 .rw[if_pos (e.2 hs),dT hs]
 rw[if_neg (fun h=>hs (e.1 h)),dF hs]
def szU (a:qo):qq:=⟨a.qc,(a.qa.length:Int)⟩
theorem qdW {fuel:Nat} (hf:4<=fuel) (K:LA->LD):∀ (l:List qo) (k:Nat) (n:LA) (S:Lg),Tab n S ->
  (((∀ a,a∈l->fitP a.qc a.qa)/\conP (S++l.map szU))/\∃ n',Jy fuel K l k n=K n'/\Tab n' (S++l.map szU))\/(¬ ((∀ a,a∈l->fitP a.qc a.qa)/\conP (S++l.map szU))/\Jy fuel K l k n=some false)
 | [],k,n,S,h=>.inl ⟨⟨fun f hf=>by simp at hf,by simpa using h.con⟩,n,by rw[Jy],by simpa using h⟩
 | x::r,k,n,S,h=>by
  rw[Jy];unfold XC
  have e:S++(x::r).map szU=S++[szU x]++r.map szU:=by simp
  rcases h.add x.qc (x.qa.length:Int) with ⟨⟨q1,q2⟩,n',q3,q4⟩ | ⟨q1,q2⟩
  .rw[q3];simp only[A1,C7,cN];obtain⟨⟨r1,r2⟩,r3,r4⟩:=q1;simp only at r1 r2 r3 r4;obtain⟨m,e1,e2,e3⟩:=qir hf (l:=x.qa) oM oM;rw[e1];simp only[A1];by_cases hm:m < -6
   .rw[dT hm,cT,cT];exact .inr ⟨fun h2=>by have:=((h2.1 x (A0 ..)).2.2 m e2).1;omega,rfl⟩
   rw[dF hm,cN];obtain⟨M,g1,g2,g3⟩:=qiv hf (l:=x.qa) oM oM;rw[g1];simp only[A1];by_cases hM:M >= 8
   .rw[dT hM,cT];exact .inr ⟨fun h2=>by have:=((h2.1 x (A0 ..)).2.2 M g2).2;omega,rfl⟩
   rw[dF hM,cN];have hx:fitP x.qc x.qa:=⟨⟨r1,r2⟩,⟨by omega,by omega⟩,fun y hy=>⟨by have:=e3 y hy;omega,by have:=g3 y hy;omega⟩⟩
   rcases qdW hf K r (k+1) n' _ q4 with ⟨⟨p1,p2⟩,n2,p3,p4⟩ | ⟨p1,p2⟩
   .rw[e];refine .inl ⟨⟨fun f hf=>?_,p2⟩,n2,p3,p4⟩
    rcases List.mem_cons.1 hf with rfl | hf
    .exact hx
    exact p1 f hf
   rw[e];exact .inr ⟨fun h2=>p1 ⟨fun f hf=>h2.1 f (A2 _ hf),h2.2⟩,p2⟩
  rw[q2];simp only[A1,D0,cT];refine .inr ⟨fun h2=>q1 ⟨?_,?_⟩,by first | rfl | trivial⟩
  .have hx:=h2.1 x (A0 ..);refine⟨hx.1,?_,?_⟩
   .have:=hx.2.1.1;simp only;omega
   have:=hx.2.1.2;simp only;omega
  rw[e]at h2;exact qay h2.2
def okU (r:ruRule):Prop:=r.qd.length<=3/\safeU r/\∀ a,a∈atomsU r->fitP a.qc a.qa
def sizesU (r:ruRule):Lg:=(atomsU r).map szU
theorem qdX {fuel:Nat} (hf:4<=fuel):∀ (l:LJ) (k:Nat) (n:LA) (S:Lg),Tab n S->(∀ r,r∈l->smallU r) ->
  jZ fuel JI l k n=if (∀ r,r∈l->okU r)/\conP (S++l.flatMap sizesU) then some true else some false
 | [],k,n,S,h,_=>by
  rw[jZ,if_pos ⟨fun r hr=>by simp at hr,by simpa using h.con⟩];rfl
 | x::r,k,n,S,h,hs=>by
  have hsx:=hs x (A0 ..);rw[jZ,qje hsx];unfold Zq;by_cases h3:x.qd.length<=3
  .rw[dF (by omega:¬ (x.qd.length:Int) > 3),cN];simp only[A1];by_cases h4:safeU x
   .rw[dT h4];simp only[C7,cN];rw[qeF hsx.1];simp only[A1];rw[Nw (qM (by have:=hsx.1;simp[atomsU];omega))]
    have e:S++(x::r).flatMap sizesU=S++sizesU x++r.flatMap sizesU:=by simp
    rcases qdW hf (Qa (jZ fuel JI r (k+1))) (atomsU x) 0 n S h with ⟨⟨p1,p2⟩,n2,p3,p4⟩ | ⟨p1,p2⟩
    .rw[p3];unfold Qa;rw[qdX hf r (k+1) n2 _ p4 fun q hq=>hs q (A2 _ hq),e];simp only[A6,forall_eq_or_imp];have hok:okU x:=⟨h3,h4,p1⟩;by_cases h5:(∀ r_1,r_1∈r->okU r_1)/\conP (S++(atomsU x).map szU++r.flatMap sizesU)
     .rw[if_pos h5,if_pos ⟨⟨hok,h5.1⟩,h5.2⟩]
     rw[if_neg h5,if_neg (fun h6=>h5 ⟨h6.1.2,h6.2⟩)]
    rw[p2,if_neg];intro h6;refine p1 ⟨(h6.1 x (A0 ..)).2.2,?_⟩;rw[e]at h6;exact qay h6.2
   rw[dF h4];simp only[D0,cT];rw[if_neg (fun h6=>h4 (h6.1 x (A0 ..)).2.1)]
  rw[dT (by omega:(x.qd.length:Int) > 3),cT,cT,if_neg (fun h6=>h3 (h6.1 x (A0 ..)).1)]
def VU (l:LJ) (facts:LG):Prop:=l.length<=10/\facts.length<=20/\(∀ f,f∈facts->groundP f)/\(∀ r,r∈l->okU r)/\conP (facts.map szF++l.flatMap sizesU)
theorem qhn {fuel:Nat} (hf:4<=fuel) {l:LJ} (hl:l.length<=1000) (hfl:facts.length<=1000) (hs:∀ r,r∈l->smallU r):Yc fuel l facts=some (decide (VU l facts)):=by
 have key:Yc fuel l facts=if VU l facts then some true else some false:=by
  unfold Yc Vf;by_cases h1:l.length<=10
  .rw[dF (by omega:¬ (l.length:Int) > 10),cN];by_cases h2:facts.length<=20
   .rw[dF (by omega:¬ (facts.length:Int) > 20),cN,Nw (qM (by omega))]
    rcases qdY hf (Xx fuel l) facts 0 _ [] Tab.zero with ⟨⟨p1,p2⟩,n2,p3,p4⟩ | ⟨p1,p2⟩
    .rw[p3];unfold Xx;rw[Nw (qM (by omega)),qdX hf l 0 n2 _ p4 hs,F7];by_cases h5:(∀ r,r∈l->okU r)/\conP (facts.map szF++l.flatMap sizesU)
     .rw[if_pos h5,if_pos ⟨h1,h2,p1,h5.1,h5.2⟩]
     rw[if_neg h5,if_neg (fun h=>h5 ⟨h.2.2.2.1,h.2.2.2.2⟩)]
    rw[p2,if_neg (fun h=>p1 ⟨h.2.2.1,by rw[F7];exact qay h.2.2.2.2⟩)]
   rw[dT (by omega:(facts.length:Int) > 20),cT,if_neg (fun h=>h2 h.2.1)]
  rw[dT (by omega:(l.length:Int) > 10),cT,cT,if_neg (fun h=>h1 h.1)]
 rw[key];by_cases h:VU l facts <;> simp[h]
theorem qas:fitP rel (args.take 5)↔fitP rel args/\args.take 5=args:=by
 constructor
 .intro h
  have h1:args.length<=5:=by
   have:=h.2.1.2;rw[List.length_take]at this;omega
  have e:args.take 5=args:=A7 h1;rw[e]at h;exact⟨h,e⟩
 rintro⟨h,e⟩
 rw[e];exact h
theorem HY (h:fitP rel args):args.take 5=args:=A7 (by have:=h.2.1.2;omega)
theorem qgv:groundP (cvF f)↔groundP f:=by
 unfold groundP cvF;constructor
 .intro h
  have h1:f.qa.length<=9:=by
   have:=h.2.1.2;simp only[List.length_take]at this;omega
  rw[A7 h1]at h;exact h
 intro h;rw[A7 (by have:=h.2.1.2;omega)];exact h
theorem qkR (h:groundP f):cvF f=f:=by
 unfold cvF;rw[A7 (by have:=h.2.1.2;omega)]
theorem Uo (h:fitP a.qc a.qa):(cvA a).qa=a.qa:=HY h
theorem qiq (r:rf3Rule):okU (cvR r)↔okR r:=by
 have hb:((cvR r).qd.length<=3↔r.qd.length<=3):=by simp[cvR];omega
 have hbody:r.qd.length<=3->(cvR r).qd=r.qd.map cvL:=fun h=>by unfold cvR;simp only;rw[A7 (by omega)]
 have hatoms:r.qd.length<=3->((∀ a,a∈atomsU (cvR r)->fitP a.qc a.qa)↔(fitP r.qf.qc r.qf.qa/\∀ b,b∈r.qd->fitP b.qe.qc b.qe.qa)):=fun h=>by
  unfold atomsU;rw[hbody h];constructor
  .intro h2;refine⟨(qas.1 (h2 _ (A0 ..))).1,fun b hb=>?_⟩;exact (qas.1 (h2 (cvA b.qe) (A2 _ (List.mem_map.2 ⟨cvL b,List.mem_map.2 ⟨b,hb,rfl⟩,rfl⟩)))).1
  rintro⟨h2,h3⟩ a ha
  rcases List.mem_cons.1 ha with rfl | ha
  .exact qas.2 ⟨h2,HY h2⟩
  obtain⟨y,hy,rfl⟩:=List.mem_map.1 ha;obtain⟨b,hb,rfl⟩:=List.mem_map.1 hy;exact qas.2 ⟨h3 b hb,HY (h3 b hb)⟩
 have hsafe:r.qd.length<=3->(fitP r.qf.qc r.qf.qa/\∀ b,b∈r.qd->fitP b.qe.qc b.qe.qa)->(safeU (cvR r)↔safeR r):=fun h h2=>by
  have hbd:∀ v:Int,(∃ b,b∈(cvR r).qd/\b.qu=false/\v∈b.qe.qa)↔∃ b,b∈r.qd/\b.qu=false/\v∈b.qe.qa:=fun v=>by
   rw[hbody h];constructor
   .rintro⟨y,hy,q1,q2⟩
    obtain⟨b,hb,rfl⟩:=List.mem_map.1 hy;have q2':v∈(cvA b.qe).qa:=q2;rw[Uo (h2.2 b hb)]at q2';exact⟨b,hb,q1,q2'⟩
   rintro⟨b,hb,q1,q2⟩
   refine⟨cvL b,List.mem_map.2 ⟨b,hb,rfl⟩,q1,?_⟩;show v∈(cvA b.qe).qa;rw[Uo (h2.2 b hb)];exact q2
  unfold safeU safeR;constructor
  .intro hu i hi;constructor
   .rintro (h3 | ⟨b,hb,h3⟩)
    .exact (hbd i).1 (hu (cvA r.qf) (A0 ..) i (by rw[Uo h2.1];exact h3) oM)
    refine (hbd i).1 (hu (cvA b.qe) (A2 _ ?_) i (by rw[Uo (h2.2 b hb)];exact h3) oM);rw[hbody h];exact List.mem_map.2 ⟨cvL b,List.mem_map.2 ⟨b,hb,rfl⟩,rfl⟩
   rintro⟨b,hb,_,h3⟩
   exact .inr ⟨b,hb,h3⟩
  intro hr a ha v hv h0;rw[hbd]
  rcases List.mem_cons.1 ha with rfl | ha
  .have hv':v∈r.qf.qa:=by rw[<- Uo h2.1];exact hv
   have h7:=(h2.1.2.2 v hv').2
   have e:((v.toNat:Nat):Int)=v:=by omega
   have:=(hr v.toNat oM).1 (.inl (by rw[e];exact hv'))
   rwa [e]at this
  rw[hbody h]at ha;obtain⟨y,hy,rfl⟩:=List.mem_map.1 ha;obtain⟨b,hb,rfl⟩:=List.mem_map.1 hy
  have hv':v∈b.qe.qa:=by
   have hv2:v∈(cvA b.qe).qa:=hv
   rwa [Uo (h2.2 b hb)]at hv2
  have h7:=((h2.2 b hb).2.2 v hv').2
  have e:((v.toNat:Nat):Int)=v:=by omega
  have:=(hr v.toNat oM).1 (.inr ⟨b,hb,by rw[e];exact hv'⟩)
  rwa [e]at this
 constructor
 .rintro⟨q1,q2,q3⟩
  have h3:=hb.1 q1;have h4:=(hatoms h3).1 q3;exact⟨h4.1,h3,h4.2,(hsafe h3 h4).1 q2⟩
 rintro⟨q1,q2,q3,q4⟩
 exact⟨hb.2 q2,(hsafe q2 ⟨q1,q3⟩).2 q4,(hatoms q2).2 ⟨q1,q3⟩⟩
theorem qfH {r:rf3Rule} (h:okR r):sizesU (cvR r)=sizesR r:=by
 unfold sizesU sizesR atomsU
 have hb:(cvR r).qd=r.qd.map cvL:=by unfold cvR;simp only;rw[A7 (by have:=h.2.1;omega)]
 rw[hb,C0,D4,D4]
 have e:∀ a:rf2Atom,fitP a.qc a.qa->szU (cvA a)=szA a:=fun a ha=>by unfold szU szA;rw[Uo ha];rfl
 have h1:szU (cvR r).qf=szA r.qf:=e _ h.1;rw[h1]
 congr 1
 refine D8 fun b hb=>?_
 exact e b.qe (h.2.2.1 b hb)
theorem qlR (l:LN) (facts:LG):VU ((l.take 12).map cvR) ((facts.take 26).map cvF)↔VR l facts:=by
 have key:l.length<=10->facts.length<=20->(VU (l.map cvR) (facts.map cvF)↔VR l facts):=by
  intro h1 h2
  have hok:(∀ r,r∈l.map cvR->okU r)↔∀ r,r∈l->okR r:=by
   simp only[List.mem_map,forall_exists_index,and_imp,forall_apply_eq_imp_iff₂,qiq]
  have hgr:(∀ f,f∈facts.map cvF->groundP f)↔∀ f,f∈facts->groundP f:=by
   simp only[List.mem_map,forall_exists_index,and_imp,forall_apply_eq_imp_iff₂,qgv]
  unfold VU VR;rw[hok,hgr,A9,A9];constructor
  .rintro⟨_,_,h3,h4,h5⟩
   refine⟨h1,h2,h3,h4,?_⟩
   have e1:(facts.map cvF).map szF=facts.map szF:=by rw[D4];exact D8 fun f hf=>by simp[qkR (h3 f hf)]
   have e2:(l.map cvR).flatMap sizesU=l.flatMap sizesR:=by
    rw[List.flatMap_map];rw[G0,G0]
    congr 1
    exact D8 fun r hr=>qfH (h4 r hr)
   rw[e1,e2]at h5;exact h5
  rintro⟨_,_,h3,h4,h5⟩
  refine⟨h1,h2,h3,h4,?_⟩
  have e1:(facts.map cvF).map szF=facts.map szF:=by rw[D4];exact D8 fun f hf=>by simp[qkR (h3 f hf)]
  have e2:(l.map cvR).flatMap sizesU=l.flatMap sizesR:=by
   rw[List.flatMap_map];rw[G0,G0]
   congr 1
   exact D8 fun r hr=>qfH (h4 r hr)
  rw[e1,e2];exact h5
 by_cases h1:l.length<=10
 .by_cases h2:facts.length<=20
  .rw[A7 (by omega),A7 (by omega)];exact key h1 h2
  constructor
  .intro h;have:=h.2.1;simp at this;omega
  intro h;exact absurd h.2.1 h2
 constructor
 .intro h;have:=h.1;simp at this;omega
 intro h;exact absurd h.1 h1
theorem qiR (hl:okRules l):∀ r,r∈(l.take 12).map cvR->smallU r:=by
 intro r hr;obtain⟨q,hq,rfl⟩:=List.mem_map.1 hr;obtain⟨h1,h2,h3⟩:=hl.2 q (G1 hq);refine⟨by simp[cvR];omega,fun a ha=>?_⟩
 rcases List.mem_cons.1 ha with rfl | ha
 .exact⟨by simp[cvR,cvA];omega,fun y hy=>h1.2.2 y (G1 hy)⟩
 obtain⟨y,hy,rfl⟩:=List.mem_map.1 ha;obtain⟨b,hb,rfl⟩:=List.mem_map.1 hy;exact⟨by simp[cvL,cvA];omega,fun y hy=>(h3 b (G1 hb)).2.2 y (G1 hy)⟩
theorem Dt {fuel:Nat} (hf:4<=fuel) (hl:okRules l):Yc fuel ((l.take 12).map cvR) ((facts.take 26).map cvF)=some (decide (VR l facts)):=by
 rw[qhn hf (by simp;omega) (by simp;omega) (qiR hl)]
 congr 1
 rw[decide_eq_decide];exact qlR l facts
structure Edge where
 h:Nat
 b:Nat
 d:Int
def Edge.ok (e:Edge):Prop:=e.h<6/\e.b<6/\0<=e.d/\e.d<=1
def stepE (v:LA) (e:Edge):LA:=v.set e.h (if v.getD e.b 0+e.d > v.getD e.h 0 then v.getD e.b 0+e.d else v.getD e.h 0)
def rndE (E:List Edge) (v:LA):LA:=E.foldl stepE v
def iterE (E:List Edge) (v:LA):Nat->LA
 | 0=>v
 | n+1=>iterE E (rndE E v) n
theorem Yl (v:LA) (e:Edge):(stepE v e).length=v.length:=by simp[stepE]
theorem NL (E:List Edge):∀ v,(rndE E v).length=v.length:=by
 induction E with
 | nil=>intro v;rfl
 | cons e E ih=>intro v;rw[show rndE (e::E) v=rndE E (stepE v e) from rfl,ih,Yl]
theorem UM (hv:v.length=6) {e:Edge} (he:e.ok) (i:Nat):(stepE v e).getD i 0=if i=e.h then (if v.getD e.b 0+e.d > v.getD e.h 0 then v.getD e.b 0+e.d else v.getD e.h 0) else v.getD i 0:=by
 unfold stepE;simp only[A4];by_cases hi:i=e.h
 .subst hi;rw[H7 (by rw[hv];exact he.1),if_pos rfl];rfl
 rw[H8 (fun h=>hi h.symm),if_neg hi]
theorem HI {w:LA} (hv:v.length=6) (hw:w.length=6) (h:∀ i,i<6->v.getD i 0=w.getD i 0):v=w:=by
 refine D9 (by rw[hv,hw]) fun i h1 h2=>?_
 have:=h i oM;rw[A4,A4,B1 h1,B1 h2]at this;exact this
theorem qcd (hv:v.length=6) {e:Edge} (he:e.ok) (i:Nat):v.getD i 0<=(stepE v e).getD i 0:=by
 rw[UM hv he];split
 .rename_i h;subst h;split <;> omega
 omega
theorem Hs {E:List Edge} (hE:∀ e,e∈E->e.ok):∀ {v:LA},v.length=6->∀ i,v.getD i 0<=(rndE E v).getD i 0:=by
 induction E with
 | nil=>intro v hv i;exact G2 _
 | cons e E ih =>
  intro v hv i;have h1:=qcd hv (hE e (A0 ..)) i;have h2:=ih (fun f hf=>hE f (A2 _ hf)) (v:=stepE v e) (by rw[Yl,hv]) i;exact Int.le_trans h1 h2
theorem qcp {E:List Edge} (hE:∀ e,e∈E->e.ok):∀ {v:LA} {B:Int},v.length=6->0<=B->(∀ i,0<=v.getD i 0/\v.getD i 0<=B)->∀ i,0<=(rndE E v).getD i 0/\(rndE E v).getD i 0<=B+E.length:=by
 induction E with
 | nil=>intro v B hv hB h i;simpa[rndE] using h i
 | cons e E ih =>
  intro v B hv hB h i;have he:=hE e (A0 ..)
  have h1:∀ i,0<=(stepE v e).getD i 0/\(stepE v e).getD i 0<=B+1:=fun i=>by
   rw[UM hv he];have a:=h e.b;have b:=h e.h;have c:=h i;have:=he.2.2;split
   .split <;> omega
   omega
  have:=ih (fun f hf=>hE f (A2 _ hf)) (v:=stepE v e) (by rw[Yl,hv]) oM h1 i;rw[A8];show 0<=(rndE E (stepE v e)).getD i 0/\(rndE E (stepE v e)).getD i 0<=_;omega
def preE (E:List Edge) (p:Nat->Int):Prop:=∀ e,e∈E->p e.b+e.d<=p e.h
theorem qke {E:List Edge} (hE:∀ e,e∈E->e.ok) {p:Nat->Int}:preE E p->∀ {v:LA},v.length=6->(∀ i,v.getD i 0<=p i)->∀ i,(rndE E v).getD i 0<=p i:=by
 induction E with
 | nil=>intro _ v _ h i;exact h i
 | cons e E ih =>
  intro hp v hv h i;have he:=hE e (A0 ..);refine ih (fun f hf=>hE f (A2 _ hf)) (fun f hf=>hp f (A2 _ hf)) (v:=stepE v e) (by rw[Yl,hv]) (fun j=>?_) i;rw[UM hv he];have a:=h e.b;have b:=h e.h;have c:=hp e (A0 ..);split
  .rename_i hj;subst hj;split <;> omega
  exact h j
theorem qkf {E:List Edge} (hE:∀ e,e∈E->e.ok):∀ {v:LA},v.length=6->rndE E v=v->preE E (fun i=>v.getD i 0):=by
 induction E with
 | nil=>intro v _ _ e he;simp at he
 | cons e E ih =>
  intro v hv h;have he:=hE e (A0 ..)
  have hE':∀ f,f∈E->f.ok:=fun f hf=>hE f (A2 _ hf)
  have h1:rndE E (stepE v e)=v:=h
  have hs:stepE v e=v:=by
   refine HI (by rw[Yl,hv]) hv fun i _=>?_
   have a:=qcd hv he i;have b:=Hs hE' (v:=stepE v e) (by rw[Yl,hv]) i;rw[h1]at b;omega
  rw[hs]at h1;intro f hf
  rcases List.mem_cons.1 hf with rfl | hf
  .have:(stepE v f).getD f.h 0=v.getD f.h 0:=by rw[hs]
   show v.getD f.b 0+f.d<=v.getD f.h 0;rw[UM hv he,if_pos rfl]at this;split at this <;> omega
  exact ih hE' hv h1 f hf
def sum6 (v:LA):Int:=v.getD 0 0+v.getD 1 0+v.getD 2 0+v.getD 3 0+v.getD 4 0+v.getD 5 0
theorem qkd {E:List Edge} (hE:∀ e,e∈E->e.ok) (hv:v.length=6) (hne:rndE E v≠v):sum6 v+1<=sum6 (rndE E v):=by
 have h:=Hs hE hv
 have:∃ i,i<6/\v.getD i 0≠(rndE E v).getD i 0:=by
  refine Classical.byContradiction fun hn=>hne (HI (by rw[NL,hv]) hv fun i hi=>?_)
  refine Classical.byContradiction fun h2=>hn ⟨i,hi,fun e=>h2 e.symm⟩
 obtain⟨i,hi,hni⟩:=this;have a0:=h 0;have a1:=h 1;have a2:=h 2;have a3:=h 3;have a4:=h 4;have a5:=h 5;unfold sum6
 match i,hi with
 | 0,_ | 1,_ | 2,_ | 3,_ | 4,_ | 5,_=>omega
theorem pig:∀ (n:Nat) (l:LQ),l.Nodup->(∀ x,x∈l->x<n)->l.length<=n
 | 0,l,_,h=>by
  cases l with
  | nil=>simp
  | cons a l=>exact absurd (h a (A0 ..)) oM
 | n+1,l,hn,h=>by
  have:=pig n (l.erase n) (hn.erase n) (fun x hx=>by
   have h1:=(hn.mem_erase_iff).1 hx;have h2:=h x h1.2;have:=h1.1
   omega)
  rw[List.length_erase]at this;split at this <;> omega
theorem qlN {E:List Edge} (hv:v.length=6) (h0:∀ i,0<=v.getD i 0) (hpre:preE E (fun i=>v.getD i 0)) (hleast:∀ p:Nat->Int,(∀ i,0<=p i)->preE E p->∀ i,v.getD i 0<=p i) (hE:∀ e,e∈E->e.ok):∀ i,v.getD i 0<=5:=by
 intro j
 refine Classical.byContradiction fun hj=>?_
 have hj:6<=v.getD j 0:=by omega
 have hj6:j<6:=by
  refine Classical.byContradiction fun h=>?_
  rw[A4,H9 (by omega)]at hj;simp at hj
 have:∃ m:Int,0<=m/\m<=5/\∀ i,i<6->v.getD i 0≠m:=by
  refine Classical.byContradiction fun hn=>?_
  have hall:∀ m:Nat,m<6->∃ i,i<6/\v.getD i 0=(m:Int):=fun m hm=>by
   refine Classical.byContradiction fun h2=>hn ⟨m,by omega,by omega,fun i hi e=>h2 ⟨i,hi,e⟩⟩
  have hall7:∀ m:Nat,m<7->∃ i,i<6/\(if v.getD i 0<=5 then v.getD i 0 else 6)=(m:Int):=fun m hm=>by
   by_cases h6:m<6
   .obtain⟨i,hi,he⟩:=hall m h6;exact⟨i,hi,by rw[if_pos (by omega)];exact he⟩
   exact⟨j,hj6,by rw[if_neg (by omega)];omega⟩
  obtain⟨i0,q0,p0⟩:=hall7 0 oM;obtain⟨i1,q1,p1⟩:=hall7 1 oM;obtain⟨i2,q2,p2⟩:=hall7 2 oM;obtain⟨i3,q3,p3⟩:=hall7 3 oM;obtain⟨i4,q4,p4⟩:=hall7 4 oM;obtain⟨i5,q5,p5⟩:=hall7 5 oM;obtain⟨i6,q6,p6⟩:=hall7 6 oM
  have ne:∀ {a b:Nat} {x y:Nat},(if v.getD a 0<=5 then v.getD a 0 else 6)=(x:Int)->(if v.getD b 0<=5 then v.getD b 0 else 6)=(y:Int)->x≠y->a≠b:=fun h1 h2 h3 e=>by subst e;rw[h1]at h2;omega
  have:=pig 6 [i0,i1,i2,i3,i4,i5,i6] (by
   simp only[List.nodup_cons,A6,List.not_mem_nil,or_false,not_or,List.nodup_nil,and_true,not_false_eq_true]
   exact⟨⟨ne p0 p1 oM,ne p0 p2 oM,ne p0 p3 oM,ne p0 p4 oM,ne p0 p5 oM,ne p0 p6 oM⟩,⟨ne p1 p2 oM,ne p1 p3 oM,ne p1 p4 oM,ne p1 p5 oM,ne p1 p6 oM⟩,⟨ne p2 p3 oM,ne p2 p4 oM,ne p2 p5 oM,ne p2 p6 oM⟩,⟨ne p3 p4 oM,ne p3 p5 oM,ne p3 p6 oM⟩,⟨ne p4 p5 oM,ne p4 p6 oM⟩,ne p5 p6 oM⟩) (fun x hx=>by
   simp only[A6,List.not_mem_nil,or_false]at hx
   rcases hx with rfl | rfl | rfl | rfl | rfl | rfl | rfl <;> assumption)
  simp at this
 obtain⟨m,m0,m5,hm⟩:=this
 have hp:=hleast (fun i=>if v.getD i 0 > m then v.getD i 0 - 1 else v.getD i 0) (fun i=>by have:=h0 i;show 0<=(if v.getD i 0 > m then v.getD i 0 - 1 else v.getD i 0);split <;> omega) (fun e he=>by
  have h1:=hpre e he;have h2:=hm e.h (hE e he).1;have h3:=hm e.b (hE e he).2.1;have h4:=(hE e he).2.2;replace h1:v.getD e.b 0+e.d<=v.getD e.h 0:=h1;show (if v.getD e.b 0 > m then v.getD e.b 0 - 1 else v.getD e.b 0)+e.d<=(if v.getD e.h 0 > m then v.getD e.h 0 - 1 else v.getD e.h 0)
  split <;> split <;> omega) j
 replace hp:v.getD j 0<=(if v.getD j 0 > m then v.getD j 0 - 1 else v.getD j 0):=hp;rw[if_pos (by omega)]at hp;omega
def edgeOf (h b:Int) (n:Bool):Edge:=⟨h.toNat,b.toNat,if n then 1 else 0⟩
def edgesU (l:LJ):List Edge:=l.flatMap fun r=>r.qd.map fun b=>edgeOf r.qf.qc b.qe.qc b.qu
def edgesR (l:LN):List Edge:=l.flatMap fun r=>r.qd.map fun b=>edgeOf r.qf.qc b.qe.qc b.qu
def rel6 (n:Int):Prop:=0<=n/\n<=5
def in6 (v:LA) (B:Int):Prop:=v.length=6/\∀ i,0<=v.getD i 0/\v.getD i 0<=B
theorem ZW {h b:Int} {n:Bool} (h1:rel6 h) (h2:rel6 b):(edgeOf h b n).ok:=by
 have:=h1.1;have:=h1.2;have:=h2.1;have:=h2.2
 refine⟨?_,?_,?_,?_⟩ <;> unfold edgeOf <;> dsimp only <;> first | omega | (split <;> omega)
theorem get6 (hv:in6 v B) (h:rel6 n):v[0+A5 n]? = some (v.getD n.toNat 0):=by
 have:=h.1;have:=h.2;rw[D2,A4,B1 (by rw[hv.1];omega)];rfl
theorem upd6 (hv:in6 v B) (h:rel6 n) (x:Int):upd v (0+A5 n) x=some (v.set n.toNat x):=by
 have:=h.1;have:=h.2;unfold upd;rw[D2,if_pos (by rw[hv.1];omega)]
theorem set6 (hv:in6 v B) {n:Nat}:v.set n (v.getD n 0)=v:=by
 refine D9 (by simp) fun i h1 h2=>?_
 rw[List.getElem_set];split
 .rename_i h;subst h;rw[A4,B1 h2];rfl
 rfl
theorem qgt (hv:in6 v B) (hB:0<=B) {e:Edge} (he:e.ok):in6 (stepE v e) (B+1):=by
 refine⟨by rw[Yl,hv.1],fun i=>?_⟩;have:=qcp (E:=[e]) (fun f hf=>by simp at hf;subst hf;exact he) hv.1 hB hv.2 i
 simpa[rndE] using this
theorem qjS {E:List Edge} (hE:∀ e,e∈E->e.ok) {e:Edge} (he:e.ok) (hv:v.length=6):rndE (e::E) v=v↔stepE v e=v/\rndE E v=v:=by
 have e1:rndE (e::E) v=rndE E (stepE v e):=rfl;constructor
 .intro h
  have hs:stepE v e=v:=by
   refine HI (by rw[Yl,hv]) hv fun i _=>?_
   have a:=qcd hv he i;have b:=Hs hE (v:=stepE v e) (by rw[Yl,hv]) i;rw[<- e1,h]at b;omega
  refine⟨hs,?_⟩;rw[e1,hs]at h;exact h
 rintro⟨h1,h2⟩
 rw[e1,h1,h2]
theorem Dy (E F:List Edge) (v:LA):rndE (E++F) v=rndE F (rndE E v):=List.foldl_append ..
theorem qco {E F:List Edge} (hE:∀ e,e∈E->e.ok) (hF:∀ e,e∈F->e.ok) (hv:v.length=6):rndE (E++F) v=v↔rndE E v=v/\rndE F v=v:=by
 rw[Dy];constructor
 .intro h
  have hs:rndE E v=v:=by
   refine HI (by rw[NL,hv]) hv fun i _=>?_
   have a:=Hs hE hv i;have b:=Hs hF (v:=rndE E v) (by rw[NL,hv]) i;rw[h]at b;omega
  refine⟨hs,?_⟩;rw[hs]at h;exact h
 rintro⟨h1,h2⟩
 rw[h1,h2]
theorem relDec (h:rel6 n):decide ((0:Int)<=n/\n<(((A5 6):Nat):Int))=true:=by
 have:=h.1;have:=h.2;refine dT ⟨by omega,?_⟩;rw[show (((A5 6):Nat):Int)=6 from rfl];omega
theorem qjZ (x2:ruRule) (hx:rel6 x2.qf.qc) (K:LA->Bool->LZ):∀ (body:LS) (k:Nat) (v:LA) (ch:Bool) (B:Int),(∀ b,b∈body->rel6 b.qe.qc)->in6 v B->0<=B->B+body.length<=1000000 ->
  ∃ c,jG x2 K body k v ch=K (rndE (body.map fun b=>edgeOf x2.qf.qc b.qe.qc b.qu) v) c/\(c=true↔ch=true\/rndE (body.map fun b=>edgeOf x2.qf.qc b.qe.qc b.qu) v≠v)
 | [],k,v,ch,B,_,_,_,_=>⟨ch,by rw[jG];rfl,by simp[rndE]⟩
 | b::body,k,v,ch,B,hb,hv,hB,hl=>by
  have hbb:=hb b (A0 ..)
  have hb':∀ c,c∈body->rel6 c.qe.qc:=fun c hc=>hb c (A2 _ hc)
  rw[A8]at hl;have he:=ZW (n:=b.qu) hx hbb
  have hE:∀ e,e∈body.map (fun b=>edgeOf x2.qf.qc b.qe.qc b.qu)->e.ok:=fun e h=>by
   obtain⟨c,hc,rfl⟩:=List.mem_map.1 h;exact ZW hx (hb' c hc)
  have hs:=qgt hv hB he
  have key:∀ w:Int,w=v.getD b.qe.qc.toNat 0+(edgeOf x2.qf.qc b.qe.qc b.qu).d->∃ c,XM x2 v ch (Qz (jG x2 K body (k+1))) w=K (rndE ((b::body).map fun b=>edgeOf x2.qf.qc b.qe.qc b.qu) v) c/\(c=true↔ch=true\/rndE ((b::body).map fun b=>edgeOf x2.qf.qc b.qe.qc b.qu) v≠v):=fun w hw=>by
   unfold XM Qz;rw[Nw (relDec hx),get6 hv hx];simp only[A1];rw[C0];by_cases hgt:w > v.getD x2.qf.qc.toNat 0
   .rw[dT hgt,cT,Nw (relDec hx),upd6 hv hx];simp only[A1]
    have es:v.set x2.qf.qc.toNat w=stepE v (edgeOf x2.qf.qc b.qe.qc b.qu):=by
     show _=v.set x2.qf.qc.toNat (if v.getD b.qe.qc.toNat 0+_ > v.getD x2.qf.qc.toNat 0 then _ else _);rw[if_pos (by rw[<- hw];exact hgt),hw];rfl
    rw[es];obtain⟨c,h1,h2⟩:=qjZ x2 hx K body (k+1) (stepE v (edgeOf x2.qf.qc b.qe.qc b.qu)) true (B+1) hb' hs oM oM;refine⟨c,h1,?_⟩;have hc:c=true:=h2.2 (.inl rfl);refine⟨fun _=>.inr fun hf=>?_,fun _=>hc⟩;have hf:=((qjS hE he hv.1).1 hf).1;have:=congrArg (fun z=>z.getD x2.qf.qc.toNat 0) hf;replace this:(stepE v (edgeOf x2.qf.qc b.qe.qc b.qu)).getD x2.qf.qc.toNat 0=v.getD x2.qf.qc.toNat 0:=this;rw[UM hv.1 he,if_pos (show x2.qf.qc.toNat=(edgeOf x2.qf.qc b.qe.qc b.qu).h from rfl)]at this;replace this:(if v.getD b.qe.qc.toNat 0+(edgeOf x2.qf.qc b.qe.qc b.qu).d > v.getD x2.qf.qc.toNat 0 then v.getD b.qe.qc.toNat 0+(edgeOf x2.qf.qc b.qe.qc b.qu).d else v.getD x2.qf.qc.toNat 0)=v.getD x2.qf.qc.toNat 0:=this;rw[<- hw,if_pos hgt]at this;omega
   rw[dF hgt,cN]
   have es:stepE v (edgeOf x2.qf.qc b.qe.qc b.qu)=v:=by
    show v.set x2.qf.qc.toNat (if v.getD b.qe.qc.toNat 0+_ > v.getD x2.qf.qc.toNat 0 then _ else _)=v;rw[if_neg (by rw[<- hw];exact hgt)];exact set6 hv
   obtain⟨c,h1,h2⟩:=qjZ x2 hx K body (k+1) v ch B hb' hv hB oM;refine⟨c,?_,?_⟩
   .rw[h1];show _=K (rndE _ (stepE v _)) c;rw[es]
   rw[h2];show _↔ch=true\/rndE _ (stepE v _)≠v;rw[es]
  rw[jG,Nw (relDec hbb),get6 hv hbb];simp only[A1];have hg:=hv.2 b.qe.qc.toNat
  cases hn:b.qu with
  | true =>
   rw[cT]
   have hw:D1 .i64 (v.getD b.qe.qc.toNat 0+1)=v.getD b.qe.qc.toNat 0+(edgeOf x2.qf.qc b.qe.qc b.qu).d:=by
    rw[wrap64 (by omega) (by omega),hn];rfl
   have:=key _ hw;rw[C0,hn]at this;rw[C0,hn];exact this
  | false =>
   rw[cN]
   have hw:v.getD b.qe.qc.toNat 0=v.getD b.qe.qc.toNat 0+(edgeOf x2.qf.qc b.qe.qc b.qu).d:=by
    rw[hn];show _=_+(0:Int);omega
   have:=key _ hw;rw[C0,hn]at this;rw[C0,hn];exact this
theorem qlG (x2:rf3Rule) (hx:rel6 x2.qf.qc) (K:LA->Lc):∀ (body:Lp) (k:Nat) (v:LA) (B:Int),(∀ b,b∈body->rel6 b.qe.qc)->in6 v B->0<=B->B+body.length<=1000000 ->
  Jp x2 K body k v=K (rndE (body.map fun b=>edgeOf x2.qf.qc b.qe.qc b.qu) v)
 | [],k,v,B,_,_,_,_=>by rw[Jp];rfl
 | b::body,k,v,B,hb,hv,hB,hl=>by
  have hbb:=hb b (A0 ..)
  have hb':∀ c,c∈body->rel6 c.qe.qc:=fun c hc=>hb c (A2 _ hc)
  rw[A8]at hl;have he:=ZW (n:=b.qu) hx hbb;have hs:=qgt hv hB he
  have key:∀ w:Int,w=v.getD b.qe.qc.toNat 0+(edgeOf x2.qf.qc b.qe.qc b.qu).d->Xr x2 v (Jp x2 K body (k+1)) w=K (rndE ((b::body).map fun b=>edgeOf x2.qf.qc b.qe.qc b.qu) v):=fun w hw=>by
   unfold Xr;rw[Nw (relDec hx),get6 hv hx];simp only[A1];rw[Nw (relDec hx),upd6 hv hx];simp only[A1];rw[hw];exact qlG x2 hx K body (k+1) (stepE v (edgeOf x2.qf.qc b.qe.qc b.qu)) (B+1) hb' hs oM oM
  rw[Jp,Nw (relDec hbb),get6 hv hbb];simp only[A1];have hg:=hv.2 b.qe.qc.toNat
  cases hn:b.qu with
  | true =>
   rw[cT]
   have hw:D1 .i64 (v.getD b.qe.qc.toNat 0+1)=v.getD b.qe.qc.toNat 0+(edgeOf x2.qf.qc b.qe.qc b.qu).d:=by
    rw[wrap64 (by omega) (by omega),hn];rfl
   exact key _ hw
  | false =>
   rw[cN]
   have hw:v.getD b.qe.qc.toNat 0=v.getD b.qe.qc.toNat 0+(edgeOf x2.qf.qc b.qe.qc b.qu).d:=by
    rw[hn];show _=_+(0:Int);omega
   exact key _ hw
def relsU (l:LJ):Prop:=∀ r,r∈l->rel6 r.qf.qc/\r.qd.length<=3/\∀ b,b∈r.qd->rel6 b.qe.qc
def relsR (l:LN):Prop:=∀ r,r∈l->rel6 r.qf.qc/\r.qd.length<=3/\∀ b,b∈r.qd->rel6 b.qe.qc
theorem qew {l:LJ} (h:relsU l):∀ e,e∈edgesU l->e.ok:=fun e he=>by
 obtain⟨r,hr,he⟩:=List.mem_flatMap.1 he;obtain⟨b,hb,rfl⟩:=List.mem_map.1 he;exact ZW (h r hr).1 ((h r hr).2.2 b hb)
theorem qex (h:relsR l):∀ e,e∈edgesR l->e.ok:=fun e he=>by
 obtain⟨r,hr,he⟩:=List.mem_flatMap.1 he;obtain⟨b,hb,rfl⟩:=List.mem_map.1 he;exact ZW (h r hr).1 ((h r hr).2.2 b hb)
theorem qhO {l:LJ} (h:relsU l):(edgesU l).length<=3 * l.length:=by
 induction l with
 | nil=>simp[edgesU]
 | cons r l ih =>
  have:=ih fun q hq=>h q (A2 _ hq)
  have h1:=(h r (A0 ..)).2.1;have e:edgesU (r::l)=(r.qd.map fun b=>edgeOf r.qf.qc b.qe.qc b.qu)++edgesU l:=rfl;rw[e,D5,A9,A8];omega
theorem qhP (h:relsR l):(edgesR l).length<=3 * l.length:=by
 induction l with
 | nil=>simp[edgesR]
 | cons r l ih =>
  have:=ih fun q hq=>h q (A2 _ hq)
  have h1:=(h r (A0 ..)).2.1;have e:edgesR (r::l)=(r.qd.map fun b=>edgeOf r.qf.qc b.qe.qc b.qu)++edgesR l:=rfl;rw[e,D5,A9,A8];omega
theorem qbQ {E:List Edge} (hE:∀ e,e∈E->e.ok) (hv:in6 v B) (hB:0<=B):in6 (rndE E v) (B+E.length) :=
 ⟨by rw[NL,hv.1],qcp hE hv.1 hB hv.2⟩
theorem qlD (K:LA->Bool->LZ):∀ (l:LJ) (k:Nat) (v:LA) (ch:Bool) (B:Int),relsU l->in6 v B->0<=B->B+3 * l.length<=1000000 ->
  ∃ c,ji K l k v ch=K (rndE (edgesU l) v) c/\(c=true↔ch=true\/rndE (edgesU l) v≠v)
 | [],k,v,ch,B,_,_,_,_=>⟨ch,by rw[ji];rfl,by simp[rndE,edgesU]⟩
 | r::l,k,v,ch,B,hr,hv,hB,hl=>by
  have h1:=hr r (A0 ..)
  have hr':relsU l:=fun q hq=>hr q (A2 _ hq)
  rw[A8]at hl;rw[ji,Nw (qM (by have:=h1.2.1;omega))]
  have hE:∀ e,e∈r.qd.map (fun b=>edgeOf r.qf.qc b.qe.qc b.qu)->e.ok:=fun e h=>by
   obtain⟨c,hc,rfl⟩:=List.mem_map.1 h;exact ZW h1.1 (h1.2.2 c hc)
  obtain⟨c,e1,e2⟩:=qjZ r h1.1 (Jd (ji K l (k+1))) r.qd 0 v ch B h1.2.2 hv hB (by have:=h1.2.1;omega);rw[e1];unfold Jd;have hs:=qbQ hE hv hB;rw[A9]at hs;obtain⟨d,e3,e4⟩:=qlD K l (k+1) _ c _ hr' hs oM (by have:=h1.2.1;omega);have e:edgesU (r::l)=(r.qd.map fun b=>edgeOf r.qf.qc b.qe.qc b.qu)++edgesU l:=rfl;refine⟨d,by rw[e3,e,Dy],?_⟩;rw[e4,e2,e,show (rndE ((r.qd.map fun b=>edgeOf r.qf.qc b.qe.qc b.qu)++edgesU l) v≠v↔¬ (_/\_)) from not_congr (qco hE (qew hr') hv.1)];by_cases hf:rndE (r.qd.map fun b=>edgeOf r.qf.qc b.qe.qc b.qu) v=v
  .rw[hf];simp
  simp[hf]
theorem qlH (K:LA->Lc):∀ (l:LN) (k:Nat) (v:LA) (B:Int),relsR l->in6 v B->0<=B->B+3 * l.length<=1000000 ->
  Jq K l k v=K (rndE (edgesR l) v)
 | [],k,v,B,_,_,_,_=>by rw[Jq];rfl
 | r::l,k,v,B,hr,hv,hB,hl=>by
  have h1:=hr r (A0 ..)
  have hr':relsR l:=fun q hq=>hr q (A2 _ hq)
  rw[A8]at hl
  have hE:∀ e,e∈r.qd.map (fun b=>edgeOf r.qf.qc b.qe.qc b.qu)->e.ok:=fun e h=>by
   obtain⟨c,hc,rfl⟩:=List.mem_map.1 h;exact ZW h1.1 (h1.2.2 c hc)
  have hs:=qbQ hE hv hB;rw[A9]at hs;rw[Jq,Nw (qM (by have:=h1.2.1;omega)),qlG r h1.1 _ r.qd 0 v B h1.2.2 hv hB (by have:=h1.2.1;omega)];unfold Xs;rw[qlH K l (k+1) _ _ hr' hs (by omega) (by have:=h1.2.1;omega),<- Dy];rfl
theorem Ui (E:List Edge):∀ (n:Nat) (v:LA),iterE E v (n+1)=rndE E (iterE E v n)
 | 0,v=>rfl
 | n+1,v=>by
  show iterE E (rndE E v) (n+1)=_;rw[Ui E n];rfl
theorem qlI (l:LN) (K:LA->Lc) (hl:l.length<=10) (hr:relsR l):∀ (L:LQ) (k:Nat) (v:LA) (B:Int),in6 v B->0<=B->B+30 * L.length<=1000 * 1000 - 30 ->
  jL l K L k v=K (iterE (edgesR l) v L.length)
 | [],k,v,B,_,_,_=>by rw[jL];rfl
 | x::L,k,v,B,hv,hB,hb=>by
  rw[A8]at hb;have hs:=qbQ (qex hr) hv hB;have hlen:=qhP hr;rw[jL,Nw (qM (by omega)),qlH _ l 0 v B hr hv hB (by omega)];unfold QE;rw[qlI l K hl hr L (k+1) _ _ hs (by omega) (by omega)];rfl
theorem qkv {l:LA} (hlen:l.length<=1000):∀ (n k m:Nat) (v:Int),k+n=l.length->n+1<=m->∃ M,Jc l JZ m v (k:Int)=some M/\v<=M/\(M=v\/M∈l)/\∀ i (h:i<l.length),k<=i->l[i]<=M
  | 0,k,m+1,v,hk,hm=>by
    refine⟨v,?_,G2 _,.inl rfl,fun i h1 h2=>absurd h1 oM⟩;rw[Jc,dF (by omega)];rfl
  | n+1,k,m+1,v,hk,hm=>by
    have hkl:k<l.length:=by omega
    have hi:idx l (k:Int)=some l[k]:=by
      unfold idx;simp[hkl]
    obtain⟨M,h1,h2,h3,h4⟩:=qkv hlen n (k+1) m (if l[k] > v then l[k] else v) oM oM
    have e:D1 .i64 ((k:Int)+1)=((k+1:Nat):Int):=by rw[wrap64 (by omega) (by omega)];omega
    refine⟨M,?_,?_,?_,fun i g1 g2=>?_⟩
    . rw[Jc,dT (by omega:(k:Int)<(l.length:Int)),cT,hi]
      simp only[A1];rw[e];exact h1
    . split at h2 <;> omega
    . rcases h3 with h3 | h3
      . split at h3
        . exact .inr (by rw[h3];exact G5 _)
        . exact .inl h3
      . exact .inr h3
    . by_cases hik:i=k
      . subst hik
        split at h2 <;> omega
      . exact h4 i g1 oM
theorem qgd {fuel:Nat} (hf:10<=fuel) {l:LA} (h6:l.length=6):∃ M,Qk fuel l=some M/\M∈l/\∀ i,i<6->l.getD i 0<=M:=by
  have hi:idx l 0=some l[0]:=by
    unfold idx;simp[h6]
  obtain⟨M,h1,h2,h3,h4⟩:=qkv (l:=l) oM 5 1 fuel l[0] oM oM;refine⟨M,?_,?_,fun i hi6=>?_⟩
  . unfold Qk
    rw[dF (by omega),cN,hi];exact h1
  . rcases h3 with h3 | h3
    . rw[h3];exact G5 _
    . exact h3
  . rw[A4,B1 (by omega)]
    show l[i]<=M;by_cases h0:i=0
    . subst h0;exact h2
    . exact h4 i oM oM
theorem snap6 (h:v.length=6):snap 0 (A5 6) v=v:=by
  unfold snap;rw[show A5 6=6 from rfl,E9];exact A7 oM
theorem qap (E:List Edge):∀ (n:Nat) (v:LA),(iterE E v n).length=v.length
  | 0,v=>rfl
  | n+1,v=>by rw[Ui,NL,qap E n]
theorem qiy {E:List Edge} (hE:∀ e,e∈E->e.ok) {v:LA} (hv:v.length=6) {s:Nat}:∀ (t:Nat),s<=t->∀ i,(iterE E v s).getD i 0<=(iterE E v t).getD i 0
  | 0,h,i=>by
    have:s=0:=by omega
    subst this;exact G2 _
  | t+1,h,i=>by
    by_cases hs:s=t+1
    . subst hs;exact G2 _
    . have h1:=qiy hE hv (s:=s) t oM i
      have h2:=Hs hE (v:=iterE E v t) (by rw[qap,hv]) i;rw[Ui];omega
theorem qgp {E:List Edge} {v:LA} {s:Nat} (hs:rndE E (iterE E v s)=iterE E v s):∀ (t:Nat),s<=t->iterE E v t=iterE E v s
  | 0,h=>by
    have:s=0:=by omega
    subst this;rfl
  | t+1,h=>by
    by_cases he:s=t+1
    . subst he;rfl
    . rw[Ui,qgp hs t (by omega),hs]
theorem qgo {E:List Edge} (hE:∀ e,e∈E->e.ok) {p:Nat->Int} (hp:preE E p) {v:LA} (hv:v.length=6) (h:∀ i,v.getD i 0<=p i):∀ (n:Nat) (i:Nat),(iterE E v n).getD i 0<=p i
  | 0,i=>h i
  | n+1,i=>by
    rw[Ui];exact qke hE hp (by rw[qap,hv]) (qgo hE hp hv h n) i
theorem qlp (h:in6 v 6):sum6 v<=36:=by
  have:=h.2 0;have:=h.2 1;have:=h.2 2;have:=h.2 3;have:=h.2 4;have:=h.2 5;unfold sum6;omega
theorem qlP {C:Int} (h:in6 v B) (hC:0<=C) (hm:∀ i,i<6->v.getD i 0<=C):in6 v C:=by
  refine⟨h.1,fun i=>⟨(h.2 i).1,?_⟩⟩;by_cases hi:i<6
  . exact hm i hi
  . rw[A4,H9 (by rw[h.1];omega)]
    exact hC
theorem qlE {fuel:Nat} (hf:10<=fuel) {l:LJ} (hl:l.length<=10) (hr:relsU l):∀ (d m:Nat) (v:LA) (c:Nat),in6 v 6->37<=sum6 v+d->d<=m->c+d<=100 ->
    ∃ t,t<=d/\((qN fuel l m v (c:Int)=some (iterE (edgesU l) v t,true)/\rndE (edgesU l) (iterE (edgesU l) v t)=iterE (edgesU l) v t/\in6 (iterE (edgesU l) v t) 6)\/(qN fuel l m v (c:Int)=some ([],false)/\∃ i,i<6/\(iterE (edgesU l) v t).getD i 0 > 6))
  | 0,m,v,c,hv,hs,hm,hc=>by have:=qlp hv;omega
  | d+1,0,v,c,hv,hs,hm,hc=>by omega
  | d+1,m+1,v,c,hv,hs,hm,hc=>by
    have hE:=qew hr;have hlen:=qhO hr;obtain⟨ch,h1,h2⟩:=qlD (jg fuel (c:Int) (qN fuel l m)) l 0 v false 6 hr hv oM oM;have hw:=qbQ hE hv oM
    have e0:qN fuel l (m+1) v (c:Int)=jg fuel (c:Int) (qN fuel l m) (rndE (edgesU l) v) ch:=by
      rw[qN,Nw (qM (by omega)),h1]
    rw[e0];unfold jg;rw[snap6 hw.1];by_cases hfix:rndE (edgesU l) v=v
    . have:ch=false:=by
        cases ch with
        | false=>rfl
        | true =>
         rcases h2.1 rfl with h | h
         . cases h
         . exact absurd hfix h
      rw[this];refine⟨0,by omega,.inl ⟨?_,hfix,hv⟩⟩;show some (rndE (edgesU l) v,true)=some (v,true);rw[hfix]
    . have:ch=true:=h2.2 (.inr hfix)
      rw[this];simp only[C7,cN];obtain⟨M,m1,m2,m3⟩:=qgd hf hw.1;rw[m1];simp only[A1];by_cases hM:M > 6
      . rw[dT hM,cT]
        refine⟨1,by omega,.inr ⟨rfl,?_⟩⟩;obtain⟨i,hi,he⟩:=List.getElem_of_mem m2;refine⟨i,by rw[<- hw.1];exact hi,?_⟩;show (rndE (edgesU l) v).getD i 0 > 6;rw[A4,B1 hi];show (rndE (edgesU l) v)[i] > 6;omega
      . rw[dF hM,cN]
        have hw6:in6 (rndE (edgesU l) v) 6:=qlP hw oM fun i hi=>by have:=m3 i hi;omega
        have hsum:=qkd hE hv.1 hfix
        have ec:D1 .i64 ((c:Int)+1)=((c+1:Nat):Int):=by rw[wrap64 (by omega) (by omega)];omega
        rw[ec];obtain⟨t,ht,h⟩:=qlE hf hl hr d m (rndE (edgesU l) v) (c+1) hw6 oM oM oM;exact⟨t+1,by omega,h⟩
theorem qlF {v:LA} (hv:v.length=6) (K:Lc):∀ (L:LQ) (k:Nat),k+L.length=6->QD v K L k=if ∃ i,k<=i/\i<6/\v.getD i 0 > 5 then some ([],8) else K
  | [],k,h=>by
    rw[QD,if_neg]
    rintro⟨i,h1,h2,_⟩
    simp at h;omega
  | x::L,k,h=>by
    rw[A8]at h
    have hk:v[0+A5 (k:Int)]? = some (v.getD k 0):=by
      rw[D2,Int.toNat_natCast,A4,B1 (by omega)];rfl
    rw[QD,Nw (dT ⟨by omega,by rw[show (((A5 6):Nat):Int)=6 from rfl];omega⟩),hk];simp only[A1];by_cases h5:v.getD k 0 > 5
    . rw[dT h5,cT,if_pos ⟨k,by omega,by omega,h5⟩]
      rfl
    . rw[dF h5,cN,qlF hv K L (k+1) (by omega)]
      by_cases hq:∃ i,k+1<=i/\i<6/\v.getD i 0 > 5
      . rw[if_pos hq]
        obtain⟨i,a,b,c⟩:=hq;rw[if_pos ⟨i,by omega,b,c⟩]
      . rw[if_neg hq,if_neg]
        rintro⟨i,a,b,c⟩
        by_cases hik:i=k
        . subst hik;exact h5 c
        . exact hq ⟨i,by omega,b,c⟩
theorem qdp (hl:l.length<=10) (hr:relsR l):YW l=if ∃ i,i<6/\(iterE (edgesR l) (A3 6 0) 60).getD i 0 > 5 then some ([],8) else some (iterE (edgesR l) (A3 6 0) 60,0):=by
  have h0:in6 (A3 6 (0:Int)) 0:=⟨by simp,fun i=>by
    rw[A4,F8]
    split <;> simp⟩
  unfold YW;rw[Nw (by decide),Nw (qM (by simp)),show (A3 (A5 6) (0:Int))=A3 6 0 from rfl,qlI l _ hl hr _ 0 _ 0 h0 (by omega) (by simp)];rw[show (D7 (A5 60)).length=60 by simp]
  have hlen:(iterE (edgesR l) (A3 6 0) 60).length=6:=by rw[qap];simp
  unfold JA;rw[Nw (qM (by simp)),qlF hlen _ _ 0 (by simp)];unfold Yf;rw[snap6 hlen]
  congr 1
  simp
theorem qfD {fuel:Nat} (hf:100<=fuel) {lu:LJ} (hl:l.length<=10) (hlu:lu.length<=10) (hr:relsR l) (hu:relsU lu) (he:edgesU lu=edgesR l) :
    (∃ v,in6 v 5/\preE (edgesR l) (fun i=>v.getD i 0)/\YW l=some (v,0)/\ZJ fuel lu=some (v,true))\/(YW l=some ([],8)/\ZJ fuel lu=some ([],false)):=by
  have h0:in6 (A3 6 (0:Int)) 6:=⟨by simp,fun i=>by
    rw[A4,F8]
    split <;> simp⟩
  have hE:=qex hr
  have eu:ZJ fuel lu=qN fuel lu fuel (A3 6 0) ((0:Nat):Int):=by
    unfold ZJ;rw[Nw (by decide)];rfl
  obtain⟨t,ht,h⟩:=qlE (by omega:10<=fuel) hlu hu 37 fuel (A3 6 0) 0 h0 (by rw[show sum6 (A3 6 0)=0 from rfl];omega) oM oM;rw[he]at h;rw[eu,qdp hl hr]
  rcases h with ⟨h1,h2,h3⟩ | ⟨h1,i,h2,h3⟩
  . left
    rw[qgp h2 60 (by omega)];have hpre:=qkf hE h3.1 h2
    have h5:=qlN h3.1 (fun i=>(h3.2 i).1) hpre (fun p p0 hp i=>qgo hE hp (by simp) (fun i=>by
      have:=p0 i;rw[A4,F8]
      split <;> simpa) t i) hE
    refine⟨_,⟨h3.1,fun i=>⟨(h3.2 i).1,h5 i⟩⟩,hpre,?_,h1⟩;rw[if_neg]
    rintro⟨i,hi,hg⟩
    have:=h5 i;omega
  . right
    refine⟨?_,h1⟩;have:=qiy hE (v:=A3 6 0) (by simp) 60 (show t<=60 by omega) i;rw[if_pos ⟨i,h2,by omega⟩]
end Go.AM
namespace Go
open AM
abbrev Ln:=List Edge
end Go
namespace Go.AM
open Go.Proofs
open Classical
variable {f:rufact} {n:Nat} {v:LA} {x:Int} {a:qo}
structure okU1 (f:rufact):Prop where
 r0:0<=f.qm
 r5:f.qm<=5
 a1:1<=f.f_a
 a6:f.f_a<=6
 b0:0<=f.f_b
 b6:f.f_b<=6
def argsF (f:rufact):LA:=if f.f_b=0 then [f.f_a] else [f.f_a,f.f_b]
def codeF (f:rufact):Nat:=(f.qm * 42+(if f.f_b=0 then f.f_a - 1 else f.f_a * 6+f.f_b - 1)).toNat
def decF (n:Nat):rufact:=if n % 42<6 then ⟨(n / 42:Nat),(n % 42+1:Nat),0⟩ else ⟨(n / 42:Nat),(n % 42 / 6:Nat),(n % 42 % 6+1:Nat)⟩
theorem QO (h:okU1 f):codeF f<252:=by
 have:=h.r0;have:=h.r5;have:=h.a1;have:=h.a6;have:=h.b0;have:=h.b6;unfold codeF;split <;> omega
theorem qlB (h:n<252):okU1 (decF n):=by
 unfold decF;split <;> refine⟨?_,?_,?_,?_,?_,?_⟩ <;> simp only <;> omega
theorem qcU (h:okU1 f):decF (codeF f)=f:=by
 have:=h.r0;have:=h.r5;have:=h.a1;have:=h.a6;have:=h.b0;have:=h.b6;obtain⟨r,a,b⟩:=f;simp only at *;unfold decF codeF;simp only;by_cases hb:b=0
 .subst hb;rw[if_pos rfl]
  have e1:(r * 42+(a - 1)).toNat % 42=(a - 1).toNat:=by omega
  have e2:(r * 42+(a - 1)).toNat / 42=r.toNat:=by omega
  rw[if_pos (by omega),e1,e2]
  congr 1 <;> omega
 rw[if_neg hb]
 have e1:(r * 42+(a * 6+b - 1)).toNat % 42=(a * 6+b - 1).toNat:=by omega
 have e2:(r * 42+(a * 6+b - 1)).toNat / 42=r.toNat:=by omega
 rw[if_neg (by omega),e1,e2]
 congr 1 <;> omega
theorem qkU (h:n<252):codeF (decF n)=n:=by
 unfold decF;split
 .unfold codeF;simp only;rw[if_pos trivial];omega
 unfold codeF;simp only;rw[if_neg (by omega)];omega
theorem UY {g:rufact} (hf:okU1 f) (hg:okU1 g) (h:codeF f=codeF g):f=g:=by
 rw[<- qcU hf,<- qcU hg,h]
theorem qcV (h:okU1 f):Qq f.qm (argsF f)=some (codeF f:Int):=by
 have:=h.r0;have:=h.r5;have:=h.a1;have:=h.a6;have:=h.b0;have:=h.b6;unfold Qq argsF codeF;by_cases hb:f.f_b=0
 .rw[if_pos hb,if_pos hb];show some _=some _;rw[wrap64 (n:=f.qm * 42) (by omega) (by omega),wrap64 (n:=f.qm * 42+f.f_a) (by omega) (by omega),wrap64 (by omega) (by omega)]
  congr 1;omega
 rw[if_neg hb,if_neg hb];show some _=some _;rw[wrap64 (n:=f.qm * 42) (by omega) (by omega),wrap64 (n:=f.f_a * 6) (by omega) (by omega),wrap64 (n:=f.qm * 42+f.f_a * 6) (by omega) (by omega),wrap64 (n:=f.qm * 42+f.f_a * 6+f.f_b) (by omega) (by omega),wrap64 (by omega) (by omega)]
 congr 1;omega
theorem VS (f:rufact):apiF f=⟨f.qm,argsF f⟩:=by
 unfold apiF argsF;split <;> rfl
theorem qlg (h:n<252):NM (n:Int)=some (apiF (decF n)):=by
 have e1:(n:Int).tmod 42=((n % 42:Nat):Int):=by
  rw[I1 (by omega)];omega
 have e2:(n:Int).tdiv 42=((n / 42:Nat):Int):=by
  rw[I3 (by omega)];omega
 unfold NM;rw[e1,e2]
 have e3:((n % 42:Nat):Int).tdiv 6=((n % 42 / 6:Nat):Int):=by
  rw[I3 (by omega)];omega
 have e4:((n % 42:Nat):Int).tmod 6=((n % 42 % 6:Nat):Int):=by
  rw[I1 (by omega)];omega
 rw[e3,e4,wrap64 (n:=((n / 42:Nat):Int)) (by omega) (by omega),wrap64 (n:=((n % 42 / 6:Nat):Int)) (by omega) (by omega),wrap64 (n:=((n % 42 % 6:Nat):Int)+1) (by omega) (by omega),wrap64 (n:=((n % 42:Nat):Int)+1) (by omega) (by omega)];unfold decF apiF;by_cases h6:n % 42<6
 .rw[dF (by omega),cN,if_pos h6];show _=some (if (0:Int)=0 then _ else _);rw[if_pos rfl];rfl
 rw[dT (by omega),cT,if_neg h6];show _=some (if ((n % 42 % 6+1:Nat):Int)=0 then _ else _);rw[if_neg (by omega)];rfl
theorem qlv:Ni (apiF f)=some f:=by
 obtain⟨r,a,b⟩:=f;unfold apiF Ni;by_cases hb:b=0
 .subst hb;rfl
 rw[if_neg hb];rfl
def fitA:LA->LA->LA->Option LA
 | v,[],_=>some v
 | v,_::_,[]=>none
 | v,x::xs,e::es=>if x<0 then (if 0 - x=e then fitA v xs es else none) else if v.getD x.toNat 0≠0/\v.getD x.toNat 0≠e then none else fitA (v.set x.toNat e) xs es
def arg7 (args:LA):Prop:=∀ x,x∈args -> -6<=x/\x<=7
theorem qcR:∀ {v xs es u:LA},fitA v xs es=some u->u.length=v.length
 | v,[],es,u,h=>by cases h;rfl
 | v,x::xs,[],u,h=>by cases h
 | v,x::xs,e::es,u,h=>by
  unfold fitA at h;split at h
  .split at h
   .exact qcR h
   cases h
  split at h
  .cases h
  rw[qcR h,List.length_set]
theorem get8 (hv:v.length=8) (h0:0<=x) (h7:x<=7):v[0+A5 x * 1]? = some (v.getD x.toNat 0):=by
 rw[D2,Nat.mul_one,A4,B1 (by omega)];rfl
theorem dec8 (h0:0<=x) (h7:x<=7):decide ((0:Int)<=x/\x<((8:Nat):Int)/\0<1)=true:=dT ⟨h0,by omega,by omega⟩
theorem set8 {e:Int} (h:v.getD n 0=e):v.set n e=v:=by
 refine D9 (by simp) fun i h1 h2=>?_
 rw[List.getElem_set];split
 .rename_i hi;subst hi;rw[<- h,A4,B1 h2];rfl
 rfl
theorem qcQ (f:rufact) (a:qo) (hrel:(a.qc == f.qm)=true):∀ (args:LA) (k:Nat) (v:LA),arg7 args->k+args.length<=2->v.length=8 ->
  match fitA v args (([f.f_a,f.f_b]:LA).drop k) with
  | some u=>qt f (qG a f) args k v (A3 8 0)=some (u,true)
  | none=>∃ u,qt f (qG a f) args k v (A3 8 0)=some (u,false)
 | [],k,v,_,_,hv=>by
  rw[fitA];show qt f (qG a f) [] k v (A3 8 0)=_;rw[qt];unfold qG;rw[Nw (dT hv),Nw (dT ⟨hv,by simp⟩),Nw (dT hv),hrel]
 | x::args,k,v,ha,hk,hv=>by
  rw[A8]at hk;have hx:=ha x (A0 ..)
  have ha':arg7 args:=fun y hy=>ha y (A2 _ hy)
  obtain⟨e,he,hd⟩:∃ e,([f.f_a,f.f_b]:LA)[A5 (k:Int) * 1]? = some e/\([f.f_a,f.f_b]:LA).drop k=e::([f.f_a,f.f_b]:LA).drop (k+1):=by
   match k,hk with
   | 0,_=>exact⟨f.f_a,rfl,rfl⟩
   | 1,_=>exact⟨f.f_b,rfl,rfl⟩
   | k+2,hk=>omega
  rw[qt,Nw (dT ⟨by omega,by omega⟩),he,hd];simp only[A1];unfold fitA;by_cases hneg:x<0
  .rw[dT hneg,cT,if_pos hneg,dF (show ¬ x >= 0 by omega),cN,wrap64 (by omega) (by omega)];by_cases hq:0 - x=e
   .rw[if_pos hq,show ((0 - x) != e)=false by rw[hq];exact bne_self_eq_false ..,  cN];unfold qK qS;rw[cN,dF (show ¬ x >= 0 by omega),cN];exact qcQ f a hrel args (k+1) v ha' oM hv
   rw[if_neg hq,show ((0 - x) != e)=true from bne_iff_ne.2 hq,cT];unfold qK;rw[cT,Nw (dT hv),Nw (dT ⟨hv,by simp⟩),Nw (dT hv)];exact⟨_,rfl⟩
  rw[dF hneg,cN,if_neg hneg,dT (show x >= 0 by omega),cT,Nw (dec8 (by omega) hx.2),get8 hv (by omega) hx.2];simp only[A1]
  have go:qK x v (A3 8 0) e (qS (A3 8 0) (qt f (qG a f) args (k+1))) false=qt f (qG a f) args (k+1) (v.set x.toNat e) (A3 8 0):=by
   unfold qK qS;rw[cN,dT (show x >= 0 by omega),cT,Nw (dec8 (by omega) hx.2),Nw (dT (by omega)),D2,Nat.mul_one]
  have hrec:=qcQ f a hrel args (k+1) (v.set x.toNat e) ha' oM (by rw[List.length_set,hv]);by_cases hz:v.getD x.toNat 0=0
  .rw[show (v.getD x.toNat 0 != 0)=false by simp only[hz,bne_self_eq_false],cN,go,if_neg (fun h=>h.1 hz)];exact hrec
  rw[show (v.getD x.toNat 0 != 0)=true from bne_iff_ne.2 hz,cT,Nw (dec8 (by omega) hx.2)];by_cases hq:v.getD x.toNat 0=e
  .rw[show (v.getD x.toNat 0 != e)=false by simp only[hq,bne_self_eq_false],go,if_neg (fun h=>h.2 hq)];exact hrec
  rw[show (v.getD x.toNat 0 != e)=true from bne_iff_ne.2 hq,if_pos ⟨hz,hq⟩];unfold qK;rw[cT,Nw (dT hv),Nw (dT ⟨hv,by simp⟩),Nw (dT hv)];exact⟨_,rfl⟩
theorem qjw (hrel:a.qc=f.qm) (hv:v.length=8) (ha:arg7 a.qa) (hl:a.qa.length<=2) :
  ∃ p,JH v a f=some p/\(p.2=true↔(fitA v a.qa [f.f_a,f.f_b]).isSome=true)/\∀ u,fitA v a.qa [f.f_a,f.f_b]=some u->p.1=u:=by
 have h:=qcQ f a (by simp[hrel]) a.qa 0 v ha oM hv
 have e:JH v a f=qt f (qG a f) a.qa 0 v (A3 8 0):=by
  unfold JH;rw[Nw (by cases v <;> simp_all),Nw (qM (by omega))]
 rw[E9]at h;rw[e]
 cases hf:fitA v a.qa [f.f_a,f.f_b] with
 | some u =>
  rw[hf]at h;exact⟨_,h,by simp,fun w hw=>by cases hw;rfl⟩
 | none =>
  rw[hf]at h;obtain⟨u,hu⟩:=h;exact⟨_,hu,by simp,fun w hw=>by cases hw⟩
def groundA (v args:LA):LA:=args.map fun x=>if x<0 then 0 - x else v.getD x.toNat 0
def mkF (rel:Int) (g:LA):rufact:=⟨rel,g.getD 0 0,g.getD 1 0⟩
def groundF (v:LA) (a:qo):rufact:=mkF a.qc (groundA v a.qa)
theorem Zl (hv:v.length=8) (ha:arg7 a.qa) (hl:a.qa.length<=2):qI v a=some (groundF v a):=by
 have step:∀ (x:Int) (r:LA) (k:Nat) (w:LA) (K:LA->Option rufact),-6<=x/\x<=7->k<2->w.length=2->jc v K (x::r) k w=jc v K r (k+1) (w.set k (if x<0 then 0 - x else v.getD x.toNat 0)):=by
  intro x r k w K hx hk hw;rw[jc];by_cases hneg:x<0
  .rw[dT hneg,cT,if_pos hneg,Nw (dT ⟨by omega,by omega,by omega⟩),Nw (dT (by simp;omega)),wrap64 (by omega) (by omega)];unfold JO;simp
  rw[dF hneg,cN,if_neg hneg,Nw (dec8 (by omega) hx.2),get8 hv (by omega) hx.2];simp only[A1];rw[Nw (dT ⟨by omega,by omega,by omega⟩),Nw (dT (by simp;omega))];unfold JO;simp
 unfold qI;rw[Nw (by cases v <;> simp_all),Nw (qM (by omega))];obtain⟨rel,args⟩:=a;simp only at ha hl
 match args,ha,hl with
 | [],_,_=>rfl
 | [x],ha,_ =>
  show jc v _ [x] 0 (A3 2 0)=_;rw[step x [] 0 _ _ (ha x (by simp)) (by omega) (by simp)];rfl
 | [x,y],ha,_ =>
  show jc v _ [x,y] 0 (A3 2 0)=_;rw[step x [y] 0 _ _ (ha x (by simp)) (by omega) (by simp),step y [] 1 _ _ (ha y (by simp)) (by omega) (by simp)];rfl
 | x::y::z::r,_,hl=>simp at hl
end Go.AM
