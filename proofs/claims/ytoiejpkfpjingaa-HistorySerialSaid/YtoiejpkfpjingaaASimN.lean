import Derived.Test.YtoiejpkfpjingaaASimU
import Derived.Test.YtoiejpkfpjingaaAWp
import Derived.LoopN
set_option linter.all false
set_option maxRecDepth 100000
open Nat renaming eq_of_beq_eq_true→A0, beq→A3, le_of_ble_eq_true→A5, le_refl→A9, zero_add→C5, ble_eq_true_of_le→D7, lt_or_ge→E0
open Bool renaming and_eq_true→A1, not_eq_true'→A7, or_eq_true→C8, and_self→E8
open Go.Region renaming ready→A2, before→C7
open List renaming all_eq_true→A4, getElem?_eq_getElem→A8, getElem?_map→B5, mem_cons_self→C4, mem_of_getElem?→C6, any_eq_false→D0, map_cons→D3, any_map→D5, filter_cons→D6, mem_iff_getElem?→D8, getElem?_zipIdx→D9, getElem?_take→F0, countP_le_length→F5
open Array renaming replicate→A6, getD_eq_getD_getElem?→D4, getElem?_replicate→E7, mapM_eq_mapM_toList→E9, all_eq_true_iff_forall_mem→F3, toArray_toList→F4, getElem?_append_left→F6, getElem?_eq_none→F7, getElem?_toList→F8
open Go.Sem renaming run_bind→B6, run_pure→B7
open Go.Result renaming andThen_ok→B9
open Option renaming map_some→D1, map_eq_some_iff→D2
namespace Go.AM
open Go.RowKit
section
variable {n:Nat} {P:Program}
def unlab:List Nat→Env→Env
  | [],e=>e
  | c::r,e=>unlab r (relabE c none e)
def unlV:List Nat→AV→AV
  | [],x=>x
  | c::r,x=>unlV r (x.relabB c none)
theorem XE:∀ (cl:List Nat) (e:Env) (t:Nat),look (unlab cl e) t=(look e t).map (unlV cl)
  | [],e,t=>by cases h:look e t <;> simp[unlab,unlV,h]
  | c::r,e,t=>by
    simp only[unlab];rw[XE r];unfold relabE;rw[Yj (AV.relabB c none)];cases look e t <;> rfl
theorem DE {l:Nat} {x:AV} (h:x.hasLab l=false):x.relab l none=x:=by
  cases x with
  | lst e k o xs =>
    cases o with
    | none=>rfl
    | some c =>
      simp only[AV.relab];split
      · rename_i hc
        simp only[AV.hasLab,AV.lab?,hc]at h;cases h
      · rfl
  | _=>rfl
theorem qfA {l:Nat} {x:AV} (h:x.hasLabB l=false):x.relabB l none=x:=by
  cases x with
  | box cs =>
    simp only[AV.relabB,AV.hasLabB]at h ⊢
    congr 1
    rw[D0]at h
    conv=>rhs;rw[← List.map_id cs]
    exact List.map_congr_left fun z hz=>DE (by simpa using h z hz)
  | agr cs =>
    simp only[AV.relabB,AV.hasLabB]at h ⊢
    congr 1
    rw[D0]at h
    conv=>rhs;rw[← List.map_id cs]
    exact List.map_congr_left fun z hz=>DE (by simpa using h z hz)
  | lst e k o xs=>exact DE h
  | _=>rfl
theorem Di:∀ {cl:List Nat} {x:AV},(∀ c,c∈cl→x.hasLabB c=false)→unlV cl x=x
  | [],x,_=>rfl
  | c::r,x,h=>by
    simp only[unlV];rw[qfA (h c (C4 ..))]
    exact Di fun c' hc=>h c' (List.mem_cons_of_mem _ hc)
theorem Nu {b l:Nat} {x:AV} (h:(x.relab l none).hasLab b=true):x.hasLab b=true:=by
  cases x with
  | lst e k o xs =>
    cases o with
    | none=>cases h
    | some c =>
      simp only[AV.relab]at h;split at h
      · cases h
      · exact h
  | _=>cases h
theorem DU {b l:Nat} {x:AV} (h:(x.relabB l none).hasLabB b=true):x.hasLabB b=true:=by
  cases x with
  | box cs =>
    simp only[AV.relabB,AV.hasLabB,D5,List.any_eq_true]at h ⊢;obtain⟨z,hz,h⟩:=h;exact⟨z,hz,Nu h⟩
  | agr cs =>
    simp only[AV.relabB,AV.hasLabB,D5,List.any_eq_true]at h ⊢;obtain⟨z,hz,h⟩:=h;exact⟨z,hz,Nu h⟩
  | lst e k o xs =>
    cases o with
    | none=>cases h
    | some c =>
      simp only[AV.relabB,AV.relab]at h;split at h
      · cases h
      · exact h
  | _=>cases h
theorem Nv {b:Nat}:∀ {cl:List Nat} {x:AV},(unlV cl x).hasLabB b=true→x.hasLabB b=true
  | [],x,h=>h
  | c::r,x,h=>DU (Nv (cl:=r) h)
def StepB (P:Program) (n:Nat) (all:List Oper) (o:Oper) (e e1:Env):Prop :=
  ∃ (d:Nat) (v:AV) (cl:List Nat),o.dst=some d∧v.ent=false∧(∀ b,v.hasLabB b=true→b=d)∧(∀ c,c∈cl→c∈killsB o)∧e1=ins d v (unlab cl e) ∧
    ∀ E,NA all o e E→StepSem P n all o E (ins d v (unlab cl E))
inductive ChainB (P:Program) (n:Nat) (all:List Oper):List Oper→Env→Env→Prop where
  | nil {e}:ChainB P n all [] e e
  | step {o rest e e1 e'}:StepB P n all o e e1→ChainB P n all rest e1 e'→ChainB P n all (o::rest) e e'
theorem qdB {all rest:List Oper} {e e':Env} (h:ChainB P n all rest e e'):∃ es:Nat→Env,es 0=e∧es rest.length=e'∧∀ i o,rest[i]? = some o→StepB P n all o (es i) (es (i+1)):=by
  induction h with
  | @nil e=>exact⟨fun _=>e,rfl,rfl,fun i o h=>by simp at h⟩
  | @step o rest e e1 e' hs _ ih =>
    obtain⟨es,h1,h2,h3⟩:=ih;refine⟨fun i=>match i with | 0=>e | i+1=>es i,rfl,h2,fun i o' ho=>?_⟩
    cases i with
    | zero=>simp at ho;subst ho;show StepB P n all o e (es 0);rw[h1];exact hs
    | succ i=>exact h3 i o' (by simpa using ho)
theorem qbP (x:AV) (b:Nat) (hx:x.ent=false):x.strip.hasLabB b=false:=by
  cases x with
  | agr cs =>
    simp only[AV.strip,AV.hasLabB,D5,D0];intro c _
    cases c <;> exact fun e=>by cases e
  | box cs=>cases hx
  | _=>rfl
theorem qhJ {all:List Oper} {o:Oper} {e e1:Env} {d:Nat} {x:AV} (hd:o.dst=some d) (hw:awanted all o e=some true) (hm:memFree o.op=true) (hx:apure P o e=some x) (hnb:x.ent=false) (he:eput n o.dst x.strip e=some e1):StepB P n all o e e1:=by
  obtain⟨h1,h2,_⟩:=QC he;rw[hd]at h1 h2;refine⟨d,x.strip,[],hd,(by cases x <;> first | rfl | cases hnb),fun b hb=>?_,fun c hc=>(by cases hc),h1,fun E hk=>?_⟩
  · rw[qbP x b hnb]at hb;cases hb
  intro bs M O a w h K Q hK;rw[jP h (JH hk hw)];simp only[if_true];obtain⟨v,w',M',k1,k2,k3,k4,k5,k6⟩:=UL h (Uf (QR hk) (.inl hm) hx);have h':=h.grown (row:=none) (fun g e=>by cases e) k2 k3 k4 (fun b o hb _=>k5 b o hb);have h2':=VY h' (d:=some d) (Hi k6) h2;exact Ym (env':=ins d x.strip E) ⟨v,w',M',O,.inl k1,by rw[hd];exact h2'⟩ hK
theorem mk_B {all:List Oper} {o:Oper} {e e1:Env} {t m:Nat} {ps:Array (Nat×Operand)} (ho:o.op=.buildSlice t m ps) {d:Nat} {el k:Nat} {xs:List AV} (hd:o.dst=some d) (hw:awanted all o e=some true) (hx:apure P o e=some (.lst el k none xs)) (he:eput n o.dst (.lst el k (some d) xs) (relabE d none e)=some e1):StepB P n all o e e1:=by
  obtain⟨h1,h2,_⟩:=QC he;rw[hd]at h1 h2;refine⟨d,.lst el k (some d) xs,[d],hd,rfl,fun b hb=>?_,fun c hc=>?_,h1,fun E hk=>?_⟩
  · exact (A0 hb).symm
  · unfold killsB
    rw[ho,hd]
    simpa using hc
  intro bs M O a w h K Q hK;rw[jP h (JH hk hw)];simp only[if_true];have hxE:=Uf (QR hk) (.inl (by rw[ho];rfl)) hx;unfold apure at hxE;rw[ho]at hxE;simp only at hxE;split at hxE
  case h_2=>cases hxE
  rename_i l hl;obtain⟨e1',k1,xs1,us,e2,g1,g2,g3,g4⟩:=XK (P:=P) h ho hl hxE;cases e2;have h':=h.grown (row:=none) (fun g e=>by cases e) (World.grownBy_alloc w (.cells us el) none) (Zp h.cons us) (Ub h.cons us el) (fun b o hb _=>VC us b o hb);have hBle:¬ bs.D w.heap.size:=h.fresh (A9 _);have h'':=h'.relab d none (fun c hc=>by cases hc)
  obtain⟨O',hfin⟩:=h''.putFresh (d:=d) (g:=w.heap.size) (off:=0) (cap:=xs.length) (cur:=us) (h2 d rfl) (Yn d E) g3 (.inr ⟨rfl,hBle,fun i c hc=>by
    have hcO:O i c=some w.heap.size:=by
      simp only[relO,Jw]at hc;split at hc
      · cases hc
      · exact hc
    have:=(h.own i c _ hcO).2
    omega,heap_alloc_new w _,by rw[C5];exact g2,A9 _,by unfold maxLen;omega,fun o ho=>by
      unfold addRow;rw[if_pos rfl];rw[C5]at ho;unfold cellsAt
      simp[g2,ho]⟩)
  exact Ym ⟨_,_,_,O',.inl g1,by rw[hd];exact hfin⟩ hK
theorem qdL {t t' d:Nat} {ex kx c:Nat} {xs:List AV} {y v:AV} {e e1:Env} (h:aappend P t t' d (.lst ex kx (some c) xs) y e=some (v,e1)) :
    (∃ a b l,v=.lst a b (some d) l)∧e1=relabE d none (relabE c none e)∧∀ E,aappend P t t' d (.lst ex kx (some c) xs) y E=some (v,relabE d none (relabE c none E)):=by
  unfold aappend at h ⊢;split at h
  case h_2=>cases h
  rename_i e' s hse;split at h
  · cases h
  rename_i hc;split at h
  · cases h
  · rename_i ey ky l ys
    split at h
    · cases h
    rename_i hky;simp only at h;split at h
    · cases h
    rename_i hb;split at h
    case isFalse=>cases h
    rename_i hcap;cases h;refine⟨⟨_,_,_,rfl⟩,rfl,fun E=>?_⟩;simp only[hse,hc,hky,hb];rw[if_pos hcap]
  · cases h
theorem YM {d t:Nat} (h:t≠d):∀ (E:Env),look (E.filter fun p=>!A3 p.1 d) t=look E t
  | []=>rfl
  | (k,y)::r=>by
    simp only[D6];split
    · simp only[look]
      split
      · rfl
      · exact YM h r
    · rename_i hk
      have hk:k=d:=by
        simp at hk;exact hk
      rw[YM h r];simp only[look];split
      · rename_i hb
        have:=A0 hb;omega
      · rfl
theorem DN {d:Nat} {x:AV} (E:Env):look (E.filter fun p=>!A3 p.1 d) d≠some x:=by
  intro h;exact (QE h).1 rfl
theorem qig {all:List Oper} {o:Oper} {e e1:Env} {args:Array Operand} {ats:Array TypeId} (ho:o.op=.call { callee:=.builtin .append,args:=args,argTypes:=ats }) {x y t t' d ex kx c:Nat} {xs:List AV} {b v:AV} {env1:Env}
    (hax:args.toList=[.tmp x,.tmp y]) (hat:ats.toList=[t,t']) (hd:o.dst=some d) (hw:awanted all o e=some true) (hx:aop e (.tmp x)=some (.lst ex kx (some c) xs)) (hy:aop e (.tmp y)=some b) (hcx:c=x) (hxd:x≠d) (hyd:y≠d)
    (hap:aappend P t t' d (.lst ex kx (some c) xs) b e=some (v,env1)) (he:eput n o.dst v env1=some e1):StepB P n all o e e1:=by
  obtain⟨⟨va,vb,vl,rfl⟩,rfl,hE⟩:=qdL hap;obtain⟨h1,h2,_⟩:=QC he;rw[hd]at h1 h2;refine⟨d,.lst va vb (some d) vl,[c,d],hd,rfl,fun b' hb=>?_,fun c' hc=>?_,h1,fun E hk=>?_⟩
  · exact (A0 hb).symm
  · unfold killsB
    rw[ho];simp only[hax,hd];rw[← hcx];exact hc
  intro bs M O a w h K Q hK;rw[jP h (JH hk hw)];simp only[if_true];have hkn:=QR hk
  have hops:∀ z v,z∈[Operand.tmp x,Operand.tmp y]→aop e z=some v→aop E z=some v:=fun z v hz hv=>hkn z (by
    have hm:z∈args.toList:=by rw[hax];exact hz
    rw[ho];simp[Op.operands,Call.operands]
    simpa using hm) v hv
  have hxE:=hops _ _ (by simp) hx;have hyE:=hops _ _ (by simp) hy
  have low:∀ z v,z≠d→aop E (.tmp z)=some v→aop (E.filter fun p=>!A3 p.1 d) (.tmp z)=some v:=by
    intro z v hz hv;simp only[aop]at hv ⊢;rw[YM hz];exact hv
  have h1':Inv bs n M O (E.filter fun p=>!A3 p.1 d) a w:=h.sub fun s z hz=>.inl (QE hz).2
  have hst:astep P n o (E.filter fun p=>!A3 p.1 d)=some (ins d (.lst va vb (some d) vl) (relabE d none (relabE c none (E.filter fun p=>!A3 p.1 d)))):=by
    unfold astep;rw[ho];simp only[hax,hat,hd,low x _ hxd hxE,low y _ hyd hyE,hE];unfold eput
    have hnone:look (relabE d none (relabE c none (E.filter fun p=>!A3 p.1 d))) d=none:=by
      have:=XE [c,d] (E.filter fun p=>!A3 p.1 d) d;simp only[unlab]at this;rw[this]
      cases hl:look (E.filter fun p=>!A3 p.1 d) d with
      | none=>rfl
      | some z=>exact absurd hl (DN E)
    have hlt:Nat.blt d n=true:=D7 (h2 d rfl);simp only[hnone,hlt];rfl
  refine Ym (HT h1' hst) fun a' w' M' O' h'=>hK a' w' M' O' (h'.looks fun s=>?_)
  rw[jq,jq];split
  · rfl
  · rename_i hs
    have e1:=XE [c,d] E s;have e2:=XE [c,d] (E.filter fun p=>!A3 p.1 d) s;rw[e1,← YM hs E];exact e2.symm
theorem qgp {all:List Oper} {o:Oper} {e e1:Env} (hw:awanted all o e=some true) (he:astepB P n o e=some e1):StepB P n all o e e1:=by
  unfold astepB at he;split at he
  · rename_i args ats ho
    split at he
    case h_2=>cases he
    rename_i x y t t' d hax hat hd;split at he
    case h_2=>cases he
    rename_i ex kx c xs b hx hy;split at he
    case h_2=>cases he
    rename_i hb;simp only[A1,A7]at hb;obtain⟨⟨b1,b2⟩,b3⟩:=hb;split at he
    case h_2=>cases he
    rename_i v env1 hap;exact qig ho hax hat hd hw hx hy (A0 b1) (fun h=>by rw[h]at b2;simp at b2) (fun h=>by rw[h]at b3;simp at b3) hap he
  · rename_i t m ps ho
    split at he
    case h_2=>cases he
    rename_i d el k xs hd hx;exact mk_B ho hd hw hx he
  · split at he
    case h_2=>cases he
    rename_i d v hd hx;split at he
    case h_2=>cases he
    rename_i hb;simp only[A1]at hb;exact qhJ hd hw hb.1 hx (by simpa[notBox] using hb.2) he
theorem XZ {c:Nat} {l:List Nat} (h:notIn c l=true):c ∉ l:=by
  unfold notIn at h;simp only[A7,D0]at h
  exact fun hm=>h c hm (by simp)
theorem DQ {o:Oper} {c:Nat} (h:isDst o c=true):o.dst=some c:=by
  unfold isDst at h;split at h
  · rename_i d hd
    rw[hd,A0 h]
  · cases h
theorem DJ:∀ {l:List Nat},nodupB l=true→l.Nodup
  | [],_=>List.nodup_nil
  | x::r,h=>by
    simp only[nodupB,A1]at h;exact List.nodup_cons.2 ⟨XZ h.1,DJ h.2⟩
theorem Uu:∀ {all:List Oper},(all.filterMap (·.dst)).Nodup→∀ {i j:Nat} {x y:Oper} {d:Nat},all[i]? = some x→all[j]? = some y→x.dst=some d→y.dst=some d→i=j
  | [],_,i,j,x,y,d,hx,_,_,_=>by simp at hx
  | o::r,h,i,j,x,y,d,hx,hy,dx,dy=>by
    have hr:(r.filterMap (·.dst)).Nodup:=by
      rw[List.filterMap_cons]at h;split at h
      · exact h
      · exact (List.nodup_cons.1 h).2
    have hno:∀ (q:Nat) (z:Oper),r[q]? = some z→z.dst=some d→o.dst=some d→False:=by
      intro q z hz dz do'
      rw[List.filterMap_cons,do']at h;exact (List.nodup_cons.1 h).1 (List.mem_filterMap.2 ⟨z,C6 hz,dz⟩)
    cases i with
    | zero =>
      simp at hx;subst hx
      cases j with
      | zero=>rfl
      | succ j=>exact (hno j y (by simpa using hy) dy dx).elim
    | succ i =>
      cases j with
      | zero =>
        simp at hy;subst hy;exact (hno i x (by simpa using hx) dx dy).elim
      | succ j=>exact congrArg Nat.succ (Uu (i:=i) (j:=j) (x:=x) (y:=y) (d:=d) hr (by simpa using hx) (by simpa using hy) dx dy)
theorem qdg {all:List Oper} (h:orderB all.toArray=true):(all.filterMap (·.dst)).Nodup∧∀ {i j:Nat} {x y:Oper},i<j→all[i]? = some x→all[j]? = some y→(∀ c,c∈killsB x→x.dst≠some c→c ∉ namesOf all.toArray y) ∧
    (((C7 all.toArray).getD j 0).testBit i=true∨((∀ d,x.dst=some d→d ∉ namesOf all.toArray y)∧(∀ d,y.dst=some d→d ∉ namesOf all.toArray x)∧(∀ c,c∈killsB x→c ∉ namesOf all.toArray y)∧(∀ c,c∈killsB y→c ∉ namesOf all.toArray x))):=by
  unfold orderB at h;simp only[A1]at h;refine⟨DJ h.1,fun {i j x y} hij hx hy=>?_⟩;have h:=h.2;simp only[A4,List.mem_range]at h;have hj:=(List.getElem?_eq_some_iff.1 hy).1;have:=h j (by simpa using hj) i hij
  have hx':all.toArray[i]? = some x:=by simpa using hx
  have hy':all.toArray[j]? = some y:=by simpa using hy
  rw[hx',hy']at this;simp only[pairB,A1,C8,A4]at this;obtain⟨k1,k2⟩:=this;refine⟨fun c hc hne=>?_,?_⟩
  · rcases k1 c hc with k | k
    · exact absurd (DQ k) hne
    · exact XZ k
  · rcases k2 with k | ⟨⟨⟨k3,k4⟩,k5⟩,k6⟩
    · exact .inl k
    · refine .inr ⟨fun d hd=>?_,fun d hd=>?_,fun c hc=>XZ (k5 c hc),fun c hc=>XZ (k6 c hc)⟩
      · rw[hd]at k3;exact XZ k3
      · rw[hd]at k4;exact XZ k4
variable {all:List Oper} {es:Nat→Env}
def Marks (all:List Oper) (e:Env):Prop:=∀ t x b,look e t=some x→x.hasLabB b=true→b∈all.flatMap killsB→t=b
theorem qfS (hes:∀ i o,all[i]? = some o→StepB P n all o (es i) (es (i+1))) (h0:banOk all (es 0)=true):∀ j,j≤all.length→Marks all (es j):=by
  intro j
  induction j with
  | zero =>
    intro _ t x b hx hb hk;exfalso;unfold banOk at h0;rw[A4]at h0;have:=h0 b hk;simp only[A7]at this;rw[UN this hx]at hb;cases hb
  | succ j ih =>
    intro hj t x b hx hb hk
    have hlt:j<all.length:=by omega
    obtain⟨d,v,cl,hd,hv,hvl,hcl,e1,_⟩:=hes j _ (A8 hlt);rw[e1,jq]at hx;split at hx
    · rename_i htd
      cases hx;rw[htd,hvl b hb]
    · rw[XE]at hx
      cases hl:look (es j) t with
      | none=>rw[hl]at hx;cases hx
      | some z =>
        rw[hl]at hx;cases hx;exact ih (by omega) t z b hl (Nv hb) hk
theorem qer (hes:∀ i o,all[i]? = some o→StepB P n all o (es i) (es (i+1))) (hm:∀ j,j≤all.length→Marks all (es j)) {t m:Nat} {o:Oper} (ho:all[m]? = some o) (hd:o.dst≠some t) (hk:t ∉ killsB o):look (es (m+1)) t=look (es m) t:=by
  obtain⟨d,v,cl,hd',hv,hvl,hcl,e1,_⟩:=hes m o ho;have hlt:=(List.getElem?_eq_some_iff.1 ho).1;rw[e1,jq,if_neg (fun e=>hd (by rw[hd',e])),XE]
  cases hl:look (es m) t with
  | none=>rfl
  | some z =>
    simp only[D1];rw[Di fun c hc=>?_]
    cases hb:z.hasLabB c with
    | false=>rfl
    | true =>
      exfalso;have hck:=hcl c hc;have:=hm m (by omega) t z c hl hb (List.mem_flatMap.2 ⟨o,C6 ho,hck⟩);exact hk (this ▸ hck)
theorem stableB (hes:∀ i o,all[i]? = some o→StepB P n all o (es i) (es (i+1))) (hm:∀ j,j≤all.length→Marks all (es j)) {t i:Nat}:∀ j,i≤j→j≤all.length→(∀ m o,i≤m→m<j→all[m]? = some o→o.dst≠some t∧t ∉ killsB o)→look (es j) t=look (es i) t:=by
  intro j
  induction j with
  | zero =>
   intro h _ _;have:i=0:=by omega
   subst this;rfl
  | succ j ih =>
    intro h hl hw;by_cases hij:i=j+1
    · subst hij;rfl
    · have hlt:j<all.length:=by omega
      have ho:all[j]? = some all[j]:=A8 hlt;obtain⟨k1,k2⟩:=hw j _ (by omega) (by omega) ho;rw[qer hes hm ho k1 k2]
      exact ih (by omega) (by omega) fun m o h1 h2=>hw m o h1 (by omega)
def Kn (all:List Oper) (es:Nat→Env) (S:Nat→Prop) (t:Nat) (x:AV):Prop :=
  (∃ i o,all[i]? = some o∧S i∧o.dst=some t∧(∀ k ok,all[k]? = some ok→S k→k≠i→t ∉ killsB ok)∧look (es (i+1)) t=some x) ∨
  ((∀ i o,all[i]? = some o→o.dst=some t→¬ S i)∧look (es 0) t=some x)
theorem qeF {bs:Base} {Q:Exit→Act→World→Prop} (hes:∀ i o,all[i]? = some o→StepB P n all o (es i) (es (i+1))) (hord:orderB all.toArray=true) (hback:jS all.toArray=true) (hban:banOk all (es 0)=true)
    (hQ:∀ a' w' M' O',Inv bs n M' O' (dropB all (es all.length)) a' w'→Q .normal a' w') :
    ∀ (fuel:Nat) (listed:Array Bool) (a:Act) (w:World) (M:Mem) (O:Gh) (E:Env),listed.size=all.length→Closed all (fun i=>listed.getD i false=true)→(∀ t x,Kn all es (fun i=>listed.getD i false=true) t x→look E t=some x) →
      Je all.length listed≤fuel→Inv bs n M O E a w→wpAny P .any all.toArray Q fuel listed a w:=by
  have hm:=qfS hes hban;obtain⟨hnd,hpair⟩:=qdg hord
  have dstOf:∀ {i:Nat} {o:Oper},all[i]? = some o→∃ d,o.dst=some d:=fun ho=>by
    obtain⟨d,_,_,hd,_⟩:=hes _ _ ho;exact⟨d,hd⟩
  have done:∀ (listed:Array Bool) (a:Act) (w:World) (M:Mem) (O:Gh) (E:Env),listed.size=all.length→(∀ t x,Kn all es (fun i=>listed.getD i false=true) t x→look E t=some x)→Inv bs n M O E a w →
      A2 .any all.toArray listed=[]→Q .normal a w:=by
    intro listed a w M O E hsz hkn h hr
    have hall:∀ i,i<all.length→listed.getD i false=true:=by
      intro i
      induction i using Nat.strongRecOn with
      | _ i ih =>
        intro hi
        cases hv:listed.getD i false with
        | true=>rfl
        | false =>
          exfalso;have ho:all[i]? = some all[i]:=A8 hi
          have:i∈A2 .any all.toArray listed:=by
            rw[mem_ready];refine⟨by rw[Xw (by omega)];exact hv,all[i],by simp,fun e he hb=>?_⟩
            have hlt:e.on<i:=by
              unfold jS at hback;rw[A4]at hback
              have hmem:(all[i],i)∈all.toArray.toList.zipIdx:=by
                rw[D8];exact⟨i,by simp[D9,ho]⟩
              have:=hback _ hmem;rw[F3]at this;have:=this e he;simp only[C8,A7]at this
              rcases this with h1 | h1
              · rw[hb]at h1;cases h1
              · exact A5 h1
            exact ih e.on hlt (by omega)
          rw[hr]at this;cases this
    refine hQ a w M O (h.sub fun t y hy=>.inl (hkn t y ?_))
    have hdead:t ∉ deadB all∧look (es all.length) t=some y:=by
      unfold dropB at hy;obtain⟨q,hq,h1,h2⟩:=Vb hy;rw[List.mem_filter]at hq;refine⟨XZ (by rw[← h1];exact hq.2),?_⟩
      have key:∀ (E:Env),look (E.filter fun p=>notIn p.1 (deadB all)) t=some y→notIn t (deadB all)=true→look E t=some y:=by
        intro E
        induction E with
        | nil=>intro h _;exact h
        | cons p r ih =>
          obtain⟨s,z⟩:=p;intro h hn;simp only[D6]at h;simp only[look];split at h
          · simp only[look]at h
            split
            · rename_i hb;rw[hb]at h;exact h
            · rename_i hb;rw[hb]at h;exact ih h hn
          · rename_i hs
            split
            · rename_i hb
              rw[A0 hb]at hs;exact absurd hn hs
            · exact ih h hn
      exact key _ hy (by rw[← h1];exact hq.2)
    obtain⟨hdead,hlk⟩:=hdead
    have hnk:∀ (k:Nat) (ok:Oper),all[k]? = some ok→ok.dst≠some t→t ∉ killsB ok:=by
      intro k ok hok hne hmem;refine hdead (List.mem_flatMap.2 ⟨ok,C6 hok,List.mem_filter.2 ⟨hmem,?_⟩⟩)
      cases hi:isDst ok t with
      | false=>rfl
      | true=>exact absurd (DQ hi) hne
    by_cases hw:∃ (i:Nat) (o:Oper),all[i]? = some o∧o.dst=some t
    · obtain⟨i,o,ho,hd⟩:=hw
      have hil:=(List.getElem?_eq_some_iff.1 ho).1;refine .inl ⟨i,o,ho,hall i hil,hd,fun k ok hok _ hki=>hnk k ok hok fun e=>hki (Uu hnd hok ho e hd),?_⟩;rw[← stableB hes hm (i:=i+1) all.length hil (A9 _) fun m o' h1 h2 ho'=>?_]
      · exact hlk
      · have hne:o'.dst≠some t:=fun e=>by
          have:=Uu hnd ho' ho e hd;omega
        exact⟨hne,hnk m o' ho' hne⟩
    · refine .inr ⟨fun i o ho hd=>absurd ⟨i,o,ho,hd⟩ hw,?_⟩
      rw[← stableB hes hm (i:=0) all.length (Nat.zero_le _) (A9 _) fun m o' h1 h2 ho'=>?_]
      · exact hlk
      · have hne:o'.dst≠some t:=fun e=>hw ⟨m,o',ho',e⟩
        exact⟨hne,hnk m o' ho' hne⟩
  intro fuel
  induction fuel with
  | zero =>
    intro listed a w M O E hsz hc hkn hu h
    have hr:A2 .any all.toArray listed=[]:=by
      cases hr:A2 .any all.toArray listed with
      | nil=>rfl
      | cons i rs =>
        exfalso
        have hi:i∈A2 .any all.toArray listed:=by rw[hr];exact C4 ..
        rw[mem_ready]at hi;obtain⟨h0,o,ho,_⟩:=hi
        have hil:i<all.length:=by
          have:=(Array.getElem?_eq_some_iff.1 ho).1
          simpa using this
        have:0<Je all.length listed:=by
          unfold Je;rw[List.countP_pos_iff];exact⟨i,List.mem_range.2 hil,by rw[h0];rfl⟩
        omega
    exact⟨hr,done listed a w M O E hsz hkn h hr⟩
  | succ fuel ih =>
    intro listed a w M O E hsz hc hkn hu h;refine⟨fun hr=>done listed a w M O E hsz hkn h hr,fun k hk=>?_⟩;rw[mem_ready]at hk;obtain⟨hk0,ok,hok,hkall⟩:=hk
    have hok':all[k]? = some ok:=by simpa using hok
    have hkl:k<all.length:=(List.getElem?_eq_some_iff.1 hok').1
    have hkf:listed.getD k false=false:=by rw[← Xw (by omega)];exact hk0
    have hkf':¬ listed.getD k false=true:=by rw[hkf];exact Bool.false_ne_true
    have hdeps:∀ i,((C7 all.toArray).getD k 0).testBit i=true→listed.getD i false=true :=
      XS hc k ok hok' (fun e he hb=>hkall e (by simpa using he) hb)
    have hnot:∀ i,listed.getD i false=true→i<all.length→¬ ((C7 all.toArray).getD i 0).testBit k=true:=by
      intro i hi hil hb;exact hkf' (XS hc i _ (A8 hil) (fun e he hb=>hc i _ (A8 hil) hi e he hb) k hb)
    have hsz':(listed.setIfInBounds k true).size=all.length:=by simp[hsz]
    have hset:∀ i,(listed.setIfInBounds k true).getD i false=true↔(i=k∨listed.getD i false=true):=by
      intro i;by_cases hik:i=k
      · subst hik
        have hkk:i<listed.size:=by omega
        simp[hkk]
      · rw[getD_set_ne false (fun e=>hik e.symm)]
        simp[hik]
    have hc':Closed all (fun i=>(listed.setIfInBounds k true).getD i false=true):=by
      intro j o ho hj e he hb;rw[hset]at hj ⊢
      rcases hj with rfl | hj
      · rw[hok']at ho
        cases ho;exact .inr (hkall e (by simpa using he) hb)
      · exact .inr (hc j o ho hj e he hb)
    have hu':Je all.length (listed.setIfInBounds k true)≤fuel:=by
      have:Je all.length (listed.setIfInBounds k true)<Je all.length listed:=by
        unfold Je;refine Uv (x:=k) (fun i hi hq=>?_) (List.mem_range.2 hkl) (by rw[hk0];rfl) ?_
        · have hil:=List.mem_range.1 hi
          simp only[A7]at hq ⊢;rw[Xw (by omega)]at hq ⊢
          cases hv:listed.getD i false with
          | false=>rfl
          | true =>
            have:=(hset i).2 (.inr hv);rw[this]at hq;cases hq
        · have hkk:k<listed.size:=by omega
          simp[hkk]
      omega
    have hwp:∀ (K:Act→World→Prop),(if Region.wanted ok (yielded all.toArray a.tmps) then ok.wp P a w K Q else K (a.put ok.dst undef) w)→wpOp P all.toArray Q k K a w:=by
      intro K hK;unfold wpOp;rw[hok];simp only;split
      · rename_i hw;rw[if_pos hw]at hK;exact .inl hK
      · rename_i hw;rw[if_neg hw]at hK;exact hK
    refine hwp _ ?_
    have hname:∀ t,t∈namesOf all.toArray ok→∀ x,look (es k) t=some x→look E t=some x:=by
      intro t ht x hx;refine hkn t x ?_;by_cases hw:∃ (i:Nat) (o:Oper),i<k∧all[i]? = some o∧o.dst=some t
      · obtain⟨i,o,hik,ho,hd⟩:=hw
        have hS:listed.getD i false=true:=by
          rcases (hpair hik ho hok').2 with h1 | h1
          · exact hdeps i h1
          · exact absurd ht (h1.1 t hd)
        have nok:∀ (m:Nat) (om:Oper),all[m]? = some om→m<k→m≠i→t ∉ killsB om:=by
          intro m om hom hmk hmi hmem;exact (hpair hmk hom hok').1 t hmem (fun e=>hmi (Uu hnd hom ho e hd)) ht
        refine .inl ⟨i,o,ho,hS,hd,fun m om hom hSm hmi hmem=>?_,?_⟩
        · rcases E0 m k with hmk | hmk
          · exact nok m om hom hmk hmi hmem
          · rcases Nat.eq_or_lt_of_le hmk with e | hkm
            · exact hkf' (e ▸ hSm)
            · rcases (hpair hkm hok' hom).2 with h1 | h1
              · exact hnot m hSm (List.getElem?_eq_some_iff.1 hom).1 h1
              · exact h1.2.2.2 t hmem ht
        · rw[← stableB hes hm (i:=i+1) k hik (by omega) fun m om h1 h2 hom=>?_]
          · exact hx
          · exact⟨fun e=>by have:=Uu hnd hom ho e hd;omega,nok m om hom h2 (by omega)⟩
      · refine .inr ⟨fun i o ho hd hSi=>?_,?_⟩
        · rcases E0 i k with hik | hik
          · exact hw ⟨i,o,hik,ho,hd⟩
          · rcases Nat.eq_or_lt_of_le hik with e | hki
            · exact hkf' (e ▸ hSi)
            · rcases (hpair hki hok' ho).2 with h1 | h1
              · exact hnot i hSi (List.getElem?_eq_some_iff.1 ho).1 h1
              · exact h1.2.1 t hd ht
        · rw[← stableB hes hm (i:=0) k (Nat.zero_le _) (by omega) fun m om h1 h2 hom=>?_]
          · exact hx
          · have hne:om.dst≠some t:=fun e=>hw ⟨m,om,h2,hom,e⟩
            exact⟨hne,fun hmem=>(hpair h2 hom hok').1 t hmem hne ht⟩
    obtain⟨d,v,cl,hd,hv,hvl,hcl,e1,hsem⟩:=hes k ok hok'
    have hNA:NA all ok (es k) E:=by
      intro t ht y hy;unfold lookS at hy ⊢
      cases hl:look (es k) t with
      | none=>rw[hl]at hy;cases hy
      | some z =>
        rw[hl]at hy;rw[hname t ht z hl];exact hy
    have noK:∀ {t:Nat} {j:Nat} {x:AV},j≤all.length→look (es j) t=some x→t ∉ killsB ok→unlV cl x=x:=by
      intro t j x hj hx hnk
      refine Di fun c hc=>?_
      cases hb:x.hasLabB c with
      | false=>rfl
      | true =>
        exfalso;have hck:=hcl c hc;have:=hm j hj t x c hx hb (List.mem_flatMap.2 ⟨ok,C6 hok',hck⟩);exact hnk (this ▸ hck)
    refine hsem E hNA bs M O a w h _ Q fun a' w' M' O' h'=>ih _ a' w' M' O' _ hsz' hc' (fun t x hx=>?_) hu' h'
    rw[jq]
    rcases hx with ⟨i,o,ho,hS,hdi,hnk,hlk⟩ | ⟨hno,hlk⟩
    · split
      · rename_i htd
        subst htd;have hik:=Uu hnd ho hok' hdi hd;subst hik;rw[e1,jq,if_pos rfl]at hlk;exact hlk
      · rename_i htd
        have hik:i≠k:=fun e=>by
          subst e;rw[hok']at ho;cases ho;rw[hd]at hdi;exact htd (Option.some.inj hdi).symm
        have hSi:=((hset i).1 hS).resolve_left hik;have hE:=hkn t x (.inl ⟨i,o,ho,hSi,hdi,fun m om hom hSm hmi=>hnk m om hom ((hset m).2 (.inr hSm)) hmi,hlk⟩);rw[XE,hE];simp only[D1];rw[noK (List.getElem?_eq_some_iff.1 ho).1 hlk (hnk k ok hok' ((hset k).2 (.inl rfl)) (fun e=>hik e.symm))]
    · split
      · rename_i htd
        subst htd;exact absurd ((hset k).2 (.inl rfl)) (hno k ok hok' hd)
      · have hE:=hkn t x (.inr ⟨fun i o ho hdi hSi=>hno i o ho hdi ((hset i).2 (.inr hSi)),hlk⟩)
        rw[XE,hE];simp only[D1]
        congr 1
        refine Di fun c hc=>?_
        unfold banOk at hban;rw[A4]at hban;have:=hban c (List.mem_flatMap.2 ⟨ok,C6 hok',hcl c hc⟩);simp only[A7]at this;exact UN this hlk
theorem qca {bs:Base} {M:Mem} {O:Gh} {a:Act} {w:World} {id:Nat} {ops:Array Oper} {e e':Env} (hmix:P.follows .mixedOrders=true) (hord:orderB ops=true) (hback:jS ops=true) (hban:banOk ops.toList e=true)
    (hc:ChainB P n ops.toList ops.toList e e') (h:Inv bs n M O e a w) {Q:Exit→Act→World→Prop} (hQ:∀ a' w' M' O',Inv bs n M' O' (dropB ops.toList e') a' w'→Q .normal a' w'):(Code.region id ops true).wp P Q a w:=by
  obtain⟨es,h1,h2,h3⟩:=qdB hc;have ea:ops.toList.toArray=ops:=F4;refine wp_region_any hmix ?_;have hdr:Inv bs n M O e a { w with drawn:=w.drawn+1 }:=h.grown (row:=none) (fun g e=>by cases e) ⟨rfl,rfl,rfl,A9 _,fun _ _ _=>rfl⟩ (Sub.refl M) (fun b o u hu=>h.cons b o u hu) (fun _ _ _ _=>rfl)
  have hnone:∀ i,¬ (A6 ops.size false).getD i false=true:=by
    intro i hi;simp[E7]at hi;split at hi <;> simp at hi
  have:=qeF (P:=P) (n:=n) (all:=ops.toList) (es:=es) (bs:=bs) (Q:=Q) h3 (by rw[ea];exact hord) (by rw[ea];exact hback) (by rw[h1];exact hban) (fun a' w' M' O' h'=>hQ a' w' M' O' (by rw[← h2];exact h')) ops.size (A6 ops.size false) a { w with drawn:=w.drawn+1 } M O e (by simp)
    (fun j o ho hj=>absurd hj (hnone j))
    (fun t x hx=>by
      rcases hx with ⟨i,o,ho,hS,_⟩ | ⟨_,hlk⟩
      · exact absurd hS (hnone i)
      · rw[h1]at hlk;exact hlk)
    (by
      unfold Je;have:=F5 (p:=fun i=>!(A6 ops.size false).getD i true) (l:=List.range ops.toList.length)
      simpa using this) hdr
  rw[ea]at this;exact this
end
end Go.AM
namespace Go.AM
open Go.RowKit
section
variable {n:Nat} {P:Program} {all:List Oper}
theorem LE.refl (E:Env):LE E E:=fun _=>rfl
theorem LE.symm {E F:Env} (h:LE E F):LE F E:=fun t=>(h t).symm
theorem LE.trans {E F G:Env} (h:LE E F) (k:LE F G):LE E G:=fun t=>(h t).trans (k t)
theorem LE.ins {E F:Env} (h:LE E F) (d:Nat) (x:AV):LE (ins d x E) (ins d x F):=fun t=>by rw[jq,jq,h t]
theorem LE.insO {E F:Env} (h:LE E F) (d:Option Nat) (x:AV):LE (insO d x E) (insO d x F):=by
 cases d with
 | none=>exact h
 | some d=>exact h.ins d x
theorem LE.map {E F:Env} (h:LE E F) (g:AV→AV):LE (E.map fun p=>(p.1,g p.2)) (F.map fun p=>(p.1,g p.2)):=fun t=>by rw[Yj g,Yj g,h t]
theorem LE.inv {bs:Base} {M:Mem} {O:Gh} {E F:Env} {a:Act} {w:World} (h:LE E F) (hi:Inv bs n M O E a w):Inv bs n M O F a w:=hi.looks fun s=>(h s).symm
theorem Dv {o:Oper} {E F E1 F1:Env} (h:StepSem P n all o E E1) (h1:LE E F) (h2:LE E1 F1):StepSem P n all o F F1:=fun bs M O a w hi K Q hK =>
 h bs M O a w (h1.symm.inv hi) K Q fun a' w' M' O' h'=>hK a' w' M' O' (h2.inv h')
theorem Yk {s t:Nat} (h:t≠s):∀ (E:Env),look (E.filter fun q=>!A3 q.1 s) t=look E t
 | []=>rfl
 | (r,x)::E=>by
  simp only[D6];split
  ·simp only[look];split
   ·rfl
   ·exact Yk h E
  ·rename_i hr;rw[Yk h E];simp only[look];split
   ·rename_i ht;have:=A0 ht;subst this;exfalso;apply hr;simp only[A7]
    exact Bool.eq_false_iff.2 fun e=>h (A0 e)
   ·rfl
def ded:Env→Env
 | []=>[]
 | p::r=>p::(ded r).filter fun q=>!A3 q.1 p.1
theorem Np:∀ (E:Env) (t:Nat),look (ded E) t=look E t
 | [],t=>rfl
 | (s,x)::r,t=>by
  simp only[ded,look];split
  ·rfl
  ·rename_i hs
   have hne:t≠s:=fun e=>by subst e;simp at hs
   rw[Yk hne];exact Np r t
theorem qfb:∀ {E:Env} {p:Nat×AV},p∈ded E→look E p.1=some p.2
 | (s,x)::r,p,h=>by
  simp only[ded,List.mem_cons,List.mem_filter]at h
  rcases h with rfl | ⟨h,hne⟩
  ·simp[look]
  ·have h1:=qfb h;simp only[look];split
   ·rename_i hs;have:=A0 hs;rw[this]at hne;simp at hne
   ·exact h1
theorem qgh {id:Nat} {E:Env} (h:ClearL id E):clearOf id (ded E)=true:=by
 unfold clearOf;rw[A4];intro p hp;have h1:=qfb hp;simp only[A1,A7];refine⟨Bool.eq_false_iff.2 fun e=>?_,h.2 _ _ h1⟩;have:=A0 e;rw[this,h.1]at h1;cases h1
def Fr (o:Oper) (E:Env):Prop:=∀ d,o.dst=some d→look E d=none∧d<1000000
def IsP (P:Program) (n:Nat) (all:List Oper) (o:Oper) (E E1:Env):Prop :=
 isEff o.op=false∧∃ x,x.ent=false∧LE (insO o.dst x E) E1∧∀ F,NA all o E F→(memFree o.op=true∨EA E F)→StepSem P n all o F (insO o.dst x F)
def Stp (P:Program) (n:Nat) (all:List Oper) (o:Oper) (E E1:Env):Prop :=
 StepSem P n all o E E1∧Fr o E∧(isEff o.op=false→IsP P n all o E E1)∧(o.guard=none→isMk o.op=true→IsA P n all o E E1)∧(o.guard=none→isApp o.op=true→IsB P n all o E E1)
theorem qgS {o:Oper} {E F G:Env} (h:LE E F) (k:NA all o F G):NA all o E G:=fun t ht y hy=>k t ht y (by unfold lookS at hy ⊢;rw[← h t];exact hy)
theorem qie {E F G:Env} (h:LE E F) (k:EA F G):EA E G:=fun s x hx hl=>k s x hx (by rw[← h s];exact hl)
theorem qhp {id:Nat} {E F:Env} (h:LE E F) (k:ClearL id E):ClearL id F:=⟨by rw[← h id];exact k.1,fun s x hx=>k.2 s x (by rw[h s];exact hx)⟩
theorem Stp.le {o:Oper} {E F E1:Env} (h:Stp P n all o E E1) (hl:LE E F):Stp P n all o F E1:=by
 obtain⟨h1,h2,h3,h4,h5⟩:=h;refine⟨Dv h1 hl (LE.refl _),fun d hd=>⟨by rw[← hl d];exact (h2 d hd).1,(h2 d hd).2⟩,fun he=>?_,fun hg he=>?_,fun hg he=>?_⟩
 ·obtain⟨k0,x,k1,k2,k3⟩:=h3 he;exact⟨k0,x,k1,(hl.symm.insO _ _).trans k2,fun G hG hm=>k3 G (qgS hl hG) (hm.imp id fun hm=>qie hl hm)⟩
 ·obtain⟨k0,d,x,y,k1,k2,k3,k4,k5⟩:=h4 hg he;exact⟨k0,d,x,y,k1,k2,qhp hl k3,((hl.symm.ins _ _).ins _ _).trans k4,fun G hG=>k5 G (qgS hl hG)⟩
 ·obtain⟨k0,k⟩:=h5 hg he;refine⟨k0,k.imp id ?_⟩
  rintro⟨d,v,g,k1,k2,k3,k4,k5⟩
  exact⟨d,v,g,k1,((hl.symm.map g).ins _ _).trans k2,k3,fun x hx t ht=>by rw[← hl t];exact k4 x hx t ht,fun G hG=>k5 G (qgS hl hG)⟩
inductive Ch (P:Program) (n:Nat) (all:List Oper):List Nat→Env→Env→Prop where
 | nil {E E'}:LE E E'→Ch P n all [] E E'
 | cons {i o R E E1 E'}:all[i]? = some o→Stp P n all o E E1→Ch P n all R E1 E'→Ch P n all (i::R) E E'
theorem Ch.le {R:List Nat} {E F E':Env} (h:Ch P n all R E E') (hl:LE E F):Ch P n all R F E':=by
 cases h with
 | nil h=>exact .nil (hl.symm.trans h)
 | cons h1 h2 h3=>exact .cons h1 (h2.le hl) h3
theorem qay {g:AV→AV} {e:Env} {t:Nat} (h:look e t=none):look (e.map fun p=>(p.1,g p.2)) t=none:=by
 rw[Yj g,h];rfl
theorem ZO {l:Nat} {x:AV} (h:plainV (some x)=true):x.relabB l none=x:=by
 cases x with
 | box cs=>cases h
 | agr cs=>cases h
 | lst e k lab xs=>cases lab with
  | none=>rfl
  | some c=>cases h
 | _=>rfl
theorem HV {t t' d:Nat} {a b v:AV} {e e':Env} (h:aappend P t t' d a b e=some (v,e')) :
  ∃ g:AV→AV,(∀ x,plainV (some x)=true→g x=x)∧e'=e.map (fun p=>(p.1,g p.2))∧∀ F:Env,aappend P t t' d a b F=some (v,F.map fun p=>(p.1,g p.2)):=by
 unfold aappend at h ⊢;split at h
 case h_2=>cases h
 rename_i el s hse;split at h
 ·cases h
 rename_i hc;split at h
 ·cases h
 case h_3=>cases h
 rename_i ey ky l ys;split at h
 ·cases h
 rename_i hky;split at h
 ·split at h
  ·rename_i hb;cases h;refine⟨fun x=>x.relabB d none,fun x hx=>ZO hx,rfl,fun F=>?_⟩;simp only[hse,hky];rw[if_pos hb];rfl
  ·cases h
 ·rename_i ex kx c xs;split at h
  ·cases h
  rename_i hx;split at h
  ·rename_i hb;cases h;refine⟨fun x=>(x.relabB c none).relabB d none,fun x hx=>by show (x.relabB c none).relabB d none=x;rw[ZO hx,ZO hx],by simp[relabE,List.map_map,Function.comp],fun F=>?_⟩;simp only[hse,hky,hx];rw[if_pos hb];simp[relabE,List.map_map,Function.comp]
  ·cases h
 ·cases h
theorem YB {e:Env} {d t:Nat} {x:AV} (h:t≠d) (hl:look e t=none):look (ins d x e) t=none:=by rw[jq,if_neg h];exact hl
theorem Qb {o:Option Nat} {v:AV} {e e1:Env} (h:eput n o v e=some e1) {t:Nat} (ht:o≠some t) (hl:look e t=none):look e1 t=none:=by
 obtain⟨rfl,_,_⟩:=QC h;rw[Zl ht];exact hl
theorem qco {s t:Nat} {e:Env} (hl:look e t=none):look (forget s e) t=none:=by
 cases h:look (forget s e) t with
 | none=>rfl
 | some y =>
  obtain⟨_,z,hz,_⟩:=Yd h;rw[hl]at hz;cases hz
theorem qhM {o:Oper} {e e1:Env} (hw:awanted all o e=some true) (hl:lfOk all o e=true) (he:astep P n o e=some e1) (heff:isEff o.op=true) (hst:isStore o.op=false):Hard P n all o e e1:=by
 refine⟨⟨heff,hst⟩,fun t ht hd hn=>?_,fun _ hm=>?_,fun _ ha=>?_⟩
 ·
  have ge:∀ d:Nat,t≠1000000+d:=fun d e=>absurd ht (Nat.not_lt_of_le (by rw[e];exact Nat.le_add_right _ _))
  unfold astep at he;split at he
  ·split at he
   ·rename_i d hd';split at he
    ·split at he
     ·exact Qb he hd hn
     ·cases he
    ·cases he
   ·cases he
  ·split at he
   ·split at he
    ·exact Qb he hd hn
    ·split at he
     ·exact Qb he hd hn
     ·cases he
   ·split at he
    ·exact Qb he hd hn
    ·cases he
   ·cases he
  ·rename_i ho;rw[ho]at hst;cases hst
  ·split at he
   ·split at he
    ·split at he
     ·split at he
      ·rw[D2]at he;obtain⟨e2,h1,rfl⟩:=he;exact YB (ge _) (Qb h1 hd hn)
      ·cases he
     ·cases he
    ·cases he
   ·cases he
  ·split at he
   ·rename_i x y t1 t2 d _ _ hdst
    have htd:t≠d:=fun e=>by subst e;exact hd hdst
    split at he
    ·
     unfold ZE at he;split at he
     case h_2=>cases he
     split at he
     ·cases he
     simp only at he;split at he
     case h_2=>cases he
     split at he
     case h_2=>cases he
     split at he
     case h_2=>cases he
     split at he
     ·cases he;exact YB (ge _) (YB htd (qco hn))
     ·cases he
    ·split at he
     ·rename_i v env1 hap;obtain⟨g,_,rfl,_⟩:=HV hap;exact Qb he hd (qay hn)
     ·cases he
    ·cases he
   ·cases he
  ·split at he
   ·exact Qb he hd hn
   ·cases he
  ·split at he
   ·split at he
    ·rw[D2]at he;obtain⟨e2,h1,rfl⟩:=he;exact YB (ge _) (Qb h1 hd hn)
    ·cases he
   ·cases he
  ·split at he
   ·split at he
    ·rename_i hlk;split at he
     ·split at he
      ·cases he;exact YB (fun e=>by rw[e]at hn;rw[hn]at hlk;cases hlk) hn
      ·cases he;exact YB (fun e=>by rw[e]at hn;rw[hn]at hlk;cases hlk) hn
     ·cases he
    ·cases he
   ·cases he
  ·split at he
   ·split at he
    ·rw[D2]at he;obtain⟨e2,h1,rfl⟩:=he;exact YB (ge _) (Qb h1 hd hn)
    ·cases he
   ·cases he
  ·split at he
   ·exact Qb he hd hn
   ·cases he
 ·
  refine⟨hm,?_⟩
  cases hop:o.op with
  | makeSlice t l c =>
   have he0:=he;unfold astep at he;rw[hop]at he;simp only at he;split at he
   case h_2=>cases he
   rename_i d k m k' m' el s hd hl1 hc1 hse;split at he
   case h_2=>cases he
   rename_i z hz hcl;split at he
   case h_2=>cases he
   rename_i hzz;split at he
   case isFalse=>cases he
   rename_i hb;rw[D2]at he;obtain⟨e2,h1,rfl⟩:=he;rw[hd]at h1;obtain⟨hdn,rfl,_⟩:=Zz h1;simp only[A1]at hcl;obtain⟨c1,c2⟩:=JP hcl.1;refine⟨d,.sb (1000000+d) el s 0 m.toNat,.obj el s (List.replicate m.toNat (elemOf z s)),hd,rfl,⟨by cases hh:look e (1000000+d) with | none=>rfl | some y=>exact absurd hh (c1 y),c2⟩,LE.refl _,fun F hF hcF hFd=>?_⟩;have hlF:LE (ded F) F:=Np F
   have hN:NA all o e (ded F):=fun t ht y hy=>by
    have:=hF t ht y hy;unfold lookS at this ⊢;rw[Np];exact this
   have hk:=QR hN
   have hst2:astep P n o (ded F)=some (ins (1000000+d) (.obj el s (List.replicate m.toNat (elemOf z s))) (ins d (.sb (1000000+d) el s 0 m.toNat) (ded F))):=by
    unfold astep;rw[hop];have k1:=hk l (by rw[hop];simp[Op.operands]) _ hl1;have k2:=hk c (by rw[hop];simp[Op.operands]) _ hc1;simp only[hd,k1,k2,hse,hz,qgh hcF,hcl.2,E8,hzz];rw[if_pos hb];unfold eput;simp only[Np,hFd];have:Nat.blt d n=true:=D7 hdn;simp only[this,E8,D1]
   exact Dv (Nc (JH hN hw) hst2) hlF ((hlF.ins _ _).ins _ _)
  | _=>rw[hop]at hm;cases hm
 ·
  refine⟨ha,?_⟩;unfold isApp at ha;split at ha
  case h_2=>cases ha
  rename_i args ats hop;have he0:=he;unfold astep at he;rw[hop]at he;simp only at he;split at he
  case h_2=>cases he
  rename_i x y t t' d hax hat hd;unfold lfOk at hl;rw[hop]at hl;simp only[hax]at hl;rw[A4]at hl
  have hlf:∀ xo,Unord all o xo→isMv xo.op=true∧(match aop e x with | some (.sb ..)=>false | _=>true)=true∧∀ t,t∈namesOf all.toArray xo→plainV (look e t)=true:=by
   rintro xo ⟨k,i,hk,hi,hne,h1,h2⟩
   have hmem:∀ {k:Nat} {o:Oper},all[k]? = some o→(o,k)∈all.zipIdx:=fun {k o} h=>by
    rw[D8];exact⟨k,by simp[D9,h]⟩
   have q:=hl (o,k) (hmem hk);simp only[C8]at q
   rcases q with q | q
   ·rw[hd]at q;simp at q
   ·rw[A4]at q;have q:=q (xo,i) (hmem hi);simp only[h1,h2,Bool.false_or,C8,A1,A4]at q
    rcases q with q | q
    ·exact absurd (A0 q) hne
    ·exact q
  split at he
  ·
   rename_i id ex kx off m q hpx hqx
   refine .inl fun xo hxo=>?_
   have:=(hlf xo hxo).2.1;rw[hpx]at this;cases this
  ·rename_i p q hns hpx hqx;split at he
   case h_2=>cases he
   rename_i v env1 hap;obtain⟨g,g1,rfl,g2⟩:=HV hap;rw[hd]at he;obtain⟨hdn,rfl,_⟩:=Zz he;refine .inr ⟨d,v,g,hd,LE.refl _,g1,fun xo hxo=>(hlf xo hxo).2.2,fun F hF hFd=>?_⟩;have hk:=QR hF
   have hst2:astep P n o F=some (ins d v (F.map fun p=>(p.1,g p.2))):=by
    unfold astep;rw[hop]
    have ea:args=#[x,y]:=by apply Array.ext';simpa using hax
    have k1:=hk x (by rw[hop,ea];simp[Op.operands,Call.operands]) _ hpx;have k2:=hk y (by rw[hop,ea];simp[Op.operands,Call.operands]) _ hqx;simp only[hax,hat,hd,k1,k2]
    have hgo:(match aappend P t t' d p q F with | some (v,env1)=>eput n (some d) v env1 | none=>none)=some (ins d v (F.map fun p=>(p.1,g p.2))):=by
     rw[g2 F];simp only;unfold eput;simp only[Yj g,hFd,Option.map_none];have:Nat.blt d n=true:=D7 hdn;simp only[this,E8]
    cases p with
    | sb id ex kx off m=>exact absurd rfl (hns id ex kx off m)
    | _=>exact hgo
   exact Nc (JH hF hw) hst2
  ·cases he
theorem qbo {o:Oper} {e e1:Env} (hx:∃ f args ats,o.op=.call { callee:=.value f,args:=args,argTypes:=ats }) (heff:isEff o.op=true) (hst:isStore o.op=false) (hf:∀ t,t<1000000→o.dst≠some t→look e t=none→look e1 t=none):Hard P n all o e e1:=by
 obtain⟨f,args,ats,ho⟩:=hx;refine⟨⟨heff,hst⟩,hf,?_,?_⟩
 ·intro _ hm;rw[ho]at hm;cases hm
 ·intro _ hm;rw[ho]at hm;cases hm
theorem qhc {o:Oper} {e e1:Env} (hw:awanted all o e=some false) (he:eput n o.dst .und e=some e1) (heff:isEff o.op=true) (hst:isStore o.op=false):Hard P n all o e e1:=by
 have hg:o.guard≠none:=fun hg=>by
  unfold awanted at hw;rw[hg]at hw;cases hw
 exact⟨⟨heff,hst⟩,fun t _ hd hn=>Qb he hd hn,fun h=>absurd h hg,fun h=>absurd h hg⟩
end
end Go.AM
namespace Go.AM
open Go.RowKit
variable {P:Program} {n:Nat} {all:List Oper}
theorem qeA {draw:Bool} {e e1:Env} (hc:Chain P n draw all [] e e1):∀ (bs:Base) (M:Mem) (O:Gh) (a:Act) (w:World),Inv bs n M O e a w→∃ M' O',Inv bs n M' O' e1 a w:=by
 generalize hl:([]:List Oper)=l at hc
 induction hc with
 | nil=>intro bs M O a w h;exact⟨M,O,h⟩
 | drop e0 _ hw _ ih =>
  intro bs M O a w h;obtain⟨M',O',h'⟩:=hw bs M O a w h;exact ih hl bs M' O' a w h'
 | step=>cases hl
theorem qgi {draw:Bool} {o:Oper} {e e1:Env} (hc:Chain P n draw all [o] e e1):StepSem P n all o e e1:=by
 generalize hl:[o]=l at hc
 induction hc with
 | nil=>cases hl
 | drop e0 _ hw _ ih =>
  intro bs M O a w h K Q hK;obtain⟨M',O',h'⟩:=hw bs M O a w h;exact ih hl bs M' O' a w h' K Q hK
 | step h hr _ =>
  cases hl;intro bs M O a w hi K Q hK
  refine h.1 bs M O a w hi K Q fun a' w' M' O' h'=>?_
  obtain⟨M2,O2,h2⟩:=qeA hr bs M' O' a' w' h';exact hK a' w' M2 O2 h2
def AnyOk (P:Program) (n:Nat) (all:List Oper) (R:List Nat) (e e':Env):Prop :=
 ∀ (bs:Base) (Q:Exit→Act→World→Prop),jS all.toArray=true→(∀ a' w' M' O',Inv bs n M' O' e' a' w'→Q .normal a' w') →
  ∀ (fuel:Nat) (listed:Array Bool) (a:Act) (w:World) (M:Mem) (O:Gh),listed.size=all.length→Closed all (fun i=>listed.getD i false=true)→R.Nodup→(∀ i,i∈R→i<all.length)→(∀ i,i<all.length→(i∈R↔listed.getD i false=false)) →
   Je all.length listed≤fuel→Inv bs n M O e a w→wpAny P .any all.toArray Q fuel listed a w
theorem qfN {listed:Array Bool} {R:List Nat} (hback:jS all.toArray=true) (hsz:listed.size=all.length) (hlt:∀ i,i∈R→i<all.length) (hR:∀ i,i<all.length→(i∈R↔listed.getD i false=false)) (hr:A2 .any all.toArray listed=[]):R=[]:=by
 have hall:∀ i,i<all.length→listed.getD i false=true:=by
  intro i
  induction i using Nat.strongRecOn with
  | _ i ih =>
   intro hi
   cases hv:listed.getD i false with
   | true=>rfl
   | false =>
    exfalso;have ho:all[i]? = some all[i]:=A8 hi
    have:i∈A2 .any all.toArray listed:=by
     rw[mem_ready];refine⟨by rw[Xw (by omega)];exact hv,all[i],by simp,fun e he hb=>?_⟩
     have hlt:e.on<i:=by
      unfold jS at hback;rw[A4]at hback
      have hmem:(all[i],i)∈all.toArray.toList.zipIdx:=by
       rw[D8];exact⟨i,by simp[D9,ho]⟩
      have:=hback _ hmem;rw[F3]at this;have:=this e he;simp only[C8,A7]at this
      rcases this with h1 | h1
      ·rw[hb]at h1;cases h1
      ·exact A5 h1
     exact ih e.on hlt (by omega)
    rw[hr]at this;cases this
 cases R with
 | nil=>rfl
 | cons i R =>
  have hi:=hlt i (C4 ..);have:=(hR i hi).1 (C4 ..);rw[hall i hi]at this;cases this
theorem qgt {e:Env}:AnyOk P n all [] e e:=by
 intro bs Q hback hQ fuel listed a w M O hsz hc hnd hlt hR hu h
 have hr:A2 .any all.toArray listed=[]:=by
  cases hr:A2 .any all.toArray listed with
  | nil=>rfl
  | cons i rs =>
   exfalso
   have hi:i∈A2 .any all.toArray listed:=by rw[hr];exact C4 ..
   rw[mem_ready]at hi;obtain⟨h0,o,ho,_⟩:=hi
   have hil:i<all.length:=by
    have:=(Array.getElem?_eq_some_iff.1 ho).1
    simpa using this
   have:=(hR i hil).2 (by rw[← Xw (by omega)];exact h0);cases this
 cases fuel with
 | zero=>exact⟨hr,hQ a w M O h⟩
 | succ fuel=>exact⟨fun _=>hQ a w M O h,fun k hk=>by rw[hr]at hk;cases hk⟩
theorem qeG {R:List Nat} {e e':Env} (F:Nat→Env) (hne:R≠[]) (hF:∀ k o,k∈R→all[k]? = some o→readyR all R k=true→StepSem P n all o e (F k)) (hrec:∀ k,k∈R→readyR all R k=true→AnyOk P n all (R.erase k) (F k) e'):AnyOk P n all R e e':=by
 intro bs Q hback hQ fuel listed a w M O hsz hc hnd hlt hR hu h
 have hno:A2 .any all.toArray listed≠[]:=fun hr=>hne (qfN hback hsz hlt hR hr)
 cases fuel with
 | zero =>
  exfalso
  cases hr:A2 .any all.toArray listed with
  | nil=>exact hno hr
  | cons i rs =>
   have hi:i∈A2 .any all.toArray listed:=by rw[hr];exact C4 ..
   rw[mem_ready]at hi;obtain⟨h0,o,ho,_⟩:=hi
   have hil:i<all.length:=by
    have:=(Array.getElem?_eq_some_iff.1 ho).1
    simpa using this
   have:0<Je all.length listed:=by
    unfold Je;rw[List.countP_pos_iff];exact⟨i,List.mem_range.2 hil,by rw[h0];rfl⟩
   omega
 | succ fuel =>
  refine⟨fun hr=>absurd hr hno,fun k hk=>?_⟩;rw[mem_ready]at hk;obtain⟨hk0,ok,hok,hkall⟩:=hk
  have hok':all[k]? = some ok:=by simpa using hok
  have hkl:k<all.length:=(List.getElem?_eq_some_iff.1 hok').1
  have hkf:listed.getD k false=false:=by rw[← Xw (by omega)];exact hk0
  have hdeps:∀ i,((C7 all.toArray).getD k 0).testBit i=true→listed.getD i false=true :=
   XS hc k ok hok' (fun e he hb=>hkall e (by simpa using he) hb)
  have hsz':(listed.setIfInBounds k true).size=all.length:=by simp[hsz]
  have hset:∀ i,(listed.setIfInBounds k true).getD i false=true↔(i=k∨listed.getD i false=true):=by
   intro i;by_cases hik:i=k
   ·subst hik
    have hkk:i<listed.size:=by omega
    simp[hkk]
   ·rw[getD_set_ne false (fun e=>hik e.symm)];simp[hik]
  have hc':Closed all (fun i=>(listed.setIfInBounds k true).getD i false=true):=by
   intro j o ho hj e he hb;rw[hset]at hj ⊢
   rcases hj with rfl | hj
   ·rw[hok']at ho;cases ho;exact .inr (hkall e (by simpa using he) hb)
   ·exact .inr (hc j o ho hj e he hb)
  have hu':Je all.length (listed.setIfInBounds k true)≤fuel:=by
   have:Je all.length (listed.setIfInBounds k true)<Je all.length listed:=by
    unfold Je;refine Uv (x:=k) (fun i hi hq=>?_) (List.mem_range.2 hkl) (by rw[hk0];rfl) ?_
    ·have hil:=List.mem_range.1 hi;simp only[A7]at hq ⊢;rw[Xw (by omega)]at hq ⊢
     cases hv:listed.getD i false with
     | false=>rfl
     | true =>
      have:=(hset i).2 (.inr hv);rw[this]at hq;cases hq
    ·have hkk:k<listed.size:=by omega
     simp[hkk]
   omega
  have hwp:∀ (K:Act→World→Prop),(if Region.wanted ok (yielded all.toArray a.tmps) then ok.wp P a w K Q else K (a.put ok.dst undef) w)→wpOp P all.toArray Q k K a w:=by
   intro K hK;unfold wpOp;rw[hok];simp only;split
   ·rename_i hw;rw[if_pos hw]at hK;exact .inl hK
   ·rename_i hw;rw[if_neg hw]at hK;exact hK
  refine hwp _ ?_;have hkR:k∈R:=(hR k hkl).2 hkf
  have hrd:readyR all R k=true:=by
   unfold readyR;rw[A4];intro i hi
   cases hb:((C7 all.toArray).getD k 0).testBit i with
   | false=>rfl
   | true =>
    have:=(hR i (hlt i hi)).1 hi;rw[hdeps i hb]at this;cases this
  refine hF k ok hkR hok' hrd bs M O a w h _ Q fun a' w' M' O' h'=>hrec k hkR hrd bs Q hback hQ fuel _ a' w' M' O' hsz' hc' (hnd.erase k) (fun i hi=>hlt i (List.mem_of_mem_erase hi)) (fun i hi=>?_) hu' h'
  have h1:=hR i hi;rw[hnd.mem_erase_iff];constructor
  ·rintro⟨hik,hm⟩
   cases hv:(listed.setIfInBounds k true).getD i false with
   | false=>rfl
   | true =>
    rcases (hset i).1 hv with e | e
    ·exact absurd e hik
    ·rw[h1.1 hm]at e;cases e
  ·intro hv
   have hik:i≠k:=fun e=>by rw[(hset i).2 (.inl e)]at hv;cases hv
   refine⟨hik,h1.2 ?_⟩
   cases hw:listed.getD i false with
   | false=>rfl
   | true=>rw[(hset i).2 (.inr hw)]at hv;cases hv
theorem qcb {bs:Base} {M:Mem} {O:Gh} {a:Act} {w:World} {id:Nat} {ops:Array Oper} {e e':Env} (hmix:P.follows .mixedOrders=true) (hback:jS ops=true)
  (hc:AnyOk P n ops.toList (List.range ops.size) e e') (h:Inv bs n M O e a w) {Q:Exit→Act→World→Prop} (hQ:∀ a' w' M' O',Inv bs n M' O' e' a' w'→Q .normal a' w'):(Code.region id ops true).wp P Q a w:=by
 have ea:ops.toList.toArray=ops:=F4;refine wp_region_any hmix ?_;have hdr:Inv bs n M O e a { w with drawn:=w.drawn+1 }:=h.grown (row:=none) (fun g e=>by cases e) ⟨rfl,rfl,rfl,A9 _,fun _ _ _=>rfl⟩ (Sub.refl M) (fun b o u hu=>h.cons b o u hu) (fun _ _ _ _=>rfl);have:=hc bs Q (by rw[ea];exact hback) hQ ops.size (A6 ops.size false) a { w with drawn:=w.drawn+1 } M O (by simp)
  (fun j o ho hj=>by simp[E7]at hj;split at hj <;> simp at hj) List.nodup_range (fun i hi=>by simpa using List.mem_range.1 hi)
  (fun i hi=>⟨fun _=>by simp[E7];split <;> simp,fun _=>List.mem_range.2 (by simpa using hi)⟩)
  (by
   unfold Je;have:=F5 (p:=fun i=>!(A6 ops.size false).getD i true) (l:=List.range ops.toList.length)
   simpa using this) hdr
 rw[ea]at this;exact this
end Go.AM
namespace Go.AM
open Go.RowKit
section
variable {bs:Base} {n:Nat} {M:Mem} {O:Gh} {env:Env} {a:Act} {w:World} {P:Program}
theorem qgc (s:Nat) (y z:AV):(z=.pb s 0∧frzRef s y z=.ptr y)∨frzRef s y z=killRef s z:=by
 unfold frzRef;split
 ·rename_i t o;split
  ·rename_i ht;have ht:t=s:=A0 ht;subst ht;split
   ·exact .inl ⟨rfl,rfl⟩
   ·right;unfold killRef;simp[AV.refs]
  ·rename_i ht;right;unfold killRef;simp only[AV.refs,ht]
 ·exact .inr rfl
theorem qgW {s t:Nat} {x y0:AV} (h:look (env.map fun p=>(p.1,frzRef s y0 p.2)) t=some x):∃ y,look env t=some y∧x=frzRef s y0 y:=by
 rw[Yj (frzRef s y0)]at h
 cases hy:look env t with
 | none=>rw[hy]at h;cases h
 | some y =>
  rw[hy]at h;exact⟨y,rfl,(Option.some.inj h).symm⟩
theorem Inv.freezeTo (h:Inv bs n M O env a w) {s:Nat} {cs:List AV} (hl:look env s=some (.box cs)) (hslt:s<1000000) {y:AV} (hy:y.cells=cs.map AV.strip) :
  ∃ M' O',Inv bs n M' O' (ins s (.ptr y) (env.map fun p=>(p.1,frzRef s y p.2))) a w:=by
 obtain⟨g,cur,el,h1,h2,h3,h4,h5,h6⟩:=h.slots s _ hl;have h1:a.tmps.getD s undef=.pointer (some ⟨g,0,none⟩):=h1.resolve_right (by omega);obtain⟨hgB,hgs⟩:=h.own true s g h2
 have hsub:Sub M (addRow M g cur):=by
  intro b o u hu;unfold addRow;split
  ·rename_i e;subst e;rw[h5]at hu;cases hu
  ·exact hu
 have hO:∀ i c g',(setO O true s none) i c=some g'→O i c=some g'∧¬ (i=true∧c=s):=by
  intro i c g' hg;rw[Jw]at hg;split at hg
  ·cases hg
  ·rename_i hne;exact⟨hg,hne⟩
 refine⟨addRow M g cur,setO O true s none,h.size,h.defers,h.below,h.hB,?_,h.ext.trans hsub,?_,fun i c g' hg=>h.own i c g' (hO i c g' hg).1,fun i i' c c' g' k1 k2=>h.inj i i' c c' g' (hO _ _ _ k1).1 (hO _ _ _ k2).1,⟨h.fix.1,fun c g1 g2=>?_⟩,?_⟩
 ·intro b o u hu;unfold addRow at hu;split at hu
  ·rename_i e;subst e;rw[mcRow h3];exact hu
  ·exact h.cons b o u hu
 ·intro b o hb;unfold addRow;rw[if_neg (fun e=>hgB (by rw[← e];exact hb))];exact h.old b o hb
 ·obtain⟨e1,e2,e3⟩:=h.fix.2 c g1 g2;exact⟨(jY (O:=O) (v:=none) (by omega:c≠s)).1.trans e1,e2,e3⟩
 ·have hptr:R (addRow M g cur) (.ptr y) (.pointer (some ⟨g,0,none⟩)):=by
   refine R.ptr (fun j=>cur.getD j undef) (fun j c hc=>?_) (fun j c hc=>?_) (fun j c hc=>?_)
   all_goals
    rw[hy,B5]at hc
    cases hz:cs[j]? with
    | none=>rw[hz]at hc;cases hc
    | some z =>
     rw[hz]at hc;cases hc
     have hj:j<cur.size:=by rw[h4];exact (List.getElem?_eq_some_iff.1 hz).1
     have e:cur[j]? = some (cur.getD j undef):=by simp[hj]
     first
     | (rw[C5];unfold addRow;rw[if_pos rfl];exact JQ e (XJ ((h6 j z _ hz e).2.1.one (h6 j z _ hz e).1)))
     | exact ((h6 j z _ hz e).2.1.mono hsub).strip
     | exact XJ ((h6 j z _ hz e).2.1.one (h6 j z _ hz e).1)
  intro t x hx;rw[jq]at hx;split at hx
  ·rename_i e;subst e;cases hx;rw[h1];exact⟨hptr,trivial⟩
  ·rename_i hts;obtain⟨y',hy',rfl⟩:=qgW hx
   rcases qgc s y y' with ⟨rfl,he⟩ | he
   ·rw[he];obtain⟨g',e1,e2⟩:=h.slots t _ hy';rw[h2]at e2;cases e2;rw[e1];exact⟨hptr,trivial⟩
   rw[he];have hnr:=Zf s y'
   ·have hkeep:∀ i c g',O i c=some g'→¬ (i=true∧c=s)→∀ o,M g' o=none→addRow M g cur g' o=none:=by
     intro i c g' hg hne o hm;unfold addRow;rw[if_neg (fun e=>by subst e;exact hne (h.inj _ _ _ _ g' hg h2))];exact hm
    refine ((h.slots t _ hy').kill s).change2 hsub (fun _=>jY hts) (fun c hcc=>jY fun e=>?_) (fun g' _ hg=>⟨rfl,hkeep true t g' hg fun e=>hts e.2⟩) fun c g' hg=>⟨by simp[Jw,hg],rfl,hkeep false c g' hg fun e=>by cases e.1⟩
    rw[e,hnr]at hcc;cases hcc
theorem Inv.freeze1 (h:Inv bs n M O env a w) (s:Nat):∃ M' O',Inv bs n M' O' (freeze1 env s) a w:=by
 unfold AM.freeze1;split
 ·rename_i cs hl;split
  ·exact⟨M,O,h⟩
  rename_i hlt;have hlt:s<1000000:=A5 hlt;split
  ·rename_i x;refine h.freezeTo hl hlt ?_;obtain⟨g,cur,el,h1,h2,h3,h4,h5,h6⟩:=h.slots s _ hl
   have hj:0<cur.size:=by rw[h4];exact Nat.zero_lt_one
   have:=(h6 0 x cur[0] rfl (by simp[hj])).1;rw[YH (Xa this)];rfl
  ·exact h.freezeTo hl hlt rfl
 ·rename_i e k xs hl;split
  ·rename_i hus;exact h.freezeObj hl hus
  ·exact⟨M,O,h⟩
 ·rename_i ks vs hl;split
  ·rename_i hus;exact h.freezeMap hl hus
  ·exact⟨M,O,h⟩
 ·exact⟨M,O,h⟩
theorem Inv.nilTo (h:Inv bs n M O env a w) (q:Nat×Nat×Nat×Nat×Nat):Inv bs n M O (nilTo env q) a w:=by
 obtain⟨s,off,e,k,c⟩:=q;unfold AM.nilTo;simp only;split
 ·rename_i hl;refine⟨h.size,h.defers,h.below,h.hB,h.cons,h.ext,h.old,h.own,h.inj,h.fix,fun t x hx=>?_⟩;rw[jq]at hx;split at hx
  ·rename_i e1;subst e1;cases hx;have hs:=(h.slots t _ hl).1;generalize a.tmps.getD t undef=y at hs;cases hs;exact⟨R.lstn e k (some c),.inl ⟨none,rfl⟩⟩
  ·exact h.slots t x hx
 ·rename_i cs hl;split
  ·rename_i hc;refine⟨h.size,h.defers,h.below,h.hB,h.cons,h.ext,h.old,h.own,h.inj,h.fix,fun t x hx=>?_⟩;rw[jq]at hx;split at hx
   ·rename_i e1;subst e1;cases hx;obtain⟨g,cur,el,h1,h2,h3,h4,h5,h6⟩:=h.slots t _ hl;refine⟨g,cur,el,h1,h2,h3,by simpa using h4,h5,fun j x u hx hu=>?_⟩;rw[List.getElem?_set]at hx;split at hx
    ·rename_i hj;subst hj;split at hx
     ·cases hx;have:=(h6 off .nils u hc hu).2.1;cases this;exact⟨rfl,R.lstn e k (some c),.inl ⟨none,rfl⟩⟩
     ·cases hx
    ·exact h6 j x u hx hu
   ·exact h.slots t x hx
  ·exact h
 ·exact h
theorem Inv.mvObj (h:Inv bs n M O env a w) (q:Mv):∃ M' O',Inv bs n M' O' (mvObj env q) a w:=by
 cases q with
 | nil t e k id=>obtain⟨O',h'⟩:=h.nilObj (t,e,k,id);exact⟨M,O',h'⟩
 | ren id id'=>obtain⟨O',h'⟩:=h.renObj (id,id');exact⟨M,O',h'⟩
 | trim t id=>obtain⟨O',h'⟩:=h.trimObj (t,id);exact⟨M,O',h'⟩
 | frz id=>exact h.freeze1 id
 | slf s off=>exact⟨M,O,h.slfCell s off⟩
 | arr s=>obtain⟨O',h'⟩:=h.arrBox s;exact⟨M,O',h'⟩
theorem Inv.mvAll:∀ (l:List Mv) {M:Mem} {O:Gh} {env:Env},Inv bs n M O env a w→∃ M' O',Inv bs n M' O' (mvAll env l) a w
 | [],M,O,_,h=>⟨M,O,h⟩
 | q::l,_,_,_,h=>by
  obtain⟨M1,O1,h1⟩:=h.mvObj q;exact Inv.mvAll l h1
theorem Inv.freezeAll (h:Inv bs n M O env a w):∀ (l:List Nat),∃ M' O',Inv bs n M' O' (Zm env l) a w:=by
 intro l
 induction l generalizing M O env with
 | nil=>exact⟨M,O,h⟩
 | cons s l ih =>
  obtain⟨M1,O1,h1⟩:=h.freeze1 s;exact ih h1
theorem Inv.nilAll:∀ (l:List (Nat×Nat×Nat×Nat×Nat)) {env:Env},Inv bs n M O env a w→Inv bs n M O (nilAll env l) a w
 | [],_,h=>h
 | q::l,_,h=>Inv.nilAll l (h.nilTo q)
theorem Inv.relab1 (h:Inv bs n M O env a w) (q:Nat×Option Nat):∃ O',Inv bs n M O' (relab1 env q) a w:=by
 obtain⟨l,m⟩:=q;unfold AM.relab1
 cases m with
 | none=>exact⟨_,h.relab l none fun c e=>by cases e⟩
 | some c =>
  simp only;split
  ·exact⟨O,h⟩
  ·rename_i hb;simp only[Bool.or_eq_false_iff]at hb;refine⟨_,h.relab l (some c) fun c' e=>?_⟩;cases e;exact⟨fun e=>by subst e;simp[Nat.beq_refl]at hb,hb.2⟩
theorem Inv.relabAll:∀ (l:List (Nat×Option Nat)) {O:Gh} {env:Env},Inv bs n M O env a w→∃ O',Inv bs n M O' (Zv env l) a w
 | [],O,_,h=>⟨O,h⟩
 | q::l,_,_,h=>by
  obtain⟨O1,h1⟩:=h.relab1 q;exact Inv.relabAll l h1
def toExit:Ex→Exit
 | .normal=>.normal
 | .exit id=>.exit id
 | .ret=>.ret
def CodeOk (P:Program) (n:Nat) (c:Code) (e:Env) (ex:Ex) (e':Env):Prop :=
 ∀ (bs:Base) (M:Mem) (O:Gh) (a:Act) (w:World),Inv bs n M O e a w→∀ (Q:Exit→Act→World→Prop),(∀ a' w' M' O',Inv bs n M' O' e' a' w'→Q (toExit ex) a' w')→c.wp P Q a w
def LoopOk (P:Program) (n:Nat) (c:Code) (e:Env) (ex:Ex) (e':Env):Prop :=
 ∃ N,∀ (bs:Base) (M:Mem) (O:Gh) (a:Act) (w:World),Inv bs n M O e a w→∀ (Q:Exit→Act→World→Prop),(∀ a' w' M' O',Inv bs n M' O' e' a' w'→Q (toExit ex) a' w')→Code.rounds P c Q N a w
def JOk (P:Program):J→Prop
 | .code n c e ex e'=>CodeOk P n c e ex e'∧∀ c',c=.loop c'→LoopOk P n c' e ex e'
 | .ops n draw all rest e e'=>Chain P n draw all rest e e'
 | .call f args r=>CallOk P f args r
 | .callM f args hp r hp'=>CallMOk P f args hp r hp'∧∀ id x,look hp' id=some x→x.ent=true
 | .opsB n all rest e e'=>ChainB P n all rest e e'
 | .any n all R e e'=>AnyOk P n all R e e'
theorem qhz {M:Mem} {x:AV} {u v:Value} (h:x.val=some v) (hR:R M x u):u=v:=by
 unfold AV.val at h;split at h <;> cases h <;> cases hR <;> rfl
theorem qia {M:Mem} {x:AV} {v:Value} (h:x.val=some v):R M x v:=by
 unfold AV.val at h;split at h <;> cases h
 ·exact .int _ _
 ·exact .bool _
 ·exact .str _
theorem qhy {M:Mem} {B:Nat} {w:World} {x:AV} {v:Value} (h:x.val=some v):OwnR M B w x v:=by
 unfold AV.val at h;split at h <;> cases h <;> trivial
theorem qcB {M:Mem}:∀ {args:List AV} {vs:List Value},optAll (args.map AV.val)=some vs→∀ us:List Value,args.length=us.length→(∀ (j:Nat) c v,args[j]? = some c→us[j]? = some v→R M c v)→us=vs
 | [],vs,h,us,hl,_=>by
  cases h;exact List.eq_nil_of_length_eq_zero hl.symm
 | x::xs,vs,h,us,hl,hR=>by
  cases us with
  | nil=>cases hl
  | cons u us =>
   have hs:=Jk h
   cases vs with
   | nil=>cases hs
   | cons v vs =>
    simp only[D3,List.cons.injEq]at hs;have h1:=qhz hs.1 (hR 0 x u rfl rfl)
    have h2:optAll (xs.map AV.val)=some vs:=by
     rw[hs.2];clear h hs hl hR
     induction vs with
     | nil=>rfl
     | cons y ys ih=>simp only[D3,optAll,ih]
    rw[h1,qcB h2 us (by simpa using hl) fun j c w hc hw=>hR (j+1) c w (by simpa using hc) (by simpa using hw)]
theorem qae {M:Mem} {w w':World} (h:Cons M w) (hB:Below w.heap.size w w'):Cons M w':=by
 intro b o u hu;have h1:=h b o u hu;rw[Xq (hB.block _ (VE h1))];exact h1
theorem LoopOk.code {c:Code} {e e':Env} {ex:Ex} (h:LoopOk P n c e ex e'):CodeOk P n (.loop c) e ex e':=by
 obtain⟨N,hN⟩:=h;intro bs M O a w hi Q hQ;exact wp_loop_rounds N (hN bs M O a w hi Q hQ)
theorem noloop {P:Program} {n:Nat} {c:Code} {e e':Env} {ex:Ex} (h:∀ c',c≠.loop c'):∀ c',c=.loop c'→LoopOk P n c' e ex e':=fun c' hc=>absurd hc (h c')
def resRun (tmps:Array Value) (r:ResultVar):Sem Value :=
 match r with
 | .tmp t=>pure (tmps.getD t undef)
 | .cell ad t=>do loadVar t (← asAddr (tmps.getD ad undef))
theorem Hy {t:TypeId} {cs:List AV} {off:Nat} {z:AV} (hc:cut P t cs off=some z):∀ s,z.refs s=false:=by
 intro s;unfold cut at hc;split at hc
 ·cases hc
 ·split at hc
  ·cases hc
  ·split at hc
   ·cases hc;rfl
   ·split at hc
    ·have:=(NB hc).2
     cases z <;> first | rfl | cases this
    ·cases hc
theorem Hz {t:TypeId} {cs:List AV} {off:Nat} {z:AV} (hc:cut P t cs off=some z) (f:Nat) (caps:List AV):z≠.clb f caps:=by
 rintro rfl
 unfold cut at hc;split at hc
 ·cases hc
 ·split at hc
  ·cases hc
  ·split at hc
   ·cases hc
   ·split at hc
    ·have:=(NB hc).2;cases this
    ·cases hc
theorem HA {t:TypeId} {cs:List AV} {off:Nat} {z:AV} (hc:cut P t cs off=some z) (l:List AV):z≠.agr l:=by
 rintro rfl
 unfold cut at hc;split at hc
 ·cases hc
 ·split at hc
  ·cases hc
  ·split at hc
   ·cases hc
   ·split at hc
    ·have:=(NB hc).2;cases this
    ·cases hc
theorem qaG (h:Inv bs n M O env a w) {r:ResultVar} {x:AV} (hx:aresult P env r=some x):∃ v,(resRun a.tmps r).run P w=.ok v w∧R M x v∧OwnV O M w x v:=by
 cases r with
 | tmp t =>
  simp only[aresult]at hx
  split at hx <;> try (cases hx;done)
  rename_i v hnb hnp hns hne hno hnt hho hmb hbx hsl har hcl hl;cases hx;have hs:=h.slots t _ hl;refine⟨_,rfl,?_⟩
  cases x with
  | tpr s e k off m rest=>exact absurd rfl (hnt s e k off m rest)
  | box cs=>exact absurd rfl (hnb cs)
  | pb s o=>exact absurd rfl (hnp s o)
  | sb s e k off m=>exact absurd rfl (hns s e k off m)
  | pe s k j o=>exact absurd rfl (hne s k j o)
  | obj e k xs=>exact absurd rfl (hno e k xs)
  | hob kd ks vs=>exact absurd rfl (hho kd ks vs)
  | mb kd s=>exact absurd rfl (hmb kd s)
  | bxg cs=>exact absurd rfl (hbx cs)
  | slf=>exact absurd rfl hsl
  | agr cs=>exact absurd rfl (har cs)
  | clb f caps=>exact absurd rfl (hcl f caps)
  | _=>exact hs
 | cell ad t =>
  simp only[aresult]at hx;split at hx
  ·rename_i cs hl hlt;have hlt:ad<1000000:=A5 hlt;obtain⟨g,cur,el,h1,h2,_⟩:=h.slots ad _ hl;have h1:a.tmps.getD ad undef=.pointer (some ⟨g,0,none⟩):=h1.resolve_right (fun hge=>absurd hlt (Nat.not_lt_of_le hge));obtain⟨cur',el',h3,h4,h5,h6⟩:=Vf h hl h2
   cases hc:cut P t cs 0 with
   | none=>rw[hc]at hx;cases hx
   | some z =>
    rw[hc]at hx;cases hx;obtain⟨v,hv1,hv2⟩:=Qn (O:=O) (b:=g) (base:=0) hc (fun j=>cur'.getD j undef) (fun j c hc=>by rw[C5];exact (h6 j c hc).1) (fun j c hc=>(h6 j c hc).2.2);refine⟨v,?_,(hv2.r (Hy hc) (fun f caps e=>by subst e;exact (Hz hc f caps rfl).elim) fun cs e=>by subst e;exact (HA hc cs rfl).elim).strip,XY z v⟩;unfold resRun;simp only[h1,asAddr,B6,B7,B9];exact hv1
  ·
   rename_i s hl hlt;split at hx
   case h_2=>cases hx
   rename_i ks cs hl2;obtain⟨g,h1,h2⟩:=h.slots ad _ hl;obtain⟨cur',el',h3,h4,h5,h6⟩:=qbn h hl2 h2
   cases hc:cut P t cs 0 with
   | none=>rw[hc]at hx;cases hx
   | some z =>
    rw[hc]at hx;cases hx;obtain⟨v,hv1,hv2⟩:=Qn (O:=O) (b:=g) (base:=0) hc (fun j=>cur'.getD j undef) (fun j c hc=>by rw[C5];exact (h6 j c hc).1) (fun j c hc=>(h6 j c hc).2.2);refine⟨v,?_,(hv2.r (Hy hc) (fun f caps e=>by subst e;exact (Hz hc f caps rfl).elim) fun cs e=>by subst e;exact (HA hc cs rfl).elim).strip,XY z v⟩;unfold resRun;simp only[h1,asAddr,B6,B7,B9];exact hv1
  ·cases hx
theorem Yv (h:Inv bs n M O env a w):∀ {rs:List ResultVar} {l:List AV},optAll (rs.map (aresult P env))=some l →
  ∃ vs:List Value,(rs.mapM (resRun a.tmps)).run P w=.ok vs w∧l.length=vs.length∧∀ (j:Nat) c v,l[j]? = some c→vs[j]? = some v→R M c v∧OwnV O M w c v
 | [],l,hl=>by
  cases hl;exact⟨[],rfl,rfl,by simp⟩
 | r::rs,l,hl=>by
  simp only[D3]at hl
  cases hr:aresult P env r with
  | none=>rw[hr]at hl;cases hl
  | some x =>
   rw[hr]at hl;simp only[optAll]at hl;split at hl
   ·rename_i l' hl';cases hl;obtain⟨v,h1,h2⟩:=qaG h hr;obtain⟨vs,h3,h4,h5⟩:=Yv h hl';refine⟨v::vs,?_,by simp[h4],fun j c u hc hu=>?_⟩
    ·simp only[List.mapM_cons,B6,h1,h3,B9,B7]
    ·cases j with
     | zero=>simp at hc hu;subst hc;subst hu;exact h2
     | succ j=>exact h5 j c u (by simpa using hc) (by simpa using hu)
   ·cases hl
theorem UK (fn:Func) (tmps:Array Value):results fn tmps=(do let vs ← fn.results.mapM (resRun tmps);pure (if h:vs.size=1 then vs[0] else .tuple vs)):=by
 unfold results
 have:resRun tmps=(fun x=>match x with | ResultVar.tmp t=>(pure (tmps.getD t undef):Sem Value) | .cell ad t=>do loadVar t (← asAddr (tmps.getD ad undef))):=by
  funext r
  cases r <;> rfl
 rw[this];rfl
theorem ZN (h:Inv bs n M O env a w) {fn:Func} {r:AV} (hr:QT P fn env=some r):∃ v,(results fn a.tmps).run P w=.ok v w∧R M r v∧OwnV O M w r v:=by
 unfold QT at hr
 have hmap:∀ (l:List AV),optAll (fn.results.toList.map (aresult P env))=some l→∃ vs:List Value,(results fn a.tmps).run P w=.ok (if h:vs.toArray.size=1 then vs.toArray[0] else .tuple vs.toArray) w∧l.length=vs.length∧∀ (j:Nat) c v,l[j]? = some c→vs[j]? = some v→R M c v∧OwnV O M w c v:=by
  intro l hl;obtain⟨vs,h1,h2,h3⟩:=Yv h hl;refine⟨vs,?_,h2,h3⟩;rw[UK,E9];simp only[B6,Sem.run_map,h1,B9,B7]
 split at hr
 ·rename_i rv hrs;obtain⟨vs,h1,h2,h3⟩:=hmap [r] (by rw[hrs];simp only[D3,List.map_nil,hr,optAll])
  cases vs with
  | nil=>simp at h2
  | cons v vs =>
   cases vs with
   | cons _ _=>simp at h2
   | nil=>exact⟨v,by simpa using h1,h3 0 r v rfl rfl⟩
 ·rename_i rs hne;split at hr
  ·rename_i l hl;cases hr;obtain⟨vs,h1,h2,h3⟩:=hmap l hl
   have hlen:vs.length=fn.results.toList.length:=by
    have:=Jk hl;have:=congrArg List.length this;simp at this;simp;omega
   have hn1:¬ vs.toArray.size=1:=by
    intro e
    have e':fn.results.toList.length=1:=by rw[← hlen];simpa using e
    match hrs:fn.results.toList,e' with
    | [rv],_=>exact hne rv hrs
   rw[dif_neg hn1]at h1;refine⟨_,h1,R.tup (by simpa using h2) fun j c v hc hv=>?_,trivial⟩;rw[B5]at hc
   cases hz:l[j]? with
   | none=>rw[hz]at hc;cases hc
   | some z =>
    rw[hz]at hc;cases hc;exact (h3 j z v hz hv).1.strip
  ·cases hr
theorem Uq:∀ (l:List AV) (i t:Nat) (x:AV),look (argsEnv i l) t=some x→i≤t∧l[t - i]? = some x
 | [],i,t,x,h=>by simp[argsEnv,look]at h
 | y::l,i,t,x,h=>by
  simp only[argsEnv,look]at h;split at h
  ·rename_i hb;have:=A0 hb;subst this;cases h;exact⟨A9 _,by simp⟩
  ·rename_i hb;obtain⟨h1,h2⟩:=Uq l (i+1) t x h;refine⟨by omega,?_⟩;rw[show t - i=(t - (i+1))+1 by omega]
   simpa using h2
theorem Hs {t:Nat} {x:AV}:∀ {l1 l2:Env},look (l1++l2) t=some x→look l1 t=some x∨look l2 t=some x
 | [],l2,h=>.inr h
 | (s,y)::r,l2,h=>by
  simp only[List.cons_append,look]at h ⊢;split at h
  ·exact .inl h
  ·exact Hs h
theorem Up {t:Nat} {x:AV}:∀ {env:Env},look (ents env) t=some x→look env t=some x∧x.ent=true∧1000000≤t
 | [],h=>by simp[ents,look]at h
 | (s,y)::r,h=>by
  simp only[ents]at h;split at h
  ·rename_i hc;simp only[A1]at hc;simp only[look]at h ⊢;split at h
   ·rename_i hb;have:=A0 hb;subst this;cases h;exact⟨rfl,hc.1,A5 hc.2⟩
   ·exact Up h
  ·obtain⟨h1,h2⟩:=QE h;obtain⟨k1,k2,k3⟩:=Up h2;refine⟨?_,k2,k3⟩;simp only[look];split
   ·rename_i hb;exact absurd (A0 hb).symm h1
   ·exact k1
theorem DD (h:Inv bs n M O env a w) {fn:Func} {r:AV} (hr:Ux P fn env=some r):∃ v,(results fn a.tmps).run P w=.ok v w∧ValOk O M w r v:=by
 have plain:∀ r,QT P fn env=some r→∃ v,(results fn a.tmps).run P w=.ok v w∧ValOk O M w r v:=by
  intro r hr;obtain⟨v,h1,h2,h3⟩:=ZN h hr;refine⟨v,h1,?_⟩
  cases r with
  | box cs=>cases h2
  | obj e k xs=>cases h2
  | pb s o=>cases h2
  | sb s e k off m=>cases h2
  | pe s k j o=>cases h2
  | tpr s e k off m rest=>cases h2
  | hob kd ks vs=>cases h2
  | mb kd s=>cases h2
  | bxg cs=>cases h2
  | slf=>cases h2
  | agr cs=>cases h2
  | clb f caps=>cases h2
  | _=>exact⟨h2,h3⟩
 unfold Ux at hr;split at hr
 ·rename_i t hrs;split at hr
  ·rename_i id e k off m hl;cases hr;refine⟨_,?_,h.slots t _ hl⟩;rw[UK,E9,hrs];simp[resRun]
  ·exact plain r hr
 ·rename_i t r1 rs hrs;split at hr
  ·rename_i id e k off m l hl hl2;cases hr;obtain⟨vs,q1,q2,q3⟩:=Yv h hl2;refine⟨.tuple (a.tmps.getD t undef::vs).toArray,?_,a.tmps.getD t undef,vs,rfl,h.slots t _ hl,by simpa using q2,fun j c u hc hu=>?_⟩
   ·rw[UK,E9,hrs]
    have hl1:(r1::rs).length=vs.length:=by
     have:=congrArg List.length (Jk hl2);simp at this;simp;omega
    have hm:(List.mapM (resRun a.tmps) (.tmp t::r1::rs)).run P w=.ok (a.tmps.getD t undef::vs) w:=by
     rw[List.mapM_cons,B6];simp only[resRun,B7,B9,B6];rw[q1];simp only[B9,B7]
    simp only[B6,Sem.run_map,hm,B9,B7]
    have hne:¬ (a.tmps.getD t undef::vs).toArray.size=1:=by
     simp only[List.size_toArray,List.length_cons]at hl1 ⊢;omega
    rw[dif_neg hne]
   ·rw[B5]at hc
    cases hz:l[j]? with
    | none=>rw[hz]at hc;cases hc
    | some z =>
     rw[hz]at hc;cases hc;exact (q3 j z u hz hu).1.strip
  ·exact plain r hr
 ·exact plain r hr
theorem Uj (hmix:P.follows .mixedOrders=true) {j:J} (h:Run P j):JOk P j:=by
 induction h with
 | skip =>
  refine⟨fun bs M O a w hi Q hQ=>wp_skip (hQ _ _ _ _ hi),noloop fun c' e=>by cases e⟩
 | ret=>exact⟨fun bs M O a w hi Q hQ=>wp_ret (hQ _ _ _ _ hi),noloop fun c' e=>by cases e⟩
 | exit=>exact⟨fun bs M O a w hi Q hQ=>wp_exit (hQ _ _ _ _ hi),noloop fun c' e=>by cases e⟩
 | seqN _ _ ih1 ih2 =>
  refine⟨fun bs M O a w hi Q hQ=>wp_seq (ih1.1 bs M O a w hi _ fun a' w' M' O' h'=>ih2.1 bs M' O' a' w' h' Q hQ),noloop fun c' e=>by cases e⟩
 | seqX _ ih =>
  exact⟨fun bs M O a w hi Q hQ=>wp_seq (ih.1 bs M O a w hi _ fun a' w' M' O' h'=>hQ a' w' M' O' h'),noloop fun c' e=>by cases e⟩
 | seqR _ ih =>
  exact⟨fun bs M O a w hi Q hQ=>wp_seq (ih.1 bs M O a w hi _ fun a' w' M' O' h'=>hQ a' w' M' O' h'),noloop fun c' e=>by cases e⟩
 | @cond n c x y env ex e1 b hc _ ih =>
  refine⟨fun bs M O a w hi Q hQ=>?_,noloop fun c' e=>by cases e⟩;have hv:=(qD hi hc).1.bool_inv;refine wp_cond hv ?_;have:=ih.1 bs M O a w hi Q hQ;cases b <;> exact this
 | @seqU n v c x y z env e0 ei e2 p _ hc _ _ _ ih0 ih1 ih2 ih3 =>
  refine⟨fun bs M O a w hi Q hQ=>?_,noloop fun c' e=>by cases e⟩;refine wp_seq (wp_seq (ih0.1 bs M O a w hi _ fun a0 w0 M1 O1 h0=>?_));have hv:=(qD h0 hc).1
  obtain⟨b,hb1,hb2⟩:∃ b,a0.eval c=.bool b∧(b=true→p=true):=by
   generalize a0.eval c=v at hv
   cases hv with
   | ub p b h=>exact⟨b,rfl,h⟩
  refine wp_cond hb1 ?_
  cases b with
  | true=>exact (ih1 (hb2 rfl)).1 bs M1 O1 a0 w0 h0 _ fun a' w' M' O' h'=>hQ a' w' M' O' h'
  | false=>exact ih2.1 bs M1 O1 a0 w0 h0 _ fun a' w' M' O' h'=>ih3.1 bs M' O' a' w' h' Q hQ
 | @mv n c env ex e1 q _ ih =>
  refine⟨fun bs M O a w hi Q hQ=>?_,fun c' e=>?_⟩
  ·obtain⟨M',O',h'⟩:=hi.mvAll q;exact ih.1 bs M' O' a w h' Q hQ
  ·obtain⟨N,hN⟩:=ih.2 c' e;refine⟨N,fun bs M O a w hi Q hQ=>?_⟩;obtain⟨M',O',h'⟩:=hi.mvAll q;exact hN bs M' O' a w h' Q hQ
 | @block n id c env ex e1 _ ih =>
  refine⟨fun bs M O a w hi Q hQ=>wp_block (ih.1 bs M O a w hi _ fun a' w' M' O' h'=>?_),noloop fun c' e=>by cases e⟩;have:=hQ a' w' M' O' h'
  cases ex with
  | normal=>exact this
  | ret=>exact this
  | exit i =>
   simp only[toExit,Exit.inBlock];simp only[Ex.unblock]at this;split at this
   ·rename_i hb;rw[if_pos (A0 hb)];exact this
   ·rename_i hb;rw[if_neg (fun e=>by subst e;simp at hb)];exact this
 | @loopN n c env e1 ex e2 _ _ ih1 ih2 =>
  have hl:LoopOk P n c env ex e2:=by
   obtain⟨N,hN⟩:=ih2.2 c rfl;refine⟨N+1,fun bs M O a w hi Q hQ=>?_⟩;rw[rounds_succ]
   exact ih1.1 bs M O a w hi _ fun a' w' M' O' h'=>hN bs M' O' a' w' h' Q hQ
  exact⟨hl.code,fun c' e=>by cases e;exact hl⟩
 | @loopX n c env id e1 _ ih =>
  have hl:LoopOk P n c env (.exit id) e1:=⟨1,fun bs M O a w hi Q hQ=>by
   rw[rounds_succ]
   exact ih.1 bs M O a w hi _ fun a' w' M' O' h'=>hQ a' w' M' O' h'⟩
  exact⟨hl.code,fun c' e=>by cases e;exact hl⟩
 | @loopR n c env e1 _ ih =>
  have hl:LoopOk P n c env .ret e1:=⟨1,fun bs M O a w hi Q hQ=>by
   rw[rounds_succ]
   exact ih.1 bs M O a w hi _ fun a' w' M' O' h'=>hQ a' w' M' O' h'⟩
  exact⟨hl.code,fun c' e=>by cases e;exact hl⟩
 | @region n id ops draw env e1 hd _ ih =>
  refine⟨fun bs M O a w hi Q hQ=>?_,noloop fun c' e=>by cases e⟩
  cases draw with
  | false=>exact qee ih hi hQ
  | true =>
   obtain⟨h1,h2⟩:=hd rfl;exact qcT hmix h1 h2 ih hi hQ
 | @regionB n id ops env e1 hd _ ih =>
  refine⟨fun bs M O a w hi Q hQ=>?_,noloop fun c' e=>by cases e⟩;simp only[A1]at hd;exact qca hmix hd.1.1 hd.1.2 hd.2 ih hi hQ
 | @regionA n id ops env e1 e2 hb _ _ ih ih2 =>
  exact⟨fun bs M O a w hi Q hQ=>qcb hmix hb ih hi fun a' w' M' O' h'=>He ih2 h' hQ,noloop fun c' e=>by cases e⟩
 | anyNil=>exact qgt
 | @anyStep n all R env e1 F hne _ _ ih1 ih=>exact qeG F hne (fun k o hk ho hr=>qgi (ih1 k o hk ho hr)) ih
 | nilB=>exact .nil
 | opB hw he _ ih=>exact .step (qgp hw he) ih
 | @weak n c env ex e1 keep frz nl rl _ ih =>
  have hinv:∀ {bs:Base} {M:Mem} {O:Gh} {a:Act} {w:World},Inv bs n M O env a w→∃ M' O',Inv bs n M' O' (weakE keep frz nl rl env) a w:=by
   intro bs M O a w hi;obtain⟨M',O',h'⟩:=hi.freezeAll frz;obtain⟨O2,h2⟩:=Inv.relabAll rl ((Inv.nilAll nl h').drop keep);exact⟨M',O2,h2⟩
  refine⟨fun bs M O a w hi Q hQ=>?_,fun c' e=>?_⟩
  ·obtain⟨M',O',h'⟩:=hinv hi;exact ih.1 bs M' O' a w h' Q hQ
  ·obtain⟨N,hN⟩:=ih.2 c' e;refine⟨N,fun bs M O a w hi Q hQ=>?_⟩;obtain⟨M',O',h'⟩:=hinv hi;exact hN bs M' O' a w h' Q hQ
 | nil=>exact .nil
 | drop keep _ ih=>exact .drop _ rfl (fun bs M O a w hi=>⟨M,O,hi.drop keep⟩) ih
 | mvOp q _ ih=>exact .drop _ rfl (fun bs M O a w hi=>hi.mvAll q) ih
 | @not n draw all o rest env e1 e2 hw he _ ih =>
  refine .step ⟨qgx hw he,fun _=>?_⟩ ih
  cases h1:isEff o.op with
  | false=>exact .inr (.inr ⟨.inl rfl,qaY hw he⟩)
  | true =>
   cases h2:isStore o.op with
   | false=>exact .inl (qhc hw he h1 h2)
   | true=>exact .inr (.inr ⟨.inr rfl,qaY hw he⟩)
 | @op n draw all o rest env e1 e2 hw he _ ih =>
  refine .step ?_ ih
  cases draw with
  | false=>exact⟨Nc hw he,fun e=>by cases e⟩
  | true =>
   simp only[astepDA]at he;split at he
   case h_2=>cases he
   rename_i hlf;simp only[astepD]at he;split at he
   ·rename_i heff;refine⟨Nc hw he,fun _=>?_⟩
    cases h2:isStore o.op with
    | false=>exact .inl (qhM hw hlf he heff h2)
    | true=>exact .inr (.inl (qfs hw h2 he))
   ·rename_i heff;split at he
    ·rename_i x hx;split at he
     ·rename_i hnb;exact⟨qfq hw hx he,fun _=>.inr (.inr ⟨.inl heff,qgJ hw hx he (by simpa[notBox] using hnb)⟩)⟩
     ·cases he
    ·cases he
 | @rowOp n all o rest env e1 e2 hw he _ ih=>exact .step ⟨qgw hw he,fun e=>by cases e⟩ ih
 | @agrOp n all o rest env e1 e2 hw he _ ih=>exact .step ⟨qgy hw he,fun e=>by cases e⟩ ih
 | @callOp n draw all o rest env f args r e1 e2 hw hc _ he _ ihc ih =>
  refine .step ⟨qfr hw hc ihc he,fun hd=>?_⟩ ih
  cases hef:isEff o.op with
  | true =>
   have hc0:=hc;unfold acallee at hc;split at hc
   case h_2=>cases hc
   rename_i fo as ats ho;subst hd;refine .inl (qbo ⟨fo,as,ats,ho⟩ hef (by rw[ho];rfl) fun t _ hdt hn=>?_);unfold callPut at he;simp only at he;split at he
   ·exact Qb he hdt hn
   ·cases he
  | false =>
   subst hd;exact .inr (.inr ⟨.inl rfl,qeh hw hc ihc he⟩)
 | @callOpR n draw all o rest env f args r e1 e2 hw hc hp _ he _ ihc ih =>
  refine .step ⟨qdO hw hc hp ihc he,fun hd=>?_⟩ ih
  cases hef:isEff o.op with
  | true =>
   have hc0:=hc;unfold Xs at hc;split at hc
   case h_2=>cases hc
   rename_i fo as ats ho;exact .inl (qbo ⟨fo,as,ats,ho⟩ hef (by rw[ho];rfl) fun t _ hdt hn=>Qb he hdt hn)
  | false=>exact .inr (.inr ⟨.inl rfl,qcY hw hc hp ihc he⟩)
 | @callOpM n all o rest env f args hp r hp' e1 e2 ρ nw hw hc _ he _ ihc ih =>
  exact .step ⟨qdP hw hc ihc.1 ihc.2 he,fun hd=>by cases hd⟩ ih
 | @callM f args hp r fn c ex e1 hf hb hlen _ hex hres ih =>
  simp only[A1]at hlen;obtain⟨⟨hlen,hsm⟩,hhp⟩:=hlen;have hle:=A5 hlen;have hsm:=A5 hsm;refine⟨?_,fun id x hx=>?_⟩
  ·intro M O w vs hG hC hl hO hOi hR hH;refine calls_of_wp hf hb ?_
   have hsz:vs.toArray.size=vs.length:=by simp
   have hinv:Inv ⟨fun k=>k<w.heap.size∧∀ c,O.o true c≠some k,M,w,O,hG⟩ fn.ntmps M O (argsEnv 0 (args.map AV.strip)++hp) { tmps:=vs.toArray++A6 (fn.ntmps - vs.toArray.size) undef,defers:=[] } w:=by
    have hsize:(vs.toArray++A6 (fn.ntmps - vs.toArray.size) undef).size=fn.ntmps:=by simp;omega
    refine⟨hsize,rfl,BelowD.refl _ _,fun k hk=>hk.1,hC,Sub.refl M,fun _ _ _=>rfl,fun i c g e=>?_,fun i i' c c' g e e'=>?_,⟨hsm,fun c _ _=>Gh.Eq1.refl O c⟩,fun t x hx=>?_⟩
    ·obtain⟨rfl,h2⟩:=hO i c g e;exact⟨fun hD=>hD.2 c e,h2⟩
    ·obtain⟨rfl,h2⟩:=hO i c g e;obtain⟨rfl,h3⟩:=hO i' c' g e';exact⟨rfl,hOi c c' g e e'⟩
    ·rcases Hs hx with hx | hx
     ·obtain⟨_,h2⟩:=Uq _ 0 t x hx;simp only[Nat.sub_zero,B5]at h2
      cases hz:args[t]? with
      | none=>rw[hz]at h2;cases h2
      | some z =>
       rw[hz]at h2;cases h2
       have htl:t<vs.length:=by rw[← hl];exact (List.getElem?_eq_some_iff.1 hz).1
       have hv:(vs.toArray++A6 (fn.ntmps - vs.toArray.size) undef).getD t undef=vs[t]:=by
        rw[D4,F6 (by simpa using htl)];simp[htl]
       rw[hv];exact XX (hR t z _ hz (A8 htl))
     ·have hge:2000000≤t:=by
       obtain⟨q,hq,h1,_⟩:=Vb hx;unfold hpOk at hhp;rw[A4]at hhp;have:=hhp q hq;simp only[A1]at this;rw[← h1];exact A5 this.2
      have hv:(vs.toArray++A6 (fn.ntmps - vs.toArray.size) undef).getD t undef=undef:=by
       rw[D4,F7 (by rw[hsize];omega)];rfl
      rw[hv];exact hH t x hx
   refine ih.1 _ _ _ _ _ hinv _ fun a' w' M' O' h'=>?_
   obtain⟨v,hv1,hv2⟩:=DD h' hres
   have fin:∃ v1,(results fn a'.tmps).run P w'=.ok v1 w'∧∃ v2 M2 O2,Ending.returned v1=.returned v2∧BelowD (fun k=>k<w.heap.size∧∀ c,O.o true c≠some k) w w'∧Sub M M2∧Cons M2 w'∧(∀ b o,b<w.heap.size→(∀ c,O.o true c≠some b)→M2 b o=M b o) ∧
     (∀ i c g,O2 i c=some g→g<w'.heap.size∧(w.heap.size≤g∨∃ c',O.o true c'=some g))∧(∀ i i' c c' g,O2 i c=some g→O2 i' c'=some g→i=i'∧c=c')∧(∀ c,2000000≤c→c<3000000→Gh.Eq1 O O2 c) ∧
     ValOk O2 M2 w' r v2∧∀ id x,look (ents e1) id=some x→Sat O2 M2 w' id x undef:=by
    refine⟨v,hv1,v,M',O',rfl,h'.below,h'.ext,h'.cons,fun b o h1 h2=>h'.old b o ⟨h1,h2⟩,fun i c g hg=>?_,h'.inj,fun c h1 h2=>h'.fix.2 c h1 h2,hv2,fun id x hx=>?_⟩
    ·obtain⟨k1,k2⟩:=h'.own i c g hg;refine⟨k2,?_⟩
     rcases E0 g w.heap.size with k3 | k3
     ·refine .inr (Classical.byContradiction fun hno=>k1 ⟨k3,fun c' hc'=>hno ⟨c',hc'⟩⟩)
     ·exact .inl k3
    ·obtain⟨k1,k2,k3⟩:=Up hx;have hs:=h'.slots id x k1
     have hv:a'.tmps.getD id undef=undef:=by
      rw[D4,F7 (by rw[h'.size];omega)];rfl
     rw[hv]at hs;exact hs
   cases ex with
   | normal=>exact⟨h'.defers,fin⟩
   | ret=>exact⟨h'.defers,fin⟩
   | exit id=>exact hex.elim
  ·exact (Up hx).2.1
 | ext0 h=>exact h
 | extM h h'=>exact⟨h,h'⟩
 | @ext f args r vs rv hvs hrv hk =>
  intro M w us hG hC hl hR;obtain rfl:=qcB hvs us hl hR;refine (hk w (hG.world hC)).mono ?_
  rintro ed w' ⟨rfl,hB⟩
  exact⟨rv,M,rfl,hB,Sub.refl M,qae hC hB,fun _ _ _=>rfl,qia hrv,qhy hrv⟩
 | @extSort f e zs he9 hne hbig hk =>
  refine⟨?_,fun id x hx=>?_⟩
  ·intro M O w vs hG hC hl hO hOi hR hH
   obtain⟨v,rfl⟩:∃ v,vs=[v]:=by
    match vs,hl with
    | [v],_=>exact⟨v,rfl⟩
   have hv:=hR 0 _ v rfl rfl;have ho:=hH 2000000 (.obj e 1 (zs.map (AV.int .i64))) rfl;obtain⟨k0,k1,k2,k3⟩:=ho;obtain⟨q1,q2⟩:=hv;have hpos:0<zs.length:=List.length_pos_iff.2 hne
   rcases q2 with ⟨h0,_⟩ | ⟨g,cap,rfl,p1,p2,p3,p4⟩
   ·omega
   rcases k3 with ⟨h0,_⟩ | ⟨g',cur,r1,r2,r3,r4,r5,r6⟩
   ·exact absurd (List.map_eq_nil_iff.1 h0) hne
   have r2:=r2.plain (A5 he9)
   have hgg:g'=g:=by rw[p1]at r1;exact (Option.some.inj r1).symm
   subst hgg
   have hfl:flat (zs.map (AV.int .i64))=zs.map (AV.int .i64):=by
    unfold flat;rw[List.flatMap_map];simp only[AV.cells];exact List.map_eq_flatMap.symm
   rw[hfl]at r6
   have r4':zs.length≤cur.size:=by simpa using r4
   have htake:cur.toList.take zs.length=zs.map (Value.int .i64):=by
    refine List.ext_getElem? fun j=>?_
    by_cases hj:j<zs.length
    ·rw[F0,if_pos hj]
     have hjc:j<cur.size:=by omega
     have h1:=r6 j (.int .i64 zs[j]) cur[j] (by simp[hj]) (by simp[hjc]);have h2:cur[j]=Value.int .i64 zs[j]:=h1.int_inv;rw[F8,Array.getElem?_eq_getElem hjc,h2];simp[hj]
    ·rw[F0,if_neg hj,List.getElem?_eq_none (by simp;omega)]
   have hv0:(0:Nat) * 1=0:=rfl;rw[hv0];refine (hk zs w g' cap cur r2 r4' hbig htake).mono ?_
   rintro ed w' ⟨rfl,b1,b2,b3,b4,b5,cur',c1,c2,c3⟩
   have hgO:∀ c,O true c=some g'→c=2000000:=fun c hc=>hOi c 2000000 g' hc p1
   refine⟨.tuple #[],M,O,rfl,⟨b1,b2,b3,b4,fun k hk2=>b5 k hk2.1 fun e1=>hk2.2 2000000 (by rw[e1];exact p1)⟩,Sub.refl M,?_,fun _ _ _ _=>rfl,fun i c g hg=>?_,fun i i' c c' g hg hg'=>?_,fun c _ _=>Gh.Eq1.refl O c,?_,fun id x hx=>?_⟩
   ·intro b o u hu;have h1:=hC b o u hu;have hb:=VE h1
    have hne2:b≠g':=fun e1=>by rw[e1,r5]at hu;cases hu
    rw[Xq (b5 b hb hne2)];exact h1
   ·obtain⟨rfl,h2⟩:=hO i c g hg;exact⟨Nat.lt_of_lt_of_le h2 b4,.inr ⟨c,hg⟩⟩
   ·obtain⟨rfl,_⟩:=hO i c g hg;obtain⟨rfl,_⟩:=hO i' c' g hg';exact⟨rfl,hOi c c' g hg hg'⟩
   ·exact⟨.tup (vs:=[]) rfl (fun j c v hc=>by simp at hc),trivial⟩
   ·have hid:id=2000000∧x=.obj e 1 ((sortI zs).map (AV.int .i64)):=by
     simp only[look]at hx;split at hx
     ·rename_i hb;exact⟨(A0 hb).symm,(Option.some.inj hx).symm⟩
     ·cases hx
    obtain⟨rfl,rfl⟩:=hid
    have hsl:(sortI zs).length=zs.length:=by unfold sortI;exact List.length_mergeSort zs
    refine⟨k0,fun y hy=>?_,by simpa[hsl] using k2,.inr ⟨g',cur',p1,RowAt.of c1,by rw[c2];exact r3,by rw[c2];simpa[hsl] using r4,r5,fun j c u hc hu=>?_⟩⟩
    ·obtain⟨z,_,rfl⟩:=List.mem_map.1 hy;exact⟨rfl,rfl⟩
    ·have hfl2:flat ((sortI zs).map (AV.int .i64))=(sortI zs).map (AV.int .i64):=by
      unfold flat;rw[List.flatMap_map];simp only[AV.cells];exact List.map_eq_flatMap.symm
     rw[hfl2]at hc;have hj:=(List.getElem?_eq_some_iff.1 hc).1;rw[List.length_map,hsl]at hj;have h1:=congrArg (fun l=>l[j]?) c3;simp only[F0,if_pos hj,B5,F8,hu]at h1;rw[B5]at hc
     cases hz:(sortI zs)[j]? with
     | none=>rw[hz]at hc;cases hc
     | some z =>
      rw[hz]at hc h1;cases hc;cases h1;exact .int _ _
  ·simp only[look]at hx;split at hx
   ·cases hx;rfl
   ·cases hx
 | @call f args r fn c ex e1 hf hb hlen _ hex hres ih =>
  intro M w vs hG hC hl hR;refine calls_of_wp hf hb ?_
  have hsz:vs.toArray.size=vs.length:=by simp
  simp only[A1]at hlen;have hle:=A5 hlen.1;have hsm:=A5 hlen.2
  have hinv:Inv ⟨fun k=>k<w.heap.size,M,w,⟨fun _ _=>none,fun _=>0,fun _=>0⟩,hG⟩ fn.ntmps M ⟨fun _ _=>none,fun _=>0,fun _=>0⟩ (argsEnv 0 (args.map AV.strip)) { tmps:=vs.toArray++A6 (fn.ntmps - vs.toArray.size) undef,defers:=[] } w:=by
   refine⟨by simp;omega,rfl,BelowD.refl _ _,fun k hk=>hk,hC,Sub.refl M,fun _ _ _=>rfl,fun i c g e=>by (cases e),fun i i' c c' g e=>by (cases e),⟨hsm,fun c _ _=>Gh.Eq1.refl _ c⟩,fun t x hx=>?_⟩;obtain⟨_,h2⟩:=Uq _ 0 t x hx;simp only[Nat.sub_zero,B5]at h2
   cases hz:args[t]? with
   | none=>rw[hz]at h2;cases h2
   | some z =>
    rw[hz]at h2;cases h2
    have htl:t<vs.length:=by rw[← hl];exact (List.getElem?_eq_some_iff.1 hz).1
    have hv:(vs.toArray++A6 (fn.ntmps - vs.toArray.size) undef).getD t undef=vs[t]:=by
     rw[D4,F6 (by simpa using htl)];simp[htl]
    rw[hv];exact XX (JI (hR t z _ hz (A8 htl)).strip (Ya z))
  refine ih.1 _ _ _ _ _ hinv _ fun a' w' M' O' h'=>?_
  have hbel:Below w.heap.size w w':=⟨h'.below.os,h'.below.tape,h'.below.output,h'.below.size,fun k hk=>h'.below.block k hk⟩
  have hnew:∀ i c g,O' i c=some g→w.heap.size≤g:=fun i c g hg=>Nat.le_of_not_lt (h'.own i c g hg).1
  obtain⟨v,hv1,hv2,hv3⟩:=ZN h' hres;have hpost:∃ v M',Ending.returned v=.returned v∧True:=⟨v,M',rfl,trivial⟩
  have hown:OwnR M' w.heap.size w' r v:=by
   unfold OwnR;unfold OwnV at hv3;split at hv3
   ·rename_i e k c xs
    rcases hv3 with h1 | ⟨g,off,cap,cur,q1,q2,q3,q4,q5,q6,q7⟩
    ·exact .inl h1
    ·exact .inr ⟨g,off,cap,cur,q1,hnew _ _ _ q2,q3,q4,q5,q6,q7⟩
   ·rename_i hno;split
    ·rename_i e k c xs;exact absurd rfl (hno e k c xs)
    ·trivial
  have fin:∃ v1,(results fn a'.tmps).run P w'=.ok v1 w'∧∃ v2 M2,Ending.returned v1=.returned v2∧Below w.heap.size w w'∧Sub M M2∧Cons M2 w'∧(∀ b o,b<w.heap.size→M2 b o=M b o)∧R M2 r v2∧OwnR M2 w.heap.size w' r v2 :=
   ⟨v,hv1,v,M',rfl,hbel,h'.ext,h'.cons,fun b o hb=>h'.old b o hb,hv2,hown⟩
  cases ex with
  | normal=>exact⟨h'.defers,fin⟩
  | ret=>exact⟨h'.defers,fin⟩
  | exit id=>exact hex.elim
end
end Go.AM
