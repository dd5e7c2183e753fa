/- s -/
import Derived.Test.YtdghpfejmlpjhaaASimM
set_option linter.unusedVariables false
set_option linter.unusedSimpArgs false
namespace Go.AM
open Go.RowKit
section
variable {n:Nat} {P:Program}
def unlab:List Nat→Env→Env
  | [],e=>e
  | c::r,e=>unlab r (relabE c none e)
def unlV:List Nat→AV→AV
  | [],x=>x
  | c::r,x=>unlV r (x.relabB c none)
theorem Xn:∀ (cl:List Nat) (e:Env) (t:Nat),look (unlab cl e) t=(look e t).map (unlV cl)
  | [],e,t=>by cases h:look e t <;> simp[unlab,unlV,h]
  | c::r,e,t=>by
    simp only[unlab];rw[Xn r];unfold relabE;rw[Yk (AV.relabB c none)];cases look e t <;> rfl
theorem DD {l:Nat} {x:AV} (h:x.hasLab l=false):x.relab l none=x:=by
  cases x with
  | lst e k o xs =>
    cases o with
    | none=>rfl
    | some c =>
      simp only[AV.relab]
      split
      · rename_i hc
        simp only[AV.hasLab,AV.lab?,hc]at h;cases h
      · rfl
  | _=>rfl
theorem qfF {l:Nat} {x:AV} (h:x.hasLabB l=false):x.relabB l none=x:=by
  cases x with
  | box cs =>
    simp only[AV.relabB,AV.hasLabB]at h ⊢
    congr 1
    rw[List.any_eq_false]at h
    conv=>rhs;rw[← List.map_id cs]
    exact List.map_congr_left fun z hz=>DD (by simpa using h z hz)
  | agr cs =>
    simp only[AV.relabB,AV.hasLabB]at h ⊢
    congr 1
    rw[List.any_eq_false]at h
    conv=>rhs;rw[← List.map_id cs]
    exact List.map_congr_left fun z hz=>DD (by simpa using h z hz)
  | lst e k o xs=>exact DD h
  | _=>rfl
theorem Di:∀ {cl:List Nat} {x:AV},(∀ c,c∈cl→x.hasLabB c=false)→unlV cl x=x
  | [],x,_=>rfl
  | c::r,x,h=>by
    simp only[unlV];rw[qfF (h c (List.mem_cons_self ..))]
    exact Di fun c' hc=>h c' (List.mem_cons_of_mem _ hc)
theorem Nx {b l:Nat} {x:AV} (h:(x.relab l none).hasLab b=true):x.hasLab b=true:=by
  cases x with
  | lst e k o xs =>
    cases o with
    | none=>cases h
    | some c =>
      simp only[AV.relab]at h
      split at h
      · cases h
      · exact h
  | _=>cases h
theorem DU {b l:Nat} {x:AV} (h:(x.relabB l none).hasLabB b=true):x.hasLabB b=true:=by
  cases x with
  | box cs =>
    simp only[AV.relabB,AV.hasLabB,List.any_map,List.any_eq_true]at h ⊢;obtain⟨z,hz,h⟩:=h;exact⟨z,hz,Nx h⟩
  | agr cs =>
    simp only[AV.relabB,AV.hasLabB,List.any_map,List.any_eq_true]at h ⊢;obtain⟨z,hz,h⟩:=h;exact⟨z,hz,Nx h⟩
  | lst e k o xs =>
    cases o with
    | none=>cases h
    | some c =>
      simp only[AV.relabB,AV.relab]at h
      split at h
      · cases h
      · exact h
  | _=>cases h
theorem Ny {b:Nat}:∀ {cl:List Nat} {x:AV},(unlV cl x).hasLabB b=true→x.hasLabB b=true
  | [],x,h=>h
  | c::r,x,h=>DU (Ny (cl:=r) h)
def StepB (P:Program) (n:Nat) (all:List Oper) (o:Oper) (e e1:Env):Prop :=
  ∃ (d:Nat) (v:AV) (cl:List Nat),o.dst=some d∧v.ent=false∧(∀ b,v.hasLabB b=true→b=d)∧(∀ c,c∈cl→c∈killsB o)∧e1=ins d v (unlab cl e) ∧
    ∀ E,NA all o e E→StepSem P n all o E (ins d v (unlab cl E))
inductive ChainB (P:Program) (n:Nat) (all:List Oper):List Oper→Env→Env→Prop where
  | nil {e}:ChainB P n all [] e e
  | step {o rest e e1 e'}:StepB P n all o e e1→ChainB P n all rest e1 e'→ChainB P n all (o::rest) e e'
theorem qdB {all rest:List Oper} {e e':Env} (h:ChainB P n all rest e e'):∃ es:Nat→Env,es 0=e∧es rest.length=e'∧∀ i o,rest[i]? = some o→StepB P n all o (es i) (es (i+1)):=by
  induction h with
  | @nil e=>exact⟨fun _=>e,rfl,rfl,fun i o h=>by simp at h⟩
  | @step o rest e e1 e' hs _ ih =>
    obtain⟨es,h1,h2,h3⟩:=ih;refine⟨fun i=>match i with | 0=>e | i+1=>es i,rfl,h2,fun i o' ho=>?_⟩
    cases i with
    | zero=>simp at ho;subst ho;show StepB P n all o e (es 0);rw[h1];exact hs
    | succ i=>exact h3 i o' (by simpa using ho)
theorem qbS (x:AV) (b:Nat) (hx:x.ent=false):x.strip.hasLabB b=false:=by
  cases x with
  | agr cs =>
    simp only[AV.strip,AV.hasLabB,List.any_map,List.any_eq_false];intro c _
    cases c <;> exact fun e=>by cases e
  | box cs=>cases hx
  | _=>rfl
theorem qhC {all:List Oper} {o:Oper} {e e1:Env} {d:Nat} {x:AV} (hd:o.dst=some d) (hw:awanted all o e=some true) (hm:memFree o.op=true) (hx:apure P o e=some x) (hnb:x.ent=false) (he:eput n o.dst x.strip e=some e1):StepB P n all o e e1:=by
  obtain⟨h1,h2,_⟩:=Qo he;rw[hd]at h1 h2;refine⟨d,x.strip,[],hd,(by cases x <;> first | rfl | cases hnb),fun b hb=>?_,fun c hc=>(by cases hc),h1,fun E hk=>?_⟩
  · rw[qbS x b hnb]at hb;cases hb
  intro bs M O a w h K Q hK;rw[jn h (Jt hk hw)];simp only[if_true];obtain⟨v,w',M',k1,k2,k3,k4,k5,k6⟩:=UF h (VV (Qz hk) (.inl hm) hx);have h':=h.grown (row:=none) (fun g e=>by cases e) k2 k3 k4 (fun b o hb _=>k5 b o hb);have h2':=VL h' (d:=some d) (Hs k6) h2;exact Ym (env':=ins d x.strip E) ⟨v,w',M',O,.inl k1,by rw[hd];exact h2'⟩ hK
theorem mk_B {all:List Oper} {o:Oper} {e e1:Env} {t m:Nat} {ps:Array (Nat×Operand)} (ho:o.op=.buildSlice t m ps) {d:Nat} {el k:Nat} {xs:List AV} (hd:o.dst=some d) (hw:awanted all o e=some true) (hx:apure P o e=some (.lst el k none xs)) (he:eput n o.dst (.lst el k (some d) xs) (relabE d none e)=some e1):StepB P n all o e e1:=by
  obtain⟨h1,h2,_⟩:=Qo he;rw[hd]at h1 h2;refine⟨d,.lst el k (some d) xs,[d],hd,rfl,fun b hb=>?_,fun c hc=>?_,h1,fun E hk=>?_⟩
  · exact (Nat.eq_of_beq_eq_true hb).symm
  · unfold killsB
    rw[ho,hd]
    simpa using hc
  intro bs M O a w h K Q hK;rw[jn h (Jt hk hw)];simp only[if_true];have hxE:=VV (Qz hk) (.inl (by rw[ho];rfl)) hx;unfold apure at hxE;rw[ho]at hxE;simp only at hxE
  split at hxE
  case h_2=>cases hxE
  rename_i l hl;obtain⟨e1',k1,xs1,us,e2,g1,g2,g3,g4⟩:=Xy (P:=P) h ho hl hxE;cases e2;have h':=h.grown (row:=none) (fun g e=>by cases e) (World.grownBy_alloc w (.cells us el) none) (Zg h.cons us) (VP h.cons us el) (fun b o hb _=>Vn us b o hb);have hBle:¬ bs.D w.heap.size:=h.fresh (Nat.le_refl _);have h'':=h'.relab d none (fun c hc=>by cases hc)
  obtain⟨O',hfin⟩:=h''.putFresh (d:=d) (g:=w.heap.size) (off:=0) (cap:=xs.length) (cur:=us) (h2 d rfl) (Yn d E) g3 (.inr ⟨rfl,hBle,fun i c hc=>by
    have hcO:O i c=some w.heap.size:=by
      simp only[relO,Jb]at hc
      split at hc
      · cases hc
      · exact hc
    have:=(h.own i c _ hcO).2
    omega,heap_alloc_new w _,by rw[Nat.zero_add];exact g2,Nat.le_refl _,by unfold maxLen;omega,fun o ho=>by
      unfold addRow;rw[if_pos rfl];rw[Nat.zero_add]at ho;unfold cellsAt
      simp[g2,ho]⟩)
  exact Ym ⟨_,_,_,O',.inl g1,by rw[hd];exact hfin⟩ hK
theorem qdQ {t t' d:Nat} {ex kx c:Nat} {xs:List AV} {y v:AV} {e e1:Env} (h:aappend P t t' d (.lst ex kx (some c) xs) y e=some (v,e1)) :
    (∃ a b l,v=.lst a b (some d) l)∧e1=relabE d none (relabE c none e)∧∀ E,aappend P t t' d (.lst ex kx (some c) xs) y E=some (v,relabE d none (relabE c none E)):=by
  unfold aappend at h ⊢
  split at h
  case h_2=>cases h
  rename_i e' s hse
  split at h
  · cases h
  rename_i hc
  split at h
  · cases h
  · rename_i ey ky l ys
    split at h
    · cases h
    rename_i hky;simp only at h
    split at h
    · cases h
    rename_i hb
    split at h
    case isFalse=>cases h
    rename_i hcap;cases h;refine⟨⟨_,_,_,rfl⟩,rfl,fun E=>?_⟩;simp only[hse,hc,hky,hb];rw[if_pos hcap]
  · cases h
theorem YD {d t:Nat} (h:t≠d):∀ (E:Env),look (E.filter fun p=>!Nat.beq p.1 d) t=look E t
  | []=>rfl
  | (k,y)::r=>by
    simp only[List.filter_cons]
    split
    · simp only[look]
      split
      · rfl
      · exact YD h r
    · rename_i hk
      have hk:k=d:=by
        simp at hk
        exact hk
      rw[YD h r];simp only[look]
      split
      · rename_i hb
        have:=Nat.eq_of_beq_eq_true hb;omega
      · rfl
theorem DN {d:Nat} {x:AV} (E:Env):look (E.filter fun p=>!Nat.beq p.1 d) d≠some x:=by
  intro h;exact (Qq h).1 rfl
theorem qhZ {all:List Oper} {o:Oper} {e e1:Env} {args:Array Operand} {ats:Array TypeId} (ho:o.op=.call { callee:=.builtin .append,args:=args,argTypes:=ats }) {x y t t' d ex kx c:Nat} {xs:List AV} {b v:AV} {env1:Env}
    (hax:args.toList=[.tmp x,.tmp y]) (hat:ats.toList=[t,t']) (hd:o.dst=some d) (hw:awanted all o e=some true) (hx:aop e (.tmp x)=some (.lst ex kx (some c) xs)) (hy:aop e (.tmp y)=some b) (hcx:c=x) (hxd:x≠d) (hyd:y≠d)
    (hap:aappend P t t' d (.lst ex kx (some c) xs) b e=some (v,env1)) (he:eput n o.dst v env1=some e1):StepB P n all o e e1:=by
  obtain⟨⟨va,vb,vl,rfl⟩,rfl,hE⟩:=qdQ hap;obtain⟨h1,h2,_⟩:=Qo he;rw[hd]at h1 h2;refine⟨d,.lst va vb (some d) vl,[c,d],hd,rfl,fun b' hb=>?_,fun c' hc=>?_,h1,fun E hk=>?_⟩
  · exact (Nat.eq_of_beq_eq_true hb).symm
  · unfold killsB
    rw[ho];simp only[hax,hd];rw[← hcx];exact hc
  intro bs M O a w h K Q hK;rw[jn h (Jt hk hw)];simp only[if_true];have hkn:=Qz hk
  have hops:∀ z v,z∈[Operand.tmp x,Operand.tmp y]→aop e z=some v→aop E z=some v:=fun z v hz hv=>hkn z (by
    have hm:z∈args.toList:=by rw[hax];exact hz
    rw[ho]
    simp[Op.operands,Call.operands]
    simpa using hm) v hv
  have hxE:=hops _ _ (by simp) hx;have hyE:=hops _ _ (by simp) hy
  have low:∀ z v,z≠d→aop E (.tmp z)=some v→aop (E.filter fun p=>!Nat.beq p.1 d) (.tmp z)=some v:=by
    intro z v hz hv;simp only[aop]at hv ⊢;rw[YD hz];exact hv
  have h1':Inv bs n M O (E.filter fun p=>!Nat.beq p.1 d) a w:=h.sub fun s z hz=>.inl (Qq hz).2
  have hst:astep P n o (E.filter fun p=>!Nat.beq p.1 d)=some (ins d (.lst va vb (some d) vl) (relabE d none (relabE c none (E.filter fun p=>!Nat.beq p.1 d)))):=by
    unfold astep;rw[ho];simp only[hax,hat,hd,low x _ hxd hxE,low y _ hyd hyE,hE];unfold eput
    have hnone:look (relabE d none (relabE c none (E.filter fun p=>!Nat.beq p.1 d))) d=none:=by
      have:=Xn [c,d] (E.filter fun p=>!Nat.beq p.1 d) d;simp only[unlab]at this;rw[this]
      cases hl:look (E.filter fun p=>!Nat.beq p.1 d) d with
      | none=>rfl
      | some z=>exact absurd hl (DN E)
    have hlt:Nat.blt d n=true:=Nat.ble_eq_true_of_le (h2 d rfl);simp only[hnone,hlt];rfl
  refine Ym (HU h1' hst) fun a' w' M' O' h'=>hK a' w' M' O' (h'.looks fun s=>?_)
  rw[qW,qW]
  split
  · rfl
  · rename_i hs
    have e1:=Xn [c,d] E s;have e2:=Xn [c,d] (E.filter fun p=>!Nat.beq p.1 d) s;rw[e1,← YD hs E];exact e2.symm
theorem qgn {all:List Oper} {o:Oper} {e e1:Env} (hw:awanted all o e=some true) (he:astepB P n o e=some e1):StepB P n all o e e1:=by
  unfold astepB at he
  split at he
  · rename_i args ats ho
    split at he
    case h_2=>cases he
    rename_i x y t t' d hax hat hd
    split at he
    case h_2=>cases he
    rename_i ex kx c xs b hx hy
    split at he
    case h_2=>cases he
    rename_i hb;simp only[Bool.and_eq_true,Bool.not_eq_true']at hb;obtain⟨⟨b1,b2⟩,b3⟩:=hb
    split at he
    case h_2=>cases he
    rename_i v env1 hap;exact qhZ ho hax hat hd hw hx hy (Nat.eq_of_beq_eq_true b1) (fun h=>by rw[h]at b2;simp at b2) (fun h=>by rw[h]at b3;simp at b3) hap he
  · rename_i t m ps ho
    split at he
    case h_2=>cases he
    rename_i d el k xs hd hx;exact mk_B ho hd hw hx he
  · split at he
    case h_2=>cases he
    rename_i d v hd hx
    split at he
    case h_2=>cases he
    rename_i hb;simp only[Bool.and_eq_true]at hb;exact qhC hd hw hb.1 hx (by simpa[notBox] using hb.2) he
theorem XP {c:Nat} {l:List Nat} (h:notIn c l=true):c ∉ l:=by
  unfold notIn at h;simp only[Bool.not_eq_true',List.any_eq_false]at h
  exact fun hm=>h c hm (by simp)
theorem DR {o:Oper} {c:Nat} (h:isDst o c=true):o.dst=some c:=by
  unfold isDst at h
  split at h
  · rename_i d hd
    rw[hd,Nat.eq_of_beq_eq_true h]
  · cases h
theorem DI:∀ {l:List Nat},nodupB l=true→l.Nodup
  | [],_=>List.nodup_nil
  | x::r,h=>by
    simp only[nodupB,Bool.and_eq_true]at h;exact List.nodup_cons.2 ⟨XP h.1,DI h.2⟩
theorem Un:∀ {all:List Oper},(all.filterMap (·.dst)).Nodup→∀ {i j:Nat} {x y:Oper} {d:Nat},all[i]? = some x→all[j]? = some y→x.dst=some d→y.dst=some d→i=j
  | [],_,i,j,x,y,d,hx,_,_,_=>by simp at hx
  | o::r,h,i,j,x,y,d,hx,hy,dx,dy=>by
    have hr:(r.filterMap (·.dst)).Nodup:=by
      rw[List.filterMap_cons]at h
      split at h
      · exact h
      · exact (List.nodup_cons.1 h).2
    have hno:∀ (q:Nat) (z:Oper),r[q]? = some z→z.dst=some d→o.dst=some d→False:=by
      intro q z hz dz do'
      rw[List.filterMap_cons,do']at h;exact (List.nodup_cons.1 h).1 (List.mem_filterMap.2 ⟨z,List.mem_of_getElem? hz,dz⟩)
    cases i with
    | zero =>
      simp at hx;subst hx
      cases j with
      | zero=>rfl
      | succ j=>exact (hno j y (by simpa using hy) dy dx).elim
    | succ i =>
      cases j with
      | zero =>
        simp at hy;subst hy
        exact (hno i x (by simpa using hx) dx dy).elim
      | succ j=>exact congrArg Nat.succ (Un (i:=i) (j:=j) (x:=x) (y:=y) (d:=d) hr (by simpa using hx) (by simpa using hy) dx dy)
theorem qde {all:List Oper} (h:orderB all.toArray=true):(all.filterMap (·.dst)).Nodup∧∀ {i j:Nat} {x y:Oper},i<j→all[i]? = some x→all[j]? = some y→(∀ c,c∈killsB x→x.dst≠some c→c ∉ namesOf all.toArray y) ∧
    (((Region.before all.toArray).getD j 0).testBit i=true∨((∀ d,x.dst=some d→d ∉ namesOf all.toArray y)∧(∀ d,y.dst=some d→d ∉ namesOf all.toArray x)∧(∀ c,c∈killsB x→c ∉ namesOf all.toArray y)∧(∀ c,c∈killsB y→c ∉ namesOf all.toArray x))):=by
  unfold orderB at h;simp only[Bool.and_eq_true]at h;refine⟨DI h.1,fun {i j x y} hij hx hy=>?_⟩;have h:=h.2;simp only[List.all_eq_true,List.mem_range]at h;have hj:=(List.getElem?_eq_some_iff.1 hy).1;have:=h j (by simpa using hj) i hij
  have hx':all.toArray[i]? = some x:=by simpa using hx
  have hy':all.toArray[j]? = some y:=by simpa using hy
  rw[hx',hy']at this;simp only[pairB,Bool.and_eq_true,Bool.or_eq_true,List.all_eq_true]at this;obtain⟨k1,k2⟩:=this;refine⟨fun c hc hne=>?_,?_⟩
  · rcases k1 c hc with k | k
    · exact absurd (DR k) hne
    · exact XP k
  · rcases k2 with k | ⟨⟨⟨k3,k4⟩,k5⟩,k6⟩
    · exact .inl k
    · refine .inr ⟨fun d hd=>?_,fun d hd=>?_,fun c hc=>XP (k5 c hc),fun c hc=>XP (k6 c hc)⟩
      · rw[hd]at k3;exact XP k3
      · rw[hd]at k4;exact XP k4
variable {all:List Oper} {es:Nat→Env}
def Marks (all:List Oper) (e:Env):Prop:=∀ t x b,look e t=some x→x.hasLabB b=true→b∈all.flatMap killsB→t=b
theorem qfV (hes:∀ i o,all[i]? = some o→StepB P n all o (es i) (es (i+1))) (h0:banOk all (es 0)=true):∀ j,j≤all.length→Marks all (es j):=by
  intro j
  induction j with
  | zero =>
    intro _ t x b hx hb hk;exfalso;unfold banOk at h0;rw[List.all_eq_true]at h0;have:=h0 b hk;simp only[Bool.not_eq_true']at this;rw[UH this hx]at hb;cases hb
  | succ j ih =>
    intro hj t x b hx hb hk
    have hlt:j<all.length:=by omega
    obtain⟨d,v,cl,hd,hv,hvl,hcl,e1,_⟩:=hes j _ (List.getElem?_eq_getElem hlt);rw[e1,qW]at hx
    split at hx
    · rename_i htd
      cases hx;rw[htd,hvl b hb]
    · rw[Xn]at hx
      cases hl:look (es j) t with
      | none=>rw[hl]at hx;cases hx
      | some z =>
        rw[hl]at hx;cases hx;exact ih (by omega) t z b hl (Ny hb) hk
theorem qew (hes:∀ i o,all[i]? = some o→StepB P n all o (es i) (es (i+1))) (hm:∀ j,j≤all.length→Marks all (es j)) {t m:Nat} {o:Oper} (ho:all[m]? = some o) (hd:o.dst≠some t) (hk:t ∉ killsB o):look (es (m+1)) t=look (es m) t:=by
  obtain⟨d,v,cl,hd',hv,hvl,hcl,e1,_⟩:=hes m o ho;have hlt:=(List.getElem?_eq_some_iff.1 ho).1;rw[e1,qW,if_neg (fun e=>hd (by rw[hd',e])),Xn]
  cases hl:look (es m) t with
  | none=>rfl
  | some z =>
    simp only[Option.map_some];rw[Di fun c hc=>?_]
    cases hb:z.hasLabB c with
    | false=>rfl
    | true =>
      exfalso;have hck:=hcl c hc;have:=hm m (by omega) t z c hl hb (List.mem_flatMap.2 ⟨o,List.mem_of_getElem? ho,hck⟩);exact hk (this ▸ hck)
theorem stableB (hes:∀ i o,all[i]? = some o→StepB P n all o (es i) (es (i+1))) (hm:∀ j,j≤all.length→Marks all (es j)) {t i:Nat}:∀ j,i≤j→j≤all.length→(∀ m o,i≤m→m<j→all[m]? = some o→o.dst≠some t∧t ∉ killsB o)→look (es j) t=look (es i) t:=by
  intro j
  induction j with
  | zero =>
   intro h _ _;have:i=0:=by omega
   subst this;rfl
  | succ j ih =>
    intro h hl hw
    by_cases hij:i=j+1
    · subst hij;rfl
    · have hlt:j<all.length:=by omega
      have ho:all[j]? = some all[j]:=List.getElem?_eq_getElem hlt;obtain⟨k1,k2⟩:=hw j _ (by omega) (by omega) ho;rw[qew hes hm ho k1 k2]
      exact ih (by omega) (by omega) fun m o h1 h2=>hw m o h1 (by omega)
def Kn (all:List Oper) (es:Nat→Env) (S:Nat→Prop) (t:Nat) (x:AV):Prop :=
  (∃ i o,all[i]? = some o∧S i∧o.dst=some t∧(∀ k ok,all[k]? = some ok→S k→k≠i→t ∉ killsB ok)∧look (es (i+1)) t=some x) ∨
  ((∀ i o,all[i]? = some o→o.dst=some t→¬ S i)∧look (es 0) t=some x)
theorem qeS {bs:Base} {Q:Exit→Act→World→Prop} (hes:∀ i o,all[i]? = some o→StepB P n all o (es i) (es (i+1))) (hord:orderB all.toArray=true) (hback:jI all.toArray=true) (hban:banOk all (es 0)=true)
    (hQ:∀ a' w' M' O',Inv bs n M' O' (dropB all (es all.length)) a' w'→Q .normal a' w') :
    ∀ (fuel:Nat) (listed:Array Bool) (a:Act) (w:World) (M:Mem) (O:Gh) (E:Env),listed.size=all.length→Closed all (fun i=>listed.getD i false=true)→(∀ t x,Kn all es (fun i=>listed.getD i false=true) t x→look E t=some x) →
      jJ all.length listed≤fuel→Inv bs n M O E a w→wpAny P .any all.toArray Q fuel listed a w:=by
  have hm:=qfV hes hban;obtain⟨hnd,hpair⟩:=qde hord
  have dstOf:∀ {i:Nat} {o:Oper},all[i]? = some o→∃ d,o.dst=some d:=fun ho=>by
    obtain⟨d,_,_,hd,_⟩:=hes _ _ ho;exact⟨d,hd⟩
  have done:∀ (listed:Array Bool) (a:Act) (w:World) (M:Mem) (O:Gh) (E:Env),listed.size=all.length→(∀ t x,Kn all es (fun i=>listed.getD i false=true) t x→look E t=some x)→Inv bs n M O E a w →
      Region.ready .any all.toArray listed=[]→Q .normal a w:=by
    intro listed a w M O E hsz hkn h hr
    have hall:∀ i,i<all.length→listed.getD i false=true:=by
      intro i
      induction i using Nat.strongRecOn with
      | _ i ih =>
        intro hi
        cases hv:listed.getD i false with
        | true=>rfl
        | false =>
          exfalso;have ho:all[i]? = some all[i]:=List.getElem?_eq_getElem hi
          have:i∈Region.ready .any all.toArray listed:=by
            rw[mem_ready];refine⟨by rw[Xf (by omega)];exact hv,all[i],by simp,fun e he hb=>?_⟩
            have hlt:e.on<i:=by
              unfold jI at hback;rw[List.all_eq_true]at hback
              have hmem:(all[i],i)∈all.toArray.toList.zipIdx:=by
                rw[List.mem_iff_getElem?];exact⟨i,by simp[List.getElem?_zipIdx,ho]⟩
              have:=hback _ hmem;rw[Array.all_eq_true_iff_forall_mem]at this;have:=this e he;simp only[Bool.or_eq_true,Bool.not_eq_true']at this
              rcases this with h1 | h1
              · rw[hb]at h1;cases h1
              · exact Nat.le_of_ble_eq_true h1
            exact ih e.on hlt (by omega)
          rw[hr]at this;cases this
    refine hQ a w M O (h.sub fun t y hy=>.inl (hkn t y ?_))
    have hdead:t ∉ deadB all∧look (es all.length) t=some y:=by
      unfold dropB at hy;obtain⟨q,hq,h1,h2⟩:=ZU hy;rw[List.mem_filter]at hq;refine⟨XP (by rw[← h1];exact hq.2),?_⟩
      have key:∀ (E:Env),look (E.filter fun p=>notIn p.1 (deadB all)) t=some y→notIn t (deadB all)=true→look E t=some y:=by
        intro E
        induction E with
        | nil=>intro h _;exact h
        | cons p r ih =>
          obtain⟨s,z⟩:=p;intro h hn;simp only[List.filter_cons]at h;simp only[look]
          split at h
          · simp only[look]at h
            split
            · rename_i hb;rw[hb]at h;exact h
            · rename_i hb;rw[hb]at h;exact ih h hn
          · rename_i hs
            split
            · rename_i hb
              rw[Nat.eq_of_beq_eq_true hb]at hs;exact absurd hn hs
            · exact ih h hn
      exact key _ hy (by rw[← h1];exact hq.2)
    obtain⟨hdead,hlk⟩:=hdead
    have hnk:∀ (k:Nat) (ok:Oper),all[k]? = some ok→ok.dst≠some t→t ∉ killsB ok:=by
      intro k ok hok hne hmem;refine hdead (List.mem_flatMap.2 ⟨ok,List.mem_of_getElem? hok,List.mem_filter.2 ⟨hmem,?_⟩⟩)
      cases hi:isDst ok t with
      | false=>rfl
      | true=>exact absurd (DR hi) hne
    by_cases hw:∃ (i:Nat) (o:Oper),all[i]? = some o∧o.dst=some t
    · obtain⟨i,o,ho,hd⟩:=hw
      have hil:=(List.getElem?_eq_some_iff.1 ho).1;refine .inl ⟨i,o,ho,hall i hil,hd,fun k ok hok _ hki=>hnk k ok hok fun e=>hki (Un hnd hok ho e hd),?_⟩;rw[← stableB hes hm (i:=i+1) all.length hil (Nat.le_refl _) fun m o' h1 h2 ho'=>?_]
      · exact hlk
      · have hne:o'.dst≠some t:=fun e=>by
          have:=Un hnd ho' ho e hd;omega
        exact⟨hne,hnk m o' ho' hne⟩
    · refine .inr ⟨fun i o ho hd=>absurd ⟨i,o,ho,hd⟩ hw,?_⟩
      rw[← stableB hes hm (i:=0) all.length (Nat.zero_le _) (Nat.le_refl _) fun m o' h1 h2 ho'=>?_]
      · exact hlk
      · have hne:o'.dst≠some t:=fun e=>hw ⟨m,o',ho',e⟩
        exact⟨hne,hnk m o' ho' hne⟩
  intro fuel
  induction fuel with
  | zero =>
    intro listed a w M O E hsz hc hkn hu h
    have hr:Region.ready .any all.toArray listed=[]:=by
      cases hr:Region.ready .any all.toArray listed with
      | nil=>rfl
      | cons i rs =>
        exfalso
        have hi:i∈Region.ready .any all.toArray listed:=by rw[hr];exact List.mem_cons_self ..
        rw[mem_ready]at hi;obtain⟨h0,o,ho,_⟩:=hi
        have hil:i<all.length:=by
          have:=(Array.getElem?_eq_some_iff.1 ho).1
          simpa using this
        have:0<jJ all.length listed:=by
          unfold jJ;rw[List.countP_pos_iff];exact⟨i,List.mem_range.2 hil,by rw[h0];rfl⟩
        omega
    exact⟨hr,done listed a w M O E hsz hkn h hr⟩
  | succ fuel ih =>
    intro listed a w M O E hsz hc hkn hu h;refine⟨fun hr=>done listed a w M O E hsz hkn h hr,fun k hk=>?_⟩;rw[mem_ready]at hk;obtain⟨hk0,ok,hok,hkall⟩:=hk
    have hok':all[k]? = some ok:=by simpa using hok
    have hkl:k<all.length:=(List.getElem?_eq_some_iff.1 hok').1
    have hkf:listed.getD k false=false:=by rw[← Xf (by omega)];exact hk0
    have hkf':¬ listed.getD k false=true:=by rw[hkf];exact Bool.false_ne_true
    have hdeps:∀ i,((Region.before all.toArray).getD k 0).testBit i=true→listed.getD i false=true :=
      XG hc k ok hok' (fun e he hb=>hkall e (by simpa using he) hb)
    have hnot:∀ i,listed.getD i false=true→i<all.length→¬ ((Region.before all.toArray).getD i 0).testBit k=true:=by
      intro i hi hil hb;exact hkf' (XG hc i _ (List.getElem?_eq_getElem hil) (fun e he hb=>hc i _ (List.getElem?_eq_getElem hil) hi e he hb) k hb)
    have hsz':(listed.setIfInBounds k true).size=all.length:=by simp[hsz]
    have hset:∀ i,(listed.setIfInBounds k true).getD i false=true↔(i=k∨listed.getD i false=true):=by
      intro i
      by_cases hik:i=k
      · subst hik
        have hkk:i<listed.size:=by omega
        simp[hkk]
      · rw[getD_set_ne false (fun e=>hik e.symm)]
        simp[hik]
    have hc':Closed all (fun i=>(listed.setIfInBounds k true).getD i false=true):=by
      intro j o ho hj e he hb;rw[hset]at hj ⊢
      rcases hj with rfl | hj
      · rw[hok']at ho
        cases ho;exact .inr (hkall e (by simpa using he) hb)
      · exact .inr (hc j o ho hj e he hb)
    have hu':jJ all.length (listed.setIfInBounds k true)≤fuel:=by
      have:jJ all.length (listed.setIfInBounds k true)<jJ all.length listed:=by
        unfold jJ;refine Up (x:=k) (fun i hi hq=>?_) (List.mem_range.2 hkl) (by rw[hk0];rfl) ?_
        · have hil:=List.mem_range.1 hi
          simp only[Bool.not_eq_true']at hq ⊢;rw[Xf (by omega)]at hq ⊢
          cases hv:listed.getD i false with
          | false=>rfl
          | true =>
            have:=(hset i).2 (.inr hv);rw[this]at hq;cases hq
        · have hkk:k<listed.size:=by omega
          simp[hkk]
      omega
    have hwp:∀ (K:Act→World→Prop),(if Region.wanted ok (yielded all.toArray a.tmps) then ok.wp P a w K Q else K (a.put ok.dst undef) w)→wpOp P all.toArray Q k K a w:=by
      intro K hK;unfold wpOp;rw[hok]
      simp only
      split
      · rename_i hw;rw[if_pos hw]at hK;exact .inl hK
      · rename_i hw;rw[if_neg hw]at hK;exact hK
    refine hwp _ ?_
    have hname:∀ t,t∈namesOf all.toArray ok→∀ x,look (es k) t=some x→look E t=some x:=by
      intro t ht x hx;refine hkn t x ?_
      by_cases hw:∃ (i:Nat) (o:Oper),i<k∧all[i]? = some o∧o.dst=some t
      · obtain⟨i,o,hik,ho,hd⟩:=hw
        have hS:listed.getD i false=true:=by
          rcases (hpair hik ho hok').2 with h1 | h1
          · exact hdeps i h1
          · exact absurd ht (h1.1 t hd)
        have nok:∀ (m:Nat) (om:Oper),all[m]? = some om→m<k→m≠i→t ∉ killsB om:=by
          intro m om hom hmk hmi hmem;exact (hpair hmk hom hok').1 t hmem (fun e=>hmi (Un hnd hom ho e hd)) ht
        refine .inl ⟨i,o,ho,hS,hd,fun m om hom hSm hmi hmem=>?_,?_⟩
        · rcases Nat.lt_or_ge m k with hmk | hmk
          · exact nok m om hom hmk hmi hmem
          · rcases Nat.eq_or_lt_of_le hmk with e | hkm
            · exact hkf' (e ▸ hSm)
            · rcases (hpair hkm hok' hom).2 with h1 | h1
              · exact hnot m hSm (List.getElem?_eq_some_iff.1 hom).1 h1
              · exact h1.2.2.2 t hmem ht
        · rw[← stableB hes hm (i:=i+1) k hik (by omega) fun m om h1 h2 hom=>?_]
          · exact hx
          · exact⟨fun e=>by have:=Un hnd hom ho e hd;omega,nok m om hom h2 (by omega)⟩
      · refine .inr ⟨fun i o ho hd hSi=>?_,?_⟩
        · rcases Nat.lt_or_ge i k with hik | hik
          · exact hw ⟨i,o,hik,ho,hd⟩
          · rcases Nat.eq_or_lt_of_le hik with e | hki
            · exact hkf' (e ▸ hSi)
            · rcases (hpair hki hok' ho).2 with h1 | h1
              · exact hnot i hSi (List.getElem?_eq_some_iff.1 ho).1 h1
              · exact h1.2.1 t hd ht
        · rw[← stableB hes hm (i:=0) k (Nat.zero_le _) (by omega) fun m om h1 h2 hom=>?_]
          · exact hx
          · have hne:om.dst≠some t:=fun e=>hw ⟨m,om,h2,hom,e⟩
            exact⟨hne,fun hmem=>(hpair h2 hom hok').1 t hmem hne ht⟩
    obtain⟨d,v,cl,hd,hv,hvl,hcl,e1,hsem⟩:=hes k ok hok'
    have hNA:NA all ok (es k) E:=by
      intro t ht y hy;unfold lookS at hy ⊢
      cases hl:look (es k) t with
      | none=>rw[hl]at hy;cases hy
      | some z =>
        rw[hl]at hy;rw[hname t ht z hl];exact hy
    have noK:∀ {t:Nat} {j:Nat} {x:AV},j≤all.length→look (es j) t=some x→t ∉ killsB ok→unlV cl x=x:=by
      intro t j x hj hx hnk
      refine Di fun c hc=>?_
      cases hb:x.hasLabB c with
      | false=>rfl
      | true =>
        exfalso;have hck:=hcl c hc;have:=hm j hj t x c hx hb (List.mem_flatMap.2 ⟨ok,List.mem_of_getElem? hok',hck⟩);exact hnk (this ▸ hck)
    refine hsem E hNA bs M O a w h _ Q fun a' w' M' O' h'=>ih _ a' w' M' O' _ hsz' hc' (fun t x hx=>?_) hu' h'
    rw[qW]
    rcases hx with ⟨i,o,ho,hS,hdi,hnk,hlk⟩ | ⟨hno,hlk⟩
    · split
      · rename_i htd
        subst htd;have hik:=Un hnd ho hok' hdi hd;subst hik;rw[e1,qW,if_pos rfl]at hlk;exact hlk
      · rename_i htd
        have hik:i≠k:=fun e=>by
          subst e;rw[hok']at ho;cases ho;rw[hd]at hdi;exact htd (Option.some.inj hdi).symm
        have hSi:=((hset i).1 hS).resolve_left hik;have hE:=hkn t x (.inl ⟨i,o,ho,hSi,hdi,fun m om hom hSm hmi=>hnk m om hom ((hset m).2 (.inr hSm)) hmi,hlk⟩);rw[Xn,hE];simp only[Option.map_some];rw[noK (List.getElem?_eq_some_iff.1 ho).1 hlk (hnk k ok hok' ((hset k).2 (.inl rfl)) (fun e=>hik e.symm))]
    · split
      · rename_i htd
        subst htd;exact absurd ((hset k).2 (.inl rfl)) (hno k ok hok' hd)
      · have hE:=hkn t x (.inr ⟨fun i o ho hdi hSi=>hno i o ho hdi ((hset i).2 (.inr hSi)),hlk⟩)
        rw[Xn,hE];simp only[Option.map_some]
        congr 1
        refine Di fun c hc=>?_
        unfold banOk at hban;rw[List.all_eq_true]at hban;have:=hban c (List.mem_flatMap.2 ⟨ok,List.mem_of_getElem? hok',hcl c hc⟩);simp only[Bool.not_eq_true']at this;exact UH this hlk
theorem qcf {bs:Base} {M:Mem} {O:Gh} {a:Act} {w:World} {id:Nat} {ops:Array Oper} {e e':Env} (hmix:P.follows .mixedOrders=true) (hord:orderB ops=true) (hback:jI ops=true) (hban:banOk ops.toList e=true)
    (hc:ChainB P n ops.toList ops.toList e e') (h:Inv bs n M O e a w) {Q:Exit→Act→World→Prop} (hQ:∀ a' w' M' O',Inv bs n M' O' (dropB ops.toList e') a' w'→Q .normal a' w'):(Code.region id ops true).wp P Q a w:=by
  obtain⟨es,h1,h2,h3⟩:=qdB hc;have ea:ops.toList.toArray=ops:=Array.toArray_toList;refine wp_region_any hmix ?_;have hdr:Inv bs n M O e a { w with drawn:=w.drawn+1 }:=h.grown (row:=none) (fun g e=>by cases e) ⟨rfl,rfl,rfl,Nat.le_refl _,fun _ _ _=>rfl⟩ (Sub.refl M) (fun b o u hu=>h.cons b o u hu) (fun _ _ _ _=>rfl)
  have hnone:∀ i,¬ (Array.replicate ops.size false).getD i false=true:=by
    intro i hi
    simp[Array.getElem?_replicate]at hi
    split at hi <;> simp at hi
  have:=qeS (P:=P) (n:=n) (all:=ops.toList) (es:=es) (bs:=bs) (Q:=Q) h3 (by rw[ea];exact hord) (by rw[ea];exact hback) (by rw[h1];exact hban) (fun a' w' M' O' h'=>hQ a' w' M' O' (by rw[← h2];exact h')) ops.size (Array.replicate ops.size false) a { w with drawn:=w.drawn+1 } M O e (by simp)
    (fun j o ho hj=>absurd hj (hnone j))
    (fun t x hx=>by
      rcases hx with ⟨i,o,ho,hS,_⟩ | ⟨_,hlk⟩
      · exact absurd hS (hnone i)
      · rw[h1]at hlk;exact hlk)
    (by
      unfold jJ;have:=List.countP_le_length (p:=fun i=>!(Array.replicate ops.size false).getD i true) (l:=List.range ops.toList.length)
      simpa using this) hdr
  rw[ea]at this;exact this
end
end Go.AM
