/- s -/
import Derived.Test.YtdghpfejmlpjhaaASimD
set_option linter.unusedVariables false
set_option linter.unusedSimpArgs false
namespace Go.AM
open Go.RowKit
section
variable {bs:Base} {n:Nat} {M:Mem} {O:Gh} {env:Env} {a:Act} {w:World} {P:Program}
theorem Yj (h:Inv bs n M O env a w) {d:Int} {x:Option Operand} {m:Int} (hm:aoptInt env d x=some m):(x=none∧m=d)∨∃ y k,x=some y∧a.eval y=.int k m:=by
 unfold aoptInt at hm
 split at hm
 ·cases hm;exact .inl ⟨rfl,rfl⟩
 ·rename_i y
  split at hm
  ·rename_i k m' hy;cases hm;exact .inr ⟨y,k,rfl,(qo h hy).1.int_inv⟩
  ·cases hm
theorem Qe (k:IntKind) (m:Int) (y:Nat) (c:BoundsCode) (h0:0≤m) (h1:m≤y):(Instr.sliceBound (.int k m) y c).run P w=.ok m.toNat w:=by
 unfold Instr.sliceBound;simp only[asIntOf,Sem.run_bind,Sem.run_pure,Result.andThen_ok,h0,h1,and_self,if_true]
theorem Xh (h:Inv bs n M O env a w) {isSlice:Bool} {lo hi:Option Operand} {l m:Int} {len cap:Nat} (hl:aoptInt env 0 lo=some l) (hh:aoptInt env len hi=some m) (h0:0≤l) (h1:l≤m) (h2:m≤len) (hc:len≤cap) :
  (Instr.sliceBounds isSlice len cap (lo.map a.eval) (hi.map a.eval) none).run P w=.ok (l.toNat,m.toNat,cap) w:=by
 unfold Instr.sliceBounds
 rcases Yj h hh with ⟨rfl,e⟩ | ⟨y,k,rfl,e⟩
 ·rcases Yj h hl with ⟨rfl,e'⟩ | ⟨y',k',rfl,e'⟩
  ·simp[Sem.run_bind,e,e']
  ·subst e;simp only[Option.map_none,Option.map_some,e',Sem.run_bind,Sem.run_pure,Result.andThen_ok,Option.isSome_none];rw[Qe k' l len _ h0 h1]
   simp
 ·have hb:∀ c,(Instr.sliceBound (.int k m) cap c).run P w=.ok m.toNat w:=fun c=>Qe k m cap c (by omega) (by omega)
  rcases Yj h hl with ⟨rfl,e'⟩ | ⟨y',k',rfl,e'⟩
  ·simp only[Option.map_none,Option.map_some,e,Sem.run_bind,Sem.run_pure,Result.andThen_ok,hb]
   simp[e']
  ·simp only[Option.map_none,Option.map_some,e,e',Sem.run_bind,Sem.run_pure,Result.andThen_ok,hb,Option.isSome_none];rw[Qe k' l m.toNat _ h0 (by omega)];rfl
theorem Ng (h:Inv bs n M O env a w) {isSlice:Bool} {lo:Option Operand} {hi mx:Operand} {l m c:Int} {k1 k2:IntKind} {len cap:Nat} (hl:aoptInt env 0 lo=some l) (hh:a.eval hi=.int k1 m) (hx:a.eval mx=.int k2 c) (h0:0≤l) (h1:l≤m) (h2:m≤c) (hc:c≤cap) :
  (Instr.sliceBounds isSlice len cap (lo.map a.eval) (some (a.eval hi)) (some (a.eval mx))).run P w=.ok (l.toNat,m.toNat,c.toNat) w:=by
 unfold Instr.sliceBounds
 have b1:∀ q,(Instr.sliceBound (.int k2 c) cap q).run P w=.ok c.toNat w:=fun q=>Qe k2 c cap q (by omega) hc
 have b2:∀ q,(Instr.sliceBound (.int k1 m) c.toNat q).run P w=.ok m.toNat w:=fun q=>Qe k1 m c.toNat q (by omega) (by omega)
 rcases Yj h hl with ⟨rfl,e'⟩ | ⟨y',k',rfl,e'⟩
 ·simp only[Option.map_none,hh,hx,Sem.run_bind,Sem.run_pure,Result.andThen_ok,b1,b2]
  simp[e']
 ·simp only[Option.map_some,hh,hx,e',Sem.run_bind,Sem.run_pure,Result.andThen_ok,b1,b2,Option.isSome_some];rw[Qe k' l m.toNat _ h0 (by omega)];rfl
theorem Xv {k:Nat}:∀ {xs:List AV} (i:Nat),(∀ x,x∈xs→x.cells.length=k)→flat (xs.drop i)=(flat xs).drop (i * k)
 | xs,0,_=>by simp
 | [],i+1,_=>by simp[flat]
 | x::xs,i+1,h=>by
  have h1:=h x (List.mem_cons_self ..)
  have ih:=Xv (xs:=xs) i fun y hy=>h y (List.mem_cons_of_mem _ hy)
  rw[List.drop_succ_cons,ih]
  have e:flat (x::xs)=x.cells++flat xs:=by simp[flat]
  have e2:(i+1) * k=x.cells.length+i * k:=by rw[h1,Nat.add_mul];omega
  rw[e,e2,List.drop_append]
  simp
theorem qaK (h:Inv bs n M O env a w) {o:Oper} {t:TypeId} {x:Operand} {lo hi:Option Operand} (ho:o.op=.slice t x lo hi none) {p r:AV} (hp:aop env x=some p) (hr:aslice P t p lo hi env=some r):Simple P O M a w o r:=by
 have hx:=qo h hp
 have he:execOp a.eval o=vS (Instr.sliceAt t (a.eval x) (lo.map a.eval) (hi.map a.eval) none):=by unfold execOp;rw[ho];rfl
 unfold aslice at hr
 split at hr
 ·rename_i e k lab xs
  split at hr
  case h_2=>cases hr
  rename_i e' k' hse
  split at hr
  case h_2=>cases hr
  rename_i hk;have hk:=Nat.eq_of_beq_eq_true hk;subst hk;obtain⟨hu,hs⟩:=jK hse
  split at hr
  case h_2=>cases hr
  rename_i l m hl hm
  by_cases hb:0≤l∧l≤m∧m≤xs.length
  case neg=>rw[if_neg hb]at hr;cases hr
  rw[if_pos hb]at hr;cases hr;obtain⟨b0,b1,b2⟩:=hb
  have hrun:∀ (ad:Option Addr) (cap:Nat),xs.length≤cap→a.eval x=.slice ad xs.length cap→(Instr.sliceAt t (a.eval x) (lo.map a.eval) (hi.map a.eval) none).run P w =
    .ok (.slice (if cap=l.toNat then ad else ad.map (·.add (l.toNat * k))) (m.toNat - l.toNat) (cap - l.toNat)) w:=by
   intro ad cap hc hv;rw[hv];unfold Instr.sliceAt Instr.slice;simp only[Sem.run_bind,run_underlying hu,Result.andThen_ok,Xh h hl hm b0 b1 b2 hc,jP hs,Sem.run_pure]
  rcases hx.1.lst_inv with ⟨rfl,hv | ⟨ad,cap,hv⟩⟩ | ⟨b,off,cap,us,hv,h1,h2,h3,h4,h5⟩
  ·have l0:l=0:=by simp at b2;omega
   have m0:m=0:=by simp at b2;omega
   subst l0;subst m0;refine⟨_,by rw[he];exact ZK (hrun none 0 (by simp) hv),?_,?_⟩
   ·simp
    exact R.lstn e k _
   ·simp
    cases hi <;> cases lab <;> first | trivial | exact .inl ⟨_,rfl⟩
  ·have l0:l=0:=by simp at b2;omega
   have m0:m=0:=by simp at b2;omega
   subst l0;subst m0
   have how:OwnV O M w (.lst e k (keepLab hi lab) []) (.slice (some ad) 0 cap):=by
    cases hi with
    | some _=>trivial
    | none=>rw[← hv];exact hx.2
   refine⟨_,by rw[he];exact ZK (hrun (some ad) cap (by simp) hv),?_⟩
   have e0:(if cap=(0:Int).toNat then some ad else (some ad).map (·.add ((0:Int).toNat * k)))=some ad:=by
    split
    ·rfl
    ·simp[Addr.add]
   rw[e0];refine⟨?_,by simpa using how⟩
   simp
   exact R.lste e k _ ad cap
  ·refine⟨_,by rw[he];exact ZK (hrun _ cap h1 hv),?_⟩
   have hlen:((xs.take m.toNat).drop l.toNat).length=m.toNat - l.toNat:=by simp;omega
   have hty:∀ y,y∈xs.take m.toNat→y.cells.length=k:=fun y hy=>h2 y (List.mem_of_mem_take hy)
   have hflat:∀ (j:Nat) c,(flat ((xs.take m.toNat).drop l.toNat))[j]? = some c→(flat xs)[l.toNat * k+j]? = some c:=by
    intro j c hj;rw[Xv _ hty,List.getElem?_drop]at hj
    have hsplit:flat xs=flat (xs.take m.toNat)++flat (xs.drop m.toNat):=by
     simp only[flat,← List.flatMap_append,List.take_append_drop]
    rw[hsplit,List.getElem?_append_left (List.getElem?_eq_some_iff.1 hj).1];exact hj
   by_cases hcl:cap=l.toNat
   ·rw[if_pos hcl];have hz:(xs.take m.toNat).drop l.toNat=[]:=List.eq_nil_of_length_eq_zero (by rw[hlen];omega);rw[hz]
    have:m.toNat - l.toNat=([]:List AV).length:=by simp;omega
    rw[this];refine⟨R.lst us (by simp) (by simp) (by simp) (by simp[flat]) (by simp[flat]),?_⟩
    have hc0:cap - l.toNat=0:=by omega
    rw[hc0]
    cases hi <;> cases lab <;> first | trivial | exact .inl ⟨_,rfl⟩
   ·rw[if_neg hcl];simp only[Option.map_some,JU]
    have how:OwnV O M w (.lst e k (keepLab hi lab) ((xs.take m.toNat).drop l.toNat)) (.slice (some ⟨b,off+l.toNat * k,none⟩) (m.toNat - l.toNat) (cap - l.toNat)):=by
     cases hi with
     | some _=>trivial
     | none =>
      cases lab with
      | none=>trivial
      | some c =>
       have hm':m=xs.length:=by
        simp only[aoptInt]at hm;exact (Option.some.inj hm).symm
       have hxo:=hx.2;rw[hv]at hxo
       rcases hxo with ⟨ad,ha⟩ | ⟨g,off2,cap2,cur,r1,r2,r3,r4,r5,r6,r7⟩
       ·have:=(Value.slice.inj ha).2.2;omega
       ·cases r1;refine .inr ⟨b,off+l.toNat * k,cap - l.toNat,cur,by rw[hlen],r2,r3,?_,by rw[hlen];omega,by omega,fun o ho=>r7 o ?_⟩
        ·rw[r4,Nat.add_assoc,← Nat.add_mul]
         congr 2
         omega
        ·rw[hlen,Nat.add_assoc,← Nat.add_mul]at ho
         have e1:l.toNat+(m.toNat - l.toNat)=xs.length:=by omega
         rw[e1]at ho;exact ho
    refine⟨?_,how⟩;rw[← hlen];exact R.lst (fun j=>us (l.toNat * k+j)) (by rw[hlen];omega) (fun y hy=>hty y (List.mem_of_mem_drop hy)) (fun y hy=>h5 y (List.mem_of_mem_take (List.mem_of_mem_drop hy))) (fun j c hj=>by rw[Nat.add_assoc];exact h3 _ _ (hflat j c hj)) (fun j c hj=>h4 _ _ (hflat j c hj))
 ·
  rename_i id e k off q
  split at hr
  case h_2=>cases hr
  rename_i e' k' hse
  split at hr
  case h_2=>cases hr
  rename_i hk;have hk:=Nat.eq_of_beq_eq_true hk;subst hk;obtain⟨hu,hs⟩:=jK hse
  split at hr
  case h_2=>cases hr
  rename_i l m hl hm
  by_cases hb:0≤l∧l≤m∧m≤q
  case neg=>rw[if_neg hb]at hr;cases hr
  rw[if_pos hb]at hr;cases hr;obtain⟨b0,b1,b2⟩:=hb
  have hrun:∀ (ad:Option Addr) (cap:Nat),q≤cap→a.eval x=.slice ad q cap→(Instr.sliceAt t (a.eval x) (lo.map a.eval) (hi.map a.eval) none).run P w =
    .ok (.slice (if cap=l.toNat then ad else ad.map (·.add (l.toNat * k))) (m.toNat - l.toNat) (cap - l.toNat)) w:=by
   intro ad cap hc hv;rw[hv];unfold Instr.sliceAt Instr.slice;simp only[Sem.run_bind,run_underlying hu,Result.andThen_ok,Xh h hl hm b0 b1 b2 hc,jP hs,Sem.run_pure]
  obtain⟨h1,h2⟩:=hx
  rcases h2 with ⟨rfl,ad,hv⟩ | ⟨g,cap,hv,h3,h4,h5,h6⟩
  ·have l0:l=0:=by omega
   have m0:m=0:=by omega
   subst l0;subst m0;refine⟨_,by rw[he];exact ZK (hrun ad 0 (by simp) hv),by simpa using h1,.inl ⟨by simp,ad,by simp⟩⟩
  ·refine⟨_,by rw[he];exact ZK (hrun _ cap h5 hv),by omega,?_⟩
   by_cases hcl:cap=l.toNat
   ·rw[if_pos hcl]
    have e1:m.toNat - l.toNat=0:=by omega
    have e2:cap - l.toNat=0:=by omega
    rw[e1,e2];exact .inl ⟨rfl,_,rfl⟩
   ·rw[if_neg hcl];simp only[Option.map_some,JU];refine .inr ⟨g,cap - l.toNat,by rw[Nat.add_mul],h3,?_,by omega,by omega⟩;rw[h4]
    congr 1
    omega
 ·
  rename_i st
  split at hr
  case h_2=>cases hr
  rename_i hu
  split at hr
  case h_2=>cases hr
  rename_i l m hl hm
  by_cases hb:0≤l∧l≤m∧m≤st.size
  case neg=>rw[if_neg hb]at hr;cases hr
  rw[if_pos hb]at hr;cases hr;obtain⟨b0,b1,b2⟩:=hb;have hv:=hx.1.str_inv;refine⟨.string (st.extract l.toNat m.toNat),?_,.str _,trivial⟩;rw[he,hv];refine ZK ?_;unfold Instr.sliceAt Instr.slice;simp only[Sem.run_bind,run_underlying hu,Result.andThen_ok,Option.isSome_none,Bool.false_eq_true,if_false,Sem.run_pure,Xh (P:=P) (isSlice:=false) (cap:=st.size) h hl hm b0 b1 b2 (Nat.le_refl _)]
 ·split at hr
  case h_2=>cases hr
  rename_i q hse;obtain⟨e',k'⟩:=q;obtain⟨hu,hs⟩:=jK hse
  split at hr
  case h_2=>cases hr
  rename_i l m hl hm
  by_cases hb:l=0∧m=0
  case neg=>rw[if_neg hb]at hr;cases hr
  rw[if_pos hb]at hr;cases hr;obtain⟨rfl,rfl⟩:=hb
  have hv:a.eval x=.slice none 0 0:=by
   have:=hx.1;generalize a.eval x=y at this;cases this;rfl
  refine⟨.slice none 0 0,?_,.nils,trivial⟩;rw[he,hv];refine ZK ?_;unfold Instr.sliceAt Instr.slice;simp only[Sem.run_bind,run_underlying hu,Result.andThen_ok,Xh (P:=P) (len:=0) (cap:=0) h hl hm (Int.le_refl 0) (Int.le_refl 0) (Int.le_refl 0) (Nat.le_refl 0),jP hs,Sem.run_pure]
  simp
 ·cases hr
theorem Dr (h:Inv bs n M O env a w) {o:Oper} {t:TypeId} {x hi mx:Operand} {lo:Option Operand} (ho:o.op=.slice t x lo (some hi) (some mx)) {e k:Nat} {lab:Option Nat} {xs:List AV} {k1 k2:IntKind} {e':Nat} {l m c:Int} (hp:aop env x=some (.lst e k lab xs)) (hse:jB P t=some (e',k))
  (hl:aoptInt env 0 lo=some l) (hh:aop env hi=some (.int k1 m)) (hm:aop env mx=some (.int k2 c)) (hb:0≤l∧l≤m∧m≤c∧c≤xs.length):Simple P O M a w o (.lst e k none ((xs.take m.toNat).drop l.toNat)):=by
 have hx:=qo h hp;have hhv:=(qo h hh).1.int_inv;have hmv:=(qo h hm).1.int_inv
 have he:execOp a.eval o=vS (Instr.sliceAt t (a.eval x) (lo.map a.eval) (some (a.eval hi)) (some (a.eval mx))):=by unfold execOp;rw[ho];rfl
 obtain⟨hu,hs⟩:=jK hse;obtain⟨b0,b1,b2,b3⟩:=hb
 have hrun:∀ (ad:Option Addr) (cap:Nat),xs.length≤cap→a.eval x=.slice ad xs.length cap→(Instr.sliceAt t (a.eval x) (lo.map a.eval) (some (a.eval hi)) (some (a.eval mx))).run P w =
   .ok (.slice (if c.toNat=l.toNat then ad else ad.map (·.add (l.toNat * k))) (m.toNat - l.toNat) (c.toNat - l.toNat)) w:=by
  intro ad cap hc hv;rw[hv];unfold Instr.sliceAt Instr.slice;have hbnd:=Ng (P:=P) h (isSlice:=true) (len:=xs.length) (cap:=cap) hl hhv hmv b0 b1 b2 (by omega);simp only[Sem.run_bind,run_underlying hu,Result.andThen_ok,hbnd,jP hs,Sem.run_pure]
 rcases hx.1.lst_inv with ⟨rfl,hv | ⟨ad,cap,hv⟩⟩ | ⟨b,off,cap,us,hv,h1,h2,h3,h4,h5⟩
 ·have c0:c=0:=by simp at b3;omega
  have m0:m=0:=by omega
  have l0:l=0:=by omega
  subst l0;subst m0;subst c0;exact⟨_,by rw[he];exact ZK (hrun none 0 (by simp) hv),by simp;exact R.lstn e k _,trivial⟩
 ·have c0:c=0:=by simp at b3;omega
  have m0:m=0:=by omega
  have l0:l=0:=by omega
  subst l0;subst m0;subst c0;exact⟨_,by rw[he];exact ZK (hrun (some ad) cap (by simp) hv),by simp;exact R.lste e k _ ad 0,trivial⟩
 ·refine⟨_,by rw[he];exact ZK (hrun _ cap h1 hv),?_,trivial⟩
  have hlen:((xs.take m.toNat).drop l.toNat).length=m.toNat - l.toNat:=by simp;omega
  have hty:∀ y,y∈xs.take m.toNat→y.cells.length=k:=fun y hy=>h2 y (List.mem_of_mem_take hy)
  have hflat:∀ (j:Nat) c,(flat ((xs.take m.toNat).drop l.toNat))[j]? = some c→(flat xs)[l.toNat * k+j]? = some c:=by
   intro j c hj;rw[Xv _ hty,List.getElem?_drop]at hj
   have hsplit:flat xs=flat (xs.take m.toNat)++flat (xs.drop m.toNat):=by
    simp only[flat,← List.flatMap_append,List.take_append_drop]
   rw[hsplit,List.getElem?_append_left (List.getElem?_eq_some_iff.1 hj).1];exact hj
  by_cases hcl:c.toNat=l.toNat
  ·rw[if_pos hcl];have hz:(xs.take m.toNat).drop l.toNat=[]:=List.eq_nil_of_length_eq_zero (by rw[hlen];omega);rw[hz]
   have:m.toNat - l.toNat=([]:List AV).length:=by simp;omega
   rw[this];exact R.lst us (by simp) (by simp) (by simp) (by simp[flat]) (by simp[flat])
  ·rw[if_neg hcl];simp only[Option.map_some,JU];rw[← hlen];exact R.lst (fun j=>us (l.toNat * k+j)) (by rw[hlen];omega) (fun y hy=>hty y (List.mem_of_mem_drop hy)) (fun y hy=>h5 y (List.mem_of_mem_take (List.mem_of_mem_drop hy))) (fun j c hj=>by rw[Nat.add_assoc];exact h3 _ _ (hflat j c hj)) (fun j c hj=>h4 _ _ (hflat j c hj))
theorem HX (off:Nat):∀ (l:List Value) (k:Nat) (cs:Array Value),((l.zipIdx k).foldl (fun cs p=>cs.setIfInBounds (off+p.2) p.1) cs).size=cs.size ∧
  ∀ i:Nat,((l.zipIdx k).foldl (fun cs p=>cs.setIfInBounds (off+p.2) p.1) cs)[i]? = if off+k≤i∧i<off+k+l.length∧i<cs.size then l[i - (off+k)]? else cs[i]?
 | [],k,cs=>⟨rfl,fun i=>by rw[if_neg (by simp;omega)];rfl⟩
 | v::l,k,cs=>by
  obtain⟨h1,h2⟩:=HX off l (k+1) (cs.setIfInBounds (off+k) v);simp only[List.zipIdx_cons,List.foldl_cons];refine⟨by rw[h1];simp,fun i=>?_⟩;rw[h2 i];simp only[List.length_cons,Array.size_setIfInBounds,Array.getElem?_setIfInBounds]
  by_cases c1:off+(k+1)≤i∧i<off+(k+1)+l.length∧i<cs.size
  ·rw[if_pos c1,if_pos (by omega),show i - (off+k)=(i - (off+(k+1)))+1 by omega]
   simp
  ·rw[if_neg c1]
   by_cases c2:off+k=i
   ·rw[if_pos c2]
    by_cases c3:off+k<cs.size
    ·rw[if_pos c3,if_pos (by omega),show i - (off+k)=0 by omega];simp
    ·rw[if_neg c3,if_neg (by omega)];subst c2
     simp;omega
   ·rw[if_neg c2,if_neg (by omega)]
def Rows (M:Mem) (cs:List AV) (us:Array Value):Prop :=
 cs.length=us.size∧∀ (j:Nat) c u,cs[j]? = some c→us[j]? = some u→R M c u
theorem Ul {place place':Nat→Option (Nat×Nat)} (hp:∀ i q,place i=some q→place' i=some q):∀ (ps:List (Nat×AV)) (qs:List (Nat×Value)) (cs:List AV) (us:Array Value) (r:List AV),
  ps.length=qs.length→(∀ (j:Nat) p q,ps[j]? = some p→qs[j]? = some q→p.1=q.1∧R M p.2 q.2)→Rows M cs us→fillA place cs ps=some r →
  ∃ us',Instr.fill place' us qs=some us'∧Rows M r us'
 | [],[],cs,us,r,_,_,hr,h=>by
  cases h;exact⟨us,rfl,hr⟩
 | [],_::_,_,_,_,hl,_,_,_=>by simp at hl
 | _::_,[],_,_,_,hl,_,_,_=>by simp at hl
 | (i,v)::ps,(i',u)::qs,cs,us,r,hl,hps,hr,h=>by
  obtain⟨e,hv⟩:=hps 0 (i,v) (i',u) rfl rfl;simp only at e hv;subst e;simp only[fillA]at h
  split at h
  ·cases h
  ·rename_i off size hpl
   split at h
   case h_2=>cases h
   rename_i hb;simp only[Bool.and_eq_true]at hb;obtain⟨⟨b1,b2⟩,b3⟩:=hb;have b1:=Nat.eq_of_beq_eq_true b1;have b2:=Nat.le_of_ble_eq_true b2;obtain⟨k1,k2,k3⟩:=hv.cells b3;obtain⟨l1,l2⟩:=hr
   have hsz:u.cells.toList.length=size:=by simp[k1,b1]
   obtain⟨f1,f2⟩:=HX off u.cells.toList 0 us
   have hfold:(u.cells.zipIdx.foldl (fun cs p=>cs.setIfInBounds (off+p.2) p.1) us)=((u.cells.toList.zipIdx).foldl (fun cs p=>cs.setIfInBounds (off+p.2) p.1) us):=by
    rw[← Array.foldl_toList];simp
   obtain⟨us',h1,h2⟩:=Ul hp ps qs (cs.take off++v.cells.map AV.strip++cs.drop (off+size)) ((u.cells.toList.zipIdx).foldl (fun cs p=>cs.setIfInBounds (off+p.2) p.1) us) r
    (by simpa using hl) (fun j p q hp' hq=>hps (j+1) p q (by simpa using hp') (by simpa using hq)) ⟨by
     rw[f1,← l1];simp;omega,by
     intro j c x hc hx;rw[f2 j]at hx;simp only[Nat.add_zero]at hx
     by_cases hj:off≤j∧j<off+u.cells.toList.length∧j<us.size
     ·rw[if_pos hj]at hx;rw[List.append_assoc,List.getElem?_append_right (by simp;omega),List.getElem?_append_left (by simp;omega),List.getElem?_map]at hc
      have el:(List.take off cs).length=off:=by simp;omega
      rw[el]at hc
      cases hz:v.cells[j - off]? with
      | none=>rw[hz]at hc;cases hc
      | some z =>
       rw[hz]at hc;cases hc;exact (k2 (j - off) z x hz (by simpa using hx)).strip
     ·rw[if_neg hj]at hx;refine l2 j c x ?_ hx;have hxl:=(Array.getElem?_eq_some_iff.1 hx).1
      by_cases hjo:j<off
      ·rw[List.append_assoc,List.getElem?_append_left (by simp;omega),List.getElem?_take,if_pos hjo]at hc;exact hc
      ·rw[List.getElem?_append_right (by simp;omega)]at hc;simp only[List.length_append,List.length_take,List.length_map,List.getElem?_drop]at hc;rw[show off+size+(j - (min off cs.length+v.cells.length))=j by omega]at hc
       exact hc⟩ h
   refine⟨us',?_,h2⟩;simp only[Instr.fill,hp _ _ hpl]
   rw[if_neg (by
    rw[k1,b1,← l1];simp only[ne_eq,not_true_eq_false,decide_false,Bool.false_or,decide_eq_true_eq]
    omega)]
   rw[hfold];exact h1
theorem JR {t:TypeId} {z:List AV} (h:QC P t=some z):∃ it zv,P.info? t=some it∧it.zero=some zv∧Rows M z zv.cells∧(∀ c∈z,c.one=true∧c.lab? = none):=by
 unfold QC at h
 cases hi:P.info? t with
 | none=>rw[hi]at h;cases h
 | some it =>
  rw[hi]at h;simp only[Option.bind_some]at h
  cases hz:it.zero with
  | none=>rw[hz]at h;cases h
  | some zv =>
   rw[hz]at h;simp only at h;have hs:=jH h
   have hlen:zv.cells.toList.length=z.length:=by simpa using congrArg List.length hs
   refine⟨it,zv,rfl,hz,⟨by simpa using hlen.symm,fun j c u hc hu=>?_⟩,fun c hc=>?_⟩
   ·have hj:=congrArg (fun q=>q[j]?) hs;simp only[List.getElem?_map,hc,Option.map_some]at hj
    have hu':zv.cells.toList[j]? = some u:=by simpa using hu
    rw[hu']at hj;exact (Xg (O:=⟨fun _ _=>none,fun _=>0,fun _=>0⟩) (w:=default) (Option.some.inj hj)).1
   ·obtain⟨j,hj⟩:=List.mem_iff_getElem?.1 hc;have hjj:=congrArg (fun q=>q[j]?) hs;simp only[List.getElem?_map,hj,Option.map_some]at hjj
    cases hu:zv.cells.toList[j]? with
    | none=>rw[hu]at hjj;cases hjj
    | some u =>
     rw[hu]at hjj;have:=Xg (M:=fun _ _=>none) (O:=⟨fun _ _=>none,fun _=>0,fun _=>0⟩) (w:=default) (Option.some.inj hjj);exact⟨this.2.2.1,this.2.2.2.1⟩
theorem Vh (h:Inv bs n M O env a w) {ps:Array (Nat×Operand)} {l:List (Nat×AV)} (hl:parts? env ps=some l) :
  l.length=((ps.map fun (i,x)=>(i,a.eval x)).toList).length∧∀ (j:Nat) p q,l[j]? = some p→((ps.map fun (i,x)=>(i,a.eval x)).toList)[j]? = some q→p.1=q.1∧ValOk O M w p.2 q.2:=by
 unfold parts? at hl;have hs:=jH hl
 have hlen:ps.toList.length=l.length:=by simpa using congrArg List.length hs
 refine⟨by simp at hlen ⊢;omega,fun j p q hp hq=>?_⟩;have hj:=congrArg (fun q=>q[j]?) hs;simp only[List.getElem?_map,hp,Option.map_some]at hj;simp only[Array.toList_map,List.getElem?_map]at hq
 cases hx:ps.toList[j]? with
 | none=>rw[hx]at hq;cases hq
 | some x =>
  rw[hx]at hq hj;simp only[Option.map_some,Option.some.injEq]at hq hj
  split at hj
  ·rename_i v hv;cases hj;subst hq;exact⟨rfl,qo h hv⟩
  ·cases hj
theorem Yy {x:AV} {M:Mem} {v:Value} (h:ValOk O M w x v) (ho:x.cells.all AV.one=true):R M x v:=by
 refine h.r (fun s=>?_) (fun _ _ e=>by subst e;simp[AV.cells,AV.one]at ho) fun _ e=>by subst e;simp[AV.cells,AV.one]at ho
 cases x <;> first | rfl | (simp[AV.cells,AV.one]at ho)
theorem qaq {place:Nat→Option (Nat×Nat)}:∀ {ps:List (Nat×AV)} {cs r:List AV},fillA place cs ps=some r→∀ p∈ps,p.2.cells.all AV.one=true
 | [],_,_,_,p,hp=>by cases hp
 | (i,v)::ps,cs,r,h,p,hp=>by
  simp only[fillA]at h
  split at h
  ·cases h
  ·split at h
   case h_2=>cases h
   rename_i hb;simp only[Bool.and_eq_true]at hb
   cases hp with
   | head=>exact hb.2
   | tail _ hp=>exact qaq h p hp
theorem qaO (h:Inv bs n M O env a w) {o:Oper} {t:TypeId} {ps:Array (Nat×Operand)} (ho:o.op=.build t ps) {l:List (Nat×AV)} (hl:parts? env ps=some l) {r:AV} (hr:abuild P t l=some r):Simple P O M a w o r:=by
 obtain⟨l1,l2⟩:=Vh h hl
 have he:execOp a.eval o=vS (Instr.build t (ps.map fun (i,x)=>(i,a.eval x))):=by unfold execOp;rw[ho];rfl
 have key:∀ (place place':Nat→Option (Nat×Nat)) z zv cs,(∀ i q,place i=some q→place' i=some q)→Rows M z zv→fillA place z l=some cs→∃ us',Instr.fill place' zv (ps.map fun (i,x)=>(i,a.eval x)).toList=some us'∧Rows M cs us':=by
  intro place place' z zv cs hp hz hf;refine Ul hp l _ z zv cs l1 (fun j p q hp' hq=>?_) hz hf;obtain⟨e1,e2⟩:=l2 j p q hp' hq;exact⟨e1,Yy e2 (qaq hf p (List.mem_of_getElem? hp'))⟩
 have fin:∀ cs us,Rows M cs us→P.built t (ps.map fun (i,x)=>(i,a.eval x)).toList=some us→Simple P O M a w o (.agg cs):=by
  intro cs us hR hb;refine⟨.agg us,by rw[he];exact ZK (run_build w t _ us hb),?_,trivial⟩
  have:=R.agg (M:=M) (cs:=cs) (vs:=us.toList) (by simpa using hR.1) fun j c v hc hv=>hR.2 j c v hc (by simpa using hv)
  simpa using this
 unfold abuild at hr
 split at hr
 ·rename_i fs z hu hz;obtain⟨it,zv,hi,hzz,hzr,_⟩:=JR (M:=M) hz
  split at hr
  case h_2=>cases hr
  rename_i places hpl
  cases hf:fillA (fun i=>places[i]?) z l with
  | none=>rw[hf]at hr;cases hr
  | some cs =>
   rw[hf]at hr;cases hr;obtain⟨us',h1,h2⟩:=key _ (fun i=>places.toArray[i]?) z zv.cells cs (fun i q hq=>by simpa using hq) hzr hf;refine fin cs us' h2 ?_;unfold Program.built;simp only[hi,hu,hzz,hpl];exact h1
 ·rename_i k e z hu hz;obtain⟨it,zv,hi,hzz,hzr,_⟩:=JR (M:=M) hz
  split at hr
  case h_2=>cases hr
  rename_i ie hie
  cases hf:fillA (fun i=>some (i * ie.size,ie.size)) z l with
  | none=>rw[hf]at hr;cases hr
  | some cs =>
   rw[hf]at hr;cases hr;obtain⟨us',h1,h2⟩:=key _ (fun i=>some (i * ie.size,ie.size)) z zv.cells cs (fun i q hq=>hq) hzr hf;refine fin cs us' h2 ?_;unfold Program.built;simp only[hi,hu,hzz,hie];exact h1
 ·cases hr
def CellG (O:Gh) (M:Mem) (w:World) (c:AV) (u:Value):Prop:=CellR O M 0 c u∧OwnV O M w c u∧c≠.slf
def RowsG (O:Gh) (M:Mem) (w:World) (cs:List AV) (us:Array Value):Prop :=
 cs.length=us.size∧∀ (j:Nat) c u,cs[j]? = some c→us[j]? = some u→CellG O M w c u
theorem VJ {c:AV} {u:Value} (h1:c.one=true) (h2:R M c u) (h3:OwnV O M w c u):CellG O M w c u:=by
 refine⟨?_,h3,fun e=>by subst e;cases h1⟩
 cases c <;> first | exact⟨h1,h2⟩ | cases h1
theorem qbk {u:Value} (h:u.oneCell'=true):u.cells=#[u]:=by cases u <;> first | rfl | cases h
theorem partG {v:AV} {u:Value} (h:ValOk O M w v u) (hp:v.gcells.all AV.partOk=true):u.cells.size=v.gcells.length∧∀ (j:Nat) c x,v.gcells[j]? = some c→u.cells[j]? = some x→CellG O M w c x:=by
 have single:∀ {c:AV},CellG O M w c u→u.cells.size=[c].length∧∀ (j:Nat) c' x,[c][j]? = some c'→u.cells[j]? = some x→CellG O M w c' x:=by
  intro c hc;rw[qbk hc.1.one];refine⟨rfl,fun j c' x h1 h2=>?_⟩
  cases j with
  | succ j=>simp at h1
  | zero=>cases h1;cases h2;exact hc
 have plain:v.one=true→R M v u→OwnV O M w v u→v.gcells=[v]→u.cells.size=v.gcells.length∧∀ (j:Nat) c x,v.gcells[j]? = some c→u.cells[j]? = some x→CellG O M w c x:=by
  intro h1 h2 h3 h4;rw[h4];exact single (VJ h1 h2 h3)
 cases v with
 | sb id e k off m=>exact single ⟨h,trivial,fun e=>by cases e⟩
 | mb kd id =>
  cases kd with
  | succ kd=>simp[AV.gcells,AV.partOk,AV.one]at hp
  | zero =>
   obtain⟨g,q1,q2⟩:=h;exact single ⟨⟨rfl,g,q1,q2⟩,trivial,fun e=>by cases e⟩
 | agg cs =>
  have h1:R M (.agg cs) u:=h.1;clear h
  cases h1 with
  | agg hl hr =>
   rename_i vs;refine⟨by simp[Value.cells,AV.gcells,hl],fun j c x hc hx=>?_⟩;simp only[AV.gcells,List.getElem?_map]at hc
   have hx':vs[j]? = some x:=by simpa[Value.cells] using hx
   cases hz:cs[j]? with
   | none=>rw[hz]at hc;cases hc
   | some z =>
    rw[hz]at hc;cases hc;have hR:=hr j z x hz hx'
    have hz1:z.strip1.partOk=true:=by
     rw[List.all_eq_true]at hp;exact hp _ (List.mem_map.2 ⟨z,List.mem_of_getElem? hz,rfl⟩)
    cases z with
    | lst e k l xs=>exact VJ rfl hR.setLab trivial
    | _=>first | (cases hR;done) | exact VJ hz1 hR trivial
 | box cs=>exact h.elim
 | obj e k xs=>exact h.elim
 | hob kd ks vs=>exact h.elim
 | bxg cs=>exact h.elim
 | slf=>exact h.elim
 | pb s o=>simp[AV.gcells,AV.partOk,AV.one]at hp
 | pe s k j o=>simp[AV.gcells,AV.partOk,AV.one]at hp
 | tpr s e k off m rest=>simp[AV.gcells,AV.partOk,AV.one]at hp
 | clb f caps=>simp[AV.gcells,AV.partOk,AV.one]at hp
 | agr cs=>simp[AV.gcells,AV.partOk,AV.one]at hp
 | top=>simp[AV.gcells,AV.partOk,AV.one]at hp
 | und=>simp[AV.gcells,AV.partOk,AV.one]at hp
 | tup vs=>simp[AV.gcells,AV.partOk,AV.one]at hp
 | ub p=>simp[AV.gcells,AV.partOk,AV.one]at hp
 | _=>exact plain rfl h.1 h.2 rfl
theorem NO {place place':Nat→Option (Nat×Nat)} (hp:∀ i q,place i=some q→place' i=some q):∀ (ps:List (Nat×AV)) (qs:List (Nat×Value)) (cs:List AV) (us:Array Value) (r:List AV),
  ps.length=qs.length→(∀ (j:Nat) p q,ps[j]? = some p→qs[j]? = some q→p.1=q.1∧ValOk O M w p.2 q.2)→RowsG O M w cs us→fillG place cs ps=some r →
  ∃ us',Instr.fill place' us qs=some us'∧RowsG O M w r us'
 | [],[],cs,us,r,_,_,hr,h=>by
  cases h;exact⟨us,rfl,hr⟩
 | [],_::_,_,_,_,hl,_,_,_=>by simp at hl
 | _::_,[],_,_,_,hl,_,_,_=>by simp at hl
 | (i,v)::ps,(i',u)::qs,cs,us,r,hl,hps,hr,h=>by
  obtain⟨e,hv⟩:=hps 0 (i,v) (i',u) rfl rfl;simp only at e hv;subst e;simp only[fillG]at h
  split at h
  ·cases h
  ·rename_i off size hpl
   split at h
   case h_2=>cases h
   rename_i hb;simp only[Bool.and_eq_true]at hb;obtain⟨⟨b1,b2⟩,b3⟩:=hb;have b1:=Nat.eq_of_beq_eq_true b1;have b2:=Nat.le_of_ble_eq_true b2;obtain⟨k1,k2⟩:=partG hv b3;obtain⟨l1,l2⟩:=hr
   have hsz:u.cells.toList.length=size:=by simp[k1,b1]
   obtain⟨f1,f2⟩:=HX off u.cells.toList 0 us
   have hfold:(u.cells.zipIdx.foldl (fun cs p=>cs.setIfInBounds (off+p.2) p.1) us)=((u.cells.toList.zipIdx).foldl (fun cs p=>cs.setIfInBounds (off+p.2) p.1) us):=by
    rw[← Array.foldl_toList];simp
   obtain⟨us',h1,h2⟩:=NO hp ps qs (cs.take off++v.gcells++cs.drop (off+size)) ((u.cells.toList.zipIdx).foldl (fun cs p=>cs.setIfInBounds (off+p.2) p.1) us) r
    (by simpa using hl) (fun j p q hp' hq=>hps (j+1) p q (by simpa using hp') (by simpa using hq)) ⟨by
     rw[f1,← l1];simp;omega,by
     intro j c x hc hx;rw[f2 j]at hx;simp only[Nat.add_zero]at hx
     by_cases hj:off≤j∧j<off+u.cells.toList.length∧j<us.size
     ·rw[if_pos hj]at hx;rw[List.append_assoc,List.getElem?_append_right (by simp;omega),List.getElem?_append_left (by simp;omega)]at hc
      have el:(List.take off cs).length=off:=by simp;omega
      rw[el]at hc;exact k2 (j - off) c x hc (by simpa using hx)
     ·rw[if_neg hj]at hx;refine l2 j c x ?_ hx;have hxl:=(Array.getElem?_eq_some_iff.1 hx).1
      by_cases hjo:j<off
      ·rw[List.append_assoc,List.getElem?_append_left (by simp;omega),List.getElem?_take,if_pos hjo]at hc;exact hc
      ·rw[List.getElem?_append_right (by simp;omega)]at hc;simp only[List.length_append,List.length_take,List.getElem?_drop]at hc;rw[show off+size+(j - (min off cs.length+v.gcells.length))=j by omega]at hc
       exact hc⟩ h
   refine⟨us',?_,h2⟩;simp only[Instr.fill,hp _ _ hpl]
   rw[if_neg (by
    rw[k1,b1,← l1];simp only[ne_eq,not_true_eq_false,decide_false,Bool.false_or,decide_eq_true_eq]
    omega)]
   rw[hfold];exact h1
theorem VO (h:Inv bs n M O env a w) {o:Oper} {t:TypeId} {ps:Array (Nat×Operand)} (ho:o.op=.build t ps) {l:List (Nat×AV)} (hl:parts? env ps=some l) {r:AV} (hr:abuildG P t l=some r):Simple P O M a w o r:=by
 obtain⟨l1,l2⟩:=Vh h hl
 have he:execOp a.eval o=vS (Instr.build t (ps.map fun (i,x)=>(i,a.eval x))):=by unfold execOp;rw[ho];rfl
 unfold abuildG at hr
 split at hr
 case h_2=>cases hr
 rename_i fs z hu hz;obtain⟨it,zv,hi,hzz,hzr,hzl⟩:=JR (M:=M) hz
 split at hr
 case h_2=>cases hr
 rename_i places hpl hone
 cases hf:fillG (fun i=>places[i]?) z l with
 | none=>rw[hf]at hr;cases hr
 | some cs =>
  rw[hf]at hr;cases hr
  have hz0:RowsG O M w z zv.cells:=⟨hzr.1,fun j c u hc hu=>by
   have h1:=List.all_eq_true.1 hone c (List.mem_of_getElem? hc);refine VJ h1 (hzr.2 j c u hc hu) ?_;have:=(hzl c (List.mem_of_getElem? hc)).2
   cases c with
   | lst e k l xs=>cases l with
    | none=>trivial
    | some c=>cases this
   | _=>trivial⟩
  obtain⟨us',h1,h2⟩:=NO (place':=fun i=>places.toArray[i]?) (fun i q hq=>by simpa using hq) l _ z zv.cells cs l1 (fun j p q hp' hq=>by
   obtain⟨e1,e2⟩:=l2 j p q hp' hq
   exact⟨e1,e2⟩) hz0 hf
  refine⟨.agg us',by
   rw[he];refine ZK (run_build w t _ us' ?_);unfold Program.built;simp only[hi,hu,hzz,hpl]
   exact h1,us'.toList,by simp,by simpa using h2.1,fun j c u hc hu=>h2.2 j c u hc (by simpa using hu)⟩
def addRow (M:Mem) (g:Nat) (us:Array Value):Mem:=fun b o=>if b=g then cellsAt us o else M b o
theorem Qf {M:Mem} {w:World} (h:Cons M w) {g:Nat} (hg:w.heap.size≤g) (o:Nat):M g o=none:=by
 cases hm:M g o with
 | none=>rfl
 | some u =>
  have:=ZL (h g o u hm);omega
theorem Yr {M:Mem} {w:World} (h:Cons M w) (us:Array Value):Sub M (addRow M w.heap.size us):=by
 intro b o u hu;unfold addRow
 split
 ·rename_i e;subst e;rw[Qf h (Nat.le_refl _)]at hu;cases hu
 ·exact hu
theorem Vr {M:Mem} {w:World} (h:Cons M w) (us:Array Value) (e:TypeId):Cons (addRow M w.heap.size us) (w.alloc (.cells us e)):=by
 intro b o u hu;unfold addRow at hu
 split at hu
 ·rename_i e';subst e';unfold mc;rw[heap_alloc_new];exact hu
 ·have hb:=ZL (h b o u hu);rw[Qp (heap_alloc_old w _ hb)];exact h b o u hu
theorem XS {M:Mem} {w:World} (h:Cons M w) (ob:Obj):Cons M (w.alloc ob):=by
 intro b o u hu;have hb:=ZL (h b o u hu);rw[Qp (heap_alloc_old w _ hb)];exact h b o u hu
theorem UQ {s:Nat}:∀ (ps:List (Nat×AV)) (i:Nat) (A:List AV),A.length=i * s→inOrder i ps=true→(∀ p∈ps,p.2.cells.length=s∧p.2.cells.all AV.one=true) →
  fillA (fun i=>some (i * s,s)) (A++List.replicate (ps.length * s) .top) ps=some (A++ps.flatMap fun p=>p.2.cells.map AV.strip)
 | [],i,A,hA,_,_=>by simp[fillA]
 | (j,v)::ps,i,A,hA,ho,hp=>by
  simp only[inOrder,Bool.and_eq_true]at ho;obtain⟨e,ho⟩:=ho;have e:=Nat.eq_of_beq_eq_true e;subst e;obtain⟨h1,h2⟩:=hp (i,v) (List.mem_cons_self ..);simp only at h1 h2
  have ih:=UQ ps (i+1) (A++v.cells.map AV.strip) (by simp[hA,h1,Nat.add_mul]) ho fun p hp'=>hp p (List.mem_cons_of_mem _ hp')
  have hlen:(A++List.replicate (((i,v)::ps).length * s) AV.top).length=i * s+(ps.length * s+s):=by simp[hA,Nat.add_mul]
  simp only[fillA]
  have hc:(Nat.beq v.cells.length s && Nat.ble (i * s+s) (A++List.replicate (((i,v)::ps).length * s) AV.top).length && v.cells.all AV.one)=true:=by
   simp only[Bool.and_eq_true];refine⟨⟨by rw[h1];simp,Nat.ble_eq_true_of_le (by rw[hlen];omega)⟩,h2⟩
  rw[hc];simp only[List.flatMap_cons];rw[← List.append_assoc,← ih]
  congr 1
  rw[List.take_append_of_le_length (by omega),List.take_of_length_le (by omega),List.drop_append];rw[List.drop_of_length_le (by omega)];simp only[List.nil_append,List.drop_replicate,List.append_assoc]
  congr 3
  simp only[List.length_cons,Nat.add_mul,hA];omega
end
end Go.AM
