/- s -/
import Derived.Test.YtdghpfejmlpjhaaASimV
import Derived.Laws.BytesArg
set_option linter.unusedVariables false
set_option linter.unusedSimpArgs false
namespace Go.AM
open Go.RowKit
section
variable {bs:Base} {n:Nat} {M:Mem} {O:Gh} {env:Env} {a:Act} {w:World} {P:Program}
theorem ZG {t:TypeId} {f o ft sz:Nat} (h:fieldPl P t f=some (o,ft,sz)):∃ fs fd,P.underlying t=some (.struct fs)∧fs[f]? = some fd∧fd.offset=o∧fd.type=ft∧tSize P ft=some sz:=by
 unfold fieldPl at h
 split at h
 case h_2=>cases h
 rename_i fs hu
 split at h
 case h_2=>cases h
 rename_i fd hf
 split at h
 case h_2=>cases h
 rename_i s hs;cases h;exact⟨fs,fd,hu,hf,rfl,rfl,hs⟩
theorem ZU {t:TypeId} {f o ft sz:Nat} (h:fieldPl P t f=some (o,ft,sz)) (h0:Nat.blt 0 sz=true) (b off:Nat):(Instr.fieldAt t (.pointer (some ⟨b,off,none⟩)) f).run P w=.ok (.pointer (some ⟨b,off+o,none⟩)) w:=by
 obtain⟨fs,fd,hu,hf,e1,e2,hs⟩:=ZG h;have h0':0<sz:=Nat.le_of_ble_eq_true h0;unfold Instr.fieldAt;rw[Sem.run_bind,run_underlying hu];simp only[Result.andThen_ok,hf,Instr.sureAddr];rw[Sem.run_bind];simp only[Sem.run_pure,Result.andThen_ok];unfold fieldPlace;rw[Sem.run_bind,Sem.run_bind,jP (by rw[e2];exact hs)];simp only[Result.andThen_ok];rw[if_neg (by omega)];simp only[Sem.run_pure,Result.andThen_ok,JU,e1]
theorem Nf (h:Inv bs n M O env a w) {o:Oper} {t:TypeId} {x:Operand} {f:Nat} (ho:o.op=.fieldAddr t x f) {p r:AV} (hp:aop env x=some p) (hr:Ur P t f p=some r):Simple P O M a w o r:=by
 have hx:=qo h hp
 have he:execOp a.eval o=vS (Instr.fieldAt t (a.eval x) f):=by unfold execOp;rw[ho];rfl
 unfold Ur at hr
 split at hr
 ·rename_i s off
  split at hr
  case h_2=>cases hr
  rename_i q o' ft sz hf
  split at hr
  case h_2=>cases hr
  rename_i h0;cases hr;obtain⟨g,h1,h2⟩:=hx;exact⟨_,by rw[he,h1];exact ZK (ZU hf h0 g off),g,rfl,h2⟩
 ·rename_i y
  split at hr
  case h_2=>cases hr
  rename_i o' ft sz hf
  split at hr
  case h_2=>cases hr
  rename_i h0
  cases hc:cut P ft y.cells o' with
  | none=>rw[hc]at hr;cases hr
  | some z =>
   rw[hc]at hr;cases hr;obtain⟨b,off,us,h1,h2,h3,h4⟩:=hx.1.ptr_inv;refine⟨_,by rw[he,h1];exact ZK (ZU hf h0 b off),?_,trivial⟩;refine R.ptr (fun j=>us (o'+j)) ?_ ?_ ?_
   ·intro j c hcj;obtain⟨q,hq,_⟩:=Yp hc j c hcj;rw[Nat.add_assoc];exact h2 _ _ hq
   ·intro j c hcj;obtain⟨q,hq,e⟩:=Yp hc j c hcj
    rcases e with e | e <;> rw[e]
    ·exact h3 _ _ hq
    ·exact (h3 _ _ hq).strip
   ·intro j c hcj;obtain⟨q,hq,e⟩:=Yp hc j c hcj;exact h4 _ _ hq
 ·rename_i id k j oo
  split at hr
  case h_2=>cases hr
  rename_i q o' ft sz hf
  split at hr
  case h_2=>cases hr
  rename_i h0;cases hr;obtain⟨g,h1,h2⟩:=hx;exact⟨_,by rw[he,h1];exact ZK (ZU hf h0 g _),g,by rw[Nat.add_assoc],h2⟩
 ·cases hr
theorem qaw {t:TypeId} {cs:List AV} {off:Nat} {r:AV} (hc:cut P t cs off=some r):(P.underlying t).isSome=true:=by
 unfold cut at hc
 split at hc
 ·cases hc
 ·split at hc
  ·cases hc
  ·rename_i hb;simp only[Bool.and_eq_true]at hb;exact hb.2
theorem Zy {t:TypeId} {cs:List AV} {vs:List Value} {off:Nat} {r:AV} (hc:cut P t cs off=some r) (hl:cs.length=vs.length) (hR:∀ (j:Nat) c v,cs[j]? = some c→vs[j]? = some v→R M c v∧OwnV O M w c v) :
  ∃ v,(part t vs.toArray off).run P w=.ok v w∧ValOk O M w r v:=by
 have hR':∀ (j:Nat) c,cs[j]? = some c→R M c (vs.getD j undef)∧OwnV O M w c (vs.getD j undef):=by
  intro j c hj
  have hjl:j<vs.length:=by rw[← hl];exact (List.getElem?_eq_some_iff.1 hj).1
  refine hR j c _ hj ?_
  simp[hjl]
 rcases qav (O:=O) (w:=w) (M:=M) hc (fun j=>vs.getD j undef) hR' with ⟨hag,sz,hsz,hle,hv⟩ | ⟨hag,hlt,hv,_⟩
 ·refine⟨_,?_,hv⟩;unfold part;rw[Sem.run_bind,Vx (qaw hc),hag];simp only[Result.andThen_ok,if_true];rw[Sem.run_bind,jP hsz];simp only[Result.andThen_ok,Sem.run_pure]
  congr 2
  apply Array.ext';rw[hl]at hle;apply List.ext_getElem?;intro j;rw[Jl];simp only[Array.toList_extract,List.extract_eq_take_drop,List.getElem?_take,List.getElem?_drop]
  by_cases hj:j<sz
  ·have h2:off+j<vs.length:=by omega
   rw[if_pos hj,if_pos (by omega)]
   simp[h2]
  ·rw[if_neg hj,if_neg (by omega)]
 ·refine⟨_,Yk hag (fun e=>by have:=qaw hc;rw[e]at this;cases this) ?_,hv⟩;rw[hl]at hlt
  simp[hlt]
theorem qaM (h:Inv bs n M O env a w) {o:Oper} {t:TypeId} {x:Operand} {f:Nat} (ho:o.op=.field t x f) {cs:List AV} {o' ft sz:Nat} {r:AV} (hp:aop env x=some (.agg cs)) (hf:fieldPl P t f=some (o',ft,sz)) (hr:cut P ft (cs.map AV.strip) o'=some r):Simple P O M a w o r:=by
 have hx:=qo h hp
 have he:execOp a.eval o=vS (Instr.field t (a.eval x) f):=by unfold execOp;rw[ho];rfl
 obtain⟨fs,fd,hu,hfd,e1,e2,hs⟩:=ZG hf;obtain⟨vs,e,l,c⟩:=hx.1.agg_inv
 obtain⟨v,h1,h2⟩:=Zy (O:=O) (w:=w) (M:=M) hr (vs:=vs) (by simpa using l) (by
  intro j c' v hj hv;rw[List.getElem?_map]at hj
  cases hz:cs[j]? with
  | none=>rw[hz]at hj;cases hj
  | some z' =>
   rw[hz]at hj;cases hj
   exact⟨(c j z' v hz hv).strip,QH _ _⟩)
 refine⟨v,?_,h2⟩;rw[he,e];refine ZK ?_;unfold Instr.field;rw[Sem.run_bind,run_underlying hu];simp only[Result.andThen_ok,hfd,asAgg];rw[Sem.run_bind];simp only[Sem.run_pure,Result.andThen_ok,e1,e2];exact h1
theorem Dt (h:Inv bs n M O env a w) {o:Oper} {t:TypeId} {x:Operand} {f:Nat} (ho:o.op=.field t x f) {cs:List AV} {o' ft sz:Nat} {r:AV} (hp:aop env x=some (.agr cs)) (hf:fieldPl P t f=some (o',ft,sz)) (hr:cutG P ft cs o'=some r):Simple P O M a w o r:=by
 obtain⟨vs,e,l,c⟩:=qo h hp
 have he:execOp a.eval o=vS (Instr.field t (a.eval x) f):=by unfold execOp;rw[ho];rfl
 obtain⟨fs,fd,hu,hfd,e1,e2,hs⟩:=ZG hf
 have fin:∀ v,(part ft vs.toArray o').run P w=.ok v w→ValOk O M w r v→Simple P O M a w o r:=by
  intro v h1 h2;refine⟨v,?_,h2⟩;rw[he,e];refine ZK ?_;unfold Instr.field;rw[Sem.run_bind,run_underlying hu];simp only[Result.andThen_ok,hfd,asAgg];rw[Sem.run_bind];simp only[Sem.run_pure,Result.andThen_ok,e1,e2];exact h1
 unfold cutG at hr
 split at hr
 ·rename_i v0 hcut;cases hr
  obtain⟨v,h1,h2⟩:=Zy (O:=O) (w:=w) (M:=M) hcut (vs:=vs) (by simpa using l) (by
   intro j c' v hj hv;rw[List.getElem?_map]at hj
   cases hz:cs[j]? with
   | none=>rw[hz]at hj;cases hj
   | some z' =>
    rw[hz]at hj;cases hj
    exact (c j z' v hz hv).1.san)
  exact fin v h1 h2
 split at hr
 ·cases hr
 rename_i sz' hsz'
 have raw:∀ z,cs[o']? = some z→(Nat.beq sz' 1 && !tAgg P ft && (P.underlying ft).isSome)=true→∃ u,vs[o']? = some u∧(part ft vs.toArray o').run P w=.ok u w∧CellR O M 0 z u:=by
  intro z hz hcond;simp only[Bool.and_eq_true,Bool.not_eq_true']at hcond
  have hlt:o'<vs.length:=by rw[← l];exact (List.getElem?_eq_some_iff.1 hz).1
  refine⟨vs[o'],List.getElem?_eq_getElem hlt,Yk hcond.1.2 (fun e=>by rw[e]at hcond;cases hcond.2) (by simp[hlt]),(c o' z _ hz (List.getElem?_eq_getElem hlt)).1⟩
 split at hr
 ·rename_i id e' k o2 m hcond hc;cases hr;obtain⟨u,_,h1,h2⟩:=raw _ hc hcond;exact fin u h1 h2
 ·rename_i id hcond hc;cases hr;obtain⟨u,_,h1,h2⟩:=raw _ hc hcond;exact fin u h1 h2.2
 ·cases hr
theorem R.lst_inv {e k l xs v} (h:R M (.lst e k l xs) v):(xs=[]∧(v=.slice none 0 0∨∃ ad cap,v=.slice (some ad) 0 cap))∨∃ (b off cap:Nat) (us:Nat→Value),v=.slice (some ⟨b,off,none⟩) xs.length cap∧xs.length≤cap∧(∀ x,x∈xs→x.cells.length=k)∧(∀ (j:Nat) c,(flat xs)[j]? = some c→M b (off+j)=some (us j))∧(∀ (j:Nat) c,(flat xs)[j]? = some c→R M c (us j))∧(∀ x,x∈xs→x.cells.all AV.one=true):=by
 cases h with
 | lstn=>exact .inl ⟨rfl,.inl rfl⟩
 | lste=>exact .inl ⟨rfl,.inr ⟨_,_,rfl⟩⟩
 | lst us h1 h2 h5 h3 h4=>exact .inr ⟨_,_,_,us,rfl,h1,h2,h3,h4,h5⟩
theorem jK {t e k:Nat} (h:jB P t=some (e,k)):P.underlying t=some (.slice e)∧tSize P e=some k:=by
 unfold jB at h
 split at h
 case h_2=>cases h
 rename_i e'' hu
 split at h
 case h_2=>cases h
 rename_i s hs;cases h;exact⟨hu,hs⟩
theorem Nd (h:Inv bs n M O env a w) {o:Oper} {t:TypeId} {x i:Operand} (ho:o.op=.indexAddr t x i) {p q r:AV} (hp:aop env x=some p) (hq:aop env i=some q) (hr:Uq P t p q=some r):Simple P O M a w o r:=by
 have hx:=qo h hp;have hi:=qo h hq
 have he:execOp a.eval o=vS (Instr.indexAt t (a.eval x) (a.eval i)):=by unfold execOp;rw[ho];rfl
 unfold Uq at hr
 split at hr
 case h_5=>cases hr
 case h_4 =>
  rename_i y kk q
  split at hr
  case h_2=>cases hr
  rename_i m el hu
  split at hr
  case h_2=>cases hr
  rename_i sz hs
  split at hr
  case isFalse=>cases hr
  rename_i hb
  cases hc:cut P el y.cells (q.toNat * sz) with
  | none=>rw[hc]at hr;cases hr
  | some z =>
   rw[hc]at hr;cases hr;have hiv:=hi.1.int_inv;obtain⟨b,off,us,h1,h2,h3,h4⟩:=hx.1.ptr_inv;refine⟨.pointer (some ⟨b,off+q.toNat * sz,none⟩),?_,?_,trivial⟩
   ·rw[he,h1,hiv];refine ZK ?_;unfold Instr.indexAt;simp only[asIntOf];simp only[Sem.run_bind,run_underlying hu,Result.andThen_ok,Sem.run_pure,Instr.sureAddr];rw[if_pos ⟨hb.1,hb.2.1⟩];simp only[Sem.run_bind,jP hs,Result.andThen_ok,Sem.run_pure,JU]
   refine R.ptr (fun j=>us (q.toNat * sz+j)) ?_ ?_ ?_
   ·intro j c hcj;obtain⟨q',hq',_⟩:=Yp hc j c hcj;rw[Nat.add_assoc];exact h2 _ _ hq'
   ·intro j c hcj;obtain⟨q',hq',e⟩:=Yp hc j c hcj
    rcases e with e | e <;> rw[e]
    ·exact h3 _ _ hq'
    ·exact (h3 _ _ hq').strip
   ·intro j c hcj;obtain⟨q',hq',_⟩:=Yp hc j c hcj;exact h4 _ _ hq'
 case h_3 =>
  rename_i s off kk q
  split at hr
  case h_2=>cases hr
  rename_i m el hu
  split at hr
  case h_2=>cases hr
  rename_i sz hs
  split at hr
  case isFalse=>cases hr
  rename_i hb;cases hr;have hiv:=hi.1.int_inv;obtain⟨g,hv,h1⟩:=hx;refine⟨.pointer (some ⟨g,off+q.toNat * sz,none⟩),?_,g,rfl,h1⟩;rw[he,hv,hiv];refine ZK ?_;unfold Instr.indexAt;simp only[asIntOf];simp only[Sem.run_bind,run_underlying hu,Result.andThen_ok,Sem.run_pure,Instr.sureAddr];rw[if_pos ⟨hb.1,hb.2.1⟩];simp only[Sem.run_bind,jP hs,Result.andThen_ok,Sem.run_pure,JU]
 case h_2 =>
  rename_i id e k off m kk q
  split at hr
  case h_2=>cases hr
  rename_i e' k' hse
  split at hr
  case h_2=>cases hr
  rename_i hk;have hk:=Nat.eq_of_beq_eq_true hk;subst hk
  split at hr
  case isFalse=>cases hr
  rename_i hb;cases hr;obtain⟨hu,hs⟩:=jK hse;have hiv:=hi.1.int_inv;obtain⟨hlen,hx⟩:=hx
  rcases hx with ⟨h0,_⟩ | ⟨g,cap,hv,h1,h2,h3,h4⟩
  ·omega
  refine⟨.pointer (some ⟨g,off * k+q.toNat * k,none⟩),?_,g,by rw[Nat.add_mul,Nat.add_zero],h1⟩;rw[he,hv,hiv];refine ZK ?_;unfold Instr.indexAt;simp only[asIntOf];simp only[Sem.run_bind,run_underlying hu,Result.andThen_ok,Sem.run_pure];rw[if_pos hb];simp only[Sem.run_bind,jP hs,Result.andThen_ok,Sem.run_pure,JU]
 rename_i e k lab xs kk m
 split at hr
 case h_2=>cases hr
 rename_i e' k' hse
 split at hr
 case h_2=>cases hr
 rename_i hk;have hk:=Nat.eq_of_beq_eq_true hk;subst hk
 by_cases h0:0≤m
 case neg=>rw[if_neg h0]at hr;cases hr
 rw[if_pos h0]at hr
 cases hxi:xs[m.toNat]? with
 | none=>rw[hxi]at hr;cases hr
 | some y =>
  rw[hxi]at hr;cases hr;have hlt:=(List.getElem?_eq_some_iff.1 hxi).1;unfold jB at hse
  split at hse
  case h_2=>cases hse
  rename_i e'' hu
  split at hse
  case h_2=>cases hse
  rename_i s hs;cases hse
  rcases hx.1.lst_inv with ⟨rfl,_⟩ | ⟨b,off,cap,us,hv,h1,h2,h3,h4,h5⟩
  ·simp at hxi
  have hiv:=hi.1.int_inv;refine⟨.pointer (some ⟨b,off+m.toNat * k,none⟩),?_,?_,trivial⟩
  ·rw[he,hv,hiv];refine ZK ?_;unfold Instr.indexAt;simp only[asIntOf];simp only[Sem.run_bind,run_underlying hu,Result.andThen_ok,Sem.run_pure];rw[if_pos ⟨h0,by omega⟩];simp only[Sem.run_bind,jP hs,Result.andThen_ok,Sem.run_pure,JU]
  ·refine R.ptr (fun j=>us (m.toNat * k+j)) ?_ ?_ ?_
   ·intro j c hc
    have hj:j<k:=by rw[← h2 y (List.mem_of_getElem? hxi)];exact (List.getElem?_eq_some_iff.1 hc).1
    rw[← QI h2 hxi j hj]at hc;rw[Nat.add_assoc];exact h3 _ _ hc
   ·intro j c hc
    have hj:j<k:=by rw[← h2 y (List.mem_of_getElem? hxi)];exact (List.getElem?_eq_some_iff.1 hc).1
    rw[← QI h2 hxi j hj]at hc;exact h4 _ _ hc
   ·intro j c hc
    have hj:j<k:=by rw[← h2 y (List.mem_of_getElem? hxi)];exact (List.getElem?_eq_some_iff.1 hc).1
    have hone:c.one=true:=List.all_eq_true.1 (h5 y (List.mem_of_getElem? hxi)) c (List.mem_of_getElem? hc);rw[← QI h2 hxi j hj]at hc;exact QR ((h4 _ _ hc).one hone)
theorem qaL (h:Inv bs n M O env a w) {o:Oper} {t:TypeId} {x i:Operand} (ho:o.op=.index t x i) {p q r:AV} (hp:aop env x=some p) (hq:aop env i=some q) (hr:aindex P t p q=some r):Simple P O M a w o r:=by
 have hx:=qo h hp;have hi:=qo h hq
 have he:execOp a.eval o=vS (Instr.index t (a.eval x) (a.eval i)):=by unfold execOp;rw[ho];rfl
 unfold aindex at hr
 split at hr
 ·rename_i s kk m
  split at hr
  case h_2=>cases hr
  rename_i hu
  by_cases h0:0≤m
  case neg=>rw[if_neg h0]at hr;cases hr
  rw[if_pos h0]at hr
  cases hb:s[m.toNat]? with
  | none=>rw[hb]at hr;cases hr
  | some b =>
   rw[hb]at hr;cases hr;have e1:=hx.1.str_inv;have e2:=hi.1.int_inv;refine⟨.int .u8 b.toNat,?_,.int _ _,trivial⟩;rw[he,e1,e2];refine ZK ?_;unfold Instr.index;simp only[asIntOf,Sem.run_bind,run_underlying hu,Result.andThen_ok,Sem.run_pure,h0,if_true,hb]
 ·rename_i cs kk m
  split at hr
  case h_2=>cases hr
  rename_i len e hu
  split at hr
  case h_2=>cases hr
  rename_i sz hz
  by_cases h0:0≤m∧m<(len:Int)
  case neg=>rw[if_neg h0]at hr;cases hr
  rw[if_pos h0]at hr;have e2:=hi.1.int_inv;obtain⟨vs,e1,l,c⟩:=hx.1.agg_inv
  obtain⟨v,h1,h2⟩:=Zy (O:=O) (w:=w) (M:=M) hr (vs:=vs) (by simpa using l) (by
   intro j c' v hj hv;rw[List.getElem?_map]at hj
   cases hz:cs[j]? with
   | none=>rw[hz]at hj;cases hj
   | some z' =>
    rw[hz]at hj;cases hj
    exact⟨(c j z' v hz hv).strip,QH _ _⟩)
  obtain⟨ti,hti,hsz⟩:∃ ti,P.info? e=some ti∧ti.size=sz:=by
   unfold tSize at hz
   cases hie:P.info? e with
   | none=>rw[hie]at hz;cases hz
   | some i=>rw[hie]at hz;exact⟨i,rfl,Option.some.inj hz⟩
  have hco:P.cellsOf e=sz:=by unfold Program.cellsOf;rw[hti];exact hsz
  refine⟨v,?_,h2⟩;rw[he,e1,e2];refine ZK ?_;unfold Instr.index;simp only[asIntOf,Sem.run_bind,run_underlying hu,Result.andThen_ok,Sem.run_pure,h0,and_self,if_true,run_sizeOf w hti,hco];exact h1
 ·cases hr
theorem Hq (h:Inv bs n M O env a w) {o:Oper} {x:Operand} {i:Nat} (ho:o.op=.extract x i) {vs:List AV} {r:AV} (hp:aop env x=some (.tup vs)) (hr:(vs[i]?).map AV.strip=some r):Simple P O M a w o r:=by
 have hx:=qo h hp
 have he:execOp a.eval o=vS (Instr.extract (a.eval x) i):=by unfold execOp;rw[ho];rfl
 have htup:∃ us:List Value,a.eval x=.tuple us.toArray∧vs.length=us.length∧∀ (j:Nat) c u,vs[j]? = some c→us[j]? = some u→R M c u:=by
  have:=hx.1;generalize a.eval x=y at this
  cases this with
  | tup h1 h2=>exact⟨_,rfl,h1,h2⟩
 obtain⟨us,e,l,c⟩:=htup
 cases hz:vs[i]? with
 | none=>rw[hz]at hr;cases hr
 | some z =>
  rw[hz]at hr;cases hr
  have hil:i<us.length:=by rw[← l];exact (List.getElem?_eq_some_iff.1 hz).1
  refine⟨us[i],?_,jZ (c i z _ hz (List.getElem?_eq_getElem hil)).strip (by cases z <;> rfl)⟩;rw[he,e];refine ZK ?_;unfold Instr.extract
  simp[hil]
theorem ZM (h:Inv bs n M O env a w) {o:Oper} {x:Operand} (ho:o.op=.nilCheck x) {r:AV} (hp:aop env x=some r) (hr:(∃ y,r=.ptr y)∨∃ s m,r=.pb s m):Simple P O M a w o r:=by
 have hx:=qo h hp
 have hv:∃ ad,a.eval x=.pointer (some ad):=by
  rcases hr with ⟨y,rfl⟩ | ⟨s,m,rfl⟩
  ·obtain⟨b,off,us,h1,_⟩:=hx.1.ptr_inv;exact⟨_,h1⟩
  ·obtain⟨g,h1,_⟩:=hx;exact⟨_,h1⟩
 obtain⟨ad,hv⟩:=hv;refine⟨_,?_,hx⟩;unfold execOp;rw[ho];simp only[hv,Sem.run_pure]
theorem Nb (h:Inv bs n M O env a w) {o:Oper} {x:Operand} (ho:o.op=.nilCheck x) {y:AV} (hp:aop env x=some (.optr false y)):Simple P O M a w o (.ptr y):=by
 have hx:=qo h hp
 have h1:R M (.ptr y) (a.eval x):=by
  have:=hx.1;generalize a.eval x=v at this
  cases this with
  | opts h=>exact h
 obtain⟨ad,hv⟩:=R.ptr_some h1;refine⟨_,?_,h1,trivial⟩;unfold execOp;rw[ho];simp only[hv,Sem.run_pure]
theorem Um (h:Inv bs n M O env a w) {xs:List Operand} {l:List AV} (hl:optAll (xs.map (aop env))=some l):l.length=(xs.map a.eval).length∧∀ (j:Nat) c v,l[j]? = some c→(xs.map a.eval)[j]? = some v→ValOk O M w c v:=by
 have hs:=jH hl
 have hlen:xs.length=l.length:=by simpa using congrArg List.length hs
 refine⟨by simp[hlen],fun j c v hc hv=>?_⟩;have hj:=congrArg (fun q=>q[j]?) hs;simp only[List.getElem?_map]at hj hv
 cases hx:xs[j]? with
 | none=>rw[hx]at hv;cases hv
 | some x =>
  rw[hx]at hv hj;rw[hc]at hj;simp only[Option.map_some,Option.some.injEq]at hj hv;rw[← hv];exact qo h hj
theorem Ha (h:Inv bs n M O env a w) {o:Oper} {f:Nat} {first caps:Array Operand} (ho:o.op=.makeFunc (.func f) first caps) (hf:first.size=0) {l:List AV} (hl:optAll (caps.toList.map (aop env))=some l) (hp:l.all (fun x=>match x with | .ptr _=>true | _=>false)=true):Simple P O M a w o (.clo f l):=by
 obtain⟨h1,h2⟩:=Um h hl;refine⟨.func (.func f) #[] (caps.toList.map a.eval).toArray,?_,R.clo h1 fun j c v hc hv=>?_,trivial⟩
 ·have he:execOp a.eval o=vS (Instr.makeFunc (.func f) (first.map a.eval) (caps.map a.eval)):=by unfold execOp;rw[ho];rfl
  rw[he];refine ZK ?_
  have:first=#[]:=Array.eq_empty_of_size_eq_zero hf
  subst this;unfold Instr.makeFunc;simp only[Sem.run_pure,Array.map_empty]
  congr 2
  apply Array.ext'
  simp
 ·have:=h2 j c v hc hv;simp only[List.all_eq_true]at hp;have hpj:=hp c (List.mem_of_getElem? hc)
  refine this.r (fun s=>?_) (fun _ _ e=>by subst e;cases hpj) fun _ e=>by subst e;cases hpj
  cases c <;> first | rfl | cases hpj
theorem Nc (h:Inv bs n M O env a w) {o:Oper} {f:Nat} {first caps:Array Operand} (ho:o.op=.makeFunc (.func f) first caps) (hf:first.size=0) {l:List AV} (hl:optAll (caps.toList.map (aop env))=some l) (hp:l.all (fun x=>match x with | .ptr _=>true | .pb _ 0=>true | _=>false)=true):Simple P O M a w o (.clb f l):=by
 obtain⟨h1,h2⟩:=Um h hl;refine⟨.func (.func f) #[] (caps.toList.map a.eval).toArray,?_,_,rfl,h1,fun j c v hc hv=>?_⟩
 ·have he:execOp a.eval o=vS (Instr.makeFunc (.func f) (first.map a.eval) (caps.map a.eval)):=by unfold execOp;rw[ho];rfl
  rw[he];refine ZK ?_
  have:first=#[]:=Array.eq_empty_of_size_eq_zero hf
  subst this;unfold Instr.makeFunc;simp only[Sem.run_pure,Array.map_empty]
  congr 2
  apply Array.ext'
  simp
 ·have:=h2 j c v hc hv;simp only[List.all_eq_true]at hp;have hpj:=hp c (List.mem_of_getElem? hc);unfold CapOk
  cases c with
  | pb s off=>exact this
  | ptr y=>exact this.1
  | _=>cases hpj
theorem DA (h:Inv bs n M O env a w) {m:AV} {v:Value} (hm:ValOk O M w m v) {ks vs:List AV} (he:XH env m=some (ks,vs)) :
  (v=.map none∧ks=[]∧vs=[])∨∃ b es clock ks' vs',v=.map (some b)∧w.heap[b]? = some (.map es clock)∧PermKV ks vs ks' vs'∧EntOk M es clock ks' vs':=by
 unfold XH at he
 split at he
 ·rename_i ks' vs';cases he
  rcases UF hm.1 with ⟨e1,e2,e3⟩ | ⟨ks',vs',b,es,clock,hp,e,h1,h2,h3,h4,h5,h6,h7⟩
  ·exact .inl ⟨e1,e2,e3⟩
  ·exact .inr ⟨b,es,clock,ks',vs',e,YW (h.cons _ _ _ h1),hp,h2,h3,h4,h5,h6,h7⟩
 ·rename_i id
  split at he
  case h_2=>cases he
  rename_i ks' vs' hl;cases he;obtain⟨g,h1,h2⟩:=hm;obtain⟨g',k1,k2,es,clock,k3,k4⟩:=h.slots id _ hl
  have:g'=g:=by rw[k1]at h1;exact Option.some.inj h1
  subst this;exact .inr ⟨g',es,clock,_,_,h2,k3,PermKV.refl (k4.2.2.1.trans k4.2.2.2.1.symm),k4⟩
 ·cases he
theorem QB {t k e:TypeId} (h:Qq P t=some (k,e)):P.underlying t=some (.map k e):=by
 unfold Qq at h
 split at h
 ·rename_i k' e' hu;cases h;exact hu
 ·cases h
theorem Zt {e:TypeId} {z:AV} (h:zeroA1 P e=some z):∃ v,(zeroValue e).run P w=.ok v w∧R M z v∧OwnV O M w z v:=by
 unfold zeroA1 at h
 split at h
 case h_2=>cases h
 rename_i v hv;obtain⟨h1,h2,_⟩:=Xg (M:=M) (O:=O) (w:=w) h;refine⟨v,?_,h1,h2⟩
 cases hi:P.info? e with
 | none=>rw[hi]at hv;cases hv
 | some i =>
  rw[hi]at hv;have hzz:i.zero=some v:=hv
  simp[zeroValue,typeInfo,hi,hzz]
theorem Ds (h:Inv bs n M O env a w) {o:Oper} {t:TypeId} {x k:Operand} (ho:o.op=.lookup t x k false) {m kk r:AV} (hm:aop env x=some m) (hk:aop env k=some kk) (hr:alookup P t env m kk=some r):Simple P O M a w o r.strip:=by
 have hx:=qo h hm;have hkx:=qo h hk
 have he:execOp a.eval o=vS (Instr.lookup t (a.eval x) (a.eval k) false):=by unfold execOp;rw[ho];rfl
 unfold alookup at hr
 split at hr
 case h_2=>cases hr
 rename_i kt e ks vs ht hen
 split at hr
 case h_2=>cases hr
 rename_i hc;simp only[Bool.and_eq_true]at hc;obtain⟨⟨hfit,hks⟩,hall⟩:=hc;have ht:=QB ht;obtain⟨kv,hkv⟩:=Option.isSome_iff_exists.1 hks;have hkev:a.eval k=kv:=qad hkx hkv
 have fin:∀ v,(Instr.lookup t (a.eval x) (a.eval k) false).run P w=.ok v w→R M r v→Simple P O M a w o r.strip:=by
  intro v h1 h2;refine⟨v,by rw[he];exact ZK h1,jZ h2.strip ?_⟩;cases r <;> rfl
 obtain⟨K,l,hl⟩:=ZD hfit hkv
 rcases DA h hx hen with ⟨hv,rfl,rfl⟩ | ⟨b,es,clock,ks',vs',hv,hb,hp,E⟩
 ·simp only[findA]at hr;obtain⟨z,hz,hz2,_⟩:=Zt (M:=M) (O:=O) (w:=w) hr;refine fin z ?_ hz2;rw[hv,hkev]
  have hfind:(Instr.findKey kt kv (#[]:Array MapEntry).toList).run P w=.ok none w:=by
   rcases K.find w hl [] (by simp) with ⟨h1,_⟩ | ⟨j,e,_,h2,_⟩
   ·exact h1
   ·simp at h2
  simp[Instr.lookup,run_underlying ht,K.check w true hl,hfind,hz,Result.andThen]
 ·have hall':ks'.all (keyFits P kt)=true:=List.all_eq_true.2 fun y hy=>List.all_eq_true.1 hall y (hp.keys.mem_iff.2 hy)
  obtain⟨hck,hst,hfd⟩:=YB (w:=w) hfit hkv hall' E;obtain⟨fp1,fp2⟩:=qap hkv hp E;obtain⟨_,_,hkl,hvl,_,hve⟩:=E
  rcases hfd with ⟨h1,h2,h3⟩ | ⟨j,e0,h1,h2,h3,h4⟩
  ·rw[fp1 h1]at hr;obtain⟨z,hz,hz2,_⟩:=Zt (M:=M) (O:=O) (w:=w) hr;refine fin z ?_ hz2;rw[hv,hkev]
   simp[Instr.lookup,run_underlying ht,MapKept.run_getObj_map hb,hck,h2,hz,Result.andThen]
  ·obtain⟨i,g1,g2⟩:=fp2 j h1;rw[g1]at hr;simp only[g2]at hr;refine fin e0.val ?_ (hve j r e0 hr (by simpa using h3));rw[hv,hkev]
   simp[Instr.lookup,run_underlying ht,MapKept.run_getObj_map hb,hck,h2,Result.andThen]
theorem qaN (h:Inv bs n M O env a w) {o:Oper} {x:Operand} (ho:o.op=.entry x) {id:Nat} (hp:aop env x=some (.mb 1 id)) {k v:AV} {ks vs:List AV} (hl:look env id=some (.hob 2 (k::ks) (v::vs))):Simple P O M a w o (.tup [k,v]):=by
 obtain⟨g,h1,h2⟩:=qo h hp;obtain⟨g',k1,k2,b,es,clock,seen,e,k',v',ks',vs',q1,q2,q3,q4,q5,q6,q7,q8,_⟩:=h.slots id _ hl
 have:g'=g:=by rw[k1]at h1;exact Option.some.inj h1
 subst this;cases q1;cases q2;have hb:=YW (h.cons _ _ _ q4);have hn:=((MapKept.stamped_iff es clock).1 q5).2.1
 have he:execOp a.eval o=vS (Instr.entry (a.eval x)):=by unfold execOp;rw[ho];rfl
 refine⟨.tuple #[e.key,e.val],?_,?_,trivial⟩
 ·rw[he,h2];exact ZK (run_entry_at w g' b clock seen es clock e q3 hb q6 hn)
 ·refine R.tup (vs:=[e.key,e.val]) rfl fun j c u hc hu=>?_
  match j with
  | 0=>cases hc;cases hu;exact qhj q7
  | 1=>cases hc;cases hu;exact q8
  | j+2=>cases hc
theorem qcS (h:Inv bs n M O env a w) {o:Oper} {x:Operand} {t:TypeId} {args:Array Operand} {ats:Array TypeId} (ho:o.op=.call { callee:=.builtin .len,args:=args,argTypes:=ats }) (ha:args.toList=[x]) (ht:ats.toList=[t]) {p r:AV} (hp:aop env x=some p) (hr:alen P t p=some r):Simple P O M a w o r:=by
 have hx:=qo h hp
 have ea:args=#[x]:=by apply Array.ext';simpa using ha
 have et:ats=#[t]:=by apply Array.ext';simpa using ht
 subst ea;subst et
 have key:∀ v,(Builtin.len_ #[t] o.type #[a.eval x]).run P w=.ok v w→R M r v→r.lab? = none→Simple P O M a w o r:=by
  intro v h1 h2 h3;refine⟨v,?_,jZ h2 h3⟩;unfold execOp;rw[ho];simp only[resolve,invoke,builtin,Sem.run_bind,Sem.run_pure,Result.andThen_ok,List.map_toArray,List.map_cons,List.map_nil,h1]
 unfold alen at hr
 split at hr
 ·rename_i e k lab xs
  split at hr
  case h_2=>cases hr
  rename_i e' hu;cases hr
  rcases hx.1.lst_inv with ⟨rfl,hv | ⟨ad,cap,hv⟩⟩ | ⟨b,off,cap,us,hv,_⟩
  all_goals
   rw[hv]at key;refine key _ ?_ (.int _ _) rfl;unfold Builtin.len_
   simp[Sem.run_bind,run_underlying hu,goInt]
 ·rename_i id e1 k off m
  split at hr
  case h_2=>cases hr
  rename_i e' hu;cases hr;obtain⟨_,hx⟩:=hx
  rcases hx with ⟨rfl,ad,hv⟩ | ⟨g,cap,hv,_⟩
  all_goals
   rw[hv]at key;refine key _ ?_ (.int _ _) rfl;unfold Builtin.len_
   simp[Sem.run_bind,run_underlying hu,goInt]
 ·split at hr
  case h_2=>cases hr
  rename_i e' hu;cases hr
  have hv:a.eval x=.slice none 0 0:=by
   have:=hx.1;generalize a.eval x=y at this;cases this;rfl
  rw[hv]at key;refine key _ ?_ (.int _ _) rfl;unfold Builtin.len_
  simp[Sem.run_bind,run_underlying hu,goInt]
 ·split at hr
  case h_2=>cases hr
  rename_i s hu;cases hr;have hv:=hx.1.str_inv;rw[hv]at key;refine key _ ?_ (.int _ _) rfl;unfold Builtin.len_
  simp[Sem.run_bind,run_underlying hu,goInt]
 ·cases hr
theorem Hb (h:Inv bs n M O env a w) {o:Oper} {x:Operand} {i:Nat} (ho:o.op=.extract x i) {id e k off m:Nat} {rest:List AV} {r:AV} (hp:aop env x=some (.tpr id e k off m rest)) (hr:tprAt id e k off m rest i=some r):Simple P O M a w o r:=by
 have hx:=qo h hp
 have he:execOp a.eval o=vS (Instr.extract (a.eval x) i):=by unfold execOp;rw[ho];rfl
 obtain⟨u,us,e1,e2,e3,e4⟩:=hx
 cases i with
 | zero =>
  cases hr;refine⟨u,?_,e2⟩;rw[he,e1];refine ZK ?_
  simp[Instr.extract,Sem.run_pure]
 | succ j =>
  simp only[tprAt]at hr
  cases hz:rest[j]? with
  | none=>rw[hz]at hr;cases hr
  | some z =>
   rw[hz]at hr;cases hr
   have hjl:j<us.length:=by rw[← e3];exact (List.getElem?_eq_some_iff.1 hz).1
   refine⟨us[j],?_,jZ (e4 j z _ hz (List.getElem?_eq_getElem hjl)).strip (by cases z <;> rfl)⟩;rw[he,e1];refine ZK ?_
   simp[Instr.extract,Sem.run_pure,hjl]
theorem qcQ (h:Inv bs n M O env a w) {o:Oper} {x y:Operand} {args:Array Operand} {ats:Array TypeId} (ho:o.op=.call { callee:=.builtin .min,args:=args,argTypes:=ats }) (ha:args.toList=[x,y]) {k k':IntKind} {p q:Int} (hp:aop env x=some (.int k p)) (hq:aop env y=some (.int k' q)):Simple P O M a w o (.int k (if q<p then q else p)):=by
 have hx:=(qo h hp).1.int_inv;have hy:=(qo h hq).1.int_inv
 have ea:args=#[x,y]:=by apply Array.ext';simpa using ha
 subst ea;refine⟨.int k (if q<p then q else p),?_,.int _ _,trivial⟩;unfold execOp;rw[ho];simp only[resolve,invoke,builtin,Sem.run_bind,Sem.run_pure,Result.andThen_ok,List.map_toArray,List.map_cons,List.map_nil,hx,hy,Builtin.min_,List.foldlM_cons,List.foldlM_nil,Builtin.min2]
theorem qcR (h:Inv bs n M O env a w) {o:Oper} {x y:Operand} {args:Array Operand} {ats:Array TypeId} (ho:o.op=.call { callee:=.builtin .max,args:=args,argTypes:=ats }) (ha:args.toList=[x,y]) {k k':IntKind} {p q:Int} (hp:aop env x=some (.int k p)) (hq:aop env y=some (.int k' q)):Simple P O M a w o (.int k (if q > p then q else p)):=by
 have hx:=(qo h hp).1.int_inv;have hy:=(qo h hq).1.int_inv
 have ea:args=#[x,y]:=by apply Array.ext';simpa using ha
 subst ea;refine⟨.int k (if q > p then q else p),?_,.int _ _,trivial⟩;unfold execOp;rw[ho];simp only[resolve,invoke,builtin,Sem.run_bind,Sem.run_pure,Result.andThen_ok,List.map_toArray,List.map_cons,List.map_nil,hx,hy,Builtin.max_,List.foldlM_cons,List.foldlM_nil,Builtin.max2]
theorem Vm {e:Nat} (h:isByte P e=true):P.underlying e=some (.int .u8):=by
 unfold isByte at h
 split at h
 ·assumption
 ·cases h
theorem qgn {xs:List AV} {ns:List Int} (h:optAll (xs.map byteOf)=some ns):xs=ns.map (AV.int .u8):=by
 have hs:=jH h;clear h
 induction xs generalizing ns with
 | nil=>cases ns with
  | nil=>rfl
  | cons _ _=>cases hs
 | cons x xs ih =>
  cases ns with
  | nil=>cases hs
  | cons n ns =>
   simp only[List.map_cons,List.cons.injEq]at hs ⊢;refine⟨?_,ih hs.2⟩;have:=hs.1;unfold byteOf at this
   split at this
   ·cases this;rfl
   ·cases this
theorem Hr (h:Inv bs n M O env a w) {o:Oper} {x:Operand} {s d:TypeId} (ho:o.op=.convert s d x) {p r:AV} (hns:∀ q,p≠.str q) (hp:aop env x=some p) (hr:YG P s d p=some r):Simple P O M a w o r:=by
 have hx:=qo h hp
 have he:execOp a.eval o=vS (convert s d (a.eval x)):=by unfold execOp;rw[ho];rfl
 cases p with
 | int k m =>
  simp only[YG]at hr;have e1:=hx.1.int_inv
  split at hr
  ·rename_i k' hu hs;cases hr;refine⟨.int k' (k'.wrap m),?_,.int _ _,trivial⟩;rw[he,e1];refine ZK ?_;unfold convert
   cases hd:P.underlying s with
   | none=>rw[hd]at hs;cases hs
   | some ds =>
    simp only[Sem.run_bind,run_underlying hu,run_underlying hd,Result.andThen_ok,Conv.intToInt,Sem.run_pure]
  ·rename_i hu hs
   split at hr
   case isFalse=>cases hr
   rename_i hm;cases hr;refine⟨.string ⟨#[UInt8.ofNat m.toNat]⟩,?_,.str _,trivial⟩;rw[he,e1];refine ZK ?_;unfold convert
   cases hd:P.underlying s with
   | none=>rw[hd]at hs;cases hs
   | some ds =>
    have hen:Utf8.encode m=⟨#[UInt8.ofNat m.toNat]⟩:=by
     have hv:Utf8.valid m=true:=by
      unfold Utf8.valid
      simp
      exact .inl ⟨hm.1,by omega⟩
     unfold Utf8.encode;simp only[hv,if_true];rw[if_pos (by omega)]
    simp only[Sem.run_bind,run_underlying hu,run_underlying hd,Result.andThen_ok,Conv.intToString,Sem.run_pure,hen]
  ·cases hr
 | str q=>exact absurd rfl (hns q)
 | lst e k l xs =>
  simp only[YG]at hr
  split at hr
  case h_2=>cases hr
  rename_i e' hs hd
  split at hr
  case h_2=>cases hr
  rename_i ns hb hns';cases hr;simp only[Bool.and_eq_true]at hb;have hk:=Nat.eq_of_beq_eq_true hb.2;have he':=Vm hb.1;have hxs:=qgn hns'
  have hfl:flat xs=ns.map (AV.int .u8):=by
   rw[hxs];unfold flat;rw[List.flatMap_map];simp only[AV.cells];exact List.map_eq_flatMap.symm
  refine⟨.string (strOfNums ns),?_,.str _,trivial⟩;rw[he];refine ZK ?_;have hR:=hx.1;generalize a.eval x=vx at hR ⊢
  cases hR with
  | lstn =>
   have:ns=[]:=by simpa using hxs.symm
   subst this;exact run_convert_bytes_nil w s e' hs he' 0 0 d hd
  | lste e k l ad cap =>
   have:ns=[]:=by simpa using hxs.symm
   subst this
   have e2:(Conv.bytesToString (.slice (some ad) 0 cap)).run P w=.ok (.string ByteArray.empty) w:=by simp[Conv.bytesToString,loadCells,loadCellsFrom]
   exact (run_convert_bytes_string w s d e' (some ad) 0 cap hs he' hd).trans e2
  | lst us h1 h2 h5 h3 h4 =>
   rename_i b off cap;refine run_convert_bytes_arg w s e' hs he' b off xs.length cap ns (by rw[hxs];simp) (fun i hi=>?_) d hd;rw[hxs]at hi
   simp at hi
   have hi':(flat xs)[i]? = some (AV.int .u8 (ns[i]'hi)):=by rw[hfl];simp[hi]
   have h7:=(h4 i _ hi').int_inv;have h6:=Ju (h.cons _ _ _ (h3 i _ hi')) (by rw[h7];rfl);rw[h7]at h6
   simpa[List.getD,List.getElem?_eq_getElem hi] using h6
 | nils =>
  simp only[YG]at hr
  split at hr
  case h_2=>cases hr
  rename_i e' hs hd
  split at hr
  case h_2=>cases hr
  rename_i hb;cases hr;have e1:=hx.1.nils_inv;refine⟨.string ByteArray.empty,?_,.str _,trivial⟩;rw[he,e1];refine ZK ?_;exact run_convert_bytes_nil w s e' hs (Vm hb) 0 0 d hd
 | _=>cases hr
end
end Go.AM
