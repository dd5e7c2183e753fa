import Derived.Test.YtoiejpkfpjingaaASimB
import Derived.Laws.StructEq
import Derived.WalkKit
set_option linter.all false
open Go.Sem renaming run_bind→A0
open Go.Result renaming andThen_ok→A1
open List renaming getElem?_eq_getElem→A2, getElem?_map→A3, drop_eq_getElem_cons→A5, drop_of_length_le→A9, mem_cons_self→B9, flatMap_cons→C0, mem_cons_of_mem→C2, mem_of_getElem?→C4
open Nat renaming zero_add→A4, lt_of_not_le→A8, le_of_ble_eq_true→B0, eq_of_beq_eq_true→B5
open Bool renaming false_eq_true→A6, and_eq_true→A7, not_eq_true'→B6
open Go.World renaming cell?→B7
namespace Go.AM
open Go.RowKit
section
variable {bs:Base} {n:Nat} {M:Mem} {O:Gh} {env:Env} {a:Act} {w:World}
theorem Jf {v:Value} {x:AV} (h:aconst1 v=some x):R M x v∧OwnV O M w x v∧x.one=true∧x.lab? = none∧(∀ cs,x≠.box cs)∧(∀ s o,x≠.pb s o)∧(∀ cs,x≠.agg cs)∧x.cells=[x]∧v.cells=#[v]:=by
 unfold aconst1 at h;split at h <;> cases h
 ·exact⟨.bool _,trivial,rfl,rfl,(by intro _ e;cases e),(by intro _ _ e;cases e),(by intro _ e;cases e),rfl,rfl⟩
 ·exact⟨.int _ _,trivial,rfl,rfl,(by intro _ e;cases e),(by intro _ _ e;cases e),(by intro _ e;cases e),rfl,rfl⟩
 ·exact⟨.str _,trivial,rfl,rfl,(by intro _ e;cases e),(by intro _ _ e;cases e),(by intro _ e;cases e),rfl,rfl⟩
 ·exact⟨.nils,trivial,rfl,rfl,(by intro _ e;cases e),(by intro _ _ e;cases e),(by intro _ e;cases e),rfl,rfl⟩
 ·exact⟨.optn _,trivial,rfl,rfl,(by intro _ e;cases e),(by intro _ _ e;cases e),(by intro _ e;cases e),rfl,rfl⟩
 ·exact⟨.mpvn,trivial,rfl,rfl,(by intro _ e;cases e),(by intro _ _ e;cases e),(by intro _ e;cases e),rfl,rfl⟩
theorem qK {α:Type} {l:List (Option α)} {r:List α} (h:optAll l=some r):l=r.map some:=by
 induction l generalizing r with
 | nil=>cases h;rfl
 | cons x l ih =>
  cases x with
  | none=>cases h
  | some x =>
   simp only[optAll]at h;split at h
   ·rename_i l' hl';cases h;rw[ih hl'];rfl
   ·cases h
theorem NP {v:Value} {x:AV} (h:aconst v=some x):ValOk O M w x v:=by
 unfold aconst at h;split at h
 ·rename_i cs;split at h
  ·rename_i l hl;cases h;have hs:=qK hl
   have hlen:cs.toList.length=l.length:=by simpa using congrArg List.length hs
   refine⟨?_,trivial⟩
   have:R M (.agg l) (.agg cs.toList.toArray):=.agg hlen.symm fun j c v hc hv=>by
    have hj:=congrArg (fun q=>q[j]?) hs;simp only[A3,hc,hv,Option.map_some]at hj;exact (Jf (O:=O) (w:=w) (Option.some.inj hj)).1
   simpa using this
  ·cases h
 ·cases h;exact⟨.top _,trivial⟩
 ·obtain⟨h1,h2,_,_,h3,h4,_⟩:=Jf (M:=M) (O:=O) (w:=w) h
  cases x with
  | box cs=>exact absurd rfl (h3 cs)
  | pb s o=>exact absurd rfl (h4 s o)
  | sb s e k off n=>cases h1
  | tpr s e k off n rest=>cases h1
  | pe s k j o=>cases h1
  | obj e k xs=>cases h1
  | hob kd ks vs=>cases h1
  | mb kd s=>cases h1
  | bxg cs=>cases h1
  | slf=>cases h1
  | agr cs=>cases h1
  | clb f caps=>cases h1
  | _=>exact⟨h1,h2⟩
theorem qj (h:Inv bs n M O env a w) {x:Operand} {v:AV} (hv:aop env x=some v):ValOk O M w v (a.eval x):=by
 cases x with
 | tmp t =>
  simp only[aop]at hv;split at hv
  ·rename_i cs hl;split at hv
   case h_2=>cases hv
   rename_i hlt;cases hv;obtain⟨g,cur,el,h1,h2,_⟩:=h.slots t _ hl;have hlt:t<1000000:=B0 hlt
   rcases h1 with h1 | h1
   ·exact⟨g,h1,h2⟩
   ·exact absurd hlt (Nat.not_lt_of_le h1)
  ·rename_i cs hl;split at hv
   case h_2=>cases hv
   rename_i hlt;cases hv;obtain⟨g,cur,el,h1,h2,_⟩:=h.slots t _ hl;have hlt:t<1000000:=B0 hlt
   rcases h1 with h1 | h1
   ·exact⟨g,h1,h2⟩
   ·exact absurd hlt (Nat.not_lt_of_le h1)
  ·cases hv
  ·cases hv
  ·rename_i y hb hx ho hm hl;cases hv;refine Xk ?_ (h.slots t _ hl)
   cases v with
   | box cs=>exact absurd rfl (hb cs)
   | obj e k xs=>exact absurd rfl (ho e k xs)
   | hob kd ks vs=>exact absurd rfl (hm kd ks vs)
   | bxg cs=>exact absurd rfl (hx cs)
   | _=>rfl
  ·cases hv
 | const c=>exact NP hv
 | func f =>
  simp only[aop,Option.some.injEq]at hv;subst hv;exact⟨R.clo (vs:=[]) rfl (by simp),trivial⟩
 | global g=>cases hv
theorem ValOk.r {x:AV} {v:Value} (h:ValOk O M w x v) (hp:∀ s,x.refs s=false) (hnb:∀ f caps,x=.clb f caps→R M x v:=by intros;contradiction) (hnr:∀ cs,x=.agr cs→R M x v:=by intros;contradiction):R M x v:=by
 cases x with
 | box cs=>exact h.elim
 | obj e k xs=>exact h.elim
 | pb s o=>have:=hp s;simp[AV.refs]at this
 | sb s e k off n=>have:=hp s;simp[AV.refs]at this
 | tpr s e k off n rest=>have:=hp s;simp[AV.refs]at this
 | pe s k j o=>have:=hp s;simp[AV.refs]at this
 | hob kd ks vs=>exact h.elim
 | bxg cs=>exact h.elim
 | slf=>exact h.elim
 | agr cs=>exact hnr cs rfl
 | mb kd s=>have:=hp s;simp[AV.refs]at this
 | clb f caps =>
  obtain⟨vs,h1,h2,h3⟩:=h;exact hnb f caps rfl
 | _=>exact h.1
theorem ZJ {O:Gh} {M:Mem} {w:World} {x:AV} {v:Value} (h:ValOk O M w x v):ValOk O M w x.strip v:=by
 cases x with
 | lst e k l xs=>exact⟨h.1.setLab,trivial⟩
 | agr cs =>
  obtain⟨us,h1,h2,h3⟩:=h;refine⟨us,h1,by simpa using h2,fun j c u hc hu=>?_⟩;rw[A3]at hc
  cases hz:cs[j]? with
  | none=>rw[hz]at hc;cases hc
  | some z =>
   rw[hz]at hc;cases hc;obtain⟨k1,k2,k3⟩:=h3 j z u hz hu
   cases z with
   | lst e k l xs=>exact⟨⟨rfl,k1.2.setLab⟩,trivial,fun e=>by cases e⟩
   | _=>exact⟨k1,k2,k3⟩
 | _=>exact h
theorem ja {x:AV} {v:Value} (h:R M x v) (hl:x.lab? = none):ValOk O M w x v:=by
 cases x with
 | box cs=>cases h
 | pb s o=>cases h
 | obj e k xs=>cases h
 | sb s e k off n=>cases h
 | tpr s e k off n rest=>cases h
 | pe s k j o=>cases h
 | hob kd ks vs=>cases h
 | mb kd s=>cases h
 | bxg cs=>cases h
 | slf=>cases h
 | agr cs=>cases h
 | clb f caps=>cases h
 | lst e k o xs=>cases o with
  | none=>exact⟨h,trivial⟩
  | some c=>cases hl
 | _=>exact⟨h,trivial⟩
theorem JB (x:AV) (v:Value):OwnV O M w x.strip v:=by
 cases x <;> trivial
def Simple (P:Program) (O:Gh) (M:Mem) (a:Act) (w:World) (o:Oper) (x:AV):Prop :=
 ∃ v,(execOp a.eval o).run P w=.ok (.value v) w∧ValOk O M w x v
variable {P:Program}
theorem jz {k k':IntKind} (h:kbeq k k'=true):k=k':=by
 cases k <;> cases k' <;> first | rfl | cases h
theorem ZL (h:Inv bs n M O env a w) {o:Oper} {x:Operand} (ho:o.op=.move x∨o.op=.assign x) {v:AV} (hv:aop env x=some v):Simple P O M a w o v:=by
 refine⟨a.eval x,?_,qj h hv⟩;unfold execOp
 rcases ho with ho | ho <;> rw[ho] <;> rfl
theorem ZK (h:Inv bs n M O env a w) {o:Oper} {c p q:Operand} (ho:o.op=.pick c p q) {b:Bool} (hb:aop env c=some (.bool b)) {v:AV} (hv:aop env (if b then p else q)=some v):Simple P O M a w o v:=by
 have h1:a.eval c=.bool b:=by
  have:=(qj h hb).1;generalize a.eval c=y at this;cases this;rfl
 refine⟨a.eval (if b then p else q),?_,qj h hv⟩;unfold execOp;rw[ho];simp only[h1];cases b <;> rfl
def vS (s:Sem Value):Sem Next:=do pure (.value (← s))
theorem XB {s:Sem Value} {v:Value} {w w':World} (h:s.run P w=.ok v w'):(vS s).run P w=.ok (.value v) w':=by
 unfold vS;rw[A0,h];rfl
theorem R.nils_inv {v} (h:R M .nils v):v=.slice none 0 0:=by cases h;rfl
theorem R.int_inv {k m v} (h:R M (.int k m) v):v=.int k m:=by cases h;rfl
theorem R.bool_inv {b v} (h:R M (.bool b) v):v=.bool b:=by cases h;rfl
theorem R.str_inv {b v} (h:R M (.str b) v):v=.string b:=by cases h;rfl
theorem qag (h:Inv bs n M O env a w) {o:Oper} {op:UnOp} {t:TypeId} {x:Operand} (ho:o.op=.unOp op t x) {v r:AV} (hv:aop env x=some v) (hr:aun op v=some r):Simple P O M a w o r:=by
 have hx:=qj h hv
 have he:execOp a.eval o=vS (Op.unary op (a.eval x)):=by unfold execOp;rw[ho];rfl
 unfold aun at hr;split at hr <;> cases hr
 ·rename_i b;have h1:=hx.1.bool_inv;exact⟨.bool (!b),by rw[he,h1];exact XB rfl,.bool _,trivial⟩
 ·rename_i k m;have h1:=hx.1.int_inv;exact⟨.int k (k.wrap (0 - m)),by rw[he,h1];exact XB rfl,.int _ _,trivial⟩
theorem Vi (op:BinOp) (t:TypeId) (x y:Operand) (k k':IntKind) (p q:Int) (w:World):(eqGuard op t x y (.int k p) (.int k' q)).run P w=.ok () w:=by
 cases op <;> rfl
theorem Xc (op:BinOp) (t:TypeId) (x y:Operand) (p q:Bool) (w:World):(eqGuard op t x y (.bool p) (.bool q)).run P w=.ok () w:=by
 cases op <;> rfl
theorem jo (op:BinOp) (t:TypeId) (x y:Operand) (p q:ByteArray) (w:World):(eqGuard op t x y (.string p) (.string q)).run P w=.ok () w:=by
 cases op <;> rfl
theorem Ha {op:BinOp} {t:TypeId} {k k':IntKind} {p q:Int} {r:AV} (hr:abin P op t (.int k p) (.int k' q)=some r):∃ v,(binOp op t (.int k p) (.int k' q)).run P w=.ok v w∧R M r v∧r.lab? = none:=by
 cases op <;> simp only[abin]at hr
 case shl =>
  split at hr
  ·cases hr
  ·rename_i hb;cases hr;refine⟨.int k (k.wrap (p * 2 ^ min q.toNat k.bits)),?_,.int _ _,rfl⟩;simp only[binOp,Op.shift,if_neg hb];rfl
 case shr =>
  split at hr
  ·cases hr
  ·rename_i hb;cases hr;refine⟨.int k (p.fdiv (2 ^ min q.toNat k.bits)),?_,.int _ _,rfl⟩;simp only[binOp,Op.shift,if_neg hb];rfl
 case quo =>
  split at hr
  ·cases hr
  ·rename_i hk;have hk':=jz hk;subst hk';simp only[iarith,icmp]at hr;by_cases hq:q=0
   ·simp[hq]at hr
   ·rw[if_neg hq]at hr;cases hr;refine⟨.int k (k.wrap (p.tdiv q)),?_,.int _ _,rfl⟩;simp only[binOp,ne_eq,not_true_eq_false,if_false,Op.intDiv,if_neg hq];rfl
 case rem =>
  split at hr
  ·cases hr
  ·rename_i hk;have hk':=jz hk;subst hk';simp only[iarith,icmp]at hr;by_cases hq:q=0
   ·simp[hq]at hr
   ·rw[if_neg hq]at hr;cases hr;refine⟨.int k (p.tmod q),?_,.int _ _,rfl⟩;simp only[binOp,ne_eq,not_true_eq_false,if_false,Op.intDiv,if_neg hq];rfl
 all_goals
  (
   split at hr
   ·cases hr
   ·rename_i hk;have hk':=jz hk;subst hk';simp only[iarith,icmp,Option.map_some]at hr;cases hr;simp only[binOp,ne_eq,not_true_eq_false,if_false,Op.intArith,Op.intBits,Op.intCmp]
    first
    | exact⟨_,rfl,.int _ _,rfl⟩
    | exact⟨_,rfl,.bool _,rfl⟩)
theorem Qw {t:TypeId} {cs:Array Value} {off:Nat} {v:Value} (ht:tAgg P t=false) (hu:P.underlying t≠none) (hv:cs[off]? = some v):(part t cs off).run P w=.ok v w:=by
 unfold part
 have h1:(isAgg t).run P w=.ok false w:=by
  unfold isAgg
  cases hd:P.underlying t with
  | none=>exact absurd hd hu
  | some d =>
   rw[A0,run_underlying hd];simp only[tAgg,hd]at ht
   cases d <;> first | rfl | cases ht
 rw[A0,h1];simp only[A1,A6,if_false,hv];rfl
theorem UU {d k:Nat} {t:TypeId} {c e:AV} {v u:Value} {x:Bool} (hk:jQ P t=some k) (hx:aeq1 k c e=some x) (r1:R M c v) (r2:R M e u):(Op.equalIn (d+1) t v u).run P w=.ok x w:=by
 unfold jQ at hk;unfold aeq1 at hx;split at hx
 ·rename_i k1 p k' q;split at hx
  ·rename_i hkk;cases hx;have:=jz hkk;subst this;rw[r1.int_inv,r2.int_inv]
   split at hk <;> first | (cases hk;done) | skip
   rename_i hd';exact run_equalIn_int w d _ _ _ _ _ hd'
  ·cases hx
 ·cases hx;rw[r1.bool_inv,r2.bool_inv]
  split at hk <;> first | (cases hk;done) | skip
  rename_i hd';exact run_equalIn_bool' w d _ _ _ hd'
 ·cases hx;rw[r1.str_inv,r2.str_inv]
  split at hk <;> first | (cases hk;done) | skip
  rename_i hd';exact run_equalIn_string w d _ _ _ hd'
 ·cases hx
theorem NF {d k:Nat} {t:TypeId} {cs ds:List AV} {vs us:List Value} (hk:jQ P t=some k) (h1:cs.length=vs.length) (h2:ds.length=us.length) (hc:∀ (j:Nat) c v,cs[j]? = some c→vs[j]? = some v→R M c v) (hd:∀ (j:Nat) c v,ds[j]? = some c→us[j]? = some v→R M c v) :
  ∀ (m off:Nat) (b:Bool),aeqL (List.replicate m k) (cs.drop off) (ds.drop off)=some b→(Op.eqItems (d+1) t 1 vs.toArray us.toArray (List.range' off m)).run P w=.ok b w:=by
 have hu:P.underlying t≠none:=by intro e;rw[jQ,e]at hk;cases hk
 have hag:tAgg P t=false:=by
  have hk':=hk;unfold tAgg;unfold jQ at hk'
  split at hk' <;> rename_i e <;> first | (simp only[e];done) | (cases hk';done)
 intro m
 induction m with
 | zero =>
  intro off b hb'
  have:b=true:=by
   generalize cs.drop off=x at hb';generalize ds.drop off=y at hb';cases x <;> cases y <;> simp[aeqL]at hb';exact hb'
  subst this;rfl
 | succ m ih =>
  intro off b hb';rw[List.replicate_succ]at hb'
  have hlc:off<cs.length:=by
   refine A8 fun hle=>?_
   rw[A9 hle]at hb';simp[aeqL]at hb'
  have hld:off<ds.length:=by
   refine A8 fun hle=>?_
   rw[A9 hle,A5 hlc]at hb';simp[aeqL]at hb'
  rw[A5 hlc,A5 hld]at hb';simp only[aeqL]at hb';split at hb'
  ·rename_i x y hx hy;cases hb';have hvc:vs[off]? = some (vs[off]'(by omega)):=A2 _;have huc:us[off]? = some (us[off]'(by omega)):=A2 _;have r1:=hc off _ _ (A2 hlc) hvc;have r2:=hd off _ _ (A2 hld) huc;have p1:(part t vs.toArray (off * 1)).run P w=.ok (vs[off]'(by omega)) w:=Qw hag hu (by rw[Nat.mul_one];simp);have p2:(part t us.toArray (off * 1)).run P w=.ok (us[off]'(by omega)) w:=Qw hag hu (by rw[Nat.mul_one];simp);have p3:=UU (w:=w) (d:=d) hk hx r1 r2;rw[List.range'_succ];unfold Op.eqItems;rw[A0,p1];simp only[A1];rw[A0,p2];simp only[A1];rw[A0,p3];simp only[A1]
   cases x with
   | false=>simp
   | true =>
    simp only[Bool.not_true,A6,if_false,Bool.true_and];exact ih (off+1) y hy
  ·cases hb'
theorem Uk {d:Nat} {cs ds:List AV} {vs us:List Value} (h1:cs.length=vs.length) (h2:ds.length=us.length) (hc:∀ (j:Nat) c v,cs[j]? = some c→vs[j]? = some v→R M c v) (hd:∀ (j:Nat) c v,ds[j]? = some c→us[j]? = some v→R M c v) :
  ∀ (fs:List Field) (off:Nat) (ks:List Nat),Xw P off fs=some ks→∀ b,aeqL ks (cs.drop off) (ds.drop off)=some b→(Op.eqFields (d+1) vs.toArray us.toArray fs).run P w=.ok b w:=by
 intro fs
 induction fs with
 | nil =>
  intro off ks hks b hb';cases hks
  have:b=true:=by
   generalize cs.drop off=x at hb';generalize ds.drop off=y at hb';cases x <;> cases y <;> simp[aeqL]at hb';exact hb'
  subst this;rfl
 | cons f fs ih =>
  intro off ks hks b hb';simp only[Xw]at hks;split at hks
  case h_2=>cases hks
  rename_i hf;simp only[A7,bne_iff_ne,ne_eq]at hf;obtain⟨hn,ho⟩:=hf;have ho':=B5 ho;split at hks
  case h_2=>cases hks
  rename_i k l hk hl;cases hks
  have hlc:off<cs.length:=by
   refine A8 fun hle=>?_
   rw[A9 hle]at hb';simp[aeqL]at hb'
  have hld:off<ds.length:=by
   refine A8 fun hle=>?_
   rw[A9 hle,A5 hlc]at hb';simp[aeqL]at hb'
  rw[A5 hlc,A5 hld]at hb';simp only[aeqL]at hb';split at hb'
  ·rename_i x y hx hy;cases hb';have hvc:vs[off]? = some (vs[off]'(by omega)):=A2 _;have huc:us[off]? = some (us[off]'(by omega)):=A2 _;have r1:=hc off _ _ (A2 hlc) hvc;have r2:=hd off _ _ (A2 hld) huc
   have hu:P.underlying f.type≠none:=by intro e;rw[jQ,e]at hk;cases hk
   have hag:tAgg P f.type=false:=by
    unfold tAgg;unfold jQ at hk
    split at hk <;> rename_i e <;> first | (simp only[e];done) | (cases hk;done)
   have p1:(part f.type vs.toArray f.offset).run P w=.ok (vs[off]'(by omega)) w:=Qw hag hu (by rw[ho'];simp);have p2:(part f.type us.toArray f.offset).run P w=.ok (us[off]'(by omega)) w:=Qw hag hu (by rw[ho'];simp);have p3:(Op.equalIn (d+1) f.type (vs[off]'(by omega)) (us[off]'(by omega))).run P w=.ok x w:=UU hk hx r1 r2;unfold Op.eqFields;rw[if_pos hn,A0,p1];simp only[A1];rw[A0,p2];simp only[A1];rw[A0,p3];simp only[A1]
   cases x with
   | false=>simp
   | true =>
    simp only[Bool.not_true,A6,if_false,Bool.true_and];exact ih (off+1) l hl y hy
  ·cases hb'
theorem Vh (w:World) (d:Nat) (t e:TypeId) (hu:P.underlying t=some (.slice e)) (ba:Option Addr) (n c:Nat):(Op.equalIn (d+1) t (.slice ba n c) (.slice none 0 0)).run P w=.ok ba.isNone w:=by
 cases ba <;> simp[Op.equalIn,run_underlying hu]
theorem ZN (w:World) (t e:TypeId) (hu:P.underlying t=some (.slice e)) (ba:Option Addr) (n c:Nat):(binOp .eql t (.slice ba n c) (.slice none 0 0)).run P w=.ok (.bool ba.isNone) w:=by
 have h1:=Vh (P:=P) w 9999 t e hu ba n c;have h2:binOp .eql t (.slice ba n c) (.slice none 0 0)=(do pure (.bool (← Op.equalIn (9999+1) t (.slice ba n c) (.slice none 0 0)))):=rfl;rw[h2,A0,h1];rfl
theorem Xb (w:World) (d:Nat) (t e:TypeId) (hu:P.underlying t=some (.pointer e)) (ba:Option Addr):(Op.equalIn (d+1) t (.pointer ba) (.pointer none)).run P w=.ok ba.isNone w:=by
 cases ba <;> simp[Op.equalIn,run_underlying hu]
theorem Ns (w:World) (t e:TypeId) (hu:P.underlying t=some (.pointer e)) (ba:Option Addr):(binOp .eql t (.pointer ba) (.pointer none)).run P w=.ok (.bool ba.isNone) w:=by
 have h1:=Xb (P:=P) w 9999 t e hu ba;have h2:binOp .eql t (.pointer ba) (.pointer none)=(do pure (.bool (← Op.equalIn (9999+1) t (.pointer ba) (.pointer none)))):=rfl;rw[h2,A0,h1];rfl
theorem Nq (w:World) (t e:TypeId) (hu:P.underlying t=some (.pointer e)) (ba:Option Addr):(binOp .neq t (.pointer ba) (.pointer none)).run P w=.ok (.bool (!ba.isNone)) w:=by
 have h1:=Xb (P:=P) w 9999 t e hu ba;have h2:binOp .neq t (.pointer ba) (.pointer none)=(do pure (.bool (!(← Op.equalIn (9999+1) t (.pointer ba) (.pointer none))))):=rfl;rw[h2,A0,h1];rfl
theorem R.optr_inv {b x v} (h:R M (.optr b x) v):∃ ad:Option Addr,v=.pointer ad∧ad.isNone=b:=by
 cases h with
 | optn=>exact⟨none,rfl,rfl⟩
 | opts h=>exact⟨_,rfl,rfl⟩
theorem R.ptr_some {x v} (h:R M (.ptr x) v):∃ ad,v=.pointer (some ad):=by
 cases h with
 | ptr us h1 h2=>exact⟨_,rfl⟩
theorem R.agg_inv {cs v} (h:R M (.agg cs) v):∃ vs:List Value,v=.agg vs.toArray∧cs.length=vs.length∧∀ (j:Nat) c u,cs[j]? = some c→vs[j]? = some u→R M c u:=by
 cases h with
 | agg h1 h2=>exact⟨_,rfl,h1,h2⟩
theorem Dn (h:Inv bs n M O env a w) {o:Oper} {op:BinOp} {t t':TypeId} {x y:Operand} (ho:o.op=.binOp op t x y t') {p q r:AV} (hp:aop env x=some p) (hq:aop env y=some q) (hr:abin P op t p q=some r):Simple P O M a w o r:=by
 have hx:=qj h hp;have hy:=qj h hq
 have he:execOp a.eval o=vS (do eqGuard op t x y (a.eval x) (a.eval y);binOp op t (a.eval x) (a.eval y)):=by unfold execOp;rw[ho];rfl
 have key:∀ v,(eqGuard op t x y (a.eval x) (a.eval y)).run P w=.ok () w→(binOp op t (a.eval x) (a.eval y)).run P w=.ok v w→R M r v→r.lab? = none→Simple P O M a w o r:=by
  intro v hg hb hR hl;refine⟨v,?_,ja hR hl⟩;rw[he];refine XB ?_;rw[A0,hg];exact hb
 unfold abin at hr;split at hr
 ·
  rename_i k1 p1 k2 q1;have e1:=hx.1.int_inv;have e2:=hy.1.int_inv;rw[e1,e2]at key;obtain⟨v,h1,h2,h3⟩:=Ha (M:=M) (w:=w) (P:=P) (op:=op) (t:=t) (k:=k1) (k':=k2) (p:=p1) (q:=q1) (r:=r) (by unfold abin;exact hr);exact key v (Vi ..) h1 h2 h3
 ·rename_i p1 q1;have e1:=hx.1.bool_inv;have e2:=hy.1.bool_inv;rw[e1,e2]at key;split at hr <;> cases hr
  ·rename_i hu;refine key (.bool (p1 == q1)) (Xc ..) ?_ (.bool _) rfl;simp only[binOp,Op.equal,Op.maxDepth,A0,run_equalIn_bool' w 9999 t p1 q1 hu];rfl
  ·rename_i hu;refine key (.bool (!(p1 == q1))) (Xc ..) ?_ (.bool _) rfl;simp only[binOp,Op.equal,Op.maxDepth,A0,run_equalIn_bool' w 9999 t p1 q1 hu];rfl
 ·
  have e1:a.eval x=.slice none 0 0:=by
   have:=hx.1;generalize a.eval x=v at this;cases this;rfl
  have e2:a.eval y=.slice none 0 0:=by
   have:=hy.1;generalize a.eval y=v at this;cases this;rfl
  rw[e1,e2]at key;split at hr <;> cases hr;rename_i hu;refine key (.bool true) rfl ?_ (.bool _) rfl;exact ZN w t _ hu _ _ _
 ·
  rename_i e1 k1 lab xs
  have e2:a.eval y=.slice none 0 0:=by
   have:=hy.1;generalize a.eval y=v at this;cases this;rfl
  split at hr <;> cases hr;rename_i hu
  have hR:∃ ba n' c',a.eval x=.slice ba n' c'∧(ba.isNone=true→xs.isEmpty=true):=by
   have:=hx.1;generalize a.eval x=v at this
   cases this with
   | lstn=>exact⟨_,_,_,rfl,fun _=>rfl⟩
   | lste=>exact⟨_,_,_,rfl,fun _=>rfl⟩
   | lst=>exact⟨_,_,_,rfl,fun h=>by simp at h⟩
  obtain⟨ba,n',c',e3,h3⟩:=hR;rw[e3,e2]at key;refine key (.bool ba.isNone) ?_ ?_ (.ub _ _ h3) rfl
  ·cases ba <;> rfl
  ·exact ZN w t _ hu _ _ _
 ·obtain⟨ad,e1,n1⟩:=R.optr_inv hx.1;obtain⟨ad2,e2,n2⟩:=R.optr_inv hy.1
  cases ad2 with
  | some _=>cases n2
  | none =>
  rw[e1,e2]at key;split at hr <;> cases hr
  ·rename_i hu;exact key (.bool ad.isNone) (by cases ad <;> rfl) (Ns w t _ hu ad) (by rw[n1];exact .bool _) rfl
  ·rename_i hu;exact key (.bool (!ad.isNone)) (by cases ad <;> rfl) (Nq w t _ hu ad) (by rw[n1];exact .bool _) rfl
 ·rename_i p1 q1;have e1:=hx.1.str_inv;have e2:=hy.1.str_inv;rw[e1,e2]at key;split at hr
  ·cases hr;refine key (.bool (p1.toList == q1.toList)) (jo ..) ?_ (.bool _) rfl;simp only[binOp,Op.stringOp,beq_toListBytes];rfl
  ·cases hr;refine key (.bool (!(p1.toList == q1.toList))) (jo ..) ?_ (.bool _) rfl;simp only[binOp,Op.stringOp,bne,beq_toListBytes];rfl
  ·cases hr;exact key (.bool (Op.bytesLess p1.toList q1.toList)) (jo ..) rfl (.bool _) rfl
  ·cases hr;exact key (.bool (Op.bytesLess p1.toList q1.toList || p1.toList == q1.toList)) (jo ..) rfl (.bool _) rfl
  ·cases hr;exact key (.bool (!(Op.bytesLess p1.toList q1.toList || p1.toList == q1.toList))) (jo ..) rfl (.bool _) rfl
  ·cases hr;exact key (.bool (!Op.bytesLess p1.toList q1.toList)) (jo ..) rfl (.bool _) rfl
  ·split at hr
   case isTrue=>cases hr
   rename_i hle;cases hr;refine key (.string (p1++q1)) (jo ..) ?_ (.str _) rfl;simp only[binOp,Op.stringOp];rw[if_neg hle];rfl
  ·cases hr
 ·rename_i xs ys;obtain⟨vs,e1,l1,c1⟩:=hx.1.agg_inv;obtain⟨us,e2,l2,c2⟩:=hy.1.agg_inv;rw[e1,e2]at key;split at hr
  case h_2=>cases hr
  rename_i ks hks
  have hgr:P.eqGuardType P.depth t=false∧∀ b,aeqL ks xs ys=some b→(Op.equalIn 10000 t (.agg vs.toArray) (.agg us.toArray)).run P w=.ok b w:=by
   unfold flatEq at hks;split at hks
   ·rename_i ks' hks';cases hks;unfold VS at hks';split at hks'
    case h_2=>cases hks'
    rename_i fs hu;split at hks'
    case h_2=>cases hks'
    rename_i hc;simp only[A7,B6]at hc
    have hfo:P.fieldsOf t=fs:=by unfold Program.fieldsOf;rw[hu]
    refine⟨hc.2,fun b hb=>?_⟩;rw[show (10000:Nat)=9999+1 from rfl,run_equalIn_struct w 9999 t _ _ (by rw[hfo];exact hu) hc.1,hfo];exact Uk (d:=9998) l1 l2 c1 c2 fs.toList 0 ks hks' b (by simpa using hb)
   ·unfold flatArr at hks;split at hks
    case h_2=>cases hks
    rename_i m e hu;split at hks
    case h_2=>cases hks
    rename_i k hg hk hz;cases hks;rw[B6]at hg;refine⟨hg,fun b hb=>?_⟩
    obtain⟨i,hi,hsz⟩:∃ i,P.info? e=some i∧i.size=1:=by
     unfold tSize at hz
     cases hie:P.info? e with
     | none=>rw[hie]at hz;cases hz
     | some i=>rw[hie]at hz;exact⟨i,rfl,Option.some.inj hz⟩
    have hco:P.cellsOf e=1:=by unfold Program.cellsOf;rw[hi];exact hsz
    rw[show (10000:Nat)=9999+1 from rfl,run_equalIn_array w 9999 _ _ hu hi,hco,List.range_eq_range'];exact NF (d:=9998) hk l1 l2 c1 c2 m 0 b (by simpa using hb)
  obtain⟨hgt,hrun⟩:=hgr;have hgd:(eqGuard op t x y (.agg vs.toArray) (.agg us.toArray)).run P w=.ok () w:=run_eqGuard_agg w op t x y _ _ hgt;split at hr
  ·cases hb:aeqL ks xs ys with
   | none=>rw[hb]at hr;cases hr
   | some b =>
    rw[hb]at hr;cases hr;refine key (.bool b) hgd ?_ (.bool _) rfl;rw[run_eql_struct,hrun b hb];rfl
  ·cases hb:aeqL ks xs ys with
   | none=>rw[hb]at hr;cases hr
   | some b =>
    rw[hb]at hr;cases hr;refine key (.bool (!b)) hgd ?_ (.bool _) rfl;rw[run_neq_struct,hrun b hb];rfl
  ·cases hr
 ·cases hr
theorem Yf {t:TypeId} (hu:(P.underlying t).isSome=true):(isAgg t).run P w=.ok (tAgg P t) w:=by
 unfold isAgg
 cases hd:P.underlying t with
 | none=>rw[hd]at hu;cases hu
 | some d =>
  rw[A0,run_underlying hd];simp only[tAgg,hd];cases d <;> rfl
theorem qV {t:TypeId} {s:Nat} (h:tSize P t=some s):(sizeOf t).run P w=.ok s w:=by
 unfold tSize at h
 cases hi:P.info? t with
 | none=>rw[hi]at h;cases h
 | some i =>
  rw[hi]at h;cases h;unfold sizeOf typeInfo;simp[hi]
theorem jg (us:Nat→Value) (n j:Nat):((List.range n).map us)[j]? = if j<n then some (us j) else none:=by
 rw[A3];by_cases h:j<n
 ·simp[h]
 ·simp[h,List.getElem?_eq_none]
theorem Zf {q:Option AV} {r:AV} (h:(match q with | some c=>(match c.one with | true=>some c | false=>none) | none=>none)=some r):q=some r∧r.one=true:=by
 split at h
 ·split at h
  ·rename_i c _ _ h1;cases h;exact⟨rfl,h1⟩
  ·cases h
 ·cases h
theorem Qa {z:AV} (h:z.one=true):z.cells=[z]:=by
 cases z <;> first | rfl | cases h
theorem QC {t:TypeId} {cs:List AV} {off:Nat} {r:AV} (h:cut P t cs off=some r) (j:Nat) (c:AV) (hc:r.cells[j]? = some c):∃ z,cs[off+j]? = some z∧(c=z∨c=z.strip):=by
 unfold cut at h;split at h
 case h_1=>cases h
 rename_i sz hsz;split at h
 case h_1=>cases h
 split at h
 ·cases h;simp only[AV.cells]at hc;rw[A3]at hc
  cases hz:(List.take sz (List.drop off cs))[j]? with
  | none=>rw[hz]at hc;cases hc
  | some z =>
   rw[hz]at hc;cases hc;rw[List.getElem?_take]at hz;split at hz
   ·rw[List.getElem?_drop]at hz;exact⟨z,hz,.inr rfl⟩
   ·cases hz
 ·split at h
  ·obtain⟨h1,h2⟩:=Zf h;rw[Qa h2]at hc
   cases j with
   | zero =>
    simp at hc;subst hc;exact⟨r,h1,.inl rfl⟩
   | succ j=>simp at hc
  ·cases h
theorem UV {t:TypeId} {cs:List AV} {off:Nat} {r:AV} (hcut:cut P t cs off=some r) (us:Nat→Value)
  (hR:∀ (j:Nat) c,cs[j]? = some c→R M c (us j)∧OwnV O M w c (us j)) :
  (tAgg P t=true∧∃ sz,tSize P t=some sz∧off+sz≤cs.length∧ValOk O M w r (.agg ((List.range sz).map fun j=>us (off+j)).toArray)) ∨
  (tAgg P t=false∧off<cs.length∧ValOk O M w r (us off)∧tSize P t=some 1):=by
 unfold cut at hcut;split at hcut
 case h_1=>cases hcut
 rename_i sz hsz;split at hcut
 case h_1=>cases hcut
 rename_i hb;simp only[A7]at hb;have hle:=B0 hb.1;split at hcut
 ·rename_i hag;cases hcut;refine .inl ⟨hag,sz,hsz,hle,?_,trivial⟩
  refine R.agg (by simp;omega) fun j c v hc hv=>?_
  rw[A3]at hc;rw[jg]at hv;split at hv
  ·rename_i hj;cases hv
   cases hcj:(List.take sz (List.drop off cs))[j]? with
   | none=>rw[hcj]at hc;cases hc
   | some z =>
    rw[hcj]at hc;cases hc;rw[List.getElem?_take,if_pos hj,List.getElem?_drop]at hcj;exact (hR _ _ hcj).1.strip
  ·cases hv
 ·rename_i hag;split at hcut
  ·rename_i h1;have:=B5 h1;subst this;have hcut:=(Zf hcut).1;have hlt:=(List.getElem?_eq_some_iff.1 hcut).1;obtain⟨h2,h3⟩:=hR _ _ hcut;refine .inr ⟨hag,hlt,?_,hsz⟩
   cases r with
   | box _=>cases h2
   | pb _ _=>cases h2
   | obj _ _ _=>cases h2
   | sb _ _ _ _ _=>cases h2
   | tpr _ _ _ _ _ _=>cases h2
   | pe _ _ _ _=>cases h2
   | hob _ _ _=>cases h2
   | mb _ _=>cases h2
   | bxg _=>cases h2
   | slf=>cases h2
   | agr _=>cases h2
   | clb _ _=>cases h2
   | _=>exact⟨h2,h3⟩
  ·cases hcut
theorem jA (b o j:Nat):(⟨b,o,none⟩:Addr).add j=⟨b,o+j,none⟩:=by
 unfold Addr.add;split
 ·rename_i h;subst h;rfl
 ·rfl
theorem jn {t:TypeId} {cs:List AV} {off b base:Nat} {r:AV} (hcut:cut P t cs off=some r) (us:Nat→Value)
  (hc:∀ (j:Nat) c,cs[j]? = some c→w.cell? ⟨b,base+j,none⟩=some (us j))
  (hR:∀ (j:Nat) c,cs[j]? = some c→R M c (us j)∧OwnV O M w c (us j)) :
  ∃ v,(loadVar t ⟨b,base+off,none⟩).run P w=.ok v w∧ValOk O M w r v:=by
 have hu:(P.underlying t).isSome=true:=by
  unfold cut at hcut;split at hcut
  ·cases hcut
  ·split at hcut
   ·cases hcut
   ·rename_i hb;simp only[A7]at hb;exact hb.2
 rcases UV (O:=O) (w:=w) hcut us hR with ⟨hag,sz,hsz,hle,hv⟩ | ⟨hag,hlt,hv,_⟩
 ·refine⟨_,?_,hv⟩;unfold loadVar;rw[A0,Yf hu,hag];simp only[A1,if_true];rw[A0,qV hsz];simp only[A1]
  rw[A0,run_loadCells w ⟨b,base+off,none⟩ sz (fun j=>us (off+j)) (fun j hj=>by
   rw[jA,Nat.add_assoc]
   exact hc (off+j) _ (A2 (by omega)))]
  rfl
 ·refine⟨_,?_,hv⟩;unfold loadVar;rw[A0,Yf hu,hag];simp only[A1,A6,if_false];rw[run_load,hc off _ (A2 hlt)]
theorem R.ptr_inv {x v} (h:R M (.ptr x) v):∃ (b off:Nat) (us:Nat→Value),v=.pointer (some ⟨b,off,none⟩)∧(∀ (j:Nat) c,x.cells[j]? = some c→M b (off+j)=some (us j))∧(∀ (j:Nat) c,x.cells[j]? = some c→R M c (us j))∧(∀ (j:Nat) c,x.cells[j]? = some c→isTup (us j)=false):=by
 cases h with
 | ptr us h1 h2 h3=>exact⟨_,_,us,rfl,h1,h2,h3⟩
theorem Xh (h:Inv bs n M O env a w) {s g:Nat} {cs:List AV} (hl:look env s=some (.box cs)) (hO:O true s=some g) :
  ∃ cur el,w.heap[g]? = some (.cells cur el (0,0))∧cur.size=cs.length∧(∀ o,M g o=none)∧(∀ (j:Nat) c,cs[j]? = some c→w.cell? ⟨g,j,none⟩=some (cur.getD j undef)∧c.one=true∧R M c (cur.getD j undef)∧OwnV O M w c (cur.getD j undef)):=by
 obtain⟨g',cur,el,h1,h2,h3,h4,h5,h6⟩:=h.slots s _ hl
 have:g'=g:=by rw[h2]at hO;exact Option.some.inj hO
 subst this;refine⟨cur,el,h3,h4,h5,fun j c hc=>?_⟩
 have hj:j<cur.size:=by rw[h4];exact (List.getElem?_eq_some_iff.1 hc).1
 have e:cur[j]? = some (cur.getD j undef):=by simp[hj]
 exact⟨by unfold B7;rw[h3];exact e,h6 j c _ hc e⟩
theorem Dx {c:AV} {u:Value} (h:c.lab? = none):OwnV O M w c u:=by
 unfold OwnV;split
 ·rename_i e k l xs;cases h
 ·trivial
theorem UO (h:Inv bs n M O env a w) {s g:Nat} {ks cs:List AV} (hl:look env s=some (.hob 3 ks cs)) (hO:O true s=some g) :
  ∃ cur el,w.heap[g]? = some (.cells cur el (0,0))∧cur.size=cs.length∧(∀ o,M g o=none)∧(∀ (j:Nat) c,cs[j]? = some c→w.cell? ⟨g,j,none⟩=some (cur.getD j undef)∧c.one=true∧R M c (cur.getD j undef)∧OwnV O M w c (cur.getD j undef)):=by
 obtain⟨g',h2,h5,cur,el,h3,h4,h6⟩:=h.slots s _ hl
 have:g'=g:=by rw[h2]at hO;exact Option.some.inj hO
 subst this;refine⟨cur,el,h3,h4,h5,fun j c hc=>?_⟩
 have hj:j<cur.size:=by rw[h4];exact (List.getElem?_eq_some_iff.1 hc).1
 have e:cur[j]? = some (cur.getD j undef):=by simp[hj]
 obtain⟨k1,k2,k3⟩:=h6 j c _ hc e;exact⟨by unfold B7;rw[h3];exact e,k1,k3,Dx k2⟩
theorem qI {k:Nat}:∀ {xs:List AV},(∀ x,x∈xs→x.cells.length=k)→(flat xs).length=xs.length * k
 | [],_=>by simp[flat]
 | x::xs,h=>by
  have h1:=h x (B9 ..)
  have h2:=qI (xs:=xs) fun y hy=>h y (C2 _ hy)
  simp only[flat,C0,List.length_append,List.length_cons]at h2 ⊢;rw[h1];have:(List.flatMap AV.cells xs).length=xs.length * k:=h2;rw[this,Nat.add_mul];omega
theorem JM {k:Nat}:∀ {xs:List AV} {i:Nat} {x:AV},(∀ x,x∈xs→x.cells.length=k)→xs[i]? = some x→∀ j,j<k→(flat xs)[i * k+j]? = x.cells[j]?
 | [],i,x,_,hx,_,_=>by simp at hx
 | y::xs,0,x,h,hx,j,hj=>by
  simp at hx;subst hx;have h1:=h y (B9 ..);simp only[flat,C0,Nat.zero_mul,A4];rw[List.getElem?_append_left (by omega)]
 | y::xs,i+1,x,h,hx,j,hj=>by
  have h1:=h y (B9 ..);have h2:=JM (xs:=xs) (i:=i) (x:=x) (fun z hz=>h z (C2 _ hz)) (by simpa using hx) j hj;simp only[flat,C0];rw[List.getElem?_append_right (by rw[h1,Nat.add_mul];omega),h1,show (i+1) * k+j - k=i * k+j by rw[Nat.add_mul];omega];exact h2
theorem NV (h:Inv bs n M O env a w) {o:Oper} {t:TypeId} {x:Operand} (ho:o.op=.load t x) {p r:AV} (hp:aop env x=some p) (hr:aload P env t p=some r):Simple P O M a w o r:=by
 have hx:=qj h hp
 have he:execOp a.eval o=vS (Instr.loadAt t (a.eval x)):=by unfold execOp;rw[ho];rfl
 unfold aload at hr;split at hr
 ·rename_i s off;split at hr
  case h_4=>cases hr
  case h_3 =>
   rename_i ks cs hl;obtain⟨g,h1,h2⟩:=hx;obtain⟨cur,el,h3,h4,h5,h6⟩:=UO h hl h2;obtain⟨v,hv1,hv2⟩:=jn (O:=O) (M:=M) (w:=w) (b:=g) (base:=0) hr (fun j=>cur.getD j undef) (fun j c hc=>by rw[A4];exact (h6 j c hc).1) (fun j c hc=>(h6 j c hc).2.2);refine⟨v,?_,hv2⟩;rw[he,h1];refine XB ?_;rw[A4]at hv1;exact hv1
  case h_2 =>
   rename_i cs hl;obtain⟨g,h1,h2⟩:=hx;obtain⟨g',cur,el,k1,k2,k3,k4,k5,k6⟩:=h.slots s _ hl
   have:g'=g:=by rw[k2]at h2;exact Option.some.inj h2
   subst this
   have cellv:∀ (j:Nat) c,cs[j]? = some c→w.cell? ⟨g',j,none⟩=some (cur.getD j undef)∧CellR O M s c (cur.getD j undef):=by
    intro j c hc
    have hj:j<cur.size:=by rw[k4];exact (List.getElem?_eq_some_iff.1 hc).1
    have e:cur[j]? = some (cur.getD j undef):=by simp[hj]
    exact⟨by unfold B7;rw[k3];exact e,k6 j c _ hc e⟩
   unfold cutG at hr;split at hr
   ·rename_i v0 hcut;cases hr
    have hget:∀ (j:Nat) c,(cs.map AV.san)[j]? = some c→∃ z,cs[j]? = some z∧c=z.san:=by
     intro j c hc;rw[A3]at hc
     cases hz:cs[j]? with
     | none=>rw[hz]at hc;cases hc
     | some z=>rw[hz]at hc;exact⟨z,rfl,(Option.some.inj hc).symm⟩
    obtain⟨v,hv1,hv2⟩:=jn (O:=O) (M:=M) (w:=w) (b:=g') (base:=0) hcut (fun j=>cur.getD j undef)
     (fun j c hc=>by obtain⟨z,hz,_⟩:=hget j c hc;rw[A4];exact (cellv _ z hz).1)
     (fun j c hc=>by
      obtain⟨z,hz,e⟩:=hget j c hc;subst e
      exact (cellv _ z hz).2.san)
    refine⟨v,?_,hv2⟩;rw[he,h1];refine XB ?_;rw[A4]at hv1;exact hv1
   split at hr
   ·cases hr
   rename_i sz hsz
   have raw:∀ c,cs[off]? = some c→(Nat.beq sz 1 && !tAgg P t && (P.underlying t).isSome)=true→(execOp a.eval o).run P w=.ok (.value (cur.getD off undef)) w:=by
    intro c hc hcond;simp only[A7,B6]at hcond;rw[he,h1];refine XB ?_;show (loadVar t ⟨g',off,none⟩).run P w=_;unfold loadVar;rw[A0,Yf hcond.2,hcond.1.2];simp only[A1,A6,if_false];rw[run_load,(cellv off c hc).1]
   split at hr
   ·rename_i id e k o2 m hcond hc;cases hr;exact⟨_,raw _ hc hcond,(cellv off _ hc).2⟩
   ·rename_i id hcond hc;cases hr;obtain⟨_,g2,q1,q2⟩:=(cellv off _ hc).2;exact⟨_,raw _ hc hcond,g2,q1,q2⟩
   ·cases hr
  rename_i cs hl;obtain⟨g,h1,h2⟩:=hx;obtain⟨cur,el,h3,h4,h5,h6⟩:=Xh h hl h2;obtain⟨v,hv1,hv2⟩:=jn (O:=O) (b:=g) (base:=0) hr (fun j=>cur.getD j undef) (fun j c hc=>by rw[A4];exact (h6 j c hc).1) (fun j c hc=>(h6 j c hc).2.2);refine⟨v,?_,hv2⟩;rw[he,h1];refine XB ?_;show (loadVar t ⟨g,off,none⟩).run P w=_;rw[A4]at hv1;exact hv1
 ·rename_i y;obtain⟨b,off,us,h1,h2,h3,h4⟩:=hx.1.ptr_inv
  have hcell:∀ (j:Nat) c,(y.cells.map AV.strip)[j]? = some c→∃ z,y.cells[j]? = some z∧c=z.strip:=by
   intro j c hc;rw[A3]at hc
   cases hz:y.cells[j]? with
   | none=>rw[hz]at hc;cases hc
   | some z=>rw[hz]at hc;exact⟨z,rfl,(Option.some.inj hc).symm⟩
  obtain⟨v,hv1,hv2⟩:=jn (O:=O) (b:=b) (base:=off) (off:=0) hr us
   (fun j c hc=>by obtain⟨z,hz,_⟩:=hcell j c hc;exact Qs (h.cons _ _ _ (h2 j z hz)) (h4 j z hz))
   (fun j c hc=>by
    obtain⟨z,hz,e⟩:=hcell j c hc;subst e
    exact⟨(h3 j z hz).strip,JB z _⟩)
  refine⟨v,?_,hv2⟩;rw[he,h1];refine XB ?_;exact hv1
 ·rename_i id k j o';split at hr
  case h_2=>cases hr
  rename_i e k' xs hl;split at hr
  case h_2=>cases hr
  rename_i hk;have hk:=B5 hk;subst hk;split at hr
  case h_2=>cases hr
  rename_i y hy;obtain⟨g,h1,h2⟩:=hx;obtain⟨h0,h3,h4,h5⟩:=h.slots id _ hl
  rcases h5 with ⟨rfl,_⟩ | ⟨g',cur,k1,k2,k3,k4,k5,k6⟩
  ·simp at hy
  have:g'=g:=by rw[k1]at h2;exact Option.some.inj h2
  subst this
  have hlen:∀ z,z∈xs→z.cells.length=k:=fun z hz=>(h3 z hz).1
  have hyk:=hlen y (C4 hy)
  have hcell:∀ (i:Nat) c,y.cells[i]? = some c→cur[j * k+i]? = some (cur.getD (j * k+i) undef)∧R M c (cur.getD (j * k+i) undef):=by
   intro i c hc
   have hi:i<k:=by rw[← hyk];exact (List.getElem?_eq_some_iff.1 hc).1
   have hf:=JM hlen hy i hi;rw[hc]at hf;have hlt:=(List.getElem?_eq_some_iff.1 hf).1;rw[qI hlen]at hlt
   have e1:cur[j * k+i]? = some (cur.getD (j * k+i) undef):=by
    have:j * k+i<cur.size:=by omega
    simp[this]
   exact⟨e1,k6 _ _ _ hf e1⟩
  have hone:y.cells.all AV.one=true:=(h3 y (C4 hy)).2
  have hstr:∀ (i:Nat) c,(y.cells.map AV.strip)[i]? = some c→∃ z,y.cells[i]? = some z∧c=z.strip:=by
   intro i c hc;rw[A3]at hc
   cases hz:y.cells[i]? with
   | none=>rw[hz]at hc;cases hc
   | some z=>rw[hz]at hc;exact⟨z,rfl,(Option.some.inj hc).symm⟩
  obtain⟨v,hv1,hv2⟩:=jn (O:=O) (M:=M) (w:=w) (b:=g') (base:=j * k) hr (fun i=>cur.getD (j * k+i) undef)
   (fun i c hc=>by obtain⟨z,hz,_⟩:=hstr i c hc;rw[k2.cell];exact (hcell i z hz).1)
   (fun i c hc=>by
    obtain⟨z,hz,e⟩:=hstr i c hc;subst e
    exact⟨(hcell i z hz).2.strip,JB z _⟩)
  refine⟨v,?_,hv2⟩;rw[he,h1];refine XB ?_;exact hv1
 ·cases hr
end
end Go.AM
