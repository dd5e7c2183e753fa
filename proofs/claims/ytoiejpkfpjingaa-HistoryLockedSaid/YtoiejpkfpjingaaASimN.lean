import Derived.Test.YtoiejpkfpjingaaAWp
import Derived.Test.YtoiejpkfpjingaaASimQ
import Derived.LoopN
set_option linter.all false
open Nat renaming le_of_ble_eq_true→A0, eq_of_beq_eq_true→A5, zero_add→B0
open List renaming getElem?_map→A1, map_cons→A8, getElem?_take→B6, getElem?_eq_getElem→B9
open Go.Sem renaming run_bind→A2, run_pure→A3
open Go.Result renaming andThen_ok→A4
open Array renaming replicate→A6, getD_eq_getD_getElem?→A9, mapM_eq_mapM_toList→B5, getElem?_append_left→B7, getElem?_eq_none→C0, getElem?_toList→C2
open Bool renaming and_eq_true→A7
namespace Go.AM
open Go.RowKit
section
variable {bs:Base} {n:Nat} {M:Mem} {O:Gh} {env:Env} {a:Act} {w:World} {P:Program}
theorem qdL (s:Nat) (y z:AV):(z=.pb s 0∧frzRef s y z=.ptr y)∨frzRef s y z=killRef s z:=by
 unfold frzRef;split
 ·rename_i t o;split
  ·rename_i ht;have ht:t=s:=A5 ht;subst ht;split
   ·exact .inl ⟨rfl,rfl⟩
   ·right;unfold killRef;simp[AV.refs]
  ·rename_i ht;right;unfold killRef;simp only[AV.refs,ht]
 ·exact .inr rfl
theorem qew {s t:Nat} {x y0:AV} (h:look (env.map fun p=>(p.1,frzRef s y0 p.2)) t=some x):∃ y,look env t=some y∧x=frzRef s y0 y:=by
 rw[QZ (frzRef s y0)]at h
 cases hy:look env t with
 | none=>rw[hy]at h;cases h
 | some y =>
  rw[hy]at h;exact⟨y,rfl,(Option.some.inj h).symm⟩
theorem Inv.freezeTo (h:Inv bs n M O env a w) {s:Nat} {cs:List AV} (hl:look env s=some (.box cs)) (hslt:s<1000000) {y:AV} (hy:y.cells=cs.map AV.strip) :
  ∃ M' O',Inv bs n M' O' (ins s (.ptr y) (env.map fun p=>(p.1,frzRef s y p.2))) a w:=by
 obtain⟨g,cur,el,h1,h2,h3,h4,h5,h6⟩:=h.slots s _ hl;have h1:a.tmps.getD s undef=.pointer (some ⟨g,0,none⟩):=h1.resolve_right (by omega);obtain⟨hgB,hgs⟩:=h.own true s g h2
 have hsub:Sub M (addRow M g cur):=by
  intro b o u hu;unfold addRow;split
  ·rename_i e;subst e;rw[h5]at hu;cases hu
  ·exact hu
 have hO:∀ i c g',(setO O true s none) i c=some g'→O i c=some g'∧¬ (i=true∧c=s):=by
  intro i c g' hg;rw[jC]at hg;split at hg
  ·cases hg
  ·rename_i hne;exact⟨hg,hne⟩
 refine⟨addRow M g cur,setO O true s none,h.size,h.defers,h.below,h.hB,?_,h.ext.trans hsub,?_,fun i c g' hg=>h.own i c g' (hO i c g' hg).1,fun i i' c c' g' k1 k2=>h.inj i i' c c' g' (hO _ _ _ k1).1 (hO _ _ _ k2).1,⟨h.fix.1,fun c g1 g2=>?_⟩,?_⟩
 ·intro b o u hu;unfold addRow at hu;split at hu
  ·rename_i e;subst e;rw[mcRow h3];exact hu
  ·exact h.cons b o u hu
 ·intro b o hb;unfold addRow;rw[if_neg (fun e=>hgB (by rw[← e];exact hb))];exact h.old b o hb
 ·obtain⟨e1,e2,e3⟩:=h.fix.2 c g1 g2;exact⟨(jj (O:=O) (v:=none) (by omega:c≠s)).1.trans e1,e2,e3⟩
 ·have hptr:R (addRow M g cur) (.ptr y) (.pointer (some ⟨g,0,none⟩)):=by
   refine R.ptr (fun j=>cur.getD j undef) (fun j c hc=>?_) (fun j c hc=>?_) (fun j c hc=>?_)
   all_goals
    rw[hy,A1]at hc
    cases hz:cs[j]? with
    | none=>rw[hz]at hc;cases hc
    | some z =>
     rw[hz]at hc;cases hc
     have hj:j<cur.size:=by rw[h4];exact (List.getElem?_eq_some_iff.1 hz).1
     have e:cur[j]? = some (cur.getD j undef):=by simp[hj]
     first
     | (rw[B0];unfold addRow;rw[if_pos rfl];exact Jj e (QE ((h6 j z _ hz e).2.1.one (h6 j z _ hz e).1)))
     | exact ((h6 j z _ hz e).2.1.mono hsub).strip
     | exact QE ((h6 j z _ hz e).2.1.one (h6 j z _ hz e).1)
  intro t x hx;rw[qR]at hx;split at hx
  ·rename_i e;subst e;cases hx;rw[h1];exact⟨hptr,trivial⟩
  ·rename_i hts;obtain⟨y',hy',rfl⟩:=qew hx
   rcases qdL s y y' with ⟨rfl,he⟩ | he
   ·rw[he];obtain⟨g',e1,e2⟩:=h.slots t _ hy';rw[h2]at e2;cases e2;rw[e1];exact⟨hptr,trivial⟩
   rw[he];have hnr:=XO s y'
   ·have hkeep:∀ i c g',O i c=some g'→¬ (i=true∧c=s)→∀ o,M g' o=none→addRow M g cur g' o=none:=by
     intro i c g' hg hne o hm;unfold addRow;rw[if_neg (fun e=>by subst e;exact hne (h.inj _ _ _ _ g' hg h2))];exact hm
    refine ((h.slots t _ hy').kill s).change2 hsub (fun _=>jj hts) (fun c hcc=>jj fun e=>?_) (fun g' _ hg=>⟨rfl,hkeep true t g' hg fun e=>hts e.2⟩) fun c g' hg=>⟨by simp[jC,hg],rfl,hkeep false c g' hg fun e=>by cases e.1⟩
    rw[e,hnr]at hcc;cases hcc
theorem Inv.freeze1 (h:Inv bs n M O env a w) (s:Nat):∃ M' O',Inv bs n M' O' (freeze1 env s) a w:=by
 unfold AM.freeze1;split
 ·rename_i cs hl;split
  ·exact⟨M,O,h⟩
  rename_i hlt;have hlt:s<1000000:=A0 hlt;split
  ·rename_i x;refine h.freezeTo hl hlt ?_;obtain⟨g,cur,el,h1,h2,h3,h4,h5,h6⟩:=h.slots s _ hl
   have hj:0<cur.size:=by rw[h4];exact Nat.zero_lt_one
   have:=(h6 0 x cur[0] rfl (by simp[hj])).1;rw[Xs (Qa this)];rfl
  ·exact h.freezeTo hl hlt rfl
 ·rename_i e k xs hl;split
  ·rename_i hus;exact h.freezeObj hl hus
  ·exact⟨M,O,h⟩
 ·rename_i ks vs hl;split
  ·rename_i hus;exact h.freezeMap hl hus
  ·exact⟨M,O,h⟩
 ·exact⟨M,O,h⟩
theorem Inv.nilTo (h:Inv bs n M O env a w) (q:Nat×Nat×Nat×Nat×Nat):Inv bs n M O (nilTo env q) a w:=by
 obtain⟨s,off,e,k,c⟩:=q;unfold AM.nilTo;simp only;split
 ·rename_i hl;refine⟨h.size,h.defers,h.below,h.hB,h.cons,h.ext,h.old,h.own,h.inj,h.fix,fun t x hx=>?_⟩;rw[qR]at hx;split at hx
  ·rename_i e1;subst e1;cases hx;have hs:=(h.slots t _ hl).1;generalize a.tmps.getD t undef=y at hs;cases hs;exact⟨R.lstn e k (some c),.inl ⟨none,rfl⟩⟩
  ·exact h.slots t x hx
 ·rename_i cs hl;split
  ·rename_i hc;refine⟨h.size,h.defers,h.below,h.hB,h.cons,h.ext,h.old,h.own,h.inj,h.fix,fun t x hx=>?_⟩;rw[qR]at hx;split at hx
   ·rename_i e1;subst e1;cases hx;obtain⟨g,cur,el,h1,h2,h3,h4,h5,h6⟩:=h.slots t _ hl;refine⟨g,cur,el,h1,h2,h3,by simpa using h4,h5,fun j x u hx hu=>?_⟩;rw[List.getElem?_set]at hx;split at hx
    ·rename_i hj;subst hj;split at hx
     ·cases hx;have:=(h6 off .nils u hc hu).2.1;cases this;exact⟨rfl,R.lstn e k (some c),.inl ⟨none,rfl⟩⟩
     ·cases hx
    ·exact h6 j x u hx hu
   ·exact h.slots t x hx
  ·exact h
 ·exact h
theorem Inv.mvObj (h:Inv bs n M O env a w) (q:Mv):∃ M' O',Inv bs n M' O' (mvObj env q) a w:=by
 cases q with
 | nil t e k id=>obtain⟨O',h'⟩:=h.nilObj (t,e,k,id);exact⟨M,O',h'⟩
 | ren id id'=>obtain⟨O',h'⟩:=h.renObj (id,id');exact⟨M,O',h'⟩
 | trim t id=>obtain⟨O',h'⟩:=h.trimObj (t,id);exact⟨M,O',h'⟩
 | frz id=>exact h.freeze1 id
 | slf s off=>exact⟨M,O,h.slfCell s off⟩
 | arr s=>obtain⟨O',h'⟩:=h.arrBox s;exact⟨M,O',h'⟩
theorem Inv.mvAll:∀ (l:List Mv) {M:Mem} {O:Gh} {env:Env},Inv bs n M O env a w→∃ M' O',Inv bs n M' O' (mvAll env l) a w
 | [],M,O,_,h=>⟨M,O,h⟩
 | q::l,_,_,_,h=>by
  obtain⟨M1,O1,h1⟩:=h.mvObj q;exact Inv.mvAll l h1
theorem Inv.freezeAll (h:Inv bs n M O env a w):∀ (l:List Nat),∃ M' O',Inv bs n M' O' (XW env l) a w:=by
 intro l
 induction l generalizing M O env with
 | nil=>exact⟨M,O,h⟩
 | cons s l ih =>
  obtain⟨M1,O1,h1⟩:=h.freeze1 s;exact ih h1
theorem Inv.nilAll:∀ (l:List (Nat×Nat×Nat×Nat×Nat)) {env:Env},Inv bs n M O env a w→Inv bs n M O (nilAll env l) a w
 | [],_,h=>h
 | q::l,_,h=>Inv.nilAll l (h.nilTo q)
theorem Inv.relab1 (h:Inv bs n M O env a w) (q:Nat×Option Nat):∃ O',Inv bs n M O' (relab1 env q) a w:=by
 obtain⟨l,m⟩:=q;unfold AM.relab1
 cases m with
 | none=>exact⟨_,h.relab l none fun c e=>by cases e⟩
 | some c =>
  simp only;split
  ·exact⟨O,h⟩
  ·rename_i hb;simp only[Bool.or_eq_false_iff]at hb;refine⟨_,h.relab l (some c) fun c' e=>?_⟩;cases e;exact⟨fun e=>by subst e;simp[Nat.beq_refl]at hb,hb.2⟩
theorem Inv.relabAll:∀ (l:List (Nat×Option Nat)) {O:Gh} {env:Env},Inv bs n M O env a w→∃ O',Inv bs n M O' (Yd env l) a w
 | [],O,_,h=>⟨O,h⟩
 | q::l,_,_,h=>by
  obtain⟨O1,h1⟩:=h.relab1 q;exact Inv.relabAll l h1
def toExit:Ex→Exit
 | .normal=>.normal
 | .exit id=>.exit id
 | .ret=>.ret
def CodeOk (P:Program) (n:Nat) (c:Code) (e:Env) (ex:Ex) (e':Env):Prop :=
 ∀ (bs:Base) (M:Mem) (O:Gh) (a:Act) (w:World),Inv bs n M O e a w→∀ (Q:Exit→Act→World→Prop),(∀ a' w' M' O',Inv bs n M' O' e' a' w'→Q (toExit ex) a' w')→c.wp P Q a w
def LoopOk (P:Program) (n:Nat) (c:Code) (e:Env) (ex:Ex) (e':Env):Prop :=
 ∃ N,∀ (bs:Base) (M:Mem) (O:Gh) (a:Act) (w:World),Inv bs n M O e a w→∀ (Q:Exit→Act→World→Prop),(∀ a' w' M' O',Inv bs n M' O' e' a' w'→Q (toExit ex) a' w')→Code.rounds P c Q N a w
def JOk (P:Program):J→Prop
 | .code n c e ex e'=>CodeOk P n c e ex e'∧∀ c',c=.loop c'→LoopOk P n c' e ex e'
 | .ops n draw all rest e e'=>Chain P n draw all rest e e'
 | .call f args r=>CallOk P f args r
 | .callM f args hp r hp'=>CallMOk P f args hp r hp'∧∀ id x,look hp' id=some x→x.ent=true
 | .opsB n all rest e e'=>ChainB P n all rest e e'
 | .any n all R e e'=>AnyOk P n all R e e'
theorem qeX {M:Mem} {x:AV} {u v:Value} (h:x.val=some v) (hR:R M x u):u=v:=by
 unfold AV.val at h;split at h <;> cases h <;> cases hR <;> rfl
theorem qfv {M:Mem} {x:AV} {v:Value} (h:x.val=some v):R M x v:=by
 unfold AV.val at h;split at h <;> cases h
 ·exact .int _ _
 ·exact .bool _
 ·exact .str _
theorem qeW {M:Mem} {B:Nat} {w:World} {x:AV} {v:Value} (h:x.val=some v):OwnR M B w x v:=by
 unfold AV.val at h;split at h <;> cases h <;> trivial
theorem qaO {M:Mem}:∀ {args:List AV} {vs:List Value},optAll (args.map AV.val)=some vs→∀ us:List Value,args.length=us.length→(∀ (j:Nat) c v,args[j]? = some c→us[j]? = some v→R M c v)→us=vs
 | [],vs,h,us,hl,_=>by
  cases h;exact List.eq_nil_of_length_eq_zero hl.symm
 | x::xs,vs,h,us,hl,hR=>by
  cases us with
  | nil=>cases hl
  | cons u us =>
   have hs:=js h
   cases vs with
   | nil=>cases hs
   | cons v vs =>
    simp only[A8,List.cons.injEq]at hs;have h1:=qeX hs.1 (hR 0 x u rfl rfl)
    have h2:optAll (xs.map AV.val)=some vs:=by
     rw[hs.2];clear h hs hl hR
     induction vs with
     | nil=>rfl
     | cons y ys ih=>simp only[A8,optAll,ih]
    rw[h1,qaO h2 us (by simpa using hl) fun j c w hc hw=>hR (j+1) c w (by simpa using hc) (by simpa using hw)]
theorem Hl {M:Mem} {w w':World} (h:Cons M w) (hB:Below w.heap.size w w'):Cons M w':=by
 intro b o u hu;have h1:=h b o u hu;rw[Qm (hB.block _ (Zh h1))];exact h1
theorem LoopOk.code {c:Code} {e e':Env} {ex:Ex} (h:LoopOk P n c e ex e'):CodeOk P n (.loop c) e ex e':=by
 obtain⟨N,hN⟩:=h;intro bs M O a w hi Q hQ;exact wp_loop_rounds N (hN bs M O a w hi Q hQ)
theorem noloop {P:Program} {n:Nat} {c:Code} {e e':Env} {ex:Ex} (h:∀ c',c≠.loop c'):∀ c',c=.loop c'→LoopOk P n c' e ex e':=fun c' hc=>absurd hc (h c')
def resRun (tmps:Array Value) (r:ResultVar):Sem Value :=
 match r with
 | .tmp t=>pure (tmps.getD t undef)
 | .cell ad t=>do loadVar t (← asAddr (tmps.getD ad undef))
theorem UU {t:TypeId} {cs:List AV} {off:Nat} {z:AV} (hc:cut P t cs off=some z):∀ s,z.refs s=false:=by
 intro s;unfold cut at hc;split at hc
 ·cases hc
 ·split at hc
  ·cases hc
  ·split at hc
   ·cases hc;rfl
   ·split at hc
    ·have:=(VW hc).2
     cases z <;> first | rfl | cases this
    ·cases hc
theorem UV {t:TypeId} {cs:List AV} {off:Nat} {z:AV} (hc:cut P t cs off=some z) (f:Nat) (caps:List AV):z≠.clb f caps:=by
 rintro rfl
 unfold cut at hc;split at hc
 ·cases hc
 ·split at hc
  ·cases hc
  ·split at hc
   ·cases hc
   ·split at hc
    ·have:=(VW hc).2;cases this
    ·cases hc
theorem UW {t:TypeId} {cs:List AV} {off:Nat} {z:AV} (hc:cut P t cs off=some z) (l:List AV):z≠.agr l:=by
 rintro rfl
 unfold cut at hc;split at hc
 ·cases hc
 ·split at hc
  ·cases hc
  ·split at hc
   ·cases hc
   ·split at hc
    ·have:=(VW hc).2;cases this
    ·cases hc
theorem HU (h:Inv bs n M O env a w) {r:ResultVar} {x:AV} (hx:aresult P env r=some x):∃ v,(resRun a.tmps r).run P w=.ok v w∧R M x v∧OwnV O M w x v:=by
 cases r with
 | tmp t =>
  simp only[aresult]at hx
  split at hx <;> try (cases hx;done)
  rename_i v hnb hnp hns hne hno hnt hho hmb hbx hsl har hcl hl;cases hx;have hs:=h.slots t _ hl;refine⟨_,rfl,?_⟩
  cases x with
  | tpr s e k off m rest=>exact absurd rfl (hnt s e k off m rest)
  | box cs=>exact absurd rfl (hnb cs)
  | pb s o=>exact absurd rfl (hnp s o)
  | sb s e k off m=>exact absurd rfl (hns s e k off m)
  | pe s k j o=>exact absurd rfl (hne s k j o)
  | obj e k xs=>exact absurd rfl (hno e k xs)
  | hob kd ks vs=>exact absurd rfl (hho kd ks vs)
  | mb kd s=>exact absurd rfl (hmb kd s)
  | bxg cs=>exact absurd rfl (hbx cs)
  | slf=>exact absurd rfl hsl
  | agr cs=>exact absurd rfl (har cs)
  | clb f caps=>exact absurd rfl (hcl f caps)
  | _=>exact hs
 | cell ad t =>
  simp only[aresult]at hx;split at hx
  ·rename_i cs hl hlt;have hlt:ad<1000000:=A0 hlt;obtain⟨g,cur,el,h1,h2,_⟩:=h.slots ad _ hl;have h1:a.tmps.getD ad undef=.pointer (some ⟨g,0,none⟩):=h1.resolve_right (fun hge=>absurd hlt (Nat.not_lt_of_le hge));obtain⟨cur',el',h3,h4,h5,h6⟩:=YH h hl h2
   cases hc:cut P t cs 0 with
   | none=>rw[hc]at hx;cases hx
   | some z =>
    rw[hc]at hx;cases hx;obtain⟨v,hv1,hv2⟩:=Jq (O:=O) (b:=g) (base:=0) hc (fun j=>cur'.getD j undef) (fun j c hc=>by rw[B0];exact (h6 j c hc).1) (fun j c hc=>(h6 j c hc).2.2);refine⟨v,?_,(hv2.r (UU hc) (fun f caps e=>by subst e;exact (UV hc f caps rfl).elim) fun cs e=>by subst e;exact (UW hc cs rfl).elim).strip,QS z v⟩;unfold resRun;simp only[h1,asAddr,A2,A3,A4];exact hv1
  ·
   rename_i s hl hlt;split at hx
   case h_2=>cases hx
   rename_i ks cs hl2;obtain⟨g,h1,h2⟩:=h.slots ad _ hl;obtain⟨cur',el',h3,h4,h5,h6⟩:=DC h hl2 h2
   cases hc:cut P t cs 0 with
   | none=>rw[hc]at hx;cases hx
   | some z =>
    rw[hc]at hx;cases hx;obtain⟨v,hv1,hv2⟩:=Jq (O:=O) (b:=g) (base:=0) hc (fun j=>cur'.getD j undef) (fun j c hc=>by rw[B0];exact (h6 j c hc).1) (fun j c hc=>(h6 j c hc).2.2);refine⟨v,?_,(hv2.r (UU hc) (fun f caps e=>by subst e;exact (UV hc f caps rfl).elim) fun cs e=>by subst e;exact (UW hc cs rfl).elim).strip,QS z v⟩;unfold resRun;simp only[h1,asAddr,A2,A3,A4];exact hv1
  ·cases hx
theorem Xj (h:Inv bs n M O env a w):∀ {rs:List ResultVar} {l:List AV},optAll (rs.map (aresult P env))=some l →
  ∃ vs:List Value,(rs.mapM (resRun a.tmps)).run P w=.ok vs w∧l.length=vs.length∧∀ (j:Nat) c v,l[j]? = some c→vs[j]? = some v→R M c v∧OwnV O M w c v
 | [],l,hl=>by
  cases hl;exact⟨[],rfl,rfl,by simp⟩
 | r::rs,l,hl=>by
  simp only[A8]at hl
  cases hr:aresult P env r with
  | none=>rw[hr]at hl;cases hl
  | some x =>
   rw[hr]at hl;simp only[optAll]at hl;split at hl
   ·rename_i l' hl';cases hl;obtain⟨v,h1,h2⟩:=HU h hr;obtain⟨vs,h3,h4,h5⟩:=Xj h hl';refine⟨v::vs,?_,by simp[h4],fun j c u hc hu=>?_⟩
    ·simp only[List.mapM_cons,A2,h1,h3,A4,A3]
    ·cases j with
     | zero=>simp at hc hu;subst hc;subst hu;exact h2
     | succ j=>exact h5 j c u (by simpa using hc) (by simpa using hu)
   ·cases hl
theorem Vj (fn:Func) (tmps:Array Value):results fn tmps=(do let vs ← fn.results.mapM (resRun tmps);pure (if h:vs.size=1 then vs[0] else .tuple vs)):=by
 unfold results
 have:resRun tmps=(fun x=>match x with | ResultVar.tmp t=>(pure (tmps.getD t undef):Sem Value) | .cell ad t=>do loadVar t (← asAddr (tmps.getD ad undef))):=by
  funext r
  cases r <;> rfl
 rw[this];rfl
theorem Ys (h:Inv bs n M O env a w) {fn:Func} {r:AV} (hr:JV P fn env=some r):∃ v,(results fn a.tmps).run P w=.ok v w∧R M r v∧OwnV O M w r v:=by
 unfold JV at hr
 have hmap:∀ (l:List AV),optAll (fn.results.toList.map (aresult P env))=some l→∃ vs:List Value,(results fn a.tmps).run P w=.ok (if h:vs.toArray.size=1 then vs.toArray[0] else .tuple vs.toArray) w∧l.length=vs.length∧∀ (j:Nat) c v,l[j]? = some c→vs[j]? = some v→R M c v∧OwnV O M w c v:=by
  intro l hl;obtain⟨vs,h1,h2,h3⟩:=Xj h hl;refine⟨vs,?_,h2,h3⟩;rw[Vj,B5];simp only[A2,Sem.run_map,h1,A4,A3]
 split at hr
 ·rename_i rv hrs;obtain⟨vs,h1,h2,h3⟩:=hmap [r] (by rw[hrs];simp only[A8,List.map_nil,hr,optAll])
  cases vs with
  | nil=>simp at h2
  | cons v vs =>
   cases vs with
   | cons _ _=>simp at h2
   | nil=>exact⟨v,by simpa using h1,h3 0 r v rfl rfl⟩
 ·rename_i rs hne;split at hr
  ·rename_i l hl;cases hr;obtain⟨vs,h1,h2,h3⟩:=hmap l hl
   have hlen:vs.length=fn.results.toList.length:=by
    have:=js hl;have:=congrArg List.length this;simp at this;simp;omega
   have hn1:¬ vs.toArray.size=1:=by
    intro e
    have e':fn.results.toList.length=1:=by rw[← hlen];simpa using e
    match hrs:fn.results.toList,e' with
    | [rv],_=>exact hne rv hrs
   rw[dif_neg hn1]at h1;refine⟨_,h1,R.tup (by simpa using h2) fun j c v hc hv=>?_,trivial⟩;rw[A1]at hc
   cases hz:l[j]? with
   | none=>rw[hz]at hc;cases hc
   | some z =>
    rw[hz]at hc;cases hc;exact (h3 j z v hz hv).1.strip
  ·cases hr
theorem ZO:∀ (l:List AV) (i t:Nat) (x:AV),look (argsEnv i l) t=some x→i≤t∧l[t - i]? = some x
 | [],i,t,x,h=>by simp[argsEnv,look]at h
 | y::l,i,t,x,h=>by
  simp only[argsEnv,look]at h;split at h
  ·rename_i hb;have:=A5 hb;subst this;cases h;exact⟨Nat.le_refl _,by simp⟩
  ·rename_i hb;obtain⟨h1,h2⟩:=ZO l (i+1) t x h;refine⟨by omega,?_⟩;rw[show t - i=(t - (i+1))+1 by omega]
   simpa using h2
theorem UO {t:Nat} {x:AV}:∀ {l1 l2:Env},look (l1++l2) t=some x→look l1 t=some x∨look l2 t=some x
 | [],l2,h=>.inr h
 | (s,y)::r,l2,h=>by
  simp only[List.cons_append,look]at h ⊢;split at h
  ·exact .inl h
  ·exact UO h
theorem ZN {t:Nat} {x:AV}:∀ {env:Env},look (ents env) t=some x→look env t=some x∧x.ent=true∧1000000≤t
 | [],h=>by simp[ents,look]at h
 | (s,y)::r,h=>by
  simp only[ents]at h;split at h
  ·rename_i hc;simp only[A7]at hc;simp only[look]at h ⊢;split at h
   ·rename_i hb;have:=A5 hb;subst this;cases h;exact⟨rfl,hc.1,A0 hc.2⟩
   ·exact ZN h
  ·obtain⟨h1,h2⟩:=JH h;obtain⟨k1,k2,k3⟩:=ZN h2;refine⟨?_,k2,k3⟩;simp only[look];split
   ·rename_i hb;exact absurd (A5 hb).symm h1
   ·exact k1
theorem NJ (h:Inv bs n M O env a w) {fn:Func} {r:AV} (hr:ZV P fn env=some r):∃ v,(results fn a.tmps).run P w=.ok v w∧ValOk O M w r v:=by
 have plain:∀ r,JV P fn env=some r→∃ v,(results fn a.tmps).run P w=.ok v w∧ValOk O M w r v:=by
  intro r hr;obtain⟨v,h1,h2,h3⟩:=Ys h hr;refine⟨v,h1,?_⟩
  cases r with
  | box cs=>cases h2
  | obj e k xs=>cases h2
  | pb s o=>cases h2
  | sb s e k off m=>cases h2
  | pe s k j o=>cases h2
  | tpr s e k off m rest=>cases h2
  | hob kd ks vs=>cases h2
  | mb kd s=>cases h2
  | bxg cs=>cases h2
  | slf=>cases h2
  | agr cs=>cases h2
  | clb f caps=>cases h2
  | _=>exact⟨h2,h3⟩
 unfold ZV at hr;split at hr
 ·rename_i t hrs;split at hr
  ·rename_i id e k off m hl;cases hr;refine⟨_,?_,h.slots t _ hl⟩;rw[Vj,B5,hrs];simp[resRun]
  ·exact plain r hr
 ·rename_i t r1 rs hrs;split at hr
  ·rename_i id e k off m l hl hl2;cases hr;obtain⟨vs,q1,q2,q3⟩:=Xj h hl2;refine⟨.tuple (a.tmps.getD t undef::vs).toArray,?_,a.tmps.getD t undef,vs,rfl,h.slots t _ hl,by simpa using q2,fun j c u hc hu=>?_⟩
   ·rw[Vj,B5,hrs]
    have hl1:(r1::rs).length=vs.length:=by
     have:=congrArg List.length (js hl2);simp at this;simp;omega
    have hm:(List.mapM (resRun a.tmps) (.tmp t::r1::rs)).run P w=.ok (a.tmps.getD t undef::vs) w:=by
     rw[List.mapM_cons,A2];simp only[resRun,A3,A4,A2];rw[q1];simp only[A4,A3]
    simp only[A2,Sem.run_map,hm,A4,A3]
    have hne:¬ (a.tmps.getD t undef::vs).toArray.size=1:=by
     simp only[List.size_toArray,List.length_cons]at hl1 ⊢;omega
    rw[dif_neg hne]
   ·rw[A1]at hc
    cases hz:l[j]? with
    | none=>rw[hz]at hc;cases hc
    | some z =>
     rw[hz]at hc;cases hc;exact (q3 j z u hz hu).1.strip
  ·exact plain r hr
 ·exact plain r hr
theorem ZJ (hmix:P.follows .mixedOrders=true) {j:J} (h:Run P j):JOk P j:=by
 induction h with
 | skip =>
  refine⟨fun bs M O a w hi Q hQ=>wp_skip (hQ _ _ _ _ hi),noloop fun c' e=>by cases e⟩
 | ret=>exact⟨fun bs M O a w hi Q hQ=>wp_ret (hQ _ _ _ _ hi),noloop fun c' e=>by cases e⟩
 | exit=>exact⟨fun bs M O a w hi Q hQ=>wp_exit (hQ _ _ _ _ hi),noloop fun c' e=>by cases e⟩
 | seqN _ _ ih1 ih2 =>
  refine⟨fun bs M O a w hi Q hQ=>wp_seq (ih1.1 bs M O a w hi _ fun a' w' M' O' h'=>ih2.1 bs M' O' a' w' h' Q hQ),noloop fun c' e=>by cases e⟩
 | seqX _ ih =>
  exact⟨fun bs M O a w hi Q hQ=>wp_seq (ih.1 bs M O a w hi _ fun a' w' M' O' h'=>hQ a' w' M' O' h'),noloop fun c' e=>by cases e⟩
 | seqR _ ih =>
  exact⟨fun bs M O a w hi Q hQ=>wp_seq (ih.1 bs M O a w hi _ fun a' w' M' O' h'=>hQ a' w' M' O' h'),noloop fun c' e=>by cases e⟩
 | @cond n c x y env ex e1 b hc _ ih =>
  refine⟨fun bs M O a w hi Q hQ=>?_,noloop fun c' e=>by cases e⟩;have hv:=(qn hi hc).1.bool_inv;refine wp_cond hv ?_;have:=ih.1 bs M O a w hi Q hQ;cases b <;> exact this
 | @seqU n v c x y z env e0 ei e2 p _ hc _ _ _ ih0 ih1 ih2 ih3 =>
  refine⟨fun bs M O a w hi Q hQ=>?_,noloop fun c' e=>by cases e⟩;refine wp_seq (wp_seq (ih0.1 bs M O a w hi _ fun a0 w0 M1 O1 h0=>?_));have hv:=(qn h0 hc).1
  obtain⟨b,hb1,hb2⟩:∃ b,a0.eval c=.bool b∧(b=true→p=true):=by
   generalize a0.eval c=v at hv
   cases hv with
   | ub p b h=>exact⟨b,rfl,h⟩
  refine wp_cond hb1 ?_
  cases b with
  | true=>exact (ih1 (hb2 rfl)).1 bs M1 O1 a0 w0 h0 _ fun a' w' M' O' h'=>hQ a' w' M' O' h'
  | false=>exact ih2.1 bs M1 O1 a0 w0 h0 _ fun a' w' M' O' h'=>ih3.1 bs M' O' a' w' h' Q hQ
 | @mv n c env ex e1 q _ ih =>
  refine⟨fun bs M O a w hi Q hQ=>?_,fun c' e=>?_⟩
  ·obtain⟨M',O',h'⟩:=hi.mvAll q;exact ih.1 bs M' O' a w h' Q hQ
  ·obtain⟨N,hN⟩:=ih.2 c' e;refine⟨N,fun bs M O a w hi Q hQ=>?_⟩;obtain⟨M',O',h'⟩:=hi.mvAll q;exact hN bs M' O' a w h' Q hQ
 | @block n id c env ex e1 _ ih =>
  refine⟨fun bs M O a w hi Q hQ=>wp_block (ih.1 bs M O a w hi _ fun a' w' M' O' h'=>?_),noloop fun c' e=>by cases e⟩;have:=hQ a' w' M' O' h'
  cases ex with
  | normal=>exact this
  | ret=>exact this
  | exit i =>
   simp only[toExit,Exit.inBlock];simp only[Ex.unblock]at this;split at this
   ·rename_i hb;rw[if_pos (A5 hb)];exact this
   ·rename_i hb;rw[if_neg (fun e=>by subst e;simp at hb)];exact this
 | @loopN n c env e1 ex e2 _ _ ih1 ih2 =>
  have hl:LoopOk P n c env ex e2:=by
   obtain⟨N,hN⟩:=ih2.2 c rfl;refine⟨N+1,fun bs M O a w hi Q hQ=>?_⟩;rw[rounds_succ]
   exact ih1.1 bs M O a w hi _ fun a' w' M' O' h'=>hN bs M' O' a' w' h' Q hQ
  exact⟨hl.code,fun c' e=>by cases e;exact hl⟩
 | @loopX n c env id e1 _ ih =>
  have hl:LoopOk P n c env (.exit id) e1:=⟨1,fun bs M O a w hi Q hQ=>by
   rw[rounds_succ]
   exact ih.1 bs M O a w hi _ fun a' w' M' O' h'=>hQ a' w' M' O' h'⟩
  exact⟨hl.code,fun c' e=>by cases e;exact hl⟩
 | @loopR n c env e1 _ ih =>
  have hl:LoopOk P n c env .ret e1:=⟨1,fun bs M O a w hi Q hQ=>by
   rw[rounds_succ]
   exact ih.1 bs M O a w hi _ fun a' w' M' O' h'=>hQ a' w' M' O' h'⟩
  exact⟨hl.code,fun c' e=>by cases e;exact hl⟩
 | @region n id ops draw env e1 hd _ ih =>
  refine⟨fun bs M O a w hi Q hQ=>?_,noloop fun c' e=>by cases e⟩
  cases draw with
  | false=>exact qcm ih hi hQ
  | true =>
   obtain⟨h1,h2⟩:=hd rfl;exact qbg hmix h1 h2 ih hi hQ
 | @regionB n id ops env e1 hd _ ih =>
  refine⟨fun bs M O a w hi Q hQ=>?_,noloop fun c' e=>by cases e⟩;simp only[A7]at hd;exact qan hmix hd.1.1 hd.1.2 hd.2 ih hi hQ
 | nilB=>exact .nil
 | opB hw he _ ih=>exact .step (qdW hw he) ih
 | @weak n c env ex e1 keep frz nl rl _ ih =>
  have hinv:∀ {bs:Base} {M:Mem} {O:Gh} {a:Act} {w:World},Inv bs n M O env a w→∃ M' O',Inv bs n M' O' (weakE keep frz nl rl env) a w:=by
   intro bs M O a w hi;obtain⟨M',O',h'⟩:=hi.freezeAll frz;obtain⟨O2,h2⟩:=Inv.relabAll rl ((Inv.nilAll nl h').drop keep);exact⟨M',O2,h2⟩
  refine⟨fun bs M O a w hi Q hQ=>?_,fun c' e=>?_⟩
  ·obtain⟨M',O',h'⟩:=hinv hi;exact ih.1 bs M' O' a w h' Q hQ
  ·obtain⟨N,hN⟩:=ih.2 c' e;refine⟨N,fun bs M O a w hi Q hQ=>?_⟩;obtain⟨M',O',h'⟩:=hinv hi;exact hN bs M' O' a w h' Q hQ
 | nil=>exact .nil
 | drop keep _ ih=>exact .drop _ rfl (fun bs M O a w hi=>⟨M,O,hi.drop keep⟩) ih
 | mvOp q _ ih=>exact .drop _ rfl (fun bs M O a w hi=>hi.mvAll q) ih
 | @not n draw all o rest env e1 e2 hw he _ ih =>
  refine .step ⟨qed hw he,fun _=>?_⟩ ih
  cases h1:isEff o.op with
  | false=>exact .inr (.inr ⟨.inl rfl,Dm hw he⟩)
  | true =>
   cases h2:isStore o.op with
   | false=>exact .inl (qeB hw he h1 h2)
   | true=>exact .inr (.inr ⟨.inr rfl,Dm hw he⟩)
 | @op n draw all o rest env e1 e2 hw he _ ih =>
  refine .step ?_ ih
  cases draw with
  | false=>exact⟨VC hw he,fun e=>by cases e⟩
  | true =>
   simp only[astepDA]at he;split at he
   case h_2=>cases he
   rename_i hlf;simp only[astepD]at he;split at he
   ·rename_i heff;refine⟨VC hw he,fun _=>?_⟩
    cases h2:isStore o.op with
    | false=>exact .inl (qfh hw hlf he heff h2)
    | true=>exact .inr (.inl (qdh hw h2 he))
   ·rename_i heff;split at he
    ·rename_i x hx;split at he
     ·rename_i hnb;exact⟨qde hw hx he,fun _=>.inr (.inr ⟨.inl heff,qem hw hx he (by simpa[notBox] using hnb)⟩)⟩
     ·cases he
    ·cases he
 | @rowOp n all o rest env e1 e2 hw he _ ih=>exact .step ⟨qec hw he,fun e=>by cases e⟩ ih
 | @agrOp n all o rest env e1 e2 hw he _ ih=>exact .step ⟨qee hw he,fun e=>by cases e⟩ ih
 | @callOp n draw all o rest env f args r e1 e2 hw hc _ he _ ihc ih =>
  refine .step ⟨qdf hw hc ihc he,fun hd=>?_⟩ ih
  cases hef:isEff o.op with
  | true =>
   have hc0:=hc;unfold acallee at hc;split at hc
   case h_2=>cases hc
   rename_i fo as ats ho;subst hd;refine .inl (DD ⟨fo,as,ats,ho⟩ hef (by rw[ho];rfl) fun t _ hdt hn=>?_);unfold callPut at he;simp only at he;split at he
   ·exact Je he hdt hn
   ·cases he
  | false =>
   subst hd;exact .inr (.inr ⟨.inl rfl,qcp hw hc ihc he⟩)
 | @callOpR n draw all o rest env f args r e1 e2 hw hc hp _ he _ ihc ih =>
  refine .step ⟨qbZ hw hc hp ihc he,fun hd=>?_⟩ ih
  cases hef:isEff o.op with
  | true =>
   have hc0:=hc;unfold Qp at hc;split at hc
   case h_2=>cases hc
   rename_i fo as ats ho;exact .inl (DD ⟨fo,as,ats,ho⟩ hef (by rw[ho];rfl) fun t _ hdt hn=>Je he hdt hn)
  | false=>exact .inr (.inr ⟨.inl rfl,qbn hw hc hp ihc he⟩)
 | @callOpM n all o rest env f args hp r hp' e1 e2 ρ nw hw hc _ he _ ihc ih =>
  exact .step ⟨qca hw hc ihc.1 ihc.2 he,fun hd=>by cases hd⟩ ih
 | @callM f args hp r fn c ex e1 hf hb hlen _ hex hres ih =>
  simp only[A7]at hlen;obtain⟨⟨hlen,hsm⟩,hhp⟩:=hlen;have hle:=A0 hlen;have hsm:=A0 hsm;refine⟨?_,fun id x hx=>?_⟩
  ·intro M O w vs hG hC hl hO hOi hR hH;refine calls_of_wp hf hb ?_
   have hsz:vs.toArray.size=vs.length:=by simp
   have hinv:Inv ⟨fun k=>k<w.heap.size∧∀ c,O.o true c≠some k,M,w,O,hG⟩ fn.ntmps M O (argsEnv 0 (args.map AV.strip)++hp) { tmps:=vs.toArray++A6 (fn.ntmps - vs.toArray.size) undef,defers:=[] } w:=by
    have hsize:(vs.toArray++A6 (fn.ntmps - vs.toArray.size) undef).size=fn.ntmps:=by simp;omega
    refine⟨hsize,rfl,BelowD.refl _ _,fun k hk=>hk.1,hC,Sub.refl M,fun _ _ _=>rfl,fun i c g e=>?_,fun i i' c c' g e e'=>?_,⟨hsm,fun c _ _=>Gh.Eq1.refl O c⟩,fun t x hx=>?_⟩
    ·obtain⟨rfl,h2⟩:=hO i c g e;exact⟨fun hD=>hD.2 c e,h2⟩
    ·obtain⟨rfl,h2⟩:=hO i c g e;obtain⟨rfl,h3⟩:=hO i' c' g e';exact⟨rfl,hOi c c' g e e'⟩
    ·rcases UO hx with hx | hx
     ·obtain⟨_,h2⟩:=ZO _ 0 t x hx;simp only[Nat.sub_zero,A1]at h2
      cases hz:args[t]? with
      | none=>rw[hz]at h2;cases h2
      | some z =>
       rw[hz]at h2;cases h2
       have htl:t<vs.length:=by rw[← hl];exact (List.getElem?_eq_some_iff.1 hz).1
       have hv:(vs.toArray++A6 (fn.ntmps - vs.toArray.size) undef).getD t undef=vs[t]:=by
        rw[A9,B7 (by simpa using htl)];simp[htl]
       rw[hv];exact QR (hR t z _ hz (B9 htl))
     ·have hge:2000000≤t:=by
       obtain⟨q,hq,h1,_⟩:=YE hx;unfold hpOk at hhp;rw[List.all_eq_true]at hhp;have:=hhp q hq;simp only[A7]at this;rw[← h1];exact A0 this.2
      have hv:(vs.toArray++A6 (fn.ntmps - vs.toArray.size) undef).getD t undef=undef:=by
       rw[A9,C0 (by rw[hsize];omega)];rfl
      rw[hv];exact hH t x hx
   refine ih.1 _ _ _ _ _ hinv _ fun a' w' M' O' h'=>?_
   obtain⟨v,hv1,hv2⟩:=NJ h' hres
   have fin:∃ v1,(results fn a'.tmps).run P w'=.ok v1 w'∧∃ v2 M2 O2,Ending.returned v1=.returned v2∧BelowD (fun k=>k<w.heap.size∧∀ c,O.o true c≠some k) w w'∧Sub M M2∧Cons M2 w'∧(∀ b o,b<w.heap.size→(∀ c,O.o true c≠some b)→M2 b o=M b o) ∧
     (∀ i c g,O2 i c=some g→g<w'.heap.size∧(w.heap.size≤g∨∃ c',O.o true c'=some g))∧(∀ i i' c c' g,O2 i c=some g→O2 i' c'=some g→i=i'∧c=c')∧(∀ c,2000000≤c→c<3000000→Gh.Eq1 O O2 c) ∧
     ValOk O2 M2 w' r v2∧∀ id x,look (ents e1) id=some x→Sat O2 M2 w' id x undef:=by
    refine⟨v,hv1,v,M',O',rfl,h'.below,h'.ext,h'.cons,fun b o h1 h2=>h'.old b o ⟨h1,h2⟩,fun i c g hg=>?_,h'.inj,fun c h1 h2=>h'.fix.2 c h1 h2,hv2,fun id x hx=>?_⟩
    ·obtain⟨k1,k2⟩:=h'.own i c g hg;refine⟨k2,?_⟩
     rcases Nat.lt_or_ge g w.heap.size with k3 | k3
     ·refine .inr (Classical.byContradiction fun hno=>k1 ⟨k3,fun c' hc'=>hno ⟨c',hc'⟩⟩)
     ·exact .inl k3
    ·obtain⟨k1,k2,k3⟩:=ZN hx;have hs:=h'.slots id x k1
     have hv:a'.tmps.getD id undef=undef:=by
      rw[A9,C0 (by rw[h'.size];omega)];rfl
     rw[hv]at hs;exact hs
   cases ex with
   | normal=>exact⟨h'.defers,fin⟩
   | ret=>exact⟨h'.defers,fin⟩
   | exit id=>exact hex.elim
  ·exact (ZN hx).2.1
 | ext0 h=>exact h
 | extM h h'=>exact⟨h,h'⟩
 | @ext f args r vs rv hvs hrv hk =>
  intro M w us hG hC hl hR;obtain rfl:=qaO hvs us hl hR;refine (hk w (hG.world hC)).mono ?_
  rintro ed w' ⟨rfl,hB⟩
  exact⟨rv,M,rfl,hB,Sub.refl M,Hl hC hB,fun _ _ _=>rfl,qfv hrv,qeW hrv⟩
 | @extSort f e zs he9 hne hbig hk =>
  refine⟨?_,fun id x hx=>?_⟩
  ·intro M O w vs hG hC hl hO hOi hR hH
   obtain⟨v,rfl⟩:∃ v,vs=[v]:=by
    match vs,hl with
    | [v],_=>exact⟨v,rfl⟩
   have hv:=hR 0 _ v rfl rfl;have ho:=hH 2000000 (.obj e 1 (zs.map (AV.int .i64))) rfl;obtain⟨k0,k1,k2,k3⟩:=ho;obtain⟨q1,q2⟩:=hv;have hpos:0<zs.length:=List.length_pos_iff.2 hne
   rcases q2 with ⟨h0,_⟩ | ⟨g,cap,rfl,p1,p2,p3,p4⟩
   ·omega
   rcases k3 with ⟨h0,_⟩ | ⟨g',cur,r1,r2,r3,r4,r5,r6⟩
   ·exact absurd (List.map_eq_nil_iff.1 h0) hne
   have r2:=r2.plain (A0 he9)
   have hgg:g'=g:=by rw[p1]at r1;exact (Option.some.inj r1).symm
   subst hgg
   have hfl:flat (zs.map (AV.int .i64))=zs.map (AV.int .i64):=by
    unfold flat;rw[List.flatMap_map];simp only[AV.cells];exact List.map_eq_flatMap.symm
   rw[hfl]at r6
   have r4':zs.length≤cur.size:=by simpa using r4
   have htake:cur.toList.take zs.length=zs.map (Value.int .i64):=by
    refine List.ext_getElem? fun j=>?_
    by_cases hj:j<zs.length
    ·rw[B6,if_pos hj]
     have hjc:j<cur.size:=by omega
     have h1:=r6 j (.int .i64 zs[j]) cur[j] (by simp[hj]) (by simp[hjc]);have h2:cur[j]=Value.int .i64 zs[j]:=h1.int_inv;rw[C2,Array.getElem?_eq_getElem hjc,h2];simp[hj]
    ·rw[B6,if_neg hj,List.getElem?_eq_none (by simp;omega)]
   have hv0:(0:Nat) * 1=0:=rfl;rw[hv0];refine (hk zs w g' cap cur r2 r4' hbig htake).mono ?_
   rintro ed w' ⟨rfl,b1,b2,b3,b4,b5,cur',c1,c2,c3⟩
   have hgO:∀ c,O true c=some g'→c=2000000:=fun c hc=>hOi c 2000000 g' hc p1
   refine⟨.tuple #[],M,O,rfl,⟨b1,b2,b3,b4,fun k hk2=>b5 k hk2.1 fun e1=>hk2.2 2000000 (by rw[e1];exact p1)⟩,Sub.refl M,?_,fun _ _ _ _=>rfl,fun i c g hg=>?_,fun i i' c c' g hg hg'=>?_,fun c _ _=>Gh.Eq1.refl O c,?_,fun id x hx=>?_⟩
   ·intro b o u hu;have h1:=hC b o u hu;have hb:=Zh h1
    have hne2:b≠g':=fun e1=>by rw[e1,r5]at hu;cases hu
    rw[Qm (b5 b hb hne2)];exact h1
   ·obtain⟨rfl,h2⟩:=hO i c g hg;exact⟨Nat.lt_of_lt_of_le h2 b4,.inr ⟨c,hg⟩⟩
   ·obtain⟨rfl,_⟩:=hO i c g hg;obtain⟨rfl,_⟩:=hO i' c' g hg';exact⟨rfl,hOi c c' g hg hg'⟩
   ·exact⟨.tup (vs:=[]) rfl (fun j c v hc=>by simp at hc),trivial⟩
   ·have hid:id=2000000∧x=.obj e 1 ((sortI zs).map (AV.int .i64)):=by
     simp only[look]at hx;split at hx
     ·rename_i hb;exact⟨(A5 hb).symm,(Option.some.inj hx).symm⟩
     ·cases hx
    obtain⟨rfl,rfl⟩:=hid
    have hsl:(sortI zs).length=zs.length:=by unfold sortI;exact List.length_mergeSort zs
    refine⟨k0,fun y hy=>?_,by simpa[hsl] using k2,.inr ⟨g',cur',p1,RowAt.of c1,by rw[c2];exact r3,by rw[c2];simpa[hsl] using r4,r5,fun j c u hc hu=>?_⟩⟩
    ·obtain⟨z,_,rfl⟩:=List.mem_map.1 hy;exact⟨rfl,rfl⟩
    ·have hfl2:flat ((sortI zs).map (AV.int .i64))=(sortI zs).map (AV.int .i64):=by
      unfold flat;rw[List.flatMap_map];simp only[AV.cells];exact List.map_eq_flatMap.symm
     rw[hfl2]at hc;have hj:=(List.getElem?_eq_some_iff.1 hc).1;rw[List.length_map,hsl]at hj;have h1:=congrArg (fun l=>l[j]?) c3;simp only[B6,if_pos hj,A1,C2,hu]at h1;rw[A1]at hc
     cases hz:(sortI zs)[j]? with
     | none=>rw[hz]at hc;cases hc
     | some z =>
      rw[hz]at hc h1;cases hc;cases h1;exact .int _ _
  ·simp only[look]at hx;split at hx
   ·cases hx;rfl
   ·cases hx
 | @call f args r fn c ex e1 hf hb hlen _ hex hres ih =>
  intro M w vs hG hC hl hR;refine calls_of_wp hf hb ?_
  have hsz:vs.toArray.size=vs.length:=by simp
  simp only[A7]at hlen;have hle:=A0 hlen.1;have hsm:=A0 hlen.2
  have hinv:Inv ⟨fun k=>k<w.heap.size,M,w,⟨fun _ _=>none,fun _=>0,fun _=>0⟩,hG⟩ fn.ntmps M ⟨fun _ _=>none,fun _=>0,fun _=>0⟩ (argsEnv 0 (args.map AV.strip)) { tmps:=vs.toArray++A6 (fn.ntmps - vs.toArray.size) undef,defers:=[] } w:=by
   refine⟨by simp;omega,rfl,BelowD.refl _ _,fun k hk=>hk,hC,Sub.refl M,fun _ _ _=>rfl,fun i c g e=>by (cases e),fun i i' c c' g e=>by (cases e),⟨hsm,fun c _ _=>Gh.Eq1.refl _ c⟩,fun t x hx=>?_⟩;obtain⟨_,h2⟩:=ZO _ 0 t x hx;simp only[Nat.sub_zero,A1]at h2
   cases hz:args[t]? with
   | none=>rw[hz]at h2;cases h2
   | some z =>
    rw[hz]at h2;cases h2
    have htl:t<vs.length:=by rw[← hl];exact (List.getElem?_eq_some_iff.1 hz).1
    have hv:(vs.toArray++A6 (fn.ntmps - vs.toArray.size) undef).getD t undef=vs[t]:=by
     rw[A9,B7 (by simpa using htl)];simp[htl]
    rw[hv];exact QR (jQ (hR t z _ hz (B9 htl)).strip (QU z))
  refine ih.1 _ _ _ _ _ hinv _ fun a' w' M' O' h'=>?_
  have hbel:Below w.heap.size w w':=⟨h'.below.os,h'.below.tape,h'.below.output,h'.below.size,fun k hk=>h'.below.block k hk⟩
  have hnew:∀ i c g,O' i c=some g→w.heap.size≤g:=fun i c g hg=>Nat.le_of_not_lt (h'.own i c g hg).1
  obtain⟨v,hv1,hv2,hv3⟩:=Ys h' hres;have hpost:∃ v M',Ending.returned v=.returned v∧True:=⟨v,M',rfl,trivial⟩
  have hown:OwnR M' w.heap.size w' r v:=by
   unfold OwnR;unfold OwnV at hv3;split at hv3
   ·rename_i e k c xs
    rcases hv3 with h1 | ⟨g,off,cap,cur,q1,q2,q3,q4,q5,q6,q7⟩
    ·exact .inl h1
    ·exact .inr ⟨g,off,cap,cur,q1,hnew _ _ _ q2,q3,q4,q5,q6,q7⟩
   ·rename_i hno;split
    ·rename_i e k c xs;exact absurd rfl (hno e k c xs)
    ·trivial
  have fin:∃ v1,(results fn a'.tmps).run P w'=.ok v1 w'∧∃ v2 M2,Ending.returned v1=.returned v2∧Below w.heap.size w w'∧Sub M M2∧Cons M2 w'∧(∀ b o,b<w.heap.size→M2 b o=M b o)∧R M2 r v2∧OwnR M2 w.heap.size w' r v2 :=
   ⟨v,hv1,v,M',rfl,hbel,h'.ext,h'.cons,fun b o hb=>h'.old b o hb,hv2,hown⟩
  cases ex with
  | normal=>exact⟨h'.defers,fin⟩
  | ret=>exact⟨h'.defers,fin⟩
  | exit id=>exact hex.elim
end
end Go.AM
