/- s -/
import Derived.Test.YtdghpfejmlpjhaaASimN
import Derived.Test.YtdghpfejmlpjhaaAWp
import Derived.Carry
import Derived.DataReads
import Derived.ProofKit
import Derived.OpenShut
set_option linter.unusedVariables false
set_option linter.unusedSimpArgs false
namespace Go.AM
open Go.RowKit
def memOf (w:World):Mem:=fun b o=>mc w b o
theorem qdp (w:World):Cons (memOf w) w:=fun b o u h=>h
def CellsR (M:Mem) (xs:List AV) (cs:List Value):Prop:=xs.length=cs.length∧∀ (j:Nat) c v,xs[j]? = some c→cs[j]? = some v→R M c v
def Reads (P:Program) (t:TypeId) {α:Type} (f:α→AV) (ok:α→Prop):Prop :=
 ∀ (H:Type) (enc:TypeId×Value→H) (w:World) (fuel:Nat) (cs:List Value) (x:DataW H×List MemPlace),
  DataW.trod enc P w 0 (fun _=>true) true fuel t cs=some x→∃ a,ok a∧CellsR (memOf w) (f a).cells cs
section
variable {P:Program}
theorem CellsR.one {M:Mem} {c:AV} {v:Value} (h:R M c v):CellsR M [c] [v]:=by
 refine⟨rfl,fun j c' v' hc hv=>?_⟩
 cases j with
 | zero=>simp at hc hv;subst hc;subst hv;exact h
 | succ j=>simp at hc
theorem CellsR.append {M:Mem} {xs ys:List AV} {cs ds:List Value} (h:CellsR M xs cs) (k:CellsR M ys ds):CellsR M (xs++ys) (cs++ds):=by
 refine⟨by simp[h.1,k.1],fun j c v hc hv=>?_⟩
 by_cases hj:j<xs.length
 ·rw[List.getElem?_append_left hj]at hc;rw[List.getElem?_append_left (by rw[← h.1];exact hj)]at hv;exact h.2 j c v hc hv
 ·rw[List.getElem?_append_right (by omega)]at hc;rw[List.getElem?_append_right (by rw[← h.1];omega),← h.1]at hv;exact k.2 _ c v hc hv
theorem qeA {t:TypeId} {k:IntKind} (ht:P.underlying t=some (.int k)):Reads P t (AV.int k) (fun n=>(Lit.int k n).wf=true):=by
 intro H enc w fuel cs x h
 cases fuel with
 | zero=>cases h
 | succ fuel =>
  unfold DataW.trod at h;rw[ht]at h
  split at h <;> try (first | (rename_i e _;cases e;done) | cases h)
  all_goals try (rename_i e;cases e;done)
  rename_i k1 k2 n e;cases e
  split at h
  ·rename_i hk;obtain⟨rfl,hwf⟩:=hk;exact⟨n,hwf,.one (.int _ _)⟩
  ·cases h
theorem qcZ {t:TypeId} (ht:P.underlying t=some .bool):Reads P t AV.bool (fun _=>True):=by
 intro H enc w fuel cs x h
 cases fuel with
 | zero=>cases h
 | succ fuel =>
  unfold DataW.trod at h;rw[ht]at h
  split at h <;> try (first | (rename_i e _;cases e;done) | cases h)
  all_goals try (rename_i e;cases e;done)
  exact⟨_,trivial,.one (.bool _)⟩
theorem NS {α:Type} {Pr:Nat→α→Prop}:∀ (n:Nat),(∀ i,i<n→∃ x,Pr i x)→∃ l:List α,l.length=n∧∀ i x,l[i]? = some x→Pr i x
 | 0,_=>⟨[],rfl,fun i x h=>by simp at h⟩
 | n+1,h=>by
  obtain⟨l,h1,h2⟩:=NS n (fun i hi=>h i (by omega));obtain⟨x,hx⟩:=h n (by omega);refine⟨l++[x],by simp[h1],fun i y hy=>?_⟩
  by_cases hi:i<l.length
  ·rw[List.getElem?_append_left hi]at hy;exact h2 i y hy
  ·rw[List.getElem?_append_right (by omega)]at hy
   have:i - l.length=0:=by
    cases hh:i - l.length with
    | zero=>rfl
    | succ m=>rw[hh]at hy;simp at hy
   rw[this]at hy
   simp at hy
   subst hy
   have:i=n:=by omega
   subst this;exact hx
theorem Dh {w:World} {base n:Nat} {a:Addr} {cs:List Value} (h:w.cells? base a n=some cs):cs.length=n∧∀ i,i<n→w.cell? (a.add i)=cs[i]?:=by
 unfold World.cells? at h
 split at h
 ·refine⟨by simpa using mapM_some_length h,fun i hi=>?_⟩;exact mapM_some_get h i i (by simp[hi])
 ·cases h
theorem qes {w:World} {a:Addr} {v:Value} (h:w.cell? a=some v):a.spot=none:=by
 unfold World.cell? at h
 split at h
 ·split at h
  ·cases h
  ·rename_i hs
   simpa using hs
 ·cases h
theorem qgp {a:Addr} (h:a.spot=none) (n:Nat):a.add n=⟨a.block,a.off+n,none⟩:=by
 obtain⟨b,o,s⟩:=a;simp only at h;subst h;unfold Addr.add
 split
 ·rename_i e;subst e;rfl
 ·rfl
theorem YM {α:Type} {f:α→AV} {ok:α→Prop} {t e k:Nat} (ht:P.underlying t=some (.slice e)) (hk:P.cellsOf e=k) (hk0:0<k) (he:Reads P e f ok) (hlen:∀ x,(f x).cells.length=k) (hone:∀ x,(f x).cells.all AV.one=true) :
  Reads P t (encL e k f) (fun l=>l.length≤maxLen∧∀ x,x∈l→ok x):=by
 intro H enc w fuel cs x h
 cases fuel with
 | zero=>cases h
 | succ fuel =>
  unfold DataW.trod at h;rw[ht]at h
  split at h <;> try (first | (rename_i e _;cases e;done) | cases h)
  all_goals try (rename_i e;cases e;done)
  ·exact⟨[],⟨Nat.zero_le _,fun x hx=>by cases hx⟩,.one (.lstn _ _ _)⟩
  ·rename_i t1 e1 a len cap e2;cases e2;simp only at h
   split at h
   ·rename_i hc;obtain⟨hb,hlc,hcm⟩:=hc;rw[Option.bind_eq_some_iff]at h;obtain⟨elems,h1,h2⟩:=h
    have hel:∀ i,i<len→∃ y:α,ok y∧∃ cs,w.cells? 0 (a.add (i * k)) k=some cs∧CellsR (memOf w) (f y).cells cs:=by
     intro i hi;have hlenE:=mapM_some_length h1
     simp at hlenE
     have:=mapM_some_get h1 i i (by simp[hi]);have hsome:elems[i]? = some (elems[i]'(by omega)):=List.getElem?_eq_getElem _;rw[hsome]at this;rw[hk,Option.bind_eq_some_iff]at this;obtain⟨cs,hcs,htr⟩:=this;obtain⟨y,hy,hr⟩:=he H enc w fuel cs _ htr;exact⟨y,hy,cs,hcs,hr⟩
    obtain⟨l,hll,hl⟩:=NS (Pr:=fun i y=>ok y∧∃ cs,w.cells? 0 (a.add (i * k)) k=some cs∧CellsR (memOf w) (f y).cells cs) len hel;refine⟨l,⟨by omega,fun x hx=>?_⟩,?_⟩
    ·obtain⟨i,hi⟩:=List.mem_iff_getElem?.1 hx;exact (hl i x hi).1
    refine .one ?_
    cases len with
    | zero =>
     have:l=[]:=List.length_eq_zero_iff.1 hll;subst this;exact .lste _ _ _ _ _
    | succ len =>
     have hspot:a.spot=none:=by
      have hx:l[0]? = some (l[0]'(by omega)):=List.getElem?_eq_getElem _;obtain⟨_,cs,hcs,_⟩:=hl 0 _ hx;obtain⟨c1,c2⟩:=Dh hcs;have:=c2 0 hk0;have hc0:cs[0]? = some (cs[0]'(by omega)):=List.getElem?_eq_getElem _;rw[hc0]at this
      simp[Addr.add]at this
      exact qes this
     obtain⟨b,off,spot⟩:=a;simp only at hspot;subst hspot
     have hlenk:∀ x,x∈l.map f→x.cells.length=k:=by
      intro x hx;obtain⟨y,_,rfl⟩:=List.mem_map.1 hx;exact hlen y
     have hcell:∀ (j:Nat) c,(flat (l.map f))[j]? = some c→∃ u,w.cell? ⟨b,off+j,none⟩=some u∧R (memOf w) c u:=by
      intro j c hc
      have hjl:j<l.length * k:=by
       have:=(List.getElem?_eq_some_iff.1 hc).1;rw[qW hlenk]at this
       simpa using this
      have hik:j / k<l.length:=Nat.div_lt_of_lt_mul (by rw[Nat.mul_comm];exact hjl);have hy:l[j / k]? = some (l[j / k]'hik):=List.getElem?_eq_getElem _
      have hfy:(l.map f)[j / k]? = some (f (l[j / k]'hik)):=by rw[List.getElem?_map,hy];rfl
      have hmod:j % k<k:=Nat.mod_lt _ hk0;have hfl:=QI hlenk hfy (j % k) hmod
      have hdm:j / k * k+j % k=j:=by rw[Nat.mul_comm];exact Nat.div_add_mod j k
      rw[hdm,hc]at hfl;obtain⟨_,cs,hcs,hcr⟩:=hl _ _ hy;obtain⟨c1,c2⟩:=Dh hcs;have hcell:=c2 (j % k) hmod;have hv:cs[j % k]? = some (cs[j % k]'(by omega)):=List.getElem?_eq_getElem _;rw[hv,qgp (a:=⟨b,off,none⟩) rfl,qgp rfl]at hcell;refine⟨_,?_,hcr.2 _ _ _ hfl.symm hv⟩
      simpa[Nat.add_assoc,hdm] using hcell
     rw[← hll];have hmap:(l.map f).length=l.length:=List.length_map _;unfold encL;rw[← hmap];refine .lst (fun j=>(w.cell? ⟨b,off+j,none⟩).getD undef) (by rw[hmap];omega) hlenk ?_ ?_ ?_
     ·intro x hx;obtain⟨y,_,rfl⟩:=List.mem_map.1 hx;exact hone y
     ·intro j c hc;obtain⟨u,hu,hr⟩:=hcell j c hc;rw[hu];refine Ui hu (QR (hr.one (Zp (fun x hx=>?_) hc)));obtain⟨y,_,rfl⟩:=List.mem_map.1 hx;exact hone y
     ·intro j c hc;obtain⟨u,hu,hr⟩:=hcell j c hc;rw[hu];exact hr
   ·cases h
def FieldsR (P:Program):List Field→Nat→Nat→{α:Type}→(α→List AV)→(α→Prop)→Prop:=fun fs off size α f ok =>
 ∀ (H:Type) (enc:TypeId×Value→H) (w:World) (fuel:Nat) (cs:List Value),cs.length=size →
  (∀ g,g∈fs→∃ x,DataW.trod enc P w 0 (fun _=>true) true fuel g.type ((cs.drop g.offset).take (P.cellsOf g.type))=some x) →
  ∃ a,ok a∧CellsR (memOf w) (f a) (cs.drop off)
theorem YO {off size:Nat} (h:size=off):FieldsR P [] off size (fun _:Unit=>[]) (fun _=>True):=by
 intro H enc w fuel cs hl _;refine⟨(),trivial,?_⟩;rw[List.drop_of_length_le (by omega)];exact⟨rfl,fun j c v hc=>by simp at hc⟩
theorem JY {fd:Field} {fs:List Field} {off off' size n:Nat} {α β:Type} {f:α→AV} {ok:α→Prop} {g:β→List AV} {ok':β→Prop} (ho:fd.offset=off) (hs:P.cellsOf fd.type=n) (hn:off+n=off') (he:Reads P fd.type f ok) (hr:FieldsR P fs off' size g ok') :
  FieldsR P (fd::fs) off size (fun x:α×β=>(f x.1).cells++g x.2) (fun x=>ok x.1∧ok' x.2):=by
 intro H enc w fuel cs hl h;obtain⟨x,hx⟩:=h fd (by simp);obtain⟨a,h1,h2⟩:=he H enc w fuel _ _ hx;obtain⟨b,h3,h4⟩:=hr H enc w fuel cs hl (fun g hg=>h g (by simp[hg]));refine⟨(a,b),⟨h1,h3⟩,?_⟩;rw[ho,hs]at h2;have:=h2.append h4;rw[← hn]at this
 have e:(cs.drop off).take n++cs.drop (off+n)=cs.drop off:=by
  rw[← List.drop_drop,List.take_append_drop]
 rw[e]at this;exact this
theorem Yg {t size:Nat} {fs:Array Field} {α β:Type} {g:β→List AV} {ok':β→Prop} (mk:β→α) {f:α→AV} {ok:α→Prop} (ht:P.underlying t=some (.struct fs)) (hs:P.cellsOf t=size) (hf:FieldsR P fs.toList 0 size g ok') (hcells:∀ b,(f (mk b)).cells=g b) (hok:∀ b,ok' b→ok (mk b)):Reads P t f ok:=by
 intro H enc w fuel cs x h
 cases fuel with
 | zero=>cases h
 | succ fuel =>
  unfold DataW.trod at h;rw[ht]at h
  have key:cs.length=size∧∃ xs,fs.toList.mapM (fun fd=>DataW.trod enc P w 0 (fun _=>true) true fuel fd.type ((cs.drop fd.offset).take (P.cellsOf fd.type)))=some xs:=by
   simp only at h
   split at h
   ·rename_i hl;rw[hs]at hl;rw[Option.map_eq_some_iff]at h;obtain⟨xs,h1,_⟩:=h;exact⟨hl,xs,h1⟩
   ·cases h
  obtain⟨hl,xs,hm⟩:=key
  obtain⟨b,h1,h2⟩:=hf H enc w fuel cs hl (fun fd hfd=>by
   obtain⟨i,hi⟩:=List.mem_iff_getElem?.1 hfd;have h3:=mapM_some_get hm i fd hi;have hlen:=mapM_some_length hm
   have hix:i<xs.length:=by rw[hlen];exact (List.getElem?_eq_some_iff.1 hi).1
   exact⟨xs[i],h3.trans (List.getElem?_eq_getElem hix)⟩)
  refine⟨mk b,hok b h1,?_⟩;rw[hcells]
  simpa using h2
theorem Reads.arg {α:Type} {f:α→AV} {ok:α→Prop} {t:TypeId} (h:Reads P t f ok) {H:Type} {enc:TypeId×Value→H} {w:World} {v:Value} {d:DataW H} {ps:List MemPlace} (ht:DataW.Trod enc P w 0 (fun _=>true) true t v d ps) (hv:(f · |>.cells)=(fun x=>[f x]):=by rfl) (hone:v.cells.toList=[v]):∃ a,ok a∧R (memOf w) (f a) v:=by
 obtain⟨fuel,hf⟩:=ht;obtain⟨a,h1,h2⟩:=h H enc w fuel _ _ hf;refine⟨a,h1,?_⟩;have e:(f a).cells=[f a]:=congrFun hv a
 have h3:CellsR (memOf w) [f a] [v]:=by
  rw[← e];rw[hone]at h2;exact h2
 exact h3.2 0 _ _ rfl rfl
end
end Go.AM
namespace Go.AM
open Go.RowKit Go.ChangeShapes
theorem VN {H:Type} {enc:TypeId×Value→H} {P:Program} (hl:laidOutB P=true) {W W':World} {sp:Nat→Bool}:∀ {ts:List TypeId} {vs:List Value} {ds:List (DataW H)} {ps:List MemPlace},
  (∀ t,t∈ts→P.readableRec t=true∧t<P.types.size)→DataW.TrodAll enc P W 0 (fun _=>true) true ts vs ds ps→(∀ p,p∈ps→W.sameAt W' p)→(∀ p,p∈ps→sp p.block=true)→DataW.TrodAll enc P W' 0 sp true ts vs ds ps
 | [],vs,ds,ps,_,h,_,_=>by
  obtain⟨rfl,rfl,rfl⟩:=trodAll_nil h;exact trodAll_mk0
 | t::ts,vs,ds,ps,ht,h,hs,hp=>by
  obtain⟨v,vs',d,ds',p,q,rfl,rfl,rfl,h1,h2⟩:=trodAll_cons h;obtain⟨r1,r2⟩:=ht t (by simp);exact trodAll_cons_mk (WideElems.Trod_stays hl r1 r2 h1 (fun x hx=>hs x (by simp[hx])) (fun x hx=>hp x (by simp[hx])))
   (VN hl (fun t h=>ht t (by simp[h])) h2 (fun x hx=>hs x (by simp[hx])) (fun x hx=>hp x (by simp[hx])))
def ArgsR (M:Mem) (avs:List AV) (vs:List Value):Prop:=avs.length=vs.length∧∀ (j:Nat) c v,avs[j]? = some c→vs[j]? = some v→R M c v
theorem ArgsR.nil {M:Mem}:ArgsR M [] []:=⟨rfl,fun j c v h=>by simp at h⟩
theorem ArgsR.cons {M:Mem} {x:AV} {v:Value} {xs:List AV} {vs:List Value} (h:R M x v) (hs:ArgsR M xs vs):ArgsR M (x::xs) (v::vs):=by
 refine⟨by simp[hs.1],fun j c u hc hu=>?_⟩
 cases j with
 | zero=>simp at hc hu;subst hc;subst hu;exact h
 | succ j=>exact hs.2 j c u (by simpa using hc) (by simpa using hu)
def Di (P:Program) (t:TypeId):Bool:=match P.underlying t with
 | some (.int _) | some .bool | some .string | some (.slice _)=>true
 | _=>false
theorem qeJ {P:Program} {W:World} {base:Nat} {t:TypeId} {v:Value} (ht:Di P t=true) (h:Value.okWide P W .any base t v):v.cells.toList=[v]:=by
 cases v with
 | agg cs =>
  unfold Di at ht
  split at ht <;> (rename_i e;simp[Value.okWide,e,Cell.okWide,Cell.ok]at h) <;> cases ht
 | _=>rfl
def rowType (P:Program) (t:TypeId):Bool:=match P.underlying t with
 | some (.struct _)=>true
 | _=>false
theorem qex {P:Program} {W:World} {base:Nat} {t:TypeId} {v:Value} (ht:rowType P t=true) (h:Value.okWide P W .any base t v):∃ cs,v=.agg cs:=by
 unfold rowType at ht
 split at ht
 ·rename_i e;simp only[Value.okWide,e]at h;obtain⟨cs,h1,_⟩:=h;exact⟨cs,h1⟩
 ·cases ht
theorem qbe {H:Type} {enc:TypeId×Value→H} {P:Program} {f:Nat} {fn:Func} {s:ChangeSpec} {tb:TypeId} (hmix:P.follows .mixedOrders=true) (hl:laidOutB P=true) (hb:P.underlying tb=some .bool) (hres:fn.resultTypes=#[tb])
  (hts:∀ t,t∈fn.params.toList→P.readableRec t=true∧t<P.types.size) (hv:s.vars=[])
  (hs:∀ ds:List (DataW H),ds.length=fn.params.toList.length→s.fn H (ds++[])={ results:=[.lit (.bool true)],args:=ds })
  (hrun:∀ (W:World) (vs:List Value) (ds:List (DataW H)) (ps:List MemPlace),(∀ (j:Nat) t v,fn.params.toList[j]? = some t→vs[j]? = some v→Di P t=true→v.cells.toList=[v])→(∀ (j:Nat) t v,fn.params.toList[j]? = some t→vs[j]? = some v→rowType P t=true→∃ cs,v=.agg cs)→DataW.TrodAll enc P W 0 (fun _=>true) true fn.params.toList vs ds ps→∃ avs,ArgsR (memOf W) avs vs∧Run P (.call f avs (.bool true)))
  (W:World) (hgl:GlobW W) (base:Nat) (args:Array Value) (ds gs:List (DataW H)) (before:List MemPlace) (hval:∀ (j:Nat) t v,fn.params[j]? = some t→args[j]? = some v→Value.okWide P W .any base t v) (hW:DataW.Whole enc P fn.params.toList s.vars false W args.toList ds gs before) :
  Calls P f args W fun e W'=>∃ v,e=.returned v∧s.post enc P fn false true false false W args v W':=by
 have hW':=hW;obtain⟨p,q,hA,hV,rfl,hfz,hnd⟩:=hW;rw[hv]at hV;obtain⟨rfl,rfl⟩:=trodVars_none hV;obtain⟨avs,⟨h1,h2⟩,hr⟩:=hrun W args.toList ds p (fun j t v h1 h2 hc=>qeJ hc (hval j t v (by simpa using h1) (by simpa using h2))) (fun j t v h1 h2 hc=>qex hc (hval j t v (by simpa using h1) (by simpa using h2))) hA
 have hlen:ds.length=fn.params.toList.length:=by
  have:∀ {ts:List TypeId} {vs:List Value} {ds:List (DataW H)} {ps:List MemPlace},DataW.TrodAll enc P W 0 (fun _=>true) true ts vs ds ps→ds.length=ts.length:=by
   intro ts
   induction ts with
   | nil=>intro vs ds ps h;obtain⟨_,rfl,_⟩:=trodAll_nil h;rfl
   | cons t ts ih =>
    intro vs ds ps h;obtain⟨v,vs',d,ds',p,q,rfl,rfl,rfl,_,h2⟩:=trodAll_cons h
    simp[ih h2]
  exact this hA
 have hc:=Zb hmix hr (memOf W) W args.toList (fun g hg=>(hgl g hg).imp fun m hm=>Ui hm rfl) (qdp W) h1 h2;have hc':Calls P f args W _:=hc
 refine hc'.mono fun e W' hh=>?_
 obtain⟨v,M',he,hB,_,_,_,hR,_⟩:=hh;cases hR;subst he;have hfn:=hs ds hlen;refine⟨_,rfl,ds,[],p++[],[],p,[],hW',?_,?_,?_,?_,fun h=>by cases h⟩
 ·rw[hfn,hres];exact trodAll_mk1 (shut_bool hb _)
 ·rw[hfn];exact VN hl hts hA (fun x hx=>hB.same (hW'.lt x (by simp[hx]))) (fun x hx=>by simpa using hW'.lt x (by simp[hx]))
 ·rw[hv,hfn];rfl
 ·exact World.keptBut_mono (fun x hx=>⟨hx,Or.inr (Or.inl (by simpa using hx))⟩) (hB.frame (·∈p++[]))
end Go.AM
