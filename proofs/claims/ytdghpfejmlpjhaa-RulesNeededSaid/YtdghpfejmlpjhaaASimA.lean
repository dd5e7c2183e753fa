/- s -/
import Derived.Test.YtdghpfejmlpjhaaAMach
import Derived.Below
import Derived.Laws.AppendOwn
import Derived.Laws.OwnMore
import Derived.Deep.Draws
import Derived.ChangeKeysEq
import Derived.Maps.RangeRun
import Derived.Maps.Keyed
import Derived.WideKeyArr
set_option linter.unusedVariables false
set_option linter.unusedSimpArgs false
namespace Go.AM
open Go.RowKit
abbrev Mem:=Nat→Nat→Option Value
def flat (xs:List AV):List AV:=xs.flatMap AV.cells
def mapCell (es:Array MapEntry) (clock:Nat):Value:=.tuple #[.tuple (es.map (·.key)),.tuple (es.map (·.val)),.tuple (es.map fun e=>.int .i64 e.born),.int .i64 clock]
def isTup:Value→Bool
  | .tuple _=>true
  | _=>false
def cellsAt (us:Array Value) (o:Nat):Option Value:=(us[o]?).filter fun u=>!isTup u
theorem Jd {us:Array Value} {o:Nat} {u:Value} (h:us[o]? = some u) (hu:isTup u=false):cellsAt us o=some u:=by
  unfold cellsAt;rw[h];simp[hu]
theorem Yb {us:Array Value} {o:Nat} {u:Value} (h:cellsAt us o=some u):us[o]? = some u∧isTup u=false:=by
  unfold cellsAt at h;rw[Option.filter_eq_some_iff]at h;exact⟨h.1,by simpa using h.2⟩
def mc (w:World) (b o:Nat):Option Value :=
  match w.heap[b]? with
  | some (.cells c _ _)=>cellsAt c o
  | some (.map es clock)=>if o=0 then some (mapCell es clock) else none
  | _=>none
theorem Qp {w w':World} {b:Nat} (h:w'.heap[b]? = w.heap[b]?) (o:Nat):mc w' b o=mc w b o:=by
  unfold mc;rw[h]
theorem Ju {w:World} {b o:Nat} {u:Value} (h:mc w b o=some u) (hu:isTup u=false):w.cell? ⟨b,o,none⟩=some u:=by
  unfold mc at h;unfold World.cell?
  simp only
  split at h
  · rename_i c e fr hb
    rw[hb]
    simpa using (Yb h).1
  · rename_i es clock hb
    split at h
    · cases h;cases hu
    · cases h
  · cases h
theorem Ui {w:World} {b o:Nat} {u:Value} (h:w.cell? ⟨b,o,none⟩=some u) (hu:isTup u=false):mc w b o=some u:=by
  unfold mc;unfold World.cell? at h;simp only at h
  split at h
  · rename_i c e fr hb
    rw[hb];exact Jd (by simpa using h) hu
  · cases h
theorem ZL {w:World} {b o:Nat} {u:Value} (h:mc w b o=some u):b<w.heap.size:=by
  unfold mc at h
  split at h
  · rename_i c e fr hb;exact (Array.getElem?_eq_some_iff.1 hb).1
  · rename_i es clock hb;exact (Array.getElem?_eq_some_iff.1 hb).1
  · cases h
theorem qgG {es es':Array MapEntry} (h1:es.map (·.key)=es'.map (·.key)) (h2:es.map (·.val)=es'.map (·.val)) (h3:es.map (fun e=>Value.int .i64 e.born)=es'.map fun e=>Value.int .i64 e.born):es=es':=by
  have hs:es.size=es'.size:=by simpa using congrArg Array.size h1
  refine Array.ext hs fun i hi hi'=>?_
  have k1:=congrArg (fun a=>a[i]?) h1;have k2:=congrArg (fun a=>a[i]?) h2;have k3:=congrArg (fun a=>a[i]?) h3;simp only[Array.getElem?_map,Array.getElem?_eq_getElem hi,Array.getElem?_eq_getElem hi',Option.map_some,Option.some.injEq,Value.int.injEq,true_and]at k1 k2 k3
  cases h:es[i] with
  | mk key val born =>
    cases h':es'[i] with
    | mk key' val' born' =>
      rw[h,h']at k1 k2 k3;simp only at k1 k2 k3;subst k1;subst k2
      have:born=born':=by omega
      subst this;rfl
theorem YW {w:World} {b:Nat} {es:Array MapEntry} {clock:Nat} (h:mc w b 0=some (mapCell es clock)):w.heap[b]? = some (.map es clock):=by
  unfold mc at h
  split at h
  · have:=(Yb h).2
    cases this
  · rename_i es' clock' hb
    rw[if_pos rfl]at h;unfold mapCell at h;simp only[Option.some.injEq,Value.tuple.injEq,Array.mk.injEq,List.cons.injEq,Value.int.injEq,true_and,and_true]at h;obtain⟨k1,k2,k3,k4⟩:=h;rw[hb,qgG k1 k2 k3,show clock'=clock by omega]
  · cases h
theorem Zj {w:World} {b:Nat} {es:Array MapEntry} {clock:Nat} (h:w.heap[b]? = some (.map es clock)):mc w b 0=some (mapCell es clock):=by
  unfold mc;rw[h];rfl
def PermKV (ks vs ks' vs':List AV):Prop:=ks.length=vs.length∧ks'.length=vs'.length∧(ks.zip vs).Perm (ks'.zip vs')
theorem PermKV.refl {ks vs:List AV} (h:ks.length=vs.length):PermKV ks vs ks vs:=⟨h,h,List.Perm.refl _⟩
theorem PermKV.trans {a b c d e f:List AV} (h:PermKV a b c d) (g:PermKV c d e f):PermKV a b e f:=⟨h.1,g.2.1,h.2.2.trans g.2.2⟩
theorem PermKV.length {ks vs ks' vs':List AV} (h:PermKV ks vs ks' vs'):ks.length=ks'.length:=by
  obtain⟨h1,h2,h3⟩:=h;have:=h3.length_eq;simp only[List.length_zip]at this;omega
inductive R (M:Mem):AV→Value→Prop where
  | top (v):R M .top v
  | und:R M .und undef
  | ub (p b:Bool):(b=true→p=true)→R M (.ub p) (.bool b)
  | int (k n):R M (.int k n) (.int k n)
  | bool (b):R M (.bool b) (.bool b)
  | str (s):R M (.str s) (.string s)
  | agg {cs:List AV} {vs:List Value}:cs.length=vs.length→(∀ (j:Nat) c v,cs[j]? = some c→vs[j]? = some v→R M c v)→R M (.agg cs) (.agg vs.toArray)
  | tup {cs:List AV} {vs:List Value}:cs.length=vs.length→(∀ (j:Nat) c v,cs[j]? = some c→vs[j]? = some v→R M c v)→R M (.tup cs) (.tuple vs.toArray)
  | nils:R M .nils (.slice none 0 0)
  | optn (x):R M (.optr true x) (.pointer none)
  | opts {x b off}:R M (.ptr x) (.pointer (some ⟨b,off,none⟩))→R M (.optr false x) (.pointer (some ⟨b,off,none⟩))
  | lstn (e k l):R M (.lst e k l []) (.slice none 0 0)
  | lste (e k l ad cap):R M (.lst e k l []) (.slice (some ad) 0 cap)
  | lst {e k l xs b off cap} (us:Nat→Value):xs.length≤cap→(∀ x,x∈xs→x.cells.length=k)→(∀ x,x∈xs→x.cells.all AV.one=true)→(∀ (j:Nat) c,(flat xs)[j]? = some c→M b (off+j)=some (us j))→(∀ (j:Nat) c,(flat xs)[j]? = some c→R M c (us j))→R M (.lst e k l xs) (.slice (some ⟨b,off,none⟩) xs.length cap)
  | ptr {x b off} (us:Nat→Value):(∀ (j:Nat) c,x.cells[j]? = some c→M b (off+j)=some (us j))→(∀ (j:Nat) c,x.cells[j]? = some c→R M c (us j))→(∀ (j:Nat) c,x.cells[j]? = some c→isTup (us j)=false)→R M (.ptr x) (.pointer (some ⟨b,off,none⟩))
  | mpvn:R M (.mpv [] []) (.map none)
  | mpv {ks vs b} {es:Array MapEntry} {clock:Nat}:M b 0=some (mapCell es clock)→MapKept.Stamped es clock→es.size≤maxLen→ks.length=es.size→vs.length=es.size→(∀ (j:Nat) k e,ks[j]? = some k→es[j]? = some e→k.keyV=some e.key) →
      (∀ (j:Nat) v e,vs[j]? = some v→es[j]? = some e→R M v e.val)→R M (.mpv ks vs) (.map (some b))
  | mpp {ks vs ks' vs'} {o:Option Nat}:PermKV ks vs ks' vs'→R M (.mpv ks' vs') (.map o)→R M (.mpv ks vs) (.map o)
  | clo {f caps} {vs:List Value}:caps.length=vs.length→(∀ (j:Nat) c v,caps[j]? = some c→vs[j]? = some v→R M c v)→R M (.clo f caps) (.func (.func f) #[] vs.toArray)
def Sub (M M':Mem):Prop:=∀ b o u,M b o=some u→M' b o=some u
theorem Sub.refl (M:Mem):Sub M M:=fun _ _ _ h=>h
theorem Sub.trans {A B C:Mem} (h:Sub A B) (k:Sub B C):Sub A C:=fun b o u x=>k b o u (h b o u x)
theorem R.mono {M M':Mem} (hs:Sub M M') {x:AV} {v:Value} (h:R M x v):R M' x v:=by
  induction h with
  | top v=>exact .top v
  | und=>exact .und
  | ub p b h=>exact .ub p b h
  | int k n=>exact .int k n
  | bool b=>exact .bool b
  | str s=>exact .str s
  | agg hl _ ih=>exact .agg hl ih
  | tup hl _ ih=>exact .tup hl ih
  | nils=>exact .nils
  | optn x=>exact .optn x
  | opts _ ih=>exact .opts ih
  | lstn e k l=>exact .lstn e k l
  | lste e k l ad cap=>exact .lste e k l ad cap
  | lst us h1 h2 h5 h3 _ ih=>exact .lst us h1 h2 h5 (fun j c hc=>hs _ _ _ (h3 j c hc)) ih
  | ptr us h1 _ h3 ih=>exact .ptr us (fun j c hc=>hs _ _ _ (h1 j c hc)) ih h3
  | mpvn=>exact .mpvn
  | mpv h1 h2 h3 h4 h5 h6 _ ih=>exact .mpv (hs _ _ _ h1) h2 h3 h4 h5 h6 ih
  | mpp h1 _ ih=>exact .mpp h1 ih
  | clo hl _ ih=>exact .clo hl ih
theorem R.setLab {M:Mem} {e k l l' xs v} (h:R M (.lst e k l xs) v):R M (.lst e k l' xs) v:=by
  cases h with
  | lstn=>exact .lstn e k l'
  | lste=>exact .lste e k l' _ _
  | lst us h1 h2 h5 h3 h4=>exact .lst us h1 h2 h5 h3 h4
theorem R.strip {M:Mem} {x v} (h:R M x v):R M x.strip v:=by
  cases x with
  | lst e k l xs=>exact h.setLab
  | agr cs=>cases h
  | _=>exact h
theorem R.relab {M:Mem} {x v} (l m) (h:R M x v):R M (x.relab l m) v:=by
  cases x with
  | lst e k c xs =>
    cases c with
    | none=>exact h
    | some c =>
      simp only[AV.relab]
      split
      · exact h.setLab
      · exact h
  | _=>exact h
theorem R.one {M:Mem} {x v} (h:R M x v) (ho:x.one=true):v.oneCell'=true:=by
  cases h <;> first | rfl | (simp[AV.one]at ho)
theorem R.cells {M:Mem} {x v} (h:R M x v) (hx:x.cells.all AV.one=true):v.cells.size=x.cells.length∧(∀ (j:Nat) c u,x.cells[j]? = some c→v.cells[j]? = some u→R M c u)∧(∀ u,u∈v.cells→u.oneCell'=true):=by
  cases h
  case agg cs vs hl hr =>
    refine⟨by simp[Value.cells,AV.cells,hl],?_,?_⟩
    · intro j c u hc hu
      exact hr j c u (by simpa[AV.cells] using hc) (by simpa[Value.cells] using hu)
    · intro u hu
      simp only[Value.cells]at hu
      have hu':u∈vs:=by simpa using hu
      obtain⟨j,hj⟩:=List.mem_iff_getElem?.1 hu';have hjlt:j<vs.length:=(List.getElem?_eq_some_iff.1 hj).1;have hc:cs[j]? = some (cs[j]'(by omega)):=List.getElem?_eq_getElem _;have:=hr j _ _ hc hj;refine this.one ?_;simp only[AV.cells,List.all_eq_true]at hx;exact hx _ (List.getElem_mem _)
  all_goals
    first
    | (simp[AV.cells,AV.one]at hx;done)
    | (refine⟨by simp[Value.cells,AV.cells],?_,?_⟩
       · intro j c u hc hu
         simp only[AV.cells,Value.cells]at hc hu
         cases j with
         | succ j=>simp at hc
         | zero =>
           simp at hc hu
           subst hc;subst hu
           first
           | exact .int _ _
           | exact .bool _
           | exact .str _
           | exact .nils
           | exact .optn _
           | exact .opts ‹_›
           | exact .lstn _ _ _
           | exact .lste _ _ _ _ _
           | exact .lst _ ‹_› ‹_› ‹_› ‹_› ‹_›
           | exact .ptr _ ‹_› ‹_› ‹_›
           | exact .mpvn
           | exact .mpv ‹_› ‹_› ‹_› ‹_› ‹_› ‹_› ‹_›
           | exact .mpp ‹_› ‹_›
           | exact .clo ‹_› ‹_›
       · intro u hu
         simp[Value.cells]at hu
         subst hu
         rfl)
theorem QR {u:Value} (h:u.oneCell'=true):isTup u=false:=by
  cases u <;> first | rfl | cases h
def Cons (M:Mem) (w:World):Prop:=∀ b o u,M b o=some u→mc w b o=some u
theorem Cons.cell {M:Mem} {w:World} (h:Cons M w) {b o:Nat} {c:AV} {u:Value} (hm:M b o=some u) (hr:R M c u) (hc:c.one=true):w.cell? ⟨b,o,none⟩=some u:=Ju (h b o u hm) (QR (hr.one hc))
structure Gh where
  o:Bool→Nat→Option Nat
  len:Nat→Nat
  siz:Nat→Nat
instance:CoeFun Gh (fun _=>Bool→Nat→Option Nat):=⟨Gh.o⟩
def Gh.Eq1 (O O':Gh) (c:Nat):Prop:=O'.o true c=O.o true c∧O'.len c=O.len c∧O'.siz c=O.siz c
theorem Gh.Eq1.refl (O:Gh) (c:Nat):Gh.Eq1 O O c:=⟨rfl,rfl,rfl⟩
def Glob (M:Mem):Prop:=∀ g,g∈globs→∃ m,M g 0=some (.int .i64 m)
theorem Glob.mono {M M':Mem} (h:Glob M) (hs:Sub M M'):Glob M':=fun g hg=>(h g hg).imp fun m hm=>hs _ _ _ hm
theorem Glob.world {M:Mem} {w:World} (h:Glob M) (hc:Cons M w):GlobW w:=fun g hg=>(h g hg).imp fun m hm=>Ju (hc _ _ _ hm) rfl
structure Base where
  D:Nat→Prop
  M0:Mem
  w0:World
  O0:Gh
  gl:Glob M0
structure BelowD (D:Nat→Prop) (w w':World):Prop where
  os:w'.os=w.os
  tape:w'.tape=w.tape
  output:w'.output=w.output
  size:w.heap.size≤w'.heap.size
  block:∀ k,D k→w'.heap[k]? = w.heap[k]?
theorem BelowD.refl (D:Nat→Prop) (w:World):BelowD D w w:=⟨rfl,rfl,rfl,Nat.le_refl _,fun _ _=>rfl⟩
theorem BelowD.step {D D':Nat→Prop} {a b c:World} (h:BelowD D a b) (k:BelowD D' b c) (hd:∀ k,D k→D' k):BelowD D a c :=
  ⟨k.os.trans h.os,k.tape.trans h.tape,k.output.trans h.output,Nat.le_trans h.size k.size,fun i hi=>(k.block i (hd i hi)).trans (h.block i hi)⟩
def OwnV (O:Gh) (M:Mem) (w:World) (x:AV) (v:Value):Prop :=
  match x with
  | .lst e k (some c) xs=>(∃ ad,v=.slice ad 0 0)∨∃ g off cap cur,v=.slice (some ⟨g,off,none⟩) xs.length cap∧O false c=some g∧w.heap[g]? = some (.cells cur e (0,0))∧cur.size=off+cap * k∧xs.length≤cap∧cap≤maxLen∧∀ o,off+xs.length * k≤o→M g o=none
  | _=>True
def SbOk (O:Gh) (id k off n:Nat) (v:Value):Prop :=
  off+n≤O.len id∧((n=0∧∃ ad,v=.slice ad 0 0)∨∃ g cap,v=.slice (some ⟨g,off * k,none⟩) n cap∧O true id=some g∧O.siz id=(off+cap) * k∧n≤cap∧off+cap≤maxLen)
def CapOk (O:Gh) (M:Mem) (c:AV) (u:Value):Prop :=
  match c with
  | .pb s off=>∃ g,u=.pointer (some ⟨g,off,none⟩)∧O true s=some g
  | c=>R M c u
def CellR (O:Gh) (M:Mem) (t:Nat) (c:AV) (u:Value):Prop :=
  match c with
  | .sb id _ k off n=>SbOk O id k off n u
  | .mb kd id=>kd=0∧∃ g,O true id=some g∧u=.map (some g)
  | .slf=>u=.pointer none∨∃ g,O true t=some g∧u=.pointer (some ⟨g,0,none⟩)
  | .top=>u.oneCell'=true
  | c=>c.one=true∧R M c u
def ValOk (O:Gh) (M:Mem) (w:World) (x:AV) (v:Value):Prop :=
  match x with
  | .box _=>False
  | .obj _ _ _=>False
  | .hob _ _ _=>False
  | .bxg _=>False
  | .slf=>False
  | .agr cs=>∃ us:List Value,v=.agg us.toArray∧cs.length=us.length∧∀ (j:Nat) c u,cs[j]? = some c→us[j]? = some u→CellR O M 0 c u∧OwnV O M w c u∧c≠.slf
  | .clb f caps=>∃ vs:List Value,v=.func (.func f) #[] vs.toArray∧caps.length=vs.length∧∀ (j:Nat) c u,caps[j]? = some c→vs[j]? = some u→CapOk O M c u
  | .mb kd id=>∃ g,O true id=some g∧v=(match kd with | 0=>.map (some g) | _=>.pointer (some ⟨g,0,none⟩))
  | .pb s off=>∃ g,v=.pointer (some ⟨g,off,none⟩)∧O true s=some g
  | .pe s k j o=>∃ g,v=.pointer (some ⟨g,j * k+o,none⟩)∧O true s=some g
  | .sb id _ k off n=>SbOk O id k off n v
  | .tpr id _ k off n rest=>∃ u us,v=.tuple (u::us).toArray∧SbOk O id k off n u∧rest.length=us.length∧∀ (j:Nat) c u',rest[j]? = some c→us[j]? = some u'→R M c u'
  | x=>R M x v∧OwnV O M w x v
def BoxOk (O:Gh) (M:Mem) (w:World) (t:Nat) (cs:List AV) (v:Value):Prop :=
  ∃ g cur el,(v=.pointer (some ⟨g,0,none⟩)∨1000000≤t)∧O true t=some g∧w.heap[g]? = some (.cells cur el (0,0))∧cur.size=cs.length∧(∀ o,M g o=none) ∧
    ∀ (j:Nat) c u,cs[j]? = some c→cur[j]? = some u→c.one=true∧R M c u∧OwnV O M w c u
def RowAt (w:World) (g:Nat) (cur:Array Value) (e:Nat):Prop :=
  ∃ el fz,w.heap[g]? = some (.cells cur el fz)∧((el=e∧fz=(0,0))∨(e=el+1000000000∧cur.size≤fz.1))
theorem RowAt.plain {w:World} {g e:Nat} {cur:Array Value} (h:RowAt w g cur e) (he:e<1000000000):w.heap[g]? = some (.cells cur e (0,0)):=by
  obtain⟨el,fz,h1,h2 | h2⟩:=h
  · obtain⟨rfl,rfl⟩:=h2;exact h1
  · omega
theorem RowAt.of {w:World} {g e:Nat} {cur:Array Value} (h:w.heap[g]? = some (.cells cur e (0,0))):RowAt w g cur e:=⟨e,(0,0),h,.inl ⟨rfl,rfl⟩⟩
theorem RowAt.same {w w':World} {g e:Nat} {cur:Array Value} (h:RowAt w g cur e) (hw:w'.heap[g]? = w.heap[g]?):RowAt w' g cur e:=by
  obtain⟨el,fz,h1,h2⟩:=h;exact⟨el,fz,hw.trans h1,h2⟩
theorem RowAt.cell {w:World} {g e j:Nat} {cur:Array Value} (h:RowAt w g cur e):w.cell? ⟨g,j,none⟩=cur[j]?:=by
  obtain⟨el,fz,h1,_⟩:=h
  simp[World.cell?,h1]
def ObjOk (O:Gh) (M:Mem) (w:World) (t e k:Nat) (xs:List AV):Prop :=
  0<k∧(∀ x,x∈xs→x.cells.length=k∧x.cells.all AV.one=true)∧xs.length=O.len t ∧
  ((xs=[]∧O true t=none)∨∃ g cur,O true t=some g∧RowAt w g cur e∧cur.size=O.siz t∧xs.length * k≤cur.size∧(∀ o,M g o=none) ∧
    ∀ (j:Nat) c u,(flat xs)[j]? = some c→cur[j]? = some u→R M c u)
theorem UF {M:Mem} {ks vs:List AV} {v:Value} (h:R M (.mpv ks vs) v):(v=.map none∧ks=[]∧vs=[])∨∃ ks' vs' b es clock,PermKV ks vs ks' vs'∧v=.map (some b)∧M b 0=some (mapCell es clock)∧MapKept.Stamped es clock∧es.size≤maxLen∧ks'.length=es.size∧vs'.length=es.size ∧
    (∀ (j:Nat) k e,ks'[j]? = some k→es[j]? = some e→k.keyV=some e.key)∧∀ (j:Nat) v e,vs'[j]? = some v→es[j]? = some e→R M v e.val:=by
  generalize hx:AV.mpv ks vs=x at h
  induction h generalizing ks vs <;> try cases hx
  case mpvn=>exact .inl ⟨rfl,rfl,rfl⟩
  case mpv h1 h2 h3 h4 h5 h6 h7 _=>exact .inr ⟨_,_,_,_,_,PermKV.refl (h4.trans h5.symm),rfl,h1,h2,h3,h4,h5,h6,h7⟩
  case mpp h1 h2 ih =>
    rcases ih rfl with ⟨e,rfl,rfl⟩ | ⟨ks',vs',b,es,clock,hp,r⟩
    · have hl:=h1.length
      have hk:=List.eq_nil_of_length_eq_zero (by simpa using hl);have hv:=List.eq_nil_of_length_eq_zero (by have:=h1.1;rw[hk]at this;simpa using this.symm);exact .inl ⟨e,hk,hv⟩
    · exact .inr ⟨ks',vs',b,es,clock,h1.trans hp,r⟩
def EntOk (M:Mem) (es:Array MapEntry) (clock:Nat) (ks vs:List AV):Prop :=
  MapKept.Stamped es clock∧es.size≤maxLen∧ks.length=es.size∧vs.length=es.size∧(∀ (j:Nat) k e,ks[j]? = some k→es[j]? = some e→k.keyV=some e.key)∧∀ (j:Nat) v e,vs[j]? = some v→es[j]? = some e→R M v e.val
theorem EntOk.mono {M M':Mem} {es clock ks vs} (h:EntOk M es clock ks vs) (hs:Sub M M'):EntOk M' es clock ks vs:=by
  obtain⟨h1,h2,h3,h4,h5,h6⟩:=h;exact⟨h1,h2,h3,h4,h5,fun j v e hv he=>(h6 j v e hv he).mono hs⟩
def LeftOk0 (M:Mem) (es:Array MapEntry) (seen:Array Nat) (ks vs:List AV):Prop :=
  ks.length=(leftOf es seen).size∧vs.length=(leftOf es seen).size∧(∀ (j:Nat) k e,ks[j]? = some k→(leftOf es seen)[j]? = some e→k.keyV=some e.key) ∧
    ∀ (j:Nat) v e,vs[j]? = some v→(leftOf es seen)[j]? = some e→R M v e.val
def LeftOk (M:Mem) (es:Array MapEntry) (seen:Array Nat) (ks vs:List AV):Prop:=∃ ks' vs',PermKV ks vs ks' vs'∧LeftOk0 M es seen ks' vs'
theorem LeftOk.mono {M M':Mem} {es seen ks vs} (h:LeftOk M es seen ks vs) (hs:Sub M M'):LeftOk M' es seen ks vs:=by
  obtain⟨ks',vs',hp,h1,h2,h3,h4⟩:=h;exact⟨ks',vs',hp,h1,h2,h3,fun j v e hv he=>(h4 j v e hv he).mono hs⟩
def HobOk (O:Gh) (M:Mem) (w:World) (t kd:Nat) (ks vs:List AV):Prop :=
  ∃ g,O true t=some g∧(∀ o,M g o=none)∧match kd with
    | 0=>∃ es clock,w.heap[g]? = some (.map es clock)∧EntOk M es clock ks vs
    | 1=>(∃ c s,w.heap[g]? = some (.mapIter none c s 0)∧ks=[]∧vs=[]) ∨
      ∃ (b:Nat) (es:Array MapEntry) (clock:Nat) (seen:Array Nat) (last:Nat),w.heap[g]? = some (.mapIter (some b) clock seen last)∧clock≤last∧M b 0=some (mapCell es clock)∧MapKept.Stamped es clock∧LeftOk M es seen ks vs
    | 3=>∃ cur el,w.heap[g]? = some (.cells cur el (0,0))∧cur.size=vs.length∧∀ (j:Nat) c u,vs[j]? = some c→cur[j]? = some u→c.one=true∧c.lab? = none∧R M c u
    | _=>∃ (b:Nat) (es:Array MapEntry) (clock:Nat) (seen:Array Nat) (e:MapEntry) (k v:AV) (ks' vs':List AV),ks=k::ks'∧vs=v::vs'∧w.heap[g]? = some (.mapIter (some b) clock (seen.push e.born) clock)∧M b 0=some (mapCell es clock)∧MapKept.Stamped es clock ∧
      e∈es.toList∧k.keyV=some e.key∧R M v e.val∧LeftOk M es (seen.push e.born) ks' vs'
def BxgOk (O:Gh) (M:Mem) (w:World) (t:Nat) (cs:List AV) (v:Value):Prop :=
  ∃ g cur el,(v=.pointer (some ⟨g,0,none⟩)∨1000000≤t)∧O true t=some g∧w.heap[g]? = some (.cells cur el (0,0))∧cur.size=cs.length∧(∀ o,M g o=none) ∧
    ∀ (j:Nat) c u,cs[j]? = some c→cur[j]? = some u→CellR O M t c u
def Sat (O:Gh) (M:Mem) (w:World) (t:Nat) (x:AV) (v:Value):Prop :=
  match x with
  | .box cs=>BoxOk O M w t cs v
  | .obj e k xs=>ObjOk O M w t e k xs
  | .hob kd ks vs=>HobOk O M w t kd ks vs
  | .bxg cs=>BxgOk O M w t cs v
  | x=>ValOk O M w x v
structure Inv (bs:Base) (n:Nat) (M:Mem) (O:Gh) (env:Env) (a:Act) (w:World):Prop where
  size:a.tmps.size=n
  defers:a.defers=[]
  below:BelowD bs.D bs.w0 w
  hB:∀ k,bs.D k→k<bs.w0.heap.size
  cons:Cons M w
  ext:Sub bs.M0 M
  old:∀ b o,bs.D b→M b o=bs.M0 b o
  own:∀ i c g,O i c=some g→¬ bs.D g∧g<w.heap.size
  inj:∀ i i' c c' g,O i c=some g→O i' c'=some g→i=i'∧c=c'
  fix:n≤1000000∧∀ c,2000000≤c→c<3000000→Gh.Eq1 bs.O0 O c
  slots:∀ t x,look env t=some x→Sat O M w t x (a.tmps.getD t undef)
theorem Inv.glob {bs:Base} {n:Nat} {M:Mem} {O:Gh} {env:Env} {a:Act} {w:World} (h:Inv bs n M O env a w):Glob M:=bs.gl.mono h.ext
theorem Inv.fresh {bs:Base} {n:Nat} {M:Mem} {O:Gh} {env:Env} {a:Act} {w:World} (h:Inv bs n M O env a w) {g:Nat} (hg:w.heap.size≤g):¬ bs.D g:=by
  intro hd;have h1:=h.hB g hd;have h2:=h.below.size;omega
end Go.AM
