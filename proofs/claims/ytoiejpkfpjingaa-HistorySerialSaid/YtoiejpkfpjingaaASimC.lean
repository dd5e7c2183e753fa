import Derived.Test.YtoiejpkfpjingaaAMach
import Derived.Below
import Derived.Laws.AppendOwn
import Derived.Laws.OwnMore
import Derived.Deep.Draws
import Derived.ChangeKeysEq
import Derived.Maps.RangeRun
import Derived.Maps.Keyed
import Derived.WideKeyArr
import Derived.Laws.StructEq
import Derived.WalkKit
set_option linter.all false
open Go.Sem renaming run_bind→A0
open Nat renaming eq_of_beq_eq_true→A1, zero_add→A6, lt_of_not_le→C5, le_of_ble_eq_true→D1
open List renaming getElem?_map→A2, getElem?_eq_getElem→A3, mem_of_getElem?→A5, drop_eq_getElem_cons→A8, any_eq_true→B5, any_eq_false→B9, mem_cons_self→C4, drop_of_length_le→C6, mem_cons_of_mem→D0, flatMap_cons→D3, eq_nil_of_length_eq_zero→D5
open Go.Result renaming andThen_ok→A4
open Go.World renaming cell?→A7
open Go.MapKept renaming Stamped→A9
open Bool renaming false_eq_true→B6, and_eq_true→B7, eq_false_iff→C8, not_eq_true'→D2
open Option renaming map_some→C7
open Array renaming getElem?_eq_getElem→D4
namespace Go.AM
open Go.RowKit
abbrev Mem:=Nat→Nat→Option Value
def flat (xs:List AV):List AV:=xs.flatMap AV.cells
def mapCell (es:Array MapEntry) (clock:Nat):Value:=.tuple #[.tuple (es.map (·.key)),.tuple (es.map (·.val)),.tuple (es.map fun e=>.int .i64 e.born),.int .i64 clock]
def isTup:Value→Bool
  | .tuple _=>true
  | _=>false
def cellsAt (us:Array Value) (o:Nat):Option Value:=(us[o]?).filter fun u=>!isTup u
theorem JQ {us:Array Value} {o:Nat} {u:Value} (h:us[o]? = some u) (hu:isTup u=false):cellsAt us o=some u:=by
  unfold cellsAt;rw[h];simp[hu]
theorem YY {us:Array Value} {o:Nat} {u:Value} (h:cellsAt us o=some u):us[o]? = some u∧isTup u=false:=by
  unfold cellsAt at h;rw[Option.filter_eq_some_iff]at h;exact⟨h.1,by simpa using h.2⟩
def mc (w:World) (b o:Nat):Option Value :=
  match w.heap[b]? with
  | some (.cells c _ _)=>cellsAt c o
  | some (.map es clock)=>if o=0 then some (mapCell es clock) else none
  | _=>none
theorem Xq {w w':World} {b:Nat} (h:w'.heap[b]? = w.heap[b]?) (o:Nat):mc w' b o=mc w b o:=by
  unfold mc;rw[h]
theorem YL {w:World} {b o:Nat} {u:Value} (h:mc w b o=some u) (hu:isTup u=false):w.cell? ⟨b,o,none⟩=some u:=by
  unfold mc at h;unfold A7;simp only;split at h
  · rename_i c e fr hb
    rw[hb]
    simpa using (YY h).1
  · rename_i es clock hb
    split at h
    · cases h;cases hu
    · cases h
  · cases h
theorem UP {w:World} {b o:Nat} {u:Value} (h:w.cell? ⟨b,o,none⟩=some u) (hu:isTup u=false):mc w b o=some u:=by
  unfold mc;unfold A7 at h;simp only at h;split at h
  · rename_i c e fr hb
    rw[hb];exact JQ (by simpa using h) hu
  · cases h
theorem VE {w:World} {b o:Nat} {u:Value} (h:mc w b o=some u):b<w.heap.size:=by
  unfold mc at h;split at h
  · rename_i c e fr hb;exact (Array.getElem?_eq_some_iff.1 hb).1
  · rename_i es clock hb;exact (Array.getElem?_eq_some_iff.1 hb).1
  · cases h
theorem qhG {es es':Array MapEntry} (h1:es.map (·.key)=es'.map (·.key)) (h2:es.map (·.val)=es'.map (·.val)) (h3:es.map (fun e=>Value.int .i64 e.born)=es'.map fun e=>Value.int .i64 e.born):es=es':=by
  have hs:es.size=es'.size:=by simpa using congrArg Array.size h1
  refine Array.ext hs fun i hi hi'=>?_
  have k1:=congrArg (fun a=>a[i]?) h1;have k2:=congrArg (fun a=>a[i]?) h2;have k3:=congrArg (fun a=>a[i]?) h3;simp only[Array.getElem?_map,D4 hi,D4 hi',C7,Option.some.injEq,Value.int.injEq,true_and]at k1 k2 k3
  cases h:es[i] with
  | mk key val born =>
    cases h':es'[i] with
    | mk key' val' born' =>
      rw[h,h']at k1 k2 k3;simp only at k1 k2 k3;subst k1;subst k2
      have:born=born':=by omega
      subst this;rfl
theorem qch {w:World} {b:Nat} {es:Array MapEntry} {clock:Nat} (h:mc w b 0=some (mapCell es clock)):w.heap[b]? = some (.map es clock):=by
  unfold mc at h;split at h
  · have:=(YY h).2
    cases this
  · rename_i es' clock' hb
    rw[if_pos rfl]at h;unfold mapCell at h;simp only[Option.some.injEq,Value.tuple.injEq,Array.mk.injEq,List.cons.injEq,Value.int.injEq,true_and,and_true]at h;obtain⟨k1,k2,k3,k4⟩:=h;rw[hb,qhG k1 k2 k3,show clock'=clock by omega]
  · cases h
theorem Uo {w:World} {b:Nat} {es:Array MapEntry} {clock:Nat} (h:w.heap[b]? = some (.map es clock)):mc w b 0=some (mapCell es clock):=by
  unfold mc;rw[h];rfl
def PermKV (ks vs ks' vs':List AV):Prop:=ks.length=vs.length∧ks'.length=vs'.length∧(ks.zip vs).Perm (ks'.zip vs')
theorem PermKV.refl {ks vs:List AV} (h:ks.length=vs.length):PermKV ks vs ks vs:=⟨h,h,List.Perm.refl _⟩
theorem PermKV.trans {a b c d e f:List AV} (h:PermKV a b c d) (g:PermKV c d e f):PermKV a b e f:=⟨h.1,g.2.1,h.2.2.trans g.2.2⟩
theorem PermKV.length {ks vs ks' vs':List AV} (h:PermKV ks vs ks' vs'):ks.length=ks'.length:=by
  obtain⟨h1,h2,h3⟩:=h;have:=h3.length_eq;simp only[List.length_zip]at this;omega
inductive R (M:Mem):AV→Value→Prop where
  | top (v):R M .top v
  | und:R M .und undef
  | ub (p b:Bool):(b=true→p=true)→R M (.ub p) (.bool b)
  | int (k n):R M (.int k n) (.int k n)
  | bool (b):R M (.bool b) (.bool b)
  | str (s):R M (.str s) (.string s)
  | agg {cs:List AV} {vs:List Value}:cs.length=vs.length→(∀ (j:Nat) c v,cs[j]? = some c→vs[j]? = some v→R M c v)→R M (.agg cs) (.agg vs.toArray)
  | tup {cs:List AV} {vs:List Value}:cs.length=vs.length→(∀ (j:Nat) c v,cs[j]? = some c→vs[j]? = some v→R M c v)→R M (.tup cs) (.tuple vs.toArray)
  | nils:R M .nils (.slice none 0 0)
  | optn (x):R M (.optr true x) (.pointer none)
  | opts {x b off}:R M (.ptr x) (.pointer (some ⟨b,off,none⟩))→R M (.optr false x) (.pointer (some ⟨b,off,none⟩))
  | lstn (e k l):R M (.lst e k l []) (.slice none 0 0)
  | lste (e k l ad cap):R M (.lst e k l []) (.slice (some ad) 0 cap)
  | lst {e k l xs b off cap} (us:Nat→Value):xs.length≤cap→(∀ x,x∈xs→x.cells.length=k)→(∀ x,x∈xs→x.cells.all AV.one=true)→(∀ (j:Nat) c,(flat xs)[j]? = some c→M b (off+j)=some (us j))→(∀ (j:Nat) c,(flat xs)[j]? = some c→R M c (us j))→R M (.lst e k l xs) (.slice (some ⟨b,off,none⟩) xs.length cap)
  | ptr {x b off} (us:Nat→Value):(∀ (j:Nat) c,x.cells[j]? = some c→M b (off+j)=some (us j))→(∀ (j:Nat) c,x.cells[j]? = some c→R M c (us j))→(∀ (j:Nat) c,x.cells[j]? = some c→isTup (us j)=false)→R M (.ptr x) (.pointer (some ⟨b,off,none⟩))
  | mpvn:R M (.mpv [] []) (.map none)
  | mpv {ks vs b} {es:Array MapEntry} {clock:Nat}:M b 0=some (mapCell es clock)→A9 es clock→es.size≤maxLen→ks.length=es.size→vs.length=es.size→(∀ (j:Nat) k e,ks[j]? = some k→es[j]? = some e→k.keyV=some e.key) →
      (∀ (j:Nat) v e,vs[j]? = some v→es[j]? = some e→R M v e.val)→R M (.mpv ks vs) (.map (some b))
  | mpp {ks vs ks' vs'} {o:Option Nat}:PermKV ks vs ks' vs'→R M (.mpv ks' vs') (.map o)→R M (.mpv ks vs) (.map o)
  | clo {f caps} {vs:List Value}:caps.length=vs.length→(∀ (j:Nat) c v,caps[j]? = some c→vs[j]? = some v→R M c v)→R M (.clo f caps) (.func (.func f) #[] vs.toArray)
def Sub (M M':Mem):Prop:=∀ b o u,M b o=some u→M' b o=some u
theorem Sub.refl (M:Mem):Sub M M:=fun _ _ _ h=>h
theorem Sub.trans {A B C:Mem} (h:Sub A B) (k:Sub B C):Sub A C:=fun b o u x=>k b o u (h b o u x)
theorem R.mono {M M':Mem} (hs:Sub M M') {x:AV} {v:Value} (h:R M x v):R M' x v:=by
  induction h with
  | top v=>exact .top v
  | und=>exact .und
  | ub p b h=>exact .ub p b h
  | int k n=>exact .int k n
  | bool b=>exact .bool b
  | str s=>exact .str s
  | agg hl _ ih=>exact .agg hl ih
  | tup hl _ ih=>exact .tup hl ih
  | nils=>exact .nils
  | optn x=>exact .optn x
  | opts _ ih=>exact .opts ih
  | lstn e k l=>exact .lstn e k l
  | lste e k l ad cap=>exact .lste e k l ad cap
  | lst us h1 h2 h5 h3 _ ih=>exact .lst us h1 h2 h5 (fun j c hc=>hs _ _ _ (h3 j c hc)) ih
  | ptr us h1 _ h3 ih=>exact .ptr us (fun j c hc=>hs _ _ _ (h1 j c hc)) ih h3
  | mpvn=>exact .mpvn
  | mpv h1 h2 h3 h4 h5 h6 _ ih=>exact .mpv (hs _ _ _ h1) h2 h3 h4 h5 h6 ih
  | mpp h1 _ ih=>exact .mpp h1 ih
  | clo hl _ ih=>exact .clo hl ih
theorem R.setLab {M:Mem} {e k l l' xs v} (h:R M (.lst e k l xs) v):R M (.lst e k l' xs) v:=by
  cases h with
  | lstn=>exact .lstn e k l'
  | lste=>exact .lste e k l' _ _
  | lst us h1 h2 h5 h3 h4=>exact .lst us h1 h2 h5 h3 h4
theorem R.strip {M:Mem} {x v} (h:R M x v):R M x.strip v:=by
  cases x with
  | lst e k l xs=>exact h.setLab
  | agr cs=>cases h
  | _=>exact h
theorem R.relab {M:Mem} {x v} (l m) (h:R M x v):R M (x.relab l m) v:=by
  cases x with
  | lst e k c xs =>
    cases c with
    | none=>exact h
    | some c =>
      simp only[AV.relab];split
      · exact h.setLab
      · exact h
  | _=>exact h
theorem R.one {M:Mem} {x v} (h:R M x v) (ho:x.one=true):v.oneCell'=true:=by
  cases h <;> first | rfl | (simp[AV.one]at ho)
theorem R.cells {M:Mem} {x v} (h:R M x v) (hx:x.cells.all AV.one=true):v.cells.size=x.cells.length∧(∀ (j:Nat) c u,x.cells[j]? = some c→v.cells[j]? = some u→R M c u)∧(∀ u,u∈v.cells→u.oneCell'=true):=by
  cases h
  case agg cs vs hl hr =>
    refine⟨by simp[Value.cells,AV.cells,hl],?_,?_⟩
    · intro j c u hc hu
      exact hr j c u (by simpa[AV.cells] using hc) (by simpa[Value.cells] using hu)
    · intro u hu
      simp only[Value.cells]at hu
      have hu':u∈vs:=by simpa using hu
      obtain⟨j,hj⟩:=List.mem_iff_getElem?.1 hu';have hjlt:j<vs.length:=(List.getElem?_eq_some_iff.1 hj).1;have hc:cs[j]? = some (cs[j]'(by omega)):=A3 _;have:=hr j _ _ hc hj;refine this.one ?_;simp only[AV.cells,List.all_eq_true]at hx;exact hx _ (List.getElem_mem _)
  all_goals
    first
    | (simp[AV.cells,AV.one]at hx;done)
    | (refine⟨by simp[Value.cells,AV.cells],?_,?_⟩
       · intro j c u hc hu
         simp only[AV.cells,Value.cells]at hc hu
         cases j with
         | succ j=>simp at hc
         | zero =>
           simp at hc hu;subst hc;subst hu
           first
           | exact .int _ _
           | exact .bool _
           | exact .str _
           | exact .nils
           | exact .optn _
           | exact .opts ‹_›
           | exact .lstn _ _ _
           | exact .lste _ _ _ _ _
           | exact .lst _ ‹_› ‹_› ‹_› ‹_› ‹_›
           | exact .ptr _ ‹_› ‹_› ‹_›
           | exact .mpvn
           | exact .mpv ‹_› ‹_› ‹_› ‹_› ‹_› ‹_› ‹_›
           | exact .mpp ‹_› ‹_›
           | exact .clo ‹_› ‹_›
       · intro u hu
         simp[Value.cells]at hu;subst hu
         rfl)
theorem XJ {u:Value} (h:u.oneCell'=true):isTup u=false:=by
  cases u <;> first | rfl | cases h
def Cons (M:Mem) (w:World):Prop:=∀ b o u,M b o=some u→mc w b o=some u
theorem Cons.cell {M:Mem} {w:World} (h:Cons M w) {b o:Nat} {c:AV} {u:Value} (hm:M b o=some u) (hr:R M c u) (hc:c.one=true):w.cell? ⟨b,o,none⟩=some u:=YL (h b o u hm) (XJ (hr.one hc))
structure Gh where
  o:Bool→Nat→Option Nat
  len:Nat→Nat
  siz:Nat→Nat
instance:CoeFun Gh (fun _=>Bool→Nat→Option Nat):=⟨Gh.o⟩
def Gh.Eq1 (O O':Gh) (c:Nat):Prop:=O'.o true c=O.o true c∧O'.len c=O.len c∧O'.siz c=O.siz c
theorem Gh.Eq1.refl (O:Gh) (c:Nat):Gh.Eq1 O O c:=⟨rfl,rfl,rfl⟩
def Glob (M:Mem):Prop:=∀ g,g∈globs→∃ m,M g 0=some (.int .i64 m)
theorem Glob.mono {M M':Mem} (h:Glob M) (hs:Sub M M'):Glob M':=fun g hg=>(h g hg).imp fun m hm=>hs _ _ _ hm
theorem Glob.world {M:Mem} {w:World} (h:Glob M) (hc:Cons M w):GlobW w:=fun g hg=>(h g hg).imp fun m hm=>YL (hc _ _ _ hm) rfl
structure Base where
  D:Nat→Prop
  M0:Mem
  w0:World
  O0:Gh
  gl:Glob M0
structure BelowD (D:Nat→Prop) (w w':World):Prop where
  os:w'.os=w.os
  tape:w'.tape=w.tape
  output:w'.output=w.output
  size:w.heap.size≤w'.heap.size
  block:∀ k,D k→w'.heap[k]? = w.heap[k]?
theorem BelowD.refl (D:Nat→Prop) (w:World):BelowD D w w:=⟨rfl,rfl,rfl,Nat.le_refl _,fun _ _=>rfl⟩
theorem BelowD.step {D D':Nat→Prop} {a b c:World} (h:BelowD D a b) (k:BelowD D' b c) (hd:∀ k,D k→D' k):BelowD D a c :=
  ⟨k.os.trans h.os,k.tape.trans h.tape,k.output.trans h.output,Nat.le_trans h.size k.size,fun i hi=>(k.block i (hd i hi)).trans (h.block i hi)⟩
def OwnV (O:Gh) (M:Mem) (w:World) (x:AV) (v:Value):Prop :=
  match x with
  | .lst e k (some c) xs=>(∃ ad,v=.slice ad 0 0)∨∃ g off cap cur,v=.slice (some ⟨g,off,none⟩) xs.length cap∧O false c=some g∧w.heap[g]? = some (.cells cur e (0,0))∧cur.size=off+cap * k∧xs.length≤cap∧cap≤maxLen∧∀ o,off+xs.length * k≤o→M g o=none
  | _=>True
def SbOk (O:Gh) (id k off n:Nat) (v:Value):Prop :=
  off+n≤O.len id∧((n=0∧∃ ad,v=.slice ad 0 0)∨∃ g cap,v=.slice (some ⟨g,off * k,none⟩) n cap∧O true id=some g∧O.siz id=(off+cap) * k∧n≤cap∧off+cap≤maxLen)
def CapOk (O:Gh) (M:Mem) (c:AV) (u:Value):Prop :=
  match c with
  | .pb s off=>∃ g,u=.pointer (some ⟨g,off,none⟩)∧O true s=some g
  | c=>R M c u
def CellR (O:Gh) (M:Mem) (t:Nat) (c:AV) (u:Value):Prop :=
  match c with
  | .sb id _ k off n=>SbOk O id k off n u
  | .mb kd id=>kd=0∧∃ g,O true id=some g∧u=.map (some g)
  | .slf=>u=.pointer none∨∃ g,O true t=some g∧u=.pointer (some ⟨g,0,none⟩)
  | .top=>u.oneCell'=true
  | c=>c.one=true∧R M c u
def ValOk (O:Gh) (M:Mem) (w:World) (x:AV) (v:Value):Prop :=
  match x with
  | .box _=>False
  | .obj _ _ _=>False
  | .hob _ _ _=>False
  | .bxg _=>False
  | .slf=>False
  | .agr cs=>∃ us:List Value,v=.agg us.toArray∧cs.length=us.length∧∀ (j:Nat) c u,cs[j]? = some c→us[j]? = some u→CellR O M 0 c u∧OwnV O M w c u∧c≠.slf
  | .clb f caps=>∃ vs:List Value,v=.func (.func f) #[] vs.toArray∧caps.length=vs.length∧∀ (j:Nat) c u,caps[j]? = some c→vs[j]? = some u→CapOk O M c u
  | .mb kd id=>∃ g,O true id=some g∧v=(match kd with | 0=>.map (some g) | _=>.pointer (some ⟨g,0,none⟩))
  | .pb s off=>∃ g,v=.pointer (some ⟨g,off,none⟩)∧O true s=some g
  | .pe s k j o=>∃ g,v=.pointer (some ⟨g,j * k+o,none⟩)∧O true s=some g
  | .sb id _ k off n=>SbOk O id k off n v
  | .tpr id _ k off n rest=>∃ u us,v=.tuple (u::us).toArray∧SbOk O id k off n u∧rest.length=us.length∧∀ (j:Nat) c u',rest[j]? = some c→us[j]? = some u'→R M c u'
  | x=>R M x v∧OwnV O M w x v
def BoxOk (O:Gh) (M:Mem) (w:World) (t:Nat) (cs:List AV) (v:Value):Prop :=
  ∃ g cur el,(v=.pointer (some ⟨g,0,none⟩)∨1000000≤t)∧O true t=some g∧w.heap[g]? = some (.cells cur el (0,0))∧cur.size=cs.length∧(∀ o,M g o=none) ∧
    ∀ (j:Nat) c u,cs[j]? = some c→cur[j]? = some u→c.one=true∧R M c u∧OwnV O M w c u
def RowAt (w:World) (g:Nat) (cur:Array Value) (e:Nat):Prop :=
  ∃ el fz,w.heap[g]? = some (.cells cur el fz)∧((el=e∧fz=(0,0))∨(e=el+1000000000∧cur.size≤fz.1))
theorem RowAt.plain {w:World} {g e:Nat} {cur:Array Value} (h:RowAt w g cur e) (he:e<1000000000):w.heap[g]? = some (.cells cur e (0,0)):=by
  obtain⟨el,fz,h1,h2 | h2⟩:=h
  · obtain⟨rfl,rfl⟩:=h2;exact h1
  · omega
theorem RowAt.of {w:World} {g e:Nat} {cur:Array Value} (h:w.heap[g]? = some (.cells cur e (0,0))):RowAt w g cur e:=⟨e,(0,0),h,.inl ⟨rfl,rfl⟩⟩
theorem RowAt.same {w w':World} {g e:Nat} {cur:Array Value} (h:RowAt w g cur e) (hw:w'.heap[g]? = w.heap[g]?):RowAt w' g cur e:=by
  obtain⟨el,fz,h1,h2⟩:=h;exact⟨el,fz,hw.trans h1,h2⟩
theorem RowAt.cell {w:World} {g e j:Nat} {cur:Array Value} (h:RowAt w g cur e):w.cell? ⟨g,j,none⟩=cur[j]?:=by
  obtain⟨el,fz,h1,_⟩:=h;simp[A7,h1]
def ObjOk (O:Gh) (M:Mem) (w:World) (t e k:Nat) (xs:List AV):Prop :=
  0<k∧(∀ x,x∈xs→x.cells.length=k∧x.cells.all AV.one=true)∧xs.length=O.len t ∧
  ((xs=[]∧O true t=none)∨∃ g cur,O true t=some g∧RowAt w g cur e∧cur.size=O.siz t∧xs.length * k≤cur.size∧(∀ o,M g o=none) ∧
    ∀ (j:Nat) c u,(flat xs)[j]? = some c→cur[j]? = some u→R M c u)
theorem qeZ {M:Mem} {ks vs:List AV} {v:Value} (h:R M (.mpv ks vs) v):(v=.map none∧ks=[]∧vs=[])∨∃ ks' vs' b es clock,PermKV ks vs ks' vs'∧v=.map (some b)∧M b 0=some (mapCell es clock)∧A9 es clock∧es.size≤maxLen∧ks'.length=es.size∧vs'.length=es.size ∧
    (∀ (j:Nat) k e,ks'[j]? = some k→es[j]? = some e→k.keyV=some e.key)∧∀ (j:Nat) v e,vs'[j]? = some v→es[j]? = some e→R M v e.val:=by
  generalize hx:AV.mpv ks vs=x at h
  induction h generalizing ks vs <;> try cases hx
  case mpvn=>exact .inl ⟨rfl,rfl,rfl⟩
  case mpv h1 h2 h3 h4 h5 h6 h7 _=>exact .inr ⟨_,_,_,_,_,PermKV.refl (h4.trans h5.symm),rfl,h1,h2,h3,h4,h5,h6,h7⟩
  case mpp h1 h2 ih =>
    rcases ih rfl with ⟨e,rfl,rfl⟩ | ⟨ks',vs',b,es,clock,hp,r⟩
    · have hl:=h1.length
      have hk:=D5 (by simpa using hl);have hv:=D5 (by have:=h1.1;rw[hk]at this;simpa using this.symm);exact .inl ⟨e,hk,hv⟩
    · exact .inr ⟨ks',vs',b,es,clock,h1.trans hp,r⟩
def EntOk (M:Mem) (es:Array MapEntry) (clock:Nat) (ks vs:List AV):Prop :=
  A9 es clock∧es.size≤maxLen∧ks.length=es.size∧vs.length=es.size∧(∀ (j:Nat) k e,ks[j]? = some k→es[j]? = some e→k.keyV=some e.key)∧∀ (j:Nat) v e,vs[j]? = some v→es[j]? = some e→R M v e.val
theorem EntOk.mono {M M':Mem} {es clock ks vs} (h:EntOk M es clock ks vs) (hs:Sub M M'):EntOk M' es clock ks vs:=by
  obtain⟨h1,h2,h3,h4,h5,h6⟩:=h;exact⟨h1,h2,h3,h4,h5,fun j v e hv he=>(h6 j v e hv he).mono hs⟩
def LeftOk0 (M:Mem) (es:Array MapEntry) (seen:Array Nat) (ks vs:List AV):Prop :=
  ks.length=(leftOf es seen).size∧vs.length=(leftOf es seen).size∧(∀ (j:Nat) k e,ks[j]? = some k→(leftOf es seen)[j]? = some e→k.keyV=some e.key) ∧
    ∀ (j:Nat) v e,vs[j]? = some v→(leftOf es seen)[j]? = some e→R M v e.val
def LeftOk (M:Mem) (es:Array MapEntry) (seen:Array Nat) (ks vs:List AV):Prop:=∃ ks' vs',PermKV ks vs ks' vs'∧LeftOk0 M es seen ks' vs'
theorem LeftOk.mono {M M':Mem} {es seen ks vs} (h:LeftOk M es seen ks vs) (hs:Sub M M'):LeftOk M' es seen ks vs:=by
  obtain⟨ks',vs',hp,h1,h2,h3,h4⟩:=h;exact⟨ks',vs',hp,h1,h2,h3,fun j v e hv he=>(h4 j v e hv he).mono hs⟩
def HobOk (O:Gh) (M:Mem) (w:World) (t kd:Nat) (ks vs:List AV):Prop :=
  ∃ g,O true t=some g∧(∀ o,M g o=none)∧match kd with
    | 0=>∃ es clock,w.heap[g]? = some (.map es clock)∧EntOk M es clock ks vs
    | 1=>(∃ c s,w.heap[g]? = some (.mapIter none c s 0)∧ks=[]∧vs=[]) ∨
      ∃ (b:Nat) (es:Array MapEntry) (clock:Nat) (seen:Array Nat) (last:Nat),w.heap[g]? = some (.mapIter (some b) clock seen last)∧clock≤last∧M b 0=some (mapCell es clock)∧A9 es clock∧LeftOk M es seen ks vs
    | 3=>∃ cur el,w.heap[g]? = some (.cells cur el (0,0))∧cur.size=vs.length∧∀ (j:Nat) c u,vs[j]? = some c→cur[j]? = some u→c.one=true∧c.lab? = none∧R M c u
    | _=>∃ (b:Nat) (es:Array MapEntry) (clock:Nat) (seen:Array Nat) (e:MapEntry) (k v:AV) (ks' vs':List AV),ks=k::ks'∧vs=v::vs'∧w.heap[g]? = some (.mapIter (some b) clock (seen.push e.born) clock)∧M b 0=some (mapCell es clock)∧A9 es clock ∧
      e∈es.toList∧k.keyV=some e.key∧R M v e.val∧LeftOk M es (seen.push e.born) ks' vs'
def BxgOk (O:Gh) (M:Mem) (w:World) (t:Nat) (cs:List AV) (v:Value):Prop :=
  ∃ g cur el,(v=.pointer (some ⟨g,0,none⟩)∨1000000≤t)∧O true t=some g∧w.heap[g]? = some (.cells cur el (0,0))∧cur.size=cs.length∧(∀ o,M g o=none) ∧
    ∀ (j:Nat) c u,cs[j]? = some c→cur[j]? = some u→CellR O M t c u
def Sat (O:Gh) (M:Mem) (w:World) (t:Nat) (x:AV) (v:Value):Prop :=
  match x with
  | .box cs=>BoxOk O M w t cs v
  | .obj e k xs=>ObjOk O M w t e k xs
  | .hob kd ks vs=>HobOk O M w t kd ks vs
  | .bxg cs=>BxgOk O M w t cs v
  | x=>ValOk O M w x v
structure Inv (bs:Base) (n:Nat) (M:Mem) (O:Gh) (env:Env) (a:Act) (w:World):Prop where
  size:a.tmps.size=n
  defers:a.defers=[]
  below:BelowD bs.D bs.w0 w
  hB:∀ k,bs.D k→k<bs.w0.heap.size
  cons:Cons M w
  ext:Sub bs.M0 M
  old:∀ b o,bs.D b→M b o=bs.M0 b o
  own:∀ i c g,O i c=some g→¬ bs.D g∧g<w.heap.size
  inj:∀ i i' c c' g,O i c=some g→O i' c'=some g→i=i'∧c=c'
  fix:n≤1000000∧∀ c,2000000≤c→c<3000000→Gh.Eq1 bs.O0 O c
  slots:∀ t x,look env t=some x→Sat O M w t x (a.tmps.getD t undef)
theorem Inv.glob {bs:Base} {n:Nat} {M:Mem} {O:Gh} {env:Env} {a:Act} {w:World} (h:Inv bs n M O env a w):Glob M:=bs.gl.mono h.ext
theorem Inv.fresh {bs:Base} {n:Nat} {M:Mem} {O:Gh} {env:Env} {a:Act} {w:World} (h:Inv bs n M O env a w) {g:Nat} (hg:w.heap.size≤g):¬ bs.D g:=by
  intro hd;have h1:=h.hB g hd;have h2:=h.below.size;omega
end Go.AM
namespace Go.AM
open Go.RowKit
theorem jq (d:Nat) (v:AV) (env:Env) (t:Nat):look (ins d v env) t=if t=d then some v else look env t:=by
 induction env with
 | nil =>
  simp only[ins,look];by_cases h:t=d
  ·subst h;simp
  ·have:Nat.beq d t=false:=by rw[C8];intro hh;exact h (A1 hh).symm
   simp[this,h]
 | cons p r ih =>
  obtain⟨s,x⟩:=p;simp only[ins];split
  ·rename_i hlt
   have hne:s≠d:=by intro e;subst e;simp at hlt
   simp only[look];split
   ·rename_i hs;have:=A1 hs;subst this;rw[if_neg hne]
   ·exact ih
  ·split
   ·rename_i hs;have:=A1 hs;subst this;simp only[look];by_cases h:t=s
    ·subst h;simp
    ·have:Nat.beq s t=false:=by rw[C8];intro hh;exact h (A1 hh).symm
     simp[this,h]
   ·simp only[look];by_cases h:t=d
    ·subst h;simp
    ·have:Nat.beq d t=false:=by rw[C8];intro hh;exact h (A1 hh).symm
     simp[this,h]
theorem Yj (f:AV→AV) (env:Env) (t:Nat):look (env.map fun p=>(p.1,f p.2)) t=(look env t).map f:=by
 induction env with
 | nil=>rfl
 | cons p r ih =>
  obtain⟨s,x⟩:=p;simp only[List.map_cons,look];split <;> simp_all
theorem qes {keep:List Nat} {env:Env} {t:Nat} {x:AV} (h:look (dropE keep env) t=some x):look env t=some x:=by
 induction env with
 | nil=>simp[dropE,look]at h
 | cons p r ih =>
  obtain⟨s,y⟩:=p;simp only[look];simp only[dropE,List.filter_cons]at h;split at h
  ·simp only[look]at h;split at h
   ·exact h
   ·exact ih h
  ·rename_i hk;split
   ·rename_i hs;have:=A1 hs;subst this;exfalso;have hh:=h;clear ih h
    induction r with
    | nil=>simp[look]at hh
    | cons q r ih2 =>
     obtain⟨s2,y2⟩:=q;simp only[List.filter_cons]at hh;split at hh
     ·rename_i hk2;simp only[look]at hh;split at hh
      ·rename_i hs2;have:=A1 hs2;subst this;exact hk hk2
      ·exact ih2 hh
     ·exact ih2 hh
   ·exact ih h
theorem DV {a:Act} {d t:Nat} {v:Value} (hd:d<a.tmps.size):(a.put (some d) v).tmps.getD t undef=if t=d then v else a.tmps.getD t undef:=by
 simp only[Act.put,Array.getD_eq_getD_getElem?,Array.getElem?_setIfInBounds];by_cases h:d=t
 ·subst h;simp[hd]
 ·rw[if_neg h,if_neg (fun e=>h e.symm)]
section
variable {O O':Gh} {M M':Mem} {w w':World}
theorem OwnV.change {x:AV} {v:Value} (h:OwnV O M w x v) (hown:∀ c g,x.lab? = some c→O false c=some g→O' false c=some g∧w'.heap[g]? = w.heap[g]?∧∀ o,M g o=none→M' g o=none):OwnV O' M' w' x v:=by
 unfold OwnV at *;split at h
 ·rename_i e k c xs
  rcases h with h | ⟨g,off,cap,cur,h1,h2,h3,h4,h5,h6,h7⟩
  ·exact .inl h
  ·obtain⟨a,b,d⟩:=hown c g rfl h2;exact .inr ⟨g,off,cap,cur,h1,a,b.trans h3,h4,h5,h6,fun o ho=>d o (h7 o ho)⟩
 ·trivial
theorem SbOk.change {id k off n:Nat} {v:Value} (h:SbOk O id k off n v) (he:Gh.Eq1 O O' id):SbOk O' id k off n v:=by
 obtain⟨e1,e2,e3⟩:=he;unfold SbOk at *;rw[e1,e2,e3];exact h
theorem CellR.mono {t:Nat} {c:AV} {u:Value} (h:CellR O M t c u) (hs:Sub M M') (he:c=.slf→O' true t=O true t) (hr:∀ s,c.cref s=true→Gh.Eq1 O O' s):CellR O' M' t c u:=by
 unfold CellR at *
 cases c with
 | sb id e k off n=>exact SbOk.change h (hr id (by simp[AV.cref]))
 | mb kd id =>
  obtain⟨h1,g,h2,h3⟩:=h;exact⟨h1,g,by rw[(hr id (by simp[AV.cref])).1];exact h2,h3⟩
 | slf=>rw[he rfl];exact h
 | top=>exact h
 | _=>exact⟨h.1,h.2.mono hs⟩
theorem CellR.one {t:Nat} {c:AV} {u:Value} (h:CellR O M t c u):u.oneCell'=true:=by
 unfold CellR at h
 cases c with
 | sb id e k off n=>rcases h.2 with ⟨_,ad,e1⟩ | ⟨g1,cap,e1,_⟩ <;> rw[e1] <;> rfl
 | mb kd id=>obtain⟨_,g,_,e1⟩:=h;rw[e1];rfl
 | slf=>rcases h with e1 | ⟨g,_,e1⟩ <;> rw[e1] <;> rfl
 | top=>exact h
 | _=>exact h.2.one h.1
theorem CellR.top {t:Nat} {c:AV} {u:Value} (h:CellR O M t c u):CellR O' M' t .top u:=h.one
theorem CellR.of_one {t:Nat} {c:AV} {u:Value} (h1:c.one=true) (h:R M c u):CellR O M t c.strip u:=by
 have h2:=h.strip
 cases c <;> first | exact⟨rfl,h2⟩ | cases h1
theorem CellR.to_r {t:Nat} {c:AV} {u:Value} (h:CellR O M t c u) (h1:c.one=true):R M c.strip u:=by
 unfold CellR at h
 cases c <;> first | exact h.2.strip | cases h1
theorem CellR.san {t:Nat} {c:AV} {u:Value} (h:CellR O M t c u):R M c.san u∧OwnV O M w c.san u:=by
 unfold AV.san;split
 ·rename_i h1;have:=h.to_r h1
  cases c <;> first | exact⟨this,trivial⟩ | cases h1
 ·exact⟨.top _,trivial⟩
theorem ValOk.change {x:AV} {v:Value} (h:ValOk O M w x v) (hs:Sub M M') (href:∀ s,x.refs s=true→Gh.Eq1 O O' s)
  (hown:∀ c g,x.hasLabB c=true→O false c=some g→O' false c=some g∧w'.heap[g]? = w.heap[g]?∧∀ o,M g o=none→M' g o=none):ValOk O' M' w' x v:=by
 cases x with
 | box cs=>exact h.elim
 | obj e k xs=>exact h.elim
 | hob kd ks vs=>exact h.elim
 | bxg cs=>exact h.elim
 | slf=>exact h.elim
 | agr cs =>
  obtain⟨us,h1,h2,h3⟩:=h;refine⟨us,h1,h2,fun j c u hc hu=>?_⟩;obtain⟨k1,k2,k3⟩:=h3 j c u hc hu;have hm:=A5 hc;refine⟨k1.mono hs (fun e=>absurd e k3) fun s hcs=>href s ?_,k2.change fun c' g hl hg=>hown c' g ?_ hg,k3⟩
  ·simp only[AV.refs,B5];exact⟨c,hm,hcs⟩
  ·simp only[AV.hasLabB,B5];exact⟨c,hm,by simp[AV.hasLab,hl]⟩
 | lst e k o xs=>exact⟨h.1.mono hs,h.2.change fun c g hl hg=>hown c g (by simp only[AV.lab?]at hl;subst hl;simp[AV.hasLabB,AV.hasLab,AV.lab?]) hg⟩
 | mb kd s=>obtain⟨g,h1,h2⟩:=h;exact⟨g,by rw[(href s (by simp[AV.refs])).1];exact h1,h2⟩
 | clb f caps =>
  obtain⟨vs,h1,h2,h3⟩:=h;refine⟨vs,h1,h2,fun j c u hc hu=>?_⟩;have h4:=h3 j c u hc hu;unfold CapOk at *
  cases c with
  | pb s off =>
   obtain⟨g,k1,k2⟩:=h4;refine⟨g,k1,?_⟩
   rw[(href s (by
    simp only[AV.refs,B5]
    exact⟨_,A5 hc,by simp⟩)).1]
   exact k2
  | _=>exact h4.mono hs
 | pb s off=>obtain⟨g,h1,h2⟩:=h;exact⟨g,h1,by rw[(href s (by simp[AV.refs])).1];exact h2⟩
 | pe s k j o=>obtain⟨g,h1,h2⟩:=h;exact⟨g,h1,by rw[(href s (by simp[AV.refs])).1];exact h2⟩
 | sb s e k off n=>exact SbOk.change h (href s (by simp[AV.refs]))
 | tpr s e k off n rest =>
  obtain⟨u,us,h1,h2,h3,h4⟩:=h;exact⟨u,us,h1,SbOk.change h2 (href s (by simp[AV.refs])),h3,fun j c u' hc hu=>(h4 j c u' hc hu).mono hs⟩
 | _=>exact⟨h.1.mono hs,trivial⟩
theorem BoxOk.change {t:Nat} {cs:List AV} {v:Value} (h:BoxOk O M w t cs v) (hs:Sub M M')
  (hbox:∀ g,O true t=some g→O' true t=some g∧w'.heap[g]? = w.heap[g]?∧∀ o,M g o=none→M' g o=none)
  (hown:∀ c g (x:AV),x∈cs→x.lab? = some c→O false c=some g→O' false c=some g∧w'.heap[g]? = w.heap[g]?∧∀ o,M g o=none→M' g o=none):BoxOk O' M' w' t cs v:=by
 obtain⟨g,cur,el,h1,h2,h3,h4,h5,h6⟩:=h;obtain⟨a,b,c⟩:=hbox g h2;refine⟨g,cur,el,h1,a,b.trans h3,h4,fun o=>c o (h5 o),fun j x u hx hu=>?_⟩;obtain⟨k1,k2,k3⟩:=h6 j x u hx hu;exact⟨k1,k2.mono hs,k3.change fun c' g' hl hg=>hown c' g' x (A5 hx) hl hg⟩
theorem ObjOk.change {t e k:Nat} {xs:List AV} (h:ObjOk O M w t e k xs) (hs:Sub M M') (he:Gh.Eq1 O O' t) (hobj:∀ g,O true t=some g→w'.heap[g]? = w.heap[g]?∧∀ o,M g o=none→M' g o=none):ObjOk O' M' w' t e k xs:=by
 obtain⟨h0,h1,h2,h3⟩:=h;obtain⟨e1,e2,e3⟩:=he;refine⟨h0,h1,by rw[e2];exact h2,?_⟩
 rcases h3 with ⟨h3,h4⟩ | ⟨g,cur,k1,k2,k3,k4,k5,k6⟩
 ·exact .inl ⟨h3,by rw[e1];exact h4⟩
 ·obtain⟨a,b⟩:=hobj g k1;exact .inr ⟨g,cur,by rw[e1];exact k1,k2.same a,by rw[e3];exact k3,k4,fun o=>b o (k5 o),fun j c u hc hu=>(k6 j c u hc hu).mono hs⟩
theorem HobOk.change {t kd:Nat} {ks vs:List AV} (h:HobOk O M w t kd ks vs) (hs:Sub M M') (he:Gh.Eq1 O O' t) (hobj:∀ g,O true t=some g→w'.heap[g]? = w.heap[g]?∧∀ o,M g o=none→M' g o=none):HobOk O' M' w' t kd ks vs:=by
 obtain⟨g,h1,h2,h3⟩:=h;obtain⟨a,b⟩:=hobj g h1;refine⟨g,by rw[he.1];exact h1,fun o=>b o (h2 o),?_⟩
 match kd with
 | 0 =>
  obtain⟨es,clock,k1,k2⟩:=h3;exact⟨es,clock,a.trans k1,k2.mono hs⟩
 | 1 =>
  rcases h3 with ⟨c,s,k1,k2,k3⟩ | ⟨b,es,clock,seen,last,k1,k2,k3,k4,k5⟩
  ·exact .inl ⟨c,s,a.trans k1,k2,k3⟩
  ·exact .inr ⟨b,es,clock,seen,last,a.trans k1,k2,hs _ _ _ k3,k4,k5.mono hs⟩
 | 2 | kd+4 =>
  obtain⟨b,es,clock,seen,e,k,v,ks',vs',k1,k2,k3,k4,k5,k6,k7,k8,k9⟩:=h3;exact⟨b,es,clock,seen,e,k,v,ks',vs',k1,k2,a.trans k3,hs _ _ _ k4,k5,k6,k7,k8.mono hs,k9.mono hs⟩
 | 3 =>
  obtain⟨cur,el,k1,k2,k3⟩:=h3;exact⟨cur,el,a.trans k1,k2,fun j c u hc hu=>⟨(k3 j c u hc hu).1,(k3 j c u hc hu).2.1,(k3 j c u hc hu).2.2.mono hs⟩⟩
theorem BxgOk.change2 {t:Nat} {cs:List AV} {v:Value} (h:BxgOk O M w t cs v) (hs:Sub M M') (he:O' true t=O true t) (hr:∀ s,(AV.bxg cs).refs s=true→Gh.Eq1 O O' s) (hobj:∀ g,O true t=some g→w'.heap[g]? = w.heap[g]?∧∀ o,M g o=none→M' g o=none):BxgOk O' M' w' t cs v:=by
 obtain⟨g,cur,el,h1,h2,h3,h4,h5,h6⟩:=h;obtain⟨a,b⟩:=hobj g h2;refine⟨g,cur,el,h1,by rw[he];exact h2,a.trans h3,h4,fun o=>b o (h5 o),fun j c u hc hu=>(h6 j c u hc hu).mono hs (fun _=>he) fun s hcs=>hr s ?_⟩;simp only[AV.refs,B5];exact⟨c,A5 hc,hcs⟩
theorem BxgOk.change {t:Nat} {cs:List AV} {v:Value} (h:BxgOk O M w t cs v) (hs:Sub M M') (he:Gh.Eq1 O O' t) (hr:∀ s,(AV.bxg cs).refs s=true→Gh.Eq1 O O' s) (hobj:∀ g,O true t=some g→w'.heap[g]? = w.heap[g]?∧∀ o,M g o=none→M' g o=none):BxgOk O' M' w' t cs v :=
 h.change2 hs he.1 hr hobj
theorem XX {t:Nat} {x:AV} {v:Value} (h:ValOk O M w x v):Sat O M w t x v:=by
 cases x with
 | box cs=>exact h.elim
 | obj e k xs=>exact h.elim
 | hob kd ks vs=>exact h.elim
 | bxg cs=>exact h.elim
 | slf=>exact h.elim
 | _=>exact h
theorem Vk {t:Nat} {x:AV} {v:Value} (hx:x.ent=false) (h:Sat O M w t x v):ValOk O M w x v:=by
 cases x with
 | box cs=>cases hx
 | obj e k xs=>cases hx
 | hob kd ks vs=>cases hx
 | bxg cs=>cases hx
 | _=>exact h
theorem Sat.change2 {t:Nat} {x:AV} {v:Value} (h:Sat O M w t x v) (hs:Sub M M') (hent:x.ent=true→Gh.Eq1 O O' t) (href:∀ s,x.refs s=true→Gh.Eq1 O O' s)
  (hblk:∀ g,x.ent=true→O true t=some g→w'.heap[g]? = w.heap[g]?∧∀ o,M g o=none→M' g o=none)
  (hlab:∀ c g,O false c=some g→O' false c=some g∧w'.heap[g]? = w.heap[g]?∧∀ o,M g o=none→M' g o=none):Sat O' M' w' t x v:=by
 cases x with
 | box cs=>exact BoxOk.change h hs (fun g hg=>⟨by rw[(hent rfl).1];exact hg,hblk g rfl hg⟩) fun c g x _ _ hg=>hlab c g hg
 | obj e k xs=>exact ObjOk.change h hs (hent rfl) fun g hg=>hblk g rfl hg
 | hob kd ks vs=>exact HobOk.change h hs (hent rfl) fun g hg=>hblk g rfl hg
 | bxg cs=>exact BxgOk.change h hs (hent rfl) href fun g hg=>hblk g rfl hg
 | _ =>
  exact XX ((Vk rfl h).change hs href fun c g _ hg=>hlab c g hg)
theorem Sat.change {t:Nat} {x:AV} {v:Value} (h:Sat O M w t x v) (hs:Sub M M') (hE:∀ c,Gh.Eq1 O O' c)
  (hO:∀ i c g,O i c=some g→O' i c=some g∧w'.heap[g]? = w.heap[g]?∧∀ o,M g o=none→M' g o=none):Sat O' M' w' t x v:=by
 cases x with
 | box cs=>exact BoxOk.change h hs (fun g hg=>hO true t g hg) fun c g x _ _ hg=>hO false c g hg
 | obj e k xs=>exact ObjOk.change h hs (hE t) fun g hg=>(hO true t g hg).2
 | hob kd ks vs=>exact HobOk.change h hs (hE t) fun g hg=>(hO true t g hg).2
 | bxg cs=>exact BxgOk.change h hs (hE t) (fun s _=>hE s) fun g hg=>(hO true t g hg).2
 | _ =>
  exact XX ((Vk rfl h).change hs (fun s _=>hE s) fun c g _ hg=>hO false c g hg)
end
theorem qet (s:Nat) (c:AV):(killC s c).cref s=false:=by
 unfold killC;split
 ·rfl
 ·assumption
theorem qgZ {s s':Nat} {c:AV} (h:(killC s c).cref s'=true):c.cref s'=true:=by
 unfold killC at h;split at h
 ·cases h
 ·exact h
theorem qbF (s:Nat) (cs:List AV):(cs.map (killC s)).any (AV.cref s)=false:=by
 simp only[List.any_map,B9];intro c _;simp only[Function.comp,qet];simp
theorem Zf (s:Nat) (y:AV):(killRef s y).refs s=false:=by
 unfold killRef;split
 ·split
  ·exact qbF s _
  ·exact qbF s _
  ·rfl
 ·assumption
theorem Vu {s s':Nat} {y:AV} (h:(killRef s y).refs s'=true):y.refs s'=true:=by
 have key:∀ cs:List AV,(cs.map (killC s)).any (AV.cref s')=true→cs.any (AV.cref s')=true:=by
  intro cs h;simp only[List.any_map,B5]at h ⊢;obtain⟨c,hc,h⟩:=h;exact⟨c,hc,qgZ h⟩
 unfold killRef at h;split at h
 ·split at h
  ·exact key _ h
  ·exact key _ h
  ·cases h
 ·exact h
theorem qdo {s:Nat} {y:AV} (h:(killRef s y).ent=true):y.ent=true:=by
 unfold killRef at h;split at h
 ·split at h
  ·rfl
  ·cases h
  ·cases h
 ·exact h
theorem Sat.kill {O:Gh} {M:Mem} {w:World} {t:Nat} {y:AV} {v:Value} (h:Sat O M w t y v) (s:Nat):Sat O M w t (killRef s y) v:=by
 unfold killRef;split
 ·split
  ·rename_i cs _;obtain⟨g,cur,el,h1,h2,h3,h4,h5,h6⟩:=h;refine⟨g,cur,el,h1,h2,h3,by simpa using h4,h5,fun j c u hc hu=>?_⟩;rw[A2]at hc
   cases hz:cs[j]? with
   | none=>rw[hz]at hc;cases hc
   | some z =>
    rw[hz]at hc;cases hc;have:=h6 j z u hz hu;unfold killC;split
    ·exact this.top
    ·exact this
  ·rename_i cs _;obtain⟨us,h1,h2,h3⟩:=h;refine⟨us,h1,by simpa using h2,fun j c u hc hu=>?_⟩;rw[A2]at hc
   cases hz:cs[j]? with
   | none=>rw[hz]at hc;cases hc
   | some z =>
    rw[hz]at hc;cases hc;obtain⟨k1,k2,k3⟩:=h3 j z u hz hu;unfold killC;split
    ·exact⟨k1.top,trivial,fun e=>by cases e⟩
    ·exact⟨k1,k2,k3⟩
  ·exact⟨.top _,trivial⟩
 ·exact h
section
variable {bs:Base} {n:Nat} {M:Mem} {O:Gh} {env:Env} {a:Act} {w:World}
theorem Inv.grown (h:Inv bs n M O env a w) {w':World} {M':Mem} {row:Option Nat} (hrow:∀ g,row=some g→¬ bs.D g∧∀ i c,O i c≠some g) (hw:w.grownBy w' row) (hs:Sub M M') (hc:Cons M' w')
  (ho:∀ b o,b<w.heap.size→some b≠row→M' b o=M b o):Inv bs n M' O env a w':=by
 have hlt:∀ k,bs.D k→k<w.heap.size:=fun k hk=>by have:=h.hB k hk;have:=h.below.size;omega
 refine⟨h.size,h.defers,?_,h.hB,hc,h.ext.trans hs,?_,?_,h.inj,h.fix,?_⟩
 ·refine⟨hw.os.trans h.below.os,hw.tape.trans h.below.tape,hw.output.trans h.below.output,Nat.le_trans h.below.size hw.size,fun k hk=>?_⟩;exact (hw.block k (hlt k hk) fun e=>(hrow k e.symm).1 hk).trans (h.below.block k hk)
 ·intro b o hb;rw[ho b o (hlt b hb) (fun e=>(hrow b e.symm).1 hb)];exact h.old b o hb
 ·intro i c g hg;obtain⟨h1,h2⟩:=h.own i c g hg;exact⟨h1,Nat.lt_of_lt_of_le h2 hw.size⟩
 ·intro t x hx
  refine (h.slots t x hx).change hs (fun c=>Gh.Eq1.refl O c) fun i c g hg=>⟨hg,?_,?_⟩
  ·exact hw.block g (h.own i c g hg).2 fun e=>(hrow g e.symm).2 i c hg
  ·intro o hM;rw[ho g o (h.own i c g hg).2 fun e=>(hrow g e.symm).2 i c hg];exact hM
theorem Inv.put (h:Inv bs n M O env a w) {d:Nat} {x:AV} {v:Value} (hd:d<n) (hv:ValOk O M w x v):Inv bs n M O (ins d x env) (a.put (some d) v) w:=by
 refine⟨by simp[Act.put,h.size],h.defers,h.below,h.hB,h.cons,h.ext,h.old,h.own,h.inj,h.fix,?_⟩;intro t y hy;rw[jq]at hy;rw[DV (by rw[h.size];exact hd)];split at hy
 ·rename_i e;subst e;cases hy;rw[if_pos rfl];exact XX hv
 ·rename_i e;rw[if_neg e];exact h.slots t y hy
theorem Inv.sub (h:Inv bs n M O env a w) {env':Env} (hl:∀ t x,look env' t=some x→look env t=some x∨x=.top):Inv bs n M O env' a w:=by
 refine⟨h.size,h.defers,h.below,h.hB,h.cons,h.ext,h.old,h.own,h.inj,h.fix,fun t x hx=>?_⟩
 rcases hl t x hx with h1 | rfl
 ·exact h.slots t x h1
 ·exact⟨.top _,trivial⟩
theorem Inv.drop (h:Inv bs n M O env a w) (keep:List Nat):Inv bs n M O (dropE keep env) a w :=
 h.sub fun _ _ hx=>.inl (qes hx)
def setO (O:Gh) (i:Bool) (c:Nat) (v:Option Nat):Gh :=
 ⟨fun i' c'=>if i'=i∧c'=c then v else O.o i' c',O.len,O.siz⟩
theorem Jw (O:Gh) (i:Bool) (c:Nat) (v:Option Nat) (i':Bool) (c':Nat):(setO O i c v).o i' c'=if i'=i∧c'=c then v else O.o i' c':=rfl
theorem JL (O:Gh) (d:Nat) (v:Option Nat) (c:Nat):Gh.Eq1 O (setO O false d v) c:=⟨by simp[Jw],rfl,rfl⟩
theorem OwnV.relab {M:Mem} {w:World} {O O':Gh} {x:AV} {v:Value} {l:Nat} {m:Option Nat} (h:OwnV O M w x v)
  (h1:∀ c,m=some c→O' false c=O false l) (h2:∀ c,c≠l→O' false c=O false c∨x.lab?≠some c):OwnV O' M w (x.relab l m) v:=by
 cases x with
 | lst e k o xs =>
  cases o with
  | none=>trivial
  | some c' =>
   simp only[AV.relab];split
   ·rename_i hb;have:=A1 hb;subst this
    cases m with
    | none=>trivial
    | some c =>
     simp only[OwnV]at h ⊢;rw[h1 c rfl];exact h
   ·rename_i hb
    have hne:c'≠l:=by intro e;subst e;simp at hb
    simp only[OwnV]at h ⊢
    rcases h2 c' hne with h3 | h3
    ·rw[h3];exact h
    ·exact absurd rfl h3
 | _=>trivial
theorem qfz {l m} {x:AV}:(x.relab l m).one=x.one:=by
 cases x with
 | lst e k o xs =>
  cases o with
  | none=>rfl
  | some c=>simp only[AV.relab];split <;> rfl
 | _=>rfl
theorem CellR.relab {M:Mem} {O O':Gh} {t:Nat} {c:AV} {u:Value} {l:Nat} {m:Option Nat} (h:CellR O M t c u) (hE:∀ c,Gh.Eq1 O O' c) (hns:c≠.slf):CellR O' M t (c.relab l m) u:=by
 cases c with
 | lst e k o xs =>
  have h1:R M ((AV.lst e k o xs).relab l m) u:=R.relab l m h.2
  cases o with
  | none=>exact⟨rfl,h1⟩
  | some c =>
   simp only[AV.relab]at h1 ⊢;split
   ·rename_i hb;rw[hb]at h1;exact⟨rfl,h1⟩
   ·rename_i hb;rw[hb]at h1;exact⟨rfl,h1⟩
 | slf=>exact absurd rfl hns
 | _=>exact h.mono (Sub.refl M) (fun e=>by cases e) fun s _=>hE s
def relO (O:Gh) (l:Nat) (m:Option Nat):Gh :=
 match m with
 | some c=>setO (setO O false c (O false l)) false l none
 | none=>setO O false l none
theorem Inv.relab (h:Inv bs n M O env a w) (l:Nat) (m:Option Nat) (hm:∀ c,m=some c→c≠l∧labIn c env=false) :
  Inv bs n M (relO O l m) (relabE l m env) a w:=by
 obtain⟨O',hO'⟩:∃ O',O'=relO O l m:=⟨_,rfl⟩;rw[← hO'];unfold relO at hO'
 have ht:∀ s,O' true s=O true s:=by
  intro s;rw[hO'];cases m <;> simp[setO]
 have hf1:∀ c,m=some c→O' false c=O false l:=by
  intro c hc;subst hc;rw[hO'];have:=(hm c rfl).1;simp[setO,this]
 have hf2:∀ c,c≠l→m≠some c→O' false c=O false c:=by
  intro c hc hmc;rw[hO'];cases m with
  | none=>simp[setO,hc]
  | some c'=>have:c≠c':=fun e=>hmc (by rw[e]);simp[setO,hc,this]
 have hf3:O' false l=none:=by rw[hO'];cases m <;> simp[setO]
 have key:∀ i c g,O' i c=some g→∃ c0,O i c0=some g∧(i=true→c0=c)∧(i=false→(c0=l∧m=some c)∨(c0=c∧c≠l∧m≠some c)):=by
  intro i c g hg
  cases i with
  | true=>rw[ht]at hg;exact⟨c,hg,(fun _=>rfl),(fun e=>by cases e)⟩
  | false =>
   by_cases hcl:c=l
   ·subst hcl;rw[hf3]at hg;cases hg
   ·by_cases hmc:m=some c
    ·rw[hf1 c hmc]at hg;exact⟨l,hg,(fun e=>by cases e),fun _=>.inl ⟨rfl,hmc⟩⟩
    ·rw[hf2 c hcl hmc]at hg;exact⟨c,hg,(fun e=>by cases e),fun _=>.inr ⟨rfl,hcl,hmc⟩⟩
 have hE:∀ c,Gh.Eq1 O O' c:=by
  intro c;rw[hO'];cases m <;> exact⟨by simp[setO],rfl,rfl⟩
 have hfix:n≤1000000∧∀ c,2000000≤c→c<3000000→Gh.Eq1 bs.O0 O' c:=⟨h.fix.1,fun c h1 h2=>by
  obtain⟨e1,e2,e3⟩:=h.fix.2 c h1 h2;obtain⟨f1,f2,f3⟩:=hE c
  exact⟨f1.trans e1,f2.trans e2,f3.trans e3⟩⟩
 refine⟨h.size,h.defers,h.below,h.hB,h.cons,h.ext,h.old,?_,?_,hfix,?_⟩
 ·intro i c g hg;obtain⟨c0,h1,_⟩:=key i c g hg;exact h.own i c0 g h1
 ·intro i i' c c' g hg hg';obtain⟨c0,h1,h2,h3⟩:=key i c g hg;obtain⟨c0',h1',h2',h3'⟩:=key i' c' g hg';obtain⟨e1,e2⟩:=h.inj i i' c0 c0' g h1 h1';subst e1;subst e2;refine⟨rfl,?_⟩
  cases i with
  | true=>rw[← h2 rfl,← h2' rfl]
  | false =>
   rcases h3 rfl with ⟨ea,eb⟩ | ⟨ea,eb,ec⟩ <;> rcases h3' rfl with ⟨ea',eb'⟩ | ⟨ea',eb',ec'⟩
   ·rw[eb]at eb';exact Option.some.inj eb'
   ·rw[← ea']at eb';exact absurd ea eb'
   ·rw[← ea]at eb;exact absurd ea' eb
   ·rw[← ea,← ea']
 ·intro t x hx;unfold relabE at hx;rw[Yj (AV.relabB l m)]at hx
  obtain⟨y,hy,rfl⟩:∃ y,look env t=some y∧y.relabB l m=x:=by
   cases hh:look env t with
   | none=>rw[hh]at hx;cases hx
   | some y=>rw[hh]at hx;exact⟨y,rfl,by simpa using hx⟩
  have hsat:=h.slots t y hy
  have hno:∀ c,m=some c→y.hasLabB c=false:=by
   intro c hc;have:=(hm c hc).2;unfold labIn at this;rw[B9]at this
   have hmem:∃ q∈env,q.1=t∧q.2=y:=by
    clear hsat hx this h
    induction env with
    | nil=>simp[look]at hy
    | cons p r ih =>
     obtain⟨s,z⟩:=p;simp only[look]at hy;split at hy
     ·rename_i hs;cases hy;exact⟨(s,y),C4 ..,A1 hs,rfl⟩
     ·obtain⟨q,hq,h1,h2⟩:=ih (fun c hc=>⟨(hm c hc).1,by have:=(hm c hc).2;simp only[labIn,List.any_cons,Bool.or_eq_false_iff]at this;exact this.2⟩) hy;exact⟨q,D0 _ hq,h1,h2⟩
   obtain⟨q,hq,_,h2⟩:=hmem;have:=this q hq;rw[h2]at this
   simpa using this
  have hno1:∀ (z:AV),(∀ c,m=some c→z.hasLab c=false)→∀ c,c≠l→O' false c=O false c∨z.lab?≠some c:=by
   intro z hz c hc;by_cases hmc:m=some c
   ·refine .inr fun e=>?_
    have:=hz c hmc;simp[AV.hasLab,e]at this
   ·exact .inl (hf2 c hc hmc)
  cases y with
  | box cs =>
   obtain⟨g,cur,el,h1,h2,h3,h4,h5,h6⟩:=hsat;refine⟨g,cur,el,h1,by rw[ht];exact h2,h3,by simpa using h4,h5,fun j x u hx' hu=>?_⟩;rw[A2]at hx'
   cases hcj:cs[j]? with
   | none=>rw[hcj]at hx';cases hx'
   | some z =>
    rw[hcj]at hx';cases hx';obtain⟨k1,k2,k3⟩:=h6 j z u hcj hu;refine⟨by rw[qfz];exact k1,k2.relab l m,k3.relab hf1 (hno1 z fun c hc=>?_)⟩;have:=hno c hc;simp only[AV.hasLabB,B9]at this;have:=this z (A5 hcj)
    simpa using this
  | pb s off =>
   obtain⟨g,h1,h2⟩:=hsat;exact⟨g,h1,by rw[ht];exact h2⟩
  | pe s k j o =>
   obtain⟨g,h1,h2⟩:=hsat;exact⟨g,h1,by rw[ht];exact h2⟩
  | sb s e k off m=>exact SbOk.change hsat (hE s)
  | tpr s e k off m rest =>
   obtain⟨u,us,h1,h2,h3,h4⟩:=hsat;exact⟨u,us,h1,SbOk.change h2 (hE s),h3,h4⟩
  | obj e k xs=>exact ObjOk.change hsat (Sub.refl M) (hE t) fun g hg=>⟨rfl,fun _ hm=>hm⟩
  | hob kd ks vs=>exact HobOk.change hsat (Sub.refl M) (hE t) fun g hg=>⟨rfl,fun _ hm=>hm⟩
  | bxg cs=>exact BxgOk.change hsat (Sub.refl M) (hE t) (fun s _=>hE s) fun g hg=>⟨rfl,fun _ hm=>hm⟩
  | slf=>exact hsat.elim
  | agr cs =>
   obtain⟨us,h1,h2,h3⟩:=hsat;refine⟨us,h1,by simpa using h2,fun j x u hx' hu=>?_⟩;rw[A2]at hx'
   cases hcj:cs[j]? with
   | none=>rw[hcj]at hx';cases hx'
   | some z =>
    rw[hcj]at hx';cases hx';obtain⟨k1,k2,k3⟩:=h3 j z u hcj hu;refine⟨k1.relab hE k3,k2.relab hf1 (hno1 z fun c hc=>?_),?_⟩
    ·have:=hno c hc;simp only[AV.hasLabB,B9]at this;have:=this z (A5 hcj)
     simpa using this
    ·cases z with
     | lst e k o xs=>cases o with
      | none=>exact fun e=>by cases e
      | some c=>simp only[AV.relab];split <;> exact fun e=>by cases e
     | _=>exact k3
  | mb kd s =>
   obtain⟨g,h1,h2⟩:=hsat;exact⟨g,by rw[(hE s).1];exact h1,h2⟩
  | clb f caps =>
   obtain⟨vs,h1,h2,h3⟩:=hsat;refine⟨vs,h1,h2,fun j c u hc hu=>?_⟩;have h4:=h3 j c u hc hu;unfold CapOk at *
   cases c with
   | pb s off=>obtain⟨g,k1,k2⟩:=h4;exact⟨g,k1,by rw[(hE s).1];exact k2⟩
   | _=>exact h4
  | lst e k o xs =>
   obtain⟨h1,h2⟩:=hsat;have h3:=R.relab l m h1;have h4:=h2.relab (O':=O') (m:=m) (l:=l) hf1 (hno1 (.lst e k o xs) fun c hc=>by simpa[AV.hasLabB] using hno c hc);show Sat O' M w t ((AV.lst e k o xs).relab l m) _
   cases o with
   | none=>exact⟨h3,h4⟩
   | some c =>
    have:∃ o',(AV.lst e k (some c) xs).relab l m=.lst e k o' xs:=by
     simp only[AV.relab];split <;> exact⟨_,rfl⟩
    obtain⟨o',ho'⟩:=this;rw[ho']at h3 h4 ⊢;exact⟨h3,h4⟩
  | _=>exact⟨hsat.1,trivial⟩
end
end Go.AM
namespace Go.AM
open Go.RowKit
section
variable {bs:Base} {n:Nat} {M:Mem} {O:Gh} {env:Env} {a:Act} {w:World}
theorem Xy {v:Value} {x:AV} (h:aconst1 v=some x):R M x v∧OwnV O M w x v∧x.one=true∧x.lab? = none∧(∀ cs,x≠.box cs)∧(∀ s o,x≠.pb s o)∧(∀ cs,x≠.agg cs)∧x.cells=[x]∧v.cells=#[v]:=by
 unfold aconst1 at h;split at h <;> cases h
 ·exact⟨.bool _,trivial,rfl,rfl,(by intro _ e;cases e),(by intro _ _ e;cases e),(by intro _ e;cases e),rfl,rfl⟩
 ·exact⟨.int _ _,trivial,rfl,rfl,(by intro _ e;cases e),(by intro _ _ e;cases e),(by intro _ e;cases e),rfl,rfl⟩
 ·exact⟨.str _,trivial,rfl,rfl,(by intro _ e;cases e),(by intro _ _ e;cases e),(by intro _ e;cases e),rfl,rfl⟩
 ·exact⟨.nils,trivial,rfl,rfl,(by intro _ e;cases e),(by intro _ _ e;cases e),(by intro _ e;cases e),rfl,rfl⟩
 ·exact⟨.optn _,trivial,rfl,rfl,(by intro _ e;cases e),(by intro _ _ e;cases e),(by intro _ e;cases e),rfl,rfl⟩
 ·exact⟨.mpvn,trivial,rfl,rfl,(by intro _ e;cases e),(by intro _ _ e;cases e),(by intro _ e;cases e),rfl,rfl⟩
theorem Jk {α:Type} {l:List (Option α)} {r:List α} (h:optAll l=some r):l=r.map some:=by
 induction l generalizing r with
 | nil=>cases h;rfl
 | cons x l ih =>
  cases x with
  | none=>cases h
  | some x =>
   simp only[optAll]at h;split at h
   ·rename_i l' hl';cases h;rw[ih hl'];rfl
   ·cases h
theorem qcA {v:Value} {x:AV} (h:aconst v=some x):ValOk O M w x v:=by
 unfold aconst at h;split at h
 ·rename_i cs;split at h
  ·rename_i l hl;cases h;have hs:=Jk hl
   have hlen:cs.toList.length=l.length:=by simpa using congrArg List.length hs
   refine⟨?_,trivial⟩
   have:R M (.agg l) (.agg cs.toList.toArray):=.agg hlen.symm fun j c v hc hv=>by
    have hj:=congrArg (fun q=>q[j]?) hs;simp only[A2,hc,hv,C7]at hj;exact (Xy (O:=O) (w:=w) (Option.some.inj hj)).1
   simpa using this
  ·cases h
 ·cases h;exact⟨.top _,trivial⟩
 ·obtain⟨h1,h2,_,_,h3,h4,_⟩:=Xy (M:=M) (O:=O) (w:=w) h
  cases x with
  | box cs=>exact absurd rfl (h3 cs)
  | pb s o=>exact absurd rfl (h4 s o)
  | sb s e k off n=>cases h1
  | tpr s e k off n rest=>cases h1
  | pe s k j o=>cases h1
  | obj e k xs=>cases h1
  | hob kd ks vs=>cases h1
  | mb kd s=>cases h1
  | bxg cs=>cases h1
  | slf=>cases h1
  | agr cs=>cases h1
  | clb f caps=>cases h1
  | _=>exact⟨h1,h2⟩
theorem qD (h:Inv bs n M O env a w) {x:Operand} {v:AV} (hv:aop env x=some v):ValOk O M w v (a.eval x):=by
 cases x with
 | tmp t =>
  simp only[aop]at hv;split at hv
  ·rename_i cs hl;split at hv
   case h_2=>cases hv
   rename_i hlt;cases hv;obtain⟨g,cur,el,h1,h2,_⟩:=h.slots t _ hl;have hlt:t<1000000:=D1 hlt
   rcases h1 with h1 | h1
   ·exact⟨g,h1,h2⟩
   ·exact absurd hlt (Nat.not_lt_of_le h1)
  ·rename_i cs hl;split at hv
   case h_2=>cases hv
   rename_i hlt;cases hv;obtain⟨g,cur,el,h1,h2,_⟩:=h.slots t _ hl;have hlt:t<1000000:=D1 hlt
   rcases h1 with h1 | h1
   ·exact⟨g,h1,h2⟩
   ·exact absurd hlt (Nat.not_lt_of_le h1)
  ·cases hv
  ·cases hv
  ·rename_i y hb hx ho hm hl;cases hv;refine Vk ?_ (h.slots t _ hl)
   cases v with
   | box cs=>exact absurd rfl (hb cs)
   | obj e k xs=>exact absurd rfl (ho e k xs)
   | hob kd ks vs=>exact absurd rfl (hm kd ks vs)
   | bxg cs=>exact absurd rfl (hx cs)
   | _=>rfl
  ·cases hv
 | const c=>exact qcA hv
 | func f =>
  simp only[aop,Option.some.injEq]at hv;subst hv;exact⟨R.clo (vs:=[]) rfl (by simp),trivial⟩
 | global g=>cases hv
theorem ValOk.r {x:AV} {v:Value} (h:ValOk O M w x v) (hp:∀ s,x.refs s=false) (hnb:∀ f caps,x=.clb f caps→R M x v:=by intros;contradiction) (hnr:∀ cs,x=.agr cs→R M x v:=by intros;contradiction):R M x v:=by
 cases x with
 | box cs=>exact h.elim
 | obj e k xs=>exact h.elim
 | pb s o=>have:=hp s;simp[AV.refs]at this
 | sb s e k off n=>have:=hp s;simp[AV.refs]at this
 | tpr s e k off n rest=>have:=hp s;simp[AV.refs]at this
 | pe s k j o=>have:=hp s;simp[AV.refs]at this
 | hob kd ks vs=>exact h.elim
 | bxg cs=>exact h.elim
 | slf=>exact h.elim
 | agr cs=>exact hnr cs rfl
 | mb kd s=>have:=hp s;simp[AV.refs]at this
 | clb f caps =>
  obtain⟨vs,h1,h2,h3⟩:=h;exact hnb f caps rfl
 | _=>exact h.1
theorem Hi {O:Gh} {M:Mem} {w:World} {x:AV} {v:Value} (h:ValOk O M w x v):ValOk O M w x.strip v:=by
 cases x with
 | lst e k l xs=>exact⟨h.1.setLab,trivial⟩
 | agr cs =>
  obtain⟨us,h1,h2,h3⟩:=h;refine⟨us,h1,by simpa using h2,fun j c u hc hu=>?_⟩;rw[A2]at hc
  cases hz:cs[j]? with
  | none=>rw[hz]at hc;cases hc
  | some z =>
   rw[hz]at hc;cases hc;obtain⟨k1,k2,k3⟩:=h3 j z u hz hu
   cases z with
   | lst e k l xs=>exact⟨⟨rfl,k1.2.setLab⟩,trivial,fun e=>by cases e⟩
   | _=>exact⟨k1,k2,k3⟩
 | _=>exact h
theorem JI {x:AV} {v:Value} (h:R M x v) (hl:x.lab? = none):ValOk O M w x v:=by
 cases x with
 | box cs=>cases h
 | pb s o=>cases h
 | obj e k xs=>cases h
 | sb s e k off n=>cases h
 | tpr s e k off n rest=>cases h
 | pe s k j o=>cases h
 | hob kd ks vs=>cases h
 | mb kd s=>cases h
 | bxg cs=>cases h
 | slf=>cases h
 | agr cs=>cases h
 | clb f caps=>cases h
 | lst e k o xs=>cases o with
  | none=>exact⟨h,trivial⟩
  | some c=>cases hl
 | _=>exact⟨h,trivial⟩
theorem XY (x:AV) (v:Value):OwnV O M w x.strip v:=by
 cases x <;> trivial
def Simple (P:Program) (O:Gh) (M:Mem) (a:Act) (w:World) (o:Oper) (x:AV):Prop :=
 ∃ v,(execOp a.eval o).run P w=.ok (.value v) w∧ValOk O M w x v
variable {P:Program}
theorem QJ {k k':IntKind} (h:kbeq k k'=true):k=k':=by
 cases k <;> cases k' <;> first | rfl | cases h
theorem Hl (h:Inv bs n M O env a w) {o:Oper} {x:Operand} (ho:o.op=.move x∨o.op=.assign x) {v:AV} (hv:aop env x=some v):Simple P O M a w o v:=by
 refine⟨a.eval x,?_,qD h hv⟩;unfold execOp
 rcases ho with ho | ho <;> rw[ho] <;> rfl
theorem Hk (h:Inv bs n M O env a w) {o:Oper} {c p q:Operand} (ho:o.op=.pick c p q) {b:Bool} (hb:aop env c=some (.bool b)) {v:AV} (hv:aop env (if b then p else q)=some v):Simple P O M a w o v:=by
 have h1:a.eval c=.bool b:=by
  have:=(qD h hb).1;generalize a.eval c=y at this;cases this;rfl
 refine⟨a.eval (if b then p else q),?_,qD h hv⟩;unfold execOp;rw[ho];simp only[h1];cases b <;> rfl
def vS (s:Sem Value):Sem Next:=do pure (.value (← s))
theorem VD {s:Sem Value} {v:Value} {w w':World} (h:s.run P w=.ok v w'):(vS s).run P w=.ok (.value v) w':=by
 unfold vS;rw[A0,h];rfl
theorem R.nils_inv {v} (h:R M .nils v):v=.slice none 0 0:=by cases h;rfl
theorem R.int_inv {k m v} (h:R M (.int k m) v):v=.int k m:=by cases h;rfl
theorem R.bool_inv {b v} (h:R M (.bool b) v):v=.bool b:=by cases h;rfl
theorem R.str_inv {b v} (h:R M (.str b) v):v=.string b:=by cases h;rfl
theorem qfu (h:Inv bs n M O env a w) {o:Oper} {op:UnOp} {t:TypeId} {x:Operand} (ho:o.op=.unOp op t x) {v r:AV} (hv:aop env x=some v) (hr:aun op v=some r):Simple P O M a w o r:=by
 have hx:=qD h hv
 have he:execOp a.eval o=vS (Op.unary op (a.eval x)):=by unfold execOp;rw[ho];rfl
 unfold aun at hr;split at hr <;> cases hr
 ·rename_i b;have h1:=hx.1.bool_inv;exact⟨.bool (!b),by rw[he,h1];exact VD rfl,.bool _,trivial⟩
 ·rename_i k m;have h1:=hx.1.int_inv;exact⟨.int k (k.wrap (0 - m)),by rw[he,h1];exact VD rfl,.int _ _,trivial⟩
theorem De (op:BinOp) (t:TypeId) (x y:Operand) (k k':IntKind) (p q:Int) (w:World):(eqGuard op t x y (.int k p) (.int k' q)).run P w=.ok () w:=by
 cases op <;> rfl
theorem ZW (op:BinOp) (t:TypeId) (x y:Operand) (p q:Bool) (w:World):(eqGuard op t x y (.bool p) (.bool q)).run P w=.ok () w:=by
 cases op <;> rfl
theorem Qo (op:BinOp) (t:TypeId) (x y:Operand) (p q:ByteArray) (w:World):(eqGuard op t x y (.string p) (.string q)).run P w=.ok () w:=by
 cases op <;> rfl
theorem qcO {op:BinOp} {t:TypeId} {k k':IntKind} {p q:Int} {r:AV} (hr:abin P op t (.int k p) (.int k' q)=some r):∃ v,(binOp op t (.int k p) (.int k' q)).run P w=.ok v w∧R M r v∧r.lab? = none:=by
 cases op <;> simp only[abin]at hr
 case shl =>
  split at hr
  ·cases hr
  ·rename_i hb;cases hr;refine⟨.int k (k.wrap (p * 2 ^ min q.toNat k.bits)),?_,.int _ _,rfl⟩;simp only[binOp,Op.shift,if_neg hb];rfl
 case shr =>
  split at hr
  ·cases hr
  ·rename_i hb;cases hr;refine⟨.int k (p.fdiv (2 ^ min q.toNat k.bits)),?_,.int _ _,rfl⟩;simp only[binOp,Op.shift,if_neg hb];rfl
 case quo =>
  split at hr
  ·cases hr
  ·rename_i hk;have hk':=QJ hk;subst hk';simp only[iarith,icmp]at hr;by_cases hq:q=0
   ·simp[hq]at hr
   ·rw[if_neg hq]at hr;cases hr;refine⟨.int k (k.wrap (p.tdiv q)),?_,.int _ _,rfl⟩;simp only[binOp,ne_eq,not_true_eq_false,if_false,Op.intDiv,if_neg hq];rfl
 case rem =>
  split at hr
  ·cases hr
  ·rename_i hk;have hk':=QJ hk;subst hk';simp only[iarith,icmp]at hr;by_cases hq:q=0
   ·simp[hq]at hr
   ·rw[if_neg hq]at hr;cases hr;refine⟨.int k (p.tmod q),?_,.int _ _,rfl⟩;simp only[binOp,ne_eq,not_true_eq_false,if_false,Op.intDiv,if_neg hq];rfl
 all_goals
  (
   split at hr
   ·cases hr
   ·rename_i hk;have hk':=QJ hk;subst hk';simp only[iarith,icmp,C7]at hr;cases hr;simp only[binOp,ne_eq,not_true_eq_false,if_false,Op.intArith,Op.intBits,Op.intCmp]
    first
    | exact⟨_,rfl,.int _ _,rfl⟩
    | exact⟨_,rfl,.bool _,rfl⟩)
theorem Zh {t:TypeId} {cs:Array Value} {off:Nat} {v:Value} (ht:tAgg P t=false) (hu:P.underlying t≠none) (hv:cs[off]? = some v):(part t cs off).run P w=.ok v w:=by
 unfold part
 have h1:(isAgg t).run P w=.ok false w:=by
  unfold isAgg
  cases hd:P.underlying t with
  | none=>exact absurd hd hu
  | some d =>
   rw[A0,run_underlying hd];simp only[tAgg,hd]at ht
   cases d <;> first | rfl | cases ht
 rw[A0,h1];simp only[A4,B6,if_false,hv];rfl
theorem qbw {d k:Nat} {t:TypeId} {c e:AV} {v u:Value} {x:Bool} (hk:Xj P t=some k) (hx:aeq1 k c e=some x) (r1:R M c v) (r2:R M e u):(Op.equalIn (d+1) t v u).run P w=.ok x w:=by
 unfold Xj at hk;unfold aeq1 at hx;split at hx
 ·rename_i k1 p k' q;split at hx
  ·rename_i hkk;cases hx;have:=QJ hkk;subst this;rw[r1.int_inv,r2.int_inv]
   split at hk <;> first | (cases hk;done) | skip
   rename_i hd';exact run_equalIn_int w d _ _ _ _ _ hd'
  ·cases hx
 ·cases hx;rw[r1.bool_inv,r2.bool_inv]
  split at hk <;> first | (cases hk;done) | skip
  rename_i hd';exact run_equalIn_bool' w d _ _ _ hd'
 ·cases hx;rw[r1.str_inv,r2.str_inv]
  split at hk <;> first | (cases hk;done) | skip
  rename_i hd';exact run_equalIn_string w d _ _ _ hd'
 ·cases hx
theorem qcq {d k:Nat} {t:TypeId} {cs ds:List AV} {vs us:List Value} (hk:Xj P t=some k) (h1:cs.length=vs.length) (h2:ds.length=us.length) (hc:∀ (j:Nat) c v,cs[j]? = some c→vs[j]? = some v→R M c v) (hd:∀ (j:Nat) c v,ds[j]? = some c→us[j]? = some v→R M c v) :
  ∀ (m off:Nat) (b:Bool),aeqL (List.replicate m k) (cs.drop off) (ds.drop off)=some b→(Op.eqItems (d+1) t 1 vs.toArray us.toArray (List.range' off m)).run P w=.ok b w:=by
 have hu:P.underlying t≠none:=by intro e;rw[Xj,e]at hk;cases hk
 have hag:tAgg P t=false:=by
  have hk':=hk;unfold tAgg;unfold Xj at hk'
  split at hk' <;> rename_i e <;> first | (simp only[e];done) | (cases hk';done)
 intro m
 induction m with
 | zero =>
  intro off b hb'
  have:b=true:=by
   generalize cs.drop off=x at hb';generalize ds.drop off=y at hb';cases x <;> cases y <;> simp[aeqL]at hb';exact hb'
  subst this;rfl
 | succ m ih =>
  intro off b hb';rw[List.replicate_succ]at hb'
  have hlc:off<cs.length:=by
   refine C5 fun hle=>?_
   rw[C6 hle]at hb';simp[aeqL]at hb'
  have hld:off<ds.length:=by
   refine C5 fun hle=>?_
   rw[C6 hle,A8 hlc]at hb';simp[aeqL]at hb'
  rw[A8 hlc,A8 hld]at hb';simp only[aeqL]at hb';split at hb'
  ·rename_i x y hx hy;cases hb';have hvc:vs[off]? = some (vs[off]'(by omega)):=A3 _;have huc:us[off]? = some (us[off]'(by omega)):=A3 _;have r1:=hc off _ _ (A3 hlc) hvc;have r2:=hd off _ _ (A3 hld) huc;have p1:(part t vs.toArray (off * 1)).run P w=.ok (vs[off]'(by omega)) w:=Zh hag hu (by rw[Nat.mul_one];simp);have p2:(part t us.toArray (off * 1)).run P w=.ok (us[off]'(by omega)) w:=Zh hag hu (by rw[Nat.mul_one];simp);have p3:=qbw (w:=w) (d:=d) hk hx r1 r2;rw[List.range'_succ];unfold Op.eqItems;rw[A0,p1];simp only[A4];rw[A0,p2];simp only[A4];rw[A0,p3];simp only[A4]
   cases x with
   | false=>simp
   | true =>
    simp only[Bool.not_true,B6,if_false,Bool.true_and];exact ih (off+1) y hy
  ·cases hb'
theorem qaA {d:Nat} {cs ds:List AV} {vs us:List Value} (h1:cs.length=vs.length) (h2:ds.length=us.length) (hc:∀ (j:Nat) c v,cs[j]? = some c→vs[j]? = some v→R M c v) (hd:∀ (j:Nat) c v,ds[j]? = some c→us[j]? = some v→R M c v) :
  ∀ (fs:List Field) (off:Nat) (ks:List Nat),Vx P off fs=some ks→∀ b,aeqL ks (cs.drop off) (ds.drop off)=some b→(Op.eqFields (d+1) vs.toArray us.toArray fs).run P w=.ok b w:=by
 intro fs
 induction fs with
 | nil =>
  intro off ks hks b hb';cases hks
  have:b=true:=by
   generalize cs.drop off=x at hb';generalize ds.drop off=y at hb';cases x <;> cases y <;> simp[aeqL]at hb';exact hb'
  subst this;rfl
 | cons f fs ih =>
  intro off ks hks b hb';simp only[Vx]at hks;split at hks
  case h_2=>cases hks
  rename_i hf;simp only[B7,bne_iff_ne,ne_eq]at hf;obtain⟨hn,ho⟩:=hf;have ho':=A1 ho;split at hks
  case h_2=>cases hks
  rename_i k l hk hl;cases hks
  have hlc:off<cs.length:=by
   refine C5 fun hle=>?_
   rw[C6 hle]at hb';simp[aeqL]at hb'
  have hld:off<ds.length:=by
   refine C5 fun hle=>?_
   rw[C6 hle,A8 hlc]at hb';simp[aeqL]at hb'
  rw[A8 hlc,A8 hld]at hb';simp only[aeqL]at hb';split at hb'
  ·rename_i x y hx hy;cases hb';have hvc:vs[off]? = some (vs[off]'(by omega)):=A3 _;have huc:us[off]? = some (us[off]'(by omega)):=A3 _;have r1:=hc off _ _ (A3 hlc) hvc;have r2:=hd off _ _ (A3 hld) huc
   have hu:P.underlying f.type≠none:=by intro e;rw[Xj,e]at hk;cases hk
   have hag:tAgg P f.type=false:=by
    unfold tAgg;unfold Xj at hk
    split at hk <;> rename_i e <;> first | (simp only[e];done) | (cases hk;done)
   have p1:(part f.type vs.toArray f.offset).run P w=.ok (vs[off]'(by omega)) w:=Zh hag hu (by rw[ho'];simp);have p2:(part f.type us.toArray f.offset).run P w=.ok (us[off]'(by omega)) w:=Zh hag hu (by rw[ho'];simp);have p3:(Op.equalIn (d+1) f.type (vs[off]'(by omega)) (us[off]'(by omega))).run P w=.ok x w:=qbw hk hx r1 r2;unfold Op.eqFields;rw[if_pos hn,A0,p1];simp only[A4];rw[A0,p2];simp only[A4];rw[A0,p3];simp only[A4]
   cases x with
   | false=>simp
   | true =>
    simp only[Bool.not_true,B6,if_false,Bool.true_and];exact ih (off+1) l hl y hy
  ·cases hb'
theorem Dd (w:World) (d:Nat) (t e:TypeId) (hu:P.underlying t=some (.slice e)) (ba:Option Addr) (n c:Nat):(Op.equalIn (d+1) t (.slice ba n c) (.slice none 0 0)).run P w=.ok ba.isNone w:=by
 cases ba <;> simp[Op.equalIn,run_underlying hu]
theorem Hp (w:World) (t e:TypeId) (hu:P.underlying t=some (.slice e)) (ba:Option Addr) (n c:Nat):(binOp .eql t (.slice ba n c) (.slice none 0 0)).run P w=.ok (.bool ba.isNone) w:=by
 have h1:=Dd (P:=P) w 9999 t e hu ba n c;have h2:binOp .eql t (.slice ba n c) (.slice none 0 0)=(do pure (.bool (← Op.equalIn (9999+1) t (.slice ba n c) (.slice none 0 0)))):=rfl;rw[h2,A0,h1];rfl
theorem ZV (w:World) (d:Nat) (t e:TypeId) (hu:P.underlying t=some (.pointer e)) (ba:Option Addr):(Op.equalIn (d+1) t (.pointer ba) (.pointer none)).run P w=.ok ba.isNone w:=by
 cases ba <;> simp[Op.equalIn,run_underlying hu]
theorem qbZ (w:World) (t e:TypeId) (hu:P.underlying t=some (.pointer e)) (ba:Option Addr):(binOp .eql t (.pointer ba) (.pointer none)).run P w=.ok (.bool ba.isNone) w:=by
 have h1:=ZV (P:=P) w 9999 t e hu ba;have h2:binOp .eql t (.pointer ba) (.pointer none)=(do pure (.bool (← Op.equalIn (9999+1) t (.pointer ba) (.pointer none)))):=rfl;rw[h2,A0,h1];rfl
theorem qbY (w:World) (t e:TypeId) (hu:P.underlying t=some (.pointer e)) (ba:Option Addr):(binOp .neq t (.pointer ba) (.pointer none)).run P w=.ok (.bool (!ba.isNone)) w:=by
 have h1:=ZV (P:=P) w 9999 t e hu ba;have h2:binOp .neq t (.pointer ba) (.pointer none)=(do pure (.bool (!(← Op.equalIn (9999+1) t (.pointer ba) (.pointer none))))):=rfl;rw[h2,A0,h1];rfl
theorem R.optr_inv {b x v} (h:R M (.optr b x) v):∃ ad:Option Addr,v=.pointer ad∧ad.isNone=b:=by
 cases h with
 | optn=>exact⟨none,rfl,rfl⟩
 | opts h=>exact⟨_,rfl,rfl⟩
theorem R.ptr_some {x v} (h:R M (.ptr x) v):∃ ad,v=.pointer (some ad):=by
 cases h with
 | ptr us h1 h2=>exact⟨_,rfl⟩
theorem R.agg_inv {cs v} (h:R M (.agg cs) v):∃ vs:List Value,v=.agg vs.toArray∧cs.length=vs.length∧∀ (j:Nat) c u,cs[j]? = some c→vs[j]? = some u→R M c u:=by
 cases h with
 | agg h1 h2=>exact⟨_,rfl,h1,h2⟩
theorem qdX (h:Inv bs n M O env a w) {o:Oper} {op:BinOp} {t t':TypeId} {x y:Operand} (ho:o.op=.binOp op t x y t') {p q r:AV} (hp:aop env x=some p) (hq:aop env y=some q) (hr:abin P op t p q=some r):Simple P O M a w o r:=by
 have hx:=qD h hp;have hy:=qD h hq
 have he:execOp a.eval o=vS (do eqGuard op t x y (a.eval x) (a.eval y);binOp op t (a.eval x) (a.eval y)):=by unfold execOp;rw[ho];rfl
 have key:∀ v,(eqGuard op t x y (a.eval x) (a.eval y)).run P w=.ok () w→(binOp op t (a.eval x) (a.eval y)).run P w=.ok v w→R M r v→r.lab? = none→Simple P O M a w o r:=by
  intro v hg hb hR hl;refine⟨v,?_,JI hR hl⟩;rw[he];refine VD ?_;rw[A0,hg];exact hb
 unfold abin at hr;split at hr
 ·
  rename_i k1 p1 k2 q1;have e1:=hx.1.int_inv;have e2:=hy.1.int_inv;rw[e1,e2]at key;obtain⟨v,h1,h2,h3⟩:=qcO (M:=M) (w:=w) (P:=P) (op:=op) (t:=t) (k:=k1) (k':=k2) (p:=p1) (q:=q1) (r:=r) (by unfold abin;exact hr);exact key v (De ..) h1 h2 h3
 ·rename_i p1 q1;have e1:=hx.1.bool_inv;have e2:=hy.1.bool_inv;rw[e1,e2]at key;split at hr <;> cases hr
  ·rename_i hu;refine key (.bool (p1 == q1)) (ZW ..) ?_ (.bool _) rfl;simp only[binOp,Op.equal,Op.maxDepth,A0,run_equalIn_bool' w 9999 t p1 q1 hu];rfl
  ·rename_i hu;refine key (.bool (!(p1 == q1))) (ZW ..) ?_ (.bool _) rfl;simp only[binOp,Op.equal,Op.maxDepth,A0,run_equalIn_bool' w 9999 t p1 q1 hu];rfl
 ·
  have e1:a.eval x=.slice none 0 0:=by
   have:=hx.1;generalize a.eval x=v at this;cases this;rfl
  have e2:a.eval y=.slice none 0 0:=by
   have:=hy.1;generalize a.eval y=v at this;cases this;rfl
  rw[e1,e2]at key;split at hr <;> cases hr;rename_i hu;refine key (.bool true) rfl ?_ (.bool _) rfl;exact Hp w t _ hu _ _ _
 ·
  rename_i e1 k1 lab xs
  have e2:a.eval y=.slice none 0 0:=by
   have:=hy.1;generalize a.eval y=v at this;cases this;rfl
  split at hr <;> cases hr;rename_i hu
  have hR:∃ ba n' c',a.eval x=.slice ba n' c'∧(ba.isNone=true→xs.isEmpty=true):=by
   have:=hx.1;generalize a.eval x=v at this
   cases this with
   | lstn=>exact⟨_,_,_,rfl,fun _=>rfl⟩
   | lste=>exact⟨_,_,_,rfl,fun _=>rfl⟩
   | lst=>exact⟨_,_,_,rfl,fun h=>by simp at h⟩
  obtain⟨ba,n',c',e3,h3⟩:=hR;rw[e3,e2]at key;refine key (.bool ba.isNone) ?_ ?_ (.ub _ _ h3) rfl
  ·cases ba <;> rfl
  ·exact Hp w t _ hu _ _ _
 ·obtain⟨ad,e1,n1⟩:=R.optr_inv hx.1;obtain⟨ad2,e2,n2⟩:=R.optr_inv hy.1
  cases ad2 with
  | some _=>cases n2
  | none =>
  rw[e1,e2]at key;split at hr <;> cases hr
  ·rename_i hu;exact key (.bool ad.isNone) (by cases ad <;> rfl) (qbZ w t _ hu ad) (by rw[n1];exact .bool _) rfl
  ·rename_i hu;exact key (.bool (!ad.isNone)) (by cases ad <;> rfl) (qbY w t _ hu ad) (by rw[n1];exact .bool _) rfl
 ·rename_i p1 q1;have e1:=hx.1.str_inv;have e2:=hy.1.str_inv;rw[e1,e2]at key;split at hr
  ·cases hr;refine key (.bool (p1.toList == q1.toList)) (Qo ..) ?_ (.bool _) rfl;simp only[binOp,Op.stringOp,beq_toListBytes];rfl
  ·cases hr;refine key (.bool (!(p1.toList == q1.toList))) (Qo ..) ?_ (.bool _) rfl;simp only[binOp,Op.stringOp,bne,beq_toListBytes];rfl
  ·cases hr;exact key (.bool (Op.bytesLess p1.toList q1.toList)) (Qo ..) rfl (.bool _) rfl
  ·cases hr;exact key (.bool (Op.bytesLess p1.toList q1.toList || p1.toList == q1.toList)) (Qo ..) rfl (.bool _) rfl
  ·cases hr;exact key (.bool (!(Op.bytesLess p1.toList q1.toList || p1.toList == q1.toList))) (Qo ..) rfl (.bool _) rfl
  ·cases hr;exact key (.bool (!Op.bytesLess p1.toList q1.toList)) (Qo ..) rfl (.bool _) rfl
  ·split at hr
   case isTrue=>cases hr
   rename_i hle;cases hr;refine key (.string (p1++q1)) (Qo ..) ?_ (.str _) rfl;simp only[binOp,Op.stringOp];rw[if_neg hle];rfl
  ·cases hr
 ·rename_i xs ys;obtain⟨vs,e1,l1,c1⟩:=hx.1.agg_inv;obtain⟨us,e2,l2,c2⟩:=hy.1.agg_inv;rw[e1,e2]at key;split at hr
  case h_2=>cases hr
  rename_i ks hks
  have hgr:P.eqGuardType P.depth t=false∧∀ b,aeqL ks xs ys=some b→(Op.equalIn 10000 t (.agg vs.toArray) (.agg us.toArray)).run P w=.ok b w:=by
   unfold flatEq at hks;split at hks
   ·rename_i ks' hks';cases hks;unfold DZ at hks';split at hks'
    case h_2=>cases hks'
    rename_i fs hu;split at hks'
    case h_2=>cases hks'
    rename_i hc;simp only[B7,D2]at hc
    have hfo:P.fieldsOf t=fs:=by unfold Program.fieldsOf;rw[hu]
    refine⟨hc.2,fun b hb=>?_⟩;rw[show (10000:Nat)=9999+1 from rfl,run_equalIn_struct w 9999 t _ _ (by rw[hfo];exact hu) hc.1,hfo];exact qaA (d:=9998) l1 l2 c1 c2 fs.toList 0 ks hks' b (by simpa using hb)
   ·unfold flatArr at hks;split at hks
    case h_2=>cases hks
    rename_i m e hu;split at hks
    case h_2=>cases hks
    rename_i k hg hk hz;cases hks;rw[D2]at hg;refine⟨hg,fun b hb=>?_⟩
    obtain⟨i,hi,hsz⟩:∃ i,P.info? e=some i∧i.size=1:=by
     unfold tSize at hz
     cases hie:P.info? e with
     | none=>rw[hie]at hz;cases hz
     | some i=>rw[hie]at hz;exact⟨i,rfl,Option.some.inj hz⟩
    have hco:P.cellsOf e=1:=by unfold Program.cellsOf;rw[hi];exact hsz
    rw[show (10000:Nat)=9999+1 from rfl,run_equalIn_array w 9999 _ _ hu hi,hco,List.range_eq_range'];exact qcq (d:=9998) hk l1 l2 c1 c2 m 0 b (by simpa using hb)
  obtain⟨hgt,hrun⟩:=hgr;have hgd:(eqGuard op t x y (.agg vs.toArray) (.agg us.toArray)).run P w=.ok () w:=run_eqGuard_agg w op t x y _ _ hgt;split at hr
  ·cases hb:aeqL ks xs ys with
   | none=>rw[hb]at hr;cases hr
   | some b =>
    rw[hb]at hr;cases hr;refine key (.bool b) hgd ?_ (.bool _) rfl;rw[run_eql_struct,hrun b hb];rfl
  ·cases hb:aeqL ks xs ys with
   | none=>rw[hb]at hr;cases hr
   | some b =>
    rw[hb]at hr;cases hr;refine key (.bool (!b)) hgd ?_ (.bool _) rfl;rw[run_neq_struct,hrun b hb];rfl
  ·cases hr
 ·cases hr
theorem Uk {t:TypeId} (hu:(P.underlying t).isSome=true):(isAgg t).run P w=.ok (tAgg P t) w:=by
 unfold isAgg
 cases hd:P.underlying t with
 | none=>rw[hd]at hu;cases hu
 | some d =>
  rw[A0,run_underlying hd];simp only[tAgg,hd];cases d <;> rfl
theorem JD {t:TypeId} {s:Nat} (h:tSize P t=some s):(sizeOf t).run P w=.ok s w:=by
 unfold tSize at h
 cases hi:P.info? t with
 | none=>rw[hi]at h;cases h
 | some i =>
  rw[hi]at h;cases h;unfold sizeOf typeInfo;simp[hi]
theorem Qa (us:Nat→Value) (n j:Nat):((List.range n).map us)[j]? = if j<n then some (us j) else none:=by
 rw[A2];by_cases h:j<n
 ·simp[h]
 ·simp[h,List.getElem?_eq_none]
theorem NB {q:Option AV} {r:AV} (h:(match q with | some c=>(match c.one with | true=>some c | false=>none) | none=>none)=some r):q=some r∧r.one=true:=by
 split at h
 ·split at h
  ·rename_i c _ _ h1;cases h;exact⟨rfl,h1⟩
  ·cases h
 ·cases h
theorem YH {z:AV} (h:z.one=true):z.cells=[z]:=by
 cases z <;> first | rfl | cases h
theorem Zo {t:TypeId} {cs:List AV} {off:Nat} {r:AV} (h:cut P t cs off=some r) (j:Nat) (c:AV) (hc:r.cells[j]? = some c):∃ z,cs[off+j]? = some z∧(c=z∨c=z.strip):=by
 unfold cut at h;split at h
 case h_1=>cases h
 rename_i sz hsz;split at h
 case h_1=>cases h
 split at h
 ·cases h;simp only[AV.cells]at hc;rw[A2]at hc
  cases hz:(List.take sz (List.drop off cs))[j]? with
  | none=>rw[hz]at hc;cases hc
  | some z =>
   rw[hz]at hc;cases hc;rw[List.getElem?_take]at hz;split at hz
   ·rw[List.getElem?_drop]at hz;exact⟨z,hz,.inr rfl⟩
   ·cases hz
 ·split at h
  ·obtain⟨h1,h2⟩:=NB h;rw[YH h2]at hc
   cases j with
   | zero =>
    simp at hc;subst hc;exact⟨r,h1,.inl rfl⟩
   | succ j=>simp at hc
  ·cases h
theorem qby {t:TypeId} {cs:List AV} {off:Nat} {r:AV} (hcut:cut P t cs off=some r) (us:Nat→Value)
  (hR:∀ (j:Nat) c,cs[j]? = some c→R M c (us j)∧OwnV O M w c (us j)) :
  (tAgg P t=true∧∃ sz,tSize P t=some sz∧off+sz≤cs.length∧ValOk O M w r (.agg ((List.range sz).map fun j=>us (off+j)).toArray)) ∨
  (tAgg P t=false∧off<cs.length∧ValOk O M w r (us off)∧tSize P t=some 1):=by
 unfold cut at hcut;split at hcut
 case h_1=>cases hcut
 rename_i sz hsz;split at hcut
 case h_1=>cases hcut
 rename_i hb;simp only[B7]at hb;have hle:=D1 hb.1;split at hcut
 ·rename_i hag;cases hcut;refine .inl ⟨hag,sz,hsz,hle,?_,trivial⟩
  refine R.agg (by simp;omega) fun j c v hc hv=>?_
  rw[A2]at hc;rw[Qa]at hv;split at hv
  ·rename_i hj;cases hv
   cases hcj:(List.take sz (List.drop off cs))[j]? with
   | none=>rw[hcj]at hc;cases hc
   | some z =>
    rw[hcj]at hc;cases hc;rw[List.getElem?_take,if_pos hj,List.getElem?_drop]at hcj;exact (hR _ _ hcj).1.strip
  ·cases hv
 ·rename_i hag;split at hcut
  ·rename_i h1;have:=A1 h1;subst this;have hcut:=(NB hcut).1;have hlt:=(List.getElem?_eq_some_iff.1 hcut).1;obtain⟨h2,h3⟩:=hR _ _ hcut;refine .inr ⟨hag,hlt,?_,hsz⟩
   cases r with
   | box _=>cases h2
   | pb _ _=>cases h2
   | obj _ _ _=>cases h2
   | sb _ _ _ _ _=>cases h2
   | tpr _ _ _ _ _ _=>cases h2
   | pe _ _ _ _=>cases h2
   | hob _ _ _=>cases h2
   | mb _ _=>cases h2
   | bxg _=>cases h2
   | slf=>cases h2
   | agr _=>cases h2
   | clb _ _=>cases h2
   | _=>exact⟨h2,h3⟩
  ·cases hcut
theorem QN (b o j:Nat):(⟨b,o,none⟩:Addr).add j=⟨b,o+j,none⟩:=by
 unfold Addr.add;split
 ·rename_i h;subst h;rfl
 ·rfl
theorem Qn {t:TypeId} {cs:List AV} {off b base:Nat} {r:AV} (hcut:cut P t cs off=some r) (us:Nat→Value)
  (hc:∀ (j:Nat) c,cs[j]? = some c→w.cell? ⟨b,base+j,none⟩=some (us j))
  (hR:∀ (j:Nat) c,cs[j]? = some c→R M c (us j)∧OwnV O M w c (us j)) :
  ∃ v,(loadVar t ⟨b,base+off,none⟩).run P w=.ok v w∧ValOk O M w r v:=by
 have hu:(P.underlying t).isSome=true:=by
  unfold cut at hcut;split at hcut
  ·cases hcut
  ·split at hcut
   ·cases hcut
   ·rename_i hb;simp only[B7]at hb;exact hb.2
 rcases qby (O:=O) (w:=w) hcut us hR with ⟨hag,sz,hsz,hle,hv⟩ | ⟨hag,hlt,hv,_⟩
 ·refine⟨_,?_,hv⟩;unfold loadVar;rw[A0,Uk hu,hag];simp only[A4,if_true];rw[A0,JD hsz];simp only[A4]
  rw[A0,run_loadCells w ⟨b,base+off,none⟩ sz (fun j=>us (off+j)) (fun j hj=>by
   rw[QN,Nat.add_assoc]
   exact hc (off+j) _ (A3 (by omega)))]
  rfl
 ·refine⟨_,?_,hv⟩;unfold loadVar;rw[A0,Uk hu,hag];simp only[A4,B6,if_false];rw[run_load,hc off _ (A3 hlt)]
theorem R.ptr_inv {x v} (h:R M (.ptr x) v):∃ (b off:Nat) (us:Nat→Value),v=.pointer (some ⟨b,off,none⟩)∧(∀ (j:Nat) c,x.cells[j]? = some c→M b (off+j)=some (us j))∧(∀ (j:Nat) c,x.cells[j]? = some c→R M c (us j))∧(∀ (j:Nat) c,x.cells[j]? = some c→isTup (us j)=false):=by
 cases h with
 | ptr us h1 h2 h3=>exact⟨_,_,us,rfl,h1,h2,h3⟩
theorem Vf (h:Inv bs n M O env a w) {s g:Nat} {cs:List AV} (hl:look env s=some (.box cs)) (hO:O true s=some g) :
  ∃ cur el,w.heap[g]? = some (.cells cur el (0,0))∧cur.size=cs.length∧(∀ o,M g o=none)∧(∀ (j:Nat) c,cs[j]? = some c→w.cell? ⟨g,j,none⟩=some (cur.getD j undef)∧c.one=true∧R M c (cur.getD j undef)∧OwnV O M w c (cur.getD j undef)):=by
 obtain⟨g',cur,el,h1,h2,h3,h4,h5,h6⟩:=h.slots s _ hl
 have:g'=g:=by rw[h2]at hO;exact Option.some.inj hO
 subst this;refine⟨cur,el,h3,h4,h5,fun j c hc=>?_⟩
 have hj:j<cur.size:=by rw[h4];exact (List.getElem?_eq_some_iff.1 hc).1
 have e:cur[j]? = some (cur.getD j undef):=by simp[hj]
 exact⟨by unfold A7;rw[h3];exact e,h6 j c _ hc e⟩
theorem qek {c:AV} {u:Value} (h:c.lab? = none):OwnV O M w c u:=by
 unfold OwnV;split
 ·rename_i e k l xs;cases h
 ·trivial
theorem qbn (h:Inv bs n M O env a w) {s g:Nat} {ks cs:List AV} (hl:look env s=some (.hob 3 ks cs)) (hO:O true s=some g) :
  ∃ cur el,w.heap[g]? = some (.cells cur el (0,0))∧cur.size=cs.length∧(∀ o,M g o=none)∧(∀ (j:Nat) c,cs[j]? = some c→w.cell? ⟨g,j,none⟩=some (cur.getD j undef)∧c.one=true∧R M c (cur.getD j undef)∧OwnV O M w c (cur.getD j undef)):=by
 obtain⟨g',h2,h5,cur,el,h3,h4,h6⟩:=h.slots s _ hl
 have:g'=g:=by rw[h2]at hO;exact Option.some.inj hO
 subst this;refine⟨cur,el,h3,h4,h5,fun j c hc=>?_⟩
 have hj:j<cur.size:=by rw[h4];exact (List.getElem?_eq_some_iff.1 hc).1
 have e:cur[j]? = some (cur.getD j undef):=by simp[hj]
 obtain⟨k1,k2,k3⟩:=h6 j c _ hc e;exact⟨by unfold A7;rw[h3];exact e,k1,k3,qek k2⟩
theorem Jc {k:Nat}:∀ {xs:List AV},(∀ x,x∈xs→x.cells.length=k)→(flat xs).length=xs.length * k
 | [],_=>by simp[flat]
 | x::xs,h=>by
  have h1:=h x (C4 ..)
  have h2:=Jc (xs:=xs) fun y hy=>h y (D0 _ hy)
  simp only[flat,D3,List.length_append,List.length_cons]at h2 ⊢;rw[h1];have:(List.flatMap AV.cells xs).length=xs.length * k:=h2;rw[this,Nat.add_mul];omega
theorem Yq {k:Nat}:∀ {xs:List AV} {i:Nat} {x:AV},(∀ x,x∈xs→x.cells.length=k)→xs[i]? = some x→∀ j,j<k→(flat xs)[i * k+j]? = x.cells[j]?
 | [],i,x,_,hx,_,_=>by simp at hx
 | y::xs,0,x,h,hx,j,hj=>by
  simp at hx;subst hx;have h1:=h y (C4 ..);simp only[flat,D3,Nat.zero_mul,A6];rw[List.getElem?_append_left (by omega)]
 | y::xs,i+1,x,h,hx,j,hj=>by
  have h1:=h y (C4 ..);have h2:=Yq (xs:=xs) (i:=i) (x:=x) (fun z hz=>h z (D0 _ hz)) (by simpa using hx) j hj;simp only[flat,D3];rw[List.getElem?_append_right (by rw[h1,Nat.add_mul];omega),h1,show (i+1) * k+j - k=i * k+j by rw[Nat.add_mul];omega];exact h2
theorem qcH (h:Inv bs n M O env a w) {o:Oper} {t:TypeId} {x:Operand} (ho:o.op=.load t x) {p r:AV} (hp:aop env x=some p) (hr:aload P env t p=some r):Simple P O M a w o r:=by
 have hx:=qD h hp
 have he:execOp a.eval o=vS (Instr.loadAt t (a.eval x)):=by unfold execOp;rw[ho];rfl
 unfold aload at hr;split at hr
 ·rename_i s off;split at hr
  case h_4=>cases hr
  case h_3 =>
   rename_i ks cs hl;obtain⟨g,h1,h2⟩:=hx;obtain⟨cur,el,h3,h4,h5,h6⟩:=qbn h hl h2;obtain⟨v,hv1,hv2⟩:=Qn (O:=O) (M:=M) (w:=w) (b:=g) (base:=0) hr (fun j=>cur.getD j undef) (fun j c hc=>by rw[A6];exact (h6 j c hc).1) (fun j c hc=>(h6 j c hc).2.2);refine⟨v,?_,hv2⟩;rw[he,h1];refine VD ?_;rw[A6]at hv1;exact hv1
  case h_2 =>
   rename_i cs hl;obtain⟨g,h1,h2⟩:=hx;obtain⟨g',cur,el,k1,k2,k3,k4,k5,k6⟩:=h.slots s _ hl
   have:g'=g:=by rw[k2]at h2;exact Option.some.inj h2
   subst this
   have cellv:∀ (j:Nat) c,cs[j]? = some c→w.cell? ⟨g',j,none⟩=some (cur.getD j undef)∧CellR O M s c (cur.getD j undef):=by
    intro j c hc
    have hj:j<cur.size:=by rw[k4];exact (List.getElem?_eq_some_iff.1 hc).1
    have e:cur[j]? = some (cur.getD j undef):=by simp[hj]
    exact⟨by unfold A7;rw[k3];exact e,k6 j c _ hc e⟩
   unfold cutG at hr;split at hr
   ·rename_i v0 hcut;cases hr
    have hget:∀ (j:Nat) c,(cs.map AV.san)[j]? = some c→∃ z,cs[j]? = some z∧c=z.san:=by
     intro j c hc;rw[A2]at hc
     cases hz:cs[j]? with
     | none=>rw[hz]at hc;cases hc
     | some z=>rw[hz]at hc;exact⟨z,rfl,(Option.some.inj hc).symm⟩
    obtain⟨v,hv1,hv2⟩:=Qn (O:=O) (M:=M) (w:=w) (b:=g') (base:=0) hcut (fun j=>cur.getD j undef)
     (fun j c hc=>by obtain⟨z,hz,_⟩:=hget j c hc;rw[A6];exact (cellv _ z hz).1)
     (fun j c hc=>by
      obtain⟨z,hz,e⟩:=hget j c hc;subst e
      exact (cellv _ z hz).2.san)
    refine⟨v,?_,hv2⟩;rw[he,h1];refine VD ?_;rw[A6]at hv1;exact hv1
   split at hr
   ·cases hr
   rename_i sz hsz
   have raw:∀ c,cs[off]? = some c→(Nat.beq sz 1 && !tAgg P t && (P.underlying t).isSome)=true→(execOp a.eval o).run P w=.ok (.value (cur.getD off undef)) w:=by
    intro c hc hcond;simp only[B7,D2]at hcond;rw[he,h1];refine VD ?_;show (loadVar t ⟨g',off,none⟩).run P w=_;unfold loadVar;rw[A0,Uk hcond.2,hcond.1.2];simp only[A4,B6,if_false];rw[run_load,(cellv off c hc).1]
   split at hr
   ·rename_i id e k o2 m hcond hc;cases hr;exact⟨_,raw _ hc hcond,(cellv off _ hc).2⟩
   ·rename_i id hcond hc;cases hr;obtain⟨_,g2,q1,q2⟩:=(cellv off _ hc).2;exact⟨_,raw _ hc hcond,g2,q1,q2⟩
   ·cases hr
  rename_i cs hl;obtain⟨g,h1,h2⟩:=hx;obtain⟨cur,el,h3,h4,h5,h6⟩:=Vf h hl h2;obtain⟨v,hv1,hv2⟩:=Qn (O:=O) (b:=g) (base:=0) hr (fun j=>cur.getD j undef) (fun j c hc=>by rw[A6];exact (h6 j c hc).1) (fun j c hc=>(h6 j c hc).2.2);refine⟨v,?_,hv2⟩;rw[he,h1];refine VD ?_;show (loadVar t ⟨g,off,none⟩).run P w=_;rw[A6]at hv1;exact hv1
 ·rename_i y;obtain⟨b,off,us,h1,h2,h3,h4⟩:=hx.1.ptr_inv
  have hcell:∀ (j:Nat) c,(y.cells.map AV.strip)[j]? = some c→∃ z,y.cells[j]? = some z∧c=z.strip:=by
   intro j c hc;rw[A2]at hc
   cases hz:y.cells[j]? with
   | none=>rw[hz]at hc;cases hc
   | some z=>rw[hz]at hc;exact⟨z,rfl,(Option.some.inj hc).symm⟩
  obtain⟨v,hv1,hv2⟩:=Qn (O:=O) (b:=b) (base:=off) (off:=0) hr us
   (fun j c hc=>by obtain⟨z,hz,_⟩:=hcell j c hc;exact YL (h.cons _ _ _ (h2 j z hz)) (h4 j z hz))
   (fun j c hc=>by
    obtain⟨z,hz,e⟩:=hcell j c hc;subst e
    exact⟨(h3 j z hz).strip,XY z _⟩)
  refine⟨v,?_,hv2⟩;rw[he,h1];refine VD ?_;exact hv1
 ·rename_i id k j o';split at hr
  case h_2=>cases hr
  rename_i e k' xs hl;split at hr
  case h_2=>cases hr
  rename_i hk;have hk:=A1 hk;subst hk;split at hr
  case h_2=>cases hr
  rename_i y hy;obtain⟨g,h1,h2⟩:=hx;obtain⟨h0,h3,h4,h5⟩:=h.slots id _ hl
  rcases h5 with ⟨rfl,_⟩ | ⟨g',cur,k1,k2,k3,k4,k5,k6⟩
  ·simp at hy
  have:g'=g:=by rw[k1]at h2;exact Option.some.inj h2
  subst this
  have hlen:∀ z,z∈xs→z.cells.length=k:=fun z hz=>(h3 z hz).1
  have hyk:=hlen y (A5 hy)
  have hcell:∀ (i:Nat) c,y.cells[i]? = some c→cur[j * k+i]? = some (cur.getD (j * k+i) undef)∧R M c (cur.getD (j * k+i) undef):=by
   intro i c hc
   have hi:i<k:=by rw[← hyk];exact (List.getElem?_eq_some_iff.1 hc).1
   have hf:=Yq hlen hy i hi;rw[hc]at hf;have hlt:=(List.getElem?_eq_some_iff.1 hf).1;rw[Jc hlen]at hlt
   have e1:cur[j * k+i]? = some (cur.getD (j * k+i) undef):=by
    have:j * k+i<cur.size:=by omega
    simp[this]
   exact⟨e1,k6 _ _ _ hf e1⟩
  have hone:y.cells.all AV.one=true:=(h3 y (A5 hy)).2
  have hstr:∀ (i:Nat) c,(y.cells.map AV.strip)[i]? = some c→∃ z,y.cells[i]? = some z∧c=z.strip:=by
   intro i c hc;rw[A2]at hc
   cases hz:y.cells[i]? with
   | none=>rw[hz]at hc;cases hc
   | some z=>rw[hz]at hc;exact⟨z,rfl,(Option.some.inj hc).symm⟩
  obtain⟨v,hv1,hv2⟩:=Qn (O:=O) (M:=M) (w:=w) (b:=g') (base:=j * k) hr (fun i=>cur.getD (j * k+i) undef)
   (fun i c hc=>by obtain⟨z,hz,_⟩:=hstr i c hc;rw[k2.cell];exact (hcell i z hz).1)
   (fun i c hc=>by
    obtain⟨z,hz,e⟩:=hstr i c hc;subst e
    exact⟨(hcell i z hz).2.strip,XY z _⟩)
  refine⟨v,?_,hv2⟩;rw[he,h1];refine VD ?_;exact hv1
 ·cases hr
end
end Go.AM
