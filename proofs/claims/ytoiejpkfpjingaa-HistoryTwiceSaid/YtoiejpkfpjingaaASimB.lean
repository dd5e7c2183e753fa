import Derived.Test.YtoiejpkfpjingaaAMach
import Derived.Below
import Derived.Laws.AppendOwn
import Derived.Laws.OwnMore
import Derived.Deep.Draws
import Derived.ChangeKeysEq
import Derived.Maps.RangeRun
import Derived.Maps.Keyed
import Derived.WideKeyArr
set_option linter.all false
open Nat renaming eq_of_beq_eq_true→A0
open List renaming mem_of_getElem?→A1, any_eq_true→A3, any_eq_false→A4, getElem?_map→A5, eq_nil_of_length_eq_zero→A9
open Go.MapKept renaming Stamped→A2
open Go.World renaming cell?→A6
open Bool renaming eq_false_iff→A7
open Array renaming getElem?_eq_getElem→A8
namespace Go.AM
open Go.RowKit
abbrev Mem:=Nat→Nat→Option Value
def flat (xs:List AV):List AV:=xs.flatMap AV.cells
def mapCell (es:Array MapEntry) (clock:Nat):Value:=.tuple #[.tuple (es.map (·.key)),.tuple (es.map (·.val)),.tuple (es.map fun e=>.int .i64 e.born),.int .i64 clock]
def isTup:Value→Bool
  | .tuple _=>true
  | _=>false
def cellsAt (us:Array Value) (o:Nat):Option Value:=(us[o]?).filter fun u=>!isTup u
theorem jk {us:Array Value} {o:Nat} {u:Value} (h:us[o]? = some u) (hu:isTup u=false):cellsAt us o=some u:=by
  unfold cellsAt;rw[h];simp[hu]
theorem Ql {us:Array Value} {o:Nat} {u:Value} (h:cellsAt us o=some u):us[o]? = some u∧isTup u=false:=by
  unfold cellsAt at h;rw[Option.filter_eq_some_iff]at h;exact⟨h.1,by simpa using h.2⟩
def mc (w:World) (b o:Nat):Option Value :=
  match w.heap[b]? with
  | some (.cells c _ _)=>cellsAt c o
  | some (.map es clock)=>if o=0 then some (mapCell es clock) else none
  | _=>none
theorem jY {w w':World} {b:Nat} (h:w'.heap[b]? = w.heap[b]?) (o:Nat):mc w' b o=mc w b o:=by
  unfold mc;rw[h]
theorem Qs {w:World} {b o:Nat} {u:Value} (h:mc w b o=some u) (hu:isTup u=false):w.cell? ⟨b,o,none⟩=some u:=by
  unfold mc at h;unfold A6;simp only;split at h
  · rename_i c e fr hb
    rw[hb]
    simpa using (Ql h).1
  · rename_i es clock hb
    split at h
    · cases h;cases hu
    · cases h
  · cases h
theorem YD {w:World} {b o:Nat} {u:Value} (h:w.cell? ⟨b,o,none⟩=some u) (hu:isTup u=false):mc w b o=some u:=by
  unfold mc;unfold A6 at h;simp only at h;split at h
  · rename_i c e fr hb
    rw[hb];exact jk (by simpa using h) hu
  · cases h
theorem XC {w:World} {b o:Nat} {u:Value} (h:mc w b o=some u):b<w.heap.size:=by
  unfold mc at h;split at h
  · rename_i c e fr hb;exact (Array.getElem?_eq_some_iff.1 hb).1
  · rename_i es clock hb;exact (Array.getElem?_eq_some_iff.1 hb).1
  · cases h
theorem qbD {es es':Array MapEntry} (h1:es.map (·.key)=es'.map (·.key)) (h2:es.map (·.val)=es'.map (·.val)) (h3:es.map (fun e=>Value.int .i64 e.born)=es'.map fun e=>Value.int .i64 e.born):es=es':=by
  have hs:es.size=es'.size:=by simpa using congrArg Array.size h1
  refine Array.ext hs fun i hi hi'=>?_
  have k1:=congrArg (fun a=>a[i]?) h1;have k2:=congrArg (fun a=>a[i]?) h2;have k3:=congrArg (fun a=>a[i]?) h3;simp only[Array.getElem?_map,A8 hi,A8 hi',Option.map_some,Option.some.injEq,Value.int.injEq,true_and]at k1 k2 k3
  cases h:es[i] with
  | mk key val born =>
    cases h':es'[i] with
    | mk key' val' born' =>
      rw[h,h']at k1 k2 k3;simp only at k1 k2 k3;subst k1;subst k2
      have:born=born':=by omega
      subst this;rfl
theorem Nw {w:World} {b:Nat} {es:Array MapEntry} {clock:Nat} (h:mc w b 0=some (mapCell es clock)):w.heap[b]? = some (.map es clock):=by
  unfold mc at h;split at h
  · have:=(Ql h).2
    cases this
  · rename_i es' clock' hb
    rw[if_pos rfl]at h;unfold mapCell at h;simp only[Option.some.injEq,Value.tuple.injEq,Array.mk.injEq,List.cons.injEq,Value.int.injEq,true_and,and_true]at h;obtain⟨k1,k2,k3,k4⟩:=h;rw[hb,qbD k1 k2 k3,show clock'=clock by omega]
  · cases h
theorem ZA {w:World} {b:Nat} {es:Array MapEntry} {clock:Nat} (h:w.heap[b]? = some (.map es clock)):mc w b 0=some (mapCell es clock):=by
  unfold mc;rw[h];rfl
def PermKV (ks vs ks' vs':List AV):Prop:=ks.length=vs.length∧ks'.length=vs'.length∧(ks.zip vs).Perm (ks'.zip vs')
theorem PermKV.refl {ks vs:List AV} (h:ks.length=vs.length):PermKV ks vs ks vs:=⟨h,h,List.Perm.refl _⟩
theorem PermKV.trans {a b c d e f:List AV} (h:PermKV a b c d) (g:PermKV c d e f):PermKV a b e f:=⟨h.1,g.2.1,h.2.2.trans g.2.2⟩
theorem PermKV.length {ks vs ks' vs':List AV} (h:PermKV ks vs ks' vs'):ks.length=ks'.length:=by
  obtain⟨h1,h2,h3⟩:=h;have:=h3.length_eq;simp only[List.length_zip]at this;omega
inductive R (M:Mem):AV→Value→Prop where
  | top (v):R M .top v
  | und:R M .und undef
  | ub (p b:Bool):(b=true→p=true)→R M (.ub p) (.bool b)
  | int (k n):R M (.int k n) (.int k n)
  | bool (b):R M (.bool b) (.bool b)
  | str (s):R M (.str s) (.string s)
  | agg {cs:List AV} {vs:List Value}:cs.length=vs.length→(∀ (j:Nat) c v,cs[j]? = some c→vs[j]? = some v→R M c v)→R M (.agg cs) (.agg vs.toArray)
  | tup {cs:List AV} {vs:List Value}:cs.length=vs.length→(∀ (j:Nat) c v,cs[j]? = some c→vs[j]? = some v→R M c v)→R M (.tup cs) (.tuple vs.toArray)
  | nils:R M .nils (.slice none 0 0)
  | optn (x):R M (.optr true x) (.pointer none)
  | opts {x b off}:R M (.ptr x) (.pointer (some ⟨b,off,none⟩))→R M (.optr false x) (.pointer (some ⟨b,off,none⟩))
  | lstn (e k l):R M (.lst e k l []) (.slice none 0 0)
  | lste (e k l ad cap):R M (.lst e k l []) (.slice (some ad) 0 cap)
  | lst {e k l xs b off cap} (us:Nat→Value):xs.length≤cap→(∀ x,x∈xs→x.cells.length=k)→(∀ x,x∈xs→x.cells.all AV.one=true)→(∀ (j:Nat) c,(flat xs)[j]? = some c→M b (off+j)=some (us j))→(∀ (j:Nat) c,(flat xs)[j]? = some c→R M c (us j))→R M (.lst e k l xs) (.slice (some ⟨b,off,none⟩) xs.length cap)
  | ptr {x b off} (us:Nat→Value):(∀ (j:Nat) c,x.cells[j]? = some c→M b (off+j)=some (us j))→(∀ (j:Nat) c,x.cells[j]? = some c→R M c (us j))→(∀ (j:Nat) c,x.cells[j]? = some c→isTup (us j)=false)→R M (.ptr x) (.pointer (some ⟨b,off,none⟩))
  | mpvn:R M (.mpv [] []) (.map none)
  | mpv {ks vs b} {es:Array MapEntry} {clock:Nat}:M b 0=some (mapCell es clock)→A2 es clock→es.size≤maxLen→ks.length=es.size→vs.length=es.size→(∀ (j:Nat) k e,ks[j]? = some k→es[j]? = some e→k.keyV=some e.key) →
      (∀ (j:Nat) v e,vs[j]? = some v→es[j]? = some e→R M v e.val)→R M (.mpv ks vs) (.map (some b))
  | mpp {ks vs ks' vs'} {o:Option Nat}:PermKV ks vs ks' vs'→R M (.mpv ks' vs') (.map o)→R M (.mpv ks vs) (.map o)
  | clo {f caps} {vs:List Value}:caps.length=vs.length→(∀ (j:Nat) c v,caps[j]? = some c→vs[j]? = some v→R M c v)→R M (.clo f caps) (.func (.func f) #[] vs.toArray)
def Sub (M M':Mem):Prop:=∀ b o u,M b o=some u→M' b o=some u
theorem Sub.refl (M:Mem):Sub M M:=fun _ _ _ h=>h
theorem Sub.trans {A B C:Mem} (h:Sub A B) (k:Sub B C):Sub A C:=fun b o u x=>k b o u (h b o u x)
theorem R.mono {M M':Mem} (hs:Sub M M') {x:AV} {v:Value} (h:R M x v):R M' x v:=by
  induction h with
  | top v=>exact .top v
  | und=>exact .und
  | ub p b h=>exact .ub p b h
  | int k n=>exact .int k n
  | bool b=>exact .bool b
  | str s=>exact .str s
  | agg hl _ ih=>exact .agg hl ih
  | tup hl _ ih=>exact .tup hl ih
  | nils=>exact .nils
  | optn x=>exact .optn x
  | opts _ ih=>exact .opts ih
  | lstn e k l=>exact .lstn e k l
  | lste e k l ad cap=>exact .lste e k l ad cap
  | lst us h1 h2 h5 h3 _ ih=>exact .lst us h1 h2 h5 (fun j c hc=>hs _ _ _ (h3 j c hc)) ih
  | ptr us h1 _ h3 ih=>exact .ptr us (fun j c hc=>hs _ _ _ (h1 j c hc)) ih h3
  | mpvn=>exact .mpvn
  | mpv h1 h2 h3 h4 h5 h6 _ ih=>exact .mpv (hs _ _ _ h1) h2 h3 h4 h5 h6 ih
  | mpp h1 _ ih=>exact .mpp h1 ih
  | clo hl _ ih=>exact .clo hl ih
theorem R.setLab {M:Mem} {e k l l' xs v} (h:R M (.lst e k l xs) v):R M (.lst e k l' xs) v:=by
  cases h with
  | lstn=>exact .lstn e k l'
  | lste=>exact .lste e k l' _ _
  | lst us h1 h2 h5 h3 h4=>exact .lst us h1 h2 h5 h3 h4
theorem R.strip {M:Mem} {x v} (h:R M x v):R M x.strip v:=by
  cases x with
  | lst e k l xs=>exact h.setLab
  | agr cs=>cases h
  | _=>exact h
theorem R.relab {M:Mem} {x v} (l m) (h:R M x v):R M (x.relab l m) v:=by
  cases x with
  | lst e k c xs =>
    cases c with
    | none=>exact h
    | some c =>
      simp only[AV.relab];split
      · exact h.setLab
      · exact h
  | _=>exact h
theorem R.one {M:Mem} {x v} (h:R M x v) (ho:x.one=true):v.oneCell'=true:=by
  cases h <;> first | rfl | (simp[AV.one]at ho)
theorem R.cells {M:Mem} {x v} (h:R M x v) (hx:x.cells.all AV.one=true):v.cells.size=x.cells.length∧(∀ (j:Nat) c u,x.cells[j]? = some c→v.cells[j]? = some u→R M c u)∧(∀ u,u∈v.cells→u.oneCell'=true):=by
  cases h
  case agg cs vs hl hr =>
    refine⟨by simp[Value.cells,AV.cells,hl],?_,?_⟩
    · intro j c u hc hu
      exact hr j c u (by simpa[AV.cells] using hc) (by simpa[Value.cells] using hu)
    · intro u hu
      simp only[Value.cells]at hu
      have hu':u∈vs:=by simpa using hu
      obtain⟨j,hj⟩:=List.mem_iff_getElem?.1 hu';have hjlt:j<vs.length:=(List.getElem?_eq_some_iff.1 hj).1;have hc:cs[j]? = some (cs[j]'(by omega)):=List.getElem?_eq_getElem _;have:=hr j _ _ hc hj;refine this.one ?_;simp only[AV.cells,List.all_eq_true]at hx;exact hx _ (List.getElem_mem _)
  all_goals
    first
    | (simp[AV.cells,AV.one]at hx;done)
    | (refine⟨by simp[Value.cells,AV.cells],?_,?_⟩
       · intro j c u hc hu
         simp only[AV.cells,Value.cells]at hc hu
         cases j with
         | succ j=>simp at hc
         | zero =>
           simp at hc hu;subst hc;subst hu
           first
           | exact .int _ _
           | exact .bool _
           | exact .str _
           | exact .nils
           | exact .optn _
           | exact .opts ‹_›
           | exact .lstn _ _ _
           | exact .lste _ _ _ _ _
           | exact .lst _ ‹_› ‹_› ‹_› ‹_› ‹_›
           | exact .ptr _ ‹_› ‹_› ‹_›
           | exact .mpvn
           | exact .mpv ‹_› ‹_› ‹_› ‹_› ‹_› ‹_› ‹_›
           | exact .mpp ‹_› ‹_›
           | exact .clo ‹_› ‹_›
       · intro u hu
         simp[Value.cells]at hu;subst hu
         rfl)
theorem Jl {u:Value} (h:u.oneCell'=true):isTup u=false:=by
  cases u <;> first | rfl | cases h
def Cons (M:Mem) (w:World):Prop:=∀ b o u,M b o=some u→mc w b o=some u
theorem Cons.cell {M:Mem} {w:World} (h:Cons M w) {b o:Nat} {c:AV} {u:Value} (hm:M b o=some u) (hr:R M c u) (hc:c.one=true):w.cell? ⟨b,o,none⟩=some u:=Qs (h b o u hm) (Jl (hr.one hc))
structure Gh where
  o:Bool→Nat→Option Nat
  len:Nat→Nat
  siz:Nat→Nat
instance:CoeFun Gh (fun _=>Bool→Nat→Option Nat):=⟨Gh.o⟩
def Gh.Eq1 (O O':Gh) (c:Nat):Prop:=O'.o true c=O.o true c∧O'.len c=O.len c∧O'.siz c=O.siz c
theorem Gh.Eq1.refl (O:Gh) (c:Nat):Gh.Eq1 O O c:=⟨rfl,rfl,rfl⟩
def Glob (M:Mem):Prop:=∀ g,g∈globs→∃ m,M g 0=some (.int .i64 m)
theorem Glob.mono {M M':Mem} (h:Glob M) (hs:Sub M M'):Glob M':=fun g hg=>(h g hg).imp fun m hm=>hs _ _ _ hm
theorem Glob.world {M:Mem} {w:World} (h:Glob M) (hc:Cons M w):GlobW w:=fun g hg=>(h g hg).imp fun m hm=>Qs (hc _ _ _ hm) rfl
structure Base where
  D:Nat→Prop
  M0:Mem
  w0:World
  O0:Gh
  gl:Glob M0
structure BelowD (D:Nat→Prop) (w w':World):Prop where
  os:w'.os=w.os
  tape:w'.tape=w.tape
  output:w'.output=w.output
  size:w.heap.size≤w'.heap.size
  block:∀ k,D k→w'.heap[k]? = w.heap[k]?
theorem BelowD.refl (D:Nat→Prop) (w:World):BelowD D w w:=⟨rfl,rfl,rfl,Nat.le_refl _,fun _ _=>rfl⟩
theorem BelowD.step {D D':Nat→Prop} {a b c:World} (h:BelowD D a b) (k:BelowD D' b c) (hd:∀ k,D k→D' k):BelowD D a c :=
  ⟨k.os.trans h.os,k.tape.trans h.tape,k.output.trans h.output,Nat.le_trans h.size k.size,fun i hi=>(k.block i (hd i hi)).trans (h.block i hi)⟩
def OwnV (O:Gh) (M:Mem) (w:World) (x:AV) (v:Value):Prop :=
  match x with
  | .lst e k (some c) xs=>(∃ ad,v=.slice ad 0 0)∨∃ g off cap cur,v=.slice (some ⟨g,off,none⟩) xs.length cap∧O false c=some g∧w.heap[g]? = some (.cells cur e (0,0))∧cur.size=off+cap * k∧xs.length≤cap∧cap≤maxLen∧∀ o,off+xs.length * k≤o→M g o=none
  | _=>True
def SbOk (O:Gh) (id k off n:Nat) (v:Value):Prop :=
  off+n≤O.len id∧((n=0∧∃ ad,v=.slice ad 0 0)∨∃ g cap,v=.slice (some ⟨g,off * k,none⟩) n cap∧O true id=some g∧O.siz id=(off+cap) * k∧n≤cap∧off+cap≤maxLen)
def CapOk (O:Gh) (M:Mem) (c:AV) (u:Value):Prop :=
  match c with
  | .pb s off=>∃ g,u=.pointer (some ⟨g,off,none⟩)∧O true s=some g
  | c=>R M c u
def CellR (O:Gh) (M:Mem) (t:Nat) (c:AV) (u:Value):Prop :=
  match c with
  | .sb id _ k off n=>SbOk O id k off n u
  | .mb kd id=>kd=0∧∃ g,O true id=some g∧u=.map (some g)
  | .slf=>u=.pointer none∨∃ g,O true t=some g∧u=.pointer (some ⟨g,0,none⟩)
  | .top=>u.oneCell'=true
  | c=>c.one=true∧R M c u
def ValOk (O:Gh) (M:Mem) (w:World) (x:AV) (v:Value):Prop :=
  match x with
  | .box _=>False
  | .obj _ _ _=>False
  | .hob _ _ _=>False
  | .bxg _=>False
  | .slf=>False
  | .agr cs=>∃ us:List Value,v=.agg us.toArray∧cs.length=us.length∧∀ (j:Nat) c u,cs[j]? = some c→us[j]? = some u→CellR O M 0 c u∧OwnV O M w c u∧c≠.slf
  | .clb f caps=>∃ vs:List Value,v=.func (.func f) #[] vs.toArray∧caps.length=vs.length∧∀ (j:Nat) c u,caps[j]? = some c→vs[j]? = some u→CapOk O M c u
  | .mb kd id=>∃ g,O true id=some g∧v=(match kd with | 0=>.map (some g) | _=>.pointer (some ⟨g,0,none⟩))
  | .pb s off=>∃ g,v=.pointer (some ⟨g,off,none⟩)∧O true s=some g
  | .pe s k j o=>∃ g,v=.pointer (some ⟨g,j * k+o,none⟩)∧O true s=some g
  | .sb id _ k off n=>SbOk O id k off n v
  | .tpr id _ k off n rest=>∃ u us,v=.tuple (u::us).toArray∧SbOk O id k off n u∧rest.length=us.length∧∀ (j:Nat) c u',rest[j]? = some c→us[j]? = some u'→R M c u'
  | x=>R M x v∧OwnV O M w x v
def BoxOk (O:Gh) (M:Mem) (w:World) (t:Nat) (cs:List AV) (v:Value):Prop :=
  ∃ g cur el,(v=.pointer (some ⟨g,0,none⟩)∨1000000≤t)∧O true t=some g∧w.heap[g]? = some (.cells cur el (0,0))∧cur.size=cs.length∧(∀ o,M g o=none) ∧
    ∀ (j:Nat) c u,cs[j]? = some c→cur[j]? = some u→c.one=true∧R M c u∧OwnV O M w c u
def RowAt (w:World) (g:Nat) (cur:Array Value) (e:Nat):Prop :=
  ∃ el fz,w.heap[g]? = some (.cells cur el fz)∧((el=e∧fz=(0,0))∨(e=el+1000000000∧cur.size≤fz.1))
theorem RowAt.plain {w:World} {g e:Nat} {cur:Array Value} (h:RowAt w g cur e) (he:e<1000000000):w.heap[g]? = some (.cells cur e (0,0)):=by
  obtain⟨el,fz,h1,h2 | h2⟩:=h
  · obtain⟨rfl,rfl⟩:=h2;exact h1
  · omega
theorem RowAt.of {w:World} {g e:Nat} {cur:Array Value} (h:w.heap[g]? = some (.cells cur e (0,0))):RowAt w g cur e:=⟨e,(0,0),h,.inl ⟨rfl,rfl⟩⟩
theorem RowAt.same {w w':World} {g e:Nat} {cur:Array Value} (h:RowAt w g cur e) (hw:w'.heap[g]? = w.heap[g]?):RowAt w' g cur e:=by
  obtain⟨el,fz,h1,h2⟩:=h;exact⟨el,fz,hw.trans h1,h2⟩
theorem RowAt.cell {w:World} {g e j:Nat} {cur:Array Value} (h:RowAt w g cur e):w.cell? ⟨g,j,none⟩=cur[j]?:=by
  obtain⟨el,fz,h1,_⟩:=h;simp[A6,h1]
def ObjOk (O:Gh) (M:Mem) (w:World) (t e k:Nat) (xs:List AV):Prop :=
  0<k∧(∀ x,x∈xs→x.cells.length=k∧x.cells.all AV.one=true)∧xs.length=O.len t ∧
  ((xs=[]∧O true t=none)∨∃ g cur,O true t=some g∧RowAt w g cur e∧cur.size=O.siz t∧xs.length * k≤cur.size∧(∀ o,M g o=none) ∧
    ∀ (j:Nat) c u,(flat xs)[j]? = some c→cur[j]? = some u→R M c u)
theorem DV {M:Mem} {ks vs:List AV} {v:Value} (h:R M (.mpv ks vs) v):(v=.map none∧ks=[]∧vs=[])∨∃ ks' vs' b es clock,PermKV ks vs ks' vs'∧v=.map (some b)∧M b 0=some (mapCell es clock)∧A2 es clock∧es.size≤maxLen∧ks'.length=es.size∧vs'.length=es.size ∧
    (∀ (j:Nat) k e,ks'[j]? = some k→es[j]? = some e→k.keyV=some e.key)∧∀ (j:Nat) v e,vs'[j]? = some v→es[j]? = some e→R M v e.val:=by
  generalize hx:AV.mpv ks vs=x at h
  induction h generalizing ks vs <;> try cases hx
  case mpvn=>exact .inl ⟨rfl,rfl,rfl⟩
  case mpv h1 h2 h3 h4 h5 h6 h7 _=>exact .inr ⟨_,_,_,_,_,PermKV.refl (h4.trans h5.symm),rfl,h1,h2,h3,h4,h5,h6,h7⟩
  case mpp h1 h2 ih =>
    rcases ih rfl with ⟨e,rfl,rfl⟩ | ⟨ks',vs',b,es,clock,hp,r⟩
    · have hl:=h1.length
      have hk:=A9 (by simpa using hl);have hv:=A9 (by have:=h1.1;rw[hk]at this;simpa using this.symm);exact .inl ⟨e,hk,hv⟩
    · exact .inr ⟨ks',vs',b,es,clock,h1.trans hp,r⟩
def EntOk (M:Mem) (es:Array MapEntry) (clock:Nat) (ks vs:List AV):Prop :=
  A2 es clock∧es.size≤maxLen∧ks.length=es.size∧vs.length=es.size∧(∀ (j:Nat) k e,ks[j]? = some k→es[j]? = some e→k.keyV=some e.key)∧∀ (j:Nat) v e,vs[j]? = some v→es[j]? = some e→R M v e.val
theorem EntOk.mono {M M':Mem} {es clock ks vs} (h:EntOk M es clock ks vs) (hs:Sub M M'):EntOk M' es clock ks vs:=by
  obtain⟨h1,h2,h3,h4,h5,h6⟩:=h;exact⟨h1,h2,h3,h4,h5,fun j v e hv he=>(h6 j v e hv he).mono hs⟩
def LeftOk0 (M:Mem) (es:Array MapEntry) (seen:Array Nat) (ks vs:List AV):Prop :=
  ks.length=(leftOf es seen).size∧vs.length=(leftOf es seen).size∧(∀ (j:Nat) k e,ks[j]? = some k→(leftOf es seen)[j]? = some e→k.keyV=some e.key) ∧
    ∀ (j:Nat) v e,vs[j]? = some v→(leftOf es seen)[j]? = some e→R M v e.val
def LeftOk (M:Mem) (es:Array MapEntry) (seen:Array Nat) (ks vs:List AV):Prop:=∃ ks' vs',PermKV ks vs ks' vs'∧LeftOk0 M es seen ks' vs'
theorem LeftOk.mono {M M':Mem} {es seen ks vs} (h:LeftOk M es seen ks vs) (hs:Sub M M'):LeftOk M' es seen ks vs:=by
  obtain⟨ks',vs',hp,h1,h2,h3,h4⟩:=h;exact⟨ks',vs',hp,h1,h2,h3,fun j v e hv he=>(h4 j v e hv he).mono hs⟩
def HobOk (O:Gh) (M:Mem) (w:World) (t kd:Nat) (ks vs:List AV):Prop :=
  ∃ g,O true t=some g∧(∀ o,M g o=none)∧match kd with
    | 0=>∃ es clock,w.heap[g]? = some (.map es clock)∧EntOk M es clock ks vs
    | 1=>(∃ c s,w.heap[g]? = some (.mapIter none c s 0)∧ks=[]∧vs=[]) ∨
      ∃ (b:Nat) (es:Array MapEntry) (clock:Nat) (seen:Array Nat) (last:Nat),w.heap[g]? = some (.mapIter (some b) clock seen last)∧clock≤last∧M b 0=some (mapCell es clock)∧A2 es clock∧LeftOk M es seen ks vs
    | 3=>∃ cur el,w.heap[g]? = some (.cells cur el (0,0))∧cur.size=vs.length∧∀ (j:Nat) c u,vs[j]? = some c→cur[j]? = some u→c.one=true∧c.lab? = none∧R M c u
    | _=>∃ (b:Nat) (es:Array MapEntry) (clock:Nat) (seen:Array Nat) (e:MapEntry) (k v:AV) (ks' vs':List AV),ks=k::ks'∧vs=v::vs'∧w.heap[g]? = some (.mapIter (some b) clock (seen.push e.born) clock)∧M b 0=some (mapCell es clock)∧A2 es clock ∧
      e∈es.toList∧k.keyV=some e.key∧R M v e.val∧LeftOk M es (seen.push e.born) ks' vs'
def BxgOk (O:Gh) (M:Mem) (w:World) (t:Nat) (cs:List AV) (v:Value):Prop :=
  ∃ g cur el,(v=.pointer (some ⟨g,0,none⟩)∨1000000≤t)∧O true t=some g∧w.heap[g]? = some (.cells cur el (0,0))∧cur.size=cs.length∧(∀ o,M g o=none) ∧
    ∀ (j:Nat) c u,cs[j]? = some c→cur[j]? = some u→CellR O M t c u
def Sat (O:Gh) (M:Mem) (w:World) (t:Nat) (x:AV) (v:Value):Prop :=
  match x with
  | .box cs=>BoxOk O M w t cs v
  | .obj e k xs=>ObjOk O M w t e k xs
  | .hob kd ks vs=>HobOk O M w t kd ks vs
  | .bxg cs=>BxgOk O M w t cs v
  | x=>ValOk O M w x v
structure Inv (bs:Base) (n:Nat) (M:Mem) (O:Gh) (env:Env) (a:Act) (w:World):Prop where
  size:a.tmps.size=n
  defers:a.defers=[]
  below:BelowD bs.D bs.w0 w
  hB:∀ k,bs.D k→k<bs.w0.heap.size
  cons:Cons M w
  ext:Sub bs.M0 M
  old:∀ b o,bs.D b→M b o=bs.M0 b o
  own:∀ i c g,O i c=some g→¬ bs.D g∧g<w.heap.size
  inj:∀ i i' c c' g,O i c=some g→O i' c'=some g→i=i'∧c=c'
  fix:n≤1000000∧∀ c,2000000≤c→c<3000000→Gh.Eq1 bs.O0 O c
  slots:∀ t x,look env t=some x→Sat O M w t x (a.tmps.getD t undef)
theorem Inv.glob {bs:Base} {n:Nat} {M:Mem} {O:Gh} {env:Env} {a:Act} {w:World} (h:Inv bs n M O env a w):Glob M:=bs.gl.mono h.ext
theorem Inv.fresh {bs:Base} {n:Nat} {M:Mem} {O:Gh} {env:Env} {a:Act} {w:World} (h:Inv bs n M O env a w) {g:Nat} (hg:w.heap.size≤g):¬ bs.D g:=by
  intro hd;have h1:=h.hB g hd;have h2:=h.below.size;omega
end Go.AM
namespace Go.AM
open Go.RowKit
theorem qA (d:Nat) (v:AV) (env:Env) (t:Nat):look (ins d v env) t=if t=d then some v else look env t:=by
 induction env with
 | nil =>
  simp only[ins,look];by_cases h:t=d
  ·subst h;simp
  ·have:Nat.beq d t=false:=by rw[A7];intro hh;exact h (A0 hh).symm
   simp[this,h]
 | cons p r ih =>
  obtain⟨s,x⟩:=p;simp only[ins];split
  ·rename_i hlt
   have hne:s≠d:=by intro e;subst e;simp at hlt
   simp only[look];split
   ·rename_i hs;have:=A0 hs;subst this;rw[if_neg hne]
   ·exact ih
  ·split
   ·rename_i hs;have:=A0 hs;subst this;simp only[look];by_cases h:t=s
    ·subst h;simp
    ·have:Nat.beq s t=false:=by rw[A7];intro hh;exact h (A0 hh).symm
     simp[this,h]
   ·simp only[look];by_cases h:t=d
    ·subst h;simp
    ·have:Nat.beq d t=false:=by rw[A7];intro hh;exact h (A0 hh).symm
     simp[this,h]
theorem JF (f:AV→AV) (env:Env) (t:Nat):look (env.map fun p=>(p.1,f p.2)) t=(look env t).map f:=by
 induction env with
 | nil=>rfl
 | cons p r ih =>
  obtain⟨s,x⟩:=p;simp only[List.map_cons,look];split <;> simp_all
theorem DD {keep:List Nat} {env:Env} {t:Nat} {x:AV} (h:look (dropE keep env) t=some x):look env t=some x:=by
 induction env with
 | nil=>simp[dropE,look]at h
 | cons p r ih =>
  obtain⟨s,y⟩:=p;simp only[look];simp only[dropE,List.filter_cons]at h;split at h
  ·simp only[look]at h;split at h
   ·exact h
   ·exact ih h
  ·rename_i hk;split
   ·rename_i hs;have:=A0 hs;subst this;exfalso;have hh:=h;clear ih h
    induction r with
    | nil=>simp[look]at hh
    | cons q r ih2 =>
     obtain⟨s2,y2⟩:=q;simp only[List.filter_cons]at hh;split at hh
     ·rename_i hk2;simp only[look]at hh;split at hh
      ·rename_i hs2;have:=A0 hs2;subst this;exact hk hk2
      ·exact ih2 hh
     ·exact ih2 hh
   ·exact ih h
theorem VP {a:Act} {d t:Nat} {v:Value} (hd:d<a.tmps.size):(a.put (some d) v).tmps.getD t undef=if t=d then v else a.tmps.getD t undef:=by
 simp only[Act.put,Array.getD_eq_getD_getElem?,Array.getElem?_setIfInBounds];by_cases h:d=t
 ·subst h;simp[hd]
 ·rw[if_neg h,if_neg (fun e=>h e.symm)]
section
variable {O O':Gh} {M M':Mem} {w w':World}
theorem OwnV.change {x:AV} {v:Value} (h:OwnV O M w x v) (hown:∀ c g,x.lab? = some c→O false c=some g→O' false c=some g∧w'.heap[g]? = w.heap[g]?∧∀ o,M g o=none→M' g o=none):OwnV O' M' w' x v:=by
 unfold OwnV at *;split at h
 ·rename_i e k c xs
  rcases h with h | ⟨g,off,cap,cur,h1,h2,h3,h4,h5,h6,h7⟩
  ·exact .inl h
  ·obtain⟨a,b,d⟩:=hown c g rfl h2;exact .inr ⟨g,off,cap,cur,h1,a,b.trans h3,h4,h5,h6,fun o ho=>d o (h7 o ho)⟩
 ·trivial
theorem SbOk.change {id k off n:Nat} {v:Value} (h:SbOk O id k off n v) (he:Gh.Eq1 O O' id):SbOk O' id k off n v:=by
 obtain⟨e1,e2,e3⟩:=he;unfold SbOk at *;rw[e1,e2,e3];exact h
theorem CellR.mono {t:Nat} {c:AV} {u:Value} (h:CellR O M t c u) (hs:Sub M M') (he:c=.slf→O' true t=O true t) (hr:∀ s,c.cref s=true→Gh.Eq1 O O' s):CellR O' M' t c u:=by
 unfold CellR at *
 cases c with
 | sb id e k off n=>exact SbOk.change h (hr id (by simp[AV.cref]))
 | mb kd id =>
  obtain⟨h1,g,h2,h3⟩:=h;exact⟨h1,g,by rw[(hr id (by simp[AV.cref])).1];exact h2,h3⟩
 | slf=>rw[he rfl];exact h
 | top=>exact h
 | _=>exact⟨h.1,h.2.mono hs⟩
theorem CellR.one {t:Nat} {c:AV} {u:Value} (h:CellR O M t c u):u.oneCell'=true:=by
 unfold CellR at h
 cases c with
 | sb id e k off n=>rcases h.2 with ⟨_,ad,e1⟩ | ⟨g1,cap,e1,_⟩ <;> rw[e1] <;> rfl
 | mb kd id=>obtain⟨_,g,_,e1⟩:=h;rw[e1];rfl
 | slf=>rcases h with e1 | ⟨g,_,e1⟩ <;> rw[e1] <;> rfl
 | top=>exact h
 | _=>exact h.2.one h.1
theorem CellR.top {t:Nat} {c:AV} {u:Value} (h:CellR O M t c u):CellR O' M' t .top u:=h.one
theorem CellR.of_one {t:Nat} {c:AV} {u:Value} (h1:c.one=true) (h:R M c u):CellR O M t c.strip u:=by
 have h2:=h.strip
 cases c <;> first | exact⟨rfl,h2⟩ | cases h1
theorem CellR.to_r {t:Nat} {c:AV} {u:Value} (h:CellR O M t c u) (h1:c.one=true):R M c.strip u:=by
 unfold CellR at h
 cases c <;> first | exact h.2.strip | cases h1
theorem CellR.san {t:Nat} {c:AV} {u:Value} (h:CellR O M t c u):R M c.san u∧OwnV O M w c.san u:=by
 unfold AV.san;split
 ·rename_i h1;have:=h.to_r h1
  cases c <;> first | exact⟨this,trivial⟩ | cases h1
 ·exact⟨.top _,trivial⟩
theorem ValOk.change {x:AV} {v:Value} (h:ValOk O M w x v) (hs:Sub M M') (href:∀ s,x.refs s=true→Gh.Eq1 O O' s)
  (hown:∀ c g,x.hasLabB c=true→O false c=some g→O' false c=some g∧w'.heap[g]? = w.heap[g]?∧∀ o,M g o=none→M' g o=none):ValOk O' M' w' x v:=by
 cases x with
 | box cs=>exact h.elim
 | obj e k xs=>exact h.elim
 | hob kd ks vs=>exact h.elim
 | bxg cs=>exact h.elim
 | slf=>exact h.elim
 | agr cs =>
  obtain⟨us,h1,h2,h3⟩:=h;refine⟨us,h1,h2,fun j c u hc hu=>?_⟩;obtain⟨k1,k2,k3⟩:=h3 j c u hc hu;have hm:=A1 hc;refine⟨k1.mono hs (fun e=>absurd e k3) fun s hcs=>href s ?_,k2.change fun c' g hl hg=>hown c' g ?_ hg,k3⟩
  ·simp only[AV.refs,A3];exact⟨c,hm,hcs⟩
  ·simp only[AV.hasLabB,A3];exact⟨c,hm,by simp[AV.hasLab,hl]⟩
 | lst e k o xs=>exact⟨h.1.mono hs,h.2.change fun c g hl hg=>hown c g (by simp only[AV.lab?]at hl;subst hl;simp[AV.hasLabB,AV.hasLab,AV.lab?]) hg⟩
 | mb kd s=>obtain⟨g,h1,h2⟩:=h;exact⟨g,by rw[(href s (by simp[AV.refs])).1];exact h1,h2⟩
 | clb f caps =>
  obtain⟨vs,h1,h2,h3⟩:=h;refine⟨vs,h1,h2,fun j c u hc hu=>?_⟩;have h4:=h3 j c u hc hu;unfold CapOk at *
  cases c with
  | pb s off =>
   obtain⟨g,k1,k2⟩:=h4;refine⟨g,k1,?_⟩
   rw[(href s (by
    simp only[AV.refs,A3]
    exact⟨_,A1 hc,by simp⟩)).1]
   exact k2
  | _=>exact h4.mono hs
 | pb s off=>obtain⟨g,h1,h2⟩:=h;exact⟨g,h1,by rw[(href s (by simp[AV.refs])).1];exact h2⟩
 | pe s k j o=>obtain⟨g,h1,h2⟩:=h;exact⟨g,h1,by rw[(href s (by simp[AV.refs])).1];exact h2⟩
 | sb s e k off n=>exact SbOk.change h (href s (by simp[AV.refs]))
 | tpr s e k off n rest =>
  obtain⟨u,us,h1,h2,h3,h4⟩:=h;exact⟨u,us,h1,SbOk.change h2 (href s (by simp[AV.refs])),h3,fun j c u' hc hu=>(h4 j c u' hc hu).mono hs⟩
 | _=>exact⟨h.1.mono hs,trivial⟩
theorem BoxOk.change {t:Nat} {cs:List AV} {v:Value} (h:BoxOk O M w t cs v) (hs:Sub M M')
  (hbox:∀ g,O true t=some g→O' true t=some g∧w'.heap[g]? = w.heap[g]?∧∀ o,M g o=none→M' g o=none)
  (hown:∀ c g (x:AV),x∈cs→x.lab? = some c→O false c=some g→O' false c=some g∧w'.heap[g]? = w.heap[g]?∧∀ o,M g o=none→M' g o=none):BoxOk O' M' w' t cs v:=by
 obtain⟨g,cur,el,h1,h2,h3,h4,h5,h6⟩:=h;obtain⟨a,b,c⟩:=hbox g h2;refine⟨g,cur,el,h1,a,b.trans h3,h4,fun o=>c o (h5 o),fun j x u hx hu=>?_⟩;obtain⟨k1,k2,k3⟩:=h6 j x u hx hu;exact⟨k1,k2.mono hs,k3.change fun c' g' hl hg=>hown c' g' x (A1 hx) hl hg⟩
theorem ObjOk.change {t e k:Nat} {xs:List AV} (h:ObjOk O M w t e k xs) (hs:Sub M M') (he:Gh.Eq1 O O' t) (hobj:∀ g,O true t=some g→w'.heap[g]? = w.heap[g]?∧∀ o,M g o=none→M' g o=none):ObjOk O' M' w' t e k xs:=by
 obtain⟨h0,h1,h2,h3⟩:=h;obtain⟨e1,e2,e3⟩:=he;refine⟨h0,h1,by rw[e2];exact h2,?_⟩
 rcases h3 with ⟨h3,h4⟩ | ⟨g,cur,k1,k2,k3,k4,k5,k6⟩
 ·exact .inl ⟨h3,by rw[e1];exact h4⟩
 ·obtain⟨a,b⟩:=hobj g k1;exact .inr ⟨g,cur,by rw[e1];exact k1,k2.same a,by rw[e3];exact k3,k4,fun o=>b o (k5 o),fun j c u hc hu=>(k6 j c u hc hu).mono hs⟩
theorem HobOk.change {t kd:Nat} {ks vs:List AV} (h:HobOk O M w t kd ks vs) (hs:Sub M M') (he:Gh.Eq1 O O' t) (hobj:∀ g,O true t=some g→w'.heap[g]? = w.heap[g]?∧∀ o,M g o=none→M' g o=none):HobOk O' M' w' t kd ks vs:=by
 obtain⟨g,h1,h2,h3⟩:=h;obtain⟨a,b⟩:=hobj g h1;refine⟨g,by rw[he.1];exact h1,fun o=>b o (h2 o),?_⟩
 match kd with
 | 0 =>
  obtain⟨es,clock,k1,k2⟩:=h3;exact⟨es,clock,a.trans k1,k2.mono hs⟩
 | 1 =>
  rcases h3 with ⟨c,s,k1,k2,k3⟩ | ⟨b,es,clock,seen,last,k1,k2,k3,k4,k5⟩
  ·exact .inl ⟨c,s,a.trans k1,k2,k3⟩
  ·exact .inr ⟨b,es,clock,seen,last,a.trans k1,k2,hs _ _ _ k3,k4,k5.mono hs⟩
 | 2 | kd+4 =>
  obtain⟨b,es,clock,seen,e,k,v,ks',vs',k1,k2,k3,k4,k5,k6,k7,k8,k9⟩:=h3;exact⟨b,es,clock,seen,e,k,v,ks',vs',k1,k2,a.trans k3,hs _ _ _ k4,k5,k6,k7,k8.mono hs,k9.mono hs⟩
 | 3 =>
  obtain⟨cur,el,k1,k2,k3⟩:=h3;exact⟨cur,el,a.trans k1,k2,fun j c u hc hu=>⟨(k3 j c u hc hu).1,(k3 j c u hc hu).2.1,(k3 j c u hc hu).2.2.mono hs⟩⟩
theorem BxgOk.change2 {t:Nat} {cs:List AV} {v:Value} (h:BxgOk O M w t cs v) (hs:Sub M M') (he:O' true t=O true t) (hr:∀ s,(AV.bxg cs).refs s=true→Gh.Eq1 O O' s) (hobj:∀ g,O true t=some g→w'.heap[g]? = w.heap[g]?∧∀ o,M g o=none→M' g o=none):BxgOk O' M' w' t cs v:=by
 obtain⟨g,cur,el,h1,h2,h3,h4,h5,h6⟩:=h;obtain⟨a,b⟩:=hobj g h2;refine⟨g,cur,el,h1,by rw[he];exact h2,a.trans h3,h4,fun o=>b o (h5 o),fun j c u hc hu=>(h6 j c u hc hu).mono hs (fun _=>he) fun s hcs=>hr s ?_⟩;simp only[AV.refs,A3];exact⟨c,A1 hc,hcs⟩
theorem BxgOk.change {t:Nat} {cs:List AV} {v:Value} (h:BxgOk O M w t cs v) (hs:Sub M M') (he:Gh.Eq1 O O' t) (hr:∀ s,(AV.bxg cs).refs s=true→Gh.Eq1 O O' s) (hobj:∀ g,O true t=some g→w'.heap[g]? = w.heap[g]?∧∀ o,M g o=none→M' g o=none):BxgOk O' M' w' t cs v :=
 h.change2 hs he.1 hr hobj
theorem JA {t:Nat} {x:AV} {v:Value} (h:ValOk O M w x v):Sat O M w t x v:=by
 cases x with
 | box cs=>exact h.elim
 | obj e k xs=>exact h.elim
 | hob kd ks vs=>exact h.elim
 | bxg cs=>exact h.elim
 | slf=>exact h.elim
 | _=>exact h
theorem Xk {t:Nat} {x:AV} {v:Value} (hx:x.ent=false) (h:Sat O M w t x v):ValOk O M w x v:=by
 cases x with
 | box cs=>cases hx
 | obj e k xs=>cases hx
 | hob kd ks vs=>cases hx
 | bxg cs=>cases hx
 | _=>exact h
theorem Sat.change2 {t:Nat} {x:AV} {v:Value} (h:Sat O M w t x v) (hs:Sub M M') (hent:x.ent=true→Gh.Eq1 O O' t) (href:∀ s,x.refs s=true→Gh.Eq1 O O' s)
  (hblk:∀ g,x.ent=true→O true t=some g→w'.heap[g]? = w.heap[g]?∧∀ o,M g o=none→M' g o=none)
  (hlab:∀ c g,O false c=some g→O' false c=some g∧w'.heap[g]? = w.heap[g]?∧∀ o,M g o=none→M' g o=none):Sat O' M' w' t x v:=by
 cases x with
 | box cs=>exact BoxOk.change h hs (fun g hg=>⟨by rw[(hent rfl).1];exact hg,hblk g rfl hg⟩) fun c g x _ _ hg=>hlab c g hg
 | obj e k xs=>exact ObjOk.change h hs (hent rfl) fun g hg=>hblk g rfl hg
 | hob kd ks vs=>exact HobOk.change h hs (hent rfl) fun g hg=>hblk g rfl hg
 | bxg cs=>exact BxgOk.change h hs (hent rfl) href fun g hg=>hblk g rfl hg
 | _ =>
  exact JA ((Xk rfl h).change hs href fun c g _ hg=>hlab c g hg)
theorem Sat.change {t:Nat} {x:AV} {v:Value} (h:Sat O M w t x v) (hs:Sub M M') (hE:∀ c,Gh.Eq1 O O' c)
  (hO:∀ i c g,O i c=some g→O' i c=some g∧w'.heap[g]? = w.heap[g]?∧∀ o,M g o=none→M' g o=none):Sat O' M' w' t x v:=by
 cases x with
 | box cs=>exact BoxOk.change h hs (fun g hg=>hO true t g hg) fun c g x _ _ hg=>hO false c g hg
 | obj e k xs=>exact ObjOk.change h hs (hE t) fun g hg=>(hO true t g hg).2
 | hob kd ks vs=>exact HobOk.change h hs (hE t) fun g hg=>(hO true t g hg).2
 | bxg cs=>exact BxgOk.change h hs (hE t) (fun s _=>hE s) fun g hg=>(hO true t g hg).2
 | _ =>
  exact JA ((Xk rfl h).change hs (fun s _=>hE s) fun c g _ hg=>hO false c g hg)
end
theorem DF (s:Nat) (c:AV):(killC s c).cref s=false:=by
 unfold killC;split
 ·rfl
 ·assumption
theorem qbh {s s':Nat} {c:AV} (h:(killC s c).cref s'=true):c.cref s'=true:=by
 unfold killC at h;split at h
 ·cases h
 ·exact h
theorem Nb (s:Nat) (cs:List AV):(cs.map (killC s)).any (AV.cref s)=false:=by
 simp only[List.any_map,A4];intro c _;simp only[Function.comp,DF];simp
theorem Qu (s:Nat) (y:AV):(killRef s y).refs s=false:=by
 unfold killRef;split
 ·split
  ·exact Nb s _
  ·exact Nb s _
  ·rfl
 ·assumption
theorem YF {s s':Nat} {y:AV} (h:(killRef s y).refs s'=true):y.refs s'=true:=by
 have key:∀ cs:List AV,(cs.map (killC s)).any (AV.cref s')=true→cs.any (AV.cref s')=true:=by
  intro cs h;simp only[List.any_map,A3]at h ⊢;obtain⟨c,hc,h⟩:=h;exact⟨c,hc,qbh h⟩
 unfold killRef at h;split at h
 ·split at h
  ·exact key _ h
  ·exact key _ h
  ·cases h
 ·exact h
theorem Ht {s:Nat} {y:AV} (h:(killRef s y).ent=true):y.ent=true:=by
 unfold killRef at h;split at h
 ·split at h
  ·rfl
  ·cases h
  ·cases h
 ·exact h
theorem Sat.kill {O:Gh} {M:Mem} {w:World} {t:Nat} {y:AV} {v:Value} (h:Sat O M w t y v) (s:Nat):Sat O M w t (killRef s y) v:=by
 unfold killRef;split
 ·split
  ·rename_i cs _;obtain⟨g,cur,el,h1,h2,h3,h4,h5,h6⟩:=h;refine⟨g,cur,el,h1,h2,h3,by simpa using h4,h5,fun j c u hc hu=>?_⟩;rw[A5]at hc
   cases hz:cs[j]? with
   | none=>rw[hz]at hc;cases hc
   | some z =>
    rw[hz]at hc;cases hc;have:=h6 j z u hz hu;unfold killC;split
    ·exact this.top
    ·exact this
  ·rename_i cs _;obtain⟨us,h1,h2,h3⟩:=h;refine⟨us,h1,by simpa using h2,fun j c u hc hu=>?_⟩;rw[A5]at hc
   cases hz:cs[j]? with
   | none=>rw[hz]at hc;cases hc
   | some z =>
    rw[hz]at hc;cases hc;obtain⟨k1,k2,k3⟩:=h3 j z u hz hu;unfold killC;split
    ·exact⟨k1.top,trivial,fun e=>by cases e⟩
    ·exact⟨k1,k2,k3⟩
  ·exact⟨.top _,trivial⟩
 ·exact h
section
variable {bs:Base} {n:Nat} {M:Mem} {O:Gh} {env:Env} {a:Act} {w:World}
theorem Inv.grown (h:Inv bs n M O env a w) {w':World} {M':Mem} {row:Option Nat} (hrow:∀ g,row=some g→¬ bs.D g∧∀ i c,O i c≠some g) (hw:w.grownBy w' row) (hs:Sub M M') (hc:Cons M' w')
  (ho:∀ b o,b<w.heap.size→some b≠row→M' b o=M b o):Inv bs n M' O env a w':=by
 have hlt:∀ k,bs.D k→k<w.heap.size:=fun k hk=>by have:=h.hB k hk;have:=h.below.size;omega
 refine⟨h.size,h.defers,?_,h.hB,hc,h.ext.trans hs,?_,?_,h.inj,h.fix,?_⟩
 ·refine⟨hw.os.trans h.below.os,hw.tape.trans h.below.tape,hw.output.trans h.below.output,Nat.le_trans h.below.size hw.size,fun k hk=>?_⟩;exact (hw.block k (hlt k hk) fun e=>(hrow k e.symm).1 hk).trans (h.below.block k hk)
 ·intro b o hb;rw[ho b o (hlt b hb) (fun e=>(hrow b e.symm).1 hb)];exact h.old b o hb
 ·intro i c g hg;obtain⟨h1,h2⟩:=h.own i c g hg;exact⟨h1,Nat.lt_of_lt_of_le h2 hw.size⟩
 ·intro t x hx
  refine (h.slots t x hx).change hs (fun c=>Gh.Eq1.refl O c) fun i c g hg=>⟨hg,?_,?_⟩
  ·exact hw.block g (h.own i c g hg).2 fun e=>(hrow g e.symm).2 i c hg
  ·intro o hM;rw[ho g o (h.own i c g hg).2 fun e=>(hrow g e.symm).2 i c hg];exact hM
theorem Inv.put (h:Inv bs n M O env a w) {d:Nat} {x:AV} {v:Value} (hd:d<n) (hv:ValOk O M w x v):Inv bs n M O (ins d x env) (a.put (some d) v) w:=by
 refine⟨by simp[Act.put,h.size],h.defers,h.below,h.hB,h.cons,h.ext,h.old,h.own,h.inj,h.fix,?_⟩;intro t y hy;rw[qA]at hy;rw[VP (by rw[h.size];exact hd)];split at hy
 ·rename_i e;subst e;cases hy;rw[if_pos rfl];exact JA hv
 ·rename_i e;rw[if_neg e];exact h.slots t y hy
theorem Inv.sub (h:Inv bs n M O env a w) {env':Env} (hl:∀ t x,look env' t=some x→look env t=some x∨x=.top):Inv bs n M O env' a w:=by
 refine⟨h.size,h.defers,h.below,h.hB,h.cons,h.ext,h.old,h.own,h.inj,h.fix,fun t x hx=>?_⟩
 rcases hl t x hx with h1 | rfl
 ·exact h.slots t x h1
 ·exact⟨.top _,trivial⟩
theorem Inv.drop (h:Inv bs n M O env a w) (keep:List Nat):Inv bs n M O (dropE keep env) a w :=
 h.sub fun _ _ hx=>.inl (DD hx)
def setO (O:Gh) (i:Bool) (c:Nat) (v:Option Nat):Gh :=
 ⟨fun i' c'=>if i'=i∧c'=c then v else O.o i' c',O.len,O.siz⟩
theorem qP (O:Gh) (i:Bool) (c:Nat) (v:Option Nat) (i':Bool) (c':Nat):(setO O i c v).o i' c'=if i'=i∧c'=c then v else O.o i' c':=rfl
theorem jc (O:Gh) (d:Nat) (v:Option Nat) (c:Nat):Gh.Eq1 O (setO O false d v) c:=⟨by simp[qP],rfl,rfl⟩
theorem OwnV.relab {M:Mem} {w:World} {O O':Gh} {x:AV} {v:Value} {l:Nat} {m:Option Nat} (h:OwnV O M w x v)
  (h1:∀ c,m=some c→O' false c=O false l) (h2:∀ c,c≠l→O' false c=O false c∨x.lab?≠some c):OwnV O' M w (x.relab l m) v:=by
 cases x with
 | lst e k o xs =>
  cases o with
  | none=>trivial
  | some c' =>
   simp only[AV.relab];split
   ·rename_i hb;have:=A0 hb;subst this
    cases m with
    | none=>trivial
    | some c =>
     simp only[OwnV]at h ⊢;rw[h1 c rfl];exact h
   ·rename_i hb
    have hne:c'≠l:=by intro e;subst e;simp at hb
    simp only[OwnV]at h ⊢
    rcases h2 c' hne with h3 | h3
    ·rw[h3];exact h
    ·exact absurd rfl h3
 | _=>trivial
theorem qak {l m} {x:AV}:(x.relab l m).one=x.one:=by
 cases x with
 | lst e k o xs =>
  cases o with
  | none=>rfl
  | some c=>simp only[AV.relab];split <;> rfl
 | _=>rfl
theorem CellR.relab {M:Mem} {O O':Gh} {t:Nat} {c:AV} {u:Value} {l:Nat} {m:Option Nat} (h:CellR O M t c u) (hE:∀ c,Gh.Eq1 O O' c) (hns:c≠.slf):CellR O' M t (c.relab l m) u:=by
 cases c with
 | lst e k o xs =>
  have h1:R M ((AV.lst e k o xs).relab l m) u:=R.relab l m h.2
  cases o with
  | none=>exact⟨rfl,h1⟩
  | some c =>
   simp only[AV.relab]at h1 ⊢;split
   ·rename_i hb;rw[hb]at h1;exact⟨rfl,h1⟩
   ·rename_i hb;rw[hb]at h1;exact⟨rfl,h1⟩
 | slf=>exact absurd rfl hns
 | _=>exact h.mono (Sub.refl M) (fun e=>by cases e) fun s _=>hE s
def relO (O:Gh) (l:Nat) (m:Option Nat):Gh :=
 match m with
 | some c=>setO (setO O false c (O false l)) false l none
 | none=>setO O false l none
theorem Inv.relab (h:Inv bs n M O env a w) (l:Nat) (m:Option Nat) (hm:∀ c,m=some c→c≠l∧labIn c env=false) :
  Inv bs n M (relO O l m) (relabE l m env) a w:=by
 obtain⟨O',hO'⟩:∃ O',O'=relO O l m:=⟨_,rfl⟩;rw[← hO'];unfold relO at hO'
 have ht:∀ s,O' true s=O true s:=by
  intro s;rw[hO'];cases m <;> simp[setO]
 have hf1:∀ c,m=some c→O' false c=O false l:=by
  intro c hc;subst hc;rw[hO'];have:=(hm c rfl).1;simp[setO,this]
 have hf2:∀ c,c≠l→m≠some c→O' false c=O false c:=by
  intro c hc hmc;rw[hO'];cases m with
  | none=>simp[setO,hc]
  | some c'=>have:c≠c':=fun e=>hmc (by rw[e]);simp[setO,hc,this]
 have hf3:O' false l=none:=by rw[hO'];cases m <;> simp[setO]
 have key:∀ i c g,O' i c=some g→∃ c0,O i c0=some g∧(i=true→c0=c)∧(i=false→(c0=l∧m=some c)∨(c0=c∧c≠l∧m≠some c)):=by
  intro i c g hg
  cases i with
  | true=>rw[ht]at hg;exact⟨c,hg,(fun _=>rfl),(fun e=>by cases e)⟩
  | false =>
   by_cases hcl:c=l
   ·subst hcl;rw[hf3]at hg;cases hg
   ·by_cases hmc:m=some c
    ·rw[hf1 c hmc]at hg;exact⟨l,hg,(fun e=>by cases e),fun _=>.inl ⟨rfl,hmc⟩⟩
    ·rw[hf2 c hcl hmc]at hg;exact⟨c,hg,(fun e=>by cases e),fun _=>.inr ⟨rfl,hcl,hmc⟩⟩
 have hE:∀ c,Gh.Eq1 O O' c:=by
  intro c;rw[hO'];cases m <;> exact⟨by simp[setO],rfl,rfl⟩
 have hfix:n≤1000000∧∀ c,2000000≤c→c<3000000→Gh.Eq1 bs.O0 O' c:=⟨h.fix.1,fun c h1 h2=>by
  obtain⟨e1,e2,e3⟩:=h.fix.2 c h1 h2;obtain⟨f1,f2,f3⟩:=hE c
  exact⟨f1.trans e1,f2.trans e2,f3.trans e3⟩⟩
 refine⟨h.size,h.defers,h.below,h.hB,h.cons,h.ext,h.old,?_,?_,hfix,?_⟩
 ·intro i c g hg;obtain⟨c0,h1,_⟩:=key i c g hg;exact h.own i c0 g h1
 ·intro i i' c c' g hg hg';obtain⟨c0,h1,h2,h3⟩:=key i c g hg;obtain⟨c0',h1',h2',h3'⟩:=key i' c' g hg';obtain⟨e1,e2⟩:=h.inj i i' c0 c0' g h1 h1';subst e1;subst e2;refine⟨rfl,?_⟩
  cases i with
  | true=>rw[← h2 rfl,← h2' rfl]
  | false =>
   rcases h3 rfl with ⟨ea,eb⟩ | ⟨ea,eb,ec⟩ <;> rcases h3' rfl with ⟨ea',eb'⟩ | ⟨ea',eb',ec'⟩
   ·rw[eb]at eb';exact Option.some.inj eb'
   ·rw[← ea']at eb';exact absurd ea eb'
   ·rw[← ea]at eb;exact absurd ea' eb
   ·rw[← ea,← ea']
 ·intro t x hx;unfold relabE at hx;rw[JF (AV.relabB l m)]at hx
  obtain⟨y,hy,rfl⟩:∃ y,look env t=some y∧y.relabB l m=x:=by
   cases hh:look env t with
   | none=>rw[hh]at hx;cases hx
   | some y=>rw[hh]at hx;exact⟨y,rfl,by simpa using hx⟩
  have hsat:=h.slots t y hy
  have hno:∀ c,m=some c→y.hasLabB c=false:=by
   intro c hc;have:=(hm c hc).2;unfold labIn at this;rw[A4]at this
   have hmem:∃ q∈env,q.1=t∧q.2=y:=by
    clear hsat hx this h
    induction env with
    | nil=>simp[look]at hy
    | cons p r ih =>
     obtain⟨s,z⟩:=p;simp only[look]at hy;split at hy
     ·rename_i hs;cases hy;exact⟨(s,y),List.mem_cons_self ..,A0 hs,rfl⟩
     ·obtain⟨q,hq,h1,h2⟩:=ih (fun c hc=>⟨(hm c hc).1,by have:=(hm c hc).2;simp only[labIn,List.any_cons,Bool.or_eq_false_iff]at this;exact this.2⟩) hy;exact⟨q,List.mem_cons_of_mem _ hq,h1,h2⟩
   obtain⟨q,hq,_,h2⟩:=hmem;have:=this q hq;rw[h2]at this
   simpa using this
  have hno1:∀ (z:AV),(∀ c,m=some c→z.hasLab c=false)→∀ c,c≠l→O' false c=O false c∨z.lab?≠some c:=by
   intro z hz c hc;by_cases hmc:m=some c
   ·refine .inr fun e=>?_
    have:=hz c hmc;simp[AV.hasLab,e]at this
   ·exact .inl (hf2 c hc hmc)
  cases y with
  | box cs =>
   obtain⟨g,cur,el,h1,h2,h3,h4,h5,h6⟩:=hsat;refine⟨g,cur,el,h1,by rw[ht];exact h2,h3,by simpa using h4,h5,fun j x u hx' hu=>?_⟩;rw[A5]at hx'
   cases hcj:cs[j]? with
   | none=>rw[hcj]at hx';cases hx'
   | some z =>
    rw[hcj]at hx';cases hx';obtain⟨k1,k2,k3⟩:=h6 j z u hcj hu;refine⟨by rw[qak];exact k1,k2.relab l m,k3.relab hf1 (hno1 z fun c hc=>?_)⟩;have:=hno c hc;simp only[AV.hasLabB,A4]at this;have:=this z (A1 hcj)
    simpa using this
  | pb s off =>
   obtain⟨g,h1,h2⟩:=hsat;exact⟨g,h1,by rw[ht];exact h2⟩
  | pe s k j o =>
   obtain⟨g,h1,h2⟩:=hsat;exact⟨g,h1,by rw[ht];exact h2⟩
  | sb s e k off m=>exact SbOk.change hsat (hE s)
  | tpr s e k off m rest =>
   obtain⟨u,us,h1,h2,h3,h4⟩:=hsat;exact⟨u,us,h1,SbOk.change h2 (hE s),h3,h4⟩
  | obj e k xs=>exact ObjOk.change hsat (Sub.refl M) (hE t) fun g hg=>⟨rfl,fun _ hm=>hm⟩
  | hob kd ks vs=>exact HobOk.change hsat (Sub.refl M) (hE t) fun g hg=>⟨rfl,fun _ hm=>hm⟩
  | bxg cs=>exact BxgOk.change hsat (Sub.refl M) (hE t) (fun s _=>hE s) fun g hg=>⟨rfl,fun _ hm=>hm⟩
  | slf=>exact hsat.elim
  | agr cs =>
   obtain⟨us,h1,h2,h3⟩:=hsat;refine⟨us,h1,by simpa using h2,fun j x u hx' hu=>?_⟩;rw[A5]at hx'
   cases hcj:cs[j]? with
   | none=>rw[hcj]at hx';cases hx'
   | some z =>
    rw[hcj]at hx';cases hx';obtain⟨k1,k2,k3⟩:=h3 j z u hcj hu;refine⟨k1.relab hE k3,k2.relab hf1 (hno1 z fun c hc=>?_),?_⟩
    ·have:=hno c hc;simp only[AV.hasLabB,A4]at this;have:=this z (A1 hcj)
     simpa using this
    ·cases z with
     | lst e k o xs=>cases o with
      | none=>exact fun e=>by cases e
      | some c=>simp only[AV.relab];split <;> exact fun e=>by cases e
     | _=>exact k3
  | mb kd s =>
   obtain⟨g,h1,h2⟩:=hsat;exact⟨g,by rw[(hE s).1];exact h1,h2⟩
  | clb f caps =>
   obtain⟨vs,h1,h2,h3⟩:=hsat;refine⟨vs,h1,h2,fun j c u hc hu=>?_⟩;have h4:=h3 j c u hc hu;unfold CapOk at *
   cases c with
   | pb s off=>obtain⟨g,k1,k2⟩:=h4;exact⟨g,k1,by rw[(hE s).1];exact k2⟩
   | _=>exact h4
  | lst e k o xs =>
   obtain⟨h1,h2⟩:=hsat;have h3:=R.relab l m h1;have h4:=h2.relab (O':=O') (m:=m) (l:=l) hf1 (hno1 (.lst e k o xs) fun c hc=>by simpa[AV.hasLabB] using hno c hc);show Sat O' M w t ((AV.lst e k o xs).relab l m) _
   cases o with
   | none=>exact⟨h3,h4⟩
   | some c =>
    have:∃ o',(AV.lst e k (some c) xs).relab l m=.lst e k o' xs:=by
     simp only[AV.relab];split <;> exact⟨_,rfl⟩
    obtain⟨o',ho'⟩:=this;rw[ho']at h3 h4 ⊢;exact⟨h3,h4⟩
  | _=>exact⟨hsat.1,trivial⟩
end
end Go.AM
