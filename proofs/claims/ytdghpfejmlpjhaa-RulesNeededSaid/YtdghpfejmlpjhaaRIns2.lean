/- s -/
import Derived.Test.YtdghpfejmlpjhaaRIter
import Derived.Laws.EntriesVeiled
import Derived.Deep.RegionHeld3
import Derived.Deep.AppendLies
set_option maxRecDepth 100000
set_option linter.unusedVariables false
set_option linter.unusedSimpArgs false
namespace Go.Proofs
open Go.RowKit Go.AM
open Go.ChangeMaps (setBlock)
theorem qaY {α β:Type} (f:α→β) {m l:List β} (h:l.Perm m):∀ a:List α,l=a.map f→∃ b:List α,a.Perm b∧m=b.map f:=by
 induction h with
 | nil=>intro a ha;exact⟨a,.refl _,ha⟩
 | cons x h ih =>
  intro a ha
  cases a with
  | nil=>cases ha
  | cons y a =>
   rw[List.map_cons]at ha;obtain⟨rfl,h2⟩:=List.cons.inj ha;obtain⟨b,hb,rfl⟩:=ih a h2;exact⟨y::b,hb.cons y,rfl⟩
 | swap x y l =>
  intro a ha
  match a,ha with
  | p::q::a,ha =>
   rw[List.map_cons,List.map_cons]at ha;obtain⟨rfl,h2⟩:=List.cons.inj ha;obtain⟨rfl,rfl⟩:=List.cons.inj h2;exact⟨q::p::a,List.Perm.swap _ _ _,rfl⟩
 | trans _ _ ih1 ih2 =>
  intro a ha;obtain⟨b,h1,rfl⟩:=ih1 a ha;obtain⟨c,h2,rfl⟩:=ih2 b rfl;exact⟨c,h1.trans h2,rfl⟩
theorem qaG {α β:Type}:∀ {a:List α} {b:List β},a.length=b.length→(a.zip b).map Prod.fst=a
 | [],[],_=>rfl
 | x::a,y::b,h=>by simp[qaG (by simpa using h:a.length=b.length)]
theorem qbB {M:Mem} {inl:List (rufact×Bool)} {gi:Nat} (h:R M (mpE qh AV.bool inl) (.map (some gi))):∃ (es:Array MapEntry) (clock:Nat) (fs:List rufact),M gi 0=some (mapCell es clock)∧MapKept.Stamped es clock∧(inl.map Prod.fst).Perm fs∧fs.length=es.size∧∀ (j:Nat) f e,fs[j]? = some f→es[j]? = some e→e.key=factV f:=by
 have h':R M (.mpv (inl.map fun p=>qh p.1) (inl.map fun p=>AV.bool p.2)) (.map (some gi)):=h;clear h;generalize hks:(inl.map fun p=>qh p.1)=ks at h';generalize hvs:(inl.map fun p=>AV.bool p.2)=vs at h'
 rcases UF h' with ⟨h0,_,_⟩ | ⟨ks',vs',b,es,clock,hp,hv,h1,h2,h3,h4,h5,h6,h7⟩
 ·cases h0
 ·cases hv
  have hk:(inl.map fun p=>qh p.1).Perm ks':=by
   have h8:=hp.2.2.map Prod.fst;rw[qaG hp.1,qaG hp.2.1]at h8;rw[hks];exact h8
  obtain⟨fs,q1,rfl⟩:=qaY qh hk (inl.map Prod.fst) (by simp[List.map_map,Function.comp_def]);refine⟨es,clock,fs,h1,h2,q1,by simpa using h4,fun j f e hf he=>?_⟩;have:=h6 j (qh f) e (by simp[hf]) he;obtain⟨l,hl,hkl⟩:=Xf this;obtain⟨l1,rfl,hl1,_⟩:=JD hkl;obtain⟨l2,rfl,hl2,_⟩:=JD hl1;obtain⟨l3,rfl,hl3,_⟩:=JD hl2;cases hl3;exact hl
theorem Iter.start {w:World} {gi bm:Nat} {es:Array MapEntry} {clock:Nat} {fs:List rufact} (h:w.heap[gi]? = some (.mapIter (some bm) clock #[] clock)) (hl:fs.length=es.size) (hk:∀ (j:Nat) f e,fs[j]? = some f→es[j]? = some e→e.key=factV f):Iter factV w gi bm es clock fs:=by
 have:leftOf es #[]=es:=by
  unfold leftOf;rw[Array.filter_eq_self]
  simp
 refine⟨#[],clock,h,Nat.le_refl _,by rw[this];exact hl,fun j f e hf he=>?_⟩;rw[this]at he;exact hk j f e hf he
def Parts (bl:List (Int×List rufact)) (rem all:List rufact):Prop:=∀ rel,(mget keq1 [] rel bl++rem.filter fun f=>f.ql == rel).Perm (all.filter fun f=>f.ql == rel)
theorem Nr (k rel:Int) (l:List rufact):∀ bl:List (Int×List rufact),mget keq1 [] rel (mset keq1 k l bl)=if rel=k then l else mget keq1 [] rel bl
 | []=>by
  simp only[mset,mget,keq1]
  by_cases h:rel=k
  ·subst h;simp
  ·have:(k == rel)=false:=by simp;omega
   simp[this,h]
 | p::r=>by
  have ih:=Nr k rel l r;simp only[mset]
  cases hq:keq1 p.1 k with
  | true =>
   have hpk:p.1=k:=by simpa[keq1] using hq
   simp only[cond_true,mget,keq1,hpk]
   by_cases h:rel=k
   ·subst h;simp[hpk]
   ·have h2:(k == rel)=false:=by simp;omega
    rw[h2];simp[h]
  | false =>
   have hpk:¬ p.1=k:=by simpa[keq1] using hq
   simp only[cond_false,mget];rw[ih]
   by_cases h:rel=k
   ·subst h;rw[hq];simp
   ·simp[h]
theorem Parts.take {bl:List (Int×List rufact)} {rem all:List rufact} (h:Parts bl rem all) {j:Nat} {f:rufact} (hj:rem[j]? = some f):Parts (mset keq1 f.ql (mget keq1 [] f.ql bl++[f]) bl) (rem.eraseIdx j) all:=by
 intro rel;refine List.Perm.trans ?_ (h rel);have hlt:=(List.getElem?_eq_some_iff.1 hj).1;have hf:rem[j]=f:=(List.getElem?_eq_some_iff.1 hj).2
 have hp:(rem.filter fun f=>f.ql == rel).Perm ((f::rem.eraseIdx j).filter fun f=>f.ql == rel):=by
  have:rem.Perm (rem[j]::rem.eraseIdx j):=by
   have e:∀ (l:List rufact) (j:Nat) (h:j<l.length),l.Perm (l[j]::l.eraseIdx j):=by
    intro l
    induction l with
    | nil=>intro j h;simp at h
    | cons a l ih =>
     intro j h
     cases j with
     | zero=>simp
     | succ j =>
      simp only[List.getElem_cons_succ,List.eraseIdx_cons_succ];exact ((ih j (by simpa using h)).cons a).trans (List.Perm.swap _ _ _)
   exact e rem j hlt
  rw[hf]at this;exact this.filter _
 refine List.Perm.trans ?_ (hp.append_left _).symm;rw[Nr,List.filter_cons]
 by_cases hr:rel=f.ql
 ·subst hr
  simp
 ·have:(f.ql == rel)=false:=by simp;omega
  simp[hr,this]
theorem mset_len (k:Int) (l:List rufact):∀ bl:List (Int×List rufact),(mset keq1 k l bl).length≤bl.length+1
 | []=>by simp[mset]
 | p::r=>by
  have:=mset_len k l r;unfold mset;cases keq1 p.1 k <;> simp <;> omega
def itLeft (es:Array MapEntry) (gi:Nat) (w:World):Nat:=match w.heap[gi]? with
 | some (.mapIter _ _ seen _)=>(leftOf es seen).size
 | _=>0
theorem Iter.left {κ:Type} {K:κ→Value} {w:World} {gi bm:Nat} {es:Array MapEntry} {clock:Nat} {rem:List κ} (h:Iter K w gi bm es clock rem):itLeft es gi w=rem.length:=by
 obtain⟨seen,c0,h1,h2,h3,h4⟩:=h;unfold itLeft;rw[h1];exact h3.symm
def mtail (M:Mem) (B:Nat) (w:World):Mem:=fun b o=>if b<B then M b o else mc w b o
theorem Zi {M:Mem} {B b o:Nat} {w:World} (h:b<B):mtail M B w b o=M b o:=by unfold mtail;rw[if_pos h]
theorem QA {M:Mem} {B b o:Nat} {w:World} (h:B≤b):mtail M B w b o=mc w b o:=by unfold mtail;rw[if_neg (by omega)]
theorem Uh {M:Mem} {B:Nat} {w0 w:World} (hC:Cons M w0) (hB:Below B w0 w):Cons (mtail M B w) w:=fun b o u hu=>by
 unfold mtail at hu
 split at hu
 ·rename_i h;have h1:=hC _ _ _ hu;rw[Qp (hB.block b h)];exact h1
 ·exact hu
theorem Nq {M:Mem} {B:Nat} {w0 w:World} (hC:Cons M w0) (hB:Below B w0 w) (hb:w0.heap.size≤B):Sub M (mtail M B w):=fun b o u hu=>by
 rw[Zi (by have:=ZL (hC _ _ _ hu);omega)];exact hu
theorem HE {w:World} {b o:Nat} {t:TypeId} {fz:Nat×Nat} {cs:Array Value} {u:Value} (h:w.heap[b]? = some (.cells cs t fz)) (hu:cs[o]? = some u) (ht:isTup u=false):mc w b o=some u:=by
 unfold mc;rw[h];exact Jd hu ht
theorem qgU {M:Mem} {w:World} {base B:Nat} {v:Value} {l:List rufact} (h:w.ownsRow base 127 3 v l.length (factsC l)) (hB:B≤base):R (mtail M B w) (lF l) v:=by
 obtain⟨q1,q2⟩:=h
 rcases q2 with ⟨rfl,h0⟩ | ⟨g,cap,cur,rfl,hb,hg,hn,hm,hs,ht⟩
 ·have:l=[]:=List.eq_nil_of_length_eq_zero h0;subst this;exact .lstn _ _ _
 ·have hcell:∀ (j:Nat) u,(factsC l)[j]? = some u→cur[j]? = some u:=fun j u hu=>by
   have h1:=congrArg (fun l=>l[j]?) ht;simp only[List.getElem?_take,Array.getElem?_toList,hu]at h1
   split at h1
   ·exact h1
   ·cases h1
  have hfl:∀ (j:Nat) c,(flat (l.map qh))[j]? = some c→∃ u,(factsC l)[j]? = some u∧isTup u=false∧∀ M,R M c u:=by
   clear ht q1 hcell hn
   induction l with
   | nil=>intro j c hc;simp[flat]at hc
   | cons f l ih =>
    intro j c hc;have e1:flat ((f::l).map qh)=[.int .i64 f.ql,.int .i64 f.f_a,.int .i64 f.f_b]++flat (l.map qh):=rfl;have e2:factsC (f::l)=[.int .i64 f.ql,.int .i64 f.f_a,.int .i64 f.f_b]++factsC l:=rfl;rw[e1]at hc;rw[e2]
    match j,hc with
    | 0,hc | 1,hc | 2,hc=>cases hc;exact⟨_,rfl,rfl,fun M=>.int _ _⟩
    | j+3,hc =>
     have:∀ {α:Type} (a b c:α) (r:List α),([a,b,c]++r)[j+3]? = r[j]?:=fun a b c r=>by simp
     rw[this]at hc ⊢;exact ih j c hc
  have hl:(l.map qh).length=l.length:=List.length_map _;show R _ (.lst 127 3 none (l.map qh)) (.slice (some ⟨g,0,none⟩) l.length cap);rw[← hl];refine .lst (fun j=>(factsC l).getD j undef) (by rw[hl];exact hn) (fun x hx=>?_) (fun x hx=>?_) (fun j c hc=>?_) (fun j c hc=>?_)
  ·obtain⟨z,_,rfl⟩:=List.mem_map.1 hx;rfl
  ·obtain⟨z,_,rfl⟩:=List.mem_map.1 hx;rfl
  ·obtain⟨u,h1,h2,h3⟩:=hfl j c hc;rw[List.getD_eq_getElem?_getD,h1,QA (by omega),Nat.zero_add];exact HE hg (hcell j u h1) h2
  ·obtain⟨u,h1,h2,h3⟩:=hfl j c hc;rw[List.getD_eq_getElem?_getD,h1];exact h3 _
theorem ByRel.freeze {M:Mem} {w:World} {base gm B:Nat} {bl:List (Int×List rufact)} {es:Array MapEntry} {clock:Nat} (h:ByRel w base gm bl es clock) (hB:B≤gm):R (mtail M B w) (mpE (AV.int .i64) lF bl) (.map (some gm)):=by
 obtain⟨h1,⟨E1,E2,E3,E4,E5,E6⟩,h3,h4,h5⟩:=h
 refine .mpv (by rw[QA hB];exact Zj h1) E1 E2 E3 (by simpa[kE] using E3) E5 fun j v e hv he=>?_
 simp only[List.getElem?_map,Option.map_eq_some_iff]at hv;obtain⟨p,hp,rfl⟩:=hv;exact qgU (h3 j p e hp he).2 (by omega)
theorem CB.above {D:List (List Int)→Prop} {g:Nat} {caps:Array Value} {M0 M1 M:Mem} {S:List (List Int)→Mem→World→Prop} (hcb:CB D g caps M0 S) (hs:Sub M M1) (hM0:Sub M0 M)   : CB D g caps M1 (fun d N w=>S d N w∧Sub M1 N):=by
 refine⟨hcb.pre,hcb.enter,fun h=>⟨(hcb.cons h.1).1,h.2⟩,fun h hB h1 h2 h3=>⟨hcb.grow h.1 hB h1 h2 h3,Sub.trans h.2 h1⟩,fun h h1 h2=>⟨hcb.down h.1 (Sub.trans hM0 (Sub.trans hs h1)) h2,h1⟩,fun v hv hD h=>(hcb.call v hv hD h.1).mono fun e w' h'=>⟨h'.1,h'.2,h.2⟩⟩
set_option maxHeartbeats 8000000 in
theorem Try.inst116 (D:List (List Int)→Prop) (g:Nat) (caps:Array Value) (M0:Mem) (S:List (List Int)→Mem→World→Prop) (hcb:CB D g caps M0 S) (body:List ruLit) (inl no:List (rufact×Bool)) (rel:Int) (hargs bv:Value) (gi:Nat) (mo:Option Nat) (d:List (List Int)) (M:Mem) (w:World) (hS:S d M w)
  (hha:isTup hargs=false∧hargs.cells=#[hargs]) (hbv:R M (l56 none body) bv) (hin:R M (mpE qh AV.bool inl) (.map (some gi))) (hno:R M (mpE qh AV.bool no) (.map mo)) (hwf:∀ p,p∈inl→wfI .i64 p.1.ql=true) (hlen:inl.length≤100000) (hbl:body.length≤1000)
  (hdef:∀ bl,(∀ rel,(mget keq1 [] rel bl).Perm ((inl.map Prod.fst).filter fun f=>f.ql == rel))→∃ out,tryP body no bl body (List.replicate 8 0)=some out∧D (d++out)) :
  Calls Try.prog 116 #[.agg #[.int .i64 rel,hargs,bv],.map (some gi),.map mo,.func (.func g) #[] caps] w fun e w'=>e=retU∧∃ bl out,(∀ rel,(mget keq1 [] rel bl).Perm ((inl.map Prod.fst).filter fun f=>f.ql == rel))∧tryP body no bl body (List.replicate 8 0)=some out∧S (d++out) M w':=by
 have mixed:=mixedP;have t3:=Try.underlying3;have a3:=Try.isAgg3;have z3:=Try.sizeOf3;have v3:=Try.zeroValue3;have u3:=run_underlying Try.underlying3;have t4:=Try.underlying4;have a4:=Try.isAgg4;have z4:=Try.sizeOf4;have v4:=Try.zeroValue4;have u4:=run_underlying Try.underlying4;have t50:=Try.underlying50;have a50:=Try.isAgg50;have z50:=Try.sizeOf50;have v50:=Try.zeroValue50;have u50:=run_underlying Try.underlying50;have t52:=Try.underlying52;have a52:=Try.isAgg52;have z52:=Try.sizeOf52;have v52:=Try.zeroValue52;have u52:=run_underlying Try.underlying52;have t54:=Try.underlying54;have a54:=Try.isAgg54;have z54:=Try.sizeOf54;have v54:=Try.zeroValue54;have u54:=run_underlying Try.underlying54;have t56:=Try.underlying56;have a56:=Try.isAgg56;have z56:=Try.sizeOf56;have v56:=Try.zeroValue56;have u56:=run_underlying Try.underlying56;have t105:=Try.underlying105;have a105:=Try.isAgg105;have z105:=Try.sizeOf105;have v105:=Try.zeroValue105;have u105:=run_underlying Try.underlying105;have t127:=Try.underlying127;have a127:=Try.isAgg127;have z127:=Try.sizeOf127;have v127:=Try.zeroValue127;have u127:=run_underlying Try.underlying127;have t150:=Try.underlying150;have a150:=Try.isAgg150;have z150:=Try.sizeOf150;have v150:=Try.zeroValue150;have u150:=run_underlying Try.underlying150;have t178:=Try.underlying178;have a178:=Try.isAgg178;have z178:=Try.sizeOf178;have v178:=Try.zeroValue178;have u178:=run_underlying Try.underlying178;have t180:=Try.underlying180;have a180:=Try.isAgg180;have z180:=Try.sizeOf180;have v180:=Try.zeroValue180;have u180:=run_underlying Try.underlying180;have t183:=Try.underlying183;have a183:=Try.isAgg183;have z183:=Try.sizeOf183;have v183:=Try.zeroValue183;have u183:=run_underlying Try.underlying183;have t191:=Try.underlying191;have a191:=Try.isAgg191;have z191:=Try.sizeOf191;have v191:=Try.zeroValue191;have u191:=run_underlying Try.underlying191;have t192:=Try.underlying192;have a192:=Try.isAgg192;have z192:=Try.sizeOf192;have v192:=Try.zeroValue192;have u192:=run_underlying Try.underlying192;obtain⟨hC,hM0⟩:=hcb.cons hS;obtain⟨es,clock,fs,q1,q2,q3,q4,q5⟩:=qbB hin;obtain⟨bs,bc,rfl⟩:=Yt hbv;rw[List.length_map]at hbv ⊢;have hgi:=ZL (hC _ _ _ q1);have hmm:=@run_makeMap Try.prog;obtain⟨w5,ew5⟩:∃ w5,w5=((((w.alloc (.cells #[.int .i64 rel,hargs,.slice bs body.length bc] 54)).alloc (.cells #[.map mo] 105)).alloc (.cells #[.func (.func g) #[] caps] 180)).alloc (.map #[] 0)).alloc (.cells #[.map (some (w.heap.size+1+1+1))] 191):=⟨_,rfl⟩
 have z5:w5.heap.size=w.heap.size+1+1+1+1+1:=by rw[ew5];simp
 have B5:Below w.heap.size w w5:=by rw[ew5];exact (((((Below.refl _ _).alloc (Nat.le_refl _) _).alloc (by simp) _).alloc (by simp;omega) _).alloc (by simp;omega) _).alloc (by simp;omega) _
 have e0:w5.heap[w.heap.size]? = some (.cells #[.int .i64 rel,hargs,.slice bs body.length bc] 54 (0,0)):=by
  rw[ew5,heap_alloc_old _ _ (by simp <;> omega),heap_alloc_old _ _ (by simp <;> omega),heap_alloc_old _ _ (by simp <;> omega),heap_alloc_old _ _ (by simp <;> omega)];exact heap_alloc_new _ _
 have e1:w5.heap[w.heap.size+1]? = some (.cells #[.map mo] 105 (0,0)):=by
  rw[ew5,heap_alloc_old _ _ (by simp <;> omega),heap_alloc_old _ _ (by simp <;> omega),heap_alloc_old _ _ (by simp <;> omega)];have:=heap_alloc_new (w.alloc (.cells #[.int .i64 rel,hargs,.slice bs body.length bc] 54)) (.cells #[.map mo] 105)
  simpa using this
 have e2:w5.heap[w.heap.size+1+1]? = some (.cells #[.func (.func g) #[] caps] 180 (0,0)):=by
  rw[ew5,heap_alloc_old _ _ (by simp <;> omega),heap_alloc_old _ _ (by simp <;> omega)];have:=heap_alloc_new ((w.alloc (.cells #[.int .i64 rel,hargs,.slice bs body.length bc] 54)).alloc (.cells #[.map mo] 105)) (.cells #[.func (.func g) #[] caps] 180)
  simpa using this
 have e3:w5.heap[w.heap.size+1+1+1]? = some (.map #[] 0):=by
  rw[ew5,heap_alloc_old _ _ (by simp <;> omega)];have:=heap_alloc_new (((w.alloc (.cells #[.int .i64 rel,hargs,.slice bs body.length bc] 54)).alloc (.cells #[.map mo] 105)).alloc (.cells #[.func (.func g) #[] caps] 180)) (.map #[] 0)
  simpa using this
 have e4:w5.heap[w.heap.size+1+1+1+1]? = some (.cells #[.map (some (w.heap.size+1+1+1))] 191 (0,0)):=by
  rw[ew5];have:=heap_alloc_new ((((w.alloc (.cells #[.int .i64 rel,hargs,.slice bs body.length bc] 54)).alloc (.cells #[.map mo] 105)).alloc (.cells #[.func (.func g) #[] caps] 180)).alloc (.map #[] 0)) (.cells #[.map (some (w.heap.size+1+1+1))] 191)
  simpa using this
 have hb5:w5.heap[gi]? = some (.map es clock):=(B5.block gi hgi).trans (YW (hC _ _ _ q1));have hrg:=run_range_map (P:=Try.prog) w5 105 127 4 gi es clock Try.underlying105 hb5;obtain⟨w6,ew6⟩:∃ w6,w6=w5.alloc (.mapIter (some gi) clock #[] clock):=⟨_,rfl⟩
 have z6:w6.heap.size=w.heap.size+1+1+1+1+1+1:=by rw[ew6];simp[z5]
 have B56:∀ k,k<w.heap.size+1+1+1+1+1→w6.heap[k]? = w5.heap[k]?:=fun k hk=>by rw[ew6];exact heap_alloc_old _ _ (by omega)
 have e5:w6.heap[w.heap.size+1+1+1+1+1]? = some (.mapIter (some gi) clock #[] clock):=by
  rw[ew6,← z5];exact heap_alloc_new _ _
 have B6:Below w.heap.size w w6:=by rw[ew6];exact B5.alloc (by omega) _
 rw[ew5,← ew5,z5,← ew6,ew5]at hrg;have e0:=(B56 _ (by omega)).trans e0;have e1:=(B56 _ (by omega)).trans e1;have e2:=(B56 _ (by omega)).trans e2;have e3:=(B56 _ (by omega)).trans e3;have e4:=(B56 _ (by omega)).trans e4;have R0:ByRel w6 (w.heap.size+1+1+1+1+1+1) (w.heap.size+1+1+1) [] #[] 0:=⟨e3,⟨(MapKept.stamped_iff _ _).2 ⟨by simp,by simp,by simp⟩,Nat.zero_le _,rfl,rfl,fun j k e hk=>by simp at hk,fun j k e hk=>by simp at hk⟩,fun j p e hp=>by simp at hp,fun i j e f g he=>by simp at he,by omega⟩;have I0:Iter factV w6 (w.heap.size+1+1+1+1+1) gi es clock fs:=Iter.start e5 q4 q5
 have P0:Parts [] fs (inl.map Prod.fst):=fun rel=>by
  simp only[mget,List.nil_append];exact q3.symm.filter _
 have hfl:fs.length=inl.length:=by rw[← q3.length_eq,List.length_map]
 have hmf:∀ (fn:Fn) (first cap:Array Value) (w:World),(Instr.makeFunc fn first cap).run Try.prog w=.ok (.func fn first cap) w:=fun _ _ _ _=>rfl
 clear ew5 ew6 B5 hb5 B56 e3 e5 q5
 go_enter Try.func116,Try.ntmps116
 go_wp2
 go_loopw [] (fun wr=>Below w.heap.size w wr∧w6.heap.size≤wr.heap.size∧(∀ k,k<w6.heap.size→k≠w.heap.size+1+1+1→k≠w.heap.size+1+1+1+1+1→wr.heap[k]? = w6.heap[k]?)∧∃ bl es2 clock2 rem,ByRel wr (w.heap.size+1+1+1+1+1+1) (w.heap.size+1+1+1) bl es2 clock2∧Iter factV wr (w.heap.size+1+1+1+1+1) gi es clock rem∧Parts bl rem (inl.map Prod.fst)∧bl.length+rem.length≤inl.length)
  (fun wr=>itLeft es (w.heap.size+1+1+1+1+1) wr)
 case atStart=>exact⟨B6,Nat.le_refl _,fun _ _ _ _=>rfl,[],#[],0,fs,R0,I0,P0,by simp[hfl]⟩
 case round =>
  obtain⟨hBr,hsz,hold,bl,es2,clock2,rem,hR,hI,hP,hcount⟩:=hrel;have hbr:wr.heap[gi]? = some (.map es clock):=(hBr.block gi hgi).trans (YW (hC _ _ _ q1))
  rcases hI.next hbr q2 0 with ⟨rfl,hrun⟩ | ⟨j,f,v,wn,hj,hrun,hgr,hszn,hIn,hent⟩
  ·have hnx:∀ ty,(Instr.next (.pointer (some ⟨w.heap.size+1+1+1+1+1,0,none⟩)) false ty).run Try.prog wr=_:=fun _=>hrun
   obtain⟨w9,ew9⟩:∃ w9,w9=wr.alloc (.cells #[tryV w.heap.size (w.heap.size+1) (w.heap.size+1+1) wr.heap.size (w.heap.size+1+1+1+1)] 192):=⟨_,rfl⟩
   have B9:Below w.heap.size w w9:=by rw[ew9];exact hBr.alloc (by omega) _
   have k0:w9.heap[w.heap.size]? = some (.cells #[.int .i64 rel,hargs,.slice bs body.length bc] 54 (0,0)):=by rw[ew9,heap_alloc_old _ _ (by omega),hold _ (by omega) (by omega) (by omega)];exact e0
   have k1:w9.heap[w.heap.size+1]? = some (.cells #[.map mo] 105 (0,0)):=by rw[ew9,heap_alloc_old _ _ (by omega),hold _ (by omega) (by omega) (by omega)];exact e1
   have k2:w9.heap[w.heap.size+1+1]? = some (.cells #[.func (.func g) #[] caps] 180 (0,0)):=by rw[ew9,heap_alloc_old _ _ (by omega),hold _ (by omega) (by omega) (by omega)];exact e2
   have k4:w9.heap[w.heap.size+1+1+1+1]? = some (.cells #[.map (some (w.heap.size+1+1+1))] 191 (0,0)):=by rw[ew9,heap_alloc_old _ _ (by omega),hold _ (by omega) (by omega) (by omega)];exact e4
   have k5:w9.heap[wr.heap.size]? = some (.cells #[tryV w.heap.size (w.heap.size+1) (w.heap.size+1+1) wr.heap.size (w.heap.size+1+1+1+1)] 192 (0,0)):=by rw[ew9];exact heap_alloc_new _ _
   have R9:ByRel w9 (w.heap.size+1+1+1+1+1+1) (w.heap.size+1+1+1) bl es2 clock2:=hR.below fun k hk _=>by rw[ew9];exact heap_alloc_old _ _ hk
   have s9:=Nq (w:=w9) hC B9 (Nat.le_refl _);have S9:S d (mtail M w.heap.size w9) w9:=hcb.grow hS B9 s9 (fun b o hb=>Zi hb) (Uh hC B9)
   have T9:TE (mtail M w.heap.size w9) w.heap.size (w.heap.size+1) (w.heap.size+1+1) wr.heap.size (w.heap.size+1+1+1+1) body no bl g caps:=by
    refine⟨⟨_,?_,hbv.mono s9⟩,⟨_,?_,hno.mono s9⟩,?_,?_,⟨_,?_,R9.freeze (by omega)⟩,hbl⟩
    ·rw[QA (by omega)];exact HE k0 rfl rfl
    ·rw[QA (by omega)];exact HE k1 rfl rfl
    ·rw[QA (by omega)];exact HE k2 rfl rfl
    ·rw[QA (by omega)];exact HE k5 rfl rfl
    ·rw[QA (by omega)];exact HE k4 rfl rfl
   have hPe:∀ rel,(mget keq1 [] rel bl).Perm ((inl.map Prod.fst).filter fun f=>f.ql == rel):=fun rel=>by simpa using hP rel
   obtain⟨out,hout,hD⟩:=hdef bl hPe
   have hbn:∀ rel,(mget keq1 [] rel bl).length≤1000000:=fun rel=>by
    rw[(hPe rel).length_eq];exact Nat.le_trans (List.length_filter_le _ _) (by rw[List.length_map];omega)
   have hcall:=Try.try128 D g caps (mtail M w.heap.size w9) (fun d N w'=>S d N w'∧Sub (mtail M w.heap.size w9) N) (hcb.above s9 hM0) w.heap.size (w.heap.size+1) (w.heap.size+1+1) wr.heap.size (w.heap.size+1+1+1+1) body no bl T9 hbn body 0 (List.replicate 8 0) out d (mtail M w.heap.size w9) w9 rfl (Nat.zero_le _) rfl hout hD ⟨S9,Sub.refl _⟩;have en128:=Try.enter128;have HW9:=(show Hid (w9=_) from ew9);unfold tryV at HW9;clear ew9
   go_wp2_with fail
   rw[← HW9.out];refine Calls.mono hcall ?_
   rintro e w10 ⟨rfl,S10,_⟩
   go_wp2
   refine bodyPost_end (results_none rfl _ _ _) rfl ?_;exact⟨rfl,bl,out,hPe,hout,hcb.down S10 hM0 s9⟩
  ·have hnx:∀ ty,(Instr.next (.pointer (some ⟨w.heap.size+1+1+1+1+1,0,none⟩)) false ty).run Try.prog wr=_:=fun _=>hrun
   have hen:=hent wn rfl ((hgr.block gi (lt_of_block hbr) (by simp;omega)).trans hbr)
   have hfm:f∈inl.map Prod.fst:=by
    have h1:f∈rem.filter fun g=>g.ql == f.ql:=List.mem_filter.2 ⟨List.mem_of_getElem? hj,by simp⟩
    exact (List.mem_filter.1 ((hP f.ql).mem_iff.1 (List.mem_append_right _ h1))).1
   have hwf1:wfI .i64 f.ql=true:=by
    obtain⟨p,hp,rfl⟩:=List.mem_map.1 hfm;exact hwf p hp
   have hjl:=(List.getElem?_eq_some_iff.1 hj).1;obtain⟨w2,ew2⟩:∃ w2,w2=wn.alloc (.cells #[.int .i64 f.ql,.int .i64 f.f_a,.int .i64 f.f_b] 127):=⟨_,rfl⟩
   have z2:w2.heap.size=wr.heap.size+1:=by rw[ew2];simp[hszn]
   have b2:∀ k,k<wr.heap.size→k≠w.heap.size+1+1+1+1+1→w2.heap[k]? = wr.heap[k]?:=fun k hk hne=>by
    rw[ew2,heap_alloc_old _ _ (by omega)];exact hgr.block k hk (fun e=>hne (Option.some.inj e))
   have n9:w2.heap[wr.heap.size]? = some (.cells #[.int .i64 f.ql,.int .i64 f.f_a,.int .i64 f.f_b] 127 (0,0)):=by rw[ew2,← hszn];exact heap_alloc_new _ _
   have n4:w2.heap[w.heap.size+1+1+1+1]? = some (.cells #[.map (some (w.heap.size+1+1+1))] 191 (0,0)):=by rw[b2 _ (by omega) (by omega),hold _ (by omega) (by omega) (by omega)];exact e4
   have KK:∀ w':World,w'.heap[wr.heap.size]? = w2.heap[wr.heap.size]?→w'.heap[w.heap.size+1+1+1+1]? = w2.heap[w.heap.size+1+1+1+1]?→w'.cell? ⟨w.heap.size+1+1+1+1,0,none⟩=some (.map (some (w.heap.size+1+1+1)))∧w'.cell? ⟨wr.heap.size,0,none⟩=some (.int .i64 f.ql)∧w'.cell? ⟨wr.heap.size,1,none⟩=some (.int .i64 f.f_a)∧w'.cell? ⟨wr.heap.size,2,none⟩=some (.int .i64 f.f_b):=fun w' h1 h2=>by
    rw[n9]at h1;rw[n4]at h2;refine⟨?_,?_,?_,?_⟩ <;> simp[World.cell?,h1,h2]
   have K0:=KK w2.drew rfl rfl;obtain⟨w3,ew3⟩:∃ w3,w3=(w2.alloc (.cells #[.int .i64 f.ql,.int .i64 f.f_a,.int .i64 f.f_b] 127)).drew:=⟨_,rfl⟩
   have z3:w3.heap.size=wr.heap.size+1+1:=by rw[ew3];simp[z2]
   have b3:∀ k,k<w2.heap.size→w3.heap[k]? = w2.heap[k]?:=fun k hk=>by rw[ew3];exact heap_alloc_old w2 _ hk
   have n10:w3.heap[wr.heap.size+1]? = some (.cells #[.int .i64 f.ql,.int .i64 f.f_a,.int .i64 f.f_b] 127 (0,0)):=by rw[ew3,← z2];exact heap_alloc_new w2 _
   have R3:ByRel w3 (w.heap.size+1+1+1+1+1+1) (w.heap.size+1+1+1) bl es2 clock2:=hR.below fun k hk h1=>by
    have h7:k≠w.heap.size+1+1+1+1+1:=by (rcases h1 with h1 | h1 <;> omega)
    rw[b3 k (by omega),b2 k hk h7]
   have hgm:=R3.at'
   have hgm2:w2.drew.heap[w.heap.size+1+1+1]? = some (.map es2 clock2):=by
    rw[b3 (w.heap.size+1+1+1) (by omega)]at hgm;exact hgm
   obtain⟨v24,hlk,hown,hupd⟩:=R3.step hwf1 (by omega);have hlk2:=hlk _ hgm2
   have hfar:∀ k,k=wr.heap.size∨k=wr.heap.size+1→v24.ownBlock≠some k:=fun k hk e=>by
    obtain⟨v25,hlk',hown',_⟩:=hR.step hwf1 (by omega);have h1:=hlk' w3 R3.at';rw[hlk w3 R3.at']at h1;cases h1;have:=(hown'.lt k e).2;omega
   have hMl:(mget keq1 [] f.ql bl).length≤100000:=by
    have h1:=(hP f.ql).length_eq;have h2:=List.length_filter_le (fun g=>g.ql == f.ql) (inl.map Prod.fst);rw[List.length_append]at h1;rw[List.length_map]at h2;omega
   have HW3:=(show Hid (w3=_) from ew3);have HW2:=(show Hid (w2=_) from ew2);obtain⟨i0,hi,hz0,hz1,hz2⟩:=info_parts Try.info127;clear ew2 ew3
   go_wp2
   rw[← HW2.out];refine wp_region_held_drew (S:=(fun w'=>w'.cell? ⟨w.heap.size+1+1+1+1,0,none⟩=some (.map (some (w.heap.size+1+1+1)))∧w'.cell? ⟨wr.heap.size,0,none⟩=some (.int .i64 f.ql)∧w'.cell? ⟨wr.heap.size,1,none⟩=some (.int .i64 f.f_a)∧w'.cell? ⟨wr.heap.size,2,none⟩=some (.int .i64 f.f_b))) (by kernel_rfl) K0 (fun hHeld=>?_);refine wpAnyH_take (i:=0) (v:=.map (some (w.heap.size+1+1+1))) rfl (by kernel_rfl) (by kernel_rfl) (by kernel_rfl) (fun _ _ _ h=>h) (Or.inl ⟨by kernel_rfl,fun w' hw'=>?_⟩) hHeld ?_
   ·obtain⟨q0,q1,q2,q3⟩:=hw';go_simp
   simp only[Act.put,List.getElem_toArray,List.getElem_cons_succ,List.getElem_cons_zero,List.setIfInBounds_toArray,List.set_cons_zero,List.set_cons_succ];refine wpAnyH_take (i:=1) (v:=.pointer (some ⟨wr.heap.size,0,none⟩)) rfl (by kernel_rfl) (by kernel_rfl) (by kernel_rfl) (fun _ _ _ h=>h) (Or.inl ⟨by kernel_rfl,fun w' hw'=>?_⟩) hHeld ?_
   ·obtain⟨q0,q1,q2,q3⟩:=hw';go_simp
   simp only[Act.put,List.getElem_toArray,List.getElem_cons_succ,List.getElem_cons_zero,List.setIfInBounds_toArray,List.set_cons_zero,List.set_cons_succ];refine wpAnyH_take (i:=2) (v:=.int .i64 f.ql) rfl (by kernel_rfl) (by kernel_rfl) (by kernel_rfl) (fun _ _ _ h=>h) (Or.inl ⟨by kernel_rfl,fun w' hw'=>?_⟩) hHeld ?_
   ·obtain⟨q0,q1,q2,q3⟩:=hw';go_simp
   simp only[Act.put,List.getElem_toArray,List.getElem_cons_succ,List.getElem_cons_zero,List.setIfInBounds_toArray,List.set_cons_zero,List.set_cons_succ];refine wpAnyH_take (i:=3) (v:=.map (some (w.heap.size+1+1+1))) rfl (by kernel_rfl) (by kernel_rfl) (by kernel_rfl) (fun _ _ _ h=>h) (Or.inl ⟨by kernel_rfl,fun w' hw'=>?_⟩) hHeld ?_
   ·obtain⟨q0,q1,q2,q3⟩:=hw';go_simp
   simp only[Act.put,List.getElem_toArray,List.getElem_cons_succ,List.getElem_cons_zero,List.setIfInBounds_toArray,List.set_cons_zero,List.set_cons_succ];refine wpAnyH_take (i:=4) (v:=.pointer (some ⟨wr.heap.size,0,none⟩)) rfl (by kernel_rfl) (by kernel_rfl) (by kernel_rfl) (fun _ _ _ h=>h) (Or.inl ⟨by kernel_rfl,fun w' hw'=>?_⟩) hHeld ?_
   ·obtain⟨q0,q1,q2,q3⟩:=hw';go_simp
   simp only[Act.put,List.getElem_toArray,List.getElem_cons_succ,List.getElem_cons_zero,List.setIfInBounds_toArray,List.set_cons_zero,List.set_cons_succ];refine wpAnyH_take (i:=5) (v:=.int .i64 f.ql) rfl (by kernel_rfl) (by kernel_rfl) (by kernel_rfl) (fun _ _ _ h=>h) (Or.inl ⟨by kernel_rfl,fun w' hw'=>?_⟩) hHeld ?_
   ·obtain⟨q0,q1,q2,q3⟩:=hw';go_simp
   simp only[Act.put,List.getElem_toArray,List.getElem_cons_succ,List.getElem_cons_zero,List.setIfInBounds_toArray,List.set_cons_zero,List.set_cons_succ];refine wpAnyH_take (i:=7) (v:=.agg #[.int .i64 f.ql,.int .i64 f.f_a,.int .i64 f.f_b]) rfl (by kernel_rfl) (by kernel_rfl) (by kernel_rfl) (fun _ _ _ h=>h) (Or.inl ⟨by kernel_rfl,fun w' hw'=>?_⟩) hHeld ?_
   ·obtain⟨q0,q1,q2,q3⟩:=hw';go_simp
   simp only[Act.put,List.getElem_toArray,List.getElem_cons_succ,List.getElem_cons_zero,List.setIfInBounds_toArray,List.set_cons_zero,List.set_cons_succ];have hlk3:=hlk _ R3.at';have K3:=KK w3 (b3 _ (by omega)) (b3 _ (by omega));refine wpAnyH_ready (rs:=[6,8]) (by kernel_rfl) (by simp) (AllReadyH.cons rfl (fun K hK=>?_) (AllReadyH.cons rfl (fun K hK=>?_) AllReadyH.nil))
   ·rw[if_pos (by kernel_rfl)]
    go_simp
    refine hK.out _ _ K0 (fun hHeld=>?_);clear hK K;refine wpAnyH_ready (rs:=[8]) (by kernel_rfl) (by simp) (AllReadyH.cons rfl (fun K hK=>?_) AllReadyH.nil);rw[if_pos (by kernel_rfl)]
    go_simp
    rw[← HW3.out];refine hK.out _ _ K3 (fun hHeld=>?_);clear hK K;refine wpAnyH_ready (rs:=[9]) (by kernel_rfl) (by simp) (AllReadyH.cons rfl (fun K hK=>?_) AllReadyH.nil);refine step_append_lies w3 (by rfl) (.tmp 24) (.tmp 26) _ (by rfl) (w.heap.size+1+1+1+1+1+1) 127 i0 (.agg #[.int .i64 0,.int .i64 0,.int .i64 0]) 3 24 Try.underlying150 hi hz0 hz1 hz2 rfl (by omega) v24 _ _ (by rfl) hown _ _ _ [.int .i64 f.ql,.int .i64 f.f_a,.int .i64 f.f_b] (by rfl) rfl (World.news_of_block n10) (by simp[Value.oneCell']) (by omega) (by unfold maxLen;omega) (by omega) (by omega) _ rfl ?_;intro g1 c1 w5 ho1 hg1 ha1 hl1;obtain⟨es3,clock3,hup,R5⟩:=hupd f _ g1 w5 hg1 ho1 rfl (by rcases ha1 with h1 | h1;exact .inl h1;exact .inr (by omega))
    have hrow:∀ k,k<w.heap.size+1+1+1+1+1+1→some k≠v24.ownBlock:=fun k hk e=>by have:=(hown.lt k e.symm).1;omega
    have hrow2:∀ k,k=wr.heap.size∨k=wr.heap.size+1→some k≠v24.ownBlock:=fun k hk e=>hfar k hk e.symm
    have b5:∀ k,k<w3.heap.size→some k≠v24.ownBlock→w5.heap[k]? = w3.heap[k]?:=hg1.block;have K5:=KK w5 ((b5 _ (by omega) (hrow2 _ (.inl rfl))).trans (b3 _ (by omega))) ((b5 _ (by omega) (hrow _ (by omega))).trans (b3 _ (by omega)));have K6:=KK (setBlock w5 (w.heap.size+1+1+1) (.map es3 clock3)) ((setBlock_other (by omega)).trans ((b5 _ (by omega) (hrow2 _ (.inl rfl))).trans (b3 _ (by omega)))) ((setBlock_other (by omega)).trans ((b5 _ (by omega) (hrow _ (by omega))).trans (b3 _ (by omega))));refine hK.out _ _ K5 (fun hHeld=>?_);clear hK K;refine wpAnyH_ready (rs:=[10]) (by kernel_rfl) (by simp) (AllReadyH.cons rfl (fun K hK=>?_) AllReadyH.nil);rw[if_pos (by kernel_rfl)]
    go_simp
    refine hK.out _ _ K6 (fun hHeld=>?_);clear hK K;refine wpAnyH_done (by kernel_rfl) ?_ _;have hs5:=hg1.size
    have hall:∀ k,k<w6.heap.size→k≠w.heap.size+1+1+1→k≠w.heap.size+1+1+1+1+1→(setBlock w5 (w.heap.size+1+1+1) (.map es3 clock3)).heap[k]? = w6.heap[k]?:=fun k hk h1 h2=>by
     rw[setBlock_other h1,b5 k (by omega) (hrow k (by omega)),b3 k (by omega),b2 k (by omega) h2,hold k hk h1 h2]
    have hI6:Iter factV (setBlock w5 (w.heap.size+1+1+1) (.map es3 clock3)) (w.heap.size+1+1+1+1+1) gi es clock (rem.eraseIdx j):=hIn.of (by
     rw[setBlock_other (by omega),b5 _ (by omega) (hrow _ (by omega)),b3 _ (by omega),HW2.out,heap_alloc_old _ _ (by omega)])
    go_wp2
    go_roundw
    case rel =>
     refine⟨⟨?_,?_,?_,?_,fun k hk=>?_⟩,?_,hall,_,es3,clock3,rem.eraseIdx j,R5,hI6,hP.take hj,?_⟩
     ·show w5.os=w.os
      rw[hg1.os,HW3.out];show w2.os=w.os;rw[HW2.out];exact hgr.os.trans hBr.os
     ·show w5.tape=w.tape
      rw[hg1.tape,HW3.out];show w2.tape=w.tape;rw[HW2.out];exact hgr.tape.trans hBr.tape
     ·show w5.output=w.output
      rw[hg1.output,HW3.out];show w2.output=w.output;rw[HW2.out];exact hgr.output.trans hBr.output
     ·rw[setBlock_size];omega
     ·rw[hall k (by omega) (by omega) (by omega)];exact B6.block k hk
     ·rw[setBlock_size];omega
     ·have h1:=mset_len f.ql (mget keq1 [] f.ql bl++[f]) bl;rw[List.length_eraseIdx,if_pos hjl];omega
    case measure =>
     rw[hI6.left,hI.left,List.length_eraseIdx,if_pos hjl];omega
   ·rw[if_pos (by kernel_rfl)]
    go_simp
    rw[← HW3.out];refine hK.out _ _ K3 (fun hHeld=>?_);clear hK K;refine wpAnyH_ready (rs:=[6]) (by kernel_rfl) (by simp) (AllReadyH.cons rfl (fun K hK=>?_) AllReadyH.nil);rw[if_pos (by kernel_rfl)]
    go_simp
    refine hK.out _ _ K3 (fun hHeld=>?_);clear hK K;refine wpAnyH_ready (rs:=[9]) (by kernel_rfl) (by simp) (AllReadyH.cons rfl (fun K hK=>?_) AllReadyH.nil);refine step_append_lies w3 (by rfl) (.tmp 24) (.tmp 26) _ (by rfl) (w.heap.size+1+1+1+1+1+1) 127 i0 (.agg #[.int .i64 0,.int .i64 0,.int .i64 0]) 3 24 Try.underlying150 hi hz0 hz1 hz2 rfl (by omega) v24 _ _ (by rfl) hown _ _ _ [.int .i64 f.ql,.int .i64 f.f_a,.int .i64 f.f_b] (by rfl) rfl (World.news_of_block n10) (by simp[Value.oneCell']) (by omega) (by unfold maxLen;omega) (by omega) (by omega) _ rfl ?_;intro g1 c1 w5 ho1 hg1 ha1 hl1;obtain⟨es3,clock3,hup,R5⟩:=hupd f _ g1 w5 hg1 ho1 rfl (by rcases ha1 with h1 | h1;exact .inl h1;exact .inr (by omega))
    have hrow:∀ k,k<w.heap.size+1+1+1+1+1+1→some k≠v24.ownBlock:=fun k hk e=>by have:=(hown.lt k e.symm).1;omega
    have hrow2:∀ k,k=wr.heap.size∨k=wr.heap.size+1→some k≠v24.ownBlock:=fun k hk e=>hfar k hk e.symm
    have b5:∀ k,k<w3.heap.size→some k≠v24.ownBlock→w5.heap[k]? = w3.heap[k]?:=hg1.block;have K5:=KK w5 ((b5 _ (by omega) (hrow2 _ (.inl rfl))).trans (b3 _ (by omega))) ((b5 _ (by omega) (hrow _ (by omega))).trans (b3 _ (by omega)));have K6:=KK (setBlock w5 (w.heap.size+1+1+1) (.map es3 clock3)) ((setBlock_other (by omega)).trans ((b5 _ (by omega) (hrow2 _ (.inl rfl))).trans (b3 _ (by omega)))) ((setBlock_other (by omega)).trans ((b5 _ (by omega) (hrow _ (by omega))).trans (b3 _ (by omega))));refine hK.out _ _ K5 (fun hHeld=>?_);clear hK K;refine wpAnyH_ready (rs:=[10]) (by kernel_rfl) (by simp) (AllReadyH.cons rfl (fun K hK=>?_) AllReadyH.nil);rw[if_pos (by kernel_rfl)]
    go_simp
    refine hK.out _ _ K6 (fun hHeld=>?_);clear hK K;refine wpAnyH_done (by kernel_rfl) ?_ _;have hs5:=hg1.size
    have hall:∀ k,k<w6.heap.size→k≠w.heap.size+1+1+1→k≠w.heap.size+1+1+1+1+1→(setBlock w5 (w.heap.size+1+1+1) (.map es3 clock3)).heap[k]? = w6.heap[k]?:=fun k hk h1 h2=>by
     rw[setBlock_other h1,b5 k (by omega) (hrow k (by omega)),b3 k (by omega),b2 k (by omega) h2,hold k hk h1 h2]
    have hI6:Iter factV (setBlock w5 (w.heap.size+1+1+1) (.map es3 clock3)) (w.heap.size+1+1+1+1+1) gi es clock (rem.eraseIdx j):=hIn.of (by
     rw[setBlock_other (by omega),b5 _ (by omega) (hrow _ (by omega)),b3 _ (by omega),HW2.out,heap_alloc_old _ _ (by omega)])
    go_wp2
    go_roundw
    case rel =>
     refine⟨⟨?_,?_,?_,?_,fun k hk=>?_⟩,?_,hall,_,es3,clock3,rem.eraseIdx j,R5,hI6,hP.take hj,?_⟩
     ·show w5.os=w.os
      rw[hg1.os,HW3.out];show w2.os=w.os;rw[HW2.out];exact hgr.os.trans hBr.os
     ·show w5.tape=w.tape
      rw[hg1.tape,HW3.out];show w2.tape=w.tape;rw[HW2.out];exact hgr.tape.trans hBr.tape
     ·show w5.output=w.output
      rw[hg1.output,HW3.out];show w2.output=w.output;rw[HW2.out];exact hgr.output.trans hBr.output
     ·rw[setBlock_size];omega
     ·rw[hall k (by omega) (by omega) (by omega)];exact B6.block k hk
     ·rw[setBlock_size];omega
     ·have h1:=mset_len f.ql (mget keq1 [] f.ql bl++[f]) bl;rw[List.length_eraseIdx,if_pos hjl];omega
    case measure =>
     rw[hI6.left,hI.left,List.length_eraseIdx,if_pos hjl];omega
end Go.Proofs
