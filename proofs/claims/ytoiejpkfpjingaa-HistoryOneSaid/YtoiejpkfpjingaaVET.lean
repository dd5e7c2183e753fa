import Derived.Test.YtoiejpkfpjingaaEMap
import Derived.Test.YtoiejpkfpjingaaETry
import Derived.Test.YtoiejpkfpjingaaASimJ
import Derived.Test.YtoiejpkfpjingaaChecked
import Derived.Test.YtoiejpkfpjingaaKAT
import Derived.Test.YtoiejpkfpjingaaEView
set_option linter.all false
set_option maxRecDepth 100000
open Bool renaming and_eq_true→A0, eq_iff_iff→A5, or_eq_false_iff→A7, not_eq_true'→B7
open List renaming filter_cons_of_pos→A1, filter_cons_of_neg→A2, pairwise_cons→A6, length_append→A8, idxOf_lt_length_of_mem→A9, getElem_idxOf→B3, any_eq_false→B4, find?_cons→B6, mem_of_find?_eq_some→B8, length_erase_of_mem→C7, pairwise_append→C9
open Nat renaming le_refl→A3, lt_or_ge→B5
open Go.World renaming cell?→A4
namespace Go.AM
open Go.Proofs
def wrB (it:Int) (x:rf5Op):Bool:=(x.qb == 1) && (x.qc == it)
def stepW (s:Int→Int) (x:rf5Op):Int→Int:=fun it=>bif wrB it x then x.qa else s it
def lastS (s:Int→Int) (l:List rf5Op):Int→Int:=l.foldl stepW s
def rdB (t:Int) (x:rf5Op):Bool:=(x.qa == t) && (x.qb == 0)
def readsW (t:Int):List rf5Op→(Int→Int)→List Int
 | [],_=>[]
 | x::r,s=>(bif rdB t x then [s x.qc] else [])++readsW t r (stepW s x)
def s0:Int→Int:=fun _=>0
theorem Yf (s:Int→Int) (a b:List rf5Op):lastS s (a++b)=lastS (lastS s a) b:=List.foldl_append
theorem QB (t:Int):∀ (a b:List rf5Op) (s:Int→Int),readsW t (a++b) s=readsW t a s++readsW t b (lastS s a)
 | [],b,s=>rfl
 | x::a,b,s=>by
  show _++readsW t (a++b) (stepW s x)=_;rw[QB t a b];show _=(_++readsW t a (stepW s x))++readsW t b (lastS (stepW s x) a);rw[List.append_assoc]
def swapB (x y:rf5Op):Bool:=(x.qa != y.qa) && !clash x y
theorem YZ {x y:rf5Op}:clash x y=true↔x.qa≠y.qa∧x.qc=y.qc∧(if y.qb > x.qb then y.qb else x.qb)=1:=by
 unfold clash;simp only[A0,bne_iff_ne,beq_iff_eq,ne_eq]
theorem qbd (x y:rf5Op):clash x y=clash y x:=by
 rw[A5,YZ,YZ];constructor
 ·rintro⟨h1,h2,h3⟩;refine⟨fun e=>h1 e.symm,h2.symm,?_⟩;split at h3 <;> split <;> omega
 ·rintro⟨h1,h2,h3⟩;refine⟨fun e=>h1 e.symm,h2.symm,?_⟩;split at h3 <;> split <;> omega
theorem XD {x y:rf5Op}:swapB x y=true↔x.qa≠y.qa∧clash x y=false:=by
 unfold swapB;simp[bne_iff_ne]
theorem qbu {x y:rf5Op} (h:swapB x y=true):swapB y x=true:=by
 rw[XD]at *;exact⟨fun e=>h.1 e.symm,by rw[qbd];exact h.2⟩
theorem Nq {x y:rf5Op} (h:swapB x y=true) (s:Int→Int):stepW (stepW s x) y=stepW (stepW s y) x:=by
 obtain⟨h1,h2⟩:=XD.1 h
 funext it
 unfold stepW
 cases hx:wrB it x <;> cases hy:wrB it y <;> try rfl
 exfalso;unfold wrB at hx hy;simp only[A0,beq_iff_eq]at hx hy;have:clash x y=true:=YZ.2 ⟨h1,by omega,by rw[hx.1,hy.1];rfl⟩;rw[this]at h2;cases h2
theorem Nw {x y:rf5Op} (h:swapB x y=true) {t:Int} (hr:rdB t x=true) (s:Int→Int):stepW s y x.qc=s x.qc:=by
 obtain⟨h1,h2⟩:=XD.1 h;unfold rdB at hr;simp only[A0,beq_iff_eq]at hr;unfold stepW
 cases hy:wrB x.qc y with
 | false=>rfl
 | true =>
  exfalso;unfold wrB at hy;simp only[A0,beq_iff_eq]at hy;have:clash x y=true:=YZ.2 ⟨h1,by omega,by rw[hr.2,hy.1];rfl⟩;rw[this]at h2;cases h2
theorem qaH {x y:rf5Op} (h:swapB x y=true) (t:Int) (b:List rf5Op) (s:Int→Int):readsW t (x::y::b) s=readsW t (y::x::b) s:=by
 show _++(_++readsW t b (stepW (stepW s x) y))=_++(_++readsW t b (stepW (stepW s y) x));rw[Nq h]
 cases hx:rdB t x with
 | false =>
  cases hy:rdB t y with
  | false=>rfl
  | true =>
   simp only[cond_true,cN,List.nil_append];rw[Nw (qbu h) hy]
 | true =>
  cases hy:rdB t y with
  | false =>
   simp only[cond_true,cN,List.nil_append];rw[Nw h hx]
  | true =>
   exfalso;unfold rdB at hx hy;simp only[A0,beq_iff_eq]at hx hy;exact (XD.1 h).1 (by omega)
inductive Sw:List rf5Op→List rf5Op→Prop
 | refl (l):Sw l l
 | swap (a b x y) (h:swapB x y=true):Sw (a++x::y::b) (a++y::x::b)
 | trans {l m n}:Sw l m→Sw m n→Sw l n
theorem Sw.cons (z:rf5Op) {l m:List rf5Op} (h:Sw l m):Sw (z::l) (z::m):=by
 induction h with
 | refl l=>exact .refl _
 | swap a b x y h=>exact .swap (z::a) b x y h
 | trans _ _ h1 h2=>exact h1.trans h2
theorem Sw.appL (z:List rf5Op) {l m:List rf5Op} (h:Sw l m):Sw (z++l) (z++m):=by
 induction z with
 | nil=>exact h
 | cons a z ih=>exact ih.cons a
theorem Sw.reads {l m:List rf5Op} (h:Sw l m) (t:Int) (s:Int→Int):readsW t l s=readsW t m s:=by
 induction h with
 | refl l=>rfl
 | swap a b x y h=>rw[QB,QB,qaH h]
 | trans _ _ h1 h2=>exact h1.trans h2
theorem Sw.last {l m:List rf5Op} (h:Sw l m) (s:Int→Int):lastS s l=lastS s m:=by
 induction h with
 | refl l=>rfl
 | swap a b x y h =>
  rw[Yf,Yf];show lastS (stepW (stepW _ x) y) b=lastS (stepW (stepW _ y) x) b;rw[Nq h]
 | trans _ _ h1 h2=>exact h1.trans h2
theorem Sw.across {y:rf5Op}:∀ (a b:List rf5Op),(∀ x,x∈a→swapB y x=true)→Sw (y::(a++b)) (a++y::b)
 | [],b,_=>.refl _
 | x::a,b,h=>((Sw.swap [] (a++b) y x (h x (by simp))).trans ((Sw.across a b fun z hz=>h z (by simp[hz])).cons x):Sw (y::x::(a++b)) (x::(a++y::b)))
theorem Sw.front (P:rf5Op→Bool):∀ (l:List rf5Op),l.Pairwise (fun y x=>P y=false→P x=true→swapB y x=true)→Sw l (l.filter P++l.filter fun x=>!P x)
 | [],_=>.refl _
 | y::l,h=>by
  obtain⟨h1,h2⟩:=List.pairwise_cons.1 h;have ih:=Sw.front P l h2
  cases hy:P y with
  | true =>
   rw[A1 hy,A2 (by simp[hy])];exact ih.cons y
  | false =>
   rw[A2 (by simp[hy]),A1 (by simp[hy])];exact (ih.cons y).trans (Sw.across _ _ fun x hx=>h1 x (List.mem_filter.1 hx).1 hy (List.mem_filter.1 hx).2)
theorem qab {a b:Int}:∀ {l:List rf5Op},confL l a b=false→l.Pairwise fun x y=>¬ (clash x y=true∧x.qa=a∧y.qa=b)
 | [],_=>.nil
 | x::l,h=>by
  have h:((l.any fun y=>clash x y && ((x.qa == a) && (y.qa == b))) || confL l a b)=false:=h;rw[A7]at h;refine .cons (fun y hy hc=>?_) (qab h.2);have:=List.any_eq_false.1 h.1 y hy;simp[hc.1,hc.2.1,hc.2.2]at this
theorem qca {a b:Int} {l:List rf5Op} (P:rf5Op→Bool) (h:confL l a b=false):confL (l.filter P) a b=false:=by
 induction l with
 | nil=>rfl
 | cons x l ih =>
  have h:((l.any fun y=>clash x y && ((x.qa == a) && (y.qa == b))) || confL l a b)=false:=h;rw[A7]at h;rw[List.filter_cons];split
  ·show ((_:List rf5Op).any _ || confL _ a b)=false;rw[ih h.2,Bool.or_false,B4];intro y hy;exact List.any_eq_false.1 h.1 y (List.mem_filter.1 hy).1
  ·exact ih h.2
def serV (h:List rf5Op) (o:List Int):List rf5Op:=o.flatMap fun t=>h.filter fun x=>x.qa == t
theorem Ds {o:List Int} {t:Int} (ht:¬ t∈o) (h:List rf5Op):serV (h.filter fun x=>!(x.qa == t)) o=serV h o:=by
 induction o with
 | nil=>rfl
 | cons u o ih =>
  have h1:¬ t=u:=fun e=>ht (by simp[e])
  have e:∀ g,serV g (u::o)=(g.filter fun x=>x.qa == u)++serV g o:=fun _=>rfl
  rw[e,e,ih fun e=>ht (by simp[e]),List.filter_filter]
  congr 1
  refine List.filter_congr fun x _=>?_
  by_cases hx:x.qa=u
  ·have:¬ x.qa=t:=fun e=>h1 (e.symm.trans hx)
   simp[hx];exact fun e=>h1 e.symm
  ·simp[hx]
theorem Sw.serial:∀ (o:List Int) (p:List rf5Op),o.Nodup→(∀ x,x∈p→x.qa∈o)→o.Pairwise (fun a c=>confL p c a=false)→Sw p (serV p o)
 | [],p,_,h,_=>by
  cases p with
  | nil=>exact .refl _
  | cons x p=>exact absurd (h x (by simp)) (by simp)
 | t::o,p,hn,hm,hc=>by
  obtain⟨n1,n2⟩:=List.nodup_cons.1 hn;obtain⟨c1,c2⟩:=List.pairwise_cons.1 hc
  have hpw:p.Pairwise (fun y x=>(y.qa == t)=false→(x.qa == t)=true→swapB y x=true):=by
   have all:∀ c,c∈o→p.Pairwise fun x y=>¬ (clash x y=true∧x.qa=c∧y.qa=t):=fun c hc=>qab (c1 c hc)
   rw[List.pairwise_iff_forall_sublist];intro y x hs h1 h2
   have h1:¬ y.qa=t:=by simpa using h1
   have h2:x.qa=t:=by simpa using h2
   have hyo:y.qa∈o:=by
    have:=hm y (hs.subset (by simp))
    rcases List.mem_cons.1 this with e | e
    ·exact absurd e h1
    ·exact e
   refine XD.2 ⟨fun e=>h1 (e.trans h2),?_⟩;have:=List.pairwise_iff_forall_sublist.1 (all _ hyo) hs
   cases hcl:clash y x with
   | false=>rfl
   | true=>exact absurd ⟨hcl,rfl,h2⟩ this
  have e1:=Sw.front (fun x=>x.qa == t) p hpw
  have ih:=Sw.serial o (p.filter fun x=>!(x.qa == t)) n2 (fun x hx=>by
   obtain⟨m1,m2⟩:=List.mem_filter.1 hx
   rcases List.mem_cons.1 (hm x m1) with e | e
   ·simp[e]at m2
   ·exact e) (c2.imp fun h=>qca _ h)
  rw[Ds n1]at ih;exact e1.trans (ih.appL _)
def sameV (p q:List rf5Op):Bool:=(([1,2,3,4,5,6]:List Int).all fun t=>readsW t p s0 == readsW t q s0) && (([0,1,2,3,4,5]:List Int).all fun i=>lastS s0 p i == lastS s0 q i)
theorem Sw.same {p q:List rf5Op} (h:Sw p q):sameV p q=true:=by
 unfold sameV;rw[h.last];simp[h.reads]
theorem qaE (p q:List rf5Op):sameV p q=sameV q p:=by
 unfold sameV
 congr 1
 ·congr 1;funext t;exact Bool.beq_comm
 ·congr 1;funext t;exact Bool.beq_comm
def viewR (h:List rf5Op):List Int×Int:=if validB h then (match dfs (fun o=>sameV (serV (partL h) o) (partL h)) (commL h) (commL h).length [] with | some o=>(o,0) | none=>([],5)) else ([],2)
end Go.AM
namespace Go.Proofs
open Go.RowKit Go.AM
theorem Yc {w:World} {base:Nat} {v:Value} {n:Nat} {xs:List Value} (h:w.ownsRow base 3 1 v n xs) {w':World} (hb:∀ k,k<w.heap.size→v.ownBlock=some k→w'.heap[k]? = w.heap[k]?):w'.ownsRow base 3 1 v n xs:=by
 obtain⟨q1,q2⟩:=h;refine⟨q1,?_⟩
 rcases q2 with hn | ⟨g,cap,cur,rfl,hb',hgg,rest⟩
 ·exact .inl hn
 ·exact .inr ⟨g,cap,cur,rfl,hb',by rw[hb g (lt_of_block hgg) rfl];exact hgg,rest⟩
set_option maxHeartbeats 1000000 in
theorem Try.try64_S {n:Nat} (ih:Try64 n):Try64 (n+1):=by
 intro fuel M w base bo bl bp bw bt g cap p l o want T hV hC hn hs hlen hbo hown hMg hb;obtain⟨la,lc,l0,rl⟩:=hV.lv;obtain⟨la',lc',e',hL⟩:=Xb rl
 obtain⟨rfl,rfl⟩:la=la'∧lc=lc':=by
  simp only[Value.slice.injEq]at e';exact⟨e'.1,e'.2.2⟩
 clear e' rl;have gt:=hV.g;have hll:=hV.len
 have hMno:∀ q,(q=g∨w.heap.size≤q)→∀ j,M q j=none:=fun q hq j=>by
  rcases hq with rfl | hq
  ·exact hMg j
  ·cases hm:M q j with
   | none=>rfl
   | some u=>have:=Yq (hC _ _ _ hm);omega
 have hbl:=lt_of_block hbo
 obtain⟨F,hF⟩:∃ F:Int→Option (List Int),F=fun t=>bif o.contains t then none else dfs T l n (o++[t]):=⟨_,rfl⟩
 have hres:dfs T l (n+1) o=l.findSome? F:=by rw[hF];rfl
 rw[hres];clear hres;have mixed:=mixedP;have t3:=Try.underlying3;have a3:=Try.isAgg3;have z3:=Try.sizeOf3;have v3:=Try.zeroValue3;have u3:=run_underlying Try.underlying3;have t4:=Try.underlying4;have a4:=Try.isAgg4;have z4:=Try.sizeOf4;have v4:=Try.zeroValue4;have t24:=Try.underlying24;have a24:=Try.isAgg24;have z24:=Try.sizeOf24;have v24:=Try.zeroValue24;have u24:=run_underlying Try.underlying24;have t32:=Try.underlying32;have a32:=Try.isAgg32;have z32:=Try.sizeOf32;have v32:=Try.zeroValue32
 have hbe:((o.length:Int) == (l.length:Int))=false:=by rw[beq_eq_false_iff_ne];omega
 have qo:w.cell? ⟨bo,0,none⟩=some (.slice (some ⟨g,0,none⟩) o.length cap):=by simp[A4,hbo]
 have ql:=qH (hC _ _ _ l0) rfl
 go_enter Try.func64,Try.ntmps64
 go_wp2
 go_loopw [21] (fun i wr=>∃ k:Nat,k≤l.length∧i=.int .i64 k∧(∃ g1 cap1,wr.heap[bo]? = some (.cells #[.slice (some ⟨g1,0,none⟩) o.length cap1] 24 (0,0))∧wr.ownsRow base 3 1 (.slice (some ⟨g1,0,none⟩) o.length cap1) o.length (intsV o)∧(g1=g∨w.heap.size≤g1))∧TF w bo g wr∧∀ j y,j<k→l[j]? = some y→F y=none)
  (fun i _=>l.length - (RowKit.intOf i).toNat)
 case atStart=>exact⟨0,Nat.zero_le _,rfl,⟨g,cap,hbo,hown,.inl rfl⟩,TF.refl _ _ _,fun j y hj=>by omega⟩
 case round =>
  clear qo ql;obtain⟨k,hk,rfl,⟨g1,cap1,hb1,ho1,hg1⟩,hTF,hprev⟩:=hrel;have Cr:=hTF.cons hC hV.f hMg
  have qo:wr.cell? ⟨bo,0,none⟩=some (.slice (some ⟨g1,0,none⟩) o.length cap1):=by simp[A4,hb1]
  rcases B5 k l.length with hk1 | hk1
  ·obtain⟨b,off,rfl,hM⟩:=hL k hk1;have hcx:=qH (Cr _ _ _ hM) rfl;have j0:(0:Int)≤(k:Int):=Int.natCast_nonneg _
   have j1:(k:Int)<(l.length:Int):=by omega
   have hxm:l[k]∈l:=List.getElem_mem hk1;have hxk:l[k]? = some l[k]:=List.getElem?_eq_getElem hk1;generalize l[k]=x at hcx hM hxm hxk;have c39:=Try.contains_own (t:=x) (by omega) ho1
   go_wp2_with fail
   refine Calls.mono c39 ?_
   rintro e w1 ⟨rfl,hB1⟩
   have T1:=hTF.below hB1;have hb1':=(hB1.block _ (lt_of_block hb1)).trans hb1
   have ho1':=Yc ho1 fun k hk _=>hB1.block k hk
   have C1:=T1.cons hC hV.f hMg
   cases hcc:o.contains x with
   | true =>
    have hFx:F x=none:=by rw[hF];simp only[hcc,cond_true]
    go_wp2
    go_roundw
    case rel =>
     refine⟨k+1,hk1,by go_num,⟨g1,cap1,hb1',ho1',hg1⟩,T1,fun j y hj hy=>?_⟩
     rcases B5 j k with h | h
     ·exact hprev j y h hy
     ·obtain rfl:j=k:=by omega
      rw[hxk]at hy;cases hy;exact hFx
    case measure=>simp[RowKit.intOf];omega
   | false =>
    have hFx:F x=dfs T l n (o++[x]):=by rw[hF];simp only[hcc,cN]
    have hxo:¬ x∈o:=by simpa using hcc
    obtain⟨w2,ew2⟩:∃ w2,w2=w1.alloc (.cells #[.int .i64 x] 3):=⟨_,rfl⟩
    have z2:w2.heap.size=w1.heap.size+1:=by rw[ew2];simp
    have b2:∀ k,k<w1.heap.size→w2.heap[k]? = w1.heap[k]?:=fun k hk=>by rw[ew2];exact heap_alloc_old _ _ hk
    have n2:w2.heap[w1.heap.size]? = some (.cells #[.int .i64 x] 3 (0,0)):=by rw[ew2];exact heap_alloc_new _ _
    have T2:TF w bo g w2:=by rw[ew2];exact T1.below ((Below.refl _ _).alloc (A3 _) _)
    have ho2:=Yc (w':=w2) ho1' fun k hk _=>b2 k hk
    have hb2:=(b2 _ (lt_of_block hb1')).trans hb1'
    have hll2:o.length≤1000000000:=by omega
    have hbase:base≤w2.heap.size:=by have:=T2.size;omega
    have hap:bo≠g1:=fun e=>Qz hb2 ho2 (by rw[e];rfl)
    have qo1:w1.cell? ⟨bo,0,none⟩=some (.slice (some ⟨g1,0,none⟩) o.length cap1):=by simp[A4,hb1']
    have HW2:=(show Hid (w2=_) from ew2);rw[ew2]at ho2 n2 hbase;have HB2:=(show Hid _ from hb2);clear ew2 hb2;have en64:=Try.enter64
    go_wp2_with (first | (at_builtin;refine VP rfl (.tmp 28) (.tmp 30) (by rfl) (by rfl) (by rfl) ho2 n2 hll2 hbase ?_;intro g2 cap2 w3 ho3 hg3 ha3 hl3;rw[← HW2.out]at hg3 ha3;have hb3:=(hg3.block bo (lt_of_block HB2.out) (fun e=>hap (Option.some.inj e))).trans HB2.out;have d1:w3.frozen? ⟨bo,0,none⟩=false:=(by simp[World.frozen?,hb3]);have d2:w3.cell? ⟨bo,0,none⟩=some (.slice (some ⟨g1,0,none⟩) o.length cap1):=(by simp[A4,hb3]);have hg2:g2=g∨w.heap.size≤g2:=(by have:=T2.size;rcases ha3 with h | h;cases h;exact hg1;exact .inr (by omega));have T3:TF w bo g w3:=T2.grown hg3 hg1;have T4:=T3.set (.slice (some ⟨g2,0,none⟩) (o.length+1) cap2);have C4:=T4.cons hC hV.f hMg;have q4:(w3.setCell ⟨bo,0,none⟩ (.slice (some ⟨g2,0,none⟩) (o.length+1) cap2)).cell? ⟨bt,0,none⟩=some (.func (.func 64) #[] #[.pointer (some ⟨bo,0,none⟩),.pointer (some ⟨bl,0,none⟩),.pointer (some ⟨bp,0,none⟩),.pointer (some ⟨bw,0,none⟩),.pointer (some ⟨bt,0,none⟩)]):=qH (C4 _ _ _ gt) rfl) | fail)
    obtain⟨w4,ew4⟩:∃ w4,w4=w3.setCell ⟨bo,0,none⟩ (.slice (some ⟨g2,0,none⟩) (o.length+1) cap2):=⟨_,rfl⟩
    have hb4:w4.heap[bo]? = some (.cells #[.slice (some ⟨g2,0,none⟩) (o++[x]).length cap2] 24 (0,0)):=by
     rw[ew4,Jj _ hb3,A8];rfl
    have hap3:bo≠g2:=fun e=>Qz (c:=o++[x]) hb3 (by rw[A8];exact ho3) (by rw[e];rfl)
    have ho4:w4.ownsRow base 3 1 (.slice (some ⟨g2,0,none⟩) (o++[x]).length cap2) (o++[x]).length (intsV (o++[x])):=by
     rw[A8]
     exact Yc ho3 fun k hk hkb=>by
      rw[ew4,jc (fun e=>hap3 (by rw[← e];exact (Option.some.inj hkb).symm))]
    have z4:w4.heap.size=w3.heap.size:=by rw[ew4,QR]
    rw[← ew4]at T4 C4
    have hcall:=ih fuel M w4 base bo bl bp bw bt g2 cap2 p l (o++[x]) want T hV C4 (List.nodup_append.2 ⟨hn,by simp,fun a ha b hb=>by simp at hb;subst hb;exact fun e=>hxo (e ▸ ha)⟩) (fun y hy=>by
     rcases List.mem_append.1 hy with h | h
     ·exact hs y h
     ·rw[List.mem_singleton.1 h];exact hxm) (by rw[A8,List.length_singleton];omega) hb4 ho4 (hMno g2 hg2) (by have:=T4.size;omega)
    rw[← hFx]at hcall;rw[← ew4];have HW4:=(show Hid (w4=_) from ew4);clear ew4 en64;refine Calls.mono hcall ?_
    rintro e w5 ⟨rfl,T5,g3,cap3,hb5,ho5,hg3'⟩
    have T6:TF w bo g w5:=T4.trans T5 hg2
    have hg6:g3=g∨w.heap.size≤g3:=by
     have:=T4.size
     rcases hg3' with h | h
     ·rw[h];exact hg2
     ·exact .inr (by omega)
    cases hr:F x with
    | some r =>
     rw[hr]at hb5 ho5;have hfind:l.findSome? F=some r:=QK hxk hprev hr
     go_wp2
     go_ret
     rw[hfind];exact⟨rfl,T6,g3,cap3,hb5,ho5,hg6⟩
    | none =>
     rw[hr]at hb5 ho5
     have hlen1:(o++[x]).length=o.length+1:=by simp
     simp only[Option.getD_none,hlen1]at hb5 ho5
     have q5:w5.cell? ⟨bo,0,none⟩=some (.slice (some ⟨g3,0,none⟩) (o.length+1) cap3):=by simp[A4,hb5]
     have f5:w5.frozen? ⟨bo,0,none⟩=false:=by simp[World.frozen?,hb5]
     have hoc:o.length+1≤cap3:=by
      rcases ho5.2 with ⟨hv,_⟩ | ⟨g',cap',cur,hv,k1,k2,k3,_⟩
      ·cases hv
      ·cases hv;exact k3
     go_wp2
     go_roundw
     case rel =>
      have hb6:=Jj (j:=0) (.slice (some ⟨g3,0,none⟩) o.length cap3) hb5;refine⟨k+1,hk1,by go_num,⟨g3,cap3,hb6,?_,hg6⟩,T6.set _,fun j y hj hy=>?_⟩
      ·have hap5:bo≠g3:=fun e=>Qz (c:=o++[x]) hb5 (by rw[hlen1];exact ho5) (by rw[e];rfl)
       exact Yc (qaM ho5) fun k hk hkb=>jc (fun e=>hap5 (by rw[← e];exact (Option.some.inj hkb).symm))
      ·rcases B5 j k with h | h
       ·exact hprev j y h hy
       ·obtain rfl:j=k:=by omega
        rw[hxk]at hy;cases hy;exact hr
     case measure=>simp[RowKit.intOf];omega
  ·obtain rfl:k=l.length:=by omega
   have hnone:l.findSome? F=none:=Xw hprev
   go_wp2
   go_ret
   rw[hnone];exact⟨rfl,hTF,g1,cap1,hb1,ho1,hg1⟩
theorem Try.try64:∀ n,Try64 n
 | 0=>Try.try64_0
 | n+1=>Try.try64_S (Try.try64 n)
end Go.Proofs
namespace Go.AM
theorem Uf:∀ (p l:List Int),p.Nodup→l.Nodup→(∀ x,x∈p→x∈l)→p∈someF p.length l
 | [],l,_,_,_=>by simp[someF]
 | y::p,l,hp,hn,h=>by
  obtain⟨p1,p2⟩:=List.nodup_cons.1 hp;refine List.mem_flatMap.2 ⟨y,h y (by simp),List.mem_map.2 ⟨p,?_,rfl⟩⟩
  exact Uf p (l.erase y) p2 (hn.erase y) fun x hx=>(hn.mem_erase_iff).2 ⟨fun e=>p1 (e ▸ hx),h x (by simp[hx])⟩
def seenO (fuel:Nat) (p:List hsOp) (want:hsview) (o:List Int):Option Bool:=(jJ p o).bind fun s=>(viewP fuel s).bind fun v=>chk (decide (v.Qk.length=6) && v.jK.all fun q=>decide (q.2.length≤100000)) (some (sameP v want))
def viewO (fuel:Nat) (a1:List hsOp):Option (List Int×Int):=(QJ a1).bind fun ok=>bif ok then (jv fuel a1).bind fun p=>(viewP fuel p).bind fun want=>(qN fuel a1).bind fun l=>chk (decide (l.length≤999) && (l.all (wfI .i64) && (decide l.Nodup && (decide (want.Qk.length=6) && (someF l.length l).all fun o=>(seenO fuel p want o).isSome)))) (some (match dfs (fun o=>(seenO fuel p want o).getD false) l l.length [] with | some o=>(o,0) | none=>([],5))) else some ([],2)
theorem DL {n:Nat} (t:Int):∀ {m:List (Int×List Int)},(m.all fun q=>decide (q.2.length≤n))=true→(mget keq1 [] t m).length≤n
 | [],_=>Nat.zero_le _
 | q::m,h=>by
  rw[List.all_cons,A0,decide_eq_true_eq]at h;unfold mget
  cases keq1 q.1 t with
  | true=>exact h.1
  | false=>exact DL t h.2
end Go.AM
namespace Go.Proofs
open Go.RowKit Go.AM
set_option maxHeartbeats 1000000 in
theorem view30 {fuel:Nat} {a1:List hsOp} {r:List Int×Int} (h:viewO fuel a1=some r):CallOk Try.prog 30 [l44 none a1] (.tup [l3 none r.1,.int .i64 r.2]):=by
 intro M w vs hG hC hl hR
 obtain⟨v0,rfl⟩:∃ v0,vs=[v0]:=by
  match vs,hl with
  | [v0],_=>exact⟨v0,rfl⟩
 have r0:R M (l44 none a1) v0:=hR 0 _ v0 rfl rfl;clear hR hl hG;show Calls Try.prog 30 [v0].toArray w (qao M w (.tup [l3 none r.1,.int .i64 r.2]));unfold viewO at h;obtain⟨ok,hok,h⟩:=qd h;have c26:=Xl (XZ a1 ok hok) M w [v0] (glob0 M) hC rfl (fun j a b ha hb=>by match j,ha,hb with | 0,ha,hb=>cases ha;cases hb;exact r0);have mixed:=mixedP;have t3:=Try.underlying3;have a3:=Try.isAgg3;have z3:=Try.sizeOf3;have v3:=Try.zeroValue3;have u3:=run_underlying Try.underlying3;have t4:=Try.underlying4;have a4:=Try.isAgg4;have z4:=Try.sizeOf4;have v4:=Try.zeroValue4;have t24:=Try.underlying24;have a24:=Try.isAgg24;have z24:=Try.sizeOf24;have v24:=Try.zeroValue24;have u24:=run_underlying Try.underlying24;have t25:=Try.underlying25;have a25:=Try.isAgg25;have z25:=Try.sizeOf25;have v25:=Try.zeroValue25;have t29:=Try.underlying29;have a29:=Try.isAgg29;have z29:=Try.sizeOf29;have v29:=Try.zeroValue29;have t32:=Try.underlying32;have a32:=Try.isAgg32;have z32:=Try.sizeOf32;have v32:=Try.zeroValue32;have t90:=Try.underlying90;have a90:=Try.isAgg90;have z90:=Try.sizeOf90;have v90:=Try.zeroValue90;have u90:=run_underlying Try.underlying90;have en64:=Try.enter64
 cases ok with
 | false =>
  cases h
  go_enter Try.func30,Try.ntmps30
  go_wp2_with fail
  refine c26.mono ?_
  rintro e w1 ⟨v,M1,rfl,hB1,s1,C1,o1,r1,_⟩
  cases r1
  go_wp2
  go_ret2
  refine⟨_,M1,rfl,hB1,s1,C1,o1,?_,trivial⟩;refine .tup (vs:=[.slice none 0 0,.int .i64 2]) rfl (fun j c v hc hv=>?_)
  match j,hc,hv with
  | 0,hc,hv=>cases hc;cases hv;exact .lstn _ _ _
  | 1,hc,hv=>cases hc;cases hv;exact .int _ _
 | true =>
  simp only[cond_true]at h;obtain⟨p,hp,h⟩:=qd h;obtain⟨want,hwt,h⟩:=qd h;obtain⟨l,hcm,h⟩:=qd h;obtain⟨hck,h⟩:=qr h;simp only[A0,decide_eq_true_eq]at hck;obtain⟨hlen,hwf,hnd,hw6,hall⟩:=hck;have hr:=Option.some.inj h;clear h
  go_enter Try.func30,Try.ntmps30
  go_wp2_with fail
  refine c26.mono ?_
  rintro e w1 ⟨v,M1,rfl,hB1,s1,C1,o1,r1,_⟩
  cases r1;have c48:=Xl (JL fuel a1 p hp) M1 w1 [v0] (glob0 M1) C1 rfl (fun j a b ha hb=>by match j,ha,hb with | 0,ha,hb=>cases ha;cases hb;exact r0.mono s1)
  go_wp2_with fail
  refine c48.mono ?_
  rintro e w2 ⟨vp,M2,rfl,hB2,s2,C2,o2,r2,_⟩
  obtain⟨pa,pc,rfl,hpo⟩:=DJ (R.setLab (l':=none) r2);have C2a:Cons M2 (w2.alloc (.cells #[.slice pa p.length pc] 29)):=C2.alloc _;have c63:=Try.view63 hwt M2 (w2.alloc (.cells #[.slice pa p.length pc] 29)) [.slice pa p.length pc] (glob0 M2) C2a rfl (fun j a b ha hb=>by match j,ha,hb with | 0,ha,hb=>cases ha;cases hb;exact r2.setLab)
  go_wp2_with fail
  refine Calls.mono c63 ?_
  rintro e w3 ⟨vv,M3,rfl,hB3,s3,C3,o3,r3,_⟩
  have c51:=Xl (jF fuel a1 l hcm) M3 w3 [v0] (glob0 M3) C3 rfl (fun j a b ha hb=>by match j,ha,hb with | 0,ha,hb=>cases ha;cases hb;exact r0.mono (Sub.trans s1 (Sub.trans s2 s3)));obtain⟨mo,x0,x1,x2,x3,x4,x5,hx,rfl,rmo⟩:=Vd hw6 r3
  go_wp2_with fail
  refine Calls.mono c51 ?_
  rintro e w4 ⟨lv,M4,rfl,hB4,s4,C4,o4,r4,_⟩
  obtain⟨la,lc,rfl,hlc⟩:=Xb (l:=l) r4
  go_wp2_with fail
  have hnc:(((((w4.alloc (.cells #[.map mo,.int .i64 x0,.int .i64 x1,.int .i64 x2,.int .i64 x3,.int .i64 x4,.int .i64 x5] 90)).alloc (.cells #[.slice la l.length lc] 24)).alloc (.cells #[] 3)).alloc (.cells #[.slice (some ⟨w4.heap.size+1+1,0,none⟩) 0 0] 24)).alloc (.cells #[.nilFunc] 32)).heap.size=w4.heap.size+1+1+1+1+1:=by simp
  clear hnc;obtain⟨w5,ew5⟩:∃ w5,w5=(((((w4.alloc (.cells #[.map mo,.int .i64 x0,.int .i64 x1,.int .i64 x2,.int .i64 x3,.int .i64 x4,.int .i64 x5] 90)).alloc (.cells #[.slice la l.length lc] 24)).alloc (.cells #[] 3)).alloc (.cells #[.slice (some ⟨w4.heap.size+1+1,0,none⟩) 0 0] 24)).alloc (.cells #[tryV5 (w4.heap.size+1+1+1) (w4.heap.size+1) w2.heap.size w4.heap.size (w4.heap.size+1+1+1+1)] 32)):=⟨_,rfl⟩
  have z5:w5.heap.size=w4.heap.size+1+1+1+1+1:=by rw[ew5];simp
  have B45:Below w4.heap.size w4 w5:=by rw[ew5];exact (((((Below.refl _ _).alloc (A3 _) _).alloc (by simp) _).alloc (by simp;omega) _).alloc (by simp;omega) _).alloc (by simp;omega) _
  have n0:w5.heap[w4.heap.size]? = some (.cells #[.map mo,.int .i64 x0,.int .i64 x1,.int .i64 x2,.int .i64 x3,.int .i64 x4,.int .i64 x5] 90 (0,0)):=by rw[ew5,heap_alloc_old _ _ (by simp <;> omega),heap_alloc_old _ _ (by simp <;> omega),heap_alloc_old _ _ (by simp <;> omega),heap_alloc_old _ _ (by simp <;> omega)];exact heap_alloc_new _ _
  have n1:w5.heap[w4.heap.size+1]? = some (.cells #[.slice la l.length lc] 24 (0,0)):=by
   rw[ew5,heap_alloc_old _ _ (by simp <;> omega),heap_alloc_old _ _ (by simp <;> omega),heap_alloc_old _ _ (by simp <;> omega)];have:=heap_alloc_new (w4.alloc (.cells #[.map mo,.int .i64 x0,.int .i64 x1,.int .i64 x2,.int .i64 x3,.int .i64 x4,.int .i64 x5] 90)) (.cells #[.slice la l.length lc] 24)
   simpa using this
  have n2:w5.heap[w4.heap.size+1+1]? = some (.cells #[] 3 (0,0)):=by
   rw[ew5,heap_alloc_old _ _ (by simp <;> omega),heap_alloc_old _ _ (by simp <;> omega)];have:=heap_alloc_new ((w4.alloc (.cells #[.map mo,.int .i64 x0,.int .i64 x1,.int .i64 x2,.int .i64 x3,.int .i64 x4,.int .i64 x5] 90)).alloc (.cells #[.slice la l.length lc] 24)) (.cells #[] 3)
   simpa using this
  have n3:w5.heap[w4.heap.size+1+1+1]? = some (.cells #[.slice (some ⟨w4.heap.size+1+1,0,none⟩) ([]:List Int).length 0] 24 (0,0)):=by
   rw[ew5,heap_alloc_old _ _ (by simp <;> omega)];have:=heap_alloc_new (((w4.alloc (.cells #[.map mo,.int .i64 x0,.int .i64 x1,.int .i64 x2,.int .i64 x3,.int .i64 x4,.int .i64 x5] 90)).alloc (.cells #[.slice la l.length lc] 24)).alloc (.cells #[] 3)) (.cells #[.slice (some ⟨w4.heap.size+1+1,0,none⟩) 0 0] 24)
   simpa using this
  have n4:w5.heap[w4.heap.size+1+1+1+1]? = some (.cells #[tryV5 (w4.heap.size+1+1+1) (w4.heap.size+1) w2.heap.size w4.heap.size (w4.heap.size+1+1+1+1)] 32 (0,0)):=by
   have e2:((((w4.alloc (.cells #[.map mo,.int .i64 x0,.int .i64 x1,.int .i64 x2,.int .i64 x3,.int .i64 x4,.int .i64 x5] 90)).alloc (.cells #[.slice la l.length lc] 24)).alloc (.cells #[] 3)).alloc (.cells #[.slice (some ⟨w4.heap.size+1+1,0,none⟩) 0 0] 24)).heap.size=w4.heap.size+1+1+1+1:=by simp
   have e1:=heap_alloc_new ((((w4.alloc (.cells #[.map mo,.int .i64 x0,.int .i64 x1,.int .i64 x2,.int .i64 x3,.int .i64 x4,.int .i64 x5] 90)).alloc (.cells #[.slice la l.length lc] 24)).alloc (.cells #[] 3)).alloc (.cells #[.slice (some ⟨w4.heap.size+1+1,0,none⟩) 0 0] 24)) (.cells #[tryV5 (w4.heap.size+1+1+1) (w4.heap.size+1) w2.heap.size w4.heap.size (w4.heap.size+1+1+1+1)] 32);rw[e2]at e1;rw[ew5];exact e1
  have y1:=hB1.size;have y2:=hB2.size;have y3:w2.heap.size+1≤w3.heap.size:=by simpa using hB3.size
  have y4:=hB4.size
  have np:w5.heap[w2.heap.size]? = some (.cells #[.slice pa p.length pc] 29 (0,0)):=by
   rw[B45.block _ (by omega),hB4.block _ (by omega),hB3.block _ (by simp)];exact heap_alloc_new _ _
  have hno:∀ b o,(w4.heap.size≤b∨b=w2.heap.size)→M4 b o=none:=fun b o hb=>by
   cases hm:M4 b o with
   | none=>rfl
   | some u =>
    have h1:=Yq (C4 _ _ _ hm)
    rcases hb with hb | rfl
    ·omega
    ·rw[o4 _ _ (by omega),o3 _ _ (by simp)]at hm;have:=Yq (C2 _ _ _ hm);omega
  obtain⟨M5,eM5⟩:∃ M5:Mem,M5=fun b o=>if b=w2.heap.size∨b=w4.heap.size∨b=w4.heap.size+1∨b=w4.heap.size+1+1+1+1 then mc w5 b o else M4 b o:=⟨_,rfl⟩
  have hin:∀ b o,(b=w2.heap.size∨b=w4.heap.size∨b=w4.heap.size+1∨b=w4.heap.size+1+1+1+1)→M5 b o=mc w5 b o:=fun b o hb=>by rw[eM5];simp only[if_pos hb]
  have hout:∀ b o,¬ (b=w2.heap.size∨b=w4.heap.size∨b=w4.heap.size+1∨b=w4.heap.size+1+1+1+1)→M5 b o=M4 b o:=fun b o hb=>by rw[eM5];simp only[if_neg hb]
  have hsub:Sub M4 M5:=fun b o u hu=>by
   rw[hout b o (fun hb=>by rw[hno b o (by omega)]at hu;cases hu)];exact hu
  have C45:Cons M4 w5:=C4.below B45
  have C5:Cons M5 w5:=fun b o u hu=>by
   by_cases hb:b=w2.heap.size∨b=w4.heap.size∨b=w4.heap.size+1∨b=w4.heap.size+1+1+1+1
   ·rw[hin b o hb]at hu;exact hu
   ·rw[hout b o hb]at hu;exact C45 _ _ _ hu
  clear eM5
  obtain⟨T,eT⟩:∃ T:List Int→Bool,T=fun o=>(seenO fuel p want o).getD false:=⟨_,rfl⟩
  have hVE:VE fuel M5 (w4.heap.size+1+1+1) (w4.heap.size+1) w2.heap.size w4.heap.size (w4.heap.size+1+1+1+1) p l want T:=by
   refine⟨⟨la,lc,?_,R.mono hsub (R.setLab (l':=none) r4)⟩,⟨_,?_,rfl,((R.setLab (l':=none) r2).mono (Sub.trans s3 s4)).mono hsub⟩,⟨mo,x0,x1,x2,x3,x4,x5,hx,(r3.mono s4).mono hsub,?_,?_,?_,?_,?_,?_,?_⟩,?_,fun o=>?_,fun x hx=>List.all_eq_true.1 hwf x hx,by omega,fun o h1 h2 h3=>?_⟩
   ·rw[hin _ _ (by omega)];exact YA n1 rfl rfl
   ·rw[hin _ _ (by omega)];exact YA np rfl rfl
   ·rw[hin _ _ (by omega)];exact YA n0 rfl rfl
   ·rw[hin _ _ (by omega)];exact YA n0 rfl rfl
   ·rw[hin _ _ (by omega)];exact YA n0 rfl rfl
   ·rw[hin _ _ (by omega)];exact YA n0 rfl rfl
   ·rw[hin _ _ (by omega)];exact YA n0 rfl rfl
   ·rw[hin _ _ (by omega)];exact YA n0 rfl rfl
   ·rw[hin _ _ (by omega)];exact YA n0 rfl rfl
   ·rw[hin _ _ (by omega)];exact YA n4 rfl rfl
   ·rw[hout _ _ (by omega)];exact hno _ _ (by omega)
   ·have h4:=List.all_eq_true.1 hall o (by rw[← h1];exact Uf o l h2 hnd h3);obtain⟨q,hq⟩:=Option.isSome_iff_exists.1 h4
    have hT:T o=q:=by rw[eT];simp only[hq];rfl
    unfold seenO at hq;obtain⟨s,k1,hq⟩:=qd hq;obtain⟨v,k2,hq⟩:=qd hq;obtain⟨k3,hq⟩:=qr hq;rw[A0,decide_eq_true_eq]at k3;exact⟨s,v,k1,k2,k3.1,fun t=>DL t k3.2,by rw[hT];exact Option.some.inj hq⟩
  have hrow:w5.ownsRow (w4.heap.size+1+1) 3 1 (.slice (some ⟨w4.heap.size+1+1,0,none⟩) ([]:List Int).length 0) ([]:List Int).length (intsV []):=⟨rfl,.inr ⟨w4.heap.size+1+1,0,#[],rfl,A3 _,n2,A3 _,Nat.zero_le _,rfl,rfl⟩⟩;have hcall:=Try.try64 l.length fuel M5 w5 (w4.heap.size+1+1) (w4.heap.size+1+1+1) (w4.heap.size+1) w2.heap.size w4.heap.size (w4.heap.size+1+1+1+1) (w4.heap.size+1+1) 0 p l [] want T hVE C5 .nil (fun x hx=>by cases hx) (by simp) n3 hrow (fun j=>by rw[hout _ _ (by omega)];exact hno _ _ (by omega)) (by omega);rw[← eT]at hr;have hl0:([]:List Int).length=0:=rfl;have HW5:=(show Hid (w5=_) from ew5);unfold tryV5 at HW5;clear ew5;rw[← HW5.out];refine Calls.mono hcall ?_
  rintro e w6 ⟨rfl,T6,g6,cap6,hb6,ho6,hg6⟩
  have C6:Cons M5 w6:=T6.cons C5 hVE.f (fun j=>by rw[hout _ _ (by omega)];exact hno _ _ (by omega));have B05:Below w.heap.size w w5:=(((hB1.trans (hB2.mono (by omega))).trans ((Below.refl _ w2).alloc (by omega) _)).trans ((hB3.mono (by simp;omega)).trans (hB4.mono (by omega)))).trans (B45.mono (by omega));have B06:Below w.heap.size w w6:=⟨T6.os.trans B05.os,T6.tape.trans B05.tape,T6.output.trans B05.output,Nat.le_trans B05.size T6.size,fun k hk=>(T6.block k (by omega) (by omega) (by omega)).trans (B05.block k hk)⟩;have S5:Sub M M5:=Sub.trans s1 (Sub.trans s2 (Sub.trans s3 (Sub.trans s4 hsub)))
  have hold:∀ b o,b<w.heap.size→M5 b o=M b o:=fun b o hb=>by
   rw[hout b o (by omega),o4 b o (by omega),o3 b o (by simp;omega),o2 b o (by omega),o1 b o hb]
  cases hd:dfs T l l.length [] with
  | none =>
   rw[hd]at hr;subst hr
   go_wp2
   go_ret2
   refine⟨_,M5,rfl,B06,S5,C6,hold,?_,trivial⟩;refine .tup (vs:=[.slice none 0 0,.int .i64 5]) rfl (fun j c v hc hv=>?_)
   match j,hc,hv with
   | 0,hc,hv=>cases hc;cases hv;exact .lstn _ _ _
   | 1,hc,hv=>cases hc;cases hv;exact .int _ _
  | some o =>
   rw[hd]at hr hb6 ho6;subst hr;simp only[Option.getD_some]at hb6 ho6
   have q6:w6.cell? ⟨w4.heap.size+1+1+1,0,none⟩=some (.slice (some ⟨g6,0,none⟩) o.length cap6):=by simp[A4,hb6]
   obtain⟨N,hN,hNR,hNb⟩:=YR ho6
   have hNb':∀ b j u,N b j=some u→b=g6:=fun b j u hu=>by
    have:=hNb b j u hu
    simpa[Value.ownBlock] using this.symm
   have hMg:∀ j,M5 g6 j=none:=fun j=>by
    rcases hg6 with rfl | h
    ·rw[hout _ _ (by omega)];exact hno _ _ (by omega)
    ·rw[hout _ _ (by omega)];exact hno _ _ (by omega)
   go_wp2
   go_ret2
   refine⟨_,mblk M5 N g6,rfl,B06,Sub.trans S5 (Uu hMg),NK C6 hN,fun b j hb=>?_,?_,trivial⟩
   ·unfold mblk;rw[if_neg (by rcases hg6 with rfl | h <;> omega)];exact hold b j hb
   ·refine .tup (vs:=[.slice (some ⟨g6,0,none⟩) o.length cap6,.int .i64 0]) rfl (fun j c v hc hv=>?_)
    match j,hc,hv with
    | 0,hc,hv=>cases hc;cases hv;exact hNR.mono (NJ hNb')
    | 1,hc,hv=>cases hc;cases hv;exact .int _ _
end Go.Proofs
namespace Go.AM
open Go.Proofs
theorem qaa (P:List Int→Bool) {l:List Int} (hl:l.Nodup):∀ (n:Nat) (o:List Int),(l.filter fun y=>!o.contains y).length=n→dfs P l n o=((permsF n (l.filter fun y=>!o.contains y)).find? fun p=>P (o++p)).map (o++·)
  | 0,o,h=>by
    rw[List.length_eq_zero_iff.1 h];show (bif P o then some o else none)=(List.find? _ [[]]).map _;simp only[B6,List.append_nil,List.find?_nil];cases P o <;> simp
  | n+1,o,h=>by
    have e2:permsF (n+1) (l.filter fun y=>!o.contains y)=(l.filter fun y=>!o.contains y).flatMap fun y=>(permsF n ((l.filter fun y=>!o.contains y).erase y)).map (y::·):=by
      cases hF:l.filter fun y=>!o.contains y with
      | nil=>rw[hF]at h;cases h
      | cons x r=>rfl
    rw[e2,List.find?_flatMap,Yk,JV]
    refine JH fun x hx=>?_
    cases hc:o.contains x with
    | true=>rfl
    | false =>
      have hxm:x∈l.filter fun y=>!o.contains y:=List.mem_filter.2 ⟨hx,by rw[hc];rfl⟩
      have hlen:(l.filter fun y=>!(o++[x]).contains y).length=n:=by
        rw[← XB hl x,C7 hxm,h];rfl
      have ih:=qaa P hl n (o++[x]) hlen;simp only[cN,Bool.not_false,if_true];rw[ih,QV,XB hl]
      have e3:(fun p=>P (o++[x]++p))=fun p=>P (o++x::p):=by funext p;simp
      rw[e3];cases (permsF n (l.filter fun y=>!(o++[x]).contains y)).find? (fun p=>P (o++x::p)) <;> simp
def lexP:List Int→List Int→Prop
  | a::p,b::q=>a<b∨(a=b∧lexP p q)
  | _,_=>False
theorem Um:∀ (n:Nat) (l:List Int),l.Pairwise (fun a b=>a<b)→(permsF n l).Pairwise lexP
  | n,[],_=>by
    have:permsF n []=[[]]:=by cases n <;> rfl
    rw[this];exact List.pairwise_singleton _ _
  | 0,x::l,_=>.nil
  | n+1,x::l,h=>by
    have e:permsF (n+1) (x::l)=(x::l).flatMap fun y=>(permsF n ((x::l).erase y)).map (y::·):=rfl
    rw[e,List.pairwise_flatMap];refine⟨fun y hy=>?_,h.imp fun {a b} hab=>?_⟩
    · rw[List.pairwise_map]
      exact (Um n _ (h.sublist List.erase_sublist)).imp fun hp=>.inr ⟨rfl,hp⟩
    · intro p hp q hq
      obtain⟨p',_,rfl⟩:=List.mem_map.1 hp;obtain⟨q',_,rfl⟩:=List.mem_map.1 hq;exact .inl hab
theorem qbX {α:Type} {R:α→α→Prop} {P:α→Bool} {l:List α} {c a:α} (hl:l.Pairwise R) (hc:l.find? P=some c) (ha:a∈l) (hP:P a=true):c=a∨R c a:=by
  obtain⟨_,pre,bs,rfl,h⟩:=List.find?_eq_some_iff_append.1 hc
  rcases List.mem_append.1 ha with h1 | h1
  · have:=h a h1;rw[hP]at this;cases this
  · rcases List.mem_cons.1 h1 with h1 | h1
    · exact .inl h1.symm
    · exact .inr ((List.pairwise_cons.1 (List.pairwise_append.1 hl).2.1).1 a h1)
theorem XP (P:List Int→Bool) {l:List Int} (hl:l.Nodup):dfs P l l.length []=(permsF l.length l).find? P:=by
  have h0:(l.filter fun y=>!([]:List Int).contains y)=l:=by simp
  have:=qaa P hl l.length [] (by rw[h0]);rw[this,h0]
  cases hf:(permsF l.length l).find? (fun p=>P ([]++p)) with
  | none=>simpa using hf.symm
  | some x=>simpa using hf.symm
theorem Ua {E:Int→Int→Bool}:∀ (n:Nat) (l:List Int),l.length≤n→topo E n l=none→∃ S:List Int,S≠[]∧(∀ x,x∈S→x∈l)∧∀ b,b∈S→∃ a,a∈S∧E a b=true
  | n,[],_,h=>by cases n <;> cases h
  | 0,x::l,hl,_=>by simp at hl
  | n+1,x::l,hl,h=>by
    have e2:topo E (n+1) (x::l)=match (x::l).find? (srcB E (x::l)) with | none=>none | some b=>(topo E n ((x::l).erase b)).map (b::·):=rfl
    rw[e2]at h
    cases hf:(x::l).find? (srcB E (x::l)) with
    | none =>
      refine⟨x::l,by simp,fun _ h=>h,fun b hb=>?_⟩;have:=List.find?_eq_none.1 hf b hb;unfold srcB at this;simp only[B7,Bool.not_eq_false]at this;obtain⟨a,ha,hab⟩:=List.any_eq_true.1 this;exact⟨a,ha,hab⟩
    | some b =>
      rw[hf]at h;have hb:=B8 hf
      have hle:((x::l).erase b).length≤n:=by
        rw[C7 hb];simp at hl ⊢;omega
      obtain⟨S,h1,h2,h3⟩:=Ua n _ hle (Option.map_eq_none_iff.1 h);exact⟨S,h1,fun y hy=>List.mem_of_mem_erase (h2 y hy),h3⟩
theorem Ve {E:Int→Int→Bool} (hi:∀ x,E x x=false) {l o:List Int} (hn:l.Nodup) (h:topo E l.length l=some o):o.Perm l∧agreesB E o=true:=by
  rw[← NX hi hn (A3 _)]at h;exact⟨(Xn hn (A3 _) o).1 (B8 h),List.find?_some h⟩
theorem Ue:∀ (n:Nat) (l p:List Int),l.Nodup→p∈someF n l→p.Nodup
  | 0,l,p,_,h=>by
    have:p=[]:=by simpa[someF] using h
    subst this;exact .nil
  | n+1,l,p,hn,h=>by
    obtain⟨y,hy,h⟩:=List.mem_flatMap.1 h;obtain⟨q,hq,rfl⟩:=List.mem_map.1 h;refine List.nodup_cons.2 ⟨fun hm=>?_,Ue n _ q (hn.erase y) hq⟩;have:=(XE n _ q hq).2 y hm;rw[hn.mem_erase_iff]at this;exact this.1 rfl
theorem UF (E:Int→Int→Bool) (h:Int):∀ (q:List Int) (a b:Int) (r:List Int),extE E h a (q++b::r)=(extE E b a q && extE E h b r)
  | [],a,b,r=>rfl
  | t::q,a,b,r=>by
    show (E a t && extE E h t (q++b::r))=((E a t && extE E b t q) && _);rw[UF E h q t b r,Bool.and_assoc]
theorem qcF {E:Int→Int→Bool} {o:List Int} (ha:agreesB E o=true) (hi:∀ x,E x x=false):∀ {c:List Int},c≠[]→(∀ x,x∈c→x∈o)→cycB E c=false:=by
  have hp:=XS.1 ha
  have lt:∀ x y,x∈o→y∈o→E x y=true→o.idxOf x<o.idxOf y:=by
    intro x y hx hy he
    rcases Nat.lt_trichotomy (o.idxOf x) (o.idxOf y) with h | h | h
    · exact h
    · have hxl:=A9 hx
      have hyl:=A9 hy;have e1:o[o.idxOf x]=x:=B3 hxl;have e2:o[o.idxOf y]=y:=B3 hyl
      have:x=y:=by rw[← e1,← e2];congr 1
      rw[this,hi]at he;cases he
    · have hxl:=A9 hx
      have hyl:=A9 hy;have:=List.pairwise_iff_getElem.1 hp _ _ hyl hxl h;rw[B3,B3,he]at this;cases this
  have path:∀ (q:List Int) (h a:Int),h∈o→a∈o→(∀ x,x∈q→x∈o)→extE E h a q=true→o.idxOf a<o.idxOf h:=by
    intro q
    induction q with
    | nil=>intro h a hh ha _ he;exact lt a h ha hh he
    | cons t q ih =>
      intro h a hh ha hq he;have he:(E a t && extE E h t q)=true:=he;rw[A0]at he;exact Nat.lt_trans (lt a t ha (hq t (by simp)) he.1) (ih h t hh (hq t (by simp)) (fun x hx=>hq x (by simp[hx])) he.2)
  intro c hc hm
  cases c with
  | nil=>exact absurd rfl hc
  | cons t q =>
    cases he:cycB E (t::q) with
    | false=>rfl
    | true =>
      have:=path q t t (hm t (by simp)) (hm t (by simp)) (fun x hx=>hm x (by simp[hx])) he;omega
theorem NQ {E:Int→Int→Bool} {S:List Int} (hS:∀ b,b∈S→∃ a,a∈S∧E a b=true):∀ (n:Nat) (a:Int) (q:List Int),S.length+1≤n+(a::q).length→(a::q).Nodup→(∀ x,x∈a::q→x∈S)→(∀ q1 b r,q=q1++b::r→extE E b a q1=true)→∃ c,c≠[]∧c.Nodup∧(∀ x,x∈c→x∈S)∧cycB E c=true
  | 0,a,q,hl,hn,hm,_=>by
    have:=List.Nodup.length_le_of_subset hn hm;omega
  | n+1,a,q,hl,hn,hm,hp=>by
    obtain⟨b,hb,he⟩:=hS a (hm a (by simp));by_cases hba:b=a
    · subst hba
      exact⟨[b],by simp,by simp,by simpa using hb,he⟩
    by_cases hbq:b∈q
    · obtain⟨q1,r,rfl⟩:=List.append_of_mem hbq
      refine⟨a::(q1++[b]),by simp,?_,fun x hx=>hm x ?_,?_⟩
      · refine hn.sublist ?_
        have:a::(q1++b::r)=(a::(q1++[b]))++r:=by simp
        rw[this];exact List.sublist_append_left _ _
      · simp at hx ⊢
        rcases hx with h | h | h
        · exact .inl h
        · exact .inr (.inl h)
        · exact .inr (.inr (.inl h))
      · show extE E a a (q1++[b])=true
        rw[UF,hp q1 b r rfl,Bool.true_and];exact he
    · refine NQ hS n b (a::q) (by simp at hl ⊢;omega) (List.nodup_cons.2 ⟨by simp[hba,hbq],hn⟩) (fun x hx=>?_) ?_
      · rcases List.mem_cons.1 hx with rfl | hx
        · exact hb
        · exact hm x hx
      · intro q1 c r hq
        cases q1 with
        | nil =>
          have:a=c:=by simp at hq;exact hq.1
          subst this;exact he
        | cons z q1 =>
          simp at hq;obtain⟨rfl,hq⟩:=hq;show (E b a && extE E c a q1)=true;rw[he,Bool.true_and];exact hp q1 c r hq
theorem Uo {E:Int→Int→Bool} (hi:∀ x,E x x=false) {l:List Int} (hn:l.Nodup):(topo E l.length l=none∧∃ c,cycFind E l=some c∧2≤c.length∧c.Nodup∧(∀ x,x∈c→x∈l)∧cycB E c=true)∨∃ o,topo E l.length l=some o∧cycFind E l=none:=by
  have hf:∀ k:Nat,2≤k→(if k<2 then none else l.findSome? fun t=>growF E l (k - 1) [t])=(someF k l).find? (cycB E):=fun k hk=>by
    rw[if_neg (by omega),qcS hn]
    have:k - 1+1=k:=by omega
    rw[this]
  cases ht:topo E l.length l with
  | none =>
    refine .inl ⟨rfl,?_⟩;obtain⟨S,h1,h2,h3⟩:=Ua l.length l (A3 _) ht;obtain⟨a,S',rfl⟩:=List.exists_cons_of_ne_nil h1;obtain⟨c,c1,c2,c3,c4⟩:=NQ (S:=a::S') h3 (a::S').length a [] (by simp) (by simp) (by simp) (by intro q1 b r h;cases q1 <;> cases h)
    have c5:∀ x,x∈c→x∈l:=fun x hx=>h2 x (c3 x hx)
    have c6:2≤c.length:=by
      cases c with
      | nil=>exact absurd rfl c1
      | cons t q =>
        cases q with
        | nil =>
         have h:E t t=true:=c4;rw[hi]at h;cases h
        | cons u q=>simp
    have c7:c.length≤l.length:=List.Nodup.length_le_of_subset c2 c5
    have hsome:(cycFind E l).isSome=true:=by
      unfold cycFind;rw[List.findSome?_isSome_iff];refine⟨c.length,by simp;omega,?_⟩;rw[hf _ c6,List.find?_isSome];exact⟨c,Uf c l c2 hn c5,c4⟩
    obtain⟨d,hd⟩:=Option.isSome_iff_exists.1 hsome;refine⟨d,hd,?_⟩;unfold cycFind at hd;obtain⟨k,hk,hd⟩:=List.exists_of_findSome?_eq_some hd;by_cases h2k:k<2
    · rw[if_pos h2k]at hd;cases hd
    · rw[hf k (by omega)]at hd
      have hm:=B8 hd;have hl:=XE k l d hm;exact⟨by omega,Ue k l d hn hm,hl.2,by simpa using List.find?_some hd⟩
  | some o =>
    refine .inr ⟨o,rfl,?_⟩;obtain⟨p1,p2⟩:=Ve hi hn ht;unfold cycFind;rw[List.findSome?_eq_none_iff];intro k hk;by_cases h2k:k<2
    · rw[if_pos h2k]
    · rw[hf k (by omega),List.find?_eq_none]
      intro c hc;have hl:=XE k l c hc;rw[qcF p2 hi (by intro e;rw[e]at hl;simp at hl;omega) fun x hx=>p1.mem_iff.2 (hl.2 x hx)]
      decide
def goodB (x:rf5Op):Bool:=!bad6 x && !(decide (x.qb > 1) && (x.qc != 0))
theorem Zz (t:Int) (pre:List rf5Op) (x:rf5Op):ended t (pre++[x])=(ended t pre || ((x.qa == t) && decide (x.qb > 1))):=by
 unfold ended;rw[List.any_append];simp
theorem Ur:∀ (r pre:List rf5Op),okFrom pre r=true↔(∀ x,x∈r→goodB x=true∧ended x.qa pre=false)∧r.Pairwise fun x y=>¬ (x.qa=y.qa∧x.qb > 1)
 | [],pre=>by simp[okFrom]
 | x::r,pre=>by
  have e:okFrom pre (x::r)=((!bad6 x && (!(decide (x.qb > 1) && (x.qc != 0)) && !ended x.qa pre)) && okFrom (pre++[x]) r):=rfl;rw[e,A0,Ur r (pre++[x]),A6]
  have e2:(!bad6 x && (!(decide (x.qb > 1) && (x.qc != 0)) && !ended x.qa pre))=(goodB x && !ended x.qa pre):=by unfold goodB;rw[Bool.and_assoc]
  rw[e2];constructor
  ·rintro⟨h1,h2,h3⟩
   rw[A0,B7]at h1;refine⟨fun y hy=>?_,?_,h3⟩
   ·rcases List.mem_cons.1 hy with rfl | hy
    ·exact h1
    ·have:=(h2 y hy).2;rw[Zz,A7]at this;exact⟨(h2 y hy).1,this.1⟩
   ·intro y hy hc;have:=(h2 y hy).2;rw[Zz,A7]at this;simp[hc.1,hc.2]at this
  ·rintro⟨h1,h2,h3⟩
   refine⟨?_,fun y hy=>⟨(h1 y (by simp[hy])).1,?_⟩,h3⟩
   ·rw[A0,B7];exact h1 x (by simp)
   ·rw[Zz,(h1 y (by simp[hy])).2,Bool.false_or,Bool.and_eq_false_iff];have:=h2 y hy;by_cases he:x.qa=y.qa
    ·right;rw[decide_eq_false_iff_not];exact fun hk=>this ⟨he,hk⟩
    ·left;simpa using he
theorem YN (h:List rf5Op):validB h=true↔(∀ x,x∈h→goodB x=true)∧(h.Pairwise fun x y=>¬ (x.qa=y.qa∧x.qb > 1))∧h.length≤40:=by
 unfold validB;rw[A0,decide_eq_true_eq,Ur,and_assoc];refine and_congr ⟨fun h x hx=>(h x hx).1,fun h x hx=>⟨h x hx,rfl⟩⟩ Iff.rfl
theorem Hn {h:List rf5Op} (hv:validB h=true) (P:rf5Op→Bool):validB (h.filter P)=true:=by
 rw[YN]at *;exact⟨fun x hx=>hv.1 x (List.mem_filter.1 hx).1,List.Pairwise.filter _ hv.2.1,Nat.le_trans (List.length_filter_le _ _) hv.2.2⟩
theorem HX (t k:Int):∀ (l:List rf5Op) (i:Nat),endL t k l i ≥ 0↔∃ x,x∈l∧x.qa=t∧x.qb=k
 | [],i=>by simp[endL]
 | x::l,i=>by
  have e:endL t k (x::l) i=bif (x.qa == t) && (x.qb == k) then (i:Int) else endL t k l (i+1):=rfl;rw[e];by_cases hx:x.qa=t∧x.qb=k
  ·have:((x.qa == t) && (x.qb == k))=true:=by simp[hx]
   rw[this,cond_true];exact⟨fun _=>⟨x,by simp,hx⟩,fun _=>by omega⟩
  ·have:((x.qa == t) && (x.qb == k))=false:=by simpa using hx
   rw[this,cN,HX t k l (i+1)];constructor
   ·rintro⟨y,hy,h⟩;exact⟨y,by simp[hy],h⟩
   ·rintro⟨y,hy,h⟩
    rcases List.mem_cons.1 hy with rfl | hy
    ·exact absurd h hx
    ·exact⟨y,hy,h⟩
def doneB (h:List rf5Op) (t:Int):Bool:=decide (endL t 2 h 0 ≥ 0)
theorem XO {h:List rf5Op} {t:Int}:doneB h t=true↔∃ x,x∈h∧x.qa=t∧x.qb=2:=by
 unfold doneB;rw[decide_eq_true_eq,HX]
theorem YQ (h:List rf5Op):partL h=h.filter fun x=>doneB h x.qa:=rfl
theorem Vs (h:List rf5Op):commL h=([1,2,3,4,5,6]:List Int).filter (doneB h):=rfl
theorem Sw.perm {l m:List rf5Op} (h:Sw l m):l.Perm m:=by
 induction h with
 | refl l=>exact .refl _
 | swap a b x y h=>exact List.Perm.append_left a (List.Perm.swap y x b)
 | trans _ _ h1 h2=>exact h1.trans h2
theorem Sw.filter {l m:List rf5Op} (h:Sw l m) (P:rf5Op→Bool):Sw (l.filter P) (m.filter P):=by
 induction h with
 | refl l=>exact .refl _
 | swap a b x y h =>
  rw[List.filter_append,List.filter_append];cases hx:P x <;> cases hy:P y
  ·rw[A2 (by simp[hx]),A2 (by simp[hy]),A2 (by simp[hy]),A2 (by simp[hx])];exact .refl _
  ·rw[A2 (by simp[hx]),A1 hy,A1 hy,A2 (by simp[hx])];exact .refl _
  ·rw[A1 hx,A2 (by simp[hy]),A2 (by simp[hy]),A1 hx];exact .refl _
  ·rw[A1 hx,A1 hy,A1 hy,A1 hx];exact .swap _ _ _ _ h
 | trans _ _ h1 h2=>exact h1.trans h2
theorem Sw.done {l m:List rf5Op} (h:Sw l m):doneB l=doneB m:=by
 funext t
 rw[A5,XO,XO];constructor
 ·rintro⟨x,hx,h1⟩;exact⟨x,h.perm.mem_iff.1 hx,h1⟩
 ·rintro⟨x,hx,h1⟩;exact⟨x,h.perm.mem_iff.2 hx,h1⟩
theorem Sw.valid {l m:List rf5Op} (h:Sw l m):validB l=validB m:=by
 rw[A5,YN,YN];refine and_congr ⟨fun g x hx=>g x (h.perm.mem_iff.2 hx),fun g x hx=>g x (h.perm.mem_iff.1 hx)⟩ (and_congr ?_ (by rw[h.perm.length_eq]))
 induction h with
 | refl l=>exact Iff.rfl
 | swap a b x y h =>
  have:=(XD.1 h).1
  have h2:¬ y.qa=x.qa:=fun e=>this e.symm
  rw[C9,C9,A6,A6,A6,A6];simp only[List.mem_cons,forall_eq_or_imp];constructor
  ·rintro⟨p1,⟨⟨p2,p3⟩,p4,p5⟩,p6⟩
   exact⟨p1,⟨⟨fun e=>h2 e.1,p4⟩,p3,p5⟩,fun z hz=>⟨(p6 z hz).2.1,(p6 z hz).1,(p6 z hz).2.2⟩⟩
  ·rintro⟨p1,⟨⟨p2,p3⟩,p4,p5⟩,p6⟩
   exact⟨p1,⟨⟨fun e=>this e.1,p4⟩,p3,p5⟩,fun z hz=>⟨(p6 z hz).2.1,(p6 z hz).1,(p6 z hz).2.2⟩⟩
 | trans _ _ h1 h2=>exact h1.trans h2
theorem Sw.part {l m:List rf5Op} (h:Sw l m):Sw (partL l) (partL m):=by
 rw[YQ,YQ,h.done];exact h.filter _
theorem Sw.comm {l m:List rf5Op} (h:Sw l m):commL l=commL m:=by rw[Vs,Vs,h.done]
theorem qcA {h:List rf5Op} (H:Hist h) {x:rf5Op} (hx:x∈partL h):x.qa∈commL h:=by
 obtain⟨h1,h2⟩:=List.mem_filter.1 hx;have:=of_decide_eq_true h2;exact Xf.2 ⟨H.txn x h1,this⟩
theorem qbi {h:List rf5Op} (H:Hist h) {o:List Int} (hp:o.Perm (commL h)) (ha:agreesB (confL (partL h)) o=true):sameV (serV (partL h) o) (partL h)=true:=by
 rw[qaE];exact (Sw.serial o (partL h) (hp.nodup_iff.2 (qY h)) (fun x hx=>hp.mem_iff.2 (qcA H hx)) (XS.1 ha)).same
theorem Dd (h:List rf5Op):(commL h).Pairwise fun a b=>a<b:=List.Pairwise.filter _ (by decide)
theorem qap {h:List rf5Op} (hv:validB h=true) {o:List Int} (ho:topo (confL (partL h)) (commL h).length (commL h)=some o):∃ c,viewR h=(c,0)∧(c=o∨lexP c o):=by
 obtain⟨H,_⟩:=YX hv;obtain⟨p1,p2⟩:=Ve (fun x=>Xe x _) (qY h) ho;have hs:=qbi H p1 p2;have hm:=(Xn (qY h) (A3 _) o).2 p1;unfold viewR;rw[hv,XP _ (qY h)]
 cases hf:(permsF (commL h).length (commL h)).find? (fun o=>sameV (serV (partL h) o) (partL h)) with
 | none =>
  have:=List.find?_eq_none.1 hf o hm;rw[hs]at this;exact absurd rfl this
 | some c=>exact⟨c,rfl,qbX (Um _ _ (Dd h)) hf hm hs⟩
theorem ZA {a b:Int} {P:rf5Op→Bool}:∀ {l:List rf5Op},(∀ z,z∈l→z.qa=a∨z.qa=b→P z=true)→confL (l.filter P) a b=confL l a b
 | [],_=>rfl
 | x::l,h=>by
  have ih:=ZA (l:=l) fun z hz=>h z (by simp[hz])
  have e:confL (x::l) a b=((l.any fun y=>clash x y && ((x.qa == a) && (y.qa == b))) || confL l a b):=rfl
  have e3:(x.qa=a)→((l.filter P).any fun y=>clash x y && ((x.qa == a) && (y.qa == b)))=l.any fun y=>clash x y && ((x.qa == a) && (y.qa == b)):=fun ha=>by
   rw[List.any_filter];rw[A5,List.any_eq_true,List.any_eq_true];constructor
   ·rintro⟨y,hy,h1⟩
    rw[A0]at h1;exact⟨y,hy,h1.2⟩
   ·rintro⟨y,hy,h1⟩
    have hb:y.qa=b:=by
     simp only[A0,beq_iff_eq]at h1;exact h1.2.2
    refine⟨y,hy,?_⟩;rw[h y (by simp[hy]) (.inr hb),h1];rfl
  rw[List.filter_cons,e];split
  ·show (_ || confL _ a b)=_;rw[ih];by_cases ha:x.qa=a
   ·rw[e3 ha]
   ·have:∀ m:List rf5Op,(m.any fun y=>clash x y && ((x.qa == a) && (y.qa == b)))=false:=fun m=>by
     rw[B4];intro y _;simp[ha]
    rw[this,this]
  ·rename_i hP
   have ha:¬ x.qa=a:=fun ha=>hP (h x (by simp) (.inl ha))
   have:(l.any fun y=>clash x y && ((x.qa == a) && (y.qa == b)))=false:=by
    rw[B4];intro y _;simp[ha]
   rw[ih,this,Bool.false_or]
def twoL (h:List rf5Op) (x y:Int):List rf5Op:=h.filter fun o=>(o.qa == x) || (o.qa == y)
theorem qbG {x y:Int} (hxy:x≠y) {l:List Int} (hn:l.Nodup) (hm:∀ t,t∈l↔t=x∨t=y):l=[x,y]∨l=[y,x]:=by
 have hp:l.Perm [x,y]:=(List.perm_ext_iff_of_nodup hn (by simp[hxy])).2 fun t=>by rw[hm];simp
 have hl:=hp.length_eq
 match l,hl with
 | [a,b],_ =>
  have h1:=(hm a).1 (by simp);have h2:=(hm b).1 (by simp)
  have h3:a≠b:=by simpa using hn
  rcases h1 with rfl | rfl <;> rcases h2 with rfl | rfl
  ·exact absurd rfl h3
  ·exact .inl rfl
  ·exact .inr rfl
  ·exact absurd rfl h3
theorem qcm {E:Int→Int→Bool} {x y:Int} (hi:∀ x,E x x=false) (hxy:x≠y) (he:E x y=true) {l:List Int} (hl:l=[x,y]∨l=[y,x]):topo E l.length l=if E y x=true then none else some [x,y]:=by
 have b1:(x == y)=false:=beq_eq_false_iff_ne.2 hxy
 have b2:(y == x)=false:=beq_eq_false_iff_ne.2 fun e=>hxy e.symm
 rcases hl with rfl | rfl
 ·cases hE:E y x <;> simp[topo,srcB,hi,he,hE,B6,List.erase_cons,b1,b2]
 ·cases hE:E y x <;> simp[topo,srcB,hi,he,hE,B6,List.erase_cons,b1,b2]
theorem qbI {h:List rf5Op} (hv:validB h=true) {x y:Int} (hx:x∈commL h) (hy:y∈commL h) (he:confL (partL h) x y=true):orderR (twoL h x y)=if confL (partL h) y x=true then ([],8) else ([x,y],0):=by
 have hxy:x≠y:=fun e=>by rw[e,Xe]at he;cases he
 have hd:∀ t,doneB (twoL h x y) t=((t == x || t == y) && doneB h t):=fun t=>by
  rw[A5,A0,XO,XO];constructor
  ·rintro⟨z,hz,h1,h2⟩
   obtain⟨m1,m2⟩:=List.mem_filter.1 hz;rw[h1]at m2;exact⟨m2,z,m1,h1,h2⟩
  ·rintro⟨h0,z,hz,h1,h2⟩
   exact⟨z,List.mem_filter.2 ⟨hz,by rw[h1];exact h0⟩,h1,h2⟩
 have dx:doneB h x=true:=decide_eq_true (Xf.1 hx).2;have dy:doneB h y=true:=decide_eq_true (Xf.1 hy).2
 have hpart:partL (twoL h x y)=twoL h x y:=by
  rw[YQ]
  refine List.filter_eq_self.2 fun z hz=>?_
  obtain⟨m1,m2⟩:=List.mem_filter.1 hz;rw[hd];rw[Bool.or_eq_true,beq_iff_eq,beq_iff_eq]at m2
  rcases m2 with e | e <;> rw[e] <;> simp[dx,dy]
 have hcf:∀ a b,(a=x∧b=y)∨(a=y∧b=x)→confL (twoL h x y) a b=confL (partL h) a b:=fun a b hab=>by
  have h1:confL (twoL h x y) a b=confL h a b:=ZA fun z _ hz=>by
   rcases hab with ⟨rfl,rfl⟩ | ⟨rfl,rfl⟩ <;> rcases hz with e | e <;> simp[e]
  have h2:confL (partL h) a b=confL h a b:=by
   rw[YQ]
   refine ZA fun z _ hz=>?_
   rcases hab with ⟨rfl,rfl⟩ | ⟨rfl,rfl⟩ <;> rcases hz with e | e <;> rw[e] <;> assumption
  rw[h1,h2]
 have hcm:∀ t,t∈commL (twoL h x y)↔t=x∨t=y:=fun t=>by
  rw[Vs,List.mem_filter,hd];simp only[A0,Bool.or_eq_true,beq_iff_eq];constructor
  ·rintro⟨_,h1,_⟩;exact h1
  ·rintro h1
   rcases h1 with rfl | rfl
   ·exact⟨(List.mem_filter.1 hx).1,.inl rfl,dx⟩
   ·exact⟨(List.mem_filter.1 hy).1,.inr rfl,dy⟩
 unfold orderR;rw[show validB (twoL h x y)=true from Hn hv _,hpart,if_pos rfl,qcm (fun z=>Xe z _) hxy (by rw[hcf x y (.inl ⟨rfl,rfl⟩)];exact he) (qbG hxy (qY _) hcm),hcf y x (.inr ⟨rfl,rfl⟩)];cases confL (partL h) y x <;> rfl
end Go.AM
namespace Go.AM
open Go.Proofs
end Go.AM
