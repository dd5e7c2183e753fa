import Derived.Test.YtoiejpkfpjingaaELkH
set_option linter.all false
set_option maxRecDepth 100000
open Prod renaming fst→A0
open Go.World renaming cell?_of_block→A1, news_of_block→B5
open Nat renaming le_refl→A2
open List renaming mem_append_left→A3, eq_nil_of_length_eq_zero→A4, mem_of_getElem?→A5, getElem?_take→A6, getElem?_drop→A7, mem_append_right→A9, getElem?_eq_getElem→B0, getD_eq_getElem?_getD→B6
open Array renaming getElem?_toList→A8
namespace Go.Proofs
open Go.RowKit Go.AM
open Go.ChangeMaps (setBlock)
def SeenAt (w:World) (g:Nat) (S:List Int):Prop:=∃ l:List (Int×Bool),MapAt (fun _ _=>none) w g (AV.int .i64) AV.bool l∧(∀ p,p∈l→p.2=true)∧l.map A0=S
theorem SeenAt.of {w w':World} {g:Nat} {S:List Int} (h:SeenAt w g S) (hb:w'.heap[g]? = w.heap[g]?):SeenAt w' g S:=by
 obtain⟨l,h1,h2⟩:=h;exact⟨l,h1.of hb,h2⟩
theorem SeenAt.lt {w:World} {g:Nat} {S:List Int} (h:SeenAt w g S):g<w.heap.size:=by
 obtain⟨l,h1,h2⟩:=h;exact h1.lt
theorem qaW {y:Int}:∀ l:List (Int×Bool),(∀ p,p∈l→p.2=true)→mget keq1 false y l=decide (y∈l.map A0)
 | [],_=>by simp[mget]
 | p::r,h=>by
  have ih:=qaW (y:=y) r fun q hq=>h q (.tail _ hq)
  simp only[mget,List.map_cons,List.mem_cons]
  cases hq:keq1 p.1 y with
  | true =>
   have:p.1=y:=by simpa[keq1] using hq
   simp[this,h p (.head _)]
  | false =>
   have:¬ p.1=y:=by simpa[keq1] using hq
   have h2:¬ y=p.1:=fun e=>this e.symm
   simp only[cN,ih,h2,false_or]
theorem SeenAt.look {w:World} {g:Nat} {S:List Int} (h:SeenAt w g S) {y:Int} (h1:0≤y) (h6:y≤6):(Instr.lookup 83 (.map (some g)) (.int .i64 y) false).run Try.prog w=.ok (.bool (decide (y∈S))) w:=by
 obtain⟨l,hl,ht,rfl⟩:=h;obtain⟨v,q1,q2⟩:=Try.lookup_own (t:=83) (kt:=3) (e:=4) (eq:=keq1) (z:=false) hl (by kernel_rfl) fits3 YX (by kernel_rfl) (k:=y) (NU h1 h6);rw[qaW l ht]at q2;cases q2;exact q1
theorem SeenAt.put {w:World} {g:Nat} {S:List Int} (h:SeenAt w g S) {y:Int} (h1:0≤y) (h6:y≤6) (hn:y ∉ S) (hl:S.length<1000000) :
  ∃ o',(Instr.mapUpdate 83 (.map (some g)) (.int .i64 y) (.bool true)).run Try.prog w=.ok () (setBlock w g o')∧SeenAt (setBlock w g o') g (S++[y]):=by
 obtain⟨l,⟨es,clock,hb,hE⟩,ht,rfl⟩:=h;obtain⟨es',clock',hE',hU⟩:=Try.update_own (t:=83) (kt:=3) (e:=4) (eq:=keq1) (G:=AV.bool) hE (by kernel_rfl) fits3 YX (k:=y) (v:=true) (NU h1 h6) (.bool true) (by simp at hl;omega)
 have hkeys:(mset keq1 y true l).map A0=l.map A0++[y]:=by rw[XR,if_neg hn]
 have hms:∀ l:List (Int×Bool),(∀ p,p∈l→p.2=true)→∀ p,p∈mset keq1 y true l→p.2=true:=by
  intro l
  induction l with
  | nil=>intro _ p hp;simp[mset]at hp;rw[hp]
  | cons q r ih =>
   intro h p hp;unfold mset at hp
   cases hq:keq1 q.1 y with
   | true =>
    rw[hq]at hp
    rcases List.mem_cons.1 hp with h2 | h2
    ·rw[h2]
    ·exact h p (.tail _ h2)
   | false =>
    rw[hq]at hp
    rcases List.mem_cons.1 hp with h2 | h2
    ·rw[h2];exact h q (.head _)
    ·exact ih (fun x hx=>h x (.tail _ hx)) p h2
 exact⟨_,hU w g hb,mset keq1 y true l,⟨es',clock',Go.AM.Jx hb,hE'⟩,hms l ht,hkeys⟩
theorem SeenAt.empty {w:World} {g:Nat} (h:w.heap[g]? = some (.map #[] 0)):SeenAt w g []:=⟨[],MapAt.empty h,fun p hp=>(by cases hp),rfl⟩
theorem RowN.tail {w:World} {B g off cap:Nat} {y:Int} {out:List Int} (h:RowN w B (.slice (some ⟨g,off,none⟩) (out.length+1) cap) (y::out)) :
  (cap=1∧out=[]∧RowN w B (.slice (some ⟨g,off,none⟩) out.length 0) out)∨(cap≠1∧RowN w B (.slice (some ⟨g,off+1,none⟩) out.length (cap - 1)) out):=by
 obtain⟨L,h1,h2⟩:=h
 rcases RowT.tail h2 with ⟨h3,h4,h5⟩ | ⟨h3,h5⟩
 ·exact .inl ⟨h3,A4 h4,L,h1,h5⟩
 ·exact .inr ⟨h3,L,h1,h5⟩
structure CircI (s:LS) (t:Int) (qs seen:List Int) (x:Option Int) (done:List Int):Prop where
 q:∀ y,y∈qs→y=t∨ReachL s t y
 r:∀ y,y∈seen→ReachL s t y
 qr:∀ y,y∈qs→1≤y∧y≤6
 sr:∀ y,y∈seen→1≤y∧y≤6
 no:t ∉ seen
 nd:seen.Nodup
 dn:∀ y,y∈done→y∈seen
 cl:∀ z,(z=t∨z∈seen)→z∈qs∨some z=x∨∀ y,EdgeL s z y→y∈seen
theorem CircI.len {s:LS} {t:Int} {qs seen:List Int} {x:Option Int} {done:List Int} (h:CircI s t qs seen x done):seen.length≤6 :=
 YD seen [(1:Int),2,3,4,5,6] h.nd fun y hy=>Nq (h.sr y hy).1 (h.sr y hy).2
theorem CircI.stop {s:LS} {t:Int} {seen:List Int} (h:CircI s t [] seen none []):¬ ReachL s t t:=by
 have h0:∀ a b,ReachL s a b→a=t→b∈seen:=by
  intro a b hr
  induction hr with
  | one e =>
   intro ha
   rcases h.cl _ (.inl ha) with h1 | h1 | h1
   ·cases h1
   ·cases h1
   ·exact h1 _ e
  | more _ e ih =>
   intro ha
   rcases h.cl _ (.inr (ih ha)) with h1 | h1 | h1
   ·cases h1
   ·cases h1
   ·exact h1 _ e
 exact fun hr=>h.no (h0 t t hr rfl)
theorem CircI.pop {s:LS} {t x:Int} {qs seen:List Int} (h:CircI s t (x::qs) seen none []):CircI s t qs seen (some x) []:=by
 refine⟨fun y hy=>h.q y (.tail _ hy),h.r,fun y hy=>h.qr y (.tail _ hy),h.sr,h.no,h.nd,fun y hy=>(by cases hy),fun z hz=>?_⟩
 rcases h.cl z hz with h1 | h1 | h1
 ·rcases List.mem_cons.1 h1 with h2 | h2
  ·exact .inr (.inl (by rw[h2]))
  ·exact .inl h2
 ·cases h1
 ·exact .inr (.inr h1)
theorem CircI.push {s:LS} {t x y:Int} {qs seen done:List Int} (h:CircI s t qs seen (some x) done) (hx:x=t∨ReachL s t x) (he:EdgeL s x y) (hy:y≠t) (h1:1≤y) (h6:y≤6) (hn:y ∉ seen):CircI s t (qs++[y]) (seen++[y]) (some x) (done++[y]):=by
 have hr:ReachL s t y:=by
  rcases hx with rfl | hx
  ·exact .one he
  ·exact .more hx he
 refine⟨fun z hz=>?_,fun z hz=>?_,fun z hz=>?_,fun z hz=>?_,fun hz=>?_,?_,fun z hz=>?_,fun z hz=>?_⟩
 ·rcases List.mem_append.1 hz with h2 | h2
  ·exact h.q z h2
  ·rw[List.mem_singleton.1 h2];exact .inr hr
 ·rcases List.mem_append.1 hz with h2 | h2
  ·exact h.r z h2
  ·rw[List.mem_singleton.1 h2];exact hr
 ·rcases List.mem_append.1 hz with h2 | h2
  ·exact h.qr z h2
  ·rw[List.mem_singleton.1 h2];exact⟨h1,h6⟩
 ·rcases List.mem_append.1 hz with h2 | h2
  ·exact h.sr z h2
  ·rw[List.mem_singleton.1 h2];exact⟨h1,h6⟩
 ·rcases List.mem_append.1 hz with h2 | h2
  ·exact h.no h2
  ·exact hy (List.mem_singleton.1 h2).symm
 ·rw[List.nodup_append];exact⟨h.nd,by simp,fun a ha b hb e=>hn (by simp at hb;rw[← hb,← e];exact ha)⟩
 ·rcases List.mem_append.1 hz with h2 | h2
  ·exact A3 _ (h.dn z h2)
  ·exact A9 _ h2
 ·rcases hz with h2 | h2
  ·rcases h.cl z (.inl h2) with h3 | h3 | h3
   ·exact .inl (A3 _ h3)
   ·exact .inr (.inl h3)
   ·exact .inr (.inr fun u hu=>A3 _ (h3 u hu))
  ·rcases List.mem_append.1 h2 with h2 | h2
   ·rcases h.cl z (.inr h2) with h3 | h3 | h3
    ·exact .inl (A3 _ h3)
    ·exact .inr (.inl h3)
    ·exact .inr (.inr fun u hu=>A3 _ (h3 u hu))
   ·exact .inl (A9 _ h2)
theorem CircI.skip {s:LS} {t x y:Int} {qs seen done:List Int} (h:CircI s t qs seen (some x) done) (hy:y∈seen):CircI s t qs seen (some x) (done++[y]) :=
 ⟨h.q,h.r,h.qr,h.sr,h.no,h.nd,fun z hz=>by
  rcases List.mem_append.1 hz with h2 | h2
  ·exact h.dn z h2
  ·rw[List.mem_singleton.1 h2];exact hy,h.cl⟩
theorem CircI.close {s:LS} {t x:Int} {qs seen done:List Int} (h:CircI s t qs seen (some x) done) (hd:∀ y,EdgeL s x y→y∈done):CircI s t qs seen none [] :=
 ⟨h.q,h.r,h.qr,h.sr,h.no,h.nd,fun z hz=>(by cases hz),fun z hz=>by
  rcases h.cl z hz with h3 | h3 | h3
  ·exact .inl h3
  ·exact .inr (.inr fun y hy=>h.dn y (hd y (by rw[← Option.some.inj h3];exact hy)))
  ·exact .inr (.inr h3)⟩
set_option maxHeartbeats 4000000 in
theorem Try.circle97 {N base br:Nat} {w:World} {L:Nat→Nat} {G:Gst} {s:LS} (h:RunB base br w L G s) (hs:OkS N s) {t:Int} (h1:1≤t) (h6:t≤6) :
  Calls Try.prog 97 #[.pointer (some ⟨br,0,none⟩),.int .i64 t] w fun e w'=>((ReachL s t t∧e=.returned (.bool true))∨(¬ ReachL s t t∧e=.returned (.bool false)))∧Below w.heap.size w w':=by
 have mixed:=mixedP;have t3:=Try.underlying3;have a3:=Try.isAgg3;have z3:=Try.sizeOf3;have v3:=Try.zeroValue3;have u3:=run_underlying Try.underlying3;have t4:=Try.underlying4;have a4:=Try.isAgg4;have z4:=Try.sizeOf4;have v4:=Try.zeroValue4;have t24:=Try.underlying24;have a24:=Try.isAgg24;have z24:=Try.sizeOf24;have v24:=Try.zeroValue24;have u24:=run_underlying Try.underlying24;have t44:=Try.underlying44;have a44:=Try.isAgg44;have z44:=Try.sizeOf44;have v44:=Try.zeroValue44;have u44:=run_underlying Try.underlying44;have t83:=Try.underlying83;have a83:=Try.isAgg83;have z83:=Try.sizeOf83;have v83:=Try.zeroValue83;have u83:=run_underlying Try.underlying83;have t96:=Try.underlying96;have a96:=Try.isAgg96;have z96:=Try.sizeOf96;have u96:=run_underlying Try.underlying96;have t101:=Try.underlying101;have a101:=Try.isAgg101;have z101:=Try.sizeOf101;have u101:=run_underlying Try.underlying101;have t102:=Try.underlying102;have a102:=Try.isAgg102;have z102:=Try.sizeOf102;have v102:=Try.zeroValue102;have u102:=run_underlying Try.underlying102;have t104:=Try.underlying104;have a104:=Try.isAgg104;have z104:=Try.sizeOf104;have u104:=run_underlying Try.underlying104;have hmm:=@run_makeMap Try.prog;obtain⟨w1,ew1⟩:∃ w1,w1=(w.alloc (.map #[] 0)).alloc (.cells #[.int .i64 t] 3):=⟨_,rfl⟩
 have z1:w1.heap.size=w.heap.size+2:=by rw[ew1];simp
 have B1:Below w.heap.size w w1:=by rw[ew1];exact ((Below.refl _ _).alloc (A2 _) _).alloc (by simp) _
 have S1:SeenAt w1 w.heap.size []:=SeenAt.empty (by rw[ew1,heap_alloc_old _ _ (by simp)];exact heap_alloc_new _ _)
 have Q1:RowN w1 (w.heap.size+1) (.slice (some ⟨w.heap.size+1,0,none⟩) 1 1) [t]:=by
  refine⟨fun k=>if k=w.heap.size+1 then 1 else 0,fun k hk=>?_,rfl,.inr ⟨w.heap.size+1,0,1,#[.int .i64 t],rfl,by simp,?_,A2 _,by decide,by simp,rfl⟩⟩
  ·by_cases e:k=w.heap.size+1
   ·omega
   ·simp only[if_neg e]at hk;exact absurd rfl hk
  ·rw[ew1];have:=heap_alloc_new (w.alloc (.map #[] 0)) (.cells #[.int .i64 t] 3)
   simpa using this
 have I1:CircI s t [t] [] none []:=⟨fun y hy=>.inl (List.mem_singleton.1 hy),fun y hy=>(by cases hy),fun y hy=>by rw[List.mem_singleton.1 hy];exact⟨h1,h6⟩,fun y hy=>(by cases hy),by simp,by simp,fun y hy=>(by cases hy),fun z hz=>by
  rcases hz with hz | hz
  ·rw[hz];exact .inl (.head _)
  ·cases hz⟩
 have HW1:=(show Hid (w1=_) from ew1);have hlt:=h.lt;clear ew1
 go_enter Try.func97,Try.ntmps97
 go_wp2
 rw[← HW1.out]
 go_loopg [6] 13 (fun gf s6 wx=>∃ (qs seen:List Int),gf=qs.length+2 * (6 - seen.length)∧qs.length≤seen.length+1∧Below w.heap.size w wx∧RowN wx (w.heap.size+1) s6 qs∧SeenAt wx w.heap.size seen∧CircI s t qs seen none [])
 case atStart=>exact⟨[t],[],rfl,by simp,B1,Q1,S1,I1⟩
 case round =>
  clear HW1 Q1 S1 I1 B1;obtain⟨qs,seen,hgf,hqn,hB,hQ,hSe,hI⟩:=hrel
  cases qs with
  | nil =>
   have hstop:=hI.stop;obtain⟨qa,qc,rfl⟩:=hQ.form;clear hI hgf
   go_wp2
   go_ret
   exact⟨.inr ⟨hstop,rfl⟩,hB⟩
  | cons x qs =>
   obtain⟨qa,qc,rfl⟩:=hQ.form;obtain⟨qg,qo,rfl,hqB,hqg,hqx⟩:=hQ.cells (j:=0) (x:=x) rfl
   have hqn:qs.length≤seen.length:=by simpa using hqn
   have hxr:=hI.qr x (.head _);have hxq:=hI.q x (.head _);have hI2:=hI.pop
   have hR:=h.kept hB.size fun k hk _=>hB.block k hk
   have hqx:wr.cell? ⟨qg,qo,none⟩=some (.int .i64 x):=hqx
   have hl0:(0:Int)<((qs.length:Int)+1):=by omega
   have hl1:(1:Int)≤((qs.length:Int)+1):=by omega
   have hgw:wr.cell? ⟨br,14,none⟩=some (.map (some G.gw)):=hR.cell_wt;obtain⟨v8,hlk,hrow⟩:=hR.row (by omega:0≤x) hxr.2;have hlk:=hlk wr rfl;have hsl:=hI2.len
   have hnxt:∀ qs2 seen2:List Int,CircI s t qs2 seen2 none []→qs2.length+seen.length=qs.length+seen2.length→seen.length≤seen2.length→qs2.length+2 * (6 - seen2.length)<gk:=by
    intro qs2 seen2 hI3 he hle;have h1:=hI3.len;rw[hgf];simp only[List.length_cons];omega
   have HN:=(show Hid _ from hnxt);have HI:=(show Hid _ from hI2);have HS:=(show Hid _ from hSe);have HX:=(show Hid _ from hxq);clear hnxt hI2 hgf hI hSe hxq
   rcases RowN.tail hQ with ⟨hqc,hqz,hQ2⟩ | ⟨hqc,hQ2⟩
   case' inl =>
    subst hqc;clear hqz
   all_goals
    have HQ2:=(show Hid _ from hQ2);clear hQ hQ2
    cases hwx:s.wt x with
    | nil =>
     rw[hwx]at hrow;obtain⟨ra,rc,rfl⟩:=hrow.form;have hI3:=HI.out.close (fun y ⟨p,r,e,_⟩=>by rw[hwx]at e;cases e);have HI3:=(show Hid _ from hI3);clear hI3 hrow hwx
     go_wp2
     go_roundg (qs.length+2 * (6 - seen.length))
     case measure=>exact HN.out _ _ HI3.out rfl (A2 _)
     case rel=>exact⟨_,_,rfl,by omega,hB,HQ2.out,HS.out,HI3.out⟩
    | cons p rest =>
     obtain⟨⟨tx,kx,ix⟩,pa⟩:=p;have hop:OkOp ⟨tx,kx,ix⟩:=(hs.wto x _ (by rw[hwx];exact .head _)).1;rw[hwx]at hrow;obtain⟨rg,ro,rc,rfl,_,hrgl,_⟩:=hrow.formp (by simp)
     have c0:∀ d,({ wr with drawn:=d }:World).cell? ⟨rg,ro,none⟩=some (.int .i64 tx):=fun d=>hrow.cell (j:=0) rfl
     have c1:∀ d,({ wr with drawn:=d }:World).cell? ⟨rg,ro+1,none⟩=some (.int .i64 kx):=fun d=>hrow.cell (j:=1) rfl
     have c2:∀ d,({ wr with drawn:=d }:World).cell? ⟨rg,ro+2,none⟩=some (.int .i64 ix):=fun d=>hrow.cell (j:=2) rfl
     have hedge:∀ y,EdgeL s x y↔hindP s ⟨tx,kx,ix⟩ y:=fun y=>⟨fun ⟨p,r,e,hh⟩=>by rw[hwx]at e;cases e;exact hh,fun hh=>⟨_,_,hwx,hh⟩⟩
     have HED:=(show Hid _ from hedge)
     have hrl:(0:Int)<((rest.length:Int)+1):=by omega
     have c99:=Try.hinders99 hR.drew hs hop;clear hrow hwx hedge
     go_wp2_with fail
     have K0:wr.drew.cell? ⟨rg,ro,none⟩=some (.int .i64 tx)∧wr.drew.cell? ⟨rg,ro+1,none⟩=some (.int .i64 kx)∧wr.drew.cell? ⟨rg,ro+2,none⟩=some (.int .i64 ix):=⟨c0 _,c1 _,c2 _⟩
     go_region_held3 (fun w'=>w'.cell? ⟨rg,ro,none⟩=some (.int .i64 tx)∧w'.cell? ⟨rg,ro+1,none⟩=some (.int .i64 kx)∧w'.cell? ⟨rg,ro+2,none⟩=some (.int .i64 ix)) (first | exact K0 | exact K1)
      (first | (go_at_call 99;refine Calls.mono c99 ?_;rintro e w2 ⟨hv,out,rfl,B2,R2,hl2,hm2⟩;obtain⟨oa,oc,rfl⟩:=R2.form;have K1:w2.cell? ⟨rg,ro,none⟩=some (.int .i64 tx)∧w2.cell? ⟨rg,ro+1,none⟩=some (.int .i64 kx)∧w2.cell? ⟨rg,ro+2,none⟩=some (.int .i64 ix):=⟨(A1 (B2.block rg hrgl)).trans (c0 _),(A1 (B2.block rg hrgl)).trans (c1 _),(A1 (B2.block rg hrgl)).trans (c2 _)⟩))
     obtain⟨w7,rfl⟩:∃ w7,w7=wr:=⟨_,rfl⟩;have BB2:Below w.heap.size w w2:=hB.trans ((show Below w7.heap.size w7 w2 from⟨B2.os,B2.tape,B2.output,B2.size,B2.block⟩).mono hB.size)
     have hb2:∀ k,k<w7.heap.size→w2.heap[k]? = w7.heap[k]?:=fun k hk=>B2.block k hk
     have hs2:w7.heap.size≤w2.heap.size:=B2.size
     have QQ2:=RowN.kept HQ2.out (w':=w2) hs2 fun k hk _=>hb2 k hk
     have hgs:=SeenAt.lt HS.out;have SS2:=SeenAt.of HS.out (hb2 _ hgs)
     have hap:∀ g0 o0 n0 c0,(Value.slice (some ⟨qg,o0,none⟩) n0 c0).ownBlock=some g0→(Value.slice oa out.length oc).ownBlock≠some g0:=fun g0 o0 n0 c0 e e2=>by
      cases e;obtain⟨L5,r1,r2⟩:=R2;have h8:=r2.lt _ e2;have h9:=(r1 _ (by rw[h8.1];decide)).1;have h9:w7.heap.size≤qg:=h9;omega
     have R3:RowN w2 (w.heap.size+1) (.slice oa out.length oc) out:=R2.mono (by have:=hB.size;show w.heap.size+1≤w7.heap.size;omega);clear c99 B2 R2 hR c0 c1 c2 K0 K1 hqx hgw hlk hb2 hs2 hsl
     go_wp2_with fail
     go_loopg [6,40] out.length (fun gi s6 s40 wx=>∃ (k:Nat) (qs2 seen2:List Int),s40=.int .i64 (k:Int)∧k+gi=out.length∧Below w.heap.size w wx∧RowN wx (w.heap.size+1) s6 qs2∧(∀ g0,s6.ownBlock=some g0→(Value.slice oa out.length oc).ownBlock≠some g0)∧SeenAt wx w.heap.size seen2∧RowN wx (w.heap.size+1) (.slice oa out.length oc) out∧CircI s t qs2 seen2 (some x) (out.take k)∧qs2.length+seen.length=qs.length+seen2.length∧seen.length≤seen2.length)
     case atStart=>exact⟨0,qs,seen,rfl,by omega,BB2,QQ2,fun g0 e=>hap g0 _ _ _ e,SS2,R3,HI.out,rfl,A2 _⟩
     case round =>
      clear QQ2 SS2 R3 BB2 hap;obtain⟨k,qs2,seen2,rfl,hkg,hBr,hQr,hapr,hSr,hOr,hIr,hqs,hss⟩:=hrel
      rcases Nat.lt_or_ge k out.length with hk1 | hk1
      ·obtain⟨y,hy⟩:∃ y,out[k]? = some y:=⟨_,B0 hk1⟩;obtain⟨og,oo,rfl,_,hogl,hcy⟩:=hOr.cells hy;have hym:y∈out:=A5 hy;have hed:=(HED.out y).2 ((hm2 y).1 hym);have hyr:=hs.hind ((hm2 y).1 hym)
       have htk:out.take (k+1)=out.take k++[y]:=by rw[List.take_add_one,hy];rfl
       have j0:(0:Int)≤(k:Int):=Int.natCast_nonneg _
       have j1:(k:Int)<(out.length:Int):=by omega
       have HIR:=(show Hid _ from hIr);have HSR:=(show Hid _ from hSr);clear hIr hy;by_cases hyt:y=t
       ·have hre:ReachL s t t:=by
         rw[hyt]at hed
         rcases HX.out with e | e
         ·rw[e]at hed;exact .one hed
         ·exact .more e hed
        clear hed hSr;subst hyt
        go_wp2
        go_ret
        exact⟨.inl ⟨hre,rfl⟩,hBr⟩
       ·have hyt':(y == t)=false:=beq_eq_false_iff_ne.2 hyt;have hlook:=hSr.look (by omega:0≤y) hyr.2;by_cases hys:y∈seen2
        ·have hd:decide (y∈seen2)=true:=dT hys;rw[hd]at hlook;have HI4:=(show Hid _ from HIR.out.skip hys);clear hys hd hSr hed
         go_wp2
         go_roundg (out.length - (k+1))
         case measure=>omega
         case rel=>exact⟨k+1,qs2,seen2,by go_num,by omega,hBr,hQr,hapr,HSR.out,hOr,by rw[htk];exact HI4.out,hqs,hss⟩
        ·have hd:decide (y∈seen2)=false:=decide_eq_false hys;rw[hd]at hlook;have HI4:=(show Hid _ from HIR.out.push HX.out hed hyt hyr.1 hyr.2 hys);have hsl2:=HIR.out.len;obtain⟨o',hup,hS3⟩:=hSr.put (by omega:0≤y) hyr.2 hys (by omega);have hgl:=hSr.lt;obtain⟨w3,ew3⟩:∃ w3,w3=(setBlock wr w.heap.size o').alloc (.cells #[.int .i64 y] 3):=⟨_,rfl⟩
         have z3':w3.heap.size=wr.heap.size+1:=by rw[ew3];simp[Qq]
         have b3:∀ k,k<wr.heap.size→k≠w.heap.size→w3.heap[k]? = wr.heap[k]?:=fun k hk hne=>by
          rw[ew3,heap_alloc_old _ _ (by rw[Qq];exact hk),JF hne]
         have n3:w3.heap[wr.heap.size]? = some (.cells #[.int .i64 y] 3 (0,0)):=by
          have:=heap_alloc_new (setBlock wr w.heap.size o') (.cells #[.int .i64 y] 3);rw[Qq]at this;rw[ew3];exact this
         have hS4:SeenAt w3 w.heap.size (seen2++[y]):=hS3.of (by rw[ew3,heap_alloc_old _ _ (by rw[Qq];exact hgl)])
         have hQ4:RowN w3 (w.heap.size+1) u6 qs2:=hQr.kept (by omega) fun k hk hkB=>b3 k hk (by omega)
         have hO4:RowN w3 (w.heap.size+1) (.slice (some ⟨og,oo,none⟩) out.length oc) out:=hOr.kept (by omega) fun k hk hkB=>b3 k hk (by omega)
         have B3:Below w.heap.size w w3:=by
          refine⟨by rw[ew3];exact hBr.os,by rw[ew3];exact hBr.tape,by rw[ew3];exact hBr.output,by have:=hBr.size;omega,fun k hk=>?_⟩;rw[b3 k (by have:=hBr.size;omega) (by omega)];exact hBr.block k hk
         have hll:qs2.length≤1000000000:=by have:=HI.out.len;omega
         have hbase:w.heap.size+1≤w3.heap.size:=by omega
         have hsz:(setBlock wr w.heap.size o').heap.size=wr.heap.size:=Qq;obtain⟨ua,uc,rfl⟩:=hQr.form;have W3:=(show Hid (w3=_) from ew3);rw[ew3]at n3 hQ4 hbase;have B3:=(show Hid _ from B3);have S4:=(show Hid _ from hS4);have O4:=(show Hid _ from hO4);clear hys hd hSr hed hS3 hS4 hO4 ew3 b3 hgl hOr hQr
         go_wp2_with (first | (at_builtin;refine XH rfl (.tmp 53) (.tmp 55) (by rfl) (by rfl) (by rfl) hQ4 n3 hll hbase ?_;intro g5 off5 cap5 w5 ho5 a1 a2 a3 a4 a5 a6 a7;rw[← W3.out]at a1 a2 a3 a4 a5 a6 a7) | fail)
         go_roundg (out.length - (k+1))
         case measure=>omega
         case rel =>
          have hBs:=B3.out.size;refine⟨k+1,qs2++[y],seen2++[y],by go_num,by omega,⟨a1.trans B3.out.os,a2.trans B3.out.tape,a3.trans B3.out.output,by omega,fun k hk=>by rw[a5 k (by omega) (by omega)];exact B3.out.block k hk⟩,ho5,fun g0 e e2=>?_,SeenAt.of S4.out (a5 _ (SeenAt.lt S4.out) (by omega)),RowN.kept' O4.out a4 fun k hk hc=>?_,by rw[htk];exact HI4.out,by simp;omega,by simp;omega⟩
          ·cases e
           rcases a7 with e3 | e3
           ·exact hapr _ e3 e2
           ·cases e2;omega
          ·obtain⟨cs,ty,hc⟩:=hc
           exact a6 k (lt_of_block hc) fun e=>hapr _ e hk
      ·have hke:k=out.length:=by omega
       subst hke;rw[List.take_length]at hIr
       have hI5:=hIr.close fun y hy=>(hm2 y).2 ((HED.out y).1 hy)
       have HI5:=(show Hid _ from hI5);have HSR:=(show Hid _ from hSr);clear hI5 hIr hSr
       go_wp2
       go_roundg (qs2.length+2 * (6 - seen2.length))
       case measure=>exact HN.out _ _ HI5.out hqs hss
       case rel=>exact⟨qs2,seen2,rfl,by omega,hBr,hQr,HSR.out,HI5.out⟩
end Go.Proofs
namespace Go.Proofs
open Go.RowKit Go.AM
open Go.ChangeMaps (setBlock)
theorem Uh {ops:Array Oper} {rest:List Oper} {o:Oper} {a:Act} {w:World} {Q:Exit→Act→World→Prop} (hgd:o.guard=none) (s x:Operand) (ho:o.op=.call { callee:=.builtin .append,args:=#[s,x],argTypes:=#[24,24] }) {L:Nat→Nat} {v:Value} {n:Nat} {xs:List Value} {f:Int} {b c0:Nat} {fz:Nat×Nat}
    (hs:a.eval s=v) (hx:a.eval x=.slice (some ⟨b,0,none⟩) 1 c0) (hown:RowT w L 4 3 1 v n xs) (hi:∀ k,w.heap.size≤k→L k=0) (hb:w.heap[b]? = some (.cells #[.int .i64 f] 3 fz)) (hlen:n≤1000000000)
    (h:∀ g off cap w' L',RowT w' L' 4 3 1 (.slice (some ⟨g,off,none⟩) (n+1) cap) (n+1) (xs++[.int .i64 f])→Grw 4 L L' w w'→wpList Try.prog ops Q rest (a.put o.dst (.slice (some ⟨g,off,none⟩) (n+1) cap)) w'):wpList Try.prog ops Q (o::rest) a w :=
  QQ hgd s x 24 ho hi (by decide) 3 _ 1 8 Try.underlying24 Try.infoInt rfl (by decide) hs hown (ad:=⟨b,0,none⟩) (news:=[.int .i64 f]) hx rfl (B5 hb) (by simp[Value.oneCell']) (by simp only[maxLen];omega) (by omega) h
theorem Vr (n:Nat) (s:LS) (t:Int) (rel:Bool) (r:LS×Bool) (h:goOnL (n+1) s t rel=some r) :
    (s.wt t=[]∧r=(s,rel))∨∃ p rest,s.wt t=p::rest∧((Stuck s p.1∧ReachL s t t∧r=(abortL s t,true))∨(Stuck s p.1∧¬ ReachL s t t∧r=(s,rel))∨(¬ Stuck s p.1∧goOnL n (doL s t p.1 rest) t (rel || decide (1<p.1.qh))=some r)):=by
  unfold goOnL at h
  cases hw:s.wt t with
  | nil=>rw[hw]at h;exact .inl ⟨rfl,(Option.some.inj h).symm⟩
  | cons p rest =>
    rw[hw]at h;right;refine⟨p,rest,rfl,?_⟩;simp only at h;split at h
    · rename_i h1
      split at h
      · rename_i h2;exact .inl ⟨h1,h2,(Option.some.inj h).symm⟩
      · rename_i h2;exact .inr (.inl ⟨h1,h2,(Option.some.inj h).symm⟩)
    · rename_i h1;exact .inr (.inr ⟨h1,h⟩)
set_option maxHeartbeats 4000000 in
theorem Try.goOn69 {N base br:Nat} {w:World} {L:Nat→Nat} {G:Gst} {s:LS} (h:RunB base br w L G s) (hs:OkS N s) (hN:N≤1000000) {t:Int} (h1:1≤t) (h6:t≤6) {n:Nat} {r:LS×Bool} (hr:goOnL n s t false=some r) :
    Calls Try.prog 69 #[.pointer (some ⟨br,0,none⟩),.int .i64 t] w fun e w'=>e=.returned (.bool r.2)∧LkPost base br w L r.1 w':=by
  have mixed:=mixedP;have t3:=Try.underlying3;have a3:=Try.isAgg3;have z3:=Try.sizeOf3;have v3:=Try.zeroValue3;have u3:=run_underlying Try.underlying3;have t4:=Try.underlying4;have a4:=Try.isAgg4;have z4:=Try.sizeOf4;have v4:=Try.zeroValue4;have t24:=Try.underlying24;have a24:=Try.isAgg24;have z24:=Try.sizeOf24;have v24:=Try.zeroValue24;have u24:=run_underlying Try.underlying24;have t29:=Try.underlying29;have a29:=Try.isAgg29;have z29:=Try.sizeOf29;have v29:=Try.zeroValue29;have u29:=run_underlying Try.underlying29;have t44:=Try.underlying44;have a44:=Try.isAgg44;have z44:=Try.sizeOf44;have v44:=Try.zeroValue44;have u44:=run_underlying Try.underlying44;have t96:=Try.underlying96;have a96:=Try.isAgg96;have z96:=Try.sizeOf96;have u96:=run_underlying Try.underlying96;have t101:=Try.underlying101;have a101:=Try.isAgg101;have z101:=Try.sizeOf101;have u101:=run_underlying Try.underlying101;have t102:=Try.underlying102;have a102:=Try.isAgg102;have z102:=Try.sizeOf102;have v102:=Try.zeroValue102;have u102:=run_underlying Try.underlying102;have t104:=Try.underlying104;have a104:=Try.isAgg104;have z104:=Try.sizeOf104;have u104:=run_underlying Try.underlying104;have HR:=(show Hid _ from hr);have HH:=(show Hid _ from h);clear hr h
  go_enter Try.func69,Try.ntmps69
  go_wp2_with fail
  go_loopg [5] n (fun gf s5 wx=>∃ (s':LS) (rel:Bool) (L':Nat→Nat) (G':Gst),s5=.bool rel∧RunB base br wx L' G' s'∧OkS N s'∧Mvs L L' w wx∧goOnL gf s' t rel=some r)
  case atStart=>exact⟨s,false,L,G,rfl,HH.out,hs,Mvs.refl _ _,HR.out⟩
  case round =>
    clear HR HH hs s G;obtain⟨s,rel,L1,G,rfl,hR,hs,hM,hgo⟩:=hrel;obtain⟨v,hlk,hrow⟩:=hR.row (by omega:0≤t) h6;have hlk:=hlk wr rfl;have qw:wr.cell? ⟨br,14,none⟩=some (.map (some G.gw)):=hR.cell_wt
    cases gk with
    | zero=>cases hgo
    | succ gk =>
      rcases Vr gk s t rel r hgo with ⟨hw,hre⟩ | ⟨⟨⟨tx,kx,ix⟩,pa⟩,rest,hw,hcase⟩
      · rw[hw]at hrow
        obtain⟨ra,rc,rfl⟩:=hrow.form;have HM:=(show Hid _ from hM);clear hgo hrow hw hM
        go_wp2_with fail
        go_ret
        rw[hre];exact⟨rfl,L1,G,hR,HM.out⟩
      · rw[hw]at hrow
        obtain⟨rg,ro,rc,rfl,_,hrgl,_⟩:=hrow.formp (by simp);have c1:wr.cell? ⟨rg,ro+1,none⟩=some (.int .i64 kx):=hrow.cell (j:=1) rfl
        have hl0:(0:Int)<((rest.length:Int)+1):=by omega
        have c96:=Try.try96 hR hs hN hw;have HC:=(show Hid _ from hcase);have HM:=(show Hid _ from hM);clear hcase hgo hrow hM
        go_wp2_with fail
        refine Calls.mono c96 ?_
        rintro e w2 (⟨hst,rfl,L2,G2,h2,M2⟩ | ⟨hst,rfl,L2,G2,h2,M2⟩)
        ·
          have c97:=Try.circle97 h2 hs h1 h6;clear c96 hlk qw c1
          go_wp2_with fail
          refine Calls.mono c97 ?_
          rintro e w3 ⟨⟨hrc,rfl⟩ | ⟨hrc,rfl⟩,B3⟩
          · have hre:r=(abortL s t,true):=by
              rcases HC.out with h | h | h
              · exact h.2.2
              · exact absurd hrc h.2.1
              · exact absurd hst h.1
            have M3:Mvs L L2 w w3:=(HM.out.trans M2).trans (Mvs.of_below B3);have h3:=h2.below B3;obtain⟨w4,ew4⟩:∃ w4,w4=w3.alloc (.cells #[.int .i64 t,.int .i64 3,.int .i64 0] 44):=⟨_,rfl⟩
            have h4:RunB base br w4 L2 G2 s:=by rw[ew4];exact h3.alloc _
            have M4:Mvs L L2 w w4:=by rw[ew4];exact M3.alloc _
            have n4:w4.heap[w3.heap.size]? = some (.cells #[.int .i64 t,.int .i64 3,.int .i64 0] 44 (0,0)):=by rw[ew4];exact heap_alloc_new w3 _
            have hdl:s.done.length≤1000000000:=by have:=hs.tot;omega
            have hal:s.ab.length≤1000000000:=by have:=hs.abl;omega
            have qd:w3.cell? ⟨br,12,none⟩=some G2.dv:=h3.cell_done;have r4:=h4.done;have i4:=h4.hi;have W4:=(show Hid (w4=_) from ew4);rw[ew4]at r4 n4 i4;have H4:=(show Hid _ from h4);have HS:=(show Hid _ from hs);clear c97 B3 M2 h2 h3 h4 ew4 M3 HM HC hs hw
            go_wp2_with (first
              | (at_builtin;refine Ug (f:=⟨t,3,0⟩) rfl (.tmp 40) (.tmp 43) (by rfl) (by rfl) (by rfl) r4 i4 n4 hdl ?_;intro g5 off5 cap5 w5 L5 r5 g5';rw[← W4.out]at g5'
                 have nb5:w5.heap[br]? = some (.cells (Jl G2 s) 101 (0,0)):=(g5'.oth br H4.out.lt (by rw[H4.out.lbr];decide)).trans H4.out.blk
                 have d1:w5.frozen? ⟨br,12,none⟩=false:=by simp[World.frozen?,nb5]
                 have d2:w5.cell? ⟨br,12,none⟩=some G2.dv:=by simp[World.cell?,nb5,Jl]
                 obtain⟨hC,MC⟩:=H4.out.pushDone (o:=⟨t,3,0⟩) g5' r5;obtain⟨GC,eGC⟩:∃ GC:Gst,GC={ G2 with dv:=.slice (some ⟨g5,off5,none⟩) (s.done.length+1) cap5 }:=⟨_,rfl⟩;rw[← eGC]at hC;obtain⟨sC,esC⟩:∃ sC:LS,sC={ s with done:=s.done++[⟨t,3,0⟩] }:=⟨_,rfl⟩;rw[← esC]at hC
                 have halC:sC.ab.length≤1000000000:=by rw[esC];exact hal
                 have ESC:=(show Hid _ from esC);clear esC eGC nb5;have qC:=hC.cell_ab;have hD:=hC.alloc (.cells #[.int .i64 t] 3);have rD:=hD.ab;have iD:=hD.hi
                 have nD:((w5.setCell ⟨br,12,none⟩ (.slice (some ⟨g5,off5,none⟩) (s.done.length+1) cap5)).alloc (.cells #[.int .i64 t] 3)).heap[w5.heap.size]? = some (.cells #[.int .i64 t] 3 (0,0)):=(by
                   have:=heap_alloc_new (w5.setCell ⟨br,12,none⟩ (.slice (some ⟨g5,off5,none⟩) (s.done.length+1) cap5)) (.cells #[.int .i64 t] 3);rw[YP]at this
                   exact this))
              | (at_builtin;go_loud (refine Uh (f:=t) rfl (.tmp 51) (.tmp 53) (by rfl) (by rfl) (by rfl) rD iD nD halC ?_);intro g6 off6 cap6 w6 L6 r6 g6'
                 have nb6:w6.heap[br]? = some (.cells (Jl GC sC) 101 (0,0)):=(g6'.oth br hD.lt (by rw[hD.lbr];decide)).trans hD.blk
                 have d3:w6.frozen? ⟨br,13,none⟩=false:=by simp[World.frozen?,nb6]
                 have d4:w6.cell? ⟨br,13,none⟩=some GC.av:=by simp[World.cell?,nb6,Jl]
                 obtain⟨hE,ME⟩:=hD.pushAb (t:=t) g6' r6;obtain⟨GE,eGE⟩:∃ GE:Gst,GE={ GC with av:=.slice (some ⟨g6,off6,none⟩) (sC.ab.length+1) cap6 }:=⟨_,rfl⟩;rw[← eGE]at hE;obtain⟨sE,esE⟩:∃ sE:LS,sE={ sC with ab:=sC.ab++[t] }:=⟨_,rfl⟩;rw[← esE]at hE;have ESE:=(show Hid _ from esE);clear esE eGE nb6;have qE:=hE.cell_wt;obtain⟨o7,G7,hup7,hput7⟩:=hE.putW h1 h6 (w1:=w6.setCell ⟨br,13,none⟩ (.slice (some ⟨g6,off6,none⟩) (sC.ab.length+1) cap6)) (L1:=L6) ⟨Mvs.refl _ _,fun _ _=>rfl,fun _ _ _=>rfl,fun k e1 e2=>absurd (hE.hi k e1) e2⟩ (xs:=[]) (RowT.nil _ _ _ _ _);have hup8:=hup7 _ rfl
                 obtain⟨h8,M8⟩:=hput7 _ rfl)
              | fail)
            have c98:=Try.release98 h8 h1 h6;refine Calls.mono c98 ?_
            rintro e w9 ⟨rfl,L9,G9,h9,M9⟩
            go_wp2_with fail
            go_ret
            rw[hre]
            have hab:abortL s t=relL (putW sE t []) t:=by rw[ESE.out,ESC.out];rfl
            exact⟨rfl,L9,G9,by rw[hab];exact h9,((((M4.trans MC).trans ((Mvs.refl _ _).alloc _)).trans ME).trans M8).trans M9⟩
          · have hre:r=(s,rel):=by
              rcases HC.out with h | h | h
              · exact absurd h.2.1 hrc
              · exact h.2.2
              · exact absurd hst h.1
            have h3:=h2.below B3;have M3:Mvs L L2 w w3:=(HM.out.trans M2).trans (Mvs.of_below B3);clear c97
            go_wp2_with fail
            go_ret
            rw[hre];exact⟨rfl,L2,G2,h3,M3⟩
        ·
          have hgo2:goOnL gk (doL s t ⟨tx,kx,ix⟩ rest) t (rel || decide (1<kx))=some r:=by
            rcases HC.out with h | h | h
            · exact absurd h.1 hst
            · exact absurd h.1 hst
            · exact h.2
          have hs2:=hs.doL hw;have HG:=(show Hid _ from hgo2);have M2':Mvs L L2 w w2:=HM.out.trans M2;clear hgo2 c96 hlk qw c1 HC HM hw;cases rel
          all_goals
            go_wp2_with fail
            go_roundg gk
            case measure=>omega
            case rel=>exact⟨_,_,L2,G2,by simp,h2,hs2,M2',HG.out⟩
end Go.Proofs
namespace Go.Proofs
open Go.RowKit Go.AM
open Go.ChangeMaps (setBlock)
def BestIn (s:LS) (S:List Int) (b:Int):Prop:=(b=0∧∀ t,t∈S→¬ CanL s t)∨(b≠0∧CanL s b∧∀ t,t∈S→CanL s t→atL s b≤atL s t)
theorem BestIn.all {s:LS} {S:List Int} {b:Int} (h:BestIn s S b) (hS:∀ t,s.wt t≠[]→t∈S):BestL s b:=by
 have hc:∀ t,CanL s t→t∈S:=fun t ⟨p,r,e,_⟩=>hS t (by rw[e];simp)
 rcases h with ⟨h1,h2⟩ | ⟨h1,h2,h3⟩
 ·exact .inl ⟨h1,fun t ht=>h2 t (hc t ht) ht⟩
 ·exact .inr ⟨h1,h2,fun t ht=>h3 t (hc t ht) ht⟩
theorem BestIn.skip {s:LS} {S:List Int} {b f:Int} (h:BestIn s S b) (hf:¬ CanL s f):BestIn s (f::S) b:=by
 rcases h with ⟨h1,h2⟩ | ⟨h1,h2,h3⟩
 ·refine .inl ⟨h1,fun t ht=>?_⟩
  rcases List.mem_cons.1 ht with e | e
  ·rw[e];exact hf
  ·exact h2 t e
 ·refine .inr ⟨h1,h2,fun t ht hc=>?_⟩
  rcases List.mem_cons.1 ht with e | e
  ·rw[e]at hc;exact absurd hc hf
  ·exact h3 t e hc
theorem BestIn.put {s:LS} {S:List Int} {b f:Int} (h:BestIn s S b) (hf:CanL s f) (h0:f≠0) (hb:b=0∨atL s f<atL s b):BestIn s (f::S) f:=by
 refine .inr ⟨h0,hf,fun t ht hc=>?_⟩
 rcases List.mem_cons.1 ht with e | e
 ·rw[e];exact Int.le_refl _
 ·rcases h with ⟨h1,h2⟩ | ⟨h1,h2,h3⟩
  ·exact absurd hc (h2 t e)
  ·have:=h3 t e hc
   rcases hb with h | h
   ·exact absurd h h1
   ·omega
theorem BestIn.keep {s:LS} {S:List Int} {b f:Int} (h:BestIn s S b) (h0:b≠0) (hb:¬ atL s f<atL s b):BestIn s (f::S) b:=by
 rcases h with ⟨h1,h2⟩ | ⟨h1,h2,h3⟩
 ·exact absurd h1 h0
 ·refine .inr ⟨h1,h2,fun t ht hc=>?_⟩
  rcases List.mem_cons.1 ht with e | e
  ·rw[e];omega
  ·exact h3 t e hc
theorem WtB.entry {w:World} {L:Nat→Nat} {gw:Nat} {es:Array MapEntry} {ck:Nat} {bl:List (Int×List (hsOp×Int))} (h:WtB w L gw es ck bl) {e:MapEntry} (he:e∈es.toList) {f:Int} (hk:e.key=.int .i64 f) :
  1≤f∧f≤6∧RowT w L (20+f.toNat) 104 4 e.val (mget keq1 [] f bl).length (heldC (mget keq1 [] f bl)):=by
 obtain⟨j,hj,hje⟩:=List.getElem_of_mem he
 have hj':es[j]? = some e:=by
  have:j<es.size:=by simpa using hj
  rw[Array.getElem?_eq_getElem this,← hje];simp
 have hsz:es.size=bl.length:=by have:=h.ent.2.2.1;simpa[kH] using this.symm
 obtain⟨p,hp⟩:∃ p,bl[j]? = some p:=by
  have:=(Array.getElem?_eq_some_iff.1 hj').1;exact⟨_,B0 (by omega)⟩
 have h8:=h.ent.2.2.2.2.1 j (AV.int .i64 p.1) e (by simp[kH,hp]) hj';simp only[AV.keyV]at h8
 have hpf:p.1=f:=by
  split at h8
  ·have:=Option.some.inj h8;rw[hk]at this;cases this;rfl
  ·cases h8
 have hpm:=A5 hp;have hr:=h.rng p hpm;have hrow:=h.row j p e hp hj';rw[← NQ [] bl p h.nd hpm,hpf]at hrow;rw[hpf]at hr;exact⟨hr.1,hr.2,hrow⟩
theorem WtB.iter {w:World} {L:Nat→Nat} {gw:Nat} {es:Array MapEntry} {ck:Nat} {bl:List (Int×List (hsOp×Int))} (h:WtB w L gw es ck bl) :
  ∃ ob,(Instr.range 96 (.map (some gw))).run Try.prog w=.ok (.pointer (some ⟨w.heap.size,0,none⟩)) (w.alloc ob)∧IterZ (w.alloc ob) w.heap.size gw es ck (bl.map A0):=by
 refine⟨_,run_range_map w 96 3 102 gw es ck Try.underlying96 h.at',IterZ.start (heap_alloc_new _ _) ?_ fun j f e hf he=>?_⟩
 ·have:=h.ent.2.2.1;simp[kH]at this ⊢;omega
 ·rw[List.getElem?_map,Option.map_eq_some_iff]at hf;obtain⟨p,hp,rfl⟩:=hf;have h8:=h.ent.2.2.2.2.1 j (AV.int .i64 p.1) e (by simp[kH,hp]) he;simp only[AV.keyV]at h8;split at h8
  ·exact (Option.some.inj h8).symm
  ·cases h8
theorem RunB.wt_keys {base br:Nat} {w:World} {L:Nat→Nat} {G:Gst} {s:LS} (h:RunB base br w L G s):∀ t,s.wt t≠[]→t∈G.bl.map A0:=by
 intro t ht;rw[h.hwt t]at ht
 rcases Yp t G.bl with ⟨j,l,a1,a2,a3,a4⟩ | ⟨a1,a2,a0,a3⟩
 ·exact List.mem_map.2 ⟨_,A5 a2,rfl⟩
 ·exact absurd a2 ht
theorem UM (m n:Nat) (s s2:LS) (h:retryL m (n+1) s=some s2):(bestL s=0∧s2=s)∨(bestL s≠0∧∃ r,goOnL m s (bestL s) false=some r∧retryL m n r.1=some s2):=by
 unfold retryL at h;split at h
 ·rename_i h1;exact .inl ⟨h1,(Option.some.inj h).symm⟩
 ·rename_i h1;obtain⟨r,h2,h3⟩:=qj h;exact .inr ⟨h1,r,h2,h3⟩
set_option maxHeartbeats 1000000 in
theorem Try.retry70 {N base br:Nat} {w:World} {L:Nat→Nat} {G:Gst} {s:LS} (h:RunB base br w L G s) (hs:OkS N s) (hN:N≤1000000) {m n:Nat} {s2:LS} (hr:retryL m n s=some s2) :
  Calls Try.prog 70 #[.pointer (some ⟨br,0,none⟩)] w fun e w'=>e=retU∧LkPost base br w L s2 w'∧OkS N s2:=by
 have mixed:=mixedP;have t3:=Try.underlying3;have a3:=Try.isAgg3;have z3:=Try.sizeOf3;have v3:=Try.zeroValue3;have u3:=run_underlying Try.underlying3;have t4:=Try.underlying4;have a4:=Try.isAgg4;have z4:=Try.sizeOf4;have v4:=Try.zeroValue4;have t24:=Try.underlying24;have a24:=Try.isAgg24;have z24:=Try.sizeOf24;have v24:=Try.zeroValue24;have u24:=run_underlying Try.underlying24;have t44:=Try.underlying44;have a44:=Try.isAgg44;have z44:=Try.sizeOf44;have v44:=Try.zeroValue44;have u44:=run_underlying Try.underlying44;have t96:=Try.underlying96;have a96:=Try.isAgg96;have z96:=Try.sizeOf96;have u96:=run_underlying Try.underlying96;have t101:=Try.underlying101;have a101:=Try.isAgg101;have z101:=Try.sizeOf101;have u101:=run_underlying Try.underlying101;have t102:=Try.underlying102;have a102:=Try.isAgg102;have z102:=Try.sizeOf102;have v102:=Try.zeroValue102;have u102:=run_underlying Try.underlying102;have t104:=Try.underlying104;have a104:=Try.isAgg104;have z104:=Try.sizeOf104;have u104:=run_underlying Try.underlying104;have HR:=(show Hid _ from hr);have HH:=(show Hid _ from h);clear hr h
 go_enter Try.func70,Try.ntmps70
 go_wp2_with fail
 go_loopg [] n (fun gf wx=>∃ (s':LS) (L':Nat→Nat) (G':Gst),RunB base br wx L' G' s'∧OkS N s'∧Mvs L L' w wx∧retryL m gf s'=some s2)
 case atStart=>exact⟨s,L,G,HH.out,hs,Mvs.refl _ _,HR.out⟩
 case round =>
  clear HR HH hs s G;obtain⟨s,L1,G,hR,hs,hM,hgo⟩:=hrel
  cases gk with
  | zero=>cases hgo
  | succ gq =>
   obtain⟨w7,rfl⟩:∃ w7,w7=wr:=⟨_,rfl⟩;have qw:w7.cell? ⟨br,14,none⟩=some (.map (some G.gw)):=hR.cell_wt;obtain⟨ob,hrg,hit⟩:=hR.wt.iter;have HGO:=(show Hid _ from UM _ _ _ _ hgo);have HM:=(show Hid _ from hM);have hst:=hR.wt.ent.1;have hnd:=hR.wt.nd;have hat:=hR.wt.at';have hgl:=hR.wt.lt;obtain⟨w8,ew8⟩:∃ w8,w8=w7.alloc ob:=⟨_,rfl⟩
   have z8:w8.heap.size=w7.heap.size+1:=by rw[ew8];simp
   have B8:Below w7.heap.size w7 w8:=by rw[ew8];exact (Below.refl _ _).alloc (A2 _) _
   have hit:IterZ w8 w7.heap.size G.gw G.es G.ck (G.bl.map A0):=by rw[ew8];exact hit
   have HW8:=(show Hid (w8=_) from ew8);clear hgo hM ew8
   go_wp2_with fail
   rw[← HW8.out]
   go_loopg [2] (G.bl.map A0).length (fun gi s2' wx=>∃ (rem S:List Int) (b:Int),s2'=.int .i64 b∧rem.length=gi∧Below w7.heap.size w7 wx∧w8.heap.size≤wx.heap.size∧IterZ wx w7.heap.size G.gw G.es G.ck rem∧rem.Nodup∧(∀ t,t∈G.bl.map A0→t∈S∨t∈rem)∧BestIn s S b)
   case atStart=>exact⟨_,[],0,rfl,rfl,B8,A2 _,hit,hnd,fun t ht=>.inr ht,.inl ⟨rfl,fun t ht=>(by cases ht)⟩⟩
   case round =>
    obtain⟨rem,S,b,rfl,hgi,hBr,hzr,hir,hndr,hcov,hbest⟩:=hrel;have hRr:=hR.below hBr;have hatr:wr.heap[G.gw]? = some (.map G.es G.ck):=hRr.wt.at'
    rcases hir.next hatr hst with ⟨rfl,hnx⟩ | ⟨j,f,e,wn,hj,hem,hek,hnx,hgn,hzn,hin,hent⟩
    ·have hBL:BestL s b:=hbest.all fun t ht=>by
      rcases hcov t (hR.wt_keys t ht) with h | h
      ·exact h
      ·cases h
     have hbe:=qeP hs hBL;by_cases hb0:b=0
     ·have hs2:s2=s:=by
       rcases HGO.out with h | h
       ·exact h.2
       ·exact absurd (hbe.trans hb0) h.1
      clear hbest hcov hBL hbe hir
      go_wp2_with fail
      refine bodyPost_ret (results_none rfl _ _ _) rfl ?_;refine⟨rfl,⟨L1,G,by rw[hs2];exact hRr,HM.out.trans (Mvs.of_below hBr)⟩,by rw[hs2];exact hs⟩
     ·obtain⟨r,hg1,hg2⟩:∃ r,goOnL m s b false=some r∧retryL m gq r.1=some s2:=by
       rcases HGO.out with h | h
       ·exact absurd (hbe.symm.trans h.1) hb0
       ·rw[hbe]at h;exact h.2
      have hrng:1≤b∧b≤6:=by
       rcases hBL with h | h
       ·exact absurd h.1 hb0
       ·obtain⟨p,q,e,_⟩:=h.2.1;exact hs.wtk b (by rw[e];simp)
      have c69:=Try.goOn69 hRr hs hN hrng.1 hrng.2 hg1;have hs3:=OkS.goOn _ _ _ _ _ hs hg1;have HG2:=(show Hid _ from hg2);clear hbest hcov hBL hbe hir hg1 hg2
      go_wp2_with fail
      refine Calls.mono c69 ?_
      rintro e w9 ⟨rfl,L9,G9,h9,M9⟩
      clear c69
      go_wp2_with fail
      go_roundg gq
      case measure=>omega
      case rel=>exact⟨_,L9,G9,h9,hs3,(HM.out.trans (Mvs.of_below hBr)).trans M9,HG2.out⟩
    ·obtain⟨d1,d2,d3⟩:=qbJ hndr hj
     have Bn:Below w7.heap.size w7 wn:=⟨hgn.os.trans hBr.os,hgn.tape.trans hBr.tape,hgn.output.trans hBr.output,by have:=hBr.size;omega,fun k hk=>by
      rw[hgn.block k (by have:=hBr.size;omega) (fun e=>by cases e;omega)];exact hBr.block k hk⟩
     have hRn:=hR.below Bn;have hen:=hent wn rfl hRn.wt.at';obtain⟨hf1,hf6,hrow⟩:=hRn.wt.entry hem hek;rw[← hRn.hwt f]at hrow
     have hcov2:∀ t,t∈G.bl.map A0→t∈f::S∨t∈rem.eraseIdx j:=fun t ht=>by
      rcases hcov t ht with h | h
      ·exact .inl (.tail _ h)
      ·by_cases e:t=f
       ·rw[e];exact .inl (.head _)
       ·exact .inr ((d2 t).2 ⟨e,h⟩)
     have HB:=(show Hid _ from hbest);have HCOV:=(show Hid _ from hcov2);generalize e.val=ev at *
     have hB0:0≤b∧b≤6:=by
      rcases hbest with h | h
      ·omega
      ·obtain⟨p,q,e,_⟩:=h.2.1;have:=hs.wtk b (by rw[e];simp);omega
     clear hcov hcov2 hbest hir hgn
     cases hwf:s.wt f with
     | nil =>
      rw[hwf]at hrow;obtain⟨ra,rc,rfl⟩:=hrow.form
      have hnc:¬ CanL s f:=fun ⟨p,q,e,_⟩=>by rw[hwf]at e;cases e
      clear hrow hwf
      go_wp2_with fail
      go_quiet (fail)
      go_wp2_with fail
      go_roundg (rem.eraseIdx j).length
      case measure=>omega
      case rel=>exact⟨rem.eraseIdx j,f::S,b,rfl,rfl,⟨Bn.os,Bn.tape,Bn.output,Bn.size,Bn.block⟩,by show w8.heap.size≤wn.heap.size;omega,hin.of rfl,d1,HCOV.out,BestIn.skip HB.out hnc⟩
     | cons p rest =>
      obtain⟨⟨tx,kx,ix⟩,pa⟩:=p;have hop:=hs.wto f _ (by rw[hwf];exact .head _);rw[hwf]at hrow;obtain⟨rg,ro,rc,rfl,_,hrgl,_⟩:=hrow.formp (by simp)
      have c0:∀ d,({ wn with drawn:=d }:World).cell? ⟨rg,ro,none⟩=some (.int .i64 tx):=fun d=>hrow.cell (j:=0) rfl
      have c1:∀ d,({ wn with drawn:=d }:World).cell? ⟨rg,ro+1,none⟩=some (.int .i64 kx):=fun d=>hrow.cell (j:=1) rfl
      have c2:∀ d,({ wn with drawn:=d }:World).cell? ⟨rg,ro+2,none⟩=some (.int .i64 ix):=fun d=>hrow.cell (j:=2) rfl
      have c3:wn.cell? ⟨rg,ro+3,none⟩=some (.int .i64 pa):=hrow.cell (j:=3) rfl;have hrgl7:rg<wn.heap.size:=hrgl;have C3:=(show Hid _ from c3)
      have hrl:(0:Int)<((rest.length:Int)+1):=by omega
      clear c3;have hne0:(((rest.length:Int)+1) == 0)=false:=beq_eq_false_iff_ne.2 (by omega)
      have hne1:¬ ((rest.length:Int)+1=0):=by omega
      have hat:atL s f=pa:=by unfold atL;rw[hwf]
      have hHW:=(show Hid _ from hwf);have hOP:=(show Hid _ from hop);have hAT:=(show Hid _ from hat);clear hwf hrow hop hat;by_cases hk:kx≤1
      case' neg =>
       have hcan:CanL s f:=⟨_,_,hHW.out,fun h=>hk h.1⟩;have hk':decide (kx≤1)=false:=decide_eq_false hk
       go_wp2_with fail
       go_quiet (fail)
       obtain⟨wZ,ewZ⟩:∃ wZ,wZ=wn.drewN nq:=⟨_,rfl⟩;rw[← ewZ]
       have BZ:Below w7.heap.size w7 wZ:=by rw[ewZ];exact⟨Bn.os,Bn.tape,Bn.output,Bn.size,Bn.block⟩
       have zZ:w8.heap.size≤wZ.heap.size:=by rw[ewZ];show w8.heap.size≤wn.heap.size;omega
       have iZ:IterZ wZ w7.heap.size G.gw G.es G.ck (rem.eraseIdx j):=by rw[ewZ];exact hin.of rfl
       have c3:wZ.cell? ⟨rg,ro+3,none⟩=some (.int .i64 pa):=by rw[ewZ];exact C3.out
       clear ewZ
      case' pos =>
       have hk':decide (kx≤1)=true:=dT hk;have c99:=Try.hinders99 hRn.drew hs hOP.out.1;have K0:wn.drew.cell? ⟨rg,ro,none⟩=some (.int .i64 tx)∧wn.drew.cell? ⟨rg,ro+1,none⟩=some (.int .i64 kx)∧wn.drew.cell? ⟨rg,ro+2,none⟩=some (.int .i64 ix):=⟨c0 _,c1 _,c2 _⟩
       go_wp2_with fail
       go_region_held3 (fun w'=>w'.cell? ⟨rg,ro,none⟩=some (.int .i64 tx)∧w'.cell? ⟨rg,ro+1,none⟩=some (.int .i64 kx)∧w'.cell? ⟨rg,ro+2,none⟩=some (.int .i64 ix)) (first | exact K0 | exact K1)
        (first | (go_at_call 99;refine Calls.mono c99 ?_;rintro e w2 ⟨hv,out,rfl,B2,R2,hl2,hm2⟩;obtain⟨oa,oc,rfl⟩:=R2.form;have K1:w2.cell? ⟨rg,ro,none⟩=some (.int .i64 tx)∧w2.cell? ⟨rg,ro+1,none⟩=some (.int .i64 kx)∧w2.cell? ⟨rg,ro+2,none⟩=some (.int .i64 ix):=⟨(A1 (B2.block rg hrgl)).trans (c0 _),(A1 (B2.block rg hrgl)).trans (c1 _),(A1 (B2.block rg hrgl)).trans (c2 _)⟩))
       have BZ:Below w7.heap.size w7 w2:=⟨B2.os.trans Bn.os,B2.tape.trans Bn.tape,B2.output.trans Bn.output,Nat.le_trans Bn.size B2.size,fun k hk=>by
        have h9:k<wn.drew.heap.size:=Nat.lt_of_lt_of_le hk Bn.size
        rw[B2.block k h9];exact Bn.block k hk⟩
       have zZ:w8.heap.size≤w2.heap.size:=by have h9:wn.heap.size≤w2.heap.size:=B2.size;omega
       have iZ:IterZ w2 w7.heap.size G.gw G.es G.ck (rem.eraseIdx j):=hin.of (B2.block _ (show w7.heap.size<wn.heap.size from hin.lt));have c3:w2.cell? ⟨rg,ro+3,none⟩=some (.int .i64 pa):=(A1 (B2.block rg hrgl)).trans C3.out;obtain⟨wZ,rfl⟩:∃ wZ,wZ=w2:=⟨_,rfl⟩;by_cases hout:out=[]
       case neg =>
        have hpos:(0:Int)<(out.length:Int):=by have:=List.length_pos_iff.2 hout;omega
        have hnc:¬ CanL s f:=fun ⟨p,q,e,hn⟩=>by
         rw[hHW.out]at e;cases e
         cases out with
         | nil=>exact hout rfl
         | cons y ys=>exact hn ⟨hk,y,(hm2 y).1 (.head _)⟩
        clear hout
        go_wp2_with fail
        go_roundg (rem.eraseIdx j).length
        case measure=>omega
        case rel=>exact⟨rem.eraseIdx j,f::S,b,rfl,rfl,BZ,zZ,iZ,d1,HCOV.out,BestIn.skip HB.out hnc⟩
       case' pos =>
        have hcan:CanL s f:=⟨_,_,hHW.out,fun ⟨_,y,hy⟩=>by
         have:=(hm2 y).2 hy;rw[hout]at this
         cases this⟩
        have hlz:out.length=0:=by rw[hout];rfl
        rw[hlz];clear hlz hout hm2 R2 K0 K1 c99 B2
      all_goals
       have hRz:=hR.below BZ;obtain⟨vf,hlf,hrf⟩:=hRz.row (by omega:0≤f) hf6;have qz:wZ.cell? ⟨br,14,none⟩=some (.map (some G.gw)):=hRz.cell_wt;clear c0 c1 c2 hk hk';by_cases hb0:b=0
       ·subst hb0
        have hB1:BestIn s S 0:=by
         rcases HB.out with h | h
         ·exact .inl ⟨rfl,h.2⟩
         ·exact absurd rfl h.1
        have HB1:=(show Hid (BestIn s S 0) from hB1);clear hlf hrf hB1
        go_wp2_with fail
        go_quiet (fail)
        go_wp2_with fail
        go_roundg (rem.eraseIdx j).length
        case measure=>omega
        case rel=>exact⟨rem.eraseIdx j,f::S,f,rfl,rfl,⟨BZ.os,BZ.tape,BZ.output,BZ.size,BZ.block⟩,zZ,iZ.of rfl,d1,HCOV.out,BestIn.put HB1.out hcan (by omega) (.inl rfl)⟩
       ·obtain⟨⟨qo,qa⟩,qrest,hwb⟩:∃ p r,s.wt b=p::r:=by
         rcases HB.out with h | h
         ·exact absurd h.1 hb0
         ·obtain⟨p,r,e,_⟩:=h.2.1;exact⟨p,r,e⟩
        obtain⟨vb,hlb,hrb⟩:=hRz.row hB0.1 hB0.2;rw[hwb]at hrb;obtain⟨bg,bo,bc,rfl,_,_,_⟩:=hrb.formp (by simp);have e3:wZ.cell? ⟨bg,bo+3,none⟩=some (.int .i64 qa):=hrb.cell (j:=3) rfl
        have hatb:atL s b=qa:=by unfold atL;rw[hwb]
        have hlb2:∀ n,(Instr.lookup 96 (.map (some G.gw)) (.int .i64 b) false).run Try.prog (wZ.drewN n)=.ok (.slice (some ⟨bg,bo,none⟩) (qrest.length+1) bc) (wZ.drewN n):=fun n=>hlb (wZ.drewN n) rfl
        have hbl:(0:Int)<((qrest.length:Int)+1):=by omega
        have hb0':(b == 0)=false:=beq_eq_false_iff_ne.2 hb0;have HATB:=(show Hid _ from hatb);clear hlf hrf hlb hrb hwb hatb;by_cases hlt:pa<qa
        ·have hlt':decide (pa<qa)=true:=dT hlt
         go_wp2_with fail
         go_quiet (fail)
         go_wp2_with fail
         go_roundg (rem.eraseIdx j).length
         case measure=>omega
         case rel=>exact⟨rem.eraseIdx j,f::S,f,rfl,rfl,⟨BZ.os,BZ.tape,BZ.output,BZ.size,BZ.block⟩,zZ,iZ.of rfl,d1,HCOV.out,BestIn.put HB.out hcan (by omega) (.inr (by rw[hAT.out,HATB.out];exact hlt))⟩
        ·have hlt':decide (pa<qa)=false:=decide_eq_false hlt
         go_wp2_with fail
         go_quiet (fail)
         go_wp2_with fail
         go_roundg (rem.eraseIdx j).length
         case measure=>omega
         case rel=>exact⟨rem.eraseIdx j,f::S,b,rfl,rfl,⟨BZ.os,BZ.tape,BZ.output,BZ.size,BZ.block⟩,zZ,iZ.of rfl,d1,HCOV.out,BestIn.keep HB.out hb0 (by rw[hAT.out,HATB.out];omega)⟩
end Go.Proofs
namespace Go.AM
theorem qfi {s:LS} {t:Int} {p:hsOp×Int} {rest:List (hsOp×Int)} (hw:s.wt t=p::rest):∀ x q,q∈(doL s t p.1 rest).wt x→q∈s.wt x:=by
 intro x q hq
 have hq2:q∈if x=t then rest else s.wt x:=by
  unfold doL at hq;split at hq
  ·unfold takeL at hq;split at hq <;> exact hq
  ·exact hq
 clear hq;split at hq2
 ·rename_i hx;rw[hx,hw];exact .tail _ hq2
 ·exact hq2
theorem qcM {s:LS} {t:Int}:∀ x q,q∈(abortL s t).wt x→q∈s.wt x:=by
 intro x q hq
 have hq:q∈if x=t then [] else s.wt x:=hq
 split at hq
 ·cases hq
 ·exact hq
theorem ZP:∀ (n:Nat) (s:LS) (t:Int) (rel:Bool) (r:LS×Bool),goOnL n s t rel=some r→∀ x q,q∈r.1.wt x→q∈s.wt x
 | 0,_,_,_,_,e=>by cases e
 | n+1,s,t,rel,r,e=>by
  unfold goOnL at e
  cases hw:s.wt t with
  | nil=>rw[hw]at e;cases e;exact fun _ _ h=>h
  | cons p rest =>
   rw[hw]at e;simp only at e;split at e
   ·split at e
    ·cases e;exact qcM
    ·cases e;exact fun _ _ h=>h
   ·exact fun x q hq=>qfi hw x q (ZP n _ _ _ _ e x q hq)
theorem NH (m:Nat):∀ (n:Nat) (s s2:LS),retryL m n s=some s2→∀ x q,q∈s2.wt x→q∈s.wt x
 | 0,_,_,e=>by cases e
 | n+1,s,s2,e=>by
  unfold retryL at e;split at e
  ·cases e;exact fun _ _ h=>h
  ·obtain⟨r,h1,h2⟩:=qj e
   exact fun x q hq=>ZP m _ _ _ _ h1 x q (NH m n _ _ h2 x q hq)
theorem Dk {N:Nat} (m:Nat):∀ (n:Nat) (s s2:LS),OkS N s→retryL m n s=some s2→OkS N s2
 | 0,_,_,_,e=>by cases e
 | n+1,s,s2,h,e=>by
  unfold retryL at e;split at e
  ·cases e;exact h
  ·obtain⟨r,h1,h2⟩:=qj e;exact Dk m n _ _ (OkS.goOn m _ _ _ _ h h1) h2
structure OkK (k:Nat) (s:LS):Prop where
 ok:OkS k s
 at':∀ t p,p∈s.wt t→p.2<(k:Int)
theorem OkK.push {k:Nat} {s:LS} (h:OkK k s) (hk:k<1000000) {o:hsOp} (ho:OkOp o):OkK (k+1) (putW s o.qb (s.wt o.qb++[(o,(k:Int))])):=by
 obtain⟨⟨h1,h2,h3,h4,h5,h6,h7⟩,h8⟩:=h
 have hmem:∀ x q,q∈(putW s o.qb (s.wt o.qb++[(o,(k:Int))])).wt x→q∈s.wt x∨(x=o.qb∧q=(o,(k:Int))):=by
  intro x q hq
  have hq:q∈if x=o.qb then s.wt o.qb++[(o,(k:Int))] else s.wt x:=hq
  split at hq
  ·rename_i hx
   rcases List.mem_append.1 hq with h | h
   ·rw[hx];exact .inl h
   ·exact .inr ⟨hx,List.mem_singleton.1 h⟩
  ·exact .inl hq
 obtain⟨q,e1,e2⟩:=Vz (s:=s) ho.1 ho.2.1;refine⟨⟨?_,h2,h3,h4,fun x hx=>?_,fun x p hp=>?_,fun x y p q hp hq he=>?_⟩,fun x p hp=>?_⟩
 ·rw[e2];show s.done.length+_≤_;simp;omega
 ·obtain⟨p,hp⟩:=List.exists_mem_of_ne_nil _ hx
  rcases hmem x p hp with h | ⟨h,_⟩
  ·exact h5 x (List.ne_nil_of_mem h)
  ·rw[h];exact⟨ho.1,ho.2.1⟩
 ·rcases hmem x p hp with h | ⟨h,h'⟩
  ·exact h6 x p h
  ·rw[h,h'];exact⟨ho,rfl,by omega,by show (k:Int)<1000000;omega⟩
 ·rcases hmem x p hp with h | ⟨h,h'⟩
  ·rcases hmem y q hq with g | ⟨g,g'⟩
   ·exact h7 x y p q h g he
   ·have:=h8 x p h;rw[he,g']at this;exact absurd this (by simp)
  ·rcases hmem y q hq with g | ⟨g,g'⟩
   ·have:=h8 y q g;rw[← he,h']at this;exact absurd this (by simp)
   ·rw[h,g]
 ·rcases hmem x p hp with h | ⟨h,h'⟩
  ·have:=h8 x p h;omega
  ·rw[h'];show (k:Int)<((k+1:Nat):Int);omega
theorem OkS.mono {N N':Nat} {s:LS} (h:OkS N s) (hN:N≤N'):OkS N' s:=⟨Nat.le_trans h.tot hN,h.abl,h.sh,h.ex,h.wtk,h.wto,h.one⟩
theorem OkK.step {k:Nat} {s s2:LS} {m:Nat} (h:OkK k s) (hk:k<1000000) {o:hsOp} (ho:OkOp o) (e:stepL m s o k=some s2):OkK (k+1) s2:=by
 unfold stepL at e;split at e
 ·cases e;exact⟨h.ok.mono (by omega),fun t p hp=>by have:=h.at' t p hp;omega⟩
 ·have hp:=h.push hk ho;split at e
  ·cases e;exact hp
  ·rename_i hne
   have hne:s.wt o.qb=[]:=by
    cases hw:s.wt o.qb with
    | nil=>rfl
    | cons a b=>rw[hw]at hne;exact absurd (by simp) hne
   rw[hne]at hp;obtain⟨r,h1,h2⟩:=qj e;have hp:OkK (k+1) (putW s o.qb [(o,(k:Int))]):=hp;have hr:=OkS.goOn m _ _ _ _ hp.ok h1;split at h2
   ·exact⟨Dk m m _ _ hr h2,fun t p hq=>hp.at' t p (ZP m _ _ _ _ h1 t p (NH m m _ _ h2 t p hq))⟩
   ·cases h2;exact⟨hr,fun t p hq=>hp.at' t p (ZP m _ _ _ _ h1 t p hq)⟩
theorem OkK.zero:OkK 0 LS.zero:=⟨⟨by simp[LS.zero,wtot],by simp[LS.zero],fun _ _ h=>(by cases h),fun _=>by simp[LS.zero],fun t h=>absurd rfl h,fun _ _ h=>(by cases h),fun _ _ _ _ h=>(by cases h)⟩,fun _ _ h=>(by cases h)⟩
noncomputable def lockP (m:Nat) (h:List hsOp):Option (List hsOp×List Int×Int) :=
 (QB h).bind fun v=>bif v then (chk (decide (h.length≤100000)) ((open Classical in if ∀ o∈h,OkOp o then runL m LS.zero 0 h else none).bind fun s=>some (s.done,s.ab,0))) else some ([],[],2)
end Go.AM
namespace Go.Proofs
open Go.RowKit Go.AM
open Go.ChangeMaps (setBlock)
theorem Try.contains_T {w:World} {L:Nat→Nat} {role:Nat} {v:Value} {c:List Int} {t:Int} (hl:c.length≤100000) (h:RowT w L role 3 1 v c.length (intsV c)):Calls Try.prog 39 #[v,.int .i64 t] w fun e w'=>e=.returned (.bool (c.contains t))∧Below w.heap.size w w':=by
 have hR:R (mc w) (.lst 3 1 none (cL c)) v:=by
  rcases h.2 with ⟨rfl,h0⟩ | ⟨g,off,cap,cur,rfl,hr,hg,hn,hm,hs,ht⟩
  ·have:c=[]:=A4 h0;subst this;exact .lstn _ _ _
  ·refine qcZ hn fun j hj=>?_
   have hu:(intsV c)[j]? = some (.int .i64 c[j]):=by simp[intsV,hj]
   rw[← ht,A6]at hu;split at hu
   ·rw[A7,A8]at hu;exact qeu hg hu rfl
   ·cases hu
 refine (qel (QG c t _ (Ze hl t)) (mc w) w [v,.int .i64 t] (glob0 _) (fun _ _ _ h=>h) rfl (fun j a b ha hb=>?_)).mono ?_
 ·match j,ha,hb with
  | 0,ha,hb=>cases ha;cases hb;exact hR
  | 1,ha,hb=>cases ha;cases hb;exact .int _ _
 ·rintro e w' ⟨v',M',rfl,hB,_,_,_,hr,_⟩
  cases hr;exact⟨rfl,hB⟩
theorem RowT.intsR {M:Mem} {w:World} {L:Nat→Nat} {role B:Nat} {v:Value} {c:List Int} (h:RowT w L role 3 1 v c.length (intsV c)) (hB:∀ k,L k=role→B≤k):R (mtail M B w) (.lst 3 1 none (cL c)) v:=by
 rcases h.2 with ⟨rfl,h0⟩ | ⟨g,off,cap,cur,rfl,hr,hg,hn,hm,hs,ht⟩
 ·have:c=[]:=A4 h0;subst this;exact .lstn _ _ _
 ·refine qcZ hn fun j hj=>?_
  have hu:(intsV c)[j]? = some (.int .i64 c[j]):=by simp[intsV,hj]
  rw[← ht,A6]at hu;split at hu
  ·rw[A7,A8]at hu;rw[Dt (hB g hr)];exact qeu hg hu rfl
  ·cases hu
theorem RowT.opsR {M:Mem} {w:World} {L:Nat→Nat} {role B:Nat} {v:Value} {l:List hsOp} (h:RowT w L role 44 3 v l.length (opsC l)) (hB:∀ k,L k=role→B≤k):R (mtail M B w) (l44 none l) v:=by
 rcases h.2 with ⟨rfl,h0⟩ | ⟨g,off,cap,cur,rfl,hr,hg,hn,hm,hs,ht⟩
 ·have:l=[]:=A4 h0;subst this;exact .lstn _ _ _
 ·have hcell:∀ (j:Nat) u,(opsC l)[j]? = some u→cur[off+j]? = some u:=fun j u hu=>by
   rw[← ht,A6]at hu;split at hu
   ·rw[A7,A8]at hu;exact hu
   ·cases hu
  have hfl:∀ (j:Nat) c,(flat (l.map je))[j]? = some c→∃ u,(opsC l)[j]? = some u∧isTup u=false∧∀ M,R M c u:=by
   clear h ht hcell hn
   induction l with
   | nil=>intro j c hc;simp[flat]at hc
   | cons f l ih =>
    intro j c hc;have e1:flat ((f::l).map je)=[.int .i64 f.qb,.int .i64 f.qh,.int .i64 f.qi]++flat (l.map je):=rfl;have e2:opsC (f::l)=[.int .i64 f.qb,.int .i64 f.qh,.int .i64 f.qi]++opsC l:=rfl;rw[e1]at hc;rw[e2]
    match j,hc with
    | 0,hc | 1,hc | 2,hc=>cases hc;exact⟨_,rfl,rfl,fun M=>.int _ _⟩
    | j+3,hc =>
     have:∀ {α:Type} (a b c:α) (r:List α),([a,b,c]++r)[j+3]? = r[j]?:=fun a b c r=>by simp
     rw[this]at hc ⊢;exact ih j c hc
  have hl:(l.map je).length=l.length:=List.length_map _;show R _ (.lst 44 3 none (l.map je)) (.slice (some ⟨g,off,none⟩) l.length cap);rw[← hl];refine .lst (fun j=>(opsC l).getD j undef) (by rw[hl];exact hn) (fun x hx=>?_) (fun x hx=>?_) (fun j c hc=>?_) (fun j c hc=>?_)
  ·obtain⟨z,_,rfl⟩:=List.mem_map.1 hx;rfl
  ·obtain⟨z,_,rfl⟩:=List.mem_map.1 hx;rfl
  ·obtain⟨u,h1,h2,h3⟩:=hfl j c hc;rw[B6,h1,Dt (hB g hr)];exact qeu hg (hcell j u h1) h2
  ·obtain⟨u,h1,h2,h3⟩:=hfl j c hc;rw[B6,h1];exact h3 _
theorem Ui {ops:Array Oper} {o:Oper} {a:Act} {w:World} {K:Act→World→Prop} {Q:Exit→Act→World→Prop} {E:Prop} (hgd:o.guard=none) (s x:Operand) (ho:o.op=.call { callee:=.builtin .append,args:=#[s,x],argTypes:=#[102,102] }) {L:Nat→Nat} {role:Nat} (hr0:role≠0) {v:Value} {n:Nat} {xs:List Value} {f:hsOp} {k:Int} {b c0:Nat} {fz:Nat×Nat}
  (hs:a.eval s=v) (hx:a.eval x=.slice (some ⟨b,0,none⟩) 1 c0) (hown:RowT w L role 104 4 v n xs) (hi:∀ k,w.heap.size≤k→L k=0) (hb:w.heap[b]? = some (.cells #[.int .i64 f.qb,.int .i64 f.qh,.int .i64 f.qi,.int .i64 k] 104 fz)) (hlen:n≤1000000000)
  (h:∀ g off cap w' L',RowT w' L' role 104 4 (.slice (some ⟨g,off,none⟩) (n+1) cap) (n+1) (xs++[.int .i64 f.qb,.int .i64 f.qh,.int .i64 f.qi,.int .i64 k])→Grw role L L' w w'→K (a.put o.dst (.slice (some ⟨g,off,none⟩) (n+1) cap)) w'):if Region.wanted o (yielded ops a.tmps)=true then Oper.wp Try.prog o a w K Q else E :=
 Yw hgd s x 102 ho hi hr0 104 _ 4 32 Try.underlying102 Try.info104 rfl (by decide) hs hown (ad:=⟨b,0,none⟩) (news:=[.int .i64 f.qb,.int .i64 f.qh,.int .i64 f.qi,.int .i64 k]) hx rfl (B5 hb) (by simp[Value.oneCell']) (by simp only[maxLen];omega) (by omega) h
end Go.Proofs
