import Derived.Test.YtoiejpkfpjingaaELkH
import Derived.Test.YtoiejpkfpjingaaASimK
import Derived.Test.YtoiejpkfpjingaaELkA
import Derived.Laws.EntriesVeiled
import Derived.Test.YtoiejpkfpjingaaChecked
import Derived.Test.YtoiejpkfpjingaaHAT
set_option linter.all false
set_option maxRecDepth 100000
open List renaming getElem_toArray→A0, getElem_cons_succ→A1, getElem_cons_zero→A2, setIfInBounds_toArray→A3, set_cons_zero→A4, set_cons_succ→A5, length_map→A9, append_nil→B7, eq_nil_of_length_eq_zero→B9, mem_append_left→C4, map_cons→C8, getElem?_eq_getElem→D1, mem_of_getElem?→D2, getElem?_take→D3, getElem?_drop→D4, mem_append_right→D7, getD_eq_getElem?_getD→D9, filter_cons_of_pos→E0, mem_cons_of_mem→E7
open Go.World renaming cell?→A6, cell?_of_block→B5, news_of_block→D8
open Prod renaming fst→A7
open Nat renaming le_refl→A8, beq→B6, eq_of_beq_eq_true→C6, ble_eq_true_of_le→C7, lt_or_ge→D0
open Bool renaming and_eq_true→C5, not_eq_true'→D6
open Array renaming getElem?_toList→D5
namespace Go.Proofs
open Go.RowKit Go.AM
open Go.ChangeMaps (setBlock)
def SeenAt (w:World) (g:Nat) (S:List Int):Prop:=∃ l:List (Int×Bool),MapAt (fun _ _=>none) w g (AV.int .i64) AV.bool l∧(∀ p,p∈l→p.2=true)∧l.map A7=S
theorem SeenAt.of {w w':World} {g:Nat} {S:List Int} (h:SeenAt w g S) (hb:w'.heap[g]? = w.heap[g]?):SeenAt w' g S:=by
 obtain⟨l,h1,h2⟩:=h;exact⟨l,h1.of hb,h2⟩
theorem SeenAt.lt {w:World} {g:Nat} {S:List Int} (h:SeenAt w g S):g<w.heap.size:=by
 obtain⟨l,h1,h2⟩:=h;exact h1.lt
theorem qcI {y:Int}:∀ l:List (Int×Bool),(∀ p,p∈l→p.2=true)→mget keq1 false y l=decide (y∈l.map A7)
 | [],_=>by simp[mget]
 | p::r,h=>by
  have ih:=qcI (y:=y) r fun q hq=>h q (.tail _ hq)
  simp only[mget,C8,List.mem_cons]
  cases hq:keq1 p.1 y with
  | true =>
   have:p.1=y:=by simpa[keq1] using hq
   simp[this,h p (.head _)]
  | false =>
   have:¬ p.1=y:=by simpa[keq1] using hq
   have h2:¬ y=p.1:=fun e=>this e.symm
   simp only[cN,ih,h2,false_or]
theorem SeenAt.look {w:World} {g:Nat} {S:List Int} (h:SeenAt w g S) {y:Int} (h1:0≤y) (h6:y≤6):(Instr.lookup 83 (.map (some g)) (.int .i64 y) false).run Try.prog w=.ok (.bool (decide (y∈S))) w:=by
 obtain⟨l,hl,ht,rfl⟩:=h;obtain⟨v,q1,q2⟩:=Try.lookup_own (t:=83) (kt:=3) (e:=4) (eq:=keq1) (z:=false) hl (by kernel_rfl) fits3 Vv (by kernel_rfl) (k:=y) (DP h1 h6);rw[qcI l ht]at q2;cases q2;exact q1
theorem SeenAt.put {w:World} {g:Nat} {S:List Int} (h:SeenAt w g S) {y:Int} (h1:0≤y) (h6:y≤6) (hn:y ∉ S) (hl:S.length<1000000) :
  ∃ o',(Instr.mapUpdate 83 (.map (some g)) (.int .i64 y) (.bool true)).run Try.prog w=.ok () (setBlock w g o')∧SeenAt (setBlock w g o') g (S++[y]):=by
 obtain⟨l,⟨es,clock,hb,hE⟩,ht,rfl⟩:=h;obtain⟨es',clock',hE',hU⟩:=Try.update_own (t:=83) (kt:=3) (e:=4) (eq:=keq1) (G:=AV.bool) hE (by kernel_rfl) fits3 Vv (k:=y) (v:=true) (DP h1 h6) (.bool true) (by simp at hl;omega)
 have hkeys:(mset keq1 y true l).map A7=l.map A7++[y]:=by rw[mset_keys,if_neg hn]
 have hms:∀ l:List (Int×Bool),(∀ p,p∈l→p.2=true)→∀ p,p∈mset keq1 y true l→p.2=true:=by
  intro l
  induction l with
  | nil=>intro _ p hp;simp[mset]at hp;rw[hp]
  | cons q r ih =>
   intro h p hp;unfold mset at hp
   cases hq:keq1 q.1 y with
   | true =>
    rw[hq]at hp
    rcases List.mem_cons.1 hp with h2 | h2
    ·rw[h2]
    ·exact h p (.tail _ h2)
   | false =>
    rw[hq]at hp
    rcases List.mem_cons.1 hp with h2 | h2
    ·rw[h2];exact h q (.head _)
    ·exact ih (fun x hx=>h x (.tail _ hx)) p h2
 exact⟨_,hU w g hb,mset keq1 y true l,⟨es',clock',Go.AM.Qh hb,hE'⟩,hms l ht,hkeys⟩
theorem SeenAt.empty {w:World} {g:Nat} (h:w.heap[g]? = some (.map #[] 0)):SeenAt w g []:=⟨[],MapAt.empty h,fun p hp=>(by cases hp),rfl⟩
theorem RowN.tail {w:World} {B g off cap:Nat} {y:Int} {out:List Int} (h:RowN w B (.slice (some ⟨g,off,none⟩) (out.length+1) cap) (y::out)) :
  (cap=1∧out=[]∧RowN w B (.slice (some ⟨g,off,none⟩) out.length 0) out)∨(cap≠1∧RowN w B (.slice (some ⟨g,off+1,none⟩) out.length (cap - 1)) out):=by
 obtain⟨L,h1,h2⟩:=h
 rcases RowT.tail h2 with ⟨h3,h4,h5⟩ | ⟨h3,h5⟩
 ·exact .inl ⟨h3,B9 h4,L,h1,h5⟩
 ·exact .inr ⟨h3,L,h1,h5⟩
structure CircI (s:LS) (t:Int) (qs seen:List Int) (x:Option Int) (done:List Int):Prop where
 q:∀ y,y∈qs→y=t∨ReachL s t y
 r:∀ y,y∈seen→ReachL s t y
 qr:∀ y,y∈qs→1≤y∧y≤6
 sr:∀ y,y∈seen→1≤y∧y≤6
 no:t ∉ seen
 nd:seen.Nodup
 dn:∀ y,y∈done→y∈seen
 cl:∀ z,(z=t∨z∈seen)→z∈qs∨some z=x∨∀ y,EdgeL s z y→y∈seen
theorem CircI.len {s:LS} {t:Int} {qs seen:List Int} {x:Option Int} {done:List Int} (h:CircI s t qs seen x done):seen.length≤6 :=
 Zi seen [(1:Int),2,3,4,5,6] h.nd fun y hy=>Nm (h.sr y hy).1 (h.sr y hy).2
theorem CircI.stop {s:LS} {t:Int} {seen:List Int} (h:CircI s t [] seen none []):¬ ReachL s t t:=by
 have h0:∀ a b,ReachL s a b→a=t→b∈seen:=by
  intro a b hr
  induction hr with
  | one e =>
   intro ha
   rcases h.cl _ (.inl ha) with h1 | h1 | h1
   ·cases h1
   ·cases h1
   ·exact h1 _ e
  | more _ e ih =>
   intro ha
   rcases h.cl _ (.inr (ih ha)) with h1 | h1 | h1
   ·cases h1
   ·cases h1
   ·exact h1 _ e
 exact fun hr=>h.no (h0 t t hr rfl)
theorem CircI.pop {s:LS} {t x:Int} {qs seen:List Int} (h:CircI s t (x::qs) seen none []):CircI s t qs seen (some x) []:=by
 refine⟨fun y hy=>h.q y (.tail _ hy),h.r,fun y hy=>h.qr y (.tail _ hy),h.sr,h.no,h.nd,fun y hy=>(by cases hy),fun z hz=>?_⟩
 rcases h.cl z hz with h1 | h1 | h1
 ·rcases List.mem_cons.1 h1 with h2 | h2
  ·exact .inr (.inl (by rw[h2]))
  ·exact .inl h2
 ·cases h1
 ·exact .inr (.inr h1)
theorem CircI.push {s:LS} {t x y:Int} {qs seen done:List Int} (h:CircI s t qs seen (some x) done) (hx:x=t∨ReachL s t x) (he:EdgeL s x y) (hy:y≠t) (h1:1≤y) (h6:y≤6) (hn:y ∉ seen):CircI s t (qs++[y]) (seen++[y]) (some x) (done++[y]):=by
 have hr:ReachL s t y:=by
  rcases hx with rfl | hx
  ·exact .one he
  ·exact .more hx he
 refine⟨fun z hz=>?_,fun z hz=>?_,fun z hz=>?_,fun z hz=>?_,fun hz=>?_,?_,fun z hz=>?_,fun z hz=>?_⟩
 ·rcases List.mem_append.1 hz with h2 | h2
  ·exact h.q z h2
  ·rw[List.mem_singleton.1 h2];exact .inr hr
 ·rcases List.mem_append.1 hz with h2 | h2
  ·exact h.r z h2
  ·rw[List.mem_singleton.1 h2];exact hr
 ·rcases List.mem_append.1 hz with h2 | h2
  ·exact h.qr z h2
  ·rw[List.mem_singleton.1 h2];exact⟨h1,h6⟩
 ·rcases List.mem_append.1 hz with h2 | h2
  ·exact h.sr z h2
  ·rw[List.mem_singleton.1 h2];exact⟨h1,h6⟩
 ·rcases List.mem_append.1 hz with h2 | h2
  ·exact h.no h2
  ·exact hy (List.mem_singleton.1 h2).symm
 ·rw[List.nodup_append];exact⟨h.nd,by simp,fun a ha b hb e=>hn (by simp at hb;rw[← hb,← e];exact ha)⟩
 ·rcases List.mem_append.1 hz with h2 | h2
  ·exact C4 _ (h.dn z h2)
  ·exact D7 _ h2
 ·rcases hz with h2 | h2
  ·rcases h.cl z (.inl h2) with h3 | h3 | h3
   ·exact .inl (C4 _ h3)
   ·exact .inr (.inl h3)
   ·exact .inr (.inr fun u hu=>C4 _ (h3 u hu))
  ·rcases List.mem_append.1 h2 with h2 | h2
   ·rcases h.cl z (.inr h2) with h3 | h3 | h3
    ·exact .inl (C4 _ h3)
    ·exact .inr (.inl h3)
    ·exact .inr (.inr fun u hu=>C4 _ (h3 u hu))
   ·exact .inl (D7 _ h2)
theorem CircI.skip {s:LS} {t x y:Int} {qs seen done:List Int} (h:CircI s t qs seen (some x) done) (hy:y∈seen):CircI s t qs seen (some x) (done++[y]) :=
 ⟨h.q,h.r,h.qr,h.sr,h.no,h.nd,fun z hz=>by
  rcases List.mem_append.1 hz with h2 | h2
  ·exact h.dn z h2
  ·rw[List.mem_singleton.1 h2];exact hy,h.cl⟩
theorem CircI.close {s:LS} {t x:Int} {qs seen done:List Int} (h:CircI s t qs seen (some x) done) (hd:∀ y,EdgeL s x y→y∈done):CircI s t qs seen none [] :=
 ⟨h.q,h.r,h.qr,h.sr,h.no,h.nd,fun z hz=>(by cases hz),fun z hz=>by
  rcases h.cl z hz with h3 | h3 | h3
  ·exact .inl h3
  ·exact .inr (.inr fun y hy=>h.dn y (hd y (by rw[← Option.some.inj h3];exact hy)))
  ·exact .inr (.inr h3)⟩
set_option maxHeartbeats 4000000 in
theorem Try.circle97 {N base br:Nat} {w:World} {L:Nat→Nat} {G:Gst} {s:LS} (h:RunB base br w L G s) (hs:OkS N s) {t:Int} (h1:1≤t) (h6:t≤6) :
  Calls Try.prog 97 #[.pointer (some ⟨br,0,none⟩),.int .i64 t] w fun e w'=>((ReachL s t t∧e=.returned (.bool true))∨(¬ ReachL s t t∧e=.returned (.bool false)))∧Below w.heap.size w w':=by
 have mixed:=mixedP;have t3:=Try.underlying3;have a3:=Try.isAgg3;have z3:=Try.sizeOf3;have v3:=Try.zeroValue3;have u3:=run_underlying Try.underlying3;have t4:=Try.underlying4;have a4:=Try.isAgg4;have z4:=Try.sizeOf4;have v4:=Try.zeroValue4;have t24:=Try.underlying24;have a24:=Try.isAgg24;have z24:=Try.sizeOf24;have v24:=Try.zeroValue24;have u24:=run_underlying Try.underlying24;have t44:=Try.underlying44;have a44:=Try.isAgg44;have z44:=Try.sizeOf44;have v44:=Try.zeroValue44;have u44:=run_underlying Try.underlying44;have t83:=Try.underlying83;have a83:=Try.isAgg83;have z83:=Try.sizeOf83;have v83:=Try.zeroValue83;have u83:=run_underlying Try.underlying83;have t96:=Try.underlying96;have a96:=Try.isAgg96;have z96:=Try.sizeOf96;have u96:=run_underlying Try.underlying96;have t101:=Try.underlying101;have a101:=Try.isAgg101;have z101:=Try.sizeOf101;have u101:=run_underlying Try.underlying101;have t102:=Try.underlying102;have a102:=Try.isAgg102;have z102:=Try.sizeOf102;have v102:=Try.zeroValue102;have u102:=run_underlying Try.underlying102;have t104:=Try.underlying104;have a104:=Try.isAgg104;have z104:=Try.sizeOf104;have u104:=run_underlying Try.underlying104;have hmm:=@run_makeMap Try.prog;obtain⟨w1,ew1⟩:∃ w1,w1=(w.alloc (.map #[] 0)).alloc (.cells #[.int .i64 t] 3):=⟨_,rfl⟩
 have z1:w1.heap.size=w.heap.size+2:=by rw[ew1];simp
 have B1:Below w.heap.size w w1:=by rw[ew1];exact ((Below.refl _ _).alloc (A8 _) _).alloc (by simp) _
 have S1:SeenAt w1 w.heap.size []:=SeenAt.empty (by rw[ew1,heap_alloc_old _ _ (by simp)];exact heap_alloc_new _ _)
 have Q1:RowN w1 (w.heap.size+1) (.slice (some ⟨w.heap.size+1,0,none⟩) 1 1) [t]:=by
  refine⟨fun k=>if k=w.heap.size+1 then 1 else 0,fun k hk=>?_,rfl,.inr ⟨w.heap.size+1,0,1,#[.int .i64 t],rfl,by simp,?_,A8 _,by decide,by simp,rfl⟩⟩
  ·by_cases e:k=w.heap.size+1
   ·omega
   ·simp only[if_neg e]at hk;exact absurd rfl hk
  ·rw[ew1];have:=heap_alloc_new (w.alloc (.map #[] 0)) (.cells #[.int .i64 t] 3)
   simpa using this
 have I1:CircI s t [t] [] none []:=⟨fun y hy=>.inl (List.mem_singleton.1 hy),fun y hy=>(by cases hy),fun y hy=>by rw[List.mem_singleton.1 hy];exact⟨h1,h6⟩,fun y hy=>(by cases hy),by simp,by simp,fun y hy=>(by cases hy),fun z hz=>by
  rcases hz with hz | hz
  ·rw[hz];exact .inl (.head _)
  ·cases hz⟩
 have HW1:=(show Hid (w1=_) from ew1);have hlt:=h.lt;clear ew1
 go_enter Try.func97,Try.ntmps97
 go_wp2
 rw[← HW1.out]
 go_loopg [6] 13 (fun gf s6 wx=>∃ (qs seen:List Int),gf=qs.length+2 * (6 - seen.length)∧qs.length≤seen.length+1∧Below w.heap.size w wx∧RowN wx (w.heap.size+1) s6 qs∧SeenAt wx w.heap.size seen∧CircI s t qs seen none [])
 case atStart=>exact⟨[t],[],rfl,by simp,B1,Q1,S1,I1⟩
 case round =>
  clear HW1 Q1 S1 I1 B1;obtain⟨qs,seen,hgf,hqn,hB,hQ,hSe,hI⟩:=hrel
  cases qs with
  | nil =>
   have hstop:=hI.stop;obtain⟨qa,qc,rfl⟩:=hQ.form;clear hI hgf
   go_wp2
   go_ret
   exact⟨.inr ⟨hstop,rfl⟩,hB⟩
  | cons x qs =>
   obtain⟨qa,qc,rfl⟩:=hQ.form;obtain⟨qg,qo,rfl,hqB,hqg,hqx⟩:=hQ.cells (j:=0) (x:=x) rfl
   have hqn:qs.length≤seen.length:=by simpa using hqn
   have hxr:=hI.qr x (.head _);have hxq:=hI.q x (.head _);have hI2:=hI.pop
   have hR:=h.kept hB.size fun k hk _=>hB.block k hk
   have hqx:wr.cell? ⟨qg,qo,none⟩=some (.int .i64 x):=hqx
   have hl0:(0:Int)<((qs.length:Int)+1):=by omega
   have hl1:(1:Int)≤((qs.length:Int)+1):=by omega
   have hgw:wr.cell? ⟨br,14,none⟩=some (.map (some G.gw)):=hR.cell_wt;obtain⟨v8,hlk,hrow⟩:=hR.row (by omega:0≤x) hxr.2;have hlk:=hlk wr rfl;have hsl:=hI2.len
   have hnxt:∀ qs2 seen2:List Int,CircI s t qs2 seen2 none []→qs2.length+seen.length=qs.length+seen2.length→seen.length≤seen2.length→qs2.length+2 * (6 - seen2.length)<gk:=by
    intro qs2 seen2 hI3 he hle;have h1:=hI3.len;rw[hgf];simp only[List.length_cons];omega
   have HN:=(show Hid _ from hnxt);have HI:=(show Hid _ from hI2);have HS:=(show Hid _ from hSe);have HX:=(show Hid _ from hxq);clear hnxt hI2 hgf hI hSe hxq
   rcases RowN.tail hQ with ⟨hqc,hqz,hQ2⟩ | ⟨hqc,hQ2⟩
   case' inl =>
    subst hqc;clear hqz
   all_goals
    have HQ2:=(show Hid _ from hQ2);clear hQ hQ2
    cases hwx:s.wt x with
    | nil =>
     rw[hwx]at hrow;obtain⟨ra,rc,rfl⟩:=hrow.form;have hI3:=HI.out.close (fun y ⟨p,r,e,_⟩=>by rw[hwx]at e;cases e);have HI3:=(show Hid _ from hI3);clear hI3 hrow hwx
     go_wp2
     go_roundg (qs.length+2 * (6 - seen.length))
     case measure=>exact HN.out _ _ HI3.out rfl (A8 _)
     case rel=>exact⟨_,_,rfl,by omega,hB,HQ2.out,HS.out,HI3.out⟩
    | cons p rest =>
     obtain⟨⟨tx,kx,ix⟩,pa⟩:=p;have hop:OkOp ⟨tx,kx,ix⟩:=(hs.wto x _ (by rw[hwx];exact .head _)).1;rw[hwx]at hrow;obtain⟨rg,ro,rc,rfl,_,hrgl,_⟩:=hrow.formp (by simp)
     have c0:∀ d,({ wr with drawn:=d }:World).cell? ⟨rg,ro,none⟩=some (.int .i64 tx):=fun d=>hrow.cell (j:=0) rfl
     have c1:∀ d,({ wr with drawn:=d }:World).cell? ⟨rg,ro+1,none⟩=some (.int .i64 kx):=fun d=>hrow.cell (j:=1) rfl
     have c2:∀ d,({ wr with drawn:=d }:World).cell? ⟨rg,ro+2,none⟩=some (.int .i64 ix):=fun d=>hrow.cell (j:=2) rfl
     have hedge:∀ y,EdgeL s x y↔hindP s ⟨tx,kx,ix⟩ y:=fun y=>⟨fun ⟨p,r,e,hh⟩=>by rw[hwx]at e;cases e;exact hh,fun hh=>⟨_,_,hwx,hh⟩⟩
     have HED:=(show Hid _ from hedge)
     have hrl:(0:Int)<((rest.length:Int)+1):=by omega
     have c99:=Try.hinders99 hR.drew hs hop;clear hrow hwx hedge
     go_wp2_with fail
     have K0:wr.drew.cell? ⟨rg,ro,none⟩=some (.int .i64 tx)∧wr.drew.cell? ⟨rg,ro+1,none⟩=some (.int .i64 kx)∧wr.drew.cell? ⟨rg,ro+2,none⟩=some (.int .i64 ix):=⟨c0 _,c1 _,c2 _⟩
     go_region_held3 (fun w'=>w'.cell? ⟨rg,ro,none⟩=some (.int .i64 tx)∧w'.cell? ⟨rg,ro+1,none⟩=some (.int .i64 kx)∧w'.cell? ⟨rg,ro+2,none⟩=some (.int .i64 ix)) (first | exact K0 | exact K1)
      (first | (go_at_call 99;refine Calls.mono c99 ?_;rintro e w2 ⟨hv,out,rfl,B2,R2,hl2,hm2⟩;obtain⟨oa,oc,rfl⟩:=R2.form;have K1:w2.cell? ⟨rg,ro,none⟩=some (.int .i64 tx)∧w2.cell? ⟨rg,ro+1,none⟩=some (.int .i64 kx)∧w2.cell? ⟨rg,ro+2,none⟩=some (.int .i64 ix):=⟨(B5 (B2.block rg hrgl)).trans (c0 _),(B5 (B2.block rg hrgl)).trans (c1 _),(B5 (B2.block rg hrgl)).trans (c2 _)⟩))
     obtain⟨w7,rfl⟩:∃ w7,w7=wr:=⟨_,rfl⟩;have BB2:Below w.heap.size w w2:=hB.trans ((show Below w7.heap.size w7 w2 from⟨B2.os,B2.tape,B2.output,B2.size,B2.block⟩).mono hB.size)
     have hb2:∀ k,k<w7.heap.size→w2.heap[k]? = w7.heap[k]?:=fun k hk=>B2.block k hk
     have hs2:w7.heap.size≤w2.heap.size:=B2.size
     have QQ2:=RowN.kept HQ2.out (w':=w2) hs2 fun k hk _=>hb2 k hk
     have hgs:=SeenAt.lt HS.out;have SS2:=SeenAt.of HS.out (hb2 _ hgs)
     have hap:∀ g0 o0 n0 c0,(Value.slice (some ⟨qg,o0,none⟩) n0 c0).ownBlock=some g0→(Value.slice oa out.length oc).ownBlock≠some g0:=fun g0 o0 n0 c0 e e2=>by
      cases e;obtain⟨L5,r1,r2⟩:=R2;have h8:=r2.lt _ e2;have h9:=(r1 _ (by rw[h8.1];decide)).1;have h9:w7.heap.size≤qg:=h9;omega
     have R3:RowN w2 (w.heap.size+1) (.slice oa out.length oc) out:=R2.mono (by have:=hB.size;show w.heap.size+1≤w7.heap.size;omega);clear c99 B2 R2 hR c0 c1 c2 K0 K1 hqx hgw hlk hb2 hs2 hsl
     go_wp2_with fail
     go_loopg [6,40] out.length (fun gi s6 s40 wx=>∃ (k:Nat) (qs2 seen2:List Int),s40=.int .i64 (k:Int)∧k+gi=out.length∧Below w.heap.size w wx∧RowN wx (w.heap.size+1) s6 qs2∧(∀ g0,s6.ownBlock=some g0→(Value.slice oa out.length oc).ownBlock≠some g0)∧SeenAt wx w.heap.size seen2∧RowN wx (w.heap.size+1) (.slice oa out.length oc) out∧CircI s t qs2 seen2 (some x) (out.take k)∧qs2.length+seen.length=qs.length+seen2.length∧seen.length≤seen2.length)
     case atStart=>exact⟨0,qs,seen,rfl,by omega,BB2,QQ2,fun g0 e=>hap g0 _ _ _ e,SS2,R3,HI.out,rfl,A8 _⟩
     case round =>
      clear QQ2 SS2 R3 BB2 hap;obtain⟨k,qs2,seen2,rfl,hkg,hBr,hQr,hapr,hSr,hOr,hIr,hqs,hss⟩:=hrel
      rcases D0 k out.length with hk1 | hk1
      ·obtain⟨y,hy⟩:∃ y,out[k]? = some y:=⟨_,D1 hk1⟩;obtain⟨og,oo,rfl,_,hogl,hcy⟩:=hOr.cells hy;have hym:y∈out:=D2 hy;have hed:=(HED.out y).2 ((hm2 y).1 hym);have hyr:=hs.hind ((hm2 y).1 hym)
       have htk:out.take (k+1)=out.take k++[y]:=by rw[List.take_add_one,hy];rfl
       have j0:(0:Int)≤(k:Int):=Int.natCast_nonneg _
       have j1:(k:Int)<(out.length:Int):=by omega
       have HIR:=(show Hid _ from hIr);have HSR:=(show Hid _ from hSr);clear hIr hy;by_cases hyt:y=t
       ·have hre:ReachL s t t:=by
         rw[hyt]at hed
         rcases HX.out with e | e
         ·rw[e]at hed;exact .one hed
         ·exact .more e hed
        clear hed hSr;subst hyt
        go_wp2
        go_ret
        exact⟨.inl ⟨hre,rfl⟩,hBr⟩
       ·have hyt':(y == t)=false:=beq_eq_false_iff_ne.2 hyt;have hlook:=hSr.look (by omega:0≤y) hyr.2;by_cases hys:y∈seen2
        ·have hd:decide (y∈seen2)=true:=dT hys;rw[hd]at hlook;have HI4:=(show Hid _ from HIR.out.skip hys);clear hys hd hSr hed
         go_wp2
         go_roundg (out.length - (k+1))
         case measure=>omega
         case rel=>exact⟨k+1,qs2,seen2,by go_num,by omega,hBr,hQr,hapr,HSR.out,hOr,by rw[htk];exact HI4.out,hqs,hss⟩
        ·have hd:decide (y∈seen2)=false:=dF hys;rw[hd]at hlook;have HI4:=(show Hid _ from HIR.out.push HX.out hed hyt hyr.1 hyr.2 hys);have hsl2:=HIR.out.len;obtain⟨o',hup,hS3⟩:=hSr.put (by omega:0≤y) hyr.2 hys (by omega);have hgl:=hSr.lt;obtain⟨w3,ew3⟩:∃ w3,w3=(setBlock wr w.heap.size o').alloc (.cells #[.int .i64 y] 3):=⟨_,rfl⟩
         have z3':w3.heap.size=wr.heap.size+1:=by rw[ew3];simp[QV]
         have b3:∀ k,k<wr.heap.size→k≠w.heap.size→w3.heap[k]? = wr.heap[k]?:=fun k hk hne=>by
          rw[ew3,heap_alloc_old _ _ (by rw[QV];exact hk),Jx hne]
         have n3:w3.heap[wr.heap.size]? = some (.cells #[.int .i64 y] 3 (0,0)):=by
          have:=heap_alloc_new (setBlock wr w.heap.size o') (.cells #[.int .i64 y] 3);rw[QV]at this;rw[ew3];exact this
         have hS4:SeenAt w3 w.heap.size (seen2++[y]):=hS3.of (by rw[ew3,heap_alloc_old _ _ (by rw[QV];exact hgl)])
         have hQ4:RowN w3 (w.heap.size+1) u6 qs2:=hQr.kept (by omega) fun k hk hkB=>b3 k hk (by omega)
         have hO4:RowN w3 (w.heap.size+1) (.slice (some ⟨og,oo,none⟩) out.length oc) out:=hOr.kept (by omega) fun k hk hkB=>b3 k hk (by omega)
         have B3:Below w.heap.size w w3:=by
          refine⟨by rw[ew3];exact hBr.os,by rw[ew3];exact hBr.tape,by rw[ew3];exact hBr.output,by have:=hBr.size;omega,fun k hk=>?_⟩;rw[b3 k (by have:=hBr.size;omega) (by omega)];exact hBr.block k hk
         have hll:qs2.length≤1000000000:=by have:=HI.out.len;omega
         have hbase:w.heap.size+1≤w3.heap.size:=by omega
         have hsz:(setBlock wr w.heap.size o').heap.size=wr.heap.size:=QV;obtain⟨ua,uc,rfl⟩:=hQr.form;have W3:=(show Hid (w3=_) from ew3);rw[ew3]at n3 hQ4 hbase;have B3:=(show Hid _ from B3);have S4:=(show Hid _ from hS4);have O4:=(show Hid _ from hO4);clear hys hd hSr hed hS3 hS4 hO4 ew3 b3 hgl hOr hQr
         go_wp2_with (first | (at_builtin;refine YZ rfl (.tmp 53) (.tmp 55) (by rfl) (by rfl) (by rfl) hQ4 n3 hll hbase ?_;intro g5 off5 cap5 w5 ho5 a1 a2 a3 a4 a5 a6 a7;rw[← W3.out]at a1 a2 a3 a4 a5 a6 a7) | fail)
         go_roundg (out.length - (k+1))
         case measure=>omega
         case rel =>
          have hBs:=B3.out.size;refine⟨k+1,qs2++[y],seen2++[y],by go_num,by omega,⟨a1.trans B3.out.os,a2.trans B3.out.tape,a3.trans B3.out.output,by omega,fun k hk=>by rw[a5 k (by omega) (by omega)];exact B3.out.block k hk⟩,ho5,fun g0 e e2=>?_,SeenAt.of S4.out (a5 _ (SeenAt.lt S4.out) (by omega)),RowN.kept' O4.out a4 fun k hk hc=>?_,by rw[htk];exact HI4.out,by simp;omega,by simp;omega⟩
          ·cases e
           rcases a7 with e3 | e3
           ·exact hapr _ e3 e2
           ·cases e2;omega
          ·obtain⟨cs,ty,hc⟩:=hc
           exact a6 k (lt_of_block hc) fun e=>hapr _ e hk
      ·have hke:k=out.length:=by omega
       subst hke;rw[List.take_length]at hIr
       have hI5:=hIr.close fun y hy=>(hm2 y).2 ((HED.out y).1 hy)
       have HI5:=(show Hid _ from hI5);have HSR:=(show Hid _ from hSr);clear hI5 hIr hSr
       go_wp2
       go_roundg (qs2.length+2 * (6 - seen2.length))
       case measure=>exact HN.out _ _ HI5.out hqs hss
       case rel=>exact⟨qs2,seen2,rfl,by omega,hBr,hQr,HSR.out,HI5.out⟩
end Go.Proofs
namespace Go.Proofs
open Go.RowKit Go.AM
open Go.ChangeMaps (setBlock)
theorem NL {ops:Array Oper} {rest:List Oper} {o:Oper} {a:Act} {w:World} {Q:Exit→Act→World→Prop} (hgd:o.guard=none) (s x:Operand) (ho:o.op=.call { callee:=.builtin .append,args:=#[s,x],argTypes:=#[24,24] }) {L:Nat→Nat} {v:Value} {n:Nat} {xs:List Value} {f:Int} {b c0:Nat} {fz:Nat×Nat}
    (hs:a.eval s=v) (hx:a.eval x=.slice (some ⟨b,0,none⟩) 1 c0) (hown:RowT w L 4 3 1 v n xs) (hi:∀ k,w.heap.size≤k→L k=0) (hb:w.heap[b]? = some (.cells #[.int .i64 f] 3 fz)) (hlen:n≤1000000000)
    (h:∀ g off cap w' L',RowT w' L' 4 3 1 (.slice (some ⟨g,off,none⟩) (n+1) cap) (n+1) (xs++[.int .i64 f])→Grw 4 L L' w w'→wpList Try.prog ops Q rest (a.put o.dst (.slice (some ⟨g,off,none⟩) (n+1) cap)) w'):wpList Try.prog ops Q (o::rest) a w :=
  XW hgd s x 24 ho hi (by decide) 3 _ 1 8 Try.underlying24 Try.infoInt rfl (by decide) hs hown (ad:=⟨b,0,none⟩) (news:=[.int .i64 f]) hx rfl (D8 hb) (by simp[Value.oneCell']) (by simp only[maxLen];omega) (by omega) h
theorem qeu (n:Nat) (s:LS) (t:Int) (rel:Bool) (r:LS×Bool) (h:goOnL (n+1) s t rel=some r) :
    (s.wt t=[]∧r=(s,rel))∨∃ p rest,s.wt t=p::rest∧((Stuck s p.1∧ReachL s t t∧r=(abortL s t,true))∨(Stuck s p.1∧¬ ReachL s t t∧r=(s,rel))∨(¬ Stuck s p.1∧goOnL n (doL s t p.1 rest) t (rel || decide (1<p.1.qh))=some r)):=by
  unfold goOnL at h
  cases hw:s.wt t with
  | nil=>rw[hw]at h;exact .inl ⟨rfl,(Option.some.inj h).symm⟩
  | cons p rest =>
    rw[hw]at h;right;refine⟨p,rest,rfl,?_⟩;simp only at h;split at h
    · rename_i h1
      split at h
      · rename_i h2;exact .inl ⟨h1,h2,(Option.some.inj h).symm⟩
      · rename_i h2;exact .inr (.inl ⟨h1,h2,(Option.some.inj h).symm⟩)
    · rename_i h1;exact .inr (.inr ⟨h1,h⟩)
set_option maxHeartbeats 4000000 in
theorem Try.goOn69 {N base br:Nat} {w:World} {L:Nat→Nat} {G:Gst} {s:LS} (h:RunB base br w L G s) (hs:OkS N s) (hN:N≤1000000) {t:Int} (h1:1≤t) (h6:t≤6) {n:Nat} {r:LS×Bool} (hr:goOnL n s t false=some r) :
    Calls Try.prog 69 #[.pointer (some ⟨br,0,none⟩),.int .i64 t] w fun e w'=>e=.returned (.bool r.2)∧LkPost base br w L r.1 w':=by
  have mixed:=mixedP;have t3:=Try.underlying3;have a3:=Try.isAgg3;have z3:=Try.sizeOf3;have v3:=Try.zeroValue3;have u3:=run_underlying Try.underlying3;have t4:=Try.underlying4;have a4:=Try.isAgg4;have z4:=Try.sizeOf4;have v4:=Try.zeroValue4;have t24:=Try.underlying24;have a24:=Try.isAgg24;have z24:=Try.sizeOf24;have v24:=Try.zeroValue24;have u24:=run_underlying Try.underlying24;have t29:=Try.underlying29;have a29:=Try.isAgg29;have z29:=Try.sizeOf29;have v29:=Try.zeroValue29;have u29:=run_underlying Try.underlying29;have t44:=Try.underlying44;have a44:=Try.isAgg44;have z44:=Try.sizeOf44;have v44:=Try.zeroValue44;have u44:=run_underlying Try.underlying44;have t96:=Try.underlying96;have a96:=Try.isAgg96;have z96:=Try.sizeOf96;have u96:=run_underlying Try.underlying96;have t101:=Try.underlying101;have a101:=Try.isAgg101;have z101:=Try.sizeOf101;have u101:=run_underlying Try.underlying101;have t102:=Try.underlying102;have a102:=Try.isAgg102;have z102:=Try.sizeOf102;have v102:=Try.zeroValue102;have u102:=run_underlying Try.underlying102;have t104:=Try.underlying104;have a104:=Try.isAgg104;have z104:=Try.sizeOf104;have u104:=run_underlying Try.underlying104;have HR:=(show Hid _ from hr);have HH:=(show Hid _ from h);clear hr h
  go_enter Try.func69,Try.ntmps69
  go_wp2_with fail
  go_loopg [5] n (fun gf s5 wx=>∃ (s':LS) (rel:Bool) (L':Nat→Nat) (G':Gst),s5=.bool rel∧RunB base br wx L' G' s'∧OkS N s'∧Mvs L L' w wx∧goOnL gf s' t rel=some r)
  case atStart=>exact⟨s,false,L,G,rfl,HH.out,hs,Mvs.refl _ _,HR.out⟩
  case round =>
    clear HR HH hs s G;obtain⟨s,rel,L1,G,rfl,hR,hs,hM,hgo⟩:=hrel;obtain⟨v,hlk,hrow⟩:=hR.row (by omega:0≤t) h6;have hlk:=hlk wr rfl;have qw:wr.cell? ⟨br,14,none⟩=some (.map (some G.gw)):=hR.cell_wt
    cases gk with
    | zero=>cases hgo
    | succ gk =>
      rcases qeu gk s t rel r hgo with ⟨hw,hre⟩ | ⟨⟨⟨tx,kx,ix⟩,pa⟩,rest,hw,hcase⟩
      · rw[hw]at hrow
        obtain⟨ra,rc,rfl⟩:=hrow.form;have HM:=(show Hid _ from hM);clear hgo hrow hw hM
        go_wp2_with fail
        go_ret
        rw[hre];exact⟨rfl,L1,G,hR,HM.out⟩
      · rw[hw]at hrow
        obtain⟨rg,ro,rc,rfl,_,hrgl,_⟩:=hrow.formp (by simp);have c1:wr.cell? ⟨rg,ro+1,none⟩=some (.int .i64 kx):=hrow.cell (j:=1) rfl
        have hl0:(0:Int)<((rest.length:Int)+1):=by omega
        have c96:=Try.try96 hR hs hN hw;have HC:=(show Hid _ from hcase);have HM:=(show Hid _ from hM);clear hcase hgo hrow hM
        go_wp2_with fail
        refine Calls.mono c96 ?_
        rintro e w2 (⟨hst,rfl,L2,G2,h2,M2⟩ | ⟨hst,rfl,L2,G2,h2,M2⟩)
        ·
          have c97:=Try.circle97 h2 hs h1 h6;clear c96 hlk qw c1
          go_wp2_with fail
          refine Calls.mono c97 ?_
          rintro e w3 ⟨⟨hrc,rfl⟩ | ⟨hrc,rfl⟩,B3⟩
          · have hre:r=(abortL s t,true):=by
              rcases HC.out with h | h | h
              · exact h.2.2
              · exact absurd hrc h.2.1
              · exact absurd hst h.1
            have M3:Mvs L L2 w w3:=(HM.out.trans M2).trans (Mvs.of_below B3);have h3:=h2.below B3;obtain⟨w4,ew4⟩:∃ w4,w4=w3.alloc (.cells #[.int .i64 t,.int .i64 3,.int .i64 0] 44):=⟨_,rfl⟩
            have h4:RunB base br w4 L2 G2 s:=by rw[ew4];exact h3.alloc _
            have M4:Mvs L L2 w w4:=by rw[ew4];exact M3.alloc _
            have n4:w4.heap[w3.heap.size]? = some (.cells #[.int .i64 t,.int .i64 3,.int .i64 0] 44 (0,0)):=by rw[ew4];exact heap_alloc_new w3 _
            have hdl:s.done.length≤1000000000:=by have:=hs.tot;omega
            have hal:s.ab.length≤1000000000:=by have:=hs.abl;omega
            have qd:w3.cell? ⟨br,12,none⟩=some G2.dv:=h3.cell_done;have r4:=h4.done;have i4:=h4.hi;have W4:=(show Hid (w4=_) from ew4);rw[ew4]at r4 n4 i4;have H4:=(show Hid _ from h4);have HS:=(show Hid _ from hs);clear c97 B3 M2 h2 h3 h4 ew4 M3 HM HC hs hw
            go_wp2_with (first
              | (at_builtin;refine NK (f:=⟨t,3,0⟩) rfl (.tmp 40) (.tmp 43) (by rfl) (by rfl) (by rfl) r4 i4 n4 hdl ?_;intro g5 off5 cap5 w5 L5 r5 g5';rw[← W4.out]at g5'
                 have nb5:w5.heap[br]? = some (.cells (Qi G2 s) 101 (0,0)):=(g5'.oth br H4.out.lt (by rw[H4.out.lbr];decide)).trans H4.out.blk
                 have d1:w5.frozen? ⟨br,12,none⟩=false:=by simp[World.frozen?,nb5]
                 have d2:w5.cell? ⟨br,12,none⟩=some G2.dv:=by simp[A6,nb5,Qi]
                 obtain⟨hC,MC⟩:=H4.out.pushDone (o:=⟨t,3,0⟩) g5' r5;obtain⟨GC,eGC⟩:∃ GC:Gst,GC={ G2 with dv:=.slice (some ⟨g5,off5,none⟩) (s.done.length+1) cap5 }:=⟨_,rfl⟩;rw[← eGC]at hC;obtain⟨sC,esC⟩:∃ sC:LS,sC={ s with done:=s.done++[⟨t,3,0⟩] }:=⟨_,rfl⟩;rw[← esC]at hC
                 have halC:sC.ab.length≤1000000000:=by rw[esC];exact hal
                 have ESC:=(show Hid _ from esC);clear esC eGC nb5;have qC:=hC.cell_ab;have hD:=hC.alloc (.cells #[.int .i64 t] 3);have rD:=hD.ab;have iD:=hD.hi
                 have nD:((w5.setCell ⟨br,12,none⟩ (.slice (some ⟨g5,off5,none⟩) (s.done.length+1) cap5)).alloc (.cells #[.int .i64 t] 3)).heap[w5.heap.size]? = some (.cells #[.int .i64 t] 3 (0,0)):=(by
                   have:=heap_alloc_new (w5.setCell ⟨br,12,none⟩ (.slice (some ⟨g5,off5,none⟩) (s.done.length+1) cap5)) (.cells #[.int .i64 t] 3);rw[Vo]at this
                   exact this))
              | (at_builtin;go_loud (refine NL (f:=t) rfl (.tmp 51) (.tmp 53) (by rfl) (by rfl) (by rfl) rD iD nD halC ?_);intro g6 off6 cap6 w6 L6 r6 g6'
                 have nb6:w6.heap[br]? = some (.cells (Qi GC sC) 101 (0,0)):=(g6'.oth br hD.lt (by rw[hD.lbr];decide)).trans hD.blk
                 have d3:w6.frozen? ⟨br,13,none⟩=false:=by simp[World.frozen?,nb6]
                 have d4:w6.cell? ⟨br,13,none⟩=some GC.av:=by simp[A6,nb6,Qi]
                 obtain⟨hE,ME⟩:=hD.pushAb (t:=t) g6' r6;obtain⟨GE,eGE⟩:∃ GE:Gst,GE={ GC with av:=.slice (some ⟨g6,off6,none⟩) (sC.ab.length+1) cap6 }:=⟨_,rfl⟩;rw[← eGE]at hE;obtain⟨sE,esE⟩:∃ sE:LS,sE={ sC with ab:=sC.ab++[t] }:=⟨_,rfl⟩;rw[← esE]at hE;have ESE:=(show Hid _ from esE);clear esE eGE nb6;have qE:=hE.cell_wt;obtain⟨o7,G7,hup7,hput7⟩:=hE.putW h1 h6 (w1:=w6.setCell ⟨br,13,none⟩ (.slice (some ⟨g6,off6,none⟩) (sC.ab.length+1) cap6)) (L1:=L6) ⟨Mvs.refl _ _,fun _ _=>rfl,fun _ _ _=>rfl,fun k e1 e2=>absurd (hE.hi k e1) e2⟩ (xs:=[]) (RowT.nil _ _ _ _ _);have hup8:=hup7 _ rfl
                 obtain⟨h8,M8⟩:=hput7 _ rfl)
              | fail)
            have c98:=Try.release98 h8 h1 h6;refine Calls.mono c98 ?_
            rintro e w9 ⟨rfl,L9,G9,h9,M9⟩
            go_wp2_with fail
            go_ret
            rw[hre]
            have hab:abortL s t=relL (putW sE t []) t:=by rw[ESE.out,ESC.out];rfl
            exact⟨rfl,L9,G9,by rw[hab];exact h9,((((M4.trans MC).trans ((Mvs.refl _ _).alloc _)).trans ME).trans M8).trans M9⟩
          · have hre:r=(s,rel):=by
              rcases HC.out with h | h | h
              · exact absurd h.2.1 hrc
              · exact h.2.2
              · exact absurd hst h.1
            have h3:=h2.below B3;have M3:Mvs L L2 w w3:=(HM.out.trans M2).trans (Mvs.of_below B3);clear c97
            go_wp2_with fail
            go_ret
            rw[hre];exact⟨rfl,L2,G2,h3,M3⟩
        ·
          have hgo2:goOnL gk (doL s t ⟨tx,kx,ix⟩ rest) t (rel || decide (1<kx))=some r:=by
            rcases HC.out with h | h | h
            · exact absurd h.1 hst
            · exact absurd h.1 hst
            · exact h.2
          have hs2:=hs.doL hw;have HG:=(show Hid _ from hgo2);have M2':Mvs L L2 w w2:=HM.out.trans M2;clear hgo2 c96 hlk qw c1 HC HM hw;cases rel
          all_goals
            go_wp2_with fail
            go_roundg gk
            case measure=>omega
            case rel=>exact⟨_,_,L2,G2,by simp,h2,hs2,M2',HG.out⟩
end Go.Proofs
namespace Go.Proofs
open Go.RowKit Go.AM
open Go.ChangeMaps (setBlock)
def BestIn (s:LS) (S:List Int) (b:Int):Prop:=(b=0∧∀ t,t∈S→¬ CanL s t)∨(b≠0∧CanL s b∧∀ t,t∈S→CanL s t→atL s b≤atL s t)
theorem BestIn.all {s:LS} {S:List Int} {b:Int} (h:BestIn s S b) (hS:∀ t,s.wt t≠[]→t∈S):BestL s b:=by
 have hc:∀ t,CanL s t→t∈S:=fun t ⟨p,r,e,_⟩=>hS t (by rw[e];simp)
 rcases h with ⟨h1,h2⟩ | ⟨h1,h2,h3⟩
 ·exact .inl ⟨h1,fun t ht=>h2 t (hc t ht) ht⟩
 ·exact .inr ⟨h1,h2,fun t ht=>h3 t (hc t ht) ht⟩
theorem BestIn.skip {s:LS} {S:List Int} {b f:Int} (h:BestIn s S b) (hf:¬ CanL s f):BestIn s (f::S) b:=by
 rcases h with ⟨h1,h2⟩ | ⟨h1,h2,h3⟩
 ·refine .inl ⟨h1,fun t ht=>?_⟩
  rcases List.mem_cons.1 ht with e | e
  ·rw[e];exact hf
  ·exact h2 t e
 ·refine .inr ⟨h1,h2,fun t ht hc=>?_⟩
  rcases List.mem_cons.1 ht with e | e
  ·rw[e]at hc;exact absurd hc hf
  ·exact h3 t e hc
theorem BestIn.put {s:LS} {S:List Int} {b f:Int} (h:BestIn s S b) (hf:CanL s f) (h0:f≠0) (hb:b=0∨atL s f<atL s b):BestIn s (f::S) f:=by
 refine .inr ⟨h0,hf,fun t ht hc=>?_⟩
 rcases List.mem_cons.1 ht with e | e
 ·rw[e];exact Int.le_refl _
 ·rcases h with ⟨h1,h2⟩ | ⟨h1,h2,h3⟩
  ·exact absurd hc (h2 t e)
  ·have:=h3 t e hc
   rcases hb with h | h
   ·exact absurd h h1
   ·omega
theorem BestIn.keep {s:LS} {S:List Int} {b f:Int} (h:BestIn s S b) (h0:b≠0) (hb:¬ atL s f<atL s b):BestIn s (f::S) b:=by
 rcases h with ⟨h1,h2⟩ | ⟨h1,h2,h3⟩
 ·exact absurd h1 h0
 ·refine .inr ⟨h1,h2,fun t ht hc=>?_⟩
  rcases List.mem_cons.1 ht with e | e
  ·rw[e];omega
  ·exact h3 t e hc
theorem WtB.entry {w:World} {L:Nat→Nat} {gw:Nat} {es:Array MapEntry} {ck:Nat} {bl:List (Int×List (hsOp×Int))} (h:WtB w L gw es ck bl) {e:MapEntry} (he:e∈es.toList) {f:Int} (hk:e.key=.int .i64 f) :
  1≤f∧f≤6∧RowT w L (20+f.toNat) 104 4 e.val (mget keq1 [] f bl).length (heldC (mget keq1 [] f bl)):=by
 obtain⟨j,hj,hje⟩:=List.getElem_of_mem he
 have hj':es[j]? = some e:=by
  have:j<es.size:=by simpa using hj
  rw[Array.getElem?_eq_getElem this,← hje];simp
 have hsz:es.size=bl.length:=by have:=h.ent.2.2.1;simpa[kH] using this.symm
 obtain⟨p,hp⟩:∃ p,bl[j]? = some p:=by
  have:=(Array.getElem?_eq_some_iff.1 hj').1;exact⟨_,D1 (by omega)⟩
 have h8:=h.ent.2.2.2.2.1 j (AV.int .i64 p.1) e (by simp[kH,hp]) hj';simp only[AV.keyV]at h8
 have hpf:p.1=f:=by
  split at h8
  ·have:=Option.some.inj h8;rw[hk]at this;cases this;rfl
  ·cases h8
 have hpm:=D2 hp;have hr:=h.rng p hpm;have hrow:=h.row j p e hp hj';rw[← DK [] bl p h.nd hpm,hpf]at hrow;rw[hpf]at hr;exact⟨hr.1,hr.2,hrow⟩
theorem WtB.iter {w:World} {L:Nat→Nat} {gw:Nat} {es:Array MapEntry} {ck:Nat} {bl:List (Int×List (hsOp×Int))} (h:WtB w L gw es ck bl) :
  ∃ ob,(Instr.range 96 (.map (some gw))).run Try.prog w=.ok (.pointer (some ⟨w.heap.size,0,none⟩)) (w.alloc ob)∧IterZ (w.alloc ob) w.heap.size gw es ck (bl.map A7):=by
 refine⟨_,run_range_map w 96 3 102 gw es ck Try.underlying96 h.at',IterZ.start (heap_alloc_new _ _) ?_ fun j f e hf he=>?_⟩
 ·have:=h.ent.2.2.1;simp[kH]at this ⊢;omega
 ·rw[List.getElem?_map,Option.map_eq_some_iff]at hf;obtain⟨p,hp,rfl⟩:=hf;have h8:=h.ent.2.2.2.2.1 j (AV.int .i64 p.1) e (by simp[kH,hp]) he;simp only[AV.keyV]at h8;split at h8
  ·exact (Option.some.inj h8).symm
  ·cases h8
theorem RunB.wt_keys {base br:Nat} {w:World} {L:Nat→Nat} {G:Gst} {s:LS} (h:RunB base br w L G s):∀ t,s.wt t≠[]→t∈G.bl.map A7:=by
 intro t ht;rw[h.hwt t]at ht
 rcases ZK t G.bl with ⟨j,l,a1,a2,a3,a4⟩ | ⟨a1,a2,a0,a3⟩
 ·exact List.mem_map.2 ⟨_,D2 a2,rfl⟩
 ·exact absurd a2 ht
theorem qcQ (m n:Nat) (s s2:LS) (h:retryL m (n+1) s=some s2):(bestL s=0∧s2=s)∨(bestL s≠0∧∃ r,goOnL m s (bestL s) false=some r∧retryL m n r.1=some s2):=by
 unfold retryL at h;split at h
 ·rename_i h1;exact .inl ⟨h1,(Option.some.inj h).symm⟩
 ·rename_i h1;obtain⟨r,h2,h3⟩:=ql h;exact .inr ⟨h1,r,h2,h3⟩
set_option maxHeartbeats 1000000 in
theorem Try.retry70 {N base br:Nat} {w:World} {L:Nat→Nat} {G:Gst} {s:LS} (h:RunB base br w L G s) (hs:OkS N s) (hN:N≤1000000) {m n:Nat} {s2:LS} (hr:retryL m n s=some s2) :
  Calls Try.prog 70 #[.pointer (some ⟨br,0,none⟩)] w fun e w'=>e=retU∧LkPost base br w L s2 w'∧OkS N s2:=by
 have mixed:=mixedP;have t3:=Try.underlying3;have a3:=Try.isAgg3;have z3:=Try.sizeOf3;have v3:=Try.zeroValue3;have u3:=run_underlying Try.underlying3;have t4:=Try.underlying4;have a4:=Try.isAgg4;have z4:=Try.sizeOf4;have v4:=Try.zeroValue4;have t24:=Try.underlying24;have a24:=Try.isAgg24;have z24:=Try.sizeOf24;have v24:=Try.zeroValue24;have u24:=run_underlying Try.underlying24;have t44:=Try.underlying44;have a44:=Try.isAgg44;have z44:=Try.sizeOf44;have v44:=Try.zeroValue44;have u44:=run_underlying Try.underlying44;have t96:=Try.underlying96;have a96:=Try.isAgg96;have z96:=Try.sizeOf96;have u96:=run_underlying Try.underlying96;have t101:=Try.underlying101;have a101:=Try.isAgg101;have z101:=Try.sizeOf101;have u101:=run_underlying Try.underlying101;have t102:=Try.underlying102;have a102:=Try.isAgg102;have z102:=Try.sizeOf102;have v102:=Try.zeroValue102;have u102:=run_underlying Try.underlying102;have t104:=Try.underlying104;have a104:=Try.isAgg104;have z104:=Try.sizeOf104;have u104:=run_underlying Try.underlying104;have HR:=(show Hid _ from hr);have HH:=(show Hid _ from h);clear hr h
 go_enter Try.func70,Try.ntmps70
 go_wp2_with fail
 go_loopg [] n (fun gf wx=>∃ (s':LS) (L':Nat→Nat) (G':Gst),RunB base br wx L' G' s'∧OkS N s'∧Mvs L L' w wx∧retryL m gf s'=some s2)
 case atStart=>exact⟨s,L,G,HH.out,hs,Mvs.refl _ _,HR.out⟩
 case round =>
  clear HR HH hs s G;obtain⟨s,L1,G,hR,hs,hM,hgo⟩:=hrel
  cases gk with
  | zero=>cases hgo
  | succ gq =>
   obtain⟨w7,rfl⟩:∃ w7,w7=wr:=⟨_,rfl⟩;have qw:w7.cell? ⟨br,14,none⟩=some (.map (some G.gw)):=hR.cell_wt;obtain⟨ob,hrg,hit⟩:=hR.wt.iter;have HGO:=(show Hid _ from qcQ _ _ _ _ hgo);have HM:=(show Hid _ from hM);have hst:=hR.wt.ent.1;have hnd:=hR.wt.nd;have hat:=hR.wt.at';have hgl:=hR.wt.lt;obtain⟨w8,ew8⟩:∃ w8,w8=w7.alloc ob:=⟨_,rfl⟩
   have z8:w8.heap.size=w7.heap.size+1:=by rw[ew8];simp
   have B8:Below w7.heap.size w7 w8:=by rw[ew8];exact (Below.refl _ _).alloc (A8 _) _
   have hit:IterZ w8 w7.heap.size G.gw G.es G.ck (G.bl.map A7):=by rw[ew8];exact hit
   have HW8:=(show Hid (w8=_) from ew8);clear hgo hM ew8
   go_wp2_with fail
   rw[← HW8.out]
   go_loopg [2] (G.bl.map A7).length (fun gi s2' wx=>∃ (rem S:List Int) (b:Int),s2'=.int .i64 b∧rem.length=gi∧Below w7.heap.size w7 wx∧w8.heap.size≤wx.heap.size∧IterZ wx w7.heap.size G.gw G.es G.ck rem∧rem.Nodup∧(∀ t,t∈G.bl.map A7→t∈S∨t∈rem)∧BestIn s S b)
   case atStart=>exact⟨_,[],0,rfl,rfl,B8,A8 _,hit,hnd,fun t ht=>.inr ht,.inl ⟨rfl,fun t ht=>(by cases ht)⟩⟩
   case round =>
    obtain⟨rem,S,b,rfl,hgi,hBr,hzr,hir,hndr,hcov,hbest⟩:=hrel;have hRr:=hR.below hBr;have hatr:wr.heap[G.gw]? = some (.map G.es G.ck):=hRr.wt.at'
    rcases hir.next hatr hst with ⟨rfl,hnx⟩ | ⟨j,f,e,wn,hj,hem,hek,hnx,hgn,hzn,hin,hent⟩
    ·have hBL:BestL s b:=hbest.all fun t ht=>by
      rcases hcov t (hR.wt_keys t ht) with h | h
      ·exact h
      ·cases h
     have hbe:=qhs hs hBL;by_cases hb0:b=0
     ·have hs2:s2=s:=by
       rcases HGO.out with h | h
       ·exact h.2
       ·exact absurd (hbe.trans hb0) h.1
      clear hbest hcov hBL hbe hir
      go_wp2_with fail
      refine bodyPost_ret (results_none rfl _ _ _) rfl ?_;refine⟨rfl,⟨L1,G,by rw[hs2];exact hRr,HM.out.trans (Mvs.of_below hBr)⟩,by rw[hs2];exact hs⟩
     ·obtain⟨r,hg1,hg2⟩:∃ r,goOnL m s b false=some r∧retryL m gq r.1=some s2:=by
       rcases HGO.out with h | h
       ·exact absurd (hbe.symm.trans h.1) hb0
       ·rw[hbe]at h;exact h.2
      have hrng:1≤b∧b≤6:=by
       rcases hBL with h | h
       ·exact absurd h.1 hb0
       ·obtain⟨p,q,e,_⟩:=h.2.1;exact hs.wtk b (by rw[e];simp)
      have c69:=Try.goOn69 hRr hs hN hrng.1 hrng.2 hg1;have hs3:=OkS.goOn _ _ _ _ _ hs hg1;have HG2:=(show Hid _ from hg2);clear hbest hcov hBL hbe hir hg1 hg2
      go_wp2_with fail
      refine Calls.mono c69 ?_
      rintro e w9 ⟨rfl,L9,G9,h9,M9⟩
      clear c69
      go_wp2_with fail
      go_roundg gq
      case measure=>omega
      case rel=>exact⟨_,L9,G9,h9,hs3,(HM.out.trans (Mvs.of_below hBr)).trans M9,HG2.out⟩
    ·obtain⟨d1,d2,d3⟩:=qdw hndr hj
     have Bn:Below w7.heap.size w7 wn:=⟨hgn.os.trans hBr.os,hgn.tape.trans hBr.tape,hgn.output.trans hBr.output,by have:=hBr.size;omega,fun k hk=>by
      rw[hgn.block k (by have:=hBr.size;omega) (fun e=>by cases e;omega)];exact hBr.block k hk⟩
     have hRn:=hR.below Bn;have hen:=hent wn rfl hRn.wt.at';obtain⟨hf1,hf6,hrow⟩:=hRn.wt.entry hem hek;rw[← hRn.hwt f]at hrow
     have hcov2:∀ t,t∈G.bl.map A7→t∈f::S∨t∈rem.eraseIdx j:=fun t ht=>by
      rcases hcov t ht with h | h
      ·exact .inl (.tail _ h)
      ·by_cases e:t=f
       ·rw[e];exact .inl (.head _)
       ·exact .inr ((d2 t).2 ⟨e,h⟩)
     have HB:=(show Hid _ from hbest);have HCOV:=(show Hid _ from hcov2);generalize e.val=ev at *
     have hB0:0≤b∧b≤6:=by
      rcases hbest with h | h
      ·omega
      ·obtain⟨p,q,e,_⟩:=h.2.1;have:=hs.wtk b (by rw[e];simp);omega
     clear hcov hcov2 hbest hir hgn
     cases hwf:s.wt f with
     | nil =>
      rw[hwf]at hrow;obtain⟨ra,rc,rfl⟩:=hrow.form
      have hnc:¬ CanL s f:=fun ⟨p,q,e,_⟩=>by rw[hwf]at e;cases e
      clear hrow hwf
      go_wp2_with fail
      go_quiet (fail)
      go_wp2_with fail
      go_roundg (rem.eraseIdx j).length
      case measure=>omega
      case rel=>exact⟨rem.eraseIdx j,f::S,b,rfl,rfl,⟨Bn.os,Bn.tape,Bn.output,Bn.size,Bn.block⟩,by show w8.heap.size≤wn.heap.size;omega,hin.of rfl,d1,HCOV.out,BestIn.skip HB.out hnc⟩
     | cons p rest =>
      obtain⟨⟨tx,kx,ix⟩,pa⟩:=p;have hop:=hs.wto f _ (by rw[hwf];exact .head _);rw[hwf]at hrow;obtain⟨rg,ro,rc,rfl,_,hrgl,_⟩:=hrow.formp (by simp)
      have c0:∀ d,({ wn with drawn:=d }:World).cell? ⟨rg,ro,none⟩=some (.int .i64 tx):=fun d=>hrow.cell (j:=0) rfl
      have c1:∀ d,({ wn with drawn:=d }:World).cell? ⟨rg,ro+1,none⟩=some (.int .i64 kx):=fun d=>hrow.cell (j:=1) rfl
      have c2:∀ d,({ wn with drawn:=d }:World).cell? ⟨rg,ro+2,none⟩=some (.int .i64 ix):=fun d=>hrow.cell (j:=2) rfl
      have c3:wn.cell? ⟨rg,ro+3,none⟩=some (.int .i64 pa):=hrow.cell (j:=3) rfl;have hrgl7:rg<wn.heap.size:=hrgl;have C3:=(show Hid _ from c3)
      have hrl:(0:Int)<((rest.length:Int)+1):=by omega
      clear c3;have hne0:(((rest.length:Int)+1) == 0)=false:=beq_eq_false_iff_ne.2 (by omega)
      have hne1:¬ ((rest.length:Int)+1=0):=by omega
      have hat:atL s f=pa:=by unfold atL;rw[hwf]
      have hHW:=(show Hid _ from hwf);have hOP:=(show Hid _ from hop);have hAT:=(show Hid _ from hat);clear hwf hrow hop hat;by_cases hk:kx≤1
      case' neg =>
       have hcan:CanL s f:=⟨_,_,hHW.out,fun h=>hk h.1⟩;have hk':decide (kx≤1)=false:=dF hk
       go_wp2_with fail
       go_quiet (fail)
       obtain⟨wZ,ewZ⟩:∃ wZ,wZ=wn.drewN nq:=⟨_,rfl⟩;rw[← ewZ]
       have BZ:Below w7.heap.size w7 wZ:=by rw[ewZ];exact⟨Bn.os,Bn.tape,Bn.output,Bn.size,Bn.block⟩
       have zZ:w8.heap.size≤wZ.heap.size:=by rw[ewZ];show w8.heap.size≤wn.heap.size;omega
       have iZ:IterZ wZ w7.heap.size G.gw G.es G.ck (rem.eraseIdx j):=by rw[ewZ];exact hin.of rfl
       have c3:wZ.cell? ⟨rg,ro+3,none⟩=some (.int .i64 pa):=by rw[ewZ];exact C3.out
       clear ewZ
      case' pos =>
       have hk':decide (kx≤1)=true:=dT hk;have c99:=Try.hinders99 hRn.drew hs hOP.out.1;have K0:wn.drew.cell? ⟨rg,ro,none⟩=some (.int .i64 tx)∧wn.drew.cell? ⟨rg,ro+1,none⟩=some (.int .i64 kx)∧wn.drew.cell? ⟨rg,ro+2,none⟩=some (.int .i64 ix):=⟨c0 _,c1 _,c2 _⟩
       go_wp2_with fail
       go_region_held3 (fun w'=>w'.cell? ⟨rg,ro,none⟩=some (.int .i64 tx)∧w'.cell? ⟨rg,ro+1,none⟩=some (.int .i64 kx)∧w'.cell? ⟨rg,ro+2,none⟩=some (.int .i64 ix)) (first | exact K0 | exact K1)
        (first | (go_at_call 99;refine Calls.mono c99 ?_;rintro e w2 ⟨hv,out,rfl,B2,R2,hl2,hm2⟩;obtain⟨oa,oc,rfl⟩:=R2.form;have K1:w2.cell? ⟨rg,ro,none⟩=some (.int .i64 tx)∧w2.cell? ⟨rg,ro+1,none⟩=some (.int .i64 kx)∧w2.cell? ⟨rg,ro+2,none⟩=some (.int .i64 ix):=⟨(B5 (B2.block rg hrgl)).trans (c0 _),(B5 (B2.block rg hrgl)).trans (c1 _),(B5 (B2.block rg hrgl)).trans (c2 _)⟩))
       have BZ:Below w7.heap.size w7 w2:=⟨B2.os.trans Bn.os,B2.tape.trans Bn.tape,B2.output.trans Bn.output,Nat.le_trans Bn.size B2.size,fun k hk=>by
        have h9:k<wn.drew.heap.size:=Nat.lt_of_lt_of_le hk Bn.size
        rw[B2.block k h9];exact Bn.block k hk⟩
       have zZ:w8.heap.size≤w2.heap.size:=by have h9:wn.heap.size≤w2.heap.size:=B2.size;omega
       have iZ:IterZ w2 w7.heap.size G.gw G.es G.ck (rem.eraseIdx j):=hin.of (B2.block _ (show w7.heap.size<wn.heap.size from hin.lt));have c3:w2.cell? ⟨rg,ro+3,none⟩=some (.int .i64 pa):=(B5 (B2.block rg hrgl)).trans C3.out;obtain⟨wZ,rfl⟩:∃ wZ,wZ=w2:=⟨_,rfl⟩;by_cases hout:out=[]
       case neg =>
        have hpos:(0:Int)<(out.length:Int):=by have:=List.length_pos_iff.2 hout;omega
        have hnc:¬ CanL s f:=fun ⟨p,q,e,hn⟩=>by
         rw[hHW.out]at e;cases e
         cases out with
         | nil=>exact hout rfl
         | cons y ys=>exact hn ⟨hk,y,(hm2 y).1 (.head _)⟩
        clear hout
        go_wp2_with fail
        go_roundg (rem.eraseIdx j).length
        case measure=>omega
        case rel=>exact⟨rem.eraseIdx j,f::S,b,rfl,rfl,BZ,zZ,iZ,d1,HCOV.out,BestIn.skip HB.out hnc⟩
       case' pos =>
        have hcan:CanL s f:=⟨_,_,hHW.out,fun ⟨_,y,hy⟩=>by
         have:=(hm2 y).2 hy;rw[hout]at this
         cases this⟩
        have hlz:out.length=0:=by rw[hout];rfl
        rw[hlz];clear hlz hout hm2 R2 K0 K1 c99 B2
      all_goals
       have hRz:=hR.below BZ;obtain⟨vf,hlf,hrf⟩:=hRz.row (by omega:0≤f) hf6;have qz:wZ.cell? ⟨br,14,none⟩=some (.map (some G.gw)):=hRz.cell_wt;clear c0 c1 c2 hk hk';by_cases hb0:b=0
       ·subst hb0
        have hB1:BestIn s S 0:=by
         rcases HB.out with h | h
         ·exact .inl ⟨rfl,h.2⟩
         ·exact absurd rfl h.1
        have HB1:=(show Hid (BestIn s S 0) from hB1);clear hlf hrf hB1
        go_wp2_with fail
        go_quiet (fail)
        go_wp2_with fail
        go_roundg (rem.eraseIdx j).length
        case measure=>omega
        case rel=>exact⟨rem.eraseIdx j,f::S,f,rfl,rfl,⟨BZ.os,BZ.tape,BZ.output,BZ.size,BZ.block⟩,zZ,iZ.of rfl,d1,HCOV.out,BestIn.put HB1.out hcan (by omega) (.inl rfl)⟩
       ·obtain⟨⟨qo,qa⟩,qrest,hwb⟩:∃ p r,s.wt b=p::r:=by
         rcases HB.out with h | h
         ·exact absurd h.1 hb0
         ·obtain⟨p,r,e,_⟩:=h.2.1;exact⟨p,r,e⟩
        obtain⟨vb,hlb,hrb⟩:=hRz.row hB0.1 hB0.2;rw[hwb]at hrb;obtain⟨bg,bo,bc,rfl,_,_,_⟩:=hrb.formp (by simp);have e3:wZ.cell? ⟨bg,bo+3,none⟩=some (.int .i64 qa):=hrb.cell (j:=3) rfl
        have hatb:atL s b=qa:=by unfold atL;rw[hwb]
        have hlb2:∀ n,(Instr.lookup 96 (.map (some G.gw)) (.int .i64 b) false).run Try.prog (wZ.drewN n)=.ok (.slice (some ⟨bg,bo,none⟩) (qrest.length+1) bc) (wZ.drewN n):=fun n=>hlb (wZ.drewN n) rfl
        have hbl:(0:Int)<((qrest.length:Int)+1):=by omega
        have hb0':(b == 0)=false:=beq_eq_false_iff_ne.2 hb0;have HATB:=(show Hid _ from hatb);clear hlf hrf hlb hrb hwb hatb;by_cases hlt:pa<qa
        ·have hlt':decide (pa<qa)=true:=dT hlt
         go_wp2_with fail
         go_quiet (fail)
         go_wp2_with fail
         go_roundg (rem.eraseIdx j).length
         case measure=>omega
         case rel=>exact⟨rem.eraseIdx j,f::S,f,rfl,rfl,⟨BZ.os,BZ.tape,BZ.output,BZ.size,BZ.block⟩,zZ,iZ.of rfl,d1,HCOV.out,BestIn.put HB.out hcan (by omega) (.inr (by rw[hAT.out,HATB.out];exact hlt))⟩
        ·have hlt':decide (pa<qa)=false:=dF hlt
         go_wp2_with fail
         go_quiet (fail)
         go_wp2_with fail
         go_roundg (rem.eraseIdx j).length
         case measure=>omega
         case rel=>exact⟨rem.eraseIdx j,f::S,b,rfl,rfl,⟨BZ.os,BZ.tape,BZ.output,BZ.size,BZ.block⟩,zZ,iZ.of rfl,d1,HCOV.out,BestIn.keep HB.out hb0 (by rw[hAT.out,HATB.out];omega)⟩
end Go.Proofs
namespace Go.AM
theorem qhN {s:LS} {t:Int} {p:hsOp×Int} {rest:List (hsOp×Int)} (hw:s.wt t=p::rest):∀ x q,q∈(doL s t p.1 rest).wt x→q∈s.wt x:=by
 intro x q hq
 have hq2:q∈if x=t then rest else s.wt x:=by
  unfold doL at hq;split at hq
  ·unfold takeL at hq;split at hq <;> exact hq
  ·exact hq
 clear hq;split at hq2
 ·rename_i hx;rw[hx,hw];exact .tail _ hq2
 ·exact hq2
theorem qeH {s:LS} {t:Int}:∀ x q,q∈(abortL s t).wt x→q∈s.wt x:=by
 intro x q hq
 have hq:q∈if x=t then [] else s.wt x:=hq
 split at hq
 ·cases hq
 ·exact hq
theorem Ur:∀ (n:Nat) (s:LS) (t:Int) (rel:Bool) (r:LS×Bool),goOnL n s t rel=some r→∀ x q,q∈r.1.wt x→q∈s.wt x
 | 0,_,_,_,_,e=>by cases e
 | n+1,s,t,rel,r,e=>by
  unfold goOnL at e
  cases hw:s.wt t with
  | nil=>rw[hw]at e;cases e;exact fun _ _ h=>h
  | cons p rest =>
   rw[hw]at e;simp only at e;split at e
   ·split at e
    ·cases e;exact qeH
    ·cases e;exact fun _ _ h=>h
   ·exact fun x q hq=>qhN hw x q (Ur n _ _ _ _ e x q hq)
theorem DC (m:Nat):∀ (n:Nat) (s s2:LS),retryL m n s=some s2→∀ x q,q∈s2.wt x→q∈s.wt x
 | 0,_,_,e=>by cases e
 | n+1,s,s2,e=>by
  unfold retryL at e;split at e
  ·cases e;exact fun _ _ h=>h
  ·obtain⟨r,h1,h2⟩:=ql e
   exact fun x q hq=>Ur m _ _ _ _ h1 x q (DC m n _ _ h2 x q hq)
theorem qaW {N:Nat} (m:Nat):∀ (n:Nat) (s s2:LS),OkS N s→retryL m n s=some s2→OkS N s2
 | 0,_,_,_,e=>by cases e
 | n+1,s,s2,h,e=>by
  unfold retryL at e;split at e
  ·cases e;exact h
  ·obtain⟨r,h1,h2⟩:=ql e;exact qaW m n _ _ (OkS.goOn m _ _ _ _ h h1) h2
structure OkK (k:Nat) (s:LS):Prop where
 ok:OkS k s
 at':∀ t p,p∈s.wt t→p.2<(k:Int)
theorem OkK.push {k:Nat} {s:LS} (h:OkK k s) (hk:k<1000000) {o:hsOp} (ho:OkOp o):OkK (k+1) (putW s o.qb (s.wt o.qb++[(o,(k:Int))])):=by
 obtain⟨⟨h1,h2,h3,h4,h5,h6,h7⟩,h8⟩:=h
 have hmem:∀ x q,q∈(putW s o.qb (s.wt o.qb++[(o,(k:Int))])).wt x→q∈s.wt x∨(x=o.qb∧q=(o,(k:Int))):=by
  intro x q hq
  have hq:q∈if x=o.qb then s.wt o.qb++[(o,(k:Int))] else s.wt x:=hq
  split at hq
  ·rename_i hx
   rcases List.mem_append.1 hq with h | h
   ·rw[hx];exact .inl h
   ·exact .inr ⟨hx,List.mem_singleton.1 h⟩
  ·exact .inl hq
 obtain⟨q,e1,e2⟩:=Dh (s:=s) ho.1 ho.2.1;refine⟨⟨?_,h2,h3,h4,fun x hx=>?_,fun x p hp=>?_,fun x y p q hp hq he=>?_⟩,fun x p hp=>?_⟩
 ·rw[e2];show s.done.length+_≤_;simp;omega
 ·obtain⟨p,hp⟩:=List.exists_mem_of_ne_nil _ hx
  rcases hmem x p hp with h | ⟨h,_⟩
  ·exact h5 x (List.ne_nil_of_mem h)
  ·rw[h];exact⟨ho.1,ho.2.1⟩
 ·rcases hmem x p hp with h | ⟨h,h'⟩
  ·exact h6 x p h
  ·rw[h,h'];exact⟨ho,rfl,by omega,by show (k:Int)<1000000;omega⟩
 ·rcases hmem x p hp with h | ⟨h,h'⟩
  ·rcases hmem y q hq with g | ⟨g,g'⟩
   ·exact h7 x y p q h g he
   ·have:=h8 x p h;rw[he,g']at this;exact absurd this (by simp)
  ·rcases hmem y q hq with g | ⟨g,g'⟩
   ·have:=h8 y q g;rw[← he,h']at this;exact absurd this (by simp)
   ·rw[h,g]
 ·rcases hmem x p hp with h | ⟨h,h'⟩
  ·have:=h8 x p h;omega
  ·rw[h'];show (k:Int)<((k+1:Nat):Int);omega
theorem OkS.mono {N N':Nat} {s:LS} (h:OkS N s) (hN:N≤N'):OkS N' s:=⟨Nat.le_trans h.tot hN,h.abl,h.sh,h.ex,h.wtk,h.wto,h.one⟩
theorem OkK.step {k:Nat} {s s2:LS} {m:Nat} (h:OkK k s) (hk:k<1000000) {o:hsOp} (ho:OkOp o) (e:stepL m s o k=some s2):OkK (k+1) s2:=by
 unfold stepL at e;split at e
 ·cases e;exact⟨h.ok.mono (by omega),fun t p hp=>by have:=h.at' t p hp;omega⟩
 ·have hp:=h.push hk ho;split at e
  ·cases e;exact hp
  ·rename_i hne
   have hne:s.wt o.qb=[]:=by
    cases hw:s.wt o.qb with
    | nil=>rfl
    | cons a b=>rw[hw]at hne;exact absurd (by simp) hne
   rw[hne]at hp;obtain⟨r,h1,h2⟩:=ql e;have hp:OkK (k+1) (putW s o.qb [(o,(k:Int))]):=hp;have hr:=OkS.goOn m _ _ _ _ hp.ok h1;split at h2
   ·exact⟨qaW m m _ _ hr h2,fun t p hq=>hp.at' t p (Ur m _ _ _ _ h1 t p (DC m m _ _ h2 t p hq))⟩
   ·cases h2;exact⟨hr,fun t p hq=>hp.at' t p (Ur m _ _ _ _ h1 t p hq)⟩
theorem OkK.zero:OkK 0 LS.zero:=⟨⟨by simp[LS.zero,wtot],by simp[LS.zero],fun _ _ h=>(by cases h),fun _=>by simp[LS.zero],fun t h=>absurd rfl h,fun _ _ h=>(by cases h),fun _ _ _ _ h=>(by cases h)⟩,fun _ _ h=>(by cases h)⟩
noncomputable def lockP (m:Nat) (h:List hsOp):Option (List hsOp×List Int×Int) :=
 (XF h).bind fun v=>bif v then (chk (decide (h.length≤100000)) ((open Classical in if ∀ o∈h,OkOp o then runL m LS.zero 0 h else none).bind fun s=>some (s.done,s.ab,0))) else some ([],[],2)
end Go.AM
namespace Go.Proofs
open Go.RowKit Go.AM
open Go.ChangeMaps (setBlock)
theorem Try.contains_T {w:World} {L:Nat→Nat} {role:Nat} {v:Value} {c:List Int} {t:Int} (hl:c.length≤100000) (h:RowT w L role 3 1 v c.length (intsV c)):Calls Try.prog 39 #[v,.int .i64 t] w fun e w'=>e=.returned (.bool (c.contains t))∧Below w.heap.size w w':=by
 have hR:R (mc w) (.lst 3 1 none (cL c)) v:=by
  rcases h.2 with ⟨rfl,h0⟩ | ⟨g,off,cap,cur,rfl,hr,hg,hn,hm,hs,ht⟩
  ·have:c=[]:=B9 h0;subst this;exact .lstn _ _ _
  ·refine qff hn fun j hj=>?_
   have hu:(intsV c)[j]? = some (.int .i64 c[j]):=by simp[intsV,hj]
   rw[← ht,D3]at hu;split at hu
   ·rw[D4,D5]at hu;exact qgT hg hu rfl
   ·cases hu
 refine (DB (XL c t _ (VB hl t)) (mc w) w [v,.int .i64 t] (glob0 _) (fun _ _ _ h=>h) rfl (fun j a b ha hb=>?_)).mono ?_
 ·match j,ha,hb with
  | 0,ha,hb=>cases ha;cases hb;exact hR
  | 1,ha,hb=>cases ha;cases hb;exact .int _ _
 ·rintro e w' ⟨v',M',rfl,hB,_,_,_,hr,_⟩
  cases hr;exact⟨rfl,hB⟩
theorem RowT.intsR {M:Mem} {w:World} {L:Nat→Nat} {role B:Nat} {v:Value} {c:List Int} (h:RowT w L role 3 1 v c.length (intsV c)) (hB:∀ k,L k=role→B≤k):R (mtail M B w) (.lst 3 1 none (cL c)) v:=by
 rcases h.2 with ⟨rfl,h0⟩ | ⟨g,off,cap,cur,rfl,hr,hg,hn,hm,hs,ht⟩
 ·have:c=[]:=B9 h0;subst this;exact .lstn _ _ _
 ·refine qff hn fun j hj=>?_
  have hu:(intsV c)[j]? = some (.int .i64 c[j]):=by simp[intsV,hj]
  rw[← ht,D3]at hu;split at hu
  ·rw[D4,D5]at hu;rw[qbf (hB g hr)];exact qgT hg hu rfl
  ·cases hu
theorem RowT.opsR {M:Mem} {w:World} {L:Nat→Nat} {role B:Nat} {v:Value} {l:List hsOp} (h:RowT w L role 44 3 v l.length (opsC l)) (hB:∀ k,L k=role→B≤k):R (mtail M B w) (l44 none l) v:=by
 rcases h.2 with ⟨rfl,h0⟩ | ⟨g,off,cap,cur,rfl,hr,hg,hn,hm,hs,ht⟩
 ·have:l=[]:=B9 h0;subst this;exact .lstn _ _ _
 ·have hcell:∀ (j:Nat) u,(opsC l)[j]? = some u→cur[off+j]? = some u:=fun j u hu=>by
   rw[← ht,D3]at hu;split at hu
   ·rw[D4,D5]at hu;exact hu
   ·cases hu
  have hfl:∀ (j:Nat) c,(flat (l.map jf))[j]? = some c→∃ u,(opsC l)[j]? = some u∧isTup u=false∧∀ M,R M c u:=by
   clear h ht hcell hn
   induction l with
   | nil=>intro j c hc;simp[flat]at hc
   | cons f l ih =>
    intro j c hc;have e1:flat ((f::l).map jf)=[.int .i64 f.qb,.int .i64 f.qh,.int .i64 f.qi]++flat (l.map jf):=rfl;have e2:opsC (f::l)=[.int .i64 f.qb,.int .i64 f.qh,.int .i64 f.qi]++opsC l:=rfl;rw[e1]at hc;rw[e2]
    match j,hc with
    | 0,hc | 1,hc | 2,hc=>cases hc;exact⟨_,rfl,rfl,fun M=>.int _ _⟩
    | j+3,hc =>
     have:∀ {α:Type} (a b c:α) (r:List α),([a,b,c]++r)[j+3]? = r[j]?:=fun a b c r=>by simp
     rw[this]at hc ⊢;exact ih j c hc
  have hl:(l.map jf).length=l.length:=A9 _;show R _ (.lst 44 3 none (l.map jf)) (.slice (some ⟨g,off,none⟩) l.length cap);rw[← hl];refine .lst (fun j=>(opsC l).getD j undef) (by rw[hl];exact hn) (fun x hx=>?_) (fun x hx=>?_) (fun j c hc=>?_) (fun j c hc=>?_)
  ·obtain⟨z,_,rfl⟩:=List.mem_map.1 hx;rfl
  ·obtain⟨z,_,rfl⟩:=List.mem_map.1 hx;rfl
  ·obtain⟨u,h1,h2,h3⟩:=hfl j c hc;rw[D9,h1,qbf (hB g hr)];exact qgT hg (hcell j u h1) h2
  ·obtain⟨u,h1,h2,h3⟩:=hfl j c hc;rw[D9,h1];exact h3 _
theorem NN {ops:Array Oper} {o:Oper} {a:Act} {w:World} {K:Act→World→Prop} {Q:Exit→Act→World→Prop} {E:Prop} (hgd:o.guard=none) (s x:Operand) (ho:o.op=.call { callee:=.builtin .append,args:=#[s,x],argTypes:=#[102,102] }) {L:Nat→Nat} {role:Nat} (hr0:role≠0) {v:Value} {n:Nat} {xs:List Value} {f:hsOp} {k:Int} {b c0:Nat} {fz:Nat×Nat}
  (hs:a.eval s=v) (hx:a.eval x=.slice (some ⟨b,0,none⟩) 1 c0) (hown:RowT w L role 104 4 v n xs) (hi:∀ k,w.heap.size≤k→L k=0) (hb:w.heap[b]? = some (.cells #[.int .i64 f.qb,.int .i64 f.qh,.int .i64 f.qi,.int .i64 k] 104 fz)) (hlen:n≤1000000000)
  (h:∀ g off cap w' L',RowT w' L' role 104 4 (.slice (some ⟨g,off,none⟩) (n+1) cap) (n+1) (xs++[.int .i64 f.qb,.int .i64 f.qh,.int .i64 f.qi,.int .i64 k])→Grw role L L' w w'→K (a.put o.dst (.slice (some ⟨g,off,none⟩) (n+1) cap)) w'):if Region.wanted o (yielded ops a.tmps)=true then Oper.wp Try.prog o a w K Q else E :=
 ZQ hgd s x 102 ho hi hr0 104 _ 4 32 Try.underlying102 Try.info104 rfl (by decide) hs hown (ad:=⟨b,0,none⟩) (news:=[.int .i64 f.qb,.int .i64 f.qh,.int .i64 f.qi,.int .i64 k]) hx rfl (D8 hb) (by simp[Value.oneCell']) (by simp only[maxLen];omega) (by omega) h
end Go.Proofs
namespace Go.Proofs
open Go.RowKit Go.AM
open Go.ChangeMaps (setBlock)
theorem qfv (m:Nat) (s:LS) (i:Int) (o:hsOp) (l:List hsOp) (s2:LS) (h:runL m s i (o::l)=some s2):∃ s',stepL m s o i=some s'∧runL m s' (i+1) l=some s2:=ql h
theorem qcE {m:Nat} {s s':LS} {o:hsOp} {i:Int} (h:stepL m s o i=some s'):(o.qb∈s.ab∧s'=s)∨(o.qb ∉ s.ab∧((s.wt o.qb≠[]∧s'=putW s o.qb (s.wt o.qb++[(o,i)]))∨(s.wt o.qb=[]∧∃ r,goOnL m (putW s o.qb (s.wt o.qb++[(o,i)])) o.qb false=some r∧((r.2=true∧retryL m m r.1=some s')∨(r.2=false∧s'=r.1))))):=by
 unfold stepL at h;split at h
 ·rename_i h1;exact .inl ⟨h1,(Option.some.inj h).symm⟩
 ·rename_i h1;refine .inr ⟨h1,?_⟩;split at h
  ·rename_i h2;exact .inl ⟨h2,(Option.some.inj h).symm⟩
  ·rename_i h2
   have hne:s.wt o.qb=[]:=by
    cases hw:s.wt o.qb with
    | nil=>rfl
    | cons a b=>rw[hw]at h2;exact absurd (by simp) h2
   obtain⟨r,h3,h4⟩:=ql h;refine .inr ⟨hne,r,by rw[hne];exact h3,?_⟩;split at h4
   ·rename_i h5;exact .inl ⟨h5,h4⟩
   ·rename_i h5;exact .inr ⟨by simpa using h5,(Option.some.inj h4).symm⟩
set_option maxHeartbeats 8000000 in
theorem Try.lock32 {m:Nat} {h:List hsOp} {r:List hsOp×List Int×Int} (hp:lockP m h=some r):CallOk Try.prog 32 [l44 none h] (.tup [l44 none r.1,.lst 3 1 none (cL r.2.1),.int .i64 r.2.2]):=by
 intro M w vs hG hC hl hR
 obtain⟨v0,rfl⟩:∃ v0,vs=[v0]:=by
  match vs,hl with
  | [v0],_=>exact⟨v0,rfl⟩
 have r0:R M (l44 none h) v0:=hR 0 _ v0 rfl rfl;clear hR hl hG;show Calls Try.prog 32 [v0].toArray w (qbK M w (.tup [l44 none r.1,.lst 3 1 none (cL r.2.1),.int .i64 r.2.2]));unfold lockP at hp;obtain⟨ok,hv,hp⟩:=ql hp;have mixed:=mixedP;have t3:=Try.underlying3;have a3:=Try.isAgg3;have z3:=Try.sizeOf3;have v3:=Try.zeroValue3;have u3:=run_underlying Try.underlying3;have t4:=Try.underlying4;have a4:=Try.isAgg4;have z4:=Try.sizeOf4;have v4:=Try.zeroValue4;have t24:=Try.underlying24;have a24:=Try.isAgg24;have z24:=Try.sizeOf24;have v24:=Try.zeroValue24;have u24:=run_underlying Try.underlying24;have t29:=Try.underlying29;have a29:=Try.isAgg29;have z29:=Try.sizeOf29;have v29:=Try.zeroValue29;have u29:=run_underlying Try.underlying29;have t44:=Try.underlying44;have a44:=Try.isAgg44;have z44:=Try.sizeOf44;have v44:=Try.zeroValue44;have u44:=run_underlying Try.underlying44;have t83:=Try.underlying83;have a83:=Try.isAgg83;have z83:=Try.sizeOf83;have v83:=Try.zeroValue83;have u83:=run_underlying Try.underlying83;have t88:=Try.underlying88;have a88:=Try.isAgg88;have z88:=Try.sizeOf88;have u88:=run_underlying Try.underlying88;have t96:=Try.underlying96;have a96:=Try.isAgg96;have z96:=Try.sizeOf96;have v96:=Try.zeroValue96;have u96:=run_underlying Try.underlying96;have t97:=Try.underlying97;have a97:=Try.isAgg97;have z97:=Try.sizeOf97;have u97:=run_underlying Try.underlying97;have t99:=Try.underlying99;have a99:=Try.isAgg99;have z99:=Try.sizeOf99;have u99:=run_underlying Try.underlying99;have t101:=Try.underlying101;have a101:=Try.isAgg101;have z101:=Try.sizeOf101;have v101:=Try.zeroValue101;have u101:=run_underlying Try.underlying101;have t102:=Try.underlying102;have a102:=Try.isAgg102;have z102:=Try.sizeOf102;have v102:=Try.zeroValue102;have u102:=run_underlying Try.underlying102;have t104:=Try.underlying104;have a104:=Try.isAgg104;have z104:=Try.sizeOf104;have v104:=Try.zeroValue104;have u104:=run_underlying Try.underlying104;have hmm:=@run_makeMap Try.prog;have c26:=DB (Yh h ok hv) M w [v0] (glob0 M) hC rfl (fun j a b ha hb=>by match j,ha,hb with | 0,ha,hb=>cases ha;cases hb;exact r0)
 cases ok with
 | false =>
  cases hp
  go_enter Try.func32,Try.ntmps32
  go_wp2_with fail
  refine Calls.mono c26 ?_
  rintro e w1 ⟨v,M1,rfl,hB1,s1,C1,o1,r1,_⟩
  cases r1;clear c26
  go_wp2_with fail
  go_ret3
  refine⟨_,M1,rfl,hB1,s1,C1,o1,?_,trivial⟩;refine .tup (vs:=[.slice none 0 0,.slice none 0 0,.int .i64 2]) rfl (fun j c v hc hv=>?_)
  match j,hc,hv with
  | 0,hc,hv=>cases hc;cases hv;exact .lstn _ _ _
  | 1,hc,hv=>cases hc;cases hv;exact .lstn _ _ _
  | 2,hc,hv=>cases hc;cases hv;exact .int _ _
 | true =>
  simp only[cT]at hp;obtain⟨hlen,hp⟩:=qq hp;have hlen:=of_decide_eq_true hlen;obtain⟨se,hse,hp⟩:=ql hp;have hp:=Option.some.inj hp
  obtain⟨hok,hrun⟩:(∀ o∈h,OkOp o)∧runL m LS.zero 0 h=some se:=by
   split at hse
   ·rename_i h1;exact⟨h1,hse⟩
   ·cases hse
  clear hse hv;obtain⟨ha,hcap,rfl,hops⟩:=qgP r0;have HP:=(show Hid _ from hp);have HRUN:=(show Hid _ from hrun);clear hp hrun r0
  go_enter Try.func32,Try.ntmps32
  go_wp2_with fail
  refine Calls.mono c26 ?_
  rintro e w1 ⟨v,M1,rfl,hB1,s1,C1,o1,r1,_⟩
  cases r1;clear c26
  go_wp2_with fail
  obtain⟨w2,ew2⟩:∃ w2,w2=(w1.alloc (.map #[] 0)).alloc (.cells #[.map none,.map none,.map none,.map none,.map none,.map none,.int .i64 0,.int .i64 0,.int .i64 0,.int .i64 0,.int .i64 0,.int .i64 0,.slice none 0 0,.slice none 0 0,.map (some w1.heap.size)] 101):=⟨_,rfl⟩
  have z2:w2.heap.size=w1.heap.size+2:=by rw[ew2];simp
  have B2:Below w1.heap.size w1 w2:=by rw[ew2];exact ((Below.refl _ _).alloc (A8 _) _).alloc (by simp) _
  have n20:w2.heap[w1.heap.size]? = some (.map #[] 0):=by rw[ew2,heap_alloc_old _ _ (by simp)];exact heap_alloc_new _ _
  have n21:w2.heap[w1.heap.size+1]? = some (.cells #[.map none,.map none,.map none,.map none,.map none,.map none,.int .i64 0,.int .i64 0,.int .i64 0,.int .i64 0,.int .i64 0,.int .i64 0,.slice none 0 0,.slice none 0 0,.map (some w1.heap.size)] 101 (0,0)):=by
   rw[ew2];have:=heap_alloc_new (w1.alloc (.map #[] 0)) (.cells #[.map none,.map none,.map none,.map none,.map none,.map none,.int .i64 0,.int .i64 0,.int .i64 0,.int .i64 0,.int .i64 0,.int .i64 0,.slice none 0 0,.slice none 0 0,.map (some w1.heap.size)] 101)
   simpa using this
  obtain⟨L0,hL0⟩:∃ L0:Nat→Nat,L0=fun k=>if k=w1.heap.size+1 then 1 else if k=w1.heap.size then 2 else 0:=⟨_,rfl⟩
  have hR0:RunB w1.heap.size (w1.heap.size+1) w2 L0 ⟨fun _=>none,.slice none 0 0,.slice none 0 0,w1.heap.size,#[],0,[]⟩ LS.zero:=by
   refine⟨n21,by rw[hL0];simp,fun k hk=>by rw[hL0];simp only;rw[if_neg (by omega),if_neg (by omega)],fun k hk=>?_,fun i hi=>.inl ⟨rfl,fun x=>rfl⟩,RowT.nil _ _ _ _ _,RowT.nil _ _ _ _ _,by rw[hL0];simp,⟨n20,⟨(MapKept.stamped_iff _ _).2 ⟨by simp,by simp,by simp⟩,Nat.zero_le _,rfl,rfl,fun j k e hk=>by simp at hk,fun j k e hk=>by simp at hk⟩,by simp,fun p hp=>(by cases hp),fun j p e hp=>by simp at hp⟩,fun t=>rfl⟩;rw[hL0]at hk;simp only at hk;by_cases e1:k=w1.heap.size+1
   ·omega
   ·rw[if_neg e1]at hk;by_cases e2:k=w1.heap.size
    ·omega
    ·rw[if_neg e2]at hk;exact absurd rfl hk
  have hlow:∀ k,k<w1.heap.size→L0 k=0:=fun k hk=>by rw[hL0];simp only;rw[if_neg (by omega),if_neg (by omega)]
  have BB:Below w.heap.size w w2:=hB1.trans (B2.mono hB1.size)
  have hC2:∀ (wx:World) (Lx:Nat→Nat),Mvs L0 Lx w2 wx→Cons M1 wx:=fun wx Lx hM=>C1.of_blocks fun b o u hu hb=>by
   rw[hM.keep b (by omega) (hlow b hb)];exact B2.block b hb
  rw[← ew2];clear ew2 n20 n21 hL0
  go_loopg [17] h.length (fun gf s17 wx=>∃ (k:Nat) (s':LS) (L':Nat→Nat) (G':Gst),s17=.int .i64 (k:Int)∧k+gf=h.length∧RunB w1.heap.size (w1.heap.size+1) wx L' G' s'∧OkK k s'∧Mvs L0 L' w2 wx∧runL m s' (k:Int) (h.drop k)=some se)
  case atStart=>exact⟨0,LS.zero,L0,_,rfl,by omega,hR0,OkK.zero,Mvs.refl _ _,HRUN.out⟩
  case round =>
   clear HRUN hR0;obtain⟨k,s,L1,G,rfl,hkg,hR,hK,hM,hrun⟩:=hrel;obtain⟨w7,rfl⟩:∃ w7,w7=wr:=⟨_,rfl⟩
   rcases D0 k h.length with hk1 | hk1
   ·obtain⟨b,off,rfl,e0,e1,e2⟩:=hops k _ (D1 hk1);have hxo:=hok _ (List.getElem_mem hk1);rw[List.drop_eq_getElem_cons hk1]at hrun;have hCr:=hC2 _ _ hM;have q0:=YL (hCr _ _ _ (s1 _ _ _ e0)) rfl;have q1:=YL (hCr _ _ _ (s1 _ _ _ e1)) rfl;have q2:=YL (hCr _ _ _ (s1 _ _ _ e2)) rfl;have j0:(0:Int)≤(k:Int):=Int.natCast_nonneg _
    have j1:(k:Int)<(h.length:Int):=by omega
    generalize h[k]=x at hrun q0 q1 q2 hxo e0 e1 e2;obtain⟨tx,kx,ix⟩:=x;simp only at q0 q1 q2;obtain⟨s3,hstep,hrun2⟩:=qfv m s _ _ _ _ hrun;have hK3:=hK.step (by omega) hxo hstep;have hx16:1≤tx∧tx≤6:=⟨hxo.1,hxo.2.1⟩;have hrun2:runL m s3 ((k+1:Nat):Int) (h.drop (k+1))=some se:=hrun2;have HRUN2:=(show Hid _ from hrun2);have HST:=(show Hid _ from qcE hstep);have hpush:=hK.push (by omega) hxo;have HPU:=(show Hid _ from hpush);have HXO:=(show Hid _ from hxo);obtain⟨w3,ew3⟩:∃ w3,w3=w7.alloc (.cells #[.int .i64 tx,.int .i64 kx,.int .i64 ix] 44):=⟨_,rfl⟩
    have h3:RunB w1.heap.size (w1.heap.size+1) w3 L1 G s:=by rw[ew3];exact hR.alloc _
    have M3:Mvs L1 L1 w7 w3:=by rw[ew3];exact (Mvs.refl _ _).alloc _
    have n3:w3.heap[w7.heap.size]? = some (.cells #[.int .i64 tx,.int .i64 kx,.int .i64 ix] 44 (0,0)):=by rw[ew3];exact heap_alloc_new _ _
    have hL7:L1 w7.heap.size=0:=hR.hi _ (A8 _)
    have p0:∀ d,({ w3 with drawn:=d }:World).cell? ⟨w7.heap.size,0,none⟩=some (.int .i64 tx):=fun d=>by simp[A6,n3]
    have p13:∀ d,({ w3 with drawn:=d }:World).cell? ⟨w1.heap.size+1,13,none⟩=some G.av:=fun d=>(h3.heap rfl).cell_ab
    have c39:=Try.contains_T (t:=tx) (by have:=hK.ok.abl;have:=hK.ok.tot;omega) h3.drew.ab;have HW3:=(show Hid (w3=_) from ew3);clear ew3 hrun hrun2 hstep e0 e1 e2 hxo hpush
    go_wp2_with fail
    rw[← HW3.out]
    go_still_tail 6,(by kernel_rfl)
    change wpList _ _ _ _ _ w3.drew
    go_wp2_with fail
    refine Calls.mono c39 ?_
    rintro e w4 ⟨rfl,B4⟩
    have M4:Mvs L1 L1 w7 w4:=M3.trans (Mvs.of_below B4).undrew;have h4:=h3.drew.below B4;have n4:w4.heap[w7.heap.size]? = some (.cells #[.int .i64 tx,.int .i64 kx,.int .i64 ix] 44 (0,0)):=(B4.block _ (lt_of_block n3)).trans n3;clear c39 B4 M3 h3 n3 p0 p13 q0 q1 q2;by_cases hab:tx∈s.ab
    ·have hct:s.ab.contains tx=true:=by simpa using hab
     have hse:s3=s:=by
      rcases HST.out with h | h
      ·exact h.2
      ·exact absurd hab h.1
     have HAB:=(show Hid _ from hab);rw[hct];clear hct hab
     go_wp2_with fail
     go_roundg (h.length - (k+1))
     case measure=>omega
     case rel=>exact⟨k+1,s3,L1,G,by go_num,by omega,by rw[hse];exact h4,hK3,hM.trans M4,HRUN2.out⟩
    ·have hct:s.ab.contains tx=false:=by simpa using hab
     have HST2:=(show Hid _ from (HST.out.resolve_left fun h=>hab h.1).2);rw[hct];clear hct hab HST;obtain⟨vL,hlk,hrow⟩:=h4.wt.lookup (by omega:0≤tx) hx16.2;rw[← h4.hwt tx]at hrow;obtain⟨n8,hn8⟩:∃ n8:Nat,n8=(s.wt tx).length:=⟨_,rfl⟩;rw[← hn8]at hrow;obtain⟨la,lc,rfl⟩:=hrow.form
     have p0:∀ d,({ w4 with drawn:=d }:World).cell? ⟨w7.heap.size,0,none⟩=some (.int .i64 tx):=fun d=>by simp[A6,n4]
     have p14:∀ d,({ w4 with drawn:=d }:World).cell? ⟨w1.heap.size+1,14,none⟩=some (.map (some G.gw)):=fun d=>(h4.heap rfl).cell_wt
     have hlk4:=hlk w4.drew h4.wt.at';have HN8:=(show Hid _ from hn8);clear hn8
     go_wp2_with fail
     go_still_tail 9,(by kernel_rfl)
     change wpList _ _ _ _ _ w4.drew
     go_wp2_with fail
     obtain⟨w5,ew5⟩:∃ w5,w5=w4.drew:=⟨_,rfl⟩;rw[← ew5]
     have h5:RunB w1.heap.size (w1.heap.size+1) w5 L1 G s:=by rw[ew5];exact h4.drew
     have M5:Mvs L1 L1 w7 w5:=by rw[ew5];exact M4.drew
     have n5:w5.heap[w7.heap.size]? = some (.cells #[.int .i64 tx,.int .i64 kx,.int .i64 ix] 44 (0,0)):=by rw[ew5];exact n4
     have hrow5:RowT w5 L1 (20+tx.toNat) 104 4 (.slice la n8 lc) n8 (heldC (s.wt tx)):=by rw[ew5];exact hrow
     clear ew5 h4 M4 n4 hrow p0 p14 hlk4;obtain⟨vL,evL⟩:∃ vL,vL=Value.slice la n8 lc:=⟨_,rfl⟩;rw[← evL]at hlk hrow5;have HVL:=(show Hid _ from evL);clear evL;obtain⟨w6,ew6⟩:∃ w6,w6=(w5.alloc (.cells #[.int .i64 tx,.int .i64 kx,.int .i64 ix,.int .i64 (k:Int)] 104)).drew:=⟨_,rfl⟩
     have h6:RunB w1.heap.size (w1.heap.size+1) w6 L1 G s:=by rw[ew6];exact (h5.alloc _).drew
     have M6:Mvs L1 L1 w7 w6:=by rw[ew6];exact (M5.alloc _).drew
     have n6:w6.heap[w7.heap.size]? = some (.cells #[.int .i64 tx,.int .i64 kx,.int .i64 ix] 44 (0,0)):=by rw[ew6];exact (heap_alloc_old w5 _ (lt_of_block n5)).trans n5
     have m6:w6.heap[w5.heap.size]? = some (.cells #[.int .i64 tx,.int .i64 kx,.int .i64 ix,.int .i64 (k:Int)] 104 (0,0)):=by rw[ew6];exact heap_alloc_new w5 _
     have hrow6:RowT w6 L1 (20+tx.toNat) 104 4 vL n8 (heldC (s.wt tx)):=by rw[ew6];exact hrow5.kept (fun k hk _=>heap_alloc_old w5 _ hk) (fun _ _ e=>e)
     have hi6:=h6.hi
     have hnl:n8≤1000000000:=by rw[HN8.out];have:=hK.ok.wlen tx;omega
     have W6:=(show Hid (w6=_) from ew6);have hlk6:=hlk w6 h6.wt.at';have K0:w5.drew.cell? ⟨w1.heap.size+1,14,none⟩=some (.map (some G.gw))∧(Instr.lookup 96 (.map (some G.gw)) (.int .i64 tx) false).run Try.prog w5.drew=.ok vL w5.drew∧w5.drew.cell? ⟨w7.heap.size,0,none⟩=some (.int .i64 tx)∧w5.drew.cell? ⟨w7.heap.size,1,none⟩=some (.int .i64 kx)∧w5.drew.cell? ⟨w7.heap.size,2,none⟩=some (.int .i64 ix):=⟨h5.drew.cell_wt,hlk w5.drew h5.wt.at',by show w5.cell? _=_;simp[A6,n5],by show w5.cell? _=_;simp[A6,n5],by show w5.cell? _=_;simp[A6,n5]⟩;have K6:w6.cell? ⟨w1.heap.size+1,14,none⟩=some (.map (some G.gw))∧(Instr.lookup 96 (.map (some G.gw)) (.int .i64 tx) false).run Try.prog w6=.ok vL w6∧w6.cell? ⟨w7.heap.size,0,none⟩=some (.int .i64 tx)∧w6.cell? ⟨w7.heap.size,1,none⟩=some (.int .i64 kx)∧w6.cell? ⟨w7.heap.size,2,none⟩=some (.int .i64 ix):=⟨h6.cell_wt,hlk6,by simp[A6,n6],by simp[A6,n6],by simp[A6,n6]⟩;rw[ew6]at hrow6 hi6 m6 K6;rw[← HVL.out];clear ew6 hlk6;refine Hg (S:=fun w'=>w'.cell? ⟨w1.heap.size+1,14,none⟩=some (.map (some G.gw))∧(Instr.lookup 96 (.map (some G.gw)) (.int .i64 tx) false).run Try.prog w'=.ok vL w'∧w'.cell? ⟨w7.heap.size,0,none⟩=some (.int .i64 tx)∧w'.cell? ⟨w7.heap.size,1,none⟩=some (.int .i64 kx)∧w'.cell? ⟨w7.heap.size,2,none⟩=some (.int .i64 ix)) 18 (by kernel_rfl) K0 (fun hHeld=>?_);refine jp (i:=0) (v:=.pointer (some ⟨w1.heap.size+1,0,none⟩)) rfl (by kernel_rfl) (fun _ _ _ h=>h) (by kernel_rfl) (fun w' hw'=>?_) hHeld ?_
     ·obtain⟨p0,p1,p2,p3,p4⟩:=hw';go_simp
     simp only[Act.put,A0,A1,A2,A3,A4,A5];refine jp (i:=1) (v:=.pointer (some ⟨w1.heap.size+1,0,none⟩)) rfl (by kernel_rfl) (fun _ _ _ h=>h) (by kernel_rfl) (fun w' hw'=>?_) hHeld ?_
     ·obtain⟨p0,p1,p2,p3,p4⟩:=hw';go_simp
     simp only[Act.put,A0,A1,A2,A3,A4,A5];refine jp (i:=2) (v:=.pointer (some ⟨w1.heap.size+1,14,none⟩)) rfl (by kernel_rfl) (fun _ _ _ h=>h) (by kernel_rfl) (fun w' hw'=>?_) hHeld ?_
     ·obtain⟨p0,p1,p2,p3,p4⟩:=hw';go_simp
     simp only[Act.put,A0,A1,A2,A3,A4,A5];refine jp (i:=3) (v:=.map (some G.gw)) rfl (by kernel_rfl) (fun _ _ _ h=>h) (by kernel_rfl) (fun w' hw'=>?_) hHeld ?_
     ·obtain⟨p0,p1,p2,p3,p4⟩:=hw';go_simp
     simp only[Act.put,A0,A1,A2,A3,A4,A5];refine jp (i:=4) (v:=.pointer (some ⟨w7.heap.size,0,none⟩)) rfl (by kernel_rfl) (fun _ _ _ h=>h) (by kernel_rfl) (fun w' hw'=>?_) hHeld ?_
     ·obtain⟨p0,p1,p2,p3,p4⟩:=hw';go_simp
     simp only[Act.put,A0,A1,A2,A3,A4,A5];refine jp (i:=5) (v:=.int .i64 tx) rfl (by kernel_rfl) (fun _ _ _ h=>h) (by kernel_rfl) (fun w' hw'=>?_) hHeld ?_
     ·obtain⟨p0,p1,p2,p3,p4⟩:=hw';go_simp
     simp only[Act.put,A0,A1,A2,A3,A4,A5];refine jp (i:=6) (v:=.pointer (some ⟨w1.heap.size+1,0,none⟩)) rfl (by kernel_rfl) (fun _ _ _ h=>h) (by kernel_rfl) (fun w' hw'=>?_) hHeld ?_
     ·obtain⟨p0,p1,p2,p3,p4⟩:=hw';go_simp
     simp only[Act.put,A0,A1,A2,A3,A4,A5];refine jp (i:=7) (v:=.pointer (some ⟨w1.heap.size+1,0,none⟩)) rfl (by kernel_rfl) (fun _ _ _ h=>h) (by kernel_rfl) (fun w' hw'=>?_) hHeld ?_
     ·obtain⟨p0,p1,p2,p3,p4⟩:=hw';go_simp
     simp only[Act.put,A0,A1,A2,A3,A4,A5];refine jp (i:=8) (v:=.pointer (some ⟨w1.heap.size+1,14,none⟩)) rfl (by kernel_rfl) (fun _ _ _ h=>h) (by kernel_rfl) (fun w' hw'=>?_) hHeld ?_
     ·obtain⟨p0,p1,p2,p3,p4⟩:=hw';go_simp
     simp only[Act.put,A0,A1,A2,A3,A4,A5];refine jp (i:=9) (v:=.map (some G.gw)) rfl (by kernel_rfl) (fun _ _ _ h=>h) (by kernel_rfl) (fun w' hw'=>?_) hHeld ?_
     ·obtain⟨p0,p1,p2,p3,p4⟩:=hw';go_simp
     simp only[Act.put,A0,A1,A2,A3,A4,A5];refine jp (i:=10) (v:=.pointer (some ⟨w7.heap.size,0,none⟩)) rfl (by kernel_rfl) (fun _ _ _ h=>h) (by kernel_rfl) (fun w' hw'=>?_) hHeld ?_
     ·obtain⟨p0,p1,p2,p3,p4⟩:=hw';go_simp
     simp only[Act.put,A0,A1,A2,A3,A4,A5];refine jp (i:=11) (v:=.int .i64 tx) rfl (by kernel_rfl) (fun _ _ _ h=>h) (by kernel_rfl) (fun w' hw'=>?_) hHeld ?_
     ·obtain⟨p0,p1,p2,p3,p4⟩:=hw';go_simp
     simp only[Act.put,A0,A1,A2,A3,A4,A5];refine jp (i:=12) (v:=vL) rfl (by kernel_rfl) (fun _ _ _ h=>h) (by kernel_rfl) (fun w' hw'=>?_) hHeld ?_
     ·obtain⟨p0,p1,p2,p3,p4⟩:=hw';go_simp
     simp only[Act.put,A0,A1,A2,A3,A4,A5];refine jp (i:=13) (v:=.agg #[.int .i64 tx,.int .i64 kx,.int .i64 ix]) rfl (by kernel_rfl) (fun _ _ _ h=>h) (by kernel_rfl) (fun w' hw'=>?_) hHeld ?_
     ·obtain⟨p0,p1,p2,p3,p4⟩:=hw';go_simp
     simp only[Act.put,A0,A1,A2,A3,A4,A5];refine jp (i:=14) (v:=.int .i64 (k:Int)) rfl (by kernel_rfl) (fun _ _ _ h=>h) (by kernel_rfl) (fun w' hw'=>?_) hHeld ?_
     ·obtain⟨p0,p1,p2,p3,p4⟩:=hw';go_simp
     simp only[Act.put,A0,A1,A2,A3,A4,A5];refine jp (i:=15) (v:=.agg #[.int .i64 tx,.int .i64 kx,.int .i64 ix,.int .i64 (k:Int)]) rfl (by kernel_rfl) (fun _ _ _ h=>h) (by kernel_rfl) (fun w' hw'=>?_) hHeld ?_
     ·obtain⟨p0,p1,p2,p3,p4⟩:=hw';go_simp
     simp only[Act.put,A0,A1,A2,A3,A4,A5];refine Yu (i:=16) (by kernel_rfl) rfl rfl (fun K hK=>?_);rw[if_pos (by kernel_rfl)];go_simp;refine hK.out _ _ K6 (fun hHeld=>?_);clear hK K;refine Yu (i:=17) (by kernel_rfl) rfl rfl (fun K hK=>?_);refine NN (f:=⟨tx,kx,ix⟩) (k:=(k:Int)) (role:=20+tx.toNat) (by rfl) (.tmp 50) (.tmp 54) (by rfl) (by omega) (by rfl) (by rfl) hrow6 hi6 m6 hnl ?_;intro g9 off9 cap9 w9 L9 r9 g9';rw[← W6.out]at g9';have hb9:∀ k,k<w6.heap.size→L1 k≠20+tx.toNat→w9.heap[k]? = w6.heap[k]?:=g9'.oth;have nb9:w9.heap[w1.heap.size+1]? = some (.cells (Qi G s) 101 (0,0)):=(hb9 _ h6.lt (by rw[h6.lbr];omega)).trans h6.blk;have no9:w9.heap[w7.heap.size]? = some (.cells #[.int .i64 tx,.int .i64 kx,.int .i64 ix] 44 (0,0)):=(hb9 _ (lt_of_block n6) (by rw[hL7];omega)).trans n6;have ng9:w9.heap[G.gw]? = some (.map G.es G.ck):=(hb9 _ h6.wt.lt (by rw[h6.lgw];omega)).trans h6.wt.at';have K9:w9.cell? ⟨w1.heap.size+1,14,none⟩=some (.map (some G.gw))∧(Instr.lookup 96 (.map (some G.gw)) (.int .i64 tx) false).run Try.prog w9=.ok vL w9∧w9.cell? ⟨w7.heap.size,0,none⟩=some (.int .i64 tx)∧w9.cell? ⟨w7.heap.size,1,none⟩=some (.int .i64 kx)∧w9.cell? ⟨w7.heap.size,2,none⟩=some (.int .i64 ix):=⟨by simp[A6,nb9,Qi],hlk w9 ng9,by simp[A6,no9],by simp[A6,no9],by simp[A6,no9]⟩;refine hK.out _ _ K9 (fun hHeld=>?_);clear hK K
     have r9:RowT w9 L9 (20+tx.toNat) 104 4 (.slice (some ⟨g9,off9,none⟩) (n8+1) cap9) (s.wt tx++[((⟨tx,kx,ix⟩:hsOp),(k:Int))]).length (heldC (s.wt tx++[((⟨tx,kx,ix⟩:hsOp),(k:Int))])):=by
      rw[qcl,List.length_append,← HN8.out];exact r9
     obtain⟨o10,G10,hup10,hput10⟩:=h6.putW hx16.1 hx16.2 g9' r9;have hup:=hup10 w9 rfl;obtain⟨h10,M10⟩:=hput10 w9 rfl;obtain⟨w10,ew10⟩:∃ w10,w10=setBlock w9 G.gw o10:=⟨_,rfl⟩;rw[← ew10]at h10 M10;have n10:w10.heap[w7.heap.size]? = some (.cells #[.int .i64 tx,.int .i64 kx,.int .i64 ix] 44 (0,0)):=(M10.keep _ (lt_of_block n6) hL7).trans n6;have M10':Mvs L1 L9 w7 w10:=M6.trans M10;have EW10:=(show Hid (w10=_) from ew10);clear ew10;refine Hh (by kernel_rfl) rfl (by kernel_rfl) (fun K hK=>?_);rw[if_pos (by kernel_rfl)];go_simp;refine hK _ _ ?_;rw[← EW10.out];clear hK K K0 K6 K9 hHeld no9 nb9 ng9 hb9 hup hup10 hput10 r9 g9' hrow5 hrow6 h5 h6 M5 M6 M10 n5 n6 m6 hi6 hlk
     have p10:w10.cell? ⟨w7.heap.size,0,none⟩=some (.int .i64 tx):=by simp[A6,n10]
     obtain⟨s10,es10⟩:∃ s10:LS,s10=putW s tx (s.wt tx++[((⟨tx,kx,ix⟩:hsOp),(k:Int))]):=⟨_,rfl⟩;rw[← es10]at h10
     have hok10:OkK (k+1) s10:=by rw[es10];exact HPU.out
     rcases Nat.eq_zero_or_pos n8 with hz | hz
     ·have hw0:s.wt tx=[]:=B9 (by rw[← HN8.out];exact hz)
      obtain⟨r,hgo,hr2⟩:∃ r,goOnL m s10 tx false=some r∧((r.2=true∧retryL m m r.1=some s3)∨(r.2=false∧s3=r.1)):=by
       rw[es10]
       rcases HST2.out with h | h
       ·exact absurd hw0 h.1
       ·exact h.2
      have c69:=Try.goOn69 h10 hok10.ok (by omega) hx16.1 hx16.2 hgo;have hok11:=OkS.goOn m _ _ _ _ hok10.ok hgo;clear es10 hw0 hgo HN8 hnl;subst hz
      go_wp2_with fail
      refine Calls.mono c69 ?_
      rintro e w11 ⟨rfl,L11,G11,h11,M11⟩
      have M11':Mvs L1 L11 w7 w11:=M10'.trans M11;clear c69 M11 M10' h10 n10 p10;obtain⟨s11,b11⟩:=r
      rcases hr2 with ⟨rfl,hre⟩ | ⟨rfl,hre⟩
      ·have c70:=Try.retry70 h11 hok11 (by omega) hre;clear hre
       go_wp2_with fail
       refine Calls.mono c70 ?_
       rintro e w12 ⟨rfl,⟨L12,G12,h12,M12⟩,_⟩
       have M12':Mvs L1 L12 w7 w12:=M11'.trans M12;clear c70 M12
       go_wp2_with fail
       go_roundg (h.length - (k+1))
       case measure=>omega
       case rel=>exact⟨k+1,s3,L12,G12,by go_num,by omega,h12,hK3,hM.trans M12',HRUN2.out⟩
      ·have HRE:=(show Hid _ from hre);clear hre
       go_wp2_with fail
       go_roundg (h.length - (k+1))
       case measure=>omega
       case rel=>exact⟨k+1,s3,L11,G11,by go_num,by omega,by rw[HRE.out];exact h11,hK3,hM.trans M11',HRUN2.out⟩
     ·have hw0:s.wt tx≠[]:=fun e=>by have:=HN8.out;rw[e]at this;simp at this;omega
      have hs3:s3=s10:=by
       rw[es10]
       rcases HST2.out with h | h
       ·exact h.2
       ·exact absurd h.1 hw0
      have HS3:=(show Hid _ from hs3)
      have hz2:(0:Int)<(n8:Int):=by omega
      have hz3:decide ((0:Int)<(n8:Int))=true:=dT hz2;clear es10 hw0 HN8 hs3
      go_wp2_with fail
      go_roundg (h.length - (k+1))
      case measure=>omega
      case rel=>exact⟨k+1,s3,L9,G10,by go_num,by omega,by rw[HS3.out];exact h10,hK3,hM.trans M10',HRUN2.out⟩
   ·have hke:k=h.length:=by omega
    subst hke;rw[List.drop_length]at hrun;have hse:s=se:=Option.some.inj hrun;subst hse
    have p12:∀ d,({ w7 with drawn:=d }:World).cell? ⟨w1.heap.size+1,12,none⟩=some G.dv:=fun d=>(hR.heap rfl).cell_done
    have p13:∀ d,({ w7 with drawn:=d }:World).cell? ⟨w1.heap.size+1,13,none⟩=some G.av:=fun d=>(hR.heap rfl).cell_ab
    have p12':w7.cell? ⟨w1.heap.size+1,12,none⟩=some G.dv:=p12 _;have p13':w7.cell? ⟨w1.heap.size+1,13,none⟩=some G.av:=p13 _
    have BF:Below w.heap.size w w7:=BB.trans (hM.below (B:=w.heap.size) (by have:=hB1.size;omega) fun k hk=>by
     rcases D0 k w1.heap.size with e | e
     ·exact absurd (hlow k e) hk
     ·have:=hB1.size;omega)
    have HRR:=(show Hid _ from hR);clear hrun hR
    go_wp2_with fail
    go_quiet (fail)
    go_wp2_with fail
    go_ret3
    obtain⟨wF,ewF⟩:∃ wF,wF=w7.drewN nq:=⟨_,rfl⟩
    have hRF:RunB w1.heap.size (w1.heap.size+1) wF L1 G s:=by rw[ewF];exact HRR.out.drewN nq
    have BF2:Below w.heap.size w wF:=by rw[ewF];exact⟨BF.os,BF.tape,BF.output,BF.size,BF.block⟩
    have hlo:∀ role,role≠0→∀ k,L1 k=role→w.heap.size≤k:=fun role h0 k hk=>by
     have:=hRF.lo k (by omega);have:=hB1.size;omega
    rw[← HP.out];refine⟨_,mtail M w.heap.size wF,rfl,by rw[← ewF];exact BF2,qfP hC BF2 (A8 _),by rw[← ewF];exact qen hC BF2,fun b o hb=>qbe hb,?_,trivial⟩;refine .tup (vs:=[G.dv,G.av,.int .i64 0]) rfl (fun j c v hc hv=>?_)
    match j,hc,hv with
    | 0,hc,hv=>cases hc;cases hv;exact hRF.done.opsR (hlo 3 (by decide))
    | 1,hc,hv=>cases hc;cases hv;exact hRF.ab.intsR (hlo 4 (by decide))
    | 2,hc,hv=>cases hc;cases hv;exact .int _ _
end Go.Proofs
namespace Go.AM
open Go.Proofs
theorem qhd (n:Nat) (s:LS) (t:Int) (rel:Bool) {p:hsOp×Int} {rest:List (hsOp×Int)} (hw:s.wt t=p::rest) (hs:¬ Stuck s p.1):goOnL (n+1) s t rel=goOnL n (doL s t p.1 rest) t (rel || decide (1<p.1.qh)):=by
 conv=>lhs;unfold goOnL
 rw[hw];simp only;rw[if_neg hs]
theorem qez (s:LS) (t:Int) (o:hsOp) (rest:List (hsOp×Int)):(doL s t o rest).wt=fun x=>if x=t then rest else s.wt x:=by
 unfold doL putW;split
 ·unfold takeL;split <;> rfl
 ·rfl
def lkS (l:List hsOp):LS:=l.foldl (fun s o=>if o.qh≤1 then takeL s o else relL s o.qb) LS.zero
theorem Yl (l:List hsOp) (o:hsOp):lkS (l++[o])=if o.qh≤1 then takeL (lkS l) o else relL (lkS l) o.qb:=by
 unfold lkS;rw[List.foldl_append];rfl
theorem DT {s s':LS} (h1:s.sh=s'.sh) (h2:s.ex=s'.ex) (o:hsOp) (x:Int):hindP s o x↔hindP s' o x:=by
 unfold hindP;rw[h1,h2]
theorem ZG {s s':LS} (h1:s.sh=s'.sh) (h2:s.ex=s'.ex) (o:hsOp):(takeL s o).sh=(takeL s' o).sh∧(takeL s o).ex=(takeL s' o).ex:=by
 unfold takeL;split
 ·exact⟨h1,by simp only[h2]⟩
 ·exact⟨by simp only[h1],h2⟩
theorem Yx {s s':LS} (h1:s.sh=s'.sh) (h2:s.ex=s'.ex) (t:Int):(relL s t).sh=(relL s' t).sh∧(relL s t).ex=(relL s' t).ex:=by
 unfold relL;exact⟨by simp only[h1],by simp only[h2]⟩
def Good (l:List hsOp):Prop:=∀ p o q,l=p++o::q→o.qh≤1→∀ x,¬ hindP (lkS p) o x
theorem Good.nil:Good []:=fun p o q h=>by simp at h
theorem UH {α:Type} {l p q:List α} {o x:α} (h:l++[o]=p++x::q):(q=[]∧p=l∧x=o)∨∃ q',q=q'++[o]∧l=p++x::q':=by
 rcases List.eq_nil_or_concat q with rfl | ⟨q',y,rfl⟩
 ·have:=List.append_inj' h (by simp);exact .inl ⟨rfl,this.1.symm,by simpa using this.2.symm⟩
 ·rw[List.concat_eq_append]at h ⊢
  have h2:l++[o]=(p++x::q')++[y]:=by rw[h];simp
  have:=List.append_inj' h2 (by simp)
  have e:o=y:=by simpa using this.2
  exact .inr ⟨q',by rw[e],this.1⟩
theorem Good.snoc {l:List hsOp} (h:Good l) {o:hsOp} (ho:o.qh≤1→∀ x,¬ hindP (lkS l) o x):Good (l++[o]):=by
 intro p x q e
 rcases UH e with ⟨_,rfl,rfl⟩ | ⟨q',_,e2⟩
 ·exact ho
 ·exact h p x q' e2
structure InvL (s:LS):Prop where
 sh:s.sh=(lkS s.done).sh
 ex:s.ex=(lkS s.done).ex
 good:Good s.done
theorem Ua (s:LS) (t:Int) (o:hsOp) (rest:List (hsOp×Int)):(doL s t o rest).done=s.done++[o]:=rfl
theorem qhl (s:LS) (t:Int) (o:hsOp) (rest:List (hsOp×Int)):(doL s t o rest).ab=s.ab:=by
 unfold doL putW;split
 ·unfold takeL;split <;> rfl
 ·rfl
theorem InvL.doL {s:LS} (h:InvL s) {t:Int} {o:hsOp} {rest:List (hsOp×Int)} (ht:o.qb=t) (hs:¬ Stuck s o):InvL (doL s t o rest):=by
 have hsh:(Go.AM.doL s t o rest).sh=(if o.qh≤1 then takeL s o else relL s t).sh:=rfl;have hex:(Go.AM.doL s t o rest).ex=(if o.qh≤1 then takeL s o else relL s t).ex:=rfl;refine⟨?_,?_,?_⟩
 ·rw[hsh,Ua,Yl];split
  ·exact (ZG h.sh h.ex o).1
  ·rw[ht];exact (Yx h.sh h.ex t).1
 ·rw[hex,Ua,Yl];split
  ·exact (ZG h.sh h.ex o).2
  ·rw[ht];exact (Yx h.sh h.ex t).2
 ·rw[Ua]
  refine h.good.snoc fun hk x hx=>hs ⟨hk,x,?_⟩
  exact (DT h.sh h.ex o x).2 hx
theorem InvL.abortL {s:LS} (h:InvL s) (t:Int):InvL (abortL s t):=by
 have hd:(Go.AM.abortL s t).done=s.done++[⟨t,3,0⟩]:=rfl
 have hk:¬ (⟨t,3,0⟩:hsOp).qh≤1:=by show ¬ (3:Int)≤1;omega
 refine⟨?_,?_,?_⟩
 ·rw[hd,Yl,if_neg hk];exact (Yx h.sh h.ex t).1
 ·rw[hd,Yl,if_neg hk];exact (Yx h.sh h.ex t).2
 ·rw[hd]
  exact h.good.snoc fun hk2=>absurd hk2 hk
def ofT (t:Int) (l:List hsOp):List hsOp:=l.filter fun o=>o.qb == t
theorem Zx (t:Int) (l m:List hsOp):ofT t (l++m)=ofT t l++ofT t m:=List.filter_append ..
theorem Dj (t:Int) (o:hsOp):ofT t [o]=if o.qb=t then [o] else []:=by
 unfold ofT;by_cases h:o.qb=t
 ·simp[h]
 ·simp[h]
def JT (pre:List hsOp) (s:LS) (t:Int):Prop:=(t ∉ s.ab∧ofT t pre=ofT t s.done++(s.wt t).map A7)∨(t∈s.ab∧s.wt t=[]∧∃ D w E,ofT t s.done=D++[⟨t,3,0⟩]∧ofT t pre=D++w::E)
def JJ (pre:List hsOp) (s:LS):Prop:=∀ t,JT pre s t
theorem JJ.doL {pre:List hsOp} {s:LS} (h:JJ pre s) {t:Int} {p:hsOp×Int} {rest:List (hsOp×Int)} (hw:s.wt t=p::rest) (ht:p.1.qb=t):JJ pre (doL s t p.1 rest):=by
 intro x;have hx:=h x;unfold JT;rw[qhl,Ua,qez,Zx,Dj,ht];by_cases e:x=t
 ·subst e;simp only[if_true]
  rcases hx with ⟨h1,h2⟩ | ⟨h1,h2,_⟩
  ·exact .inl ⟨h1,by rw[h2,hw];simp⟩
  ·rw[hw]at h2;cases h2
 ·simp only[if_neg e,if_neg (Ne.symm e),B7];exact hx
theorem JJ.abortL {pre:List hsOp} {s:LS} (h:JJ pre s) {t:Int} {p:hsOp×Int} {rest:List (hsOp×Int)} (hw:s.wt t=p::rest):JJ pre (abortL s t):=by
 intro x;have hx:=h x;have hd:(Go.AM.abortL s t).done=s.done++[⟨t,3,0⟩]:=rfl;have hab:(Go.AM.abortL s t).ab=s.ab++[t]:=rfl
 have hwt:(Go.AM.abortL s t).wt=fun y=>if y=t then [] else s.wt y:=rfl
 unfold JT;rw[hd,hab,hwt,Zx,Dj];by_cases e:x=t
 ·subst e;simp only[if_true]
  rcases hx with ⟨h1,h2⟩ | ⟨h1,h2,_⟩
  ·refine .inr ⟨by simp,trivial,ofT x s.done,p.1,rest.map A7,rfl,?_⟩;rw[h2,hw];rfl
  ·rw[hw]at h2;cases h2
 ·simp only[if_neg e];rw[if_neg (show ¬ (⟨t,3,0⟩:hsOp).qb=x from fun e2=>e e2.symm),B7]
  have hm:x∈s.ab++[t]↔x∈s.ab:=by simp[e]
  rw[hm];exact hx
theorem JJ.push {pre:List hsOp} {s:LS} (h:JJ pre s) {o:hsOp} {i:Int} (hn:o.qb ∉ s.ab):JJ (pre++[o]) (putW s o.qb (s.wt o.qb++[(o,i)])):=by
 intro x;have hx:=h x;have hd:(putW s o.qb (s.wt o.qb++[(o,i)])).done=s.done:=rfl;have hab:(putW s o.qb (s.wt o.qb++[(o,i)])).ab=s.ab:=rfl
 have hwt:(putW s o.qb (s.wt o.qb++[(o,i)])).wt=fun y=>if y=o.qb then s.wt o.qb++[(o,i)] else s.wt y:=rfl
 unfold JT;rw[hd,hab,hwt,Zx,Dj];by_cases e:x=o.qb
 ·subst e;simp only[if_true]
  rcases hx with ⟨h1,h2⟩ | ⟨h1,_⟩
  ·exact .inl ⟨h1,by rw[h2];simp⟩
  ·exact absurd h1 hn
 ·simp only[if_neg e,if_neg (Ne.symm e),B7];exact hx
theorem JJ.skip {pre:List hsOp} {s:LS} (h:JJ pre s) {o:hsOp} (hn:o.qb∈s.ab):JJ (pre++[o]) s:=by
 intro x;have hx:=h x;unfold JT;rw[Zx,Dj];by_cases e:o.qb=x
 ·subst e;simp only[if_true]
  rcases hx with ⟨h1,_⟩ | ⟨h1,h2,D,w,E,h3,h4⟩
  ·exact absurd hn h1
  ·exact .inr ⟨h1,h2,D,w,E++[o],h3,by rw[h4];simp⟩
 ·simp only[if_neg e,B7];exact hx
theorem JJ.zero:JJ [] LS.zero:=fun t=>.inl ⟨by simp[LS.zero],rfl⟩
theorem InvL.zero:InvL LS.zero:=⟨rfl,rfl,Good.nil⟩
theorem qcN {m:Nat} (hm:3<m):∀ (q p:List hsOp) (s:LS),Good (p++q)→s.sh=(lkS p).sh→s.ex=(lkS p).ex→s.done=p→s.ab=[]→s.wt=(fun _=>[])→∀ i:Int,∃ s2,runL m s i q=some s2∧s2.done=p++q∧s2.ab=[]∧s2.wt=fun _=>[]
 | [],p,s,_,_,_,hd,ha,hw,i=>⟨s,rfl,by rw[hd,B7],ha,hw⟩
 | o::q,p,s,hg,h1,h2,hd,ha,hw,i=>by
  obtain⟨m2,rfl⟩:∃ m2,m=m2+2:=⟨m - 2,by omega⟩
  have hns:¬ Stuck (putW s o.qb [(o,i)]) o:=fun ⟨hk,x,hx⟩=>hg p o q rfl hk x ((DT (s:=putW s o.qb [(o,i)]) (s':=lkS p) h1 h2 o x).1 hx)
  have hwo:(putW s o.qb [(o,i)]).wt o.qb=[(o,i)]:=by show (if o.qb=o.qb then [(o,i)] else s.wt o.qb)=_;rw[if_pos rfl]
  obtain⟨sd,esd⟩:∃ sd,sd=doL (putW s o.qb [(o,i)]) o.qb o []:=⟨_,rfl⟩
  have hgo:goOnL (m2+2) (putW s o.qb [(o,i)]) o.qb false=some (sd,decide (1<o.qh)):=by
   rw[qhd (m2+1) _ _ _ hwo hns,← esd]
   have hwd:sd.wt o.qb=[]:=by rw[esd,qez];simp
   unfold goOnL;rw[hwd];simp
  have hdwt:sd.wt=fun _=>[]:=by
   rw[esd,qez]
   funext x
   by_cases e:x=o.qb
   ·simp[e]
   ·show (if x=o.qb then [] else (if x=o.qb then [(o,i)] else s.wt x))=[];rw[if_neg e,if_neg e,hw]
  have hdd:sd.done=p++[o]:=by rw[esd,Ua];show s.done++[o]=_;rw[hd]
  have hda:sd.ab=[]:=by rw[esd,qhl];exact ha
  have hsh:sd.sh=(lkS (p++[o])).sh:=by
   rw[esd,Yl];show (if o.qh≤1 then takeL (putW s o.qb [(o,i)]) o else relL (putW s o.qb [(o,i)]) o.qb).sh=_;split
   ·exact (ZG (s:=putW s o.qb [(o,i)]) (s':=lkS p) h1 h2 o).1
   ·exact (Yx (s:=putW s o.qb [(o,i)]) (s':=lkS p) h1 h2 _).1
  have hex:sd.ex=(lkS (p++[o])).ex:=by
   rw[esd,Yl];show (if o.qh≤1 then takeL (putW s o.qb [(o,i)]) o else relL (putW s o.qb [(o,i)]) o.qb).ex=_;split
   ·exact (ZG (s:=putW s o.qb [(o,i)]) (s':=lkS p) h1 h2 o).2
   ·exact (Yx (s:=putW s o.qb [(o,i)]) (s':=lkS p) h1 h2 _).2
  have hre:retryL (m2+2) (m2+2) sd=some sd:=by
   have hb:bestL sd=0:=by
    have hB:∀ b,BestL sd b→b=0:=fun b hb=>by
     rcases hb with h | ⟨_,⟨a,r,e,_⟩,_⟩
     ·exact h.1
     ·rw[hdwt]at e;cases e
    unfold bestL;split
    ·rename_i h;exact hB _ h.choose_spec
    ·rfl
   unfold retryL;rw[if_pos hb]
  have hstep:stepL (m2+2) s o i=some sd:=by
   unfold stepL;rw[if_neg (by rw[ha];simp),if_neg (by rw[hw];simp),hgo,Option.bind_some];split
   ·exact hre
   ·rfl
  obtain⟨s2,a1,a2,a3,a4⟩:=qcN hm q (p++[o]) sd (by rw[List.append_assoc];exact hg) hsh hex hdd hda hdwt (i+1);refine⟨s2,?_,by rw[a2];simp,a3,a4⟩;unfold runL;rw[hstep,Option.bind_some];exact a1
end Go.AM
namespace Go.AM
variable {P:Program} {n:Nat} {α:Type} {enc:α→AV}
def Flat (enc:α→AV):Prop:=∀ x,(enc x).one=true∧(enc x).strip=enc x∧(enc x).cells=[enc x]
theorem Zn:Flat AV.bool:=fun _=>⟨rfl,rfl,rfl⟩
theorem Flat.all (h:Flat enc) (l:List α):(l.map enc).all AV.one=true:=by
 rw[List.all_map,List.all_eq_true]
 exact fun x _=>(h x).1
theorem Flat.strips (h:Flat enc) (l:List α):(l.map enc).map AV.strip=l.map enc:=by
 rw[List.map_map]
 exact List.map_congr_left fun x _=>(h x).2.1
def cutS (P:Program) (t:TypeId):Bool:=match tSize P t with
 | some sz=>B6 sz 1 && !tAgg P t && (P.underlying t).isSome
 | none=>false
def cutW (P:Program) (t:TypeId) (sz:Nat):Bool:=match tSize P t with
 | some s=>B6 s sz && tAgg P t && (P.underlying t).isSome
 | none=>false
theorem qhZ {t:TypeId} {l:List α} {off:Nat} {e:α} (hF:Flat enc) (hc:cutS P t=true) (h:l[off]? = some e):cut P t (l.map enc) off=some (enc e):=by
 unfold cutS at hc;split at hc
 ·rename_i sz hs;simp only[C5,D6]at hc;obtain⟨⟨h1,h2⟩,h3⟩:=hc;obtain rfl:=C6 h1;have hlt:=(List.getElem?_eq_some_iff.1 h).1;unfold cut;rw[hs];have e1:Nat.ble (off+1) (l.map enc).length=true:=C7 (by rw[A9];exact hlt)
  have e2:(l.map enc)[off]? = some (enc e):=by rw[List.getElem?_map,h];rfl
  simp only[e1,h3,h2,e2,(hF e).1,Bool.and_self]
 ·cases hc
theorem qhm {t sz:Nat} {l:List α} {off:Nat} (hF:Flat enc) (hc:cutW P t sz=true) (h:off+sz≤l.length):cut P t (l.map enc) off=some (.agg (((l.drop off).take sz).map enc)):=by
 unfold cutW at hc;split at hc
 ·rename_i s hs;simp only[C5]at hc;obtain⟨⟨h1,h2⟩,h3⟩:=hc;obtain rfl:=C6 h1;unfold cut;rw[hs];have e1:Nat.ble (off+s) (l.map enc).length=true:=C7 (by rw[A9];exact h);simp only[e1,h3,h2,Bool.and_self];rw[← List.map_drop,← List.map_take,hF.strips]
 ·cases hc
theorem qbx {t sz:Nat} {l:List α} (hF:Flat enc) (hc:cutW P t sz=true) (h:l.length=sz):cut P t (l.map enc) 0=some (.agg (l.map enc)):=by
 rw[qhm hF hc (by omega),List.drop_zero,List.take_of_length_le (by omega)]
def setPre (P:Program) (all:List Oper) (o:Oper) (env:Env):Option (Nat×Nat×AV×List AV×Nat) :=
 match awanted all o env with
 | some true=>match o.op with
  | .store t p x=>match o.dst,aop env p,aop env x,tSize P t with
   | none,some (.pb s off),some v,some sz=>match look env s with
    | some (.hob 3 [] cs)=>some (s,off,v,cs,sz)
    | _=>none
   | _,_,_,_=>none
  | _=>none
 | _=>none
theorem Hm {all:List Oper} {o:Oper} {env:Env} {s off:Nat} {v:AV} {cs:List AV} {sz:Nat} (h:setPre P all o env=some (s,off,v,cs,sz)):awanted all o env=some true∧isEff o.op=true∧isApp o.op=false∧look env s=some (.hob 3 [] cs) ∧
  (v.one=true→v.cells.length=sz→astep P n o env=putCell s env off v)∧(∀ c2,v=.agg c2→c2.length=sz→astep P n o env=putRow s env off c2):=by
 unfold setPre at h
 split at h <;> try cases h
 rename_i hw
 split at h <;> try cases h
 rename_i t p x ho
 split at h <;> try cases h
 rename_i hd hp hx hs
 split at h <;> try cases h
 rename_i hl;refine⟨hw,by rw[ho];rfl,by rw[ho];rfl,hl,fun h1 hc=>?_,fun c2 hv hc=>?_⟩
 ·unfold astep;rw[ho];simp only[hd,hp,hx,hs]
  have:B6 v.cells.length sz=true:=by rw[hc];exact Nat.beq_refl _
  simp only[this]
  cases v <;> first | (simp only[hl];done) | cases h1
 ·subst hv;unfold astep;rw[ho];simp only[hd,hp,hx,hs]
  have:B6 (AV.agg c2).cells.length sz=true:=by show B6 c2.length sz=true;rw[hc];exact Nat.beq_refl _
  simp only[this]
theorem WO.eff {draw:Bool} {all ops:List Oper} {Q:Env→Prop} {en e1:Env} {o:Oper} (hw:awanted all o en=some true) (hei:isEff o.op=true) (hap:isApp o.op=false) (hst:astep P n o en=some e1) (h:WO P n draw all ops Q e1):WO P n draw all (o::ops) Q en:=by
 refine WO.step (e1:=e1) ?_ h;unfold step1;rw[hw]
 cases draw with
 | true =>
  refine YI (Vt hap) ?_;unfold astepD;simp only[hei,hst]
 | false=>exact hst
theorem WO.setA {draw:Bool} {all ops:List Oper} {Q:Env→Prop} {env e1:Env} {s off:Nat} {l:List α} {x:α} (k:Nat) (hF:Flat enc) (hlt:decide (off<l.length)=true) (h:WO P n draw all (ops.drop (k+1)) Q e1)
  (hp:stepsE P n draw all k ops env (fun os e=>match os with | o::_=>setPre P all o e | []=>none)=some (s,off,enc x,l.map enc,1):=by kernel_rfl)
  (hs:stepsE P n draw all k ops env (fun os en=>some (ins s (.hob 3 [] ((l.set off x).map enc)) en))=some e1:=by kernel_rfl):WO P n draw all ops Q env:=by
 obtain⟨en,h1,h2⟩:=ju hp;obtain⟨en',h3,h4⟩:=ju hs;rw[h1]at h3;cases h3;cases h4;refine WO.steps k h1 ?_
 cases hos:ops.drop k with
 | nil=>rw[hos]at h2;cases h2
 | cons o rest =>
  rw[hos]at h2;rw[Yf hos]at h;obtain⟨a1,a2,a3,a4,a5,_⟩:=Hm (n:=n) h2;refine WO.eff a1 a2 a3 ?_ h;have hone:=(hF x).1;rw[a5 hone (by rw[(hF x).2.2];rfl)];unfold putCell;have:Nat.blt off (l.map enc).length=true:=C7 (by rw[A9];exact of_decide_eq_true hlt);simp only[hone,a4,this];rw[List.map_set,(hF x).2.1]
theorem WO.storeA {draw:Bool} {all ops:List Oper} {Q:Env→Prop} {env e1:Env} {s sz:Nat} {l l':List α} (k:Nat) (hF:Flat enc) (hl:decide (l.length=sz∧l'.length=sz)=true) (h:WO P n draw all (ops.drop (k+1)) Q e1)
  (hp:stepsE P n draw all k ops env (fun os e=>match os with | o::_=>setPre P all o e | []=>none)=some (s,0,.agg (l.map enc),l'.map enc,sz):=by kernel_rfl)
  (hs:stepsE P n draw all k ops env (fun os en=>some (ins s (.hob 3 [] (l.map enc)) en))=some e1:=by kernel_rfl):WO P n draw all ops Q env:=by
 obtain⟨en,h1,h2⟩:=ju hp;obtain⟨en',h3,h4⟩:=ju hs;rw[h1]at h3;cases h3;cases h4;obtain⟨hl1,hl2⟩:=of_decide_eq_true hl;refine WO.steps k h1 ?_
 cases hos:ops.drop k with
 | nil=>rw[hos]at h2;cases h2
 | cons o rest =>
  rw[hos]at h2;rw[Yf hos]at h;obtain⟨a1,a2,a3,a4,_,a5⟩:=Hm (n:=n) h2;refine WO.eff a1 a2 a3 ?_ h;rw[a5 _ rfl (by rw[A9];exact hl1)];unfold putRow;have:Nat.ble (0+(l.map enc).length) (l'.map enc).length=true:=C7 (by rw[A9,A9];omega);simp only[hF.all,a4,this];rw[hF.strips,List.take_zero,List.drop_eq_nil_of_le (by rw[A9,A9];omega),List.nil_append,B7]
def boxPre (all:List Oper) (o:Oper) (env:Env):Option (Nat×AV) :=
 match awanted all o env with
 | some true=>match o.op with
  | .box t x=>match o.dst,aop env x with
   | some d,some v=>match clearOf d env with
    | true=>some (d,v)
    | false=>none
   | _,_=>none
  | _=>none
 | _=>none
theorem qbq {d:Nat}:∀ {en:Env},clearOf d en=true→forget d en=en
 | [],_=>rfl
 | (t,y)::r,h=>by
  simp only[clearOf,List.all_cons,C5,D6]at h;have ih:=qbq (en:=r) (d:=d) (by simpa[clearOf] using h.2);unfold forget at ih ⊢
  have hk:killRef d y=y:=by unfold killRef;rw[h.1.2]
  rw[E0 (by simp[h.1.1]),C8,ih,hk]
theorem DW {d:Nat} {x:AV}:∀ {en:Env},clearOf d en=true→forget d (ins d x en)=en
 | [],_=>by simp[forget,ins]
 | (t,y)::r,h=>by
  have h0:=h;simp only[clearOf,List.all_cons,C5,D6]at h;have ih:=DW (x:=x) (en:=r) (d:=d) (by simpa[clearOf] using h.2)
  have hk:killRef d y=y:=by unfold killRef;rw[h.1.2]
  simp only[ins];split
  ·unfold forget at ih ⊢;rw[E0 (by simp[h.1.1]),C8,ih,hk]
  ·simp only[h.1.1];have:=qbq h0;unfold forget at this ⊢;rw[List.filter_cons_of_neg (by simp)];exact this
theorem qfa {d:Nat} {x:AV} {p:Nat×AV}:∀ {en:Env},p∈ins d x en→p=(d,x)∨p∈en
 | [],h=>by simpa[ins] using h
 | (t,y)::r,h=>by
  simp only[ins]at h;split at h
  ·rcases List.mem_cons.1 h with h | h
   ·exact .inr (by rw[h];exact List.mem_cons_self ..)
   ·exact (qfa h).imp id (E7 _)
  ·split at h
   ·rcases List.mem_cons.1 h with h | h
    ·exact .inl h
    ·exact .inr (E7 _ h)
   ·rcases List.mem_cons.1 h with h | h
    ·exact .inl h
    ·exact .inr h
theorem UE {d:Nat} {x:AV}:∀ {en:Env},look (ins d x en) d=some x
 | []=>by simp[ins,look]
 | (t,y)::r=>by
  have ih:=UE (x:=x) (en:=r) (d:=d);simp only[ins];split
  ·rename_i hb;have:t<d:=Nat.le_of_ble_eq_true hb
   have h2:B6 t d=false:=by rw[Bool.eq_false_iff];intro hh;have:=C6 hh;omega
   simp only[look,h2];exact ih
  ·split <;> simp[look]
theorem qhh {d:Nat} {x y:AV} {en:Env} (h:(eput n (some d) x en).isSome=true):eput n (some d) y en=some (ins d y en):=by
 unfold eput at h ⊢;simp only at h ⊢;split at h
 ·rfl
 ·cases h
theorem WO.boxA {all ops:List Oper} {Q:Env→Prop} {env e1:Env} {d:Nat} {l:List α} (k:Nat) (hF:Flat enc) (hl:(!l.isEmpty)=true) (h:WO P n false all (ops.drop (k+1)) Q e1)
  (hp:stepsE P n false all k ops env (fun os e=>match os with | o::_=>boxPre all o e | []=>none)=some (d,.agg (l.map enc)):=by kernel_rfl)
  (hs:stepsE P n false all k ops env (fun os en=>match (eput n (some d) .und en).isSome,clearOf (1000000+d) en && Nat.blt d 1000000 with
   | true,true=>some (ins d (.pb (1000000+d) 0) (ins (1000000+d) (.hob 3 [] (l.map enc)) en))
   | _,_=>none)=some e1:=by kernel_rfl):WO P n false all ops Q env:=by
 obtain⟨en,h1,h2⟩:=ju hp;obtain⟨en',h3,h4⟩:=ju hs;rw[h1]at h3;cases h3;refine WO.steps k h1 ?_
 cases hos:ops.drop k with
 | nil=>rw[hos]at h2;cases h2
 | cons o rest =>
  rw[hos]at h2;rw[Yf hos]at h;simp only[boxPre]at h2
  split at h2 <;> try cases h2
  rename_i hw
  split at h2 <;> try cases h2
  rename_i t x ho
  split at h2 <;> try cases h2
  rename_i hd hx
  split at h2 <;> try cases h2
  rename_i hcl
  split at h4 <;> try cases h4
  rename_i hb hc;refine WO.eff (e1:=ins d (.box (l.map enc)) en) hw (by rw[ho];rfl) (by rw[ho];rfl) ?_ (WO.mv [.arr d] ?_ h)
  ·unfold astep;rw[ho];simp only[hd,hx]
   have hne:(l.map enc).isEmpty=false:=by
    cases l with
    | nil=>cases hl
    | cons=>rfl
   have e1':(AV.agg (l.map enc)).cells=l.map enc:=rfl;rw[e1',hcl,hF.all,hne,hF.strips];show eput n (some d) _ en=_;exact qhh hb
  ·show arrBox (ins d (.box (l.map enc)) en) d=_;unfold arrBox
   have hc2:(clearOf (1000000+d) (ins d (.box (l.map enc)) en) && Nat.blt d 1000000)=true:=by
    simp only[C5]at hc ⊢;refine⟨?_,hc.2⟩;unfold clearOf;rw[List.all_eq_true];intro p hp
    rcases qfa hp with rfl | hp
    ·have:B6 d (1000000+d)=false:=by rw[Bool.eq_false_iff];intro hh;have:=C6 hh;omega
     simp[this,AV.refs]
    ·have:=hc.1;unfold clearOf at this;exact List.all_eq_true.1 this p hp
   rw[UE,hc2];simp only;rw[DW hcl,hF.strips]
theorem WO.one {all ops:List Oper} {Q:Env→Prop} {en e1:Env} {o:Oper} (hw:awanted all o en=some true) (hst:astep P n o en=some e1) (h:WO P n false all ops Q e1):WO P n false all (o::ops) Q en:=by
 refine WO.step (e1:=e1) ?_ h;unfold step1;rw[hw];exact hst
end Go.AM
namespace Go.AM
def edgeB (es:List (qj×Bool)) (a b:Int):Bool:=mget qv false ⟨a,b⟩ es
end Go.AM
namespace Go.Proofs
open Go.RowKit Go.AM
structure FB (w:World) (bf:Nat) (w':World):Prop where
 os:w'.os=w.os
 tape:w'.tape=w.tape
 output:w'.output=w.output
 size:w.heap.size≤w'.heap.size
 block:∀ k,k<w.heap.size→k≠bf→w'.heap[k]? = w.heap[k]?
 box:∃ fv,w'.heap[bf]? = some (.cells #[fv] 24 (0,0))
theorem FB.cons {M:Mem} {w w1:World} {bf:Nat} (h:FB w bf w1) (hC:Cons M w) (hf:∀ o,M bf o=none):Cons M w1 :=
 hC.of_blocks fun b o u hu hb=>h.block b hb fun e=>by rw[e,hf]at hu;cases hu
end Go.Proofs
namespace Go.AM
open Go.Proofs
def l24 (c:Option Nat) (l:List (List Int)):AV:=.lst 24 1 c (List.map (encL 3 1 (AV.int .i64)) l)
end Go.AM
