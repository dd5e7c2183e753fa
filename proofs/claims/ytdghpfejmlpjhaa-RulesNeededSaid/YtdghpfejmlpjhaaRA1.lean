/- s -/
import Derived.Test.YtdghpfejmlpjhaaANil
import Derived.Test.YtdghpfejmlpjhaaAWq
import Derived.Test.YtdghpfejmlpjhaaChecked
import Derived.Test.YtdghpfejmlpjhaaASimJ
set_option maxRecDepth 100000
set_option linter.unusedVariables false
set_option linter.unusedSimpArgs false
namespace Go.Proofs
open Go.RowKit Go.AM Go.Sort
set_option maxHeartbeats 4000000 in
theorem Try.key81 (rel a c:Int) (b off cap n:Nat) (W:World) (h0:W.cell? ⟨b,off,none⟩=some (.int .i64 a)) (h1:1<n→W.cell? ⟨b,off+1,none⟩=some (.int .i64 c)) (h2:¬ 1<n→c=0) (hn:0<n) (hl:n≤1000000) :
  Calls Try.prog 81 #[.agg #[.int .i64 rel,.slice (some ⟨b,off,none⟩) n cap]] W fun e w'=>e=.returned (.agg #[.int .i64 rel,.int .i64 a,.int .i64 c])∧Below W.heap.size W w':=by
 have mixed:=mixedP;have t3:=Try.underlying3;have a3:=Try.isAgg3;have z3:=Try.sizeOf3;have v3:=Try.zeroValue3;have u3:=run_underlying Try.underlying3;have t4:=Try.underlying4;have a4:=Try.isAgg4;have z4:=Try.sizeOf4;have v4:=Try.zeroValue4;have u4:=run_underlying Try.underlying4;have t39:=Try.underlying39;have a39:=Try.isAgg39;have z39:=Try.sizeOf39;have v39:=Try.zeroValue39;have u39:=run_underlying Try.underlying39;have t41:=Try.underlying41;have a41:=Try.isAgg41;have z41:=Try.sizeOf41;have v41:=Try.zeroValue41;have u41:=run_underlying Try.underlying41;have t127:=Try.underlying127;have a127:=Try.isAgg127;have z127:=Try.sizeOf127;have v127:=Try.zeroValue127;have u127:=run_underlying Try.underlying127
 have hb:b<W.heap.size:=by
  unfold World.cell? at h0
  cases hh:W.heap[b]? with
  | none=>simp[hh]at h0
  | some o=>exact lt_of_block hh
 go_enter Try.func81,Try.ntmps81
 go_wp2_with fail
 obtain⟨W2,hW2⟩:∃ W2,W2=(W.alloc (.cells #[.int .i64 rel,.slice (some ⟨b,off,none⟩) n cap] 41)).alloc (.cells #[.int .i64 0,.int .i64 0,.int .i64 0] 127):=⟨_,rfl⟩
 have e1:W2.heap[W.heap.size]? = some (.cells #[.int .i64 rel,.slice (some ⟨b,off,none⟩) n cap] 41 (0,0)):=by
  rw[hW2,heap_alloc_old _ _ (by simp)];exact heap_alloc_new _ _
 have e2:W2.heap[W.heap.size+1]? = some (.cells #[.int .i64 0,.int .i64 0,.int .i64 0] 127 (0,0)):=by
  have:=heap_alloc_new (W.alloc (.cells #[.int .i64 rel,.slice (some ⟨b,off,none⟩) n cap] 41)) (.cells #[.int .i64 0,.int .i64 0,.int .i64 0] 127);rw[hW2]
  simpa using this
 have hsz:W2.heap.size=W.heap.size+2:=by rw[hW2];simp
 have hB:Below W.heap.size W W2:=by rw[hW2];exact ((Below.refl _ _).alloc (Nat.le_refl _) _).alloc (by simp) _
 rw[← hW2];clear hW2
 have old:∀ w',Below W.heap.size W w'→w'.cell? ⟨b,off,none⟩=some (.int .i64 a)∧(1<n→w'.cell? ⟨b,off+1,none⟩=some (.int .i64 c)):=fun w' h=>⟨(h.cell hb).trans h0,fun hc=>(h.cell hb).trans (h1 hc)⟩
 have K0:W2.cell? ⟨W.heap.size,0,none⟩=some (.int .i64 rel)∧W2.cell? ⟨W.heap.size,1,none⟩=some (.slice (some ⟨b,off,none⟩) n cap)∧W2.cell? ⟨b,off,none⟩=some (.int .i64 a):=by
  refine⟨?_,?_,(old _ hB).1⟩ <;> simp[World.cell?,e1]
 refine wp_region_held_drew (S:=(fun w'=>w'.cell? ⟨W.heap.size,0,none⟩=some (.int .i64 rel)∧w'.cell? ⟨W.heap.size,1,none⟩=some (.slice (some ⟨b,off,none⟩) n cap)∧w'.cell? ⟨b,off,none⟩=some (.int .i64 a))) (by kernel_rfl) K0 (fun hHeld=>?_);refine wpAnyH_take (i:=0) (v:=.pointer (some ⟨W.heap.size,0,none⟩)) rfl (by kernel_rfl) (by kernel_rfl) (by kernel_rfl) (fun _ _ _ h=>h) (Or.inl ⟨by kernel_rfl,fun w' hw'=>?_⟩) hHeld ?_
 ·obtain⟨q0,q1,q2⟩:=hw';go_simp
 simp only[Act.put,List.getElem_toArray,List.getElem_cons_succ,List.getElem_cons_zero,List.setIfInBounds_toArray,List.set_cons_zero,List.set_cons_succ];refine wpAnyH_take (i:=1) (v:=.int .i64 rel) rfl (by kernel_rfl) (by kernel_rfl) (by kernel_rfl) (fun _ _ _ h=>h) (Or.inl ⟨by kernel_rfl,fun w' hw'=>?_⟩) hHeld ?_
 ·obtain⟨q0,q1,q2⟩:=hw';go_simp
 simp only[Act.put,List.getElem_toArray,List.getElem_cons_succ,List.getElem_cons_zero,List.setIfInBounds_toArray,List.set_cons_zero,List.set_cons_succ];refine wpAnyH_take (i:=2) (v:=.pointer (some ⟨W.heap.size,1,none⟩)) rfl (by kernel_rfl) (by kernel_rfl) (by kernel_rfl) (fun _ _ _ h=>h) (Or.inl ⟨by kernel_rfl,fun w' hw'=>?_⟩) hHeld ?_
 ·obtain⟨q0,q1,q2⟩:=hw';go_simp
 simp only[Act.put,List.getElem_toArray,List.getElem_cons_succ,List.getElem_cons_zero,List.setIfInBounds_toArray,List.set_cons_zero,List.set_cons_succ];refine wpAnyH_take (i:=3) (v:=.slice (some ⟨b,off,none⟩) n cap) rfl (by kernel_rfl) (by kernel_rfl) (by kernel_rfl) (fun _ _ _ h=>h) (Or.inl ⟨by kernel_rfl,fun w' hw'=>?_⟩) hHeld ?_
 ·obtain⟨q0,q1,q2⟩:=hw';go_simp
 simp only[Act.put,List.getElem_toArray,List.getElem_cons_succ,List.getElem_cons_zero,List.setIfInBounds_toArray,List.set_cons_zero,List.set_cons_succ];refine wpAnyH_take (i:=4) (v:=.pointer (some ⟨b,off,none⟩)) rfl (by kernel_rfl) (by kernel_rfl) (by kernel_rfl) (fun _ _ _ h=>h) (Or.inl ⟨by kernel_rfl,fun w' hw'=>?_⟩) hHeld ?_
 ·obtain⟨q0,q1,q2⟩:=hw';go_simp
 simp only[Act.put,List.getElem_toArray,List.getElem_cons_succ,List.getElem_cons_zero,List.setIfInBounds_toArray,List.set_cons_zero,List.set_cons_succ];refine wpAnyH_take (i:=5) (v:=.int .i64 a) rfl (by kernel_rfl) (by kernel_rfl) (by kernel_rfl) (fun _ _ _ h=>h) (Or.inl ⟨by kernel_rfl,fun w' hw'=>?_⟩) hHeld ?_
 ·obtain⟨q0,q1,q2⟩:=hw';go_simp
 simp only[Act.put,List.getElem_toArray,List.getElem_cons_succ,List.getElem_cons_zero,List.setIfInBounds_toArray,List.set_cons_zero,List.set_cons_succ];refine wpAnyH_take (i:=6) (v:=.agg #[.int .i64 rel,.int .i64 a,.int .i64 0]) rfl (by kernel_rfl) (by kernel_rfl) (by kernel_rfl) (fun _ _ _ h=>h) (Or.inl ⟨by kernel_rfl,fun w' hw'=>?_⟩) hHeld ?_
 ·obtain⟨q0,q1,q2⟩:=hw';go_simp
 simp only[Act.put,List.getElem_toArray,List.getElem_cons_succ,List.getElem_cons_zero,List.setIfInBounds_toArray,List.set_cons_zero,List.set_cons_succ];refine wpAnyH_ready (rs:=[7]) (by kernel_rfl) (by simp) (AllReadyH.cons rfl (fun K hK=>?_) AllReadyH.nil);rw[if_pos (by kernel_rfl)]
 go_simp
 obtain⟨W3,hW3⟩:∃ W3,W3=(W2.alloc (Obj.cells #[Value.int IntKind.i64 0,Value.int IntKind.i64 0,Value.int IntKind.i64 0] 127)).drew:=⟨_,rfl⟩
 have g1:W3.heap[W.heap.size]? = some (.cells #[.int .i64 rel,.slice (some ⟨b,off,none⟩) n cap] 41 (0,0)):=by
  rw[hW3];exact (heap_alloc_old _ _ (lt_of_block e1)).trans e1
 have g2:W3.heap[W.heap.size+1]? = some (.cells #[.int .i64 0,.int .i64 0,.int .i64 0] 127 (0,0)):=by
  rw[hW3];exact (heap_alloc_old _ _ (lt_of_block e2)).trans e2
 have g3:W3.heap[W.heap.size+2]? = some (.cells #[.int .i64 0,.int .i64 0,.int .i64 0] 127 (0,0)):=by
  rw[hW3,← hsz];exact heap_alloc_new _ _
 have hB3:Below W.heap.size W W3:=by rw[hW3];exact (hB.alloc (by omega) _).trans ⟨rfl,rfl,rfl,Nat.le_refl _,fun _ _=>rfl⟩
 have hsz3:W3.heap.size=W.heap.size+3:=by rw[hW3];simp[hsz]
 have K3:W3.cell? ⟨W.heap.size,0,none⟩=some (.int .i64 rel)∧W3.cell? ⟨W.heap.size,1,none⟩=some (.slice (some ⟨b,off,none⟩) n cap)∧W3.cell? ⟨b,off,none⟩=some (.int .i64 a):=by
  refine⟨?_,?_,(old _ hB3).1⟩ <;> simp[World.cell?,g1]
 rw[← hW3];clear hW3 e1 e2 hHeld K0;refine hK.out _ _ K3 (fun _=>?_);clear hK K;refine wpAnyH_ready (rs:=[8]) (by kernel_rfl) (by simp) (AllReadyH.cons rfl (fun K hK=>?_) AllReadyH.nil);rw[if_pos (by kernel_rfl)]
 have fz:∀ j,W3.frozen? ⟨W.heap.size+2,j,none⟩=false:=fun j=>by simp[World.frozen?,g3]
 have f0:=fz 0;have f1:=fz 1;have f2:=fz 2
 have z0:W3.cell? ⟨W.heap.size+2,0,none⟩=some (.int .i64 0):=by simp[World.cell?,g3]
 have z1:W3.cell? ⟨W.heap.size+2,1,none⟩=some (.int .i64 0):=by simp[World.cell?,g3]
 have z2:W3.cell? ⟨W.heap.size+2,2,none⟩=some (.int .i64 0):=by simp[World.cell?,g3]
 go_wp2_with fail
 obtain⟨W4,hW4⟩:∃ W4,W4=(((W3.setCell { block:=W.heap.size+2,off:=0 } (Value.int IntKind.i64 rel)).setCell { block:=W.heap.size+2,off:=1 } (Value.int IntKind.i64 a)).setCell { block:=W.heap.size+2,off:=2 } (Value.int IntKind.i64 0)):=⟨_,rfl⟩
 have k3:W4.heap[W.heap.size+2]? = some (.cells #[.int .i64 rel,.int .i64 a,.int .i64 0] 127 (0,0)):=by
  rw[hW4,Qh _ (Qh _ (Qh _ g3))];rfl
 have kb:∀ j,j≠W.heap.size+2→W4.heap[j]? = W3.heap[j]?:=fun j hj=>by
  rw[hW4,Below.heap_setCell _ _ _ _ hj,Below.heap_setCell _ _ _ _ hj,Below.heap_setCell _ _ _ _ hj]
 have hB4:Below W.heap.size W W4:=hB3.trans ⟨by rw[hW4];rfl,by rw[hW4];rfl,by rw[hW4];rfl,by rw[hW4,QL,QL,QL];exact Nat.le_refl _,fun j hj=>kb j (by omega)⟩;rw[← hW4];clear hW4;have k1:=(kb (W.heap.size) (by omega)).trans g1;have k2:=(kb (W.heap.size+1) (by omega)).trans g2;clear kb g1 g2 g3 fz f0 f1 f2 z0 z1 z2 K3
 have K4:W4.cell? ⟨W.heap.size,0,none⟩=some (.int .i64 rel)∧W4.cell? ⟨W.heap.size,1,none⟩=some (.slice (some ⟨b,off,none⟩) n cap)∧W4.cell? ⟨b,off,none⟩=some (.int .i64 a):=by
  refine⟨?_,?_,(old _ hB4).1⟩ <;> simp[World.cell?,k1]
 refine hK.out _ _ K4 (fun _=>?_);clear hK K;refine wpAnyH_done (by kernel_rfl) ?_ _;obtain⟨c0,c1,_⟩:=K4
 have d0:W4.cell? ⟨W.heap.size+2,0,none⟩=some (.int .i64 rel):=by simp[World.cell?,k3]
 have d1:W4.cell? ⟨W.heap.size+2,1,none⟩=some (.int .i64 a):=by simp[World.cell?,k3]
 have d2:W4.cell? ⟨W.heap.size+2,2,none⟩=some (.int .i64 0):=by simp[World.cell?,k3]
 have b0:W4.cell? ⟨W.heap.size+1,0,none⟩=some (.int .i64 0):=by simp[World.cell?,k2]
 have b1:W4.cell? ⟨W.heap.size+1,1,none⟩=some (.int .i64 0):=by simp[World.cell?,k2]
 have b2:W4.cell? ⟨W.heap.size+1,2,none⟩=some (.int .i64 0):=by simp[World.cell?,k2]
 have f2:W4.frozen? ⟨W.heap.size+2,2,none⟩=false:=by simp[World.frozen?,k3]
 have y0:W4.frozen? ⟨W.heap.size+1,0,none⟩=false:=by simp[World.frozen?,k2]
 have y1:W4.frozen? ⟨W.heap.size+1,1,none⟩=false:=by simp[World.frozen?,k2]
 have y2:W4.frozen? ⟨W.heap.size+1,2,none⟩=false:=by simp[World.frozen?,k2]
 have n1:=(old _ hB4).2
 have hres:∀ (tm:Array Value) (w9:World) (x:Int),tm[2]?.getD undef=.pointer (some ⟨W.heap.size+1,0,none⟩)→w9.heap[W.heap.size+1]? = some (.cells #[.int .i64 rel,.int .i64 a,.int .i64 x] 127 (0,0))→(results Try.f81 tm).run Try.prog w9=.ok (.agg #[.int .i64 rel,.int .i64 a,.int .i64 x]) w9:=by
  intro tm w9 x htm h9
  have hr:Try.f81.results=#[.cell 2 127]:=by kernel_rfl
  have e0:w9.cell? ⟨W.heap.size+1,0,none⟩=some (.int .i64 rel):=by simp[World.cell?,h9]
  have e1:w9.cell? ⟨W.heap.size+1,1,none⟩=some (.int .i64 a):=by simp[World.cell?,h9]
  have e2:w9.cell? ⟨W.heap.size+1,2,none⟩=some (.int .i64 x):=by simp[World.cell?,h9]
  simp[results,hr,htm]
  go_simp
 by_cases hc:1<n
 ·have n1:=n1 hc
  go_wp2
  refine bodyPost_ret (hres _ _ c (by rfl) ?_) rfl ⟨rfl,?_⟩
  ·rw[Qh _ (Qh _ (Qh _ ((JH (by omega)).trans k2)))];rfl
  ·refine hB4.trans ⟨rfl,rfl,rfl,by simp only[QL];exact Nat.le_refl _,fun j hj=>?_⟩;rw[JH (by omega),JH (by omega),JH (by omega),JH (by omega)]
 ·have n1:=h2 hc;subst n1
  go_wp2
  refine bodyPost_ret (hres _ _ 0 (by rfl) ?_) rfl ⟨rfl,?_⟩
  ·rw[Qh _ (Qh _ (Qh _ k2))];rfl
  ·refine hB4.trans ⟨rfl,rfl,rfl,by simp only[QL];exact Nat.le_refl _,fun j hj=>?_⟩;rw[JH (by omega),JH (by omega),JH (by omega)]
end Go.Proofs
namespace Go.AM
open Go.RowKit Go.Proofs
theorem key81 {rel a:Int} {l:List Int} (hl:(a::l).length≤1000000):CallOk Try.prog 81 [.agg [.int .i64 rel,.lst 3 1 none (cL (a::l))]] (.agg [.int .i64 rel,.int .i64 a,.int .i64 (l.headD 0)]):=by
 intro M w vs hG hC hlen hR
 obtain⟨v0,rfl⟩:∃ v0,vs=[v0]:=by
  match vs,hlen with
  | [v0],_=>exact⟨v0,rfl⟩
 have r0:R M (.agg [.int .i64 rel,.lst 3 1 none (cL (a::l))]) v0:=hR 0 _ v0 rfl rfl;obtain⟨us,rfl,hu,hc⟩:=r0.agg_inv
 obtain⟨u0,u1,rfl⟩:∃ u0 u1,us=[u0,u1]:=by
  match us,hu with
  | [u0,u1],_=>exact⟨u0,u1,rfl⟩
 obtain rfl:u0=.int .i64 rel:=(hc 0 _ u0 rfl rfl).int_inv;obtain⟨ad,cap,rfl,hcell⟩:=Nw (hc 1 _ u1 rfl rfl);obtain⟨b,off,rfl,hM⟩:=hcell 0 (by simp);have h0:w.cell? ⟨b,off,none⟩=some (.int .i64 a):=Ju (hC _ _ _ (by simpa using hM)) rfl
 have h1:1<(a::l).length→w.cell? ⟨b,off+1,none⟩=some (.int .i64 (l.headD 0)):=fun hlt=>by
  obtain⟨b',off',e,hM'⟩:=hcell 1 hlt;cases e;have:=Ju (hC _ _ _ hM') rfl
  cases l with
  | nil=>simp at hlt
  | cons c l=>simpa using this
 have h2:¬ 1<(a::l).length→l.headD 0=0:=fun hn=>by
  cases l with
  | nil=>rfl
  | cons c l=>simp at hn
 refine (Go.Proofs.Try.key81 rel a (l.headD 0) b off cap (a::l).length w h0 h1 h2 (by simp) hl).mono ?_
 rintro e w' ⟨rfl,hB⟩
 refine⟨_,M,rfl,hB,Sub.refl M,Uo hC hB,fun _ _ _=>rfl,?_,trivial⟩
 refine .agg (vs:=[.int .i64 rel,.int .i64 a,.int .i64 (l.headD 0)]) rfl fun j c v hc hv=>?_
 match j,hc,hv with
 | 0,hc,hv=>cases hc;cases hv;exact .int _ _
 | 1,hc,hv=>cases hc;cases hv;exact .int _ _
 | 2,hc,hv=>cases hc;cases hv;exact .int _ _
end Go.AM
namespace Go.AM
open Go.Proofs
abbrev I6:Int→AV:=AV.int .i64
abbrev W6:Int→Int:=IntKind.wrap .i64
abbrev S1 (n:Nat):AV:=.sb 2000000 5 1 0 n
abbrev O1 (l:List Int):Nat×AV:=(2000000,.obj 1000000005 1 (List.map (AV.int .u8) l))
abbrev M6 (l:List Int):List AV:=List.map (AV.int .i64) l
structure apiFact where
 qb:Int
 qa:(List Int)
def l3 (c:Option Nat) (l:List Int):AV:=.lst 3 1 c (List.map (AV.int .i64) l)
def qg (x:apiFact):AV:=.agg [.int .i64 x.qb,l3 none x.qa]
structure rf2Atom where
 qb:Int
 qa:(List Int)
def l41 (c:Option Nat) (l:List apiFact):AV:=.lst 41 2 c (List.map qg l)
def NB (x:rf2Atom):AV:=.agg [.int .i64 x.qb,l3 none x.qa]
structure rf3Lit where
 qn:Bool
 qe:rf2Atom
def YE (x:rf3Lit):AV:=.agg [.bool x.qn,.int .i64 x.qe.qb,l3 none x.qe.qa]
structure rf3Rule where
 qc:rf2Atom
 qd:(List rf3Lit)
def l96 (c:Option Nat) (l:List rf3Lit):AV:=.lst 96 3 c (List.map YE l)
def XR (x:rf3Rule):AV:=.agg [.int .i64 x.qc.qb,l3 none x.qc.qa,l96 none x.qd]
structure qj where
 qb:Int
 qa:(List Int)
def l94 (c:Option Nat) (l:List rf3Rule):AV:=.lst 94 3 c (List.map XR l)
def JJ (x:qj):AV:=.agg [.int .i64 x.qb,l3 none x.qa]
structure ruLit where
 qn:Bool
 qe:qj
def jV (x:ruLit):AV:=.agg [.bool x.qn,.int .i64 x.qe.qb,l3 none x.qe.qa]
structure ruRule where
 qc:qj
 qd:(List ruLit)
def l56 (c:Option Nat) (l:List ruLit):AV:=.lst 56 3 c (List.map jV l)
def ja (x:ruRule):AV:=.agg [.int .i64 x.qc.qb,l3 none x.qc.qa,l56 none x.qd]
structure Je where
 f_0:Int
 f_1:Int
def l54 (c:Option Nat) (l:List ruRule):AV:=.lst 54 3 c (List.map ja l)
end Go.AM
namespace Go.AM
open Go.Proofs
def ZY (v30:(List Int)):Option ((List Int)×Int) :=
 (some ((snap 0 (Int.toNat 6) v30),0))
def QY (v30:(List Int)) (K31:(Option ((List Int)×Int))):List Nat→Nat→Option ((List Int)×Int)
 | [],k4=>K31
 | x4::r4,k4=>(chk (decide ((0:Int)≤(k4:Int)∧(k4:Int)<(((Int.toNat 6):Nat):Int))) ((v30[(0+Int.toNat (k4:Int))]?).bind fun e36=>(bif (decide (e36 > 5)) then (some ((snap 0 (([]:(List Int)).length) ([]:(List Int))),8)) else (QY v30 K31 r4 (k4+1)))))
def VT (v30:(List Int)):Option ((List Int)×Int) :=
 (chk (lenOk (List.range (Int.toNat (((Int.toNat 6):Nat):Int)))) (QY v30 (ZY v30) (List.range (Int.toNat (((Int.toNat 6):Nat):Int))) 0))
def VS (N1:((List Int)→Option ((List Int)×Int))) (v29:(List Int)):Option ((List Int)×Int) :=
 (N1 v29)
def ZZ (N2:((List Int)→Option ((List Int)×Int))) (v28:(List Int)):Option ((List Int)×Int) :=
 (N2 v28)
def XA (x2:rf3Rule) (v14:(List Int)) (N3:((List Int)→Option ((List Int)×Int))) (v22:Int):Option ((List Int)×Int) :=
 (chk (decide ((0:Int)≤x2.qc.qb∧x2.qc.qb<(((Int.toNat 6):Nat):Int))) ((v14[(0+Int.toNat x2.qc.qb)]?).bind fun e24=>(chk (decide ((0:Int)≤x2.qc.qb∧x2.qc.qb<(((Int.toNat 6):Nat):Int))) ((upd v14 (0+Int.toNat x2.qc.qb) (if v22 > e24 then v22 else e24)).bind fun u26=>(N3 u26)))))
def Qc (x2:rf3Rule) (K11:((List Int)→Option ((List Int)×Int))):List rf3Lit→Nat→(List Int)→Option ((List Int)×Int)
 | [],k3,v14=>(K11 v14)
 | x3::r3,k3,v14=>(chk (decide ((0:Int)≤x3.qe.qb∧x3.qe.qb<(((Int.toNat 6):Nat):Int))) ((v14[(0+Int.toNat x3.qe.qb)]?).bind fun e19=>(bif x3.qn then ((XA x2 v14 (Qc x2 K11 r3 (k3+1))) (IntKind.wrap .i64 (e19+1))) else ((XA x2 v14 (Qc x2 K11 r3 (k3+1))) e19))))
def QZ (K8:((List Int)→Option ((List Int)×Int))):List rf3Rule→Nat→(List Int)→Option ((List Int)×Int)
 | [],k2,v10=>(K8 v10)
 | x2::r2,k2,v10=>(chk (lenOk x2.qd) (Qc x2 (ZZ (QZ K8 r2 (k2+1))) x2.qd 0 v10))
def Xa (a1:(List rf3Rule)) (K5:((List Int)→Option ((List Int)×Int))):List Nat→Nat→(List Int)→Option ((List Int)×Int)
 | [],k1,v7=>(K5 v7)
 | x1::r1,k1,v7=>(chk (lenOk a1) (QZ (VS (Xa a1 K5 r1 (k1+1))) a1 0 v7))
def XM (a1:(List rf3Rule)):Option ((List Int)×Int) :=
 (chk (mkOk 8 6) (chk (lenOk (List.range (Int.toNat 60))) (Xa a1 (VT) (List.range (Int.toNat 60)) 0 (List.replicate (Int.toNat 6) 0))))
def UC (a1:Int) (a2:(List Int)):Option Int :=
 (bif ((a2.length:Int) == 1) then ((idx a2 0).bind fun e7=>(some (IntKind.wrap .i64 ((IntKind.wrap .i64 ((IntKind.wrap .i64 (a1 * 42))+e7)) - 1)))) else ((idx a2 0).bind fun e9=>((idx a2 1).bind fun e10=>(some (IntKind.wrap .i64 ((IntKind.wrap .i64 ((IntKind.wrap .i64 ((IntKind.wrap .i64 (a1 * 42))+(IntKind.wrap .i64 (e9 * 6))))+e10)) - 1))))))
def Nm (v12:(List Bool)):Option (List Bool) :=
 (chk (decide (v12.length=252)) (chk (decide (v12.length=252∧(List.replicate 252 false).length=252)) (chk (decide (v12.length=252)) (some v12))))
def Zg (K4:((List Bool)→Option (List Bool))):List apiFact→Nat→(List Bool)→Option (List Bool)
 | [],k1,v6=>(K4 v6)
 | x1::r1,k1,v6=>((UC x1.qb x1.qa).bind fun w9=>(chk (decide ((0:Int)≤w9∧w9<((252:Nat):Int)∧0<1)) (chk (decide ((0+Int.toNat w9 * 1)<v6.length)) ((Zg K4 r1 (k1+1)) (v6.set (0+Int.toNat w9 * 1) true)))))
def qfI (a1:(List apiFact)):Option (List Bool) :=
 (chk (lenOk a1) (Zg (Nm) a1 0 (List.replicate 252 false)))
end Go.AM
