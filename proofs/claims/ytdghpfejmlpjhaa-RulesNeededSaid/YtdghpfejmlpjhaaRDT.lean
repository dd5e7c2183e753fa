/- s -/
import Derived.Test.YtdghpfejmlpjhaaRL27
import Derived.Test.YtdghpfejmlpjhaaRMT
import Derived.Test.YtdghpfejmlpjhaaAWq
import Derived.Test.YtdghpfejmlpjhaaChecked
import Derived.Test.YtdghpfejmlpjhaaANil
import Derived.Test.YtdghpfejmlpjhaaASimJ
import Derived.Test.YtdghpfejmlpjhaaRCon3
import Derived.Test.YtdghpfejmlpjhaaRA1
import Derived.Test.YtdghpfejmlpjhaaRL26
set_option maxRecDepth 100000
set_option linter.unusedVariables false
set_option linter.unusedSimpArgs false
namespace Go.AM
open Go.Proofs Go.Sort
open Classical
theorem qcq (K:ruRule→Option ruRule) (hr:Int) (ha:List Int):∀ (body:List ruLit) (k:Nat) (acc:List ruLit),(∀ b,b∈body→b.qe.qa.length≤1000)→acc.length+body.length≤1000→jq K body k hr ha acc=K ⟨⟨hr,ha⟩,acc++body⟩
  | [],k,acc,_,_=>by rw[jq,List.append_nil]
  | b::body,k,acc,hb,hl=>by
    rw[List.length_cons]at hl;rw[jq,VH (hb b (List.mem_cons_self ..))];simp only[Option.bind_some];rw[ZJ (XI (by omega) (by simp;omega)),qcq K hr ha body (k+1) _ (fun x hx=>hb x (List.mem_cons_of_mem _ hx)) (by simp;omega),List.append_assoc];rfl
theorem qdc {r:rf3Rule} (h:okR r):QX (toR r)=some (toR r):=by
  have h1:=h.1.2.1.2;have h2:=h.2.1
  have hx:∀ b,b∈(toR r).qd→b.qe.qa.length≤1000:=fun b hb=>by
    obtain⟨x,hx,rfl⟩:=List.mem_map.1 hb;have:=(h.2.2.1 x hx).2.1.2;show x.qe.qa.length≤1000;omega
  unfold QX;rw[VH (show (toR r).qc.qa.length≤1000 from by show r.qc.qa.length≤1000;omega)];simp only[Option.bind_some];rw[ZJ (qN (by simp[toR];omega)),qcq _ _ _ _ 0 [] hx (by simp[toR];omega)];rfl
theorem qed (v:Int) (K:List ruRule→Option (List ruRule×Int)):∀ (l:List rf3Rule) (k:Nat) (acc:List ruRule),(∀ r,r∈l→okR r)→acc.length+l.length≤1000→jC v K (l.map toR) k acc=K (acc++(l.filter fun r=>bitS v r.qc.qb.toNat).map toR)
  | [],k,acc,_,_=>by rw[List.map_nil,jC];simp
  | r::l,k,acc,h,hl=>by
    rw[List.length_cons]at hl;have hr:=h r (List.mem_cons_self ..);have h6:rel6 r.qc.qb:=hr.1.1;have e:(toR r).qc.qb=r.qc.qb:=rfl;rw[List.map_cons,jC,e,ZJ (decide_eq_true h6.1),test1 h6,List.filter_cons];unfold Qu
    have ih:=fun a (ha:a.length+l.length≤1000)=>qed v K l (k+1) a (fun x hx=>h x (List.mem_cons_of_mem _ hx)) ha
    cases bitS v r.qc.qb.toNat with
    | true =>
      rw[cond_true,qdc hr];simp only[Option.bind_some];rw[ZJ (XI (by omega) (by simp;omega)),ih _ (by simp;omega)]
      simp
    | false =>
      rw[cond_false,ih _ (by omega)]
      simp
theorem qbH (v:List Bool) (hv:v.length=6) (K:List rf3Rule→Option (List rf3Rule)):∀ (l:List rf3Rule) (k:Nat) (acc:List rf3Rule),(∀ r,r∈l→okR r)→acc.length+l.length≤1000→Qw v K l k acc=K (acc++l.filter fun r=>v.getD r.qc.qb.toNat false)
  | [],k,acc,_,_=>by rw[Qw];simp
  | r::l,k,acc,h,hl=>by
    rw[List.length_cons]at hl;have hr:=h r (List.mem_cons_self ..);have h6:rel6 r.qc.qb:=hr.1.1;rw[Qw,ZJ (dec6b h6),get6b hv h6,List.filter_cons];simp only[Option.bind_some];unfold Yv
    have ih:=fun a (ha:a.length+l.length≤1000)=>qbH v hv K l (k+1) a (fun x hx=>h x (List.mem_cons_of_mem _ hx)) ha
    cases v.getD r.qc.qb.toNat false with
    | true =>
      rw[cond_true,ZJ (XI (by omega) (by simp;omega)),ih _ (by simp;omega)]
      simp
    | false =>
      rw[cond_false,ih _ (by omega)]
      simp
theorem qbV {fuel:Nat} (hf:20≤fuel) {l:List rf3Rule} (ho:okRules l) {facts:List apiFact} (hv:VR l facts) (hv0:VR l []) {rel:Int} (hr:rel6 rel) :
    ∃ L,L.Sublist l∧XL fuel (l.map toR) rel=some (L.map toR,0)∧Hx l rel=some L∧∃ D,NeedN l rel.toNat D∧∀ r,r∈L↔r∈l∧D r.qc.qb.toNat:=by
  have hl10:=hv.1;have hrels:=Zh hv.okL;have hokR:=hv.2.2.2.1;have hlt:=Ve hr
  have hs1:wf64 (iShl .i64 1 rel):=by
   rw[Hj hr];unfold wf64;have:(2:Nat) ^ rel.toNat≤2 ^ 6:=Nat.pow_le_pow_right (by omega) (by omega);have e:(2:Nat) ^ 6=64:=by decide
   generalize 2 ^ rel.toNat=m at this;omega
  have hb1:∀ i,bitsP (iShl .i64 1 rel) i↔i=rel.toNat:=fun i=>by
    unfold bitsP
    constructor
    · rintro⟨h1,h2⟩
      rw[qbn hs1 (by omega),Hj hr,qgr (by omega),decide_eq_true_eq]at h2;exact h2
    · intro h
      exact⟨by omega,by rw[qbn hs1 (by omega),Hj hr,qgr (by omega),decide_eq_true h]⟩
  obtain⟨v,a1,a2,a3⟩:=qee (by omega:l.length≤100) hrels (qJ (l.map toR)) (rel:=rel.toNat) 8 fuel (iShl .i64 1 rel) true hs1 (by rw[if_pos rfl];omega) (by omega) ((hb1 _).2 rfl) (fun Q q1 q2 i hi=>by rw[(hb1 i).1 hi];exact q1) (fun h=>by cases h)
  have hv0l:((List.replicate 6 false).set rel.toNat true).length=6:=by simp
  have hn1:∀ i,setN ((List.replicate 6 false).set rel.toNat true) i↔i=rel.toNat:=fun i=>by
    unfold setN;rw[qak (by simp;omega)]
    by_cases h:i=rel.toNat
    · rw[if_pos h];exact⟨fun _=>h,fun _=>rfl⟩
    · rw[if_neg h,List.getD_eq_getElem?_getD,List.getElem?_replicate]
      constructor
      · intro q;split at q <;> simp at q
      · intro q;exact absurd q h
  have hc1:1≤cntB6 ((List.replicate 6 false).set rel.toNat true):=List.countP_pos_iff.2 ⟨rel.toNat,List.mem_range.2 hlt,(hn1 _).2 rfl⟩;obtain⟨u,b1,b2,b3⟩:=qbK (by omega:l.length≤100) hrels (YT l) (rel:=rel.toNat) (List.range (Int.toNat 6)) 0 ((List.replicate 6 false).set rel.toNat true) hv0l ((hn1 _).2 rfl) (fun Q q1 q2 i hi=>by rw[(hn1 i).1 hi];exact q1) (.inr (by simp at hc1 ⊢;omega))
  have hsame:=fun i=>a3.same b3 i
  have hfil:(l.filter fun r=>bitS v r.qc.qb.toNat)=l.filter fun r=>u.getD r.qc.qb.toNat false:=by
    refine List.filter_congr fun r hrm=>?_
    have h6:rel6 r.qc.qb:=(hokR r hrm).1.1;rw[Bool.eq_iff_iff];have:=hsame r.qc.qb.toNat;exact⟨fun h=>this.1 ⟨Ve h6,h⟩,fun h=>(this.2 h).2⟩
  refine⟨l.filter fun r=>u.getD r.qc.qb.toNat false,List.filter_sublist,?_,?_,setN u,b3,fun r=>List.mem_filter⟩
  · unfold XL
    have hval:=Zu (fuel:=fuel) (by omega) (facts:=[]) ho;rw[ZV hv0,show (([]:List apiFact).take 26).map cvF=[] from rfl,decide_eq_true hv0]at hval;rw[hval];simp only[Option.bind_some,Bool.not_true,cond_false];rw[decide_eq_false (by have:=hr.1;omega:¬ rel<0),cond_false,decide_eq_false (by have:=hr.2;omega:¬ rel ≥ 6)];unfold Ql;rw[cond_false,ZJ (decide_eq_true hr.1),a1];unfold qJ;rw[ZJ (qN (by rw[List.length_map];omega)),qed v _ l 0 [] hokR (by simp;omega),hfil];rfl
  · unfold Hx
    have e4:0+Int.toNat rel * 1=rel.toNat:=by omega
    rw[ZJ (dec6b hr),e4,ZJ (decide_eq_true (by simp;omega)),ZJ (qN (by simp)),b1];unfold YT;rw[ZJ (qN (by omega)),qbH u b2 _ l 0 [] hokR (by simp;omega)];rfl
theorem qdo {fuel:Nat} (hf:20≤fuel) {l:List rf3Rule} (ho:okRules l) {rel:Int} (h:¬ (VR l []∧rel6 rel)):XL fuel ((l.take 12).map cvR) rel=some ([],2):=by
  have hval:=Zu (fuel:=fuel) (by omega) (facts:=[]) ho;rw[show (([]:List apiFact).take 26).map cvF=[] from rfl]at hval;unfold XL;rw[hval];simp only[Option.bind_some]
  by_cases hv:VR l []
  · rw[decide_eq_true hv,Bool.not_true,cond_false]
    by_cases h0:rel<0
    · rw[decide_eq_true h0,cond_true];rfl
    · rw[decide_eq_false h0,cond_false,decide_eq_true (Classical.byContradiction fun q=>h ⟨hv,by unfold rel6;omega⟩:rel ≥ 6)]
      rfl
  · rw[decide_eq_false hv];rfl
end Go.AM
namespace Go.AM
open Go.RowKit Go.Sort Go.Proofs Go.Lib
def PostPM (P:Program) (fn:Func) (r:AV) (hp':Env):Ex→Env→Prop
 | .exit _,_=>False
 | _,e=>Yq P fn e=some r∧ents e=hp'
theorem qbm {P:Program} {f:Nat} {args:List AV} {hp hp':Env} {r:AV} {fn:Func} {c:Code} (hf:P.funcs[f]? = some fn) (hb:fn.body=some c) (hlen:(Nat.ble args.length fn.ntmps && Nat.ble fn.ntmps 1000000 && hpOk hp)=true) (h:CodeP P fn.ntmps c (PostPM P fn r hp') (argsEnv 0 (args.map AV.strip)++hp)):CallMOk P f args hp r hp':=by
 simp only[Bool.and_eq_true]at hlen;obtain⟨⟨hlen,hsm⟩,hhp⟩:=hlen;have hle:=Nat.le_of_ble_eq_true hlen;have hsm:=Nat.le_of_ble_eq_true hsm;intro M O w vs hG hC hl hO hOi hR hH;refine calls_of_wp hf hb ?_
 have hsz:vs.toArray.size=vs.length:=by simp
 have hinv:Inv ⟨fun k=>k<w.heap.size∧∀ c,O.o true c≠some k,M,w,O,hG⟩ fn.ntmps M O (argsEnv 0 (args.map AV.strip)++hp) { tmps:=vs.toArray++Array.replicate (fn.ntmps - vs.toArray.size) undef,defers:=[] } w:=by
  have hsize:(vs.toArray++Array.replicate (fn.ntmps - vs.toArray.size) undef).size=fn.ntmps:=by simp;omega
  refine⟨hsize,rfl,BelowD.refl _ _,fun k hk=>hk.1,hC,Sub.refl M,fun _ _ _=>rfl,fun i c g e=>?_,fun i i' c c' g e e'=>?_,⟨hsm,fun c _ _=>Gh.Eq1.refl O c⟩,fun t x hx=>?_⟩
  ·obtain⟨rfl,h2⟩:=hO i c g e;exact⟨fun hD=>hD.2 c e,h2⟩
  ·obtain⟨rfl,h2⟩:=hO i c g e;obtain⟨rfl,h3⟩:=hO i' c' g e';exact⟨rfl,hOi c c' g e e'⟩
  ·rcases Vk hx with hx | hx
   ·obtain⟨_,h2⟩:=Zo _ 0 t x hx;simp only[Nat.sub_zero,List.getElem?_map]at h2
    cases hz:args[t]? with
    | none=>rw[hz]at h2;cases h2
    | some z =>
     rw[hz]at h2;cases h2
     have htl:t<vs.length:=by rw[← hl];exact (List.getElem?_eq_some_iff.1 hz).1
     have hv:(vs.toArray++Array.replicate (fn.ntmps - vs.toArray.size) undef).getD t undef=vs[t]:=by
      rw[Array.getD_eq_getD_getElem?,Array.getElem?_append_left (by simpa using htl)]
      simp[htl]
     rw[hv];exact QF (hR t z _ hz (List.getElem?_eq_getElem htl))
   ·have hge:2000000≤t:=by
     obtain⟨q,hq,h1,_⟩:=Zm hx;unfold hpOk at hhp;rw[List.all_eq_true]at hhp;have:=hhp q hq;simp only[Bool.and_eq_true]at this;rw[← h1];exact Nat.le_of_ble_eq_true this.2
    have hv:(vs.toArray++Array.replicate (fn.ntmps - vs.toArray.size) undef).getD t undef=undef:=by
     rw[Array.getD_eq_getD_getElem?,Array.getElem?_eq_none (by rw[hsize];omega)];rfl
    rw[hv];exact hH t x hx
 refine h _ _ _ _ _ hinv _ fun ex e1 a' w' M' O' hres h'=>?_
 have fin:Yq P fn e1=some r∧ents e1=hp'→∃ v1,(results fn a'.tmps).run P w'=.ok v1 w'∧∃ v2 M2 O2,Ending.returned v1=.returned v2∧BelowD (fun k=>k<w.heap.size∧∀ c,O.o true c≠some k) w w'∧Sub M M2∧Cons M2 w'∧(∀ b o,b<w.heap.size→(∀ c,O.o true c≠some b)→M2 b o=M b o) ∧
   (∀ i c g,O2 i c=some g→g<w'.heap.size∧(w.heap.size≤g∨∃ c',O.o true c'=some g))∧(∀ i i' c c' g,O2 i c=some g→O2 i' c'=some g→i=i'∧c=c')∧(∀ c,2000000≤c→c<3000000→Gh.Eq1 O O2 c) ∧
   ValOk O2 M2 w' r v2∧∀ id x,look hp' id=some x→Sat O2 M2 w' id x undef:=by
  rintro⟨h0,rfl⟩
  obtain⟨v,hv1,hv2⟩:=Vc h' h0;refine⟨v,hv1,v,M',O',rfl,h'.below,h'.ext,h'.cons,fun b o h1 h2=>h'.old b o ⟨h1,h2⟩,fun i c g hg=>?_,h'.inj,fun c h1 h2=>h'.fix.2 c h1 h2,hv2,fun id x hx=>?_⟩
  ·obtain⟨k1,k2⟩:=h'.own i c g hg;refine⟨k2,?_⟩
   rcases Nat.lt_or_ge g w.heap.size with k3 | k3
   ·refine .inr (Classical.byContradiction fun hno=>k1 ⟨k3,fun c' hc'=>hno ⟨c',hc'⟩⟩)
   ·exact .inl k3
  ·obtain⟨k1,k2,k3⟩:=Zn hx;have hs:=h'.slots id x k1
   have hv:a'.tmps.getD id undef=undef:=by
    rw[Array.getD_eq_getD_getElem?,Array.getElem?_eq_none (by rw[h'.size];omega)];rfl
   rw[hv]at hs;exact hs
 cases ex with
 | normal=>exact⟨h'.defers,fin hres⟩
 | ret=>exact⟨h'.defers,fin hres⟩
 | exit id=>exact hres.elim
theorem list58o {l:List (rufact×Bool)} (hl:l.length≤1000) (hnd:(l.map Prod.fst).Nodup):CallMOk Try.prog 58 [mpE qh AV.bool l] [] (.sb 1900000 41 2 0 (sortF (apis l)).length) [(1900000,.obj 41 2 (aL (sortF (apis l))))]:=by
 have hnd2:(apis l).Nodup:=by
  have e:apis l=(l.map Prod.fst).map apiF:=by simp[apis,List.map_map,Function.comp_def]
  rw[e];exact List.Pairwise.map apiF (fun a b h e=>h (Do e)) hnd
 refine qbm Try.func58 rfl (by kernel_rfl) ?_;show CodeP Try.prog _ _ _ [(0,mpE qh AV.bool l)];refine CodeP.seq (CodeP.reg mixedP (e2:=[(0,mpE qh AV.bool l),(2,.nils)]) ?_);refine CodeP.wk (env':=[(0,mpE qh AV.bool l)]) ?_;refine CodeP.seq (CodeP.reg mixedP (e2:=[(0,mpE qh AV.bool l),(3,.nils)]) ?_);refine CodeP.mv [.nil 3 41 2 1500003] (env':=[(0,mpE qh AV.bool l),(3,.sb 1500003 41 2 0 0),(1500003,.obj 41 2 [])]) ?_;refine CodeP.seq (CodeP.seq (CodeP.reg mixedP (e2:=[(0,mpE qh AV.bool l),(3,.sb 1500003 41 2 0 0),(5,mpE qh AV.bool l),(6,.mb 1 1000006),(1000006,.hob 1 (fK l) (fV l)),(1500003,.obj 41 2 [])]) ?_));refine CodeP.wk (env':=[(3,.sb 1500003 41 2 0 0),(6,.mb 1 1000006),(1000006,.hob 1 (fK l) (fV l)),(1500003,.obj 41 2 [])]) ?_;refine CodeP.block (CodeP.loop (I:=ListI l) ?_ l.length ⟨[],l,.hob 1 (fK l) (fV l),rfl,rfl,List.Perm.refl _,Goes.refl _⟩)
 rintro k e ⟨acc,rem,y,hk,hy,hp,hg⟩
 have hlen:acc.length+rem.length≤1000:=by
  have:=hp.length_eq;simp only[List.length_append,List.length_map]at this;omega
 refine CodeP.goes hg ?_;refine CodeP.seq ?_;refine CodeP.next mixedP rfl rfl (by kernel_rfl) (it:=1000006) (y:=y) (ks:=fK rem) (vs:=fV rem) rfl rfl hy (envF:=[(3,.sb 1500003 41 2 0 acc.length),(6,.mb 1 1000006),(7,.tup [.bool false]),(1000006,y),(1500003,.obj 41 2 (aL acc))]) (by kernel_rfl)
  (envT:=fun j=>[(3,.sb 1500003 41 2 0 acc.length),(6,.mb 1 1000006),(7,.tup [.bool true,.top,.top]),(1000006,nextEnt (fK rem) (fV rem) j),(1500003,.obj 41 2 (aL acc))]) (fun j _=>by kernel_rfl) (fun h0 _=>?_) (fun j hj _=>?_)
 ·
  refine WO.end0 (e2:=[(3,.sb 1500003 41 2 0 acc.length),(6,.mb 1 1000006),(7,.tup [.bool false]),(8,.bool false),(1000006,y),(1500003,.obj 41 2 (aL acc))]) (by kernel_rfl) ?_
  have hr0:rem=[]:=by simpa[fK] using h0
  subst hr0
  have hpa:acc.Perm (apis l):=by simpa using hp
  have hnda:acc.Nodup:=hpa.nodup_iff.2 hnd2
  have hca:∀ f,f∈acc→f.qa.length≤1000000:=fun f hf=>by
   obtain⟨p,_,rfl⟩:=List.mem_map.1 (hpa.mem_iff.1 hf);unfold apiF
   split <;> simp
  refine CodeP.seq (CodeP.cond false (by kernel_rfl) (fun h=>Bool.noConfusion h) (fun _=>CodeP.of mixedP (W.exit ?_)));refine CodeP.wk (env':=[(3,.sb 1500003 41 2 0 acc.length),(1500003,.obj 41 2 (aL acc))]) ?_;refine CodeP.of mixedP ?_;refine W.seq ?_;refine W.region (by kernel_rfl) ?_;have hsort:Run Try.prog (.callM 109 [.sb 2000000 41 2 0 acc.length,.clo 110 []] [(2000000,.obj 41 2 (aL acc))] (.tup []) [(2000000,.obj 41 2 (aL (sortF acc)))]):=.extM (sort109 (by have:=hlen;simp at this;omega) hnda hca) (fun id x hx=>by simp only[look]at hx;split at hx <;> cases hx;rfl);refine WO.callMK 1 [(1500003,2000000)] [] (F:=109) (args:=[.sb 2000000 41 2 0 acc.length,.clo 110 []]) (hp:=[(2000000,.obj 41 2 (aL acc))]) (hp2:=[(2000000,.obj 41 2 (aL (sortF acc)))]) (r:=.tup []) (by kernel_rfl) hsort (e1:=[(3,.sb 1500003 41 2 0 acc.length),(16,.sb 1500003 41 2 0 acc.length),(17,.tup []),(1500003,.obj 41 2 (aL (sortF acc)))]) (by kernel_rfl) ?_;refine WO.fin [3,1500003] [] [] [] (e2:=[(3,.sb 1500003 41 2 0 acc.length),(1500003,.obj 41 2 (aL (sortF acc)))]) (by kernel_rfl) (fun _ h=>h) ?_;refine W.seq ?_;refine W.regT [2,1500003] [] [] [] (e2:=[(2,.sb 1500003 41 2 0 acc.length),(1500003,.obj 41 2 (aL (sortF acc)))]) (by kernel_rfl) (by kernel_rfl) (fun _ h=>h) ?_;have hsl:(sortF acc).length=acc.length:=QK acc;rw[← hsl,Ua hpa];refine W.mv [.ren 1500003 1900000] (env':=[(2,.sb 1900000 41 2 0 (sortF (apis l)).length),(1900000,.obj 41 2 (aL (sortF (apis l))))]) (by kernel_rfl) ?_;exact W.ret ⟨by kernel_rfl,by kernel_rfl⟩
 ·
  have hj:j<rem.length:=by simpa[fK] using hj
  show WO Try.prog _ false _ _ _ [(3,.sb 1500003 41 2 0 acc.length),(6,.mb 1 1000006),(7,.tup [.bool true,.top,.top]),(1000006,nextEnt (fK rem) (fV rem) j),(1500003,.obj 41 2 (aL acc))];rw[HD rem hj]
  have hpt:(acc++[apiF rem[j].1]++apis (rem.eraseIdx j)).Perm (apis l):=by
   refine List.Perm.trans ?_ hp;rw[List.append_assoc];refine List.Perm.append_left _ ?_;exact ((Vp rem j hj).map fun p=>apiF p.1).symm
  have hel:(rem.eraseIdx j).length=rem.length - 1:=by rw[List.length_eraseIdx,if_pos hj]
  generalize hp1:rem[j].1=pk at hpt ⊢;generalize hp2:rem[j].2=pv at hpt ⊢;generalize rem.eraseIdx j=rem2 at hpt hel ⊢;refine WO.end0 (e2:=[(3,.sb 1500003 41 2 0 acc.length),(6,.mb 1 1000006),(7,.tup [.bool true,.top,.top]),(8,.bool true),(1000006,.hob 2 (qh pk::fK rem2) (.bool pv::fV rem2)),(1500003,.obj 41 2 (aL acc))]) (by kernel_rfl) ?_;refine CodeP.seq (CodeP.cond true (by kernel_rfl) (fun _=>CodeP.of mixedP (W.skip ?_)) (fun h=>Bool.noConfusion h));refine CodeP.wk (env':=[(3,.sb 1500003 41 2 0 acc.length),(6,.mb 1 1000006),(1000006,.hob 2 (qh pk::fK rem2) (.bool pv::fV rem2)),(1500003,.obj 41 2 (aL acc))]) ?_;refine CodeP.block (CodeP.seq (CodeP.reg mixedP (e2:=[(3,.sb 1500003 41 2 0 acc.length),(4,.box [.int .i64 pk.ql,.int .i64 pk.f_a,.int .i64 pk.f_b]),(6,.mb 1 1000006),(9,.tup [qh pk,.bool pv]),(10,qh pk),(1000006,.hob 2 (qh pk::fK rem2) (.bool pv::fV rem2)),(1500003,.obj 41 2 (aL acc))]) ?_));refine CodeP.wk (env':=[(3,.sb 1500003 41 2 0 acc.length),(4,.box [.int .i64 pk.ql,.int .i64 pk.f_a,.int .i64 pk.f_b]),(6,.mb 1 1000006),(1000006,.hob 2 (qh pk::fK rem2) (.bool pv::fV rem2)),(1500003,.obj 41 2 (aL acc))]) ?_;refine CodeP.of mixedP (W.region (by kernel_rfl) ?_);refine WO.callK 2 (F:=108) (l:=[qh pk]) (C:=[]) (r:=qg (apiF pk)) (by kernel_rfl) (by kernel_rfl) (ZN pk _ (qen pk)) (e1:=[(3,.sb 1500003 41 2 0 acc.length),(4,.box [.int .i64 pk.ql,.int .i64 pk.f_a,.int .i64 pk.f_b]),(6,.mb 1 1000006),(11,.sb 1500003 41 2 0 acc.length),(12,qh pk),(13,qg (apiF pk)),(1000006,.hob 2 (qh pk::fK rem2) (.bool pv::fV rem2)),(1500003,.obj 41 2 (aL acc))]) (by kernel_rfl) ?_;refine WO.appendOK 1 (d:=15) (e:=41) (s:=2) (bytes:=32) (m:=acc.length) (n2:=(acc++[apiF pk]).length) (xs:=aL acc) (ys:=aL [apiF pk]) (zs:=aL (acc++[apiF pk])) (env1:=[(3,.top),(4,.box [.int .i64 pk.ql,.int .i64 pk.f_a,.int .i64 pk.f_b]),(6,.mb 1 1000006),(11,.top),(12,qh pk),(13,qg (apiF pk)),(14,.lst 41 2 (some 14) (aL [apiF pk])),(1000006,.hob 2 (qh pk::fK rem2) (.bool pv::fV rem2))]) (by kernel_rfl) ?_ ?_ (List.length_map _) (e1:=[(3,.top),(4,.box [.int .i64 pk.ql,.int .i64 pk.f_a,.int .i64 pk.f_b]),(6,.mb 1 1000006),(11,.top),(12,qh pk),(13,qg (apiF pk)),(14,.lst 41 2 (some 14) (aL [apiF pk])),(15,.sb 1000015 41 2 0 (acc++[apiF pk]).length),(1000006,.hob 2 (qh pk::fK rem2) (.bool pv::fV rem2)),(1000015,.obj 41 2 (aL (acc++[apiF pk])))]) (by kernel_rfl) ?_
  ·have:(aL [apiF pk]).length=1:=rfl;rw[this];simp only[capOk,Bool.and_eq_true,Nat.ble_eq];omega
  ·unfold snapA aL;rw[List.drop_zero,List.map_append,List.take_of_length_le (by rw[List.length_map];exact Nat.le_refl _)]
  ·refine WO.end0 (e2:=[(3,.sb 1000015 41 2 0 (acc++[apiF pk]).length),(4,.box [.int .i64 pk.ql,.int .i64 pk.f_a,.int .i64 pk.f_b]),(6,.mb 1 1000006),(11,.top),(12,qh pk),(13,qg (apiF pk)),(14,.lst 41 2 (some 14) (aL [apiF pk])),(15,.sb 1000015 41 2 0 (acc++[apiF pk]).length),(1000006,.hob 2 (qh pk::fK rem2) (.bool pv::fV rem2)),(1000015,.obj 41 2 (aL (acc++[apiF pk])))]) (by kernel_rfl) ?_;exact⟨rem.length - 1,by omega,acc++[apiF pk],rem2,.hob 2 (qh pk::fK rem2) (.bool pv::fV rem2),hel,rfl,hpt,Goes.wk (e1:=[(3,.sb 1000015 41 2 0 (acc++[apiF pk]).length),(6,.mb 1 1000006),(1000006,.hob 2 (qh pk::fK rem2) (.bool pv::fV rem2)),(1000015,.obj 41 2 (aL (acc++[apiF pk])))]) (Goes.mv [.ren 1000015 1500003] (Goes.refl _))⟩
end Go.AM
namespace Go.AM
open Go.Proofs
end Go.AM
