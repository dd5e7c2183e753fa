/- s -/
import Derived.Test.YtdghpfejmlpjhaaRQT
import Derived.Test.YtdghpfejmlpjhaaRQ1
set_option maxRecDepth 100000
set_option linter.unusedVariables false
set_option linter.unusedSimpArgs false
namespace Go.AM
open Go.Proofs Go.Sort
open Classical
theorem DB:∀ (l:List rf3Rule) (k:Nat),(∀ r,r∈l→lenOk r.qc=true)→jj jB l k=some (decide (plainP l))
 | [],k,_=>by
  rw[jj,decide_eq_true (show plainP [] from fun r hr=>by simp at hr)];rfl
 | r::l,k,h=>by
  have ih:=DB l (k+1) fun q hq=>h q (List.mem_cons_of_mem _ hq)
  rw[jj,ZC (h r (List.mem_cons_self ..)),qbw];unfold Qe;rw[ih]
  have hc:plainP (r::l)↔(∀ b,b∈r.qc→b.qp=false)∧plainP l:=by
   unfold plainP;simp only[List.mem_cons,forall_eq_or_imp]
  by_cases h1:∀ b,b∈r.qc→b.qp=false
  ·rw[if_pos h1]
   congr 1
   exact decide_eq_decide.2 ⟨fun q=>hc.2 ⟨h1,q⟩,fun q=>(hc.1 q).2⟩
  ·rw[if_neg h1,decide_eq_false (fun q=>h1 (hc.1 q).1)]
theorem qcG {l:List rf3Rule} (hl:okRules l):Zf l=some (decide (plainP l)):=by
 unfold Zf;rw[ZC hl.1]
 exact DB l 0 fun r hr=>(hl.2 r hr).2.1
theorem qbQ (a2:List Int) (K:Option Bool):∀ (r:List Int) (k:Nat),k+r.length=a2.length→qW a2 K r k=if r=a2.drop k then K else some false
 | [],k,h=>by
  rw[qW,List.drop_of_length_le (by simp at h;omega),if_pos rfl]
 | x::r,k,h=>by
  rw[List.length_cons]at h
  have hk:k<a2.length:=by omega
  rw[qW,qbQ a2 K r (k+1) (by omega),List.drop_eq_getElem_cons hk]
  have hi:idx a2 (k:Int)=some a2[k]:=by
   unfold idx;rw[if_pos (by omega),Int.toNat_natCast,List.getElem?_eq_getElem hk]
  rw[hi];simp only[Option.bind_some,List.cons.injEq]
  by_cases hx:x=a2[k]
  ·rw[show (x != a2[k])=false by simp[hx],cond_false];simp only[hx,true_and]
  ·rw[show (x != a2[k])=true by simpa using hx,cond_true,if_neg (fun h=>hx h.1)]
theorem qem {a b:List Int} (h:lenOk a=true):Qn a b=some (decide (a=b)):=by
 unfold Qn
 by_cases hl:a.length=b.length
 ·rw[show ((a.length:Int) != (b.length:Int))=false by simp[hl],cond_false,ZC h,qbQ b _ a 0 (by omega)];unfold jK;simp only[List.drop_zero]
  by_cases he:a=b
  ·rw[if_pos he,decide_eq_true he]
  ·rw[if_neg he,decide_eq_false he]
 ·rw[show ((a.length:Int) != (b.length:Int))=true by simp;omega,cond_true,decide_eq_false (fun e=>hl (by rw[e]))]
theorem qbF {g:apiFact→Option Bool} {p:apiFact→Bool}:∀ (l:List apiFact) (k:Nat),(∀ x,x∈l→g x=some (p x))→∃ i,qF g qS l k=some i∧(decide (i ≥ 0)=l.any p)
 | [],k,_=>⟨-1,by rw[qF];rfl,by simp⟩
 | x::l,k,h=>by
  obtain⟨i,h1,h2⟩:=qbF l (k+1) fun y hy=>h y (List.mem_cons_of_mem _ hy)
  rw[qF,h x (List.mem_cons_self ..)];simp only[Option.bind_some]
  cases hp:p x with
  | true=>exact⟨k,rfl,by simp[hp]⟩
  | false=>exact⟨i,by rw[cond_false];exact h1,by rw[h2,List.any_cons,hp,Bool.false_or]⟩
theorem qaP {l:List apiFact} {g:apiFact→Option Bool} {p:apiFact→Bool} (hl:lenOk l=true) (h:∀ x,x∈l→g x=some (p x)):jM l g=some (l.any p):=by
 obtain⟨i,h1,h2⟩:=qbF l 0 h;unfold jM Qa;rw[ZC hl,h1];simp only[Option.bind_some];rw[h2]
theorem Hy {a b:apiFact}:a=b↔a.qb=b.qb∧a.qa=b.qa:=by
 obtain⟨r,x⟩:=a;obtain⟨s,y⟩:=b
 simp
theorem NN {l:List apiFact} {f:apiFact} (hl:lenOk l=true) (hf:lenOk f.qa=true):XF l f=some (decide (f∈l)):=by
 unfold XF;rw[qaP (p:=fun x=>decide (f=x)) hl fun x hx=>?_]
 ·simp only[Option.bind_some]
  congr 1
  rw[Bool.eq_iff_iff,List.any_eq_true,decide_eq_true_eq]
  constructor
  ·rintro⟨x,hx,he⟩
   rw[of_decide_eq_true he];exact hx
  ·intro h;exact⟨f,h,decide_eq_true rfl⟩
 ·unfold Xv
  by_cases h1:f.qb=x.qb
  ·rw[show (f.qb == x.qb)=true by simp[h1],cond_true,qem hf];simp only[Option.bind_some,JF]
   congr 1
   exact decide_eq_decide.2 ⟨fun h=>Hy.2 ⟨h1,h⟩,fun h=>(Hy.1 h).2⟩
  ·rw[show (f.qb == x.qb)=false by simpa using h1,cond_false];unfold JF;rw[decide_eq_false (fun h=>h1 (Hy.1 h).1)]
def cutF (f:apiFact):apiFact:=⟨f.qb,f.qa.take 5⟩
theorem qcP (f:apiFact):ZV f=some (cutF f):=by
 unfold ZV;have h:=NQ (l:=f.qa) 5;rw[show ((5:Nat):Int)=5 from rfl]at h;rw[h];simp only[Option.bind_some];rw[UY (by rw[List.length_take];omega)];rfl
theorem qfz {f:apiFact} (h:groundP f):apiF (toF f)=f:=by
 rw[Nc,(qaj h).2];rfl
theorem qaV {out:List (rufact×Bool)} {f:apiFact}:f∈sortF (apis out)↔∃ g,g∈out.map Prod.fst∧apiF g=f:=by
 have hp:(sortF (apis out)).Perm (apis out):=List.mergeSort_perm ..;rw[hp.mem_iff];unfold apis;rw[List.mem_map]
 constructor
 ·rintro⟨p,hp,rfl⟩;exact⟨p.1,List.mem_map.2 ⟨p,hp,rfl⟩,rfl⟩
 ·rintro⟨g,hg,rfl⟩
  obtain⟨p,hp,rfl⟩:=List.mem_map.1 hg;exact⟨p,hp,rfl⟩
theorem qbo {l:List rf3Rule} (hl:l.length≤10) (h:∀ r,r∈l→okR r):(l.take 12).map cvR=l.map toR:=by
 rw[List.take_of_length_le (by omega)]
 exact List.map_congr_left fun r hr=>qfq (h r hr)
theorem qbM {m:List apiFact} (hm:m.length≤26) (h:∀ f,f∈m→f.qa.length≤9):(m.take 26).map cvF=m:=by
 rw[List.take_of_length_le hm]
 conv=>rhs;rw[← List.map_id m]
 refine List.map_congr_left fun f hf=>?_
 unfold cvF;rw[List.take_of_length_le (h f hf)];rfl
theorem mvalid {fuel:Nat} (hf:4≤fuel) {l:List rf3Rule} (ho:okRules l) (hl:l.length≤10) (h:∀ r,r∈l→okR r) {m:List apiFact} (hm:m.length≤26) (h9:∀ f,f∈m→f.qa.length≤9):Xt fuel (l.map toR) m=some (decide (VR l m)):=by
 have:=qck hf (facts:=m) ho;rw[qbo hl h,qbM hm h9]at this;exact this
theorem Ug {fuel:Nat} (hf:300≤fuel) {l:List rf3Rule} (ho:okRules l) {m:List apiFact} (hv:VR l m) (hp:plainP l):∃ out,QX fuel (l.map toR) m=some (sortF (apis out),0)∧NT out∧(∀ g,g∈out.map Prod.fst→okU1 g)∧out.length≤252∧∀ N,LeastR (l.map toR) N (fun g=>g∈m.map toF) (fun g=>g∈out.map Prod.fst):=by
 obtain⟨out,a1,a2,a3,a4⟩:=qbz (by omega:300≤fuel) hv.1 hv.okL hp (by have:=hv.2.1;omega) hv.2.2.1 hv.facts_ar
 have hoo:∀ g,g∈out.map Prod.fst→okU1 g:=fun g hg=>(a3 g hg).1
 have hsm:=YX a2.n hoo;rw[List.length_map]at hsm;refine⟨out,?_,a2,hoo,hsm,a4⟩;unfold QX;rw[mvalid (by omega) ho hv.1 hv.2.2.2.1 (by have:=hv.2.1;omega) (fun f hf=>by have:=(hv.2.2.1 f hf).2.1.2;omega),decide_eq_true hv];simp only[Option.bind_some,Bool.not_true,cond_false];rw[a1];simp only[Option.bind_some,Bool.not_true,cond_false];rw[qas a2 hoo];rfl
theorem ZI {out:List (rufact×Bool)} (h:out.length≤252):lenOk (sortF (apis out))=true:=Jg (by rw[Ye,List.length_map];omega)
theorem qdv {w:List apiFact×Int} {K:Option Bool} (hw:lenOk w.1=true):∀ (l:List apiFact) (k:Nat),(∀ x,x∈l→x∈w.1∧lenOk x.qa=true)→js w K l k=K
 | [],k,_=>by rw[js]
 | x::l,k,h=>by
  obtain⟨h1,h2⟩:=h x (List.mem_cons_self ..);rw[js,NN hw h2,decide_eq_true h1];simp only[Option.bind_some,Bool.not_true,cond_false]
  exact qdv hw l (k+1) fun y hy=>h y (List.mem_cons_of_mem _ hy)
theorem NY {fuel:Nat} (hf:400≤fuel) {l:List rf3Rule} {facts:List apiFact} {f:apiFact} (hl:okRules l) (hfa:okFacts facts) (hf1:okFact f):XO fuel l facts f=some true:=by
 obtain⟨n,rfl⟩:∃ n,fuel=n+30:=⟨fuel - 30,by omega⟩;have haw:=qew n;unfold XO;rw[qcG hl];simp only[Option.bind_some]
 by_cases hp:plainP l
 ·rw[decide_eq_true hp,Bool.not_true,cond_false,qaE hl hfa];simp only[Option.bind_some]
  by_cases hv:VR l facts
  ·rw[decide_eq_true hv,Bool.not_true];unfold jT;rw[cond_false,qfZ hl.1 (fun r hr=>(hl.2 r hr).2.1),qbo hv.1 hv.2.2.2.1,qel hfa.1];simp only[Option.bind_some];have hv20:=hv.2.1
   have hfs:∀ g,g∈facts→g.qa.length≤9:=fun g hg=>by have:=(hv.2.2.1 g hg).2.1.2;omega
   rw[qbM (by omega) hfs];obtain⟨out,a1,a2,a3,a4,a5⟩:=Ug (by omega:300≤n+30) hl hv hp;rw[a1];simp only[Option.bind_some];rw[qcP];simp only[Option.bind_some]
   have hml:(facts++[cutF f]).length≤26:=by simp;omega
   rw[ZC (Xc (by omega) (by omega))]
   have hm9:∀ g,g∈facts++[cutF f]→g.qa.length≤9:=fun g hg=>by
    rcases List.mem_append.1 hg with h | h
    ·exact hfs g h
    ·rw[List.mem_singleton.1 h];show (f.qa.take 5).length≤9;rw[List.length_take];omega
   simp only[show ((0:Int) != 0)=false from rfl,cond_false]
   by_cases hv2:VR l (facts++[cutF f])
   ·obtain⟨out2,b1,b2,b3,b4,b5⟩:=Ug (by omega:300≤n+30) hl hv2 hp;rw[b1];simp only[Option.bind_some];rw[show ((0:Int) != 0)=false from rfl];unfold Jf;rw[cond_false,ZC (ZI a4),qdv (ZI b4)]
    ·unfold jG;have hgr:=hv2.2.2.1 (cutF f) (by simp)
     have hfe:cutF f=f:=by
      have h2:(f.qa.take 5).length≤2:=hgr.2.1.2;rw[List.length_take]at h2;unfold cutF;rw[List.take_of_length_le (by omega)]
     rw[hfe]at hgr;rw[NN (ZI b4) hf1.2.1,decide_eq_true (qaV.2 ⟨toF f,(b5 (fun _=>False)).sub _ (List.mem_map.2 ⟨f,by rw[hfe];simp,rfl⟩),qfz hgr⟩)];simp only[Option.bind_some,cond_true];rw[haw];rfl
    ·intro x hx;obtain⟨g,hg,rfl⟩:=qaV.1 hx;refine⟨qaV.2 ⟨g,?_,rfl⟩,Jg (by have:=(qce (a3 g hg)).1.2.1.2;omega)⟩;refine (a5 (fun _=>False)).least (fun g=>g∈out2.map Prod.fst) (fun y hy=>?_) (b5 (fun _=>False)).closed g hg;refine (b5 (fun _=>False)).sub y ?_;obtain⟨z,hz,rfl⟩:=List.mem_map.1 hy;exact List.mem_map.2 ⟨z,List.mem_append_left _ hz,rfl⟩
   ·have hM:QX (n+30) (l.map toR) (facts++[cutF f])=some ([],2):=by
     unfold QX;rw[mvalid (by omega) hl hv.1 hv.2.2.2.1 hml hm9,decide_eq_false hv2];rfl
    rw[hM];simp only[Option.bind_some];unfold Jf;rw[show ((2:Int) != 0)=true from rfl,cond_true,show ((0:Int) == 0)=true from rfl,cond_true,show ((2:Int) == 2)=true from rfl,cond_true,haw];rfl
  ·rw[decide_eq_false hv,Bool.not_false];unfold jT;rw[cond_true,haw];rfl
 ·rw[decide_eq_false hp,Bool.not_false,cond_true];unfold jT;rw[cond_true,haw];rfl
end Go.AM
