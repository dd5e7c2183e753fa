/- s -/
import Derived.Test.YtdghpfejmlpjhaaRSort2
import Derived.Test.YtdghpfejmlpjhaaRCon2
import Derived.Test.YtdghpfejmlpjhaaASimP
import Derived.Test.YtdghpfejmlpjhaaAWq
import Derived.Test.YtdghpfejmlpjhaaChecked
import Derived.Test.YtdghpfejmlpjhaaAArr
import Derived.Test.YtdghpfejmlpjhaaASimJ
import Derived.Test.YtdghpfejmlpjhaaRCon3
import Derived.Test.YtdghpfejmlpjhaaRAT
import Derived.Test.YtdghpfejmlpjhaaRP2
set_option linter.unusedVariables false
set_option linter.unusedSimpArgs false
set_option maxRecDepth 1000000
set_option maxRecDepth 100000
namespace Go.AM
open Go.RowKit Go.Sort Go.Proofs Go.Lib
def apiF (f:rufact):apiFact:=if f.f_b=0 then ⟨f.qo,[f.f_a]⟩ else ⟨f.qo,[f.f_a,f.f_b]⟩
theorem qfU (f:rufact):YF f=some (apiF f):=by
 obtain⟨a,b,c⟩:=f;unfold YF apiF
 by_cases h:c=0
 ·subst h;rfl
 ·have:(c == 0)=false:=by simp[h]
  simp[this,h]
theorem qfA {f g:rufact} (h:apiF f=apiF g):f=g:=by
 obtain⟨a,b,c⟩:=f;obtain⟨d,e,i⟩:=g;unfold apiF at h
 by_cases h1:c=0 <;> by_cases h2:i=0 <;> simp_all
abbrev fK (l:List (rufact×Bool)):List AV:=l.map fun p=>qg p.1
abbrev fV (l:List (rufact×Bool)):List AV:=l.map fun p=>AV.bool p.2
abbrev aL (l:List apiFact):List AV:=l.map qr
abbrev apis (l:List (rufact×Bool)):List apiFact:=l.map fun p=>apiF p.1
theorem VS {α β:Type} (f:α→β):∀ (l:List α) (j:Nat),(l.map f).eraseIdx j=(l.eraseIdx j).map f
 | [],j=>by simp
 | a::l,0=>by simp
 | a::l,j+1=>by simp[VS f l j]
theorem qcN (rem:List (rufact×Bool)) {j:Nat} (h:j<rem.length):nextEnt (fK rem) (fV rem) j=.hob 2 (qg rem[j].1::fK (rem.eraseIdx j)) (AV.bool rem[j].2::fV (rem.eraseIdx j)):=by
 unfold nextEnt fK fV;rw[VS,VS]
 have e1:(rem.map fun p=>qg p.1).getD j .und=qg rem[j].1:=by
  rw[List.getD_eq_getElem?_getD,List.getElem?_map,List.getElem?_eq_getElem h];rfl
 have e2:(rem.map fun p=>AV.bool p.2).getD j .und=AV.bool rem[j].2:=by
  rw[List.getD_eq_getElem?_getD,List.getElem?_map,List.getElem?_eq_getElem h];rfl
 rw[e1,e2]
theorem Nq {α:Type}:∀ (l:List α) (j:Nat) (h:j<l.length),l.Perm (l[j]::l.eraseIdx j)
 | [],j,h=>by simp at h
 | a::l,0,h=>by simp
 | a::l,j+1,h=>by
  have ih:=Nq l j (by simpa using h);simp only[List.getElem_cons_succ,List.eraseIdx_cons_succ];exact (ih.cons a).trans (List.Perm.swap _ _ _)
theorem qcp {l m:List apiFact} (h:l.Perm m):sortF l=sortF m:=by
 have h1:∀ l:List apiFact,(sortF l).Pairwise fun a b=>(!ltOf cfF b a)=true:=fun l=>List.pairwise_mergeSort (le:=fun a b=>!ltOf cfF b a) (by
  intro a b c h1 h2;simp only[Bool.not_eq_true']at *
  exact swoF.ntrans _ _ _ h2 h1) (by
  intro a b;simp only[Bool.or_eq_true,Bool.not_eq_true']
  cases hh:ltOf cfF b a with
  | false=>exact .inl rfl
  | true =>
   right
   rw[ltF]at hh;rw[ltFf];have:=Uw a b
   omega) l
 refine List.Perm.eq_of_pairwise (le:=fun a b=>(!ltOf cfF b a)=true) (fun a b _ _ x y=>?_) (h1 l) (h1 m) ?_
 ·simp only[Bool.not_eq_true']at x y;exact totF a b y x
 ·exact ((List.mergeSort_perm l _).trans h).trans (List.mergeSort_perm m _).symm
def nodupF:List rufact→Bool
 | []=>true
 | f::r=>!(r.any (qq f)) && nodupF r
theorem Ni:∀ {l:List rufact},nodupF l=true→l.Nodup
 | [],_=>by simp
 | f::r,h=>by
  simp only[nodupF,Bool.and_eq_true,Bool.not_eq_true',List.any_eq_false]at h;rw[List.nodup_cons];exact⟨fun hm=>h.1 f hm (ZY.2 rfl),Ni h.2⟩
theorem DC:∀ {l:List rufact},l.Nodup→nodupF l=true
 | [],_=>rfl
 | f::r,h=>by
  rw[List.nodup_cons]at h;simp only[nodupF,Bool.and_eq_true,Bool.not_eq_true',List.any_eq_false];exact⟨fun g hg hk=>h.1 (by rw[ZY.1 hk];exact hg),DC h.2⟩
def ListI (l:List (rufact×Bool)) (k:Nat) (e:Env):Prop:=∃ (acc:List apiFact) (rem:List (rufact×Bool)) (y:AV),rem.length=k∧leftE y=some (fK rem,fV rem)∧(acc++apis rem).Perm (apis l) ∧
 Goes 19 e [(3,.sb 1500003 41 2 0 acc.length),(6,.mb 1 1000006),(1000006,y),(1500003,.obj 41 2 (aL acc))]
theorem list58 {l:List (rufact×Bool)} (hl:l.length≤1000) (hnd:(l.map Prod.fst).Nodup):CallOk Try.prog 58 [mpE qg AV.bool l] (.lst 41 2 none (aL (sortF (apis l)))):=by
 have hnd2:(apis l).Nodup:=by
  have e:apis l=(l.map Prod.fst).map apiF:=by simp[apis,List.map_map,Function.comp_def]
  rw[e];exact List.Pairwise.map apiF (fun a b h e=>h (qfA e)) hnd
 refine qbU Try.func58 rfl (by kernel_rfl) (fun e k q xs hh=>by cases hh) ?_;refine CodeP.seq (CodeP.reg mixedP (e2:=[(0,mpE qg AV.bool l),(2,.nils)]) ?_);refine CodeP.wk (env':=[(0,mpE qg AV.bool l)]) ?_;refine CodeP.seq (CodeP.reg mixedP (e2:=[(0,mpE qg AV.bool l),(3,.nils)]) ?_);refine CodeP.mv [.nil 3 41 2 1500003] (env':=[(0,mpE qg AV.bool l),(3,.sb 1500003 41 2 0 0),(1500003,.obj 41 2 [])]) ?_;refine CodeP.seq (CodeP.seq (CodeP.reg mixedP (e2:=[(0,mpE qg AV.bool l),(3,.sb 1500003 41 2 0 0),(5,mpE qg AV.bool l),(6,.mb 1 1000006),(1000006,.hob 1 (fK l) (fV l)),(1500003,.obj 41 2 [])]) ?_));refine CodeP.wk (env':=[(3,.sb 1500003 41 2 0 0),(6,.mb 1 1000006),(1000006,.hob 1 (fK l) (fV l)),(1500003,.obj 41 2 [])]) ?_;refine CodeP.block (CodeP.loop (I:=ListI l) ?_ l.length ⟨[],l,.hob 1 (fK l) (fV l),rfl,rfl,List.Perm.refl _,Goes.refl _⟩)
 rintro k e ⟨acc,rem,y,hk,hy,hp,hg⟩
 have hlen:acc.length+rem.length≤1000:=by
  have:=hp.length_eq;simp only[List.length_append,List.length_map]at this;omega
 refine CodeP.goes hg ?_;refine CodeP.seq ?_;refine CodeP.next mixedP rfl rfl (by kernel_rfl) (it:=1000006) (y:=y) (ks:=fK rem) (vs:=fV rem) rfl rfl hy (envF:=[(3,.sb 1500003 41 2 0 acc.length),(6,.mb 1 1000006),(7,.tup [.bool false]),(1000006,y),(1500003,.obj 41 2 (aL acc))]) (by kernel_rfl)
  (envT:=fun j=>[(3,.sb 1500003 41 2 0 acc.length),(6,.mb 1 1000006),(7,.tup [.bool true,.top,.top]),(1000006,nextEnt (fK rem) (fV rem) j),(1500003,.obj 41 2 (aL acc))]) (fun j _=>by kernel_rfl) (fun h0 _=>?_) (fun j hj _=>?_)
 ·
  refine WO.end0 (e2:=[(3,.sb 1500003 41 2 0 acc.length),(6,.mb 1 1000006),(7,.tup [.bool false]),(8,.bool false),(1000006,y),(1500003,.obj 41 2 (aL acc))]) (by kernel_rfl) ?_
  have hr0:rem=[]:=by simpa[fK] using h0
  subst hr0
  have hpa:acc.Perm (apis l):=by simpa using hp
  have hnda:acc.Nodup:=hpa.nodup_iff.2 hnd2
  have hca:∀ f,f∈acc→f.qa.length≤1000000:=fun f hf=>by
   obtain⟨p,_,rfl⟩:=List.mem_map.1 (hpa.mem_iff.1 hf);unfold apiF
   split <;> simp
  refine CodeP.seq (CodeP.cond false (by kernel_rfl) (fun h=>Bool.noConfusion h) (fun _=>CodeP.of mixedP (W.exit ?_)));refine CodeP.wk (env':=[(3,.sb 1500003 41 2 0 acc.length),(1500003,.obj 41 2 (aL acc))]) ?_;refine CodeP.of mixedP ?_;refine W.seq ?_;refine W.region (by kernel_rfl) ?_;have hsort:Run Try.prog (.callM 109 [.sb 2000000 41 2 0 acc.length,.clo 110 []] [(2000000,.obj 41 2 (aL acc))] (.tup []) [(2000000,.obj 41 2 (aL (sortF acc)))]):=.extM (sort109 (by have:=hlen;simp at this;omega) hnda hca) (fun id x hx=>by simp only[look]at hx;split at hx <;> cases hx;rfl);refine WO.callMK 1 [(1500003,2000000)] [] (F:=109) (args:=[.sb 2000000 41 2 0 acc.length,.clo 110 []]) (hp:=[(2000000,.obj 41 2 (aL acc))]) (hp2:=[(2000000,.obj 41 2 (aL (sortF acc)))]) (r:=.tup []) (by kernel_rfl) hsort (e1:=[(3,.sb 1500003 41 2 0 acc.length),(16,.sb 1500003 41 2 0 acc.length),(17,.tup []),(1500003,.obj 41 2 (aL (sortF acc)))]) (by kernel_rfl) ?_;refine WO.fin [3,1500003] [] [] [] (e2:=[(3,.sb 1500003 41 2 0 acc.length),(1500003,.obj 41 2 (aL (sortF acc)))]) (by kernel_rfl) (fun _ h=>h) ?_;refine W.seq ?_;refine W.regT [2,1500003] [] [] [] (e2:=[(2,.sb 1500003 41 2 0 acc.length),(1500003,.obj 41 2 (aL (sortF acc)))]) (by kernel_rfl) (by kernel_rfl) (fun _ h=>h) ?_;have hsl:(sortF acc).length=acc.length:=Ye acc
  have hsn:snapA 0 acc.length (aL (sortF acc))=aL (sortF (apis l)):=by
   rw[qcp hpa]at hsl ⊢;unfold snapA aL;rw[List.drop_zero,List.take_of_length_le (by rw[List.length_map,hsl];exact Nat.le_refl _)]
  refine W.mv [.frz 1500003] (env':=[(2,.lst 41 2 none (aL (sortF (apis l))))]) ((by kernel_rfl:mvAll [(2,.sb 1500003 41 2 0 acc.length),(1500003,.obj 41 2 (aL (sortF acc)))] [.frz 1500003]=[(2,.lst 41 2 none (snapA 0 acc.length (aL (sortF acc))))]).trans (by rw[hsn])) ?_
  have hr:qm Try.prog Try.f58 [(2,.lst 41 2 none (aL (sortF (apis l))))]=some (.lst 41 2 none (aL (sortF (apis l)))):=by kernel_rfl
  exact W.ret hr
 ·
  have hj:j<rem.length:=by simpa[fK] using hj
  show WO Try.prog _ false _ _ _ [(3,.sb 1500003 41 2 0 acc.length),(6,.mb 1 1000006),(7,.tup [.bool true,.top,.top]),(1000006,nextEnt (fK rem) (fV rem) j),(1500003,.obj 41 2 (aL acc))];rw[qcN rem hj]
  have hpt:(acc++[apiF rem[j].1]++apis (rem.eraseIdx j)).Perm (apis l):=by
   refine List.Perm.trans ?_ hp;rw[List.append_assoc];refine List.Perm.append_left _ ?_;exact ((Nq rem j hj).map fun p=>apiF p.1).symm
  have hel:(rem.eraseIdx j).length=rem.length - 1:=by rw[List.length_eraseIdx,if_pos hj]
  generalize hp1:rem[j].1=pk at hpt ⊢;generalize hp2:rem[j].2=pv at hpt ⊢;generalize rem.eraseIdx j=rem2 at hpt hel ⊢;refine WO.end0 (e2:=[(3,.sb 1500003 41 2 0 acc.length),(6,.mb 1 1000006),(7,.tup [.bool true,.top,.top]),(8,.bool true),(1000006,.hob 2 (qg pk::fK rem2) (.bool pv::fV rem2)),(1500003,.obj 41 2 (aL acc))]) (by kernel_rfl) ?_;refine CodeP.seq (CodeP.cond true (by kernel_rfl) (fun _=>CodeP.of mixedP (W.skip ?_)) (fun h=>Bool.noConfusion h));refine CodeP.wk (env':=[(3,.sb 1500003 41 2 0 acc.length),(6,.mb 1 1000006),(1000006,.hob 2 (qg pk::fK rem2) (.bool pv::fV rem2)),(1500003,.obj 41 2 (aL acc))]) ?_;refine CodeP.block (CodeP.seq (CodeP.reg mixedP (e2:=[(3,.sb 1500003 41 2 0 acc.length),(4,.box [.int .i64 pk.qo,.int .i64 pk.f_a,.int .i64 pk.f_b]),(6,.mb 1 1000006),(9,.tup [qg pk,.bool pv]),(10,qg pk),(1000006,.hob 2 (qg pk::fK rem2) (.bool pv::fV rem2)),(1500003,.obj 41 2 (aL acc))]) ?_));refine CodeP.wk (env':=[(3,.sb 1500003 41 2 0 acc.length),(4,.box [.int .i64 pk.qo,.int .i64 pk.f_a,.int .i64 pk.f_b]),(6,.mb 1 1000006),(1000006,.hob 2 (qg pk::fK rem2) (.bool pv::fV rem2)),(1500003,.obj 41 2 (aL acc))]) ?_;refine CodeP.of mixedP (W.region (by kernel_rfl) ?_);refine WO.callK 2 (F:=108) (l:=[qg pk]) (C:=[]) (r:=qr (apiF pk)) (by kernel_rfl) (by kernel_rfl) (NG pk _ (qfU pk)) (e1:=[(3,.sb 1500003 41 2 0 acc.length),(4,.box [.int .i64 pk.qo,.int .i64 pk.f_a,.int .i64 pk.f_b]),(6,.mb 1 1000006),(11,.sb 1500003 41 2 0 acc.length),(12,qg pk),(13,qr (apiF pk)),(1000006,.hob 2 (qg pk::fK rem2) (.bool pv::fV rem2)),(1500003,.obj 41 2 (aL acc))]) (by kernel_rfl) ?_;refine WO.appendOK 1 (d:=15) (e:=41) (s:=2) (bytes:=32) (m:=acc.length) (n2:=(acc++[apiF pk]).length) (xs:=aL acc) (ys:=aL [apiF pk]) (zs:=aL (acc++[apiF pk])) (env1:=[(3,.top),(4,.box [.int .i64 pk.qo,.int .i64 pk.f_a,.int .i64 pk.f_b]),(6,.mb 1 1000006),(11,.top),(12,qg pk),(13,qr (apiF pk)),(14,.lst 41 2 (some 14) (aL [apiF pk])),(1000006,.hob 2 (qg pk::fK rem2) (.bool pv::fV rem2))]) (by kernel_rfl) ?_ ?_ (List.length_map _) (e1:=[(3,.top),(4,.box [.int .i64 pk.qo,.int .i64 pk.f_a,.int .i64 pk.f_b]),(6,.mb 1 1000006),(11,.top),(12,qg pk),(13,qr (apiF pk)),(14,.lst 41 2 (some 14) (aL [apiF pk])),(15,.sb 1000015 41 2 0 (acc++[apiF pk]).length),(1000006,.hob 2 (qg pk::fK rem2) (.bool pv::fV rem2)),(1000015,.obj 41 2 (aL (acc++[apiF pk])))]) (by kernel_rfl) ?_
  ·have:(aL [apiF pk]).length=1:=rfl;rw[this];simp only[capOk,Bool.and_eq_true,Nat.ble_eq];omega
  ·unfold snapA aL;rw[List.drop_zero,List.map_append,List.take_of_length_le (by rw[List.length_map];exact Nat.le_refl _)]
  ·refine WO.end0 (e2:=[(3,.sb 1000015 41 2 0 (acc++[apiF pk]).length),(4,.box [.int .i64 pk.qo,.int .i64 pk.f_a,.int .i64 pk.f_b]),(6,.mb 1 1000006),(11,.top),(12,qg pk),(13,qr (apiF pk)),(14,.lst 41 2 (some 14) (aL [apiF pk])),(15,.sb 1000015 41 2 0 (acc++[apiF pk]).length),(1000006,.hob 2 (qg pk::fK rem2) (.bool pv::fV rem2)),(1000015,.obj 41 2 (aL (acc++[apiF pk])))]) (by kernel_rfl) ?_;exact⟨rem.length - 1,by omega,acc++[apiF pk],rem2,.hob 2 (qg pk::fK rem2) (.bool pv::fV rem2),hel,rfl,hpt,Goes.wk (e1:=[(3,.sb 1000015 41 2 0 (acc++[apiF pk]).length),(6,.mb 1 1000006),(1000006,.hob 2 (qg pk::fK rem2) (.bool pv::fV rem2)),(1000015,.obj 41 2 (aL (acc++[apiF pk])))]) (Goes.mv [.ren 1000015 1500003] (Goes.refl _))⟩
end Go.AM
namespace Go.AM
open Go.Proofs
end Go.AM
