/- s -/
import Derived.Test.YtdghpfejmlpjhaaRRaw
import Derived.Test.YtdghpfejmlpjhaaAAny
set_option maxRecDepth 100000
set_option linter.unusedVariables false
set_option linter.unusedSimpArgs false
namespace Go.AM
open Go.RowKit Go.Proofs
open Go.ChangeMaps (setBlock)
variable {K V:Type} {F:K→AV} {G:V→AV} {eq:K→K→Bool}
def MapAt (M:Mem) (w:World) (g:Nat) (F:K→AV) (G:V→AV) (l:List (K×V)):Prop :=
 ∃ es clock,w.heap[g]? = some (.map es clock)∧EntOk M es clock (l.map fun p=>F p.1) (l.map fun p=>G p.2)
theorem MapAt.mono {M M':Mem} {w:World} {g:Nat} {l:List (K×V)} (h:MapAt M w g F G l) (hs:Sub M M'):MapAt M' w g F G l:=by
 obtain⟨es,clock,h1,h2⟩:=h;exact⟨es,clock,h1,h2.mono hs⟩
theorem MapAt.of {M:Mem} {w w':World} {g:Nat} {l:List (K×V)} (h:MapAt M w g F G l) (hb:w'.heap[g]? = w.heap[g]?):MapAt M w' g F G l:=by
 obtain⟨es,clock,h1,h2⟩:=h;exact⟨es,clock,hb.trans h1,h2⟩
theorem MapAt.lt {M:Mem} {w:World} {g:Nat} {l:List (K×V)} (h:MapAt M w g F G l):g<w.heap.size:=by
 obtain⟨es,clock,h1,_⟩:=h;exact (Array.getElem?_eq_some_iff.1 h1).1
theorem MapAt.empty {M:Mem} {w:World} {g:Nat} (h:w.heap[g]? = some (.map #[] 0)):MapAt M w g F G []:=⟨#[],0,h,(MapKept.stamped_iff _ _).2 ⟨by simp,by simp,by simp⟩,Nat.zero_le _,rfl,rfl,fun j k e hk=>by simp at hk,fun j k e hk=>by simp at hk⟩
theorem Try.update_own {M:Mem} {es:Array MapEntry} {clock:Nat} {t kt e:TypeId} {l:List (K×V)} (E:EntOk M es clock (l.map fun p=>F p.1) (l.map fun p=>G p.2)) (ht:Ql Try.prog t=some (kt,e)) (hf:∀ x,keyFits Try.prog kt (F x)=true) (he:∀ x y,akeq (F x) (F y)=eq x y) {k:K} {v:V} {kv vv:Value} (hkv:(F k).keyV=some kv) (hvv:R M (G v) vv) (hl:l.length<1000000000) :
  ∃ es' clock',EntOk M es' clock' ((mset eq k v l).map fun p=>F p.1) ((mset eq k v l).map fun p=>G p.2)∧∀ (w:World) (g:Nat),w.heap[g]? = some (.map es clock)→(Instr.mapUpdate t (.map (some g)) kv vv).run Try.prog w=.ok () (setBlock w g (.map es' clock')):=by
 have ht':=Qq ht
 have fnd:=fun w=>YB (P:=Try.prog) (w:=w) (hf k) hkv (fits_all hf l) E
 obtain⟨E1,E2,E3,E4,E5,E6⟩:=E;have w0:World:=(default:World);obtain⟨_,_,hfd⟩:=fnd w0
 rcases hfd with ⟨f1,_,f3⟩ | ⟨j,e0,f1,_,f3,f4⟩
 ·rcases findA_set (G:=G) he k v l with ⟨i,g1,_⟩ | ⟨g1,g2,g3⟩
  ·rw[f1]at g1;cases g1
  ·rw[g2,g3];refine⟨es.push ⟨kv,vv,clock⟩,clock+1,⟨MapKept.stamped_push E1 f3,by simp[maxLen];simp at E3;omega,by simp at E3 ⊢;exact E3,by simp at E4 ⊢;exact E4,fun j k' e' hk' he'=>?_,fun j v' e' hv' he'=>?_⟩,fun w g hb=>?_⟩
   ·rw[Array.getElem?_push]at he'
    split at he'
    ·rename_i hj;cases he';rw[hj,← E3]at hk';simp only[List.getElem?_concat_length,Option.some.injEq]at hk';subst hk';exact hkv
    ·rename_i hj
     have hjl:j<(l.map fun p=>F p.1).length:=by
      have:=(Array.getElem?_eq_some_iff.1 he').1;omega
     rw[List.getElem?_append_left hjl]at hk';exact E5 j k' e' hk' he'
   ·rw[Array.getElem?_push]at he'
    split at he'
    ·rename_i hj;cases he';rw[hj,← E4]at hv';simp only[List.getElem?_concat_length,Option.some.injEq]at hv';subst hv';exact hvv
    ·rename_i hj
     have hjl:j<(l.map fun p=>G p.2).length:=by
      have:=(Array.getElem?_eq_some_iff.1 he').1;omega
     rw[List.getElem?_append_left hjl]at hv';exact E6 j v' e' hv' he'
   ·obtain⟨hck,hst,hfd⟩:=fnd w
    rcases hfd with ⟨_,f2,_⟩ | ⟨j,e0,q1,_⟩
    ·simp[Instr.mapUpdate,run_underlying ht',MapKept.run_getObj_map hb,hck,f2,MapKept.run_setObj_map _ hb,Result.andThen,setBlock]
    ·rw[f1]at q1;cases q1
 ·rcases findA_set (G:=G) he k v l with ⟨i,g1,g2,g3⟩ | ⟨g1,_⟩
  ·rw[f1]at g1;cases g1;rw[g2,g3]
   have hj:es[j]? = some e0:=by simpa using f3
   have hjs:j<es.size:=(Array.getElem?_eq_some_iff.1 hj).1
   have hkeyf:∀ e',es[j]? = some e'→({ e' with key:=kv,val:=vv }:MapEntry).key=e'.key:=fun e' he'=>by rw[hj]at he';cases he';exact f4.symm
   refine⟨es.modify j (fun e'=>{ e' with key:=kv,val:=vv }),clock,⟨MapKept.stamped_modify E1 _ _ (fun _ _=>rfl) (fun e' _ he'=>hkeyf e' he'),by simpa using E2,by simpa using E3,by simpa using E4,fun i k' e' hk' he'=>?_,fun i v' e' hv' he'=>?_⟩,fun w g hb=>?_⟩
   ·rw[Array.getElem?_modify]at he'
    split at he'
    ·rename_i hij;subst hij;rw[hj]at he';cases he';show k'.keyV=some kv;rw[← f4];exact E5 j k' e0 hk' hj
    ·exact E5 i k' e' hk' he'
   ·rw[Array.getElem?_modify]at he'
    split at he'
    ·rename_i hij;subst hij;rw[hj]at he';cases he';rw[List.getElem?_set_self (by omega)]at hv';cases hv';exact hvv
    ·rename_i hij;rw[List.getElem?_set_ne hij]at hv';exact E6 i v' e' hv' he'
   ·obtain⟨hck,hst,hfd⟩:=fnd w
    rcases hfd with ⟨q1,_⟩ | ⟨j',e',q1,f2,q3,q4⟩
    ·rw[f1]at q1;cases q1
    ·rw[f1]at q1;cases q1
     simp[Instr.mapUpdate,run_underlying ht',MapKept.run_getObj_map hb,hck,f2,hj,f4,hst,MapKept.run_setObj_map _ hb,Result.andThen,setBlock]
  ·rw[f1]at g1;cases g1
theorem setBlock_at {w:World} {g:Nat} {o o':Obj} (h:w.heap[g]? = some o):(setBlock w g o').heap[g]? = some o':=by
 have:=(Array.getElem?_eq_some_iff.1 h).1;unfold setBlock
 simp[this]
theorem setBlock_other {w:World} {g k:Nat} {o':Obj} (h:k≠g):(setBlock w g o').heap[k]? = w.heap[k]?:=by
 unfold setBlock
 simp[Array.getElem?_setIfInBounds,Ne.symm h]
theorem setBlock_size {w:World} {g:Nat} {o':Obj}:(setBlock w g o').heap.size=w.heap.size:=by
 unfold setBlock
 simp
def CallPost2 (M:Mem) (w:World) (r:AV) (e:Ending) (w':World):Prop:=∃ v M',e=.returned v∧Below w.heap.size w w'∧Sub M M'∧Cons M' w'∧(∀ b o,b<w.heap.size→M' b o=M b o)∧R M' r v∧OwnR M' w.heap.size w' r v
end Go.AM
