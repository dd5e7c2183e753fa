/- s -/
import Derived.Test.YtdghpfejmlpjhaaRCon3
import Derived.Test.YtdghpfejmlpjhaaRMT
import Derived.OwnWalk
set_option maxRecDepth 100000
set_option linter.unusedVariables false
set_option linter.unusedSimpArgs false
namespace Go.Proofs
open Go.RowKit Go.AM
open Go.ChangeMaps (setBlock)
theorem qcY {α β:Type} (f:α→β):∀ (l:List α) (j:Nat),(l.map f).eraseIdx j=(l.eraseIdx j).map f
 | [],_=>by simp
 | _::_,0=>rfl
 | _::l,j+1=>by simp[qcY f l j]
theorem qcU {out:List (rufact×Bool)} {f:rufact}:(findA (qg f) (out.map fun p=>qg p.1)=none→f ∉ out.map Prod.fst)∧∀ j,findA (qg f) (out.map fun p=>qg p.1)=some j→(out.map Prod.fst)[j]? = some f:=by
 induction out with
 | nil=>exact⟨fun _ h=>by simp at h,fun j h=>by cases h⟩
 | cons p r ih =>
  have e:akeq (qg p.1) (qg f)=qn p.1 f:=rfl;simp only[List.map_cons,findA,e]
  cases hq:qn p.1 f with
  | true =>
   refine⟨fun h=>by simp at h,fun j h=>?_⟩;simp only[Option.some.injEq]at h;subst h;rw[Yf.1 hq];rfl
  | false =>
   cases hr:findA (qg f) (r.map fun p=>qg p.1) with
   | none =>
    refine⟨fun _ hm=>?_,fun j h=>by simp at h⟩
    rcases List.mem_cons.1 hm with h | h
    ·exact VQ.1 hq h.symm
    ·exact ih.1 hr h
   | some i =>
    refine⟨fun h=>by simp at h,fun j h=>?_⟩;simp only[Option.some.injEq]at h;subst h
    simpa using ih.2 i hr
theorem _root_.Go.AM.NT.del {out:List (rufact×Bool)} (h:NT out) {f:rufact} {j:Nat} (hj:(out.map Prod.fst)[j]? = some f):NT (out.eraseIdx j)∧∀ g,g∈(out.eraseIdx j).map Prod.fst↔g≠f∧g∈out.map Prod.fst:=by
 have hjl:=(List.getElem?_eq_some_iff.1 hj).1;rw[List.length_map]at hjl;have hp:=Nj out j hjl;have hpf:=hp.map Prod.fst
 have e1:(out[j]).1=f:=by
  have:=(List.getElem?_eq_some_iff.1 hj).2
  simpa using this
 rw[List.map_cons,e1]at hpf;have hnd:=hpf.nodup_iff.1 h.n;rw[List.nodup_cons]at hnd;refine⟨⟨fun p hp'=>h.t p ((List.eraseIdx_sublist _ _).subset hp'),hnd.2⟩,fun g=>?_⟩;rw[hpf.mem_iff,List.mem_cons]
 constructor
 ·intro hg;exact⟨fun e=>hnd.1 (e ▸ hg),.inr hg⟩
 ·rintro⟨h1,h2 | h2⟩
  ·exact absurd h2 h1
  ·exact h2
theorem SetAt.del {w:World} {g:Nat} {out:List (rufact×Bool)} (h:SetAt w g out) (hn:NT out) {f:rufact} (hf:wfF f=true) (ty:TypeId) :
  ∃ o' out',(Builtin.delete_ #[105,127] ty #[.map (some g),.agg #[.int .i64 f.qh,.int .i64 f.f_a,.int .i64 f.f_b]]).run Try.prog w=.ok (.tuple #[]) (setBlock w g o')∧SetAt (setBlock w g o') g out'∧NT out'∧∀ x,x∈out'.map Prod.fst↔x≠f∧x∈out.map Prod.fst:=by
 obtain⟨es,clock,hb,hE⟩:=h
 have hk:(qg f).keyV=some (.agg #[.int .i64 f.qh,.int .i64 f.f_a,.int .i64 f.f_b]):=by
  unfold wfF at hf;rw[Bool.and_eq_true,Bool.and_eq_true]at hf;simp only[qg,AV.keyV,keyVs,hf.1.1,hf.1.2,hf.2]
 have ht:Try.prog.underlying 105=some (.map 127 4):=Try.underlying105;obtain⟨hck,hst,hfd⟩:=XR (P:=Try.prog) (w:=w) (fits127 f) hk (Vz fits127 out) hE;obtain⟨h2,h3,h4,h5,h6,h7⟩:=hE
 rcases hfd with ⟨k1,k2,k3⟩ | ⟨j,e0,k1,k2,k3,k4⟩
 ·refine⟨.map es clock,out,?_,⟨es,clock,Go.Proofs.setBlock_at hb,h2,h3,h4,h5,h6,h7⟩,hn,fun x=>?_⟩
  ·simp[Builtin.delete_,run_underlying ht,MapKept.run_getObj_map hb,hck,k2,MapKept.run_setObj_map _ hb,Result.andThen,setBlock]
  ·refine⟨fun hx=>⟨fun e=>qcU.1 k1 (e ▸ hx),hx⟩,fun hx=>hx.2⟩
 ·have hjl:j<es.toList.length:=(List.getElem?_eq_some_iff.1 k3).1
  have hjs:j<es.size:=by simpa using hjl
  have hsub:(es.eraseIdxIfInBounds j).toList=es.toList.eraseIdx j:=by
   unfold Array.eraseIdxIfInBounds;rw[dif_pos hjs]
   simp
  have hsz:(es.eraseIdxIfInBounds j).size=es.size - 1:=by
   rw[← Array.length_toList,hsub,List.length_eraseIdx,if_pos hjl,Array.length_toList]
  have hfj:=qcU.2 j k1
  have hget:∀ {α:Type} (F:rufact×Bool→α) (i:Nat),((out.eraseIdx j).map F)[i]? = if i<j then (out.map F)[i]? else (out.map F)[i+1]?:=fun F i=>by
   rw[← qcY,List.getElem?_eraseIdx]
  obtain⟨n1,n2⟩:=hn.del hfj;refine⟨.map (es.eraseIdxIfInBounds j) clock,out.eraseIdx j,?_,⟨_,_,Go.Proofs.setBlock_at hb,MapKept.stamped_erase h2 j,by omega,?_,?_,fun i k e hk he=>?_,fun i v e hv he=>?_⟩,n1,n2⟩
  ·simp[Builtin.delete_,run_underlying ht,MapKept.run_getObj_map hb,hck,k2,MapKept.run_setObj_map _ hb,Result.andThen,setBlock]
  ·rw[hsz,List.length_map,List.length_eraseIdx,if_pos (by simp at h4;omega)];simp at h4;omega
  ·rw[hsz,List.length_map,List.length_eraseIdx,if_pos (by simp at h4;omega)];simp at h4;omega
  ·rw[hget]at hk;rw[← Array.getElem?_toList,hsub,List.getElem?_eraseIdx]at he
   split at he
   ·rename_i hij;rw[if_pos hij]at hk;exact h6 i k e hk (by simpa using he)
   ·rename_i hij;rw[if_neg hij]at hk;exact h6 (i+1) k e hk (by simpa using he)
  ·rw[hget]at hv;rw[← Array.getElem?_toList,hsub,List.getElem?_eraseIdx]at he
   split at he
   ·rename_i hij;rw[if_pos hij]at hv;exact h7 i v e hv (by simpa using he)
   ·rename_i hij;rw[if_neg hij]at hv;exact h7 (i+1) v e hv (by simpa using he)
theorem qeP {M:Mem} {w:World} {out:List (rufact×Bool)} {mv:Value} (hr:R M (mpE qg AV.bool out) mv) (hC:Cons M w) (ty:TypeId):(Builtin.len_ #[105] ty #[mv]).run Try.prog w=.ok (.int .i64 (out.length:Int)) w:=by
 have hr':R M (.mpv (out.map fun p=>qg p.1) (out.map fun p=>AV.bool p.2)) mv:=hr
 rcases ZK hr' with ⟨rfl,h1,_⟩ | ⟨ks',vs',b,es,clock,hp,rfl,q1,q2,q3,q4,q5,q6,q7⟩
 ·have h0:out=[]:=List.map_eq_nil_iff.1 h1;subst h0;exact run_len_nilMap w 105 ty Try.underlying105
 ·have h1:es.size=out.length:=by
   rw[← q4,← hp.keys.length_eq,List.length_map]
  rw[run_len_map w 105 ty b es clock Try.underlying105 (Yi (hC _ _ _ q1)),h1];rfl
def setLen (v:Value) (w:World):Nat:=match v with
 | .map (some b)=>mapLen b w
 | _=>0
theorem qaz {M:Mem} {w:World} {out:List (rufact×Bool)} {mv:Value} (hr:R M (mpE qg AV.bool out) mv) (hC:Cons M w):setLen mv w=out.length:=by
 have hr':R M (.mpv (out.map fun p=>qg p.1) (out.map fun p=>AV.bool p.2)) mv:=hr
 rcases ZK hr' with ⟨rfl,h1,_⟩ | ⟨ks',vs',b,es,clock,hp,rfl,q1,q2,q3,q4,q5,q6,q7⟩
 ·have h0:out=[]:=List.map_eq_nil_iff.1 h1;subst h0;rfl
 ·show mapLen b w=_;unfold mapLen;rw[Yi (hC _ _ _ q1)];show es.size=_;rw[← q4,← hp.keys.length_eq,List.length_map]
def dropF (could next:List (rufact×Bool)):List (rufact×Bool):=could.filter fun p=>!next.any fun q=>qn q.1 p.1
theorem NS {could next:List (rufact×Bool)} (h:NT could):NT (dropF could next)∧∀ x,x∈(dropF could next).map Prod.fst↔x ∉ next.map Prod.fst∧x∈could.map Prod.fst:=by
 refine⟨⟨fun p hp=>h.t p (List.mem_filter.1 hp).1,(List.filter_sublist.map _).nodup h.n⟩,fun x=>?_⟩
 have hx:∀ p:rufact×Bool,(!next.any fun q=>qn q.1 p.1)=true↔p.1 ∉ next.map Prod.fst:=fun p=>by
  rw[Bool.not_eq_true',← Bool.not_eq_true,List.any_eq_true];refine not_congr ⟨?_,?_⟩
  ·rintro⟨q,hq,he⟩
   exact List.mem_map.2 ⟨q,hq,Yf.1 he⟩
  ·intro hm;obtain⟨q,hq,he⟩:=List.mem_map.1 hm;exact⟨q,hq,Yf.2 he⟩
 unfold dropF;rw[List.mem_map]
 constructor
 ·rintro⟨p,hp,rfl⟩
  obtain⟨h1,h2⟩:=List.mem_filter.1 hp;exact⟨(hx p).1 h2,List.mem_map.2 ⟨p,h1,rfl⟩⟩
 ·rintro⟨h1,h2⟩
  obtain⟨p,hp,rfl⟩:=List.mem_map.1 h2;exact⟨p,List.mem_filter.2 ⟨hp,(hx p).2 h1⟩,rfl⟩
def foundR (fuel:Nat) (l:List ruRule) (g:List (rufact×Bool)):Nat→List (rufact×Bool)→Option (List (rufact×Bool)×List (rufact×Bool))
 | 0,_=>none
 | n+1,sure=>(consP fuel l g sure).bind fun could=>(consP fuel l g could).bind fun next=>bif next.length == sure.length then some (next,dropF could next) else chk (decide (sure.length<next.length∧next.length≤100000)) (foundR fuel l g n next)
def listP (l:List (rufact×Bool)):Option (List apiFact):=chk (decide (l.length≤1000) && nodupF (l.map Prod.fst)) (some (sortF (apis l)))
def Vy (fuel:Nat) (l:List ruRule) (facts:List apiFact):Option (List apiFact×List apiFact×Int) :=
 (Qx fuel l facts).bind fun v=>bif v then ((QT facts).bind fun g=>(foundR fuel l g fuel []).bind fun r=>(listP r.1).bind fun x=>(listP r.2).bind fun y=>some (x,y,0)) else some ([],[],2)
theorem Dy {l:List (rufact×Bool)} {x:List apiFact} (h:listP l=some x):l.length≤1000∧(l.map Prod.fst).Nodup∧x=sortF (apis l):=by
 obtain⟨hc,h⟩:=qi (show chk (decide (l.length≤1000) && nodupF (l.map Prod.fst)) (some (sortF (apis l)))=some x from h);rw[Bool.and_eq_true,decide_eq_true_eq]at hc;exact⟨hc.1,Vs hc.2,(Option.some.inj h).symm⟩
set_option maxHeartbeats 8000000 in
theorem Try.founded28 {fuel:Nat} {l:List ruRule} {facts:List apiFact} {r:List apiFact×List apiFact×Int} (h:Vy fuel l facts=some r):CallOk Try.prog 28 [l54 none l,l41 none facts] (.tup [l41 none r.1,l41 none r.2.1,.int .i64 r.2.2]):=by
 intro M w vs hG hC hl hR
 obtain⟨lv,fv,rfl⟩:∃ a b,vs=[a,b]:=by
  match vs,hl with
  | [a,b],_=>exact⟨a,b,rfl⟩
 have rl:R M (l54 none l) lv:=hR 0 _ lv rfl rfl;have rf:R M (l41 none facts) fv:=hR 1 _ fv rfl rfl;clear hR hl hG;show Calls Try.prog 28 #[lv,fv] w (qfZ M w (.tup [l41 none r.1,l41 none r.2.1,.int .i64 r.2.2]));unfold Vy at h;obtain⟨ok,hok,h⟩:=qc h;have c56:=Dg (UM fuel l facts ok hok) M w [lv,fv] (glob0 M) hC rfl (fun j a b ha hb=>by match j,ha,hb with | 0,ha,hb=>(cases ha;cases hb;exact rl) | 1,ha,hb=>(cases ha;cases hb;exact rf));have mixed:=mixedP;have t3:=Try.underlying3;have a3:=Try.isAgg3;have z3:=Try.sizeOf3;have v3:=Try.zeroValue3;have u3:=run_underlying Try.underlying3;have t4:=Try.underlying4;have a4:=Try.isAgg4;have z4:=Try.sizeOf4;have v4:=Try.zeroValue4;have u4:=run_underlying Try.underlying4;have t23:=Try.underlying23;have a23:=Try.isAgg23;have z23:=Try.sizeOf23;have v23:=Try.zeroValue23;have u23:=run_underlying Try.underlying23;have t24:=Try.underlying24;have a24:=Try.isAgg24;have z24:=Try.sizeOf24;have v24:=Try.zeroValue24;have u24:=run_underlying Try.underlying24;have t27:=Try.underlying27;have a27:=Try.isAgg27;have z27:=Try.sizeOf27;have v27:=Try.zeroValue27;have u27:=run_underlying Try.underlying27;have t105:=Try.underlying105;have a105:=Try.isAgg105;have z105:=Try.sizeOf105;have v105:=Try.zeroValue105;have u105:=run_underlying Try.underlying105;have t127:=Try.underlying127;have a127:=Try.isAgg127;have z127:=Try.sizeOf127;have v127:=Try.zeroValue127;have u127:=run_underlying Try.underlying127;have hmm:=@run_makeMap Try.prog
 cases ok with
 | false =>
  cases h
  go_enter Try.func28,Try.ntmps28
  go_wp2_with fail
  refine c56.mono ?_
  rintro e w1 ⟨v,M1,rfl,hB1,s1,C1,o1,r1,_⟩
  cases r1
  go_wp2
  go_ret3
  refine⟨_,M1,rfl,hB1,s1,C1,o1,?_,trivial⟩;refine .tup (vs:=[.slice none 0 0,.slice none 0 0,.int .i64 2]) rfl (fun j c v hc hv=>?_)
  match j,hc,hv with
  | 0,hc,hv=>cases hc;cases hv;exact .lstn _ _ _
  | 1,hc,hv=>cases hc;cases hv;exact .lstn _ _ _
  | 2,hc,hv=>cases hc;cases hv;exact .int _ _
 | true =>
  simp only[cond_true]at h;obtain⟨g,hg,h⟩:=qc h;obtain⟨ab,hab,h⟩:=qc h;obtain⟨xa,hxa,h⟩:=qc h;obtain⟨xb,hxb,h⟩:=qc h;cases h;obtain⟨la1,la2,rfl⟩:=Dy hxa;obtain⟨lb1,lb2,rfl⟩:=Dy hxb;clear hxa hxb
  go_enter Try.func28,Try.ntmps28
  go_wp2_with fail
  refine c56.mono ?_
  rintro e w1 ⟨v,M1,rfl,hB1,s1,C1,o1,r1,_⟩
  cases r1;have c73:=Dg (UN facts g hg) M1 w1 [fv] (glob0 M1) C1 rfl (fun j a b ha hb=>by match j,ha,hb with | 0,ha,hb=>(cases ha;cases hb;exact rf.mono s1))
  go_wp2_with fail
  refine c73.mono ?_
  rintro e w2 ⟨gv,M2,rfl,hB2,s2,C2,o2,rg,_⟩
  obtain⟨w3,ew3⟩:∃ w3,w3=w2.alloc (.map #[] 0):=⟨_,rfl⟩
  have z3':w3.heap.size=w2.heap.size+1:=by rw[ew3];simp
  have q1:=hB1.size;have q2:=hB2.size
  have B23:Below w2.heap.size w2 w3:=by rw[ew3];exact (Below.refl _ _).alloc (Nat.le_refl _) _
  have B3:Below w.heap.size w w3:=(hB1.trans (hB2.mono q1)).trans (B23.mono (by omega));have S3:SetAt w3 w2.heap.size []:=.empty (by rw[ew3];exact heap_alloc_new _ _);obtain⟨M3,eM3⟩:∃ M3,M3=mtail M2 w2.heap.size w3:=⟨_,rfl⟩
  have s3:Sub M2 M3:=by rw[eM3];exact Yr C2 B23 (Nat.le_refl _)
  have C3:Cons M3 w3:=by rw[eM3];exact XL C2 B23
  have r3:R M3 (mpE qg AV.bool []) (.map (some w2.heap.size)):=by rw[eM3];exact SetAt.freeze S3 (Nat.le_refl _)
  have o3:∀ b o,b<w.heap.size→M3 b o=M b o:=fun b o hb=>by rw[eM3,Xq (by omega),o2 b o (by omega),o1 b o hb]
  have rl3:R M3 (l54 none l) lv:=((rl.mono s1).mono s2).mono s3;have rg3:R M3 (mpE qg AV.bool g) gv:=rg.mono s3;have s03:Sub M M3:=Sub.trans s1 (Sub.trans s2 s3);have HW:=(show Hid (w3=_) from ew3);clear ew3 eM3 c56 c73 S3 B23 hB1 hB2 o1 o2 s1 s2 C1 C2 rg hg hok rf rl
  go_wp2_with fail
  rw[← HW.out]
  go_loopw [8] (fun sv wr=>∃ (M':Mem) (sure:List (rufact×Bool)) (n:Nat),Below w.heap.size w wr∧Sub M3 M'∧Cons M' wr∧(∀ b o,b<w.heap.size→M' b o=M b o)∧R M' (mpE qg AV.bool sure) sv∧foundR fuel l g n sure=some ab∧sure.length≤100000)
   (fun sv wr=>100000 - setLen sv wr)
  case atStart=>exact⟨M3,[],fuel,B3,Sub.refl _,C3,o3,r3,hab,by simp⟩
  case round =>
   obtain⟨M',sure,n,hB,sM,hC',oM,rs,hf,hsl⟩:=hrel
   cases n with
   | zero=>cases hf
   | succ n =>
    obtain⟨could,hcould,hf⟩:=qc (show ((consP fuel l g sure).bind fun could=>(consP fuel l g could).bind fun next=>bif next.length == sure.length then some (next,dropF could next) else chk (decide (sure.length<next.length∧next.length≤100000)) (foundR fuel l g n next))=some ab from hf);obtain⟨next,hnext,hf⟩:=qc hf;have hlen0:=qaz rs hC';have c74a:=Try.cons74o hcould hC' (rl3.mono sM) (rg3.mono sM) rs
    go_wp2_with fail
    refine Calls.mono c74a ?_
    rintro e w4 ⟨rfl,B4,outp,S4,N4,P4,W4⟩
    obtain⟨M4,eM4⟩:∃ M4,M4=mtail M' wr.heap.size w4:=⟨_,rfl⟩
    have s4:Sub M' M4:=by rw[eM4];exact Yr hC' B4 (Nat.le_refl _)
    have C4:Cons M4 w4:=by rw[eM4];exact XL hC' B4
    have r4:R M4 (mpE qg AV.bool could) (.map (some wr.heap.size)):=by rw[eM4];exact UL P4 (SetAt.freeze S4 (Nat.le_refl _))
    have c74b:=Try.cons74o hnext C4 ((rl3.mono sM).mono s4) ((rg3.mono sM).mono s4) r4;clear c74a
    go_wp2_with fail
    refine Calls.mono c74b ?_
    rintro e w5 ⟨rfl,B5,outn,S5,N5,P5,W5⟩
    clear c74b;have hC4:Cons M' w4:=hC'.below B4;obtain⟨M5,eM5⟩:∃ M5,M5=mtail M' w4.heap.size w5:=⟨_,rfl⟩;have q4:=B4.size;have q5:=B5.size
    have s5:Sub M' M5:=by rw[eM5];exact Yr hC4 B5 (Nat.le_refl _)
    have C5:Cons M5 w5:=by rw[eM5];exact XL hC4 B5
    have r5:R M5 (mpE qg AV.bool next) (.map (some w4.heap.size)):=by rw[eM5];exact UL P5 (SetAt.freeze S5 (Nat.le_refl _))
    have o5:∀ b o,b<w.heap.size→M5 b o=M b o:=fun b o hb=>by have:=hB.size;rw[eM5,Xq (by omega),oM b o hb]
    have n5:∀ o,M5 wr.heap.size o=none:=fun o=>by
     have:wr.heap.size<w4.heap.size:=S4.lt;rw[eM5,Xq this]
     cases hm:M' wr.heap.size o with
     | none=>rfl
     | some u=>have:=ZW (hC' _ _ _ hm);omega
    have B05:Below w.heap.size w w5:=(hB.trans (B4.mono hB.size)).trans (B5.mono (by have:=hB.size;omega));have rs5:=rs.mono s5;have hl1:=qeP r5 C5;have hl2:=qeP rs5 C5;have S45:SetAt w5 wr.heap.size outp:=S4.of (B5.block _ S4.lt);have lt4:wr.heap.size<w4.heap.size:=S4.lt;have lt5:w4.heap.size<w5.heap.size:=S5.lt
    by_cases heq:next.length=sure.length
    ·have hab2:ab=(next,dropF could next):=by
      rw[heq,show (sure.length == sure.length)=true from beq_self_eq_true _]at hf;exact (Option.some.inj hf).symm
     subst hab2;obtain⟨es,fs,hfs,hrange⟩:=qaE r5;obtain⟨ob,hrg,hI0⟩:=hrange w5 C5
     have hei:(next.length:Int)=(sure.length:Int):=by omega
     obtain⟨w6,ew6⟩:∃ w6,w6=w5.alloc ob:=⟨_,rfl⟩
     have z6:w6.heap.size=w5.heap.size+1:=by rw[ew6];simp
     have B6:Below w.heap.size w w6:=by rw[ew6];exact B05.alloc (by have:=hB.size;omega) _
     have C6:Cons M5 w6:=by rw[ew6];exact C5.alloc _
     have S6:SetAt w6 wr.heap.size outp:=S45.of (by rw[ew6,heap_alloc_old _ _ (by omega)]);rw[← ew6]at hI0;have HW6:=(show Hid (w6=_) from ew6);have Hei:=(show Hid _ from hei);clear ew6 hei eM4 eM5 hf hcould hnext
     have hwn:∀ f,f∈fs→wfF f=true:=fun f hm=>by
      have h1:=hfs.mem_iff.2 hm;have h2:=((P5.map Prod.fst).mem_iff).2 h1;obtain⟨p,hp,rfl⟩:=List.mem_map.1 h2;exact W5 p hp
     go_wp2_with fail
     rw[← HW6.out];obtain⟨w7,rfl⟩:∃ w7,w7=wr:=⟨_,rfl⟩
     go_loopw [] (fun wx=>Below w.heap.size w wx∧w6.heap.size≤wx.heap.size∧(∀ k,k<w6.heap.size→k≠w7.heap.size→k≠w5.heap.size→wx.heap[k]? = w6.heap[k]?)∧∃ (done rem:List rufact) (outx:List (rufact×Bool)),(done++rem).Perm fs∧IterG M5 es wx w5.heap.size rem∧SetAt wx w7.heap.size outx∧NT outx∧∀ x,x∈outx.map Prod.fst↔x ∉ done∧x∈outp.map Prod.fst)
      (fun wx=>itLeft es w5.heap.size wx)
     case atStart=>exact⟨B6,Nat.le_refl _,fun _ _ _ _=>rfl,[],fs,outp,List.Perm.refl _,hI0,S6,N4,fun x=>by simp⟩
     case round =>
      obtain⟨w8,rfl⟩:∃ w8,w8=wr:=⟨_,rfl⟩;obtain⟨hBr,hsz,hold,done,rem,outx,hp,hI,hS,hN,hm⟩:=hrel
      have hCr:Cons M5 w8:=C6.of_blocks fun b o u hu hb=>by
       by_cases e1:b=w7.heap.size
       ·rw[e1,n5]at hu;cases hu
       ·refine hold b hb e1 fun e2=>?_
        have:=ZW (C5 _ _ _ hu);omega
      rcases hI.next hCr 0 with ⟨rfl,hrun⟩ | ⟨j,f,v,wn,hj,hrun,hgr,hszn,hIn,hent⟩
      ·have hnx:∀ ty,(Instr.next (.pointer (some ⟨w5.heap.size,0,none⟩)) false ty).run Try.prog w8=_:=fun _=>hrun
       have hpf:done.Perm fs:=by simpa using hp
       have hD:=NS (next:=next) (N4.of_perm P4)
       have P8:outx.Perm (dropF could next):=NT.perm hN hD.1 fun x=>by
        rw[hm,hD.2,hpf.mem_iff,← hfs.mem_iff,(P4.map Prod.fst).mem_iff]
       have c58a:=(list58 la1 la2) M5 w8 [.map (some w4.heap.size)] (glob0 M5) hCr rfl (fun j a b ha hb=>by match j,ha,hb with | 0,ha,hb=>(cases ha;cases hb;exact r5))
       go_wp2_with fail
       refine c58a.mono ?_
       rintro e w9 ⟨va,M6,rfl,B9,s6,C9,o6,ra,_⟩
       have S9:SetAt w9 w7.heap.size outx:=hS.of (B9.block _ hS.lt);obtain⟨es9,clock9,hb9,hE9⟩:=S9
       have n6:∀ o,M6 w7.heap.size o=none:=fun o=>by rw[o6 _ _ hS.lt,n5]
       have s7:Sub M6 (maddM M6 w7.heap.size es9 clock9):=fun b o u hu=>by
        rw[Hi fun e=>by rw[e,n6]at hu;cases hu];exact hu
       have r8:R (maddM M6 w7.heap.size es9 clock9) (mpE qg AV.bool (dropF could next)) (.map (some w7.heap.size)):=UL P8 (qhs s7 (hE9.mono fun b o u hu=>by cases hu));have c58b:=(list58 lb1 lb2) (maddM M6 w7.heap.size es9 clock9) w9 [.map (some w7.heap.size)] (glob0 _) (qea C9 hb9) rfl (fun j a b ha hb=>by match j,ha,hb with | 0,ha,hb=>(cases ha;cases hb;exact r8));clear hnx
       go_wp2_with fail
       refine c58b.mono ?_
       rintro e w10 ⟨vb,M7,rfl,B10,s8,C10,o7,rb,_⟩
       go_wp2
       go_ret3
       have g9:=B9.size;have g10:=hBr.size;refine⟨_,M7,rfl,(hBr.trans (B9.mono g10)).trans (B10.mono (by omega)),Sub.trans s03 (Sub.trans sM (Sub.trans s5 (Sub.trans s6 (Sub.trans s7 s8)))),C10,fun b o hb=>?_,?_,trivial⟩
       ·have hgb:=hB.size;rw[o7 b o (by omega),Hi (by omega),o6 b o (by omega),o5 b o hb]
       ·refine .tup (vs:=[va,vb,.int .i64 0]) rfl (fun j c v hc hv=>?_)
        match j,hc,hv with
        | 0,hc,hv=>cases hc;cases hv;exact ra.mono (Sub.trans s7 s8)
        | 1,hc,hv=>cases hc;cases hv;exact rb
        | 2,hc,hv=>cases hc;cases hv;exact .int _ _
      ·have hnx:∀ ty,(Instr.next (.pointer (some ⟨w5.heap.size,0,none⟩)) false ty).run Try.prog w8=_:=fun _=>hrun
       have Cn:Cons M5 wn:=hCr.of_blocks fun b o u hu hb=>hgr.block b hb fun e=>by have:=ZW (C5 _ _ _ hu);cases e;omega
       have hen:=hent wn rfl Cn;have hwf1:wfF f=true:=hwn f (hp.mem_iff.1 (List.mem_append_right _ (List.mem_of_getElem? hj)));have hjl:=(List.getElem?_eq_some_iff.1 hj).1;obtain⟨w9,ew9⟩:∃ w9,w9=wn.alloc (.cells #[.int .i64 f.qh,.int .i64 f.f_a,.int .i64 f.f_b] 127):=⟨_,rfl⟩
       have z9:w9.heap.size=w8.heap.size+1:=by rw[ew9];simp[hszn]
       have b9:∀ k,k<w8.heap.size→k≠w5.heap.size→w9.heap[k]? = w8.heap[k]?:=fun k hk hne=>by
        rw[ew9,heap_alloc_old _ _ (by omega)];exact hgr.block k hk (fun e=>hne (Option.some.inj e))
       have n9:w9.heap[w8.heap.size]? = some (.cells #[.int .i64 f.qh,.int .i64 f.f_a,.int .i64 f.f_b] 127 (0,0)):=by rw[ew9,← hszn];exact heap_alloc_new _ _
       have k2:w9.cell? ⟨w8.heap.size,0,none⟩=some (.int .i64 f.qh):=by simp[World.cell?,n9]
       have k3:w9.cell? ⟨w8.heap.size,1,none⟩=some (.int .i64 f.f_a):=by simp[World.cell?,n9]
       have k4:w9.cell? ⟨w8.heap.size,2,none⟩=some (.int .i64 f.f_b):=by simp[World.cell?,n9]
       have S9:SetAt w9 w7.heap.size outx:=hS.of (b9 _ hS.lt (by omega));obtain⟨o',outy,hup,S10,N10,m10⟩:=S9.del hN hwf1 0
       have g0:w9.os=w.os∧w9.tape=w.tape∧w9.output=w.output:=by rw[ew9];exact⟨hgr.os.trans hBr.os,hgr.tape.trans hBr.tape,hgr.output.trans hBr.output⟩
       have hi9:w9.heap[w5.heap.size]? = wn.heap[w5.heap.size]?:=by rw[ew9,heap_alloc_old _ _ (by omega)]
       have HS:=(show Hid _ from S10);have HG:=(show Hid _ from g0);have HM:=(show Hid _ from m10);have HW:=(show Hid (w9=_) from ew9);rw[ew9]at k2 k3 k4 hup;have Hm:=(show Hid _ from hm);clear ew9 S9 S10 n9 g0 hS m10 hm
       go_wp2
       rw[← HW.out]
       go_roundw
       case rel =>
        have g10:=hB.size
        have hall:∀ k,k<w8.heap.size→k≠w7.heap.size→k≠w5.heap.size→(setBlock w9 w7.heap.size o').heap[k]? = w8.heap[k]?:=fun k hk h1 h2=>by rw[Go.Proofs.setBlock_other h1,b9 k hk h2]
        refine⟨⟨HG.out.1,HG.out.2.1,HG.out.2.2,by rw[Go.Proofs.setBlock_size];have:=hBr.size;omega,fun k hk=>?_⟩,by rw[Go.Proofs.setBlock_size];omega,fun k hk h1 h2=>?_,done++[f],rem.eraseIdx j,outy,?_,hIn.of ?_,HS.out,N10,fun x=>?_⟩
        ·rw[hall k (by have:=hBr.size;omega) (by omega) (by omega)];exact hBr.block k hk
        ·rw[hall k (by omega) h1 h2];exact hold k hk h1 h2
        ·refine List.Perm.trans ?_ hp;rw[List.append_assoc];refine List.Perm.append_left _ ?_;have h1:=Nj rem j hjl;rw[(List.getElem?_eq_some_iff.1 hj).2]at h1;exact h1.symm
        ·rw[Go.Proofs.setBlock_other (by omega)];exact hi9
        ·rw[HM.out x,Hm.out x,List.mem_append,List.mem_singleton]
         constructor
         ·rintro⟨h1,h2,h3⟩
          exact⟨fun h=>h.elim h2 h1,h3⟩
         ·rintro⟨h1,h2⟩
          exact⟨fun h=>h1 (.inr h),fun h=>h1 (.inl h),h2⟩
       case measure =>
        have h1:=(hIn.of (w':=setBlock w9 w7.heap.size o') (by rw[Go.Proofs.setBlock_other (by omega)];exact hi9)).left;rw[h1,hI.left,List.length_eraseIdx,if_pos hjl];omega
    ·have hf2:chk (decide (sure.length<next.length∧next.length≤100000)) (foundR fuel l g n next)=some ab:=by
      rw[show (next.length == sure.length)=false by simpa using heq]at hf;exact hf
     obtain⟨hck,hf2⟩:=qi hf2;obtain⟨hk1,hk2⟩:=of_decide_eq_true hck
     have hei:¬ (next.length:Int)=(sure.length:Int):=by omega
     have hl5:=qaz r5 C5;have Hf:=(show Hid _ from hf2);have Hl5:=(show Hid _ from hl5);have Hl0:=(show Hid _ from hlen0);clear hf hf2 hl5 hlen0 eM4 eM5 hcould hnext hck
     go_wp2
     go_roundw
     case rel=>exact⟨M5,next,n,B05,Sub.trans sM s5,C5,o5,r5,Hf.out,hk2⟩
     case measure =>
      rw[Hl5.out,Hl0.out];omega
end Go.Proofs
