import Derived.Test.YtoiejpkfpjingaaASimM
import Derived.Test.YtoiejpkfpjingaaChecked
import Derived.Test.YtoiejpkfpjingaaSBT
import Derived.Test.YtoiejpkfpjingaaKAT
import Derived.Test.YtoiejpkfpjingaaSE1
import Derived.Test.YtoiejpkfpjingaaEView
set_option linter.all false
set_option maxRecDepth 100000
set_option maxRecDepth 1000000
open Bool renaming noConfusion→A0, and_eq_true→A3, not_eq_true'→B3, beq_comm→B8
open Option renaming bind_some→A1
open Nat renaming le_refl→A2, blt→A5, le_trans→A9
open List renaming map_cons→A4, length_map→A6, range→A7, mem_cons→B4, mergeSort_perm→B5, all_eq_true→B6, map_nil→B7, getD_eq_getElem?_getD→C7, getElem?_eq_getElem→D0, take_of_length_le→D1, pairwise_mergeSort→D2, length_eraseIdx→D3, mem_of_mem_eraseIdx→D4
open Int renaming toNat→A8
namespace Go.AM
open Go.Proofs
def Xa (fuel:Nat) (a1:(List hsOp)):Option qK:=snapP fuel a1
theorem Zb (fuel:Nat) (a1:(List hsOp)) (r:qK) (h:Xa fuel a1=some r):Run Try.prog (.call 77 [l44 none a1] (.agg [l44 none r.f_h,l3 none r.qm,mpE (AV.int .i64) (AV.int .i64) r.qt,mpE (AV.int .i64) (AV.int .i64) r.qA])):=.ext0 (VO h)
def Qb (fuel:Nat) (a1:(List hsOp)):Option ((List Int)×Int) :=
 ((QT a1).bind fun w5=>(bif (!w5) then (some (([]:(List Int)),2)) else ((Xa fuel a1).bind fun w8=>((ju w8).bind fun w11=>(bif (!w11) then (some (([]:(List Int)),7)) else ((jX w8).bind fun w14=>((Ql fuel w14.2 w8.qm).bind fun w16=>(bif (!w16.2) then (some (([]:(List Int)),5)) else (some (w16.1,0))))))))))
theorem XX (fuel:Nat) (a1:(List hsOp)) (r:((List Int)×Int)) (h:Qb fuel a1=some r):Run Try.prog (.call 42 [l44 none a1] (.tup [l3 none r.1,I6 r.2])):=by
 refine cW Try.func42 rfl (env0:=[(0,l44 none a1)]) ?_;unfold Qb at h;refine W.seq ?_;let z0:=fun t=>EN ((0,l44 none a1)::t);refine W.rt (e2:=z0 []) ?_;refine W.seq<|W.sr ?_;obtain⟨w5,hw5,h⟩:=qh h;refine WO.ck 1 (F:=26) (l:=[l44 none a1]) (C:=[]) (r:=.bool w5) (QC a1 w5 hw5) (e1:=z0 [(9,l44 none a1),(10,.bool w5)])<|WO.fn (e2:=z0 [(11,.bool (!w5))]) ?_;refine W.ch (!w5) h (fun h=>?_) (fun h=>?_)
 ·refine W.seq<|W.rt (e2:=[(2,.nils),(3,.int .i64 2)]) ?_;refine W.weak [2,3] [] [(2,0,3,1,70002)] [] (env':=[(2,l3 (some 70002) ([]:(List Int))),(3,.int .i64 2)]) (by kernel_rfl) ?_;cases h;exact W.rr
 refine W.sw (e:=z0 []) ?_;refine W.sr ?_;obtain⟨w8,hw8,h⟩:=qh h;refine WO.ck 1 (F:=77) (l:=[l44 none a1]) (C:=[]) (r:=.agg [l44 none w8.f_h,l3 none w8.qm,mpE (AV.int .i64) (AV.int .i64) w8.qt,mpE (AV.int .i64) (AV.int .i64) w8.qA]) (Zb fuel a1 w8 hw8) (e1:=z0 [(12,l44 none a1),(13,.agg [l44 none w8.f_h,l3 none w8.qm,mpE (AV.int .i64) (AV.int .i64) w8.qt,mpE (AV.int .i64) (AV.int .i64) w8.qA])]) ?_;let z1:=fun t=>EN ((4,.ptr (.agg [l44 none w8.f_h,l3 none w8.qm,mpE (AV.int .i64) (AV.int .i64) w8.qt,mpE (AV.int .i64) (AV.int .i64) w8.qA]))::t);refine WO.fi [4] [4] (e2:=z1 []) ?_;refine W.seq<|W.sr ?_;obtain⟨w11,hw11,h⟩:=qh h;refine WO.ck 1 (F:=78) (l:=[.agg [l44 none w8.f_h,l3 none w8.qm,mpE (AV.int .i64) (AV.int .i64) w8.qt,mpE (AV.int .i64) (AV.int .i64) w8.qA]]) (C:=[]) (r:=.bool w11) (Qv w8 w11 hw11) (e1:=z1 [(14,.agg [l44 none w8.f_h,l3 none w8.qm,mpE (AV.int .i64) (AV.int .i64) w8.qt,mpE (AV.int .i64) (AV.int .i64) w8.qA]),(15,.bool w11)])<|WO.fn (e2:=z1 [(16,.bool (!w11))]) ?_;refine W.ch (!w11) h (fun h=>?_) (fun h=>?_)
 ·refine W.seq<|W.rt (e2:=[(2,.nils),(3,.int .i64 7)]) ?_;refine W.weak [2,3] [] [(2,0,3,1,70002)] [] (env':=[(2,l3 (some 70002) ([]:(List Int))),(3,.int .i64 7)]) (by kernel_rfl) ?_;cases h;exact W.rr
 refine W.sw (e:=z1 []) ?_;refine W.sr ?_;obtain⟨w14,hw14,h⟩:=qh h;refine WO.ck 1 (F:=79) (l:=[.agg [l44 none w8.f_h,l3 none w8.qm,mpE (AV.int .i64) (AV.int .i64) w8.qt,mpE (AV.int .i64) (AV.int .i64) w8.qA]]) (C:=[]) (r:=.tup [mpE qc AV.bool w14.1,mpE qc AV.bool w14.2]) (XB w8 w14 hw14) (e1:=z1 [(18,.agg [l44 none w8.f_h,l3 none w8.qm,mpE (AV.int .i64) (AV.int .i64) w8.qt,mpE (AV.int .i64) (AV.int .i64) w8.qA]),(19,.tup [mpE qc AV.bool w14.1,mpE qc AV.bool w14.2])]) ?_;let z2:=fun t=>z1 ((6,mpE qc AV.bool w14.2)::t);refine WO.fn (e2:=z2 []) ?_;refine W.sr ?_;obtain⟨w16,hw16,h⟩:=qh h;refine WO.ck 3 (F:=50) (l:=[mpE qc AV.bool w14.2,l3 none w8.qm]) (C:=[]) (r:=.tup [l3 none w16.1,.bool w16.2]) (Yh fuel w14.2 w8.qm w16 hw16) (e1:=z2 [(23,mpE qc AV.bool w14.2),(24,.ptr (l3 none w8.qm)),(25,l3 none w8.qm),(26,.tup [l3 none w16.1,.bool w16.2])])<|WO.fn (e2:=[(7,l3 none w16.1),(8,.bool w16.2)]) ?_;refine W.seq<|W.seq<|W.rt (e2:=[(7,l3 none w16.1),(30,.bool (!w16.2))]) ?_;refine W.ch (!w16.2) h (fun h=>?_) (fun h=>?_)
 ·refine W.seq<|W.rt (e2:=[(2,.nils),(3,.int .i64 5)]) ?_;refine W.weak [2,3] [] [(2,0,3,1,70002)] [] (env':=[(2,l3 (some 70002) ([]:(List Int))),(3,.int .i64 5)]) (by kernel_rfl) ?_;cases h;exact W.rr
 refine W.sw (e:=[(7,l3 none w16.1)]) ?_;refine W.seq<|W.rt (e2:=[(2,l3 none w16.1),(3,.int .i64 0)]) ?_;refine W.wk (e:=[(2,l3 none w16.1),(3,.int .i64 0)]) ?_;cases h;exact W.rr
end Go.AM
namespace Go.AM
open Go.RowKit Go.Sort Go.Proofs Go.Lib
theorem Goes.wkF {n:Nat} {e e1:Env} (keep frz:List Nat) (he:weakE keep frz [] [] e=e1):Goes n e e1:=by
 intro bs M O a w hi;obtain⟨M',O',h'⟩:=hi.freezeAll frz;obtain⟨O2,h2⟩:=Inv.relabAll [] ((Inv.nilAll [] h').drop keep)
 have h3:Inv bs n M' O2 e1 a w:=by
  rw[← he];exact h2
 exact⟨M',O2,h3⟩
theorem WO.finP {P:Program} {n:Nat} {draw:Bool} {all ops:List Oper} {Q:Env→Prop} {env e2:Env} {c:Code} {S:Ex→Env→Prop} (keep frz:List Nat) (he:finE P n draw all ops keep frz [] [] env=some e2) (hQ:∀ e,CodeP P n c S e→Q e) (h:CodeP P n c S e2):WO P n draw all ops Q env:=by
 unfold finE at he;rw[Option.map_eq_some_iff]at he;obtain⟨e1,h1,h2⟩:=he;refine WO.steps ops.length h1 ?_;rw[List.drop_length];exact .nil (hQ _ (CodeP.goes (Goes.wkF keep frz h2) h))
abbrev sA (s:qK):AV:=.agg [l44 none s.f_h,l3 none s.qm,mpE (AV.int .i64) (AV.int .i64) s.qt,mpE (AV.int .i64) (AV.int .i64) s.qA]
abbrev kK (l:List (qd×Bool)):List AV:=l.map fun p=>qc p.1
abbrev kV (l:List (qd×Bool)):List AV:=l.map fun p=>AV.bool p.2
abbrev tL (l:List qn):List AV:=l.map jC
abbrev keys2 (l:List (qd×Bool)):List qd:=l.map Prod.fst
def tri2 (ov:Int→Int→Bool) (a b:qd):Bool:=(a.f_1 == b.f_0) && (ov a.f_0 a.f_1 && ov b.f_0 b.f_1)
def triIn (ov:Int→Int→Bool) (a:qd) (l:List qd):List qn:=(l.filter (tri2 ov a)).map fun b=>qn.mk a.f_0 a.f_1 b.f_1
def triAll (ov:Int→Int→Bool) (all l:List qd):List qn:=l.flatMap fun a=>triIn ov a all
def ovB (s:qK) (a b:Int):Bool:=(jt s a b).getD false
theorem Nn (rem:List (qd×Bool)) {j:Nat} (h:j<rem.length):nextEnt (kK rem) (kV rem) j=.hob 2 (qc rem[j].1::kK (rem.eraseIdx j)) (AV.bool rem[j].2::kV (rem.eraseIdx j)):=by
 unfold nextEnt kK kV;rw[Zj,Zj]
 have e1:(rem.map fun p=>qc p.1).getD j .und=qc rem[j].1:=by
  rw[C7,List.getElem?_map,D0 h];rfl
 have e2:(rem.map fun p=>AV.bool p.2).getD j .und=AV.bool rem[j].2:=by
  rw[C7,List.getElem?_map,D0 h];rfl
 rw[e1,e2]
theorem qdJ {ov:Int→Int→Bool} {all:List qd} {rem:List (qd×Bool)} {j:Nat} (h:j<rem.length) {acc T:List qn} (hp:(acc++triAll ov all (keys2 rem)).Perm T) :
  (acc++triIn ov rem[j].1 all++triAll ov all (keys2 (rem.eraseIdx j))).Perm T:=by
 refine List.Perm.trans ?_ hp;rw[List.append_assoc];refine List.Perm.append_left acc ?_;have h1:(keys2 rem).Perm (rem[j].1::keys2 (rem.eraseIdx j)):=(ZJ rem j h).map Prod.fst;have h2:=h1.flatMap_right (fun a=>triIn ov a all)
 simpa[triAll] using h2.symm
theorem qdI {ov:Int→Int→Bool} {a:qd} {rem:List (qd×Bool)} {j:Nat} (h:j<rem.length) {acc X T:List qn} (hp:(acc++triIn ov a (keys2 rem)++X).Perm T) :
  ((if tri2 ov a rem[j].1 then acc++[qn.mk a.f_0 a.f_1 rem[j].1.f_1] else acc)++triIn ov a (keys2 (rem.eraseIdx j))++X).Perm T:=by
 refine List.Perm.trans ?_ hp;refine List.Perm.append_right X ?_;have h1:(keys2 rem).Perm (rem[j].1::keys2 (rem.eraseIdx j)):=(ZJ rem j h).map Prod.fst;have h2:(triIn ov a (keys2 rem)).Perm (triIn ov a (rem[j].1::keys2 (rem.eraseIdx j))):=(h1.filter _).map _;refine List.Perm.trans ?_ (h2.append_left acc).symm;unfold triIn;rw[List.filter_cons];by_cases hc:tri2 ov a rem[j].1=true
 ·rw[if_pos hc,if_pos hc];simp
 ·rw[if_neg hc,if_neg hc]
theorem cap3 {n:Nat} (h:n+1≤1000000) {x:qn}:capOk 24 (n+(tL [x]).length)=true:=by
 have:(tL [x]).length=1:=rfl;rw[this];simp only[capOk,A3,Nat.ble_eq];omega
theorem snap3 (acc:List qn) (x:qn):snapA 0 acc.length (tL acc)++tL [x]=tL (acc++[x]):=by
 unfold snapA tL;rw[List.drop_zero,List.map_append,D1 (by rw[A6];exact A2 _)]
def DanO (s:qK) (anti:List (qd×Bool)) (T:List qn) (k:Nat) (e:Env):Prop:=∃ (acc:List qn) (rem:List (qd×Bool)) (y:AV),rem.length=k∧(∀ p,p∈rem→p∈anti)∧leftE y=some (kK rem,kV rem)∧(acc++triAll (ovB s) (keys2 anti) (keys2 rem)).Perm T ∧
 Goes 69 e [(4,.ptr (sA s)),(5,mpE qc AV.bool anti),(7,.sb 1500007 64 3 0 acc.length),(24,.mb 1 1000024),(1000024,y),(1500007,.obj 64 3 (tL acc))]
def DanI (s:qK) (anti:List (qd×Bool)) (T:List qn) (pa:qd) (pv:Bool) (rem2:List (qd×Bool)) (k:Nat) (e:Env):Prop:=∃ (acc:List qn) (rem:List (qd×Bool)) (y:AV),rem.length=k∧(∀ p,p∈rem→p∈anti)∧leftE y=some (kK rem,kV rem)∧(acc++triIn (ovB s) pa (keys2 rem)++triAll (ovB s) (keys2 anti) (keys2 rem2)).Perm T ∧
 Goes 69 e [(4,.ptr (sA s)),(5,mpE qc AV.bool anti),(7,.sb 1500007 64 3 0 acc.length),(8,.box [.int .i64 pa.f_0,.int .i64 pa.f_1]),(24,.mb 1 1000024),(30,.mb 1 1000030),(1000024,.hob 2 (qc pa::kK rem2) (AV.bool pv::kV rem2)),(1000030,y),(1500007,.obj 64 3 (tL acc))]
theorem NX {l m:List qn} (h:l.Perm m):sort3 l=sort3 m:=by
 have tr:∀ a b c:qn,(!ltOf cf3 b a)=true→(!ltOf cf3 c b)=true→(!ltOf cf3 c a)=true:=fun a b c h1 h2=>by
  rw[B3]at *;exact swo3.ntrans _ _ _ h2 h1
 have to:∀ a b:qn,((!ltOf cf3 b a) || !ltOf cf3 a b)=true:=fun a b=>by
  cases h1:ltOf cf3 b a
  ·rfl
  ·cases h2:ltOf cf3 a b
   ·rfl
   ·have:=swo3.trans _ _ _ h1 h2;rw[swo3.irrefl]at this;cases this
 have h1:∀ l:List qn,(sort3 l).Pairwise fun a b=>(!ltOf cf3 b a)=true:=fun l=>D2 tr to l
 refine List.Perm.eq_of_pairwise (le:=fun a b=>(!ltOf cf3 b a)=true) (fun a b _ _ x y=>?_) (h1 l) (h1 m) ?_
 ·rw[B3]at x y;exact tot3 a b y x
 ·exact ((B5 l _).trans h).trans (B5 m _).symm
theorem qdT {acc:List qn} (h:acc.length≤1000000):Run Try.prog (.callM 81 [.sb 2000000 64 3 0 acc.length,.clo 82 []] [(2000000,.obj 64 3 (tL acc))] (.tup []) [(2000000,.obj 64 3 (tL (sort3 acc)))]) :=
 .extM (sort81 (by omega)) (fun id x hx=>by simp only[look]at hx;split at hx <;> cases hx;rfl)
theorem qev {fuel:Nat} {h:List hsOp} {s:qK} {anti al:List (qd×Bool)} (hv:QT h=some true) (hs:snapP fuel h=some s) (ha:ju s=some true) (he:jX s=some (anti,al)) (hov:∀ p,p∈keys2 anti→jt s p.f_0 p.f_1=some (ovB s p.f_0 p.f_1)) (hT:(triAll (ovB s) (keys2 anti) (keys2 anti)).length≤1000000) :
  CallOk Try.prog 43 [l44 none h] (.tup [.lst 64 3 none (tL (sort3 (triAll (ovB s) (keys2 anti) (keys2 anti)))),.int .i64 0]):=by
 generalize hTT:triAll (ovB s) (keys2 anti) (keys2 anti)=T at hT ⊢;refine NB Try.func43 rfl (by kernel_rfl) (fun e k q xs hh=>by cases hh) ?_;refine CodeP.seq (CodeP.of mixedP (W.region (by kernel_rfl) (WO.finP [0] [] (e2:=[(0,l44 none h)]) (by kernel_rfl) (fun _ h=>h) ?_)));refine CodeP.seq (CodeP.seq (CodeP.of mixedP (W.region (by kernel_rfl) ?_)));refine WO.callK 1 (F:=26) (l:=[l44 none h]) (C:=[]) (r:=.bool true) (by kernel_rfl) (by kernel_rfl) (QC h true hv) (e1:=[(0,l44 none h),(10,l44 none h),(11,.bool true)]) (by kernel_rfl)<|WO.finP [0,12] [] (e2:=[(0,l44 none h),(12,.bool false)]) (by kernel_rfl) (fun _ h=>h) ?_;refine CodeP.cond false (by kernel_rfl) (fun h=>A0 h) (fun _=>CodeP.of mixedP (W.skip ?_));refine CodeP.wk (env':=[(0,l44 none h)])<|CodeP.seq (CodeP.of mixedP (W.region (by kernel_rfl) ?_));refine WO.callK 1 (F:=77) (l:=[l44 none h]) (C:=[]) (r:=(sA s)) (by kernel_rfl) (by kernel_rfl) (.ext0 (VO hs)) (e1:=[(0,l44 none h),(13,l44 none h),(14,(sA s))]) (by kernel_rfl)<|WO.finP [4] [4] (e2:=[(4,.ptr (sA s))]) (by kernel_rfl) (fun _ h=>h) ?_;refine CodeP.seq (CodeP.seq (CodeP.of mixedP (W.region (by kernel_rfl) ?_)));refine WO.callK 1 (F:=78) (l:=[(sA s)]) (C:=[]) (r:=.bool true) (by kernel_rfl) (by kernel_rfl) (Qv s true ha) (e1:=[(4,.ptr (sA s)),(15,(sA s)),(16,.bool true)]) (by kernel_rfl)<|WO.finP [4,17] [] (e2:=[(4,.ptr (sA s)),(17,.bool false)]) (by kernel_rfl) (fun _ h=>h) ?_;refine CodeP.cond false (by kernel_rfl) (fun h=>A0 h) (fun _=>CodeP.of mixedP (W.skip ?_));refine CodeP.wk (env':=[(4,.ptr (sA s))])<|CodeP.seq (CodeP.of mixedP (W.region (by kernel_rfl) ?_));refine WO.callK 1 (F:=79) (l:=[(sA s)]) (C:=[]) (r:=.tup [mpE qc AV.bool anti,mpE qc AV.bool al]) (by kernel_rfl) (by kernel_rfl) (XB s (anti,al) he) (e1:=[(4,.ptr (sA s)),(19,(sA s)),(20,.tup [mpE qc AV.bool anti,mpE qc AV.bool al])]) (by kernel_rfl)<|WO.finP [4,5] [] (e2:=[(4,.ptr (sA s)),(5,mpE qc AV.bool anti)]) (by kernel_rfl) (fun _ h=>h) ?_;refine CodeP.seq (CodeP.reg mixedP (e2:=[(4,.ptr (sA s)),(5,mpE qc AV.bool anti),(7,.nils)]) ?_);refine CodeP.mv [.nil 7 64 3 1500007] (env':=[(4,.ptr (sA s)),(5,mpE qc AV.bool anti),(7,.sb 1500007 64 3 0 0),(1500007,.obj 64 3 [])])<|CodeP.seq (CodeP.seq (CodeP.reg mixedP (e2:=[(4,.ptr (sA s)),(5,mpE qc AV.bool anti),(7,.sb 1500007 64 3 0 0),(23,mpE qc AV.bool anti),(24,.mb 1 1000024),(1000024,.hob 1 (kK anti) (kV anti)),(1500007,.obj 64 3 [])]) ?_));refine CodeP.wk (env':=[(4,.ptr (sA s)),(5,mpE qc AV.bool anti),(7,.sb 1500007 64 3 0 ([]:List qn).length),(24,.mb 1 1000024),(1000024,.hob 1 (kK anti) (kV anti)),(1500007,.obj 64 3 (tL ([]:List qn)))])<|CodeP.block (CodeP.loop (I:=DanO s anti T) ?_ anti.length ⟨[],anti,.hob 1 (kK anti) (kV anti),rfl,fun _ h=>h,rfl,by rw[hTT];exact List.Perm.refl _,Goes.refl _⟩)
 rintro k e ⟨acc,rem,y,hk,hm1,hy,hp,hg⟩
 refine CodeP.goes hg<|CodeP.seq<|CodeP.next mixedP rfl rfl (by kernel_rfl) (it:=1000024) (y:=y) (ks:=kK rem) (vs:=kV rem) rfl rfl hy (envF:=[(4,.ptr (sA s)),(5,mpE qc AV.bool anti),(7,.sb 1500007 64 3 0 acc.length),(24,.mb 1 1000024),(25,.tup [.bool false]),(1000024,y),(1500007,.obj 64 3 (tL acc))]) (by kernel_rfl)
  (envT:=fun j=>[(4,.ptr (sA s)),(5,mpE qc AV.bool anti),(7,.sb 1500007 64 3 0 acc.length),(24,.mb 1 1000024),(25,.tup [.bool true,.top,.top]),(1000024,nextEnt (kK rem) (kV rem) j),(1500007,.obj 64 3 (tL acc))]) (fun j _=>by kernel_rfl) (fun h0 _=>?_) (fun j hj _=>?_)
 ·
  refine WO.end0 (e2:=[(4,.ptr (sA s)),(5,mpE qc AV.bool anti),(7,.sb 1500007 64 3 0 acc.length),(24,.mb 1 1000024),(25,.tup [.bool false]),(26,.bool false),(1000024,y),(1500007,.obj 64 3 (tL acc))]) (by kernel_rfl) ?_
  have hr0:rem=[]:=by simpa[kK] using h0
  subst hr0
  have hpa:acc.Perm T:=by simpa[triAll] using hp
  refine CodeP.seq (CodeP.cond false (by kernel_rfl) (fun h=>A0 h) (fun _=>CodeP.of mixedP (W.exit ?_)))
  have hla:acc.length≤1000000:=by rw[hpa.length_eq];exact hT
  refine CodeP.wk (env':=[(7,.sb 1500007 64 3 0 acc.length),(1500007,.obj 64 3 (tL acc))])<|CodeP.of mixedP<|W.seq<|W.region (by kernel_rfl)<|WO.callMK 1 [(1500007,2000000)] [] (F:=81) (args:=[.sb 2000000 64 3 0 acc.length,.clo 82 []]) (hp:=[(2000000,.obj 64 3 (tL acc))]) (hp2:=[(2000000,.obj 64 3 (tL (sort3 acc)))]) (r:=.tup []) (by kernel_rfl) (qdT hla) (e1:=[(7,.sb 1500007 64 3 0 acc.length),(66,.sb 1500007 64 3 0 acc.length),(67,.tup []),(1500007,.obj 64 3 (tL (sort3 acc)))]) (by kernel_rfl)<|WO.fin [7,1500007] [] [] [] (e2:=[(7,.sb 1500007 64 3 0 acc.length),(1500007,.obj 64 3 (tL (sort3 acc)))]) (by kernel_rfl) (fun _ h=>h) ?_;refine W.seq<|W.regT [2,3,1500007] [] [] [] (e2:=[(2,.sb 1500007 64 3 0 acc.length),(3,.int .i64 0),(1500007,.obj 64 3 (tL (sort3 acc)))]) (by kernel_rfl) (by kernel_rfl) (fun _ h=>h) ?_;have hsl:(sort3 acc).length=acc.length:=YX acc
  have hsn:snapA 0 acc.length (tL (sort3 acc))=tL (sort3 T):=by
   rw[NX hpa]at hsl ⊢;unfold snapA tL;rw[List.drop_zero,D1 (by rw[A6,hsl];exact A2 _)]
  refine W.mv [.frz 1500007] (env':=[(2,.lst 64 3 none (tL (sort3 T))),(3,.int .i64 0)]) ((by kernel_rfl:mvAll [(2,.sb 1500007 64 3 0 acc.length),(3,.int .i64 0),(1500007,.obj 64 3 (tL (sort3 acc)))] [.frz 1500007]=[(2,.lst 64 3 none (snapA 0 acc.length (tL (sort3 acc)))),(3,.int .i64 0)]).trans (by rw[hsn])) ?_
  have hr:Qh Try.prog Try.f43 [(2,.lst 64 3 none (tL (sort3 T))),(3,.int .i64 0)]=some (.tup [.lst 64 3 none (tL (sort3 T)),.int .i64 0]):=by kernel_rfl
  exact W.ret hr
 ·
  have hj:j<rem.length:=by simpa[kK] using hj
  show WO Try.prog _ false _ _ _ [(4,.ptr (sA s)),(5,mpE qc AV.bool anti),(7,.sb 1500007 64 3 0 acc.length),(24,.mb 1 1000024),(25,.tup [.bool true,.top,.top]),(1000024,nextEnt (kK rem) (kV rem) j),(1500007,.obj 64 3 (tL acc))];rw[Nn rem hj];have hpt:=qdJ (ov:=ovB s) (all:=keys2 anti) hj hp
  have hel:(rem.eraseIdx j).length=rem.length - 1:=by rw[D3,if_pos hj]
  have hpm:rem[j].1∈keys2 anti:=List.mem_map.2 ⟨_,hm1 _ (List.getElem_mem hj),rfl⟩
  have hmr:∀ p,p∈rem.eraseIdx j→p∈anti:=fun p hp=>hm1 p (D4 hp)
  generalize hp1:rem[j].1=pa at hpt hpm ⊢;generalize hp2:rem[j].2=pv at hpt ⊢;generalize rem.eraseIdx j=rem2 at hpt hel hmr ⊢;refine WO.end0 (e2:=[(4,.ptr (sA s)),(5,mpE qc AV.bool anti),(7,.sb 1500007 64 3 0 acc.length),(24,.mb 1 1000024),(25,.tup [.bool true,.top,.top]),(26,.bool true),(1000024,.hob 2 (qc pa::kK rem2) (AV.bool pv::kV rem2)),(1500007,.obj 64 3 (tL acc))]) (by kernel_rfl)<|CodeP.seq (CodeP.cond true (by kernel_rfl) (fun _=>CodeP.of mixedP (W.skip ?_)) (fun h=>A0 h));refine CodeP.wk (env':=[(4,.ptr (sA s)),(5,mpE qc AV.bool anti),(7,.sb 1500007 64 3 0 acc.length),(24,.mb 1 1000024),(1000024,.hob 2 (qc pa::kK rem2) (AV.bool pv::kV rem2)),(1500007,.obj 64 3 (tL acc))])<|CodeP.block (CodeP.seq (CodeP.of mixedP (W.region (by kernel_rfl) (WO.finP [4,5,7,8,24,1000024,1500007] [] (e2:=[(4,.ptr (sA s)),(5,mpE qc AV.bool anti),(7,.sb 1500007 64 3 0 acc.length),(8,.box [.int .i64 pa.f_0,.int .i64 pa.f_1]),(24,.mb 1 1000024),(1000024,.hob 2 (qc pa::kK rem2) (AV.bool pv::kV rem2)),(1500007,.obj 64 3 (tL acc))]) (by kernel_rfl) (fun _ h=>h) ?_))));refine CodeP.seq (CodeP.reg mixedP (e2:=[(4,.ptr (sA s)),(5,mpE qc AV.bool anti),(7,.sb 1500007 64 3 0 acc.length),(8,.box [.int .i64 pa.f_0,.int .i64 pa.f_1]),(24,.mb 1 1000024),(29,mpE qc AV.bool anti),(30,.mb 1 1000030),(1000024,.hob 2 (qc pa::kK rem2) (AV.bool pv::kV rem2)),(1000030,.hob 1 (kK anti) (kV anti)),(1500007,.obj 64 3 (tL acc))]) ?_);refine CodeP.wk (env':=[(4,.ptr (sA s)),(5,mpE qc AV.bool anti),(7,.sb 1500007 64 3 0 acc.length),(8,.box [.int .i64 pa.f_0,.int .i64 pa.f_1]),(24,.mb 1 1000024),(30,.mb 1 1000030),(1000024,.hob 2 (qc pa::kK rem2) (AV.bool pv::kV rem2)),(1000030,.hob 1 (kK anti) (kV anti)),(1500007,.obj 64 3 (tL acc))])<|CodeP.block (CodeP.loop (I:=DanI s anti T pa pv rem2) ?_ anti.length ⟨acc,anti,.hob 1 (kK anti) (kV anti),rfl,fun _ h=>h,rfl,hpt,Goes.refl _⟩)
  have hlt2:k=rem2.length+1:=by omega
  clear hy hg hk hp
  rintro k2 e ⟨acc,rem,y,hk2,hm2,hy,hp,hg⟩
  refine CodeP.goes hg<|CodeP.seq<|CodeP.next mixedP rfl rfl (by kernel_rfl) (it:=1000030) (y:=y) (ks:=kK rem) (vs:=kV rem) rfl rfl hy (envF:=[(4,.ptr (sA s)),(5,mpE qc AV.bool anti),(7,.sb 1500007 64 3 0 acc.length),(8,.box [.int .i64 pa.f_0,.int .i64 pa.f_1]),(24,.mb 1 1000024),(30,.mb 1 1000030),(31,.tup [.bool false]),(1000024,.hob 2 (qc pa::kK rem2) (AV.bool pv::kV rem2)),(1000030,y),(1500007,.obj 64 3 (tL acc))]) (by kernel_rfl)
   (envT:=fun j=>[(4,.ptr (sA s)),(5,mpE qc AV.bool anti),(7,.sb 1500007 64 3 0 acc.length),(8,.box [.int .i64 pa.f_0,.int .i64 pa.f_1]),(24,.mb 1 1000024),(30,.mb 1 1000030),(31,.tup [.bool true,.top,.top]),(1000024,.hob 2 (qc pa::kK rem2) (AV.bool pv::kV rem2)),(1000030,nextEnt (kK rem) (kV rem) j),(1500007,.obj 64 3 (tL acc))]) (fun j _=>by kernel_rfl) (fun h0 _=>?_) (fun j hj _=>?_)
  ·
   refine WO.end0 (e2:=[(4,.ptr (sA s)),(5,mpE qc AV.bool anti),(7,.sb 1500007 64 3 0 acc.length),(8,.box [.int .i64 pa.f_0,.int .i64 pa.f_1]),(24,.mb 1 1000024),(30,.mb 1 1000030),(31,.tup [.bool false]),(32,.bool false),(1000024,.hob 2 (qc pa::kK rem2) (AV.bool pv::kV rem2)),(1000030,y),(1500007,.obj 64 3 (tL acc))]) (by kernel_rfl) ?_
   have hr0:rem=[]:=by simpa[kK] using h0
   subst hr0;refine CodeP.seq (CodeP.cond false (by kernel_rfl) (fun h=>A0 h) (fun _=>CodeP.of mixedP (W.exit ?_)));exact⟨rem2.length,hlt2,acc,rem2,.hob 2 (qc pa::kK rem2) (AV.bool pv::kV rem2),rfl,hmr,rfl,by simpa[triIn] using hp,Goes.wk (e1:=[(4,.ptr (sA s)),(5,mpE qc AV.bool anti),(7,.sb 1500007 64 3 0 acc.length),(24,.mb 1 1000024),(1000024,.hob 2 (qc pa::kK rem2) (AV.bool pv::kV rem2)),(1500007,.obj 64 3 (tL acc))]) (Goes.refl _)⟩
  ·
   have hj:j<rem.length:=by simpa[kK] using hj
   show WO Try.prog _ false _ _ _ [(4,.ptr (sA s)),(5,mpE qc AV.bool anti),(7,.sb 1500007 64 3 0 acc.length),(8,.box [.int .i64 pa.f_0,.int .i64 pa.f_1]),(24,.mb 1 1000024),(30,.mb 1 1000030),(31,.tup [.bool true,.top,.top]),(1000024,.hob 2 (qc pa::kK rem2) (AV.bool pv::kV rem2)),(1000030,nextEnt (kK rem) (kV rem) j),(1500007,.obj 64 3 (tL acc))];rw[Nn rem hj];have hpt:=qdI (ov:=ovB s) hj hp
   have hel2:(rem.eraseIdx j).length=rem.length - 1:=by rw[D3,if_pos hj]
   have hqm:rem[j].1∈keys2 anti:=List.mem_map.2 ⟨_,hm2 _ (List.getElem_mem hj),rfl⟩
   have hms:∀ p,p∈rem.eraseIdx j→p∈anti:=fun p hp=>hm2 p (D4 hp)
   generalize hq1:rem[j].1=qa at hpt hqm ⊢;generalize hq2:rem[j].2=qv at hpt ⊢;generalize rem.eraseIdx j=rem3 at hpt hel2 hms ⊢;refine WO.end0 (e2:=[(4,.ptr (sA s)),(5,mpE qc AV.bool anti),(7,.sb 1500007 64 3 0 acc.length),(8,.box [.int .i64 pa.f_0,.int .i64 pa.f_1]),(24,.mb 1 1000024),(30,.mb 1 1000030),(31,.tup [.bool true,.top,.top]),(32,.bool true),(1000024,.hob 2 (qc pa::kK rem2) (AV.bool pv::kV rem2)),(1000030,.hob 2 (qc qa::kK rem3) (AV.bool qv::kV rem3)),(1500007,.obj 64 3 (tL acc))]) (by kernel_rfl)<|CodeP.seq (CodeP.cond true (by kernel_rfl) (fun _=>CodeP.of mixedP (W.skip ?_)) (fun h=>A0 h));refine CodeP.wk (env':=[(4,.ptr (sA s)),(5,mpE qc AV.bool anti),(7,.sb 1500007 64 3 0 acc.length),(8,.box [.int .i64 pa.f_0,.int .i64 pa.f_1]),(24,.mb 1 1000024),(30,.mb 1 1000030),(1000024,.hob 2 (qc pa::kK rem2) (AV.bool pv::kV rem2)),(1000030,.hob 2 (qc qa::kK rem3) (AV.bool qv::kV rem3)),(1500007,.obj 64 3 (tL acc))])<|CodeP.block (CodeP.seq (CodeP.of mixedP (W.region (by kernel_rfl) (WO.finP [4,5,7,8,9,24,30,1000024,1000030,1500007] [] (e2:=[(4,.ptr (sA s)),(5,mpE qc AV.bool anti),(7,.sb 1500007 64 3 0 acc.length),(8,.box [.int .i64 pa.f_0,.int .i64 pa.f_1]),(9,.box [.int .i64 qa.f_0,.int .i64 qa.f_1]),(24,.mb 1 1000024),(30,.mb 1 1000030),(1000024,.hob 2 (qc pa::kK rem2) (AV.bool pv::kV rem2)),(1000030,.hob 2 (qc qa::kK rem3) (AV.bool qv::kV rem3)),(1500007,.obj 64 3 (tL acc))]) (by kernel_rfl) (fun _ h=>h) ?_))))
   have hend:∀ e,Goes 69 e [(4,.ptr (sA s)),(5,mpE qc AV.bool anti),(7,.sb 1500007 64 3 0 acc.length),(8,.box [.int .i64 pa.f_0,.int .i64 pa.f_1]),(24,.mb 1 1000024),(30,.mb 1 1000030),(1000024,.hob 2 (qc pa::kK rem2) (AV.bool pv::kV rem2)),(1000030,.hob 2 (qc qa::kK rem3) (AV.bool qv::kV rem3)),(1500007,.obj 64 3 (tL acc))]→(acc++triIn (ovB s) pa (keys2 rem3)++triAll (ovB s) (keys2 anti) (keys2 rem2)).Perm T→DanI s anti T pa pv rem2 rem3.length e:=fun e hg hp=>⟨acc,rem3,.hob 2 (qc qa::kK rem3) (AV.bool qv::kV rem3),rfl,hms,rfl,hp,hg⟩
   refine CodeP.seq (CodeP.of mixedP (W.region (by kernel_rfl) ?_));refine WO.boolK 6 (fun b=>[(4,.ptr (sA s)),(5,mpE qc AV.bool anti),(7,.sb 1500007 64 3 0 acc.length),(8,.box [.int .i64 pa.f_0,.int .i64 pa.f_1]),(9,.box [.int .i64 qa.f_0,.int .i64 qa.f_1]),(24,.mb 1 1000024),(30,.mb 1 1000030),(35,.pb 8 1),(36,.int .i64 pa.f_1),(37,.pb 9 0),(38,.int .i64 qa.f_0),(39,.bool b),(40,.bool b),(1000024,.hob 2 (qc pa::kK rem2) (AV.bool pv::kV rem2)),(1000030,.hob 2 (qc qa::kK rem3) (AV.bool qv::kV rem3)),(1500007,.obj 64 3 (tL acc))]) (pa.f_1 == qa.f_0) (by kernel_rfl) (fun hb1=>?_) (fun hb1=>?_)
   ·have ho1:=hov pa hpm;refine WO.callK 5 (F:=80) (l:=[(sA s),.int .i64 pa.f_0,.int .i64 pa.f_1]) (C:=[]) (r:=.bool (ovB s pa.f_0 pa.f_1)) (by kernel_rfl) (by kernel_rfl) (Qu s _ _ _ ho1) (e1:=[(4,.ptr (sA s)),(5,mpE qc AV.bool anti),(7,.sb 1500007 64 3 0 acc.length),(8,.box [.int .i64 pa.f_0,.int .i64 pa.f_1]),(9,.box [.int .i64 qa.f_0,.int .i64 qa.f_1]),(24,.mb 1 1000024),(30,.mb 1 1000030),(35,.pb 8 1),(36,.int .i64 pa.f_1),(37,.pb 9 0),(38,.int .i64 qa.f_0),(39,.bool true),(40,.bool true),(41,(sA s)),(42,.pb 8 0),(43,.int .i64 pa.f_0),(44,.pb 8 1),(45,.int .i64 pa.f_1),(46,.bool (ovB s pa.f_0 pa.f_1)),(1000024,.hob 2 (qc pa::kK rem2) (AV.bool pv::kV rem2)),(1000030,.hob 2 (qc qa::kK rem3) (AV.bool qv::kV rem3)),(1500007,.obj 64 3 (tL acc))]) (by kernel_rfl)<|WO.boolK 2 (fun b=>[(4,.ptr (sA s)),(5,mpE qc AV.bool anti),(7,.sb 1500007 64 3 0 acc.length),(8,.box [.int .i64 pa.f_0,.int .i64 pa.f_1]),(9,.box [.int .i64 qa.f_0,.int .i64 qa.f_1]),(24,.mb 1 1000024),(30,.mb 1 1000030),(35,.pb 8 1),(36,.int .i64 pa.f_1),(37,.pb 9 0),(38,.int .i64 qa.f_0),(39,.bool true),(40,.bool true),(41,(sA s)),(42,.pb 8 0),(43,.int .i64 pa.f_0),(44,.pb 8 1),(45,.int .i64 pa.f_1),(46,.bool b),(47,.bool b),(48,.bool b),(1000024,.hob 2 (qc pa::kK rem2) (AV.bool pv::kV rem2)),(1000030,.hob 2 (qc qa::kK rem3) (AV.bool qv::kV rem3)),(1500007,.obj 64 3 (tL acc))]) (ovB s pa.f_0 pa.f_1) (by kernel_rfl) (fun hb2=>?_) (fun hb2=>?_)
    ·have ho2:=hov qa hqm;refine WO.callK 5 (F:=80) (l:=[(sA s),.int .i64 qa.f_0,.int .i64 qa.f_1]) (C:=[]) (r:=.bool (ovB s qa.f_0 qa.f_1)) (by kernel_rfl) (by kernel_rfl) (Qu s _ _ _ ho2) (e1:=[(4,.ptr (sA s)),(5,mpE qc AV.bool anti),(7,.sb 1500007 64 3 0 acc.length),(8,.box [.int .i64 pa.f_0,.int .i64 pa.f_1]),(9,.box [.int .i64 qa.f_0,.int .i64 qa.f_1]),(24,.mb 1 1000024),(30,.mb 1 1000030),(35,.pb 8 1),(36,.int .i64 pa.f_1),(37,.pb 9 0),(38,.int .i64 qa.f_0),(39,.bool true),(40,.bool true),(41,(sA s)),(42,.pb 8 0),(43,.int .i64 pa.f_0),(44,.pb 8 1),(45,.int .i64 pa.f_1),(46,.bool true),(47,.bool true),(48,.bool true),(49,(sA s)),(50,.pb 9 0),(51,.int .i64 qa.f_0),(52,.pb 9 1),(53,.int .i64 qa.f_1),(54,.bool (ovB s qa.f_0 qa.f_1)),(1000024,.hob 2 (qc pa::kK rem2) (AV.bool pv::kV rem2)),(1000030,.hob 2 (qc qa::kK rem3) (AV.bool qv::kV rem3)),(1500007,.obj 64 3 (tL acc))]) (by kernel_rfl)<|WO.boolK 1 (fun b=>[(4,.ptr (sA s)),(5,mpE qc AV.bool anti),(7,.sb 1500007 64 3 0 acc.length),(8,.box [.int .i64 pa.f_0,.int .i64 pa.f_1]),(9,.box [.int .i64 qa.f_0,.int .i64 qa.f_1]),(24,.mb 1 1000024),(30,.mb 1 1000030),(35,.pb 8 1),(36,.int .i64 pa.f_1),(37,.pb 9 0),(38,.int .i64 qa.f_0),(39,.bool true),(40,.bool true),(41,(sA s)),(42,.pb 8 0),(43,.int .i64 pa.f_0),(44,.pb 8 1),(45,.int .i64 pa.f_1),(46,.bool true),(47,.bool true),(48,.bool true),(49,(sA s)),(50,.pb 9 0),(51,.int .i64 qa.f_0),(52,.pb 9 1),(53,.int .i64 qa.f_1),(54,.bool b),(55,.bool b),(1000024,.hob 2 (qc pa::kK rem2) (AV.bool pv::kV rem2)),(1000030,.hob 2 (qc qa::kK rem3) (AV.bool qv::kV rem3)),(1500007,.obj 64 3 (tL acc))]) (ovB s qa.f_0 qa.f_1) (by kernel_rfl) (fun hb3=>?_) (fun hb3=>?_)
     ·
      refine WO.finP [4,5,7,8,9,24,30,55,1000024,1000030,1500007] [] (e2:=[(4,.ptr (sA s)),(5,mpE qc AV.bool anti),(7,.sb 1500007 64 3 0 acc.length),(8,.box [.int .i64 pa.f_0,.int .i64 pa.f_1]),(9,.box [.int .i64 qa.f_0,.int .i64 qa.f_1]),(24,.mb 1 1000024),(30,.mb 1 1000030),(55,.bool true),(1000024,.hob 2 (qc pa::kK rem2) (AV.bool pv::kV rem2)),(1000030,.hob 2 (qc qa::kK rem3) (AV.bool qv::kV rem3)),(1500007,.obj 64 3 (tL acc))]) (by kernel_rfl) (fun _ h=>h) ?_;refine CodeP.cond true (by kernel_rfl) (fun _=>?_) (fun h=>A0 h);refine CodeP.wk (env':=[(4,.ptr (sA s)),(5,mpE qc AV.bool anti),(7,.sb 1500007 64 3 0 acc.length),(8,.box [.int .i64 pa.f_0,.int .i64 pa.f_1]),(9,.box [.int .i64 qa.f_0,.int .i64 qa.f_1]),(24,.mb 1 1000024),(30,.mb 1 1000030),(1000024,.hob 2 (qc pa::kK rem2) (AV.bool pv::kV rem2)),(1000030,.hob 2 (qc qa::kK rem3) (AV.bool qv::kV rem3)),(1500007,.obj 64 3 (tL acc))]) ?_
      have hlen:acc.length+1≤1000000:=by have:=hpt.length_eq;simp[tri2,hb1,hb2,hb3]at this;omega
      refine CodeP.of mixedP (W.region (by kernel_rfl) ?_);refine WO.appendOK 9 (d:=65) (e:=64) (s:=3) (bytes:=24) (m:=acc.length) (n2:=(acc++[(qn.mk pa.f_0 pa.f_1 qa.f_1)]).length) (xs:=tL acc) (ys:=tL [(qn.mk pa.f_0 pa.f_1 qa.f_1)]) (zs:=tL (acc++[(qn.mk pa.f_0 pa.f_1 qa.f_1)])) (env1:=[(4,.ptr (sA s)),(5,mpE qc AV.bool anti),(7,.top),(8,.box [.int .i64 pa.f_0,.int .i64 pa.f_1]),(9,.box [.int .i64 qa.f_0,.int .i64 qa.f_1]),(24,.mb 1 1000024),(30,.mb 1 1000030),(56,.top),(57,.pb 8 0),(58,.int .i64 pa.f_0),(59,.pb 8 1),(60,.int .i64 pa.f_1),(61,.pb 9 1),(62,.int .i64 qa.f_1),(63,jC (qn.mk pa.f_0 pa.f_1 qa.f_1)),(64,.lst 64 3 (some 64) (tL [(qn.mk pa.f_0 pa.f_1 qa.f_1)])),(1000024,.hob 2 (qc pa::kK rem2) (AV.bool pv::kV rem2)),(1000030,.hob 2 (qc qa::kK rem3) (AV.bool qv::kV rem3))]) (by kernel_rfl) (cap3 hlen) (snap3 acc (qn.mk pa.f_0 pa.f_1 qa.f_1)) (A6 _) (e1:=[(4,.ptr (sA s)),(5,mpE qc AV.bool anti),(7,.top),(8,.box [.int .i64 pa.f_0,.int .i64 pa.f_1]),(9,.box [.int .i64 qa.f_0,.int .i64 qa.f_1]),(24,.mb 1 1000024),(30,.mb 1 1000030),(56,.top),(57,.pb 8 0),(58,.int .i64 pa.f_0),(59,.pb 8 1),(60,.int .i64 pa.f_1),(61,.pb 9 1),(62,.int .i64 qa.f_1),(63,jC (qn.mk pa.f_0 pa.f_1 qa.f_1)),(64,.lst 64 3 (some 64) (tL [(qn.mk pa.f_0 pa.f_1 qa.f_1)])),(65,.sb 1000065 64 3 0 (acc++[(qn.mk pa.f_0 pa.f_1 qa.f_1)]).length),(1000024,.hob 2 (qc pa::kK rem2) (AV.bool pv::kV rem2)),(1000030,.hob 2 (qc qa::kK rem3) (AV.bool qv::kV rem3)),(1000065,.obj 64 3 (tL (acc++[(qn.mk pa.f_0 pa.f_1 qa.f_1)])))]) (by kernel_rfl)<|WO.end0 (e2:=[(4,.ptr (sA s)),(5,mpE qc AV.bool anti),(7,.sb 1000065 64 3 0 (acc++[(qn.mk pa.f_0 pa.f_1 qa.f_1)]).length),(8,.box [.int .i64 pa.f_0,.int .i64 pa.f_1]),(9,.box [.int .i64 qa.f_0,.int .i64 qa.f_1]),(24,.mb 1 1000024),(30,.mb 1 1000030),(56,.top),(57,.pb 8 0),(58,.int .i64 pa.f_0),(59,.pb 8 1),(60,.int .i64 pa.f_1),(61,.pb 9 1),(62,.int .i64 qa.f_1),(63,jC (qn.mk pa.f_0 pa.f_1 qa.f_1)),(64,.lst 64 3 (some 64) (tL [(qn.mk pa.f_0 pa.f_1 qa.f_1)])),(65,.sb 1000065 64 3 0 (acc++[(qn.mk pa.f_0 pa.f_1 qa.f_1)]).length),(1000024,.hob 2 (qc pa::kK rem2) (AV.bool pv::kV rem2)),(1000030,.hob 2 (qc qa::kK rem3) (AV.bool qv::kV rem3)),(1000065,.obj 64 3 (tL (acc++[(qn.mk pa.f_0 pa.f_1 qa.f_1)])))]) (by kernel_rfl) ?_;exact⟨rem3.length,by omega,(acc++[(qn.mk pa.f_0 pa.f_1 qa.f_1)]),rem3,.hob 2 (qc qa::kK rem3) (AV.bool qv::kV rem3),rfl,hms,rfl,by simpa[tri2,hb1,hb2,hb3] using hpt,Goes.wk (e1:=[(4,.ptr (sA s)),(5,mpE qc AV.bool anti),(7,.sb 1000065 64 3 0 (acc++[(qn.mk pa.f_0 pa.f_1 qa.f_1)]).length),(8,.box [.int .i64 pa.f_0,.int .i64 pa.f_1]),(24,.mb 1 1000024),(30,.mb 1 1000030),(1000024,.hob 2 (qc pa::kK rem2) (AV.bool pv::kV rem2)),(1000030,.hob 2 (qc qa::kK rem3) (AV.bool qv::kV rem3)),(1000065,.obj 64 3 (tL (acc++[(qn.mk pa.f_0 pa.f_1 qa.f_1)])))]) (Goes.mv [.ren 1000065 1500007] (Goes.refl _))⟩
     ·skip
      refine WO.finP [4,5,7,8,9,24,30,55,1000024,1000030,1500007] [] (e2:=[(4,.ptr (sA s)),(5,mpE qc AV.bool anti),(7,.sb 1500007 64 3 0 acc.length),(8,.box [.int .i64 pa.f_0,.int .i64 pa.f_1]),(9,.box [.int .i64 qa.f_0,.int .i64 qa.f_1]),(24,.mb 1 1000024),(30,.mb 1 1000030),(55,.bool false),(1000024,.hob 2 (qc pa::kK rem2) (AV.bool pv::kV rem2)),(1000030,.hob 2 (qc qa::kK rem3) (AV.bool qv::kV rem3)),(1500007,.obj 64 3 (tL acc))]) (by kernel_rfl) (fun _ h=>h) ?_;refine CodeP.cond false (by kernel_rfl) (fun h=>A0 h) (fun _=>CodeP.of mixedP (W.skip ?_));exact⟨rem3.length,by omega,hend _ (Goes.wk (e1:=[(4,.ptr (sA s)),(5,mpE qc AV.bool anti),(7,.sb 1500007 64 3 0 acc.length),(8,.box [.int .i64 pa.f_0,.int .i64 pa.f_1]),(24,.mb 1 1000024),(30,.mb 1 1000030),(1000024,.hob 2 (qc pa::kK rem2) (AV.bool pv::kV rem2)),(1000030,.hob 2 (qc qa::kK rem3) (AV.bool qv::kV rem3)),(1500007,.obj 64 3 (tL acc))]) (Goes.refl _)) (by simpa[tri2,hb1,hb2,hb3] using hpt)⟩
    ·skip
     refine WO.finP [4,5,7,8,9,24,30,55,1000024,1000030,1500007] [] (e2:=[(4,.ptr (sA s)),(5,mpE qc AV.bool anti),(7,.sb 1500007 64 3 0 acc.length),(8,.box [.int .i64 pa.f_0,.int .i64 pa.f_1]),(9,.box [.int .i64 qa.f_0,.int .i64 qa.f_1]),(24,.mb 1 1000024),(30,.mb 1 1000030),(55,.bool false),(1000024,.hob 2 (qc pa::kK rem2) (AV.bool pv::kV rem2)),(1000030,.hob 2 (qc qa::kK rem3) (AV.bool qv::kV rem3)),(1500007,.obj 64 3 (tL acc))]) (by kernel_rfl) (fun _ h=>h) ?_;refine CodeP.cond false (by kernel_rfl) (fun h=>A0 h) (fun _=>CodeP.of mixedP (W.skip ?_));exact⟨rem3.length,by omega,hend _ (Goes.wk (e1:=[(4,.ptr (sA s)),(5,mpE qc AV.bool anti),(7,.sb 1500007 64 3 0 acc.length),(8,.box [.int .i64 pa.f_0,.int .i64 pa.f_1]),(24,.mb 1 1000024),(30,.mb 1 1000030),(1000024,.hob 2 (qc pa::kK rem2) (AV.bool pv::kV rem2)),(1000030,.hob 2 (qc qa::kK rem3) (AV.bool qv::kV rem3)),(1500007,.obj 64 3 (tL acc))]) (Goes.refl _)) (by simpa[tri2,hb1,hb2] using hpt)⟩
   ·skip
    refine WO.finP [4,5,7,8,9,24,30,55,1000024,1000030,1500007] [] (e2:=[(4,.ptr (sA s)),(5,mpE qc AV.bool anti),(7,.sb 1500007 64 3 0 acc.length),(8,.box [.int .i64 pa.f_0,.int .i64 pa.f_1]),(9,.box [.int .i64 qa.f_0,.int .i64 qa.f_1]),(24,.mb 1 1000024),(30,.mb 1 1000030),(55,.bool false),(1000024,.hob 2 (qc pa::kK rem2) (AV.bool pv::kV rem2)),(1000030,.hob 2 (qc qa::kK rem3) (AV.bool qv::kV rem3)),(1500007,.obj 64 3 (tL acc))]) (by kernel_rfl) (fun _ h=>h) ?_;refine CodeP.cond false (by kernel_rfl) (fun h=>A0 h) (fun _=>CodeP.of mixedP (W.skip ?_));exact⟨rem3.length,by omega,hend _ (Goes.wk (e1:=[(4,.ptr (sA s)),(5,mpE qc AV.bool anti),(7,.sb 1500007 64 3 0 acc.length),(8,.box [.int .i64 pa.f_0,.int .i64 pa.f_1]),(24,.mb 1 1000024),(30,.mb 1 1000030),(1000024,.hob 2 (qc pa::kK rem2) (AV.bool pv::kV rem2)),(1000030,.hob 2 (qc qa::kK rem3) (AV.bool qv::kV rem3)),(1500007,.obj 64 3 (tL acc))]) (Goes.refl _)) (by simpa[tri2,hb1] using hpt)⟩
def dangerP (fuel:Nat) (a1:List hsOp):Option (List qn×Int) :=
 (QT a1).bind fun v=>bif !v then some ([],2) else (snapP fuel a1).bind fun s=>(ju s).bind fun a=>bif !a then some ([],7) else (jX s).bind fun e =>
  chk ((keys2 e.1).all (fun p=>(jt s p.f_0 p.f_1).isSome) && decide ((triAll (ovB s) (keys2 e.1) (keys2 e.1)).length≤1000000)) (some (sort3 (triAll (ovB s) (keys2 e.1) (keys2 e.1)),0))
theorem qfB {fuel:Nat} {a1:List hsOp} {r:List qn×Int} (h:dangerP fuel a1=some r):Run Try.prog (.call 43 [l44 none a1] (.tup [l64 none r.1,.int .i64 r.2])):=by
 unfold dangerP at h;obtain⟨v,hv,h⟩:=qh h
 cases v with
 | false =>
  cases h;refine Nc Try.func43 rfl (by kernel_rfl) (env0:=[(0,l44 none a1)]) (by kernel_rfl)<|W.seq<|W.regT [0] [] [] [] (e2:=[(0,l44 none a1)]) (by kernel_rfl) (by kernel_rfl) (fun _ h=>h) ?_;refine W.seq<|W.seq<|W.region (by kernel_rfl)<|WO.callK 1 (F:=26) (l:=[l44 none a1]) (C:=[]) (r:=.bool false) (by kernel_rfl) (by kernel_rfl) (QC a1 false hv) (e1:=[(0,l44 none a1),(10,l44 none a1),(11,.bool false)]) (by kernel_rfl)<|WO.fin [0,12] [] [] [] (e2:=[(0,l44 none a1),(12,.bool true)]) (by kernel_rfl) (fun _ h=>h) ?_;refine W.condB true (by kernel_rfl) (fun hb=>?_) (fun hb=>A0 hb);refine W.seq<|W.regT [2,3] [] [] [] (e2:=[(2,.nils),(3,.int .i64 2)]) (by kernel_rfl) (by kernel_rfl) (fun _ h=>h) ?_;refine W.weak [2,3] [] [(2,0,64,3,70002)] [] (env':=[(2,l64 (some 70002) ([]:List qn)),(3,.int .i64 2)]) (by kernel_rfl) ?_
  have hr:Qh Try.prog Try.f43 [(2,l64 (some 70002) ([]:List qn)),(3,.int .i64 2)]=some (.tup [l64 none ([]:List qn),.int .i64 2]):=by kernel_rfl
  exact W.ret hr
 | true =>
  obtain⟨s,hs,h⟩:=qh (show ((snapP fuel a1).bind _)=some r from h);obtain⟨a,ha,h⟩:=qh h
  cases a with
  | false =>
   cases h;refine Nc Try.func43 rfl (by kernel_rfl) (env0:=[(0,l44 none a1)]) (by kernel_rfl)<|W.seq<|W.regT [0] [] [] [] (e2:=[(0,l44 none a1)]) (by kernel_rfl) (by kernel_rfl) (fun _ h=>h) ?_;refine W.seq<|W.seq<|W.region (by kernel_rfl)<|WO.callK 1 (F:=26) (l:=[l44 none a1]) (C:=[]) (r:=.bool true) (by kernel_rfl) (by kernel_rfl) (QC a1 true hv) (e1:=[(0,l44 none a1),(10,l44 none a1),(11,.bool true)]) (by kernel_rfl)<|WO.fin [0,12] [] [] [] (e2:=[(0,l44 none a1),(12,.bool false)]) (by kernel_rfl) (fun _ h=>h) ?_;refine W.condB false (by kernel_rfl) (fun hb=>A0 hb) (fun hb=>?_);refine W.skip<|W.weak [0] [] [] [] (env':=[(0,l44 none a1)]) (by kernel_rfl)<|W.seq<|W.region (by kernel_rfl)<|WO.callK 1 (F:=77) (l:=[l44 none a1]) (C:=[]) (r:=sA s) (by kernel_rfl) (by kernel_rfl) (.ext0 (VO hs)) (e1:=[(0,l44 none a1),(13,l44 none a1),(14,sA s)]) (by kernel_rfl)<|WO.fin [4] [4] [] [] (e2:=[(4,.ptr (sA s))]) (by kernel_rfl) (fun _ h=>h) ?_;refine W.seq<|W.seq<|W.region (by kernel_rfl)<|WO.callK 1 (F:=78) (l:=[sA s]) (C:=[]) (r:=.bool false) (by kernel_rfl) (by kernel_rfl) (Qv s false ha) (e1:=[(4,.ptr (sA s)),(15,sA s),(16,.bool false)]) (by kernel_rfl)<|WO.fin [4,17] [] [] [] (e2:=[(4,.ptr (sA s)),(17,.bool true)]) (by kernel_rfl) (fun _ h=>h) ?_;refine W.condB true (by kernel_rfl) (fun hb=>?_) (fun hb=>A0 hb);refine W.seq<|W.regT [2,3] [] [] [] (e2:=[(2,.nils),(3,.int .i64 7)]) (by kernel_rfl) (by kernel_rfl) (fun _ h=>h) ?_;refine W.weak [2,3] [] [(2,0,64,3,70002)] [] (env':=[(2,l64 (some 70002) ([]:List qn)),(3,.int .i64 7)]) (by kernel_rfl) ?_
   have hr:Qh Try.prog Try.f43 [(2,l64 (some 70002) ([]:List qn)),(3,.int .i64 7)]=some (.tup [l64 none ([]:List qn),.int .i64 7]):=by kernel_rfl
   exact W.ret hr
  | true =>
   obtain⟨⟨anti,al⟩,he,h⟩:=qh (show ((jX s).bind _)=some r from h);obtain⟨hc,h⟩:=qw h;cases h;rw[A3,decide_eq_true_eq,B6]at hc;refine .ext0 (qev hv hs ha he (fun p hp=>?_) hc.2);obtain⟨b,hb⟩:=Option.isSome_iff_exists.1 (hc.1 p hp);unfold ovB;rw[hb];rfl
end Go.AM
namespace Go.AM
open Go.Proofs
def Zg (fuel:Nat) (a1:(List hsOp)):Option ((List qn)×Int):=dangerP fuel a1
theorem VK (fuel:Nat) (a1:(List hsOp)) (r:((List qn)×Int)) (h:Zg fuel a1=some r):Run Try.prog (.call 43 [l44 none a1] (.tup [l64 none r.1,I6 r.2])):=qfB h
def Qn:Option Bool :=
 (some true)
def jV (a2:(List qn)) (K7:(Option Bool)):List qn→Nat→Option Bool
 | [],k1=>K7
 | x1::r1,k1=>((idx a2 (k1:Int)).bind fun e12=>(bif (!((x1.f_0 == e12.f_0) && ((x1.f_1 == e12.f_1) && ((x1.f_2 == e12.f_2) && true)))) then (some false) else (jV a2 K7 r1 (k1+1))))
def QR (a1:(List qn)) (a2:(List qn)):Option Bool :=
 (bif ((a1.length:Int) != (a2.length:Int)) then (some false) else (chk (lenOk a1) (jV a2 (Qn) a1 0)))
theorem VP (a1:(List qn)) (a2:(List qn)) (r:Bool) (h:QR a1 a2=some r):Run Try.prog (.call 47 [l64 none a1,l64 none a2] (.bool r)):=by
 refine cW Try.func47 rfl (env0:=[(0,l64 none a1),(1,l64 none a2)]) ?_;unfold QR at h;refine W.seq ?_;let z0:=fun t=>EN ((0,l64 none a1)::(1,l64 none a2)::t);refine W.rt (e2:=z0 []) ?_;refine W.seq<|W.sr ?_;let z1:=fun t=>z0 ((6,l64 none a1)::(7,I6 (a1.length:Int))::t);refine WO.pq 1 (jM jC a1) (e1:=z1 [])<|WO.pq 1 (jM jC a2) (e1:=z1 [(8,l64 none a2),(9,I6 (a2.length:Int))])<|WO.fn (e2:=z0 [(10,.bool ((a1.length:Int) != (a2.length:Int)))]) ?_;refine W.ch ((a1.length:Int) != (a2.length:Int)) h (fun h=>?_) (fun h=>?_)
 ·refine W.seq<|W.rt (e2:=[(4,.bool false)]) ?_;refine W.wk (e:=[(4,.bool false)]) ?_;cases h;exact W.rr
 refine W.sw (e:=z0 []) ?_;refine W.seq<|W.join (σ:=Unit) (fun s=>[]) (fun s=>(Qn)=some r) (fun s h=>?_) (fun hK7=>?_)
 ·unfold Qn at h;refine W.seq<|W.rt (e2:=[(4,.bool true)]) ?_;refine W.wk (e:=[(4,.bool true)]) ?_;cases h;exact W.rr
 refine W.sr<|WO.pq 1 (jM jC a1) (e1:=z0 [(11,l64 none a1),(12,I6 (a1.length:Int))]) ?_;let z2:=fun t=>z0 ((12,I6 (a1.length:Int))::t);refine WO.fn (e2:=z2 [(13,.int .i64 0)]) ?_;refine W.block ?_;obtain⟨hl1,h⟩:=qw h;refine W.wk (e:=z2 [(13,I6 ((0:Nat):Int))])<|W.range (σ:=Unit) a1 (fun k1 s=>z2 [(13,I6 (k1:Int))]) (fun r0 k0 s=>jV a2 (Qn) r0 k0=some r) (fun s h=>?_) (fun x1 r1 k1 s hx1 hk1 h hN1=>?_) () h
 ·rw[jV.eq_1]at h;refine W.sr ?_;let y0:Env:=[(1,l64 none a2),(12,I6 (a1.length:Int)),(13,I6 ((a1).length:Int)),(14,.bool false)];refine WO.pq 0 (jB (jN (l:=a1))) (e1:=((0,l64 none a1)::y0))<|WO.fn (e2:=((0,l64 none a1)::y0)) ?_;refine W.seq<|W.cF<|W.exit<|W.wk (e:=[]) ?_;exact hK7 () h
 ·rw[jV.eq_2]at h;refine W.sr ?_;let y1:Env:=[(1,l64 none a2),(12,I6 (a1.length:Int)),(13,I6 (k1:Int)),(14,.bool true)];let z3:=fun t=>EN ((0,l64 none a1)::t);refine WO.pq 0 (jB (Jr hk1)) (e1:=z3 y1)<|WO.fn (e2:=z3 y1) ?_;refine W.seq<|W.cT<|W.skip ?_;let y2:Env:=[(12,I6 (a1.length:Int)),(13,I6 (k1:Int))];refine W.wk (e:=z0 y2)<|W.seq<|W.block<|W.seq ?_;let z4:=fun t=>z0 ((5,I6 (k1:Int))::t);refine W.rt (e2:=z4 y2) ?_;refine W.sr ?_;let z5:=fun t=>z4 ((12,I6 (a1.length:Int))::(13,I6 (k1:Int))::(16,l64 none a1)::(17,I6 (k1:Int))::(18,.ptr (.agg [I6 x1.f_0,I6 x1.f_1,I6 x1.f_2]))::t);refine WO.pq 2 (Js (f:=jC) hx1) (e1:=z5 []) ?_;obtain⟨e12,he12,h⟩:=qh h;refine WO.pq 3 (qaI (f:=jC) he12) (e1:=z5 [(19,.agg [I6 x1.f_0,I6 x1.f_1,I6 x1.f_2]),(20,l64 none a2),(21,I6 (k1:Int)),(22,.ptr (.agg [I6 e12.f_0,I6 e12.f_1,I6 e12.f_2]))])<|WO.fn (e2:=z2 [(13,I6 (k1:Int)),(24,.bool (!((x1.f_0 == e12.f_0) && ((x1.f_1 == e12.f_1) && ((x1.f_2 == e12.f_2) && true)))))]) ?_;refine W.ch (!((x1.f_0 == e12.f_0) && ((x1.f_1 == e12.f_1) && ((x1.f_2 == e12.f_2) && true)))) h (fun h=>?_) (fun h=>?_)
  ·refine W.seq<|W.rt (e2:=[(4,.bool false)]) ?_;refine W.wk (e:=[(4,.bool false)]) ?_;cases h;exact W.rr
  refine W.sw (e:=z0 y2) ?_;refine W.rg<|WO.pq 0 (jI (jg hl1 hk1)) (e1:=z2 [(13,I6 (k1:Int)),(25,I6 ((k1+1:Nat):Int))])<|WO.fn (e2:=z2 [(13,I6 ((k1+1:Nat):Int))]) ?_;exact hN1 () h
end Go.AM
namespace Go.AM
open Go.Proofs
def begL (t:Int):List rf5Op→Nat→Int
 | [],_ => -1
 | x::r,i=>bif x.qg == t then (i:Int) else begL t r (i+1)
def writesL (h:List rf5Op) (t i:Int):Bool:=h.any fun x=>(x.qg == t) && ((x.qi == 1) && (x.qj == i))
def readsL (t i:Int):List rf5Op→Bool
 | []=>false
 | x::r=>bif (x.qg == t) && ((x.qi == 1) && ((x.qj == i) && true)) then false else bif (x.qg == t) && ((x.qi == 0) && ((x.qj == i) && true)) then true else readsL t i r
def ovL (h:List rf5Op) (a b:Int):Bool:=decide (begL a h 0<endL b 2 h 0) && decide (begL b h 0<endL a 2 h 0)
structure SnapOk (h:List rf5Op) (s:qK):Prop where
 hh:s.f_h=h.map cv
 tx:s.qm=commL h
 be:∀ t,t∈commL h→mget keq1 0 t s.qt=begL t h 0
 en:∀ t,t∈commL h→mget keq1 0 t s.qA=endL t 2 h 0
 ln:h.length≤1000
theorem qfD {h:List rf5Op} {t:Int} (ht:t∈commL h):1≤t∧t≤6:=(Zl.1 ht).1
theorem Qy {h:List rf5Op} {t:Int} (ht:t∈commL h):wfI .i64 t=true:=Vz t ht
theorem qfr (t:Int):∀ (r:List rf5Op) (i:Nat),jw (fun y=>jH y t) JH (r.map cv) i=some (begL t r i)
 | [],i=>by rw[B7,jw.eq_1];rfl
 | x::r,i=>by
  rw[A4,jw.eq_2];unfold jH begL;rw[A1];show (bif (x.qg == t) then _ else _)=_
  cases (x.qg == t) with
  | true=>rfl
  | false=>exact qfr t r (i+1)
theorem qgb {h:List rf5Op} (hl:h.length≤1000) (t:Int):Qm (h.map cv) (fun y=>jH y t)=some (begL t h 0):=by
 unfold Qm;rw[jT (by simp;omega),qC,qfr]
theorem HF {h:List rf5Op} (hl:h.length≤1000):∀ (l:List Int) (m:List (Int×Int)),∃ m',beginsP (h.map cv) l m=some m'∧∀ t,mget keq1 0 t m'=if t∈l then begL t h 0 else mget keq1 0 t m
 | [],m=>⟨m,rfl,fun t=>by simp⟩
 | x::l,m=>by
  unfold beginsP;rw[qgb hl,A1];obtain⟨m',h1,h2⟩:=HF hl l (mset keq1 x (begL x h 0) m);refine⟨m',h1,fun t=>?_⟩;rw[h2 t,UV];by_cases h3:t∈l
  ·rw[if_pos h3,if_pos (by simp[h3])]
  ·rw[if_neg h3];by_cases h4:x=t
   ·subst h4;simp
   ·rw[if_neg h4,if_neg (by simp[h3,Ne.symm h4])]
theorem qbf {h:List rf5Op} (H:Hist h):∃ s,snapP bigFuel (h.map cv)=some s∧SnapOk h s:=by
 have hl:h.length≤1000:=H.1;unfold snapP;rw[QN H,A1,Ua H (by decide),A1]
 have hc:(decide ((commL h).length≤1000) && (commL h).all (wfI .i64))=true:=by
  rw[A3,decide_eq_true_eq,B6];exact⟨by have:=Jv h;omega,Vz⟩
 rw[hc,qC];obtain⟨m',h1,h2⟩:=HF hl (commL h) [];rw[h1,A1];refine⟨_,rfl,rfl,rfl,fun t ht=>?_,fun t ht=>?_,hl⟩
 ·show mget keq1 0 t m'=_;rw[h2,if_pos ht]
 ·have:=qfD ht;exact qbF (f:=fun t=>endL t 2 h 0) this.1 this.2
variable {h:List rf5Op} {s:qK}
theorem qaB (S:SnapOk h s) {a b:Int} (ha:a∈commL h) (hb:b∈commL h):jt s a b=some (ovL h a b):=by
 unfold jt Jt ovL;rw[Qy ha,Qy hb,S.be a ha,S.be b hb,S.en a ha,S.en b hb];simp only[qC];cases decide (begL a h 0<endL b 2 h 0) <;> rfl
theorem ix1 {t i:Int}:∀ (r:List rf5Op) (k:Nat),∃ z:Int,qZ (hsOp.mk t 1 i) JA (r.map cv) k=some z∧decide (z ≥ 0)=r.any fun x=>(x.qg == t) && ((x.qi == 1) && (x.qj == i))
 | [],k=>⟨-1,by rw[B7,qZ.eq_1];rfl,rfl⟩
 | x::r,k=>by
  obtain⟨z,h1,h2⟩:=ix1 (t:=t) (i:=i) r (k+1);rw[A4,qZ.eq_2,List.any_cons]
  have e:((t == (cv x).qg) && (((1:Int) == (cv x).qi) && ((i == (cv x).qj) && true)))=((x.qg == t) && ((x.qi == 1) && (x.qj == i))):=by
   show ((t == x.qg) && (((1:Int) == x.qi) && ((i == x.qj) && true)))=_;rw[B8 (a:=t),B8 (a:=(1:Int)),B8 (a:=i),Bool.and_true]
  rw[e]
  cases ((x.qg == t) && ((x.qi == 1) && (x.qj == i))) with
  | true=>exact⟨(k:Int),rfl,by simp⟩
  | false=>exact⟨z,h1,by rw[h2,Bool.false_or]⟩
theorem Ui (S:SnapOk h s) (a i:Int):jk s a i=some (writesL h a i):=by
 unfold jk Jg JW;obtain⟨z,h1,h2⟩:=ix1 (t:=a) (i:=i) h 0;rw[S.hh,jT (by have:=S.ln;simp;omega),qC,h1,A1,h2];rfl
theorem qfg (t i:Int):∀ (r:List rf5Op) (k:Nat),jx t i JI (r.map cv) k=some (readsL t i r)
 | [],k=>by rw[B7,jx.eq_1];rfl
 | x::r,k=>by
  rw[A4,jx.eq_2];unfold readsL;simp only[cv]
  cases (x.qg == t) && ((x.qi == 1) && ((x.qj == i) && true)) with
  | true=>rfl
  | false =>
   cases (x.qg == t) && ((x.qi == 0) && ((x.qj == i) && true)) with
   | true=>rfl
   | false=>exact qfg t i r (k+1)
theorem qdn (S:SnapOk h s) (a i:Int):jW s a i=some (readsL a i h):=by
 unfold jW;rw[S.hh,jT (by have:=S.ln;simp;omega),qC,qfg]
def srcStep (h:List rf5Op) (b i:Int) (best a:Int):Int:=bif writesL h a i && (decide (endL a 2 h 0<begL b h 0) && ((best == 0) || decide (endL a 2 h 0 > endL best 2 h 0))) then a else best
def srcL (h:List rf5Op) (b i:Int):Int:=(commL h).foldl (srcStep h b i) 0
theorem qdm (S:SnapOk h s) {b i:Int} (hb:b∈commL h) (K:Int→Option Int):∀ (r:List Int) (k:Nat) (v:Int),(∀ x,x∈r→x∈commL h)→(v=0∨v∈commL h) →
  qG s b i K r k v=K (r.foldl (srcStep h b i) v)
 | [],k,v,_,_=>by rw[qG.eq_1];rfl
 | x::r,k,v,hr,hv=>by
  have hx:=hr x (by simp);rw[qG.eq_2,Ui S,A1,List.foldl_cons]
  have ih:=fun v hv=>qdm (i:=i) S hb K r (k+1) v (fun y hy=>hr y (by simp[hy])) hv
  unfold jA jo;unfold srcStep
  cases writesL h x i with
  | false=>simp only[cN,Bool.false_and];exact ih v hv
  | true =>
   simp only[cT,Bool.true_and];rw[Qy hx,Qy hb,qC,qC,S.en x hx,S.be b hb]
   cases decide (endL x 2 h 0<begL b h 0) with
   | false=>simp only[cN,Bool.false_and];exact ih v hv
   | true =>
    simp only[cT,Bool.true_and]
    cases hv0:(v == 0) with
    | true=>simp only[cT,Bool.true_or];exact ih x (.inr hx)
    | false =>
     rw[beq_eq_false_iff_ne]at hv0
     have hvc:v∈commL h:=by rcases hv with h0 | h0;exact absurd h0 hv0;exact h0
     rw[Qy hvc,S.en v hvc];simp only[qC,cN,Bool.false_or]
     cases decide (endL x 2 h 0 > endL v 2 h 0) with
     | true=>simp only[cT];exact ih x (.inr hx)
     | false=>simp only[cN];exact ih v hv
theorem qff (S:SnapOk h s) {b i:Int} (hb:b∈commL h):Jd s b i=some (srcL h b i):=by
 unfold Jd;rw[S.tx,jT (by have:=Jv h;omega),qC,qdm S hb _ _ 0 0 (fun x hx=>hx) (.inl rfl)];rfl
def badA (h:List rf5Op) (a b i:Int):Prop:=a<b∧ovL h a b=true∧writesL h a i=true∧writesL h b i=true
theorem qdr (S:SnapOk h s) {a b:Int} (ha:a∈commL h) (hb:b∈commL h) (K:Option Bool):∀ (r:List Nat) (k:Nat),
  ((∃ i:Nat,k≤i∧i<k+r.length∧badA h a b i)∧qL s a b K r k=some false)∨((∀ i:Nat,k≤i→i<k+r.length→¬ badA h a b i)∧qL s a b K r k=K)
 | [],k=>.inr ⟨fun i h1 h2=>by simp at h2;omega,by rw[qL.eq_1]⟩
 | x::r,k=>by
  rw[qL.eq_2,qaB S ha hb,A1,Ui S,A1,Ui S,A1];unfold jv;by_cases hbad:badA h a b k
  ·obtain⟨h1,h2,h3,h4⟩:=hbad;refine .inl ⟨⟨k,A2 _,by simp,h1,h2,h3,h4⟩,?_⟩;rw[decide_eq_true h1,h2,h3,h4];rfl
  ·have hskip:∀ X:Option Bool,(bif decide (a<b) then bif ovL h a b then bif writesL h a (k:Int) then bif writesL h b (k:Int) then some false else X else bif false then some false else X else bif false then some false else X else bif false then some false else X)=X:=fun X=>by
    cases h1:decide (a<b) <;> cases h2:ovL h a b <;> cases h3:writesL h a (k:Int) <;> cases h4:writesL h b (k:Int) <;> first | rfl | skip
    exact absurd ⟨of_decide_eq_true h1,h2,h3,h4⟩ hbad
   rw[hskip]
   rcases qdr S ha hb K r (k+1) with ⟨⟨i,h1,h2,h3⟩,h4⟩ | ⟨h1,h2⟩
   ·exact .inl ⟨⟨i,by omega,by simp;omega,h3⟩,h4⟩
   ·refine .inr ⟨fun i g1 g2=>?_,h2⟩;by_cases e:i=k
    ·subst e;exact hbad
    ·exact h1 i (by omega) (by simp at g2;omega)
theorem qds (S:SnapOk h s) {a:Int} (ha:a∈commL h) (K:Option Bool):∀ (r:List Int) (k:Nat),(∀ x,x∈r→x∈commL h) →
  ((∃ b,b∈r∧∃ i:Nat,i<6∧badA h a b i)∧qM s a K r k=some false)∨((∀ b,b∈r→∀ i:Nat,i<6→¬ badA h a b i)∧qM s a K r k=K)
 | [],k,_=>.inr ⟨fun i h1=>by simp at h1,by rw[qM.eq_1]⟩
 | x::r,k,hr=>by
  have hl:lenOk (A7 (A8 6))=true:=by decide
  rw[qM.eq_2,hl,qC]
  rcases qdr S ha (hr x (by simp)) (jQ (qM s a K r (k+1))) (A7 (A8 6)) 0 with ⟨⟨i,h1,h2,h3⟩,h4⟩ | ⟨h1,h2⟩
  ·exact .inl ⟨⟨x,by simp,i,by simpa using h2,h3⟩,h4⟩
  ·rw[h2]
   rcases qds S ha K r (k+1) (fun y hy=>hr y (by simp[hy])) with ⟨⟨b,g1,g2⟩,g3⟩ | ⟨g1,g2⟩
   ·exact .inl ⟨⟨b,by simp[g1],g2⟩,g3⟩
   ·refine .inr ⟨fun b hb i hi=>?_,g2⟩
    rcases List.mem_cons.1 hb with rfl | hb
    ·exact h1 i (Nat.zero_le _) (by simpa using hi)
    ·exact g1 b hb i hi
theorem qdt (S:SnapOk h s) (K:Option Bool):∀ (r:List Int) (k:Nat),(∀ x,x∈r→x∈commL h) →
  ((∃ a,a∈r∧∃ b,b∈commL h∧∃ i:Nat,i<6∧badA h a b i)∧qF s K r k=some false)∨((∀ a,a∈r→∀ b,b∈commL h→∀ i:Nat,i<6→¬ badA h a b i)∧qF s K r k=K)
 | [],k,_=>.inr ⟨fun i h1=>by simp at h1,by rw[qF.eq_1]⟩
 | x::r,k,hr=>by
  rw[qF.eq_2,S.tx,jT (by have:=Jv h;omega),qC]
  rcases qds S (hr x (by simp)) (ji (qF s K r (k+1))) (commL h) 0 (fun y hy=>hy) with ⟨⟨b,h1,h2⟩,h4⟩ | ⟨h1,h2⟩
  ·exact .inl ⟨⟨x,by simp,b,h1,h2⟩,h4⟩
  ·rw[h2]
   rcases qdt S K r (k+1) (fun y hy=>hr y (by simp[hy])) with ⟨⟨b,g1,g2⟩,g3⟩ | ⟨g1,g2⟩
   ·exact .inl ⟨⟨b,by simp[g1],g2⟩,g3⟩
   ·refine .inr ⟨fun b hb=>?_,g2⟩
    rcases List.mem_cons.1 hb with rfl | hb
    ·exact h1
    ·exact g1 b hb
def NoBad (h:List rf5Op):Prop:=∀ a,a∈commL h→∀ b,b∈commL h→∀ i:Nat,i<6→¬ badA h a b i
theorem qfh (S:SnapOk h s):(NoBad h∧ju s=some true)∨(¬ NoBad h∧ju s=some false):=by
 unfold ju;rw[S.tx,jT (by have:=Jv h;omega),qC]
 rcases qdt S qX (commL h) 0 (fun y hy=>hy) with ⟨⟨a,g1,b,g2,i,g3,g4⟩,g5⟩ | ⟨g1,g2⟩
 ·exact .inr ⟨fun hn=>hn a g1 b g2 i g3 g4,g5⟩
 ·exact .inl ⟨g1,g2⟩
end Go.AM
namespace Go.AM
open Go.Proofs
structure GoodM (n:Nat) (m:List (qd×Bool)) (E:Int→Int→Prop):Prop where
 len:m.length≤n
 nd:(keys2 m).Nodup
 tt:∀ p,p∈m→p.2=true
 mem:∀ a b,qd.mk a b∈keys2 m↔E a b
theorem GoodM.congr {n n':Nat} {m:List (qd×Bool)} {E F:Int→Int→Prop} (h:GoodM n m E) (hn:n≤n') (he:∀ a b,E a b↔F a b):GoodM n' m F :=
 ⟨A9 h.len hn,h.nd,h.tt,fun a b=>(h.mem a b).trans (he a b)⟩
theorem DH (k:qd) (v:Bool):∀ l:List (qd×Bool),(k∈keys2 l→keys2 (mset qr k v l)=keys2 l)∧(k ∉ keys2 l→keys2 (mset qr k v l)=keys2 l++[k])
 | []=>⟨fun h=>by simp at h,fun _=>rfl⟩
 | p::r=>by
  obtain⟨h1,h2⟩:=DH k v r;unfold mset;by_cases hp:p.1=k
  ·rw[(YC p.1 k).2 hp,cT];exact⟨fun _=>rfl,fun h=>absurd (by simp[hp]) h⟩
  ·rw[NP hp,cN];refine⟨fun h=>?_,fun h=>?_⟩
   ·simp only[A4,B4]at h ⊢
    rcases h with h | h
    ·exact absurd h.symm hp
    ·exact congrArg (p.1::·) (h1 h)
   ·simp only[A4,B4,not_or]at h ⊢;exact congrArg (p.1::·) (h2 h.2)
theorem qdv (k:qd):∀ l:List (qd×Bool),(∀ p,p∈l→p.2=true)→∀ p,p∈mset qr k true l→p.2=true
 | [],_,p,hp=>by simp[mset]at hp;rw[hp]
 | q::r,h,p,hp=>by
  unfold mset at hp;by_cases hq:q.1=k
  ·rw[(YC q.1 k).2 hq,cT]at hp
   rcases List.mem_cons.1 hp with rfl | hp
   ·rfl
   ·exact h p (by simp[hp])
  ·rw[NP hq,cN]at hp
   rcases List.mem_cons.1 hp with rfl | hp
   ·exact h _ (by simp)
   ·exact qdv k r (fun x hx=>h x (by simp[hx])) p hp
theorem GoodM.set {n:Nat} {m:List (qd×Bool)} {E:Int→Int→Prop} (h:GoodM n m E) (a b:Int):GoodM (n+1) (mset qr (qd.mk a b) true m) (fun c d=>E c d∨(c=a∧d=b)):=by
 obtain⟨h1,h2⟩:=DH (qd.mk a b) true m;refine⟨A9 (UU _ _ _) (by have:=h.len;omega),?_,qdv _ _ h.tt,fun c d=>?_⟩
 ·by_cases hk:qd.mk a b∈keys2 m
  ·rw[h1 hk];exact h.nd
  ·rw[h2 hk];refine List.nodup_append.2 ⟨h.nd,by simp,fun x hx y hy=>?_⟩;simp at hy;subst hy
   exact fun e=>hk (e ▸ hx)
 ·by_cases hk:qd.mk a b∈keys2 m
  ·rw[h1 hk,h.mem];refine⟨.inl,fun hh=>?_⟩
   rcases hh with hh | ⟨rfl,rfl⟩
   ·exact hh
   ·exact (h.mem _ _).1 hk
  ·rw[h2 hk,List.mem_append,h.mem];simp
theorem GoodM.edge {n:Nat} {m:List (qd×Bool)} {E:Int→Int→Prop} (h:GoodM n m E) (a b:Int):edgeB m a b=true↔E a b:=by
 rw[← h.mem];have ht:=h.tt;clear h;unfold edgeB
 induction m with
 | nil=>simp[mget]
 | cons p r ih =>
  have ih:=ih fun x hx=>ht x (by simp[hx])
  unfold mget;by_cases hp:p.1=qd.mk a b
  ·rw[(YC _ _).2 hp,cT,ht p (by simp)];simp[hp]
  ·rw[NP hp,cN];refine Iff.trans ih ?_;simp only[A4,B4];exact⟨.inr,fun h=>by rcases h with h | h;exact absurd h.symm hp;exact h⟩
def antiC (h:List rf5Op) (a b i:Int):Prop:=readsL a i h=true∧writesL h b i=true∧endL b 2 h 0 > begL a h 0
def restC (h:List rf5Op) (a b i:Int):Prop:=(writesL h a i=true∧writesL h b i=true∧endL a 2 h 0<endL b 2 h 0)∨(readsL b i h=true∧srcL h b i=a)
variable {h:List rf5Op} {s:qK}
abbrev Map2:=List (qd×Bool)
theorem pj48 {n:Nat} {u:Map2} {F:Int→Int→Prop} {a b:Int} (hu:GoodM n u F) (hn:n≤100000) (ha:a∈commL h) (hb:b∈commL h) (v:Map2) (K:Map2→Map2→Option (Map2×Map2)) (B:Bool) :
  ∃ u',qQ a b v u K B=K v u'∧GoodM (n+1) u' (fun c d=>F c d∨(c=a∧d=b∧B=true)):=by
 unfold qQ
 cases B with
 | true =>
  have hl:A5 u.length 1000000000=true:=by have:=hu.len;simp[A5];omega
  rw[cT,Qy ha,Qy hb,hl,Bool.and_self,qC,qC];exact⟨_,rfl,(hu.set a b).congr (A2 _) fun c d=>by simp⟩
 | false=>exact⟨u,rfl,hu.congr (by omega) fun c d=>by simp⟩
theorem pj23 (S:SnapOk h s) {n:Nat} {u:Map2} {F:Int→Int→Prop} {a b:Int} (hu:GoodM n u F) (hn:n≤100000) (ha:a∈commL h) (hb:b∈commL h) (k:Nat) (v:Map2) (K:Map2→Map2→Option (Map2×Map2)) :
  ∃ u',qO s a b k K v u=K v u'∧GoodM (n+1) u' (fun c d=>F c d∨(c=a∧d=b∧restC h a b k)):=by
 have key:∀ B:Bool,(B=true↔restC h a b k)→qO s a b k K v u=qQ a b v u K B→∃ u',qO s a b k K v u=K v u'∧GoodM (n+1) u' (fun c d=>F c d∨(c=a∧d=b∧restC h a b k)):=fun B hB he=>by
  obtain⟨u',h1,h2⟩:=pj48 hu hn ha hb v K B;exact⟨u',he.trans h1,h2.congr (A2 _) fun c d=>by rw[hB]⟩
 refine key ((writesL h a (k:Int) && (writesL h b (k:Int) && decide (endL a 2 h 0<endL b 2 h 0))) || (readsL b (k:Int) h && (srcL h b (k:Int) == a))) (by simp[restC]) ?_;unfold qO;simp only[Ui S,qdn S,qff S hb,A1,Qy ha,Qy hb,qC,S.en a ha,S.en b hb];cases writesL h a (k:Int) <;> cases writesL h b (k:Int) <;> cases decide (endL a 2 h 0<endL b 2 h 0) <;> cases readsL b (k:Int) h <;> rfl
theorem pj24 {n:Nat} {v u:Map2} {E F:Int→Int→Prop} {a b:Int} (hv:GoodM n v E) (hu:GoodM n u F) (hn:n≤100000) (ha:a∈commL h) (hb:b∈commL h) (K:Map2→Map2→Option (Map2×Map2)) (B:Bool) :
  ∃ v' u',jq a b v u K B=K v' u'∧GoodM (n+1) v' (fun c d=>E c d∨(c=a∧d=b∧B=true))∧GoodM (n+1) u' (fun c d=>F c d∨(c=a∧d=b∧B=true)):=by
 unfold jq
 cases B with
 | true =>
  have hl:A5 u.length 1000000000=true:=by have:=hu.len;simp[A5];omega
  have hl':A5 v.length 1000000000=true:=by have:=hv.len;simp[A5];omega
  rw[cT,Qy ha,Qy hb,hl,hl',Bool.and_self,qC,qC,qC,qC];exact⟨_,_,rfl,(hv.set a b).congr (A2 _) fun c d=>by simp,(hu.set a b).congr (A2 _) fun c d=>by simp⟩
 | false=>exact⟨v,u,rfl,hv.congr (by omega) fun c d=>by simp,hu.congr (by omega) fun c d=>by simp⟩
theorem qbx (a:Int) (K:Map2→Map2→Option (Map2×Map2)) (v u:Map2):∀ (r:List Nat) (k:Nat),qp s a a K r k v u=K v u
 | [],k=>by rw[qp.eq_1]
 | x::r,k=>by
  rw[qp.eq_2,beq_self_eq_true,cT];exact qbx a K v u r (k+1)
theorem qdp (S:SnapOk h s) {a b:Int} (ha:a∈commL h) (hb:b∈commL h) (hab:a≠b) (K:Map2→Map2→Option (Map2×Map2)):∀ (r:List Nat) (k n:Nat) (v u:Map2) (E F:Int→Int→Prop),GoodM n v E→GoodM n u F→n+2 * r.length≤100000 →
  ∃ v' u',qp s a b K r k v u=K v' u'∧GoodM (n+2 * r.length) v' (fun c d=>E c d∨(c=a∧d=b∧∃ i:Nat,k≤i∧i<k+r.length∧antiC h a b i)) ∧
   GoodM (n+2 * r.length) u' (fun c d=>F c d∨(c=a∧d=b∧∃ i:Nat,k≤i∧i<k+r.length∧(antiC h a b i∨restC h a b i)))
 | [],k,n,v,u,E,F,hv,hu,hn=>⟨v,u,by rw[qp.eq_1],hv.congr (by simp) fun c d=>⟨.inl,fun hh=>by rcases hh with hh | ⟨_,_,i,h1,h2,_⟩;exact hh;simp at h2;omega⟩,hu.congr (by simp) fun c d=>⟨.inl,fun hh=>by rcases hh with hh | ⟨_,_,i,h1,h2,_⟩;exact hh;simp at h2;omega⟩⟩
 | x::r,k,n,v,u,E,F,hv,hu,hn=>by
  have hn':n+2 * (r.length+1)≤100000:=hn
  have key:∀ B:Bool,(B=true↔antiC h a b k)→qp s a b K (x::r) k v u=jq a b v u (qO s a b k (qp s a b K r (k+1))) B→(∃ v' u',qp s a b K (x::r) k v u=K v' u'∧GoodM (n+2 * (x::r).length) v' (fun c d=>E c d∨(c=a∧d=b∧∃ i:Nat,k≤i∧i<k+(x::r).length∧antiC h a b i)) ∧
    GoodM (n+2 * (x::r).length) u' (fun c d=>F c d∨(c=a∧d=b∧∃ i:Nat,k≤i∧i<k+(x::r).length∧(antiC h a b i∨restC h a b i)))):=fun B hB he=>by
   obtain⟨v1,u1,e1,g1,g2⟩:=pj24 (h:=h) hv hu (by omega) ha hb (qO s a b k (qp s a b K r (k+1))) B;obtain⟨u2,e2,g3⟩:=pj23 S g2 (by omega) ha hb k v1 (qp s a b K r (k+1));obtain⟨v3,u3,e3,g4,g5⟩:=qdp S ha hb hab K r (k+1) (n+2) v1 u2 _ _ (g1.congr (by omega) fun _ _=>Iff.rfl) (g3.congr (by omega) fun _ _=>Iff.rfl) (by omega);refine⟨v3,u3,by rw[he,e1,e2,e3],g4.congr (by simp;omega) fun c d=>?_,g5.congr (by simp;omega) fun c d=>?_⟩
   ·rw[hB];constructor
    ·rintro ((hh | ⟨h1,h2,h3⟩) | ⟨h1,h2,i,h3,h4,h5⟩)
     ·exact .inl hh
     ·exact .inr ⟨h1,h2,k,A2 _,by simp,h3⟩
     ·exact .inr ⟨h1,h2,i,by omega,by simp;omega,h5⟩
    ·rintro (hh | ⟨h1,h2,i,h3,h4,h5⟩)
     ·exact .inl (.inl hh)
     ·by_cases e:i=k
      ·subst e;exact .inl (.inr ⟨h1,h2,h5⟩)
      ·exact .inr ⟨h1,h2,i,by omega,by simp at h4;omega,h5⟩
   ·rw[hB];constructor
    ·rintro (((hh | ⟨h1,h2,h3⟩) | ⟨h1,h2,h3⟩) | ⟨h1,h2,i,h3,h4,h5⟩)
     ·exact .inl hh
     ·exact .inr ⟨h1,h2,k,A2 _,by simp,.inl h3⟩
     ·exact .inr ⟨h1,h2,k,A2 _,by simp,.inr h3⟩
     ·exact .inr ⟨h1,h2,i,by omega,by simp;omega,h5⟩
    ·rintro (hh | ⟨h1,h2,i,h3,h4,h5⟩)
     ·exact .inl (.inl (.inl hh))
     ·by_cases e:i=k
      ·subst e
       rcases h5 with h5 | h5
       ·exact .inl (.inl (.inr ⟨h1,h2,h5⟩))
       ·exact .inl (.inr ⟨h1,h2,h5⟩)
      ·exact .inr ⟨h1,h2,i,by omega,by simp at h4;omega,h5⟩
  refine key (readsL a (k:Int) h && (writesL h b (k:Int) && decide (endL b 2 h 0 > begL a h 0))) (by simp[antiC]) ?_;rw[qp.eq_2,beq_eq_false_iff_ne.2 hab,cN];unfold qR;simp only[Ui S,qdn S,A1,Qy ha,Qy hb,qC,S.en b hb,S.be a ha];cases readsL a (k:Int) h <;> cases writesL h b (k:Int) <;> cases decide (endL b 2 h 0 > begL a h 0) <;> rfl
def antiP (h:List rf5Op) (c d:Int):Prop:=c≠d∧∃ i:Nat,i<6∧antiC h c d i
def allP (h:List rf5Op) (c d:Int):Prop:=c≠d∧∃ i:Nat,i<6∧(antiC h c d i∨restC h c d i)
theorem qaC (S:SnapOk h s) {a:Int} (ha:a∈commL h) (K:Map2→Map2→Option (Map2×Map2)):∀ (r:List Int) (k n:Nat) (v u:Map2) (E F:Int→Int→Prop),(∀ x,x∈r→x∈commL h)→GoodM n v E→GoodM n u F→n+12 * r.length≤100000 →
  ∃ v' u',qy s a K r k v u=K v' u'∧GoodM (n+12 * r.length) v' (fun c d=>E c d∨(c=a∧d∈r∧antiP h c d))∧GoodM (n+12 * r.length) u' (fun c d=>F c d∨(c=a∧d∈r∧allP h c d))
 | [],k,n,v,u,E,F,_,hv,hu,hn=>⟨v,u,by rw[qy.eq_1],hv.congr (by simp) fun c d=>by simp,hu.congr (by simp) fun c d=>by simp⟩
 | x::r,k,n,v,u,E,F,hr,hv,hu,hn=>by
  have hn':n+12 * (r.length+1)≤100000:=hn
  have hl:lenOk (A7 (A8 6))=true:=by decide
  have hx:=hr x (by simp);rw[qy.eq_2,hl,qC]
  have hlen:(A7 (A8 6)).length=6:=by decide
  unfold qJ;by_cases hax:a=x
  ·subst hax;rw[qbx];obtain⟨v1,u1,e1,g1,g2⟩:=qaC S ha K r (k+1) n v u E F (fun y hy=>hr y (by simp[hy])) hv hu (by omega);refine⟨v1,u1,e1,g1.congr (by simp;omega) fun c d=>?_,g2.congr (by simp;omega) fun c d=>?_⟩
   ·unfold antiP;constructor
    ·rintro (hh | ⟨h1,h2,h3⟩)
     ·exact .inl hh
     ·exact .inr ⟨h1,by simp[h2],h3⟩
    ·rintro (hh | ⟨h1,h2,h3,h4⟩)
     ·exact .inl hh
     ·rcases List.mem_cons.1 h2 with e | h2
      ·exact absurd (h1.trans e.symm) h3
      ·exact .inr ⟨h1,h2,h3,h4⟩
   ·unfold allP;constructor
    ·rintro (hh | ⟨h1,h2,h3⟩)
     ·exact .inl hh
     ·exact .inr ⟨h1,by simp[h2],h3⟩
    ·rintro (hh | ⟨h1,h2,h3,h4⟩)
     ·exact .inl hh
     ·rcases List.mem_cons.1 h2 with e | h2
      ·exact absurd (h1.trans e.symm) h3
      ·exact .inr ⟨h1,h2,h3,h4⟩
  ·obtain⟨v1,u1,e1,g1,g2⟩:=qdp S ha hx hax (qy s a K r (k+1)) (A7 (A8 6)) 0 n v u E F hv hu (by rw[hlen];omega);rw[hlen]at g1 g2;obtain⟨v2,u2,e2,g3,g4⟩:=qaC S ha K r (k+1) (n+12) v1 u1 _ _ (fun y hy=>hr y (by simp[hy])) (g1.congr (by omega) fun _ _=>Iff.rfl) (g2.congr (by omega) fun _ _=>Iff.rfl) (by omega);refine⟨v2,u2,by rw[e1,e2],g3.congr (by simp;omega) fun c d=>?_,g4.congr (by simp;omega) fun c d=>?_⟩
   ·unfold antiP;constructor
    ·rintro ((hh | ⟨rfl,rfl,i,_,h3,h4⟩) | ⟨h1,h2,h3⟩)
     ·exact .inl hh
     ·exact .inr ⟨rfl,by simp,hax,i,by omega,h4⟩
     ·exact .inr ⟨h1,by simp[h2],h3⟩
    ·rintro (hh | ⟨rfl,h2,h3,i,h4,h5⟩)
     ·exact .inl (.inl hh)
     ·rcases List.mem_cons.1 h2 with rfl | h2
      ·exact .inl (.inr ⟨rfl,rfl,i,Nat.zero_le _,by omega,h5⟩)
      ·exact .inr ⟨rfl,h2,h3,i,h4,h5⟩
   ·unfold allP;constructor
    ·rintro ((hh | ⟨rfl,rfl,i,_,h3,h4⟩) | ⟨h1,h2,h3⟩)
     ·exact .inl hh
     ·exact .inr ⟨rfl,by simp,hax,i,by omega,h4⟩
     ·exact .inr ⟨h1,by simp[h2],h3⟩
    ·rintro (hh | ⟨rfl,h2,h3,i,h4,h5⟩)
     ·exact .inl (.inl hh)
     ·rcases List.mem_cons.1 h2 with rfl | h2
      ·exact .inl (.inr ⟨rfl,rfl,i,Nat.zero_le _,by omega,h5⟩)
      ·exact .inr ⟨rfl,h2,h3,i,h4,h5⟩
theorem qdq (S:SnapOk h s) (K:Map2→Map2→Option (Map2×Map2)):∀ (r:List Int) (k n:Nat) (v u:Map2) (E F:Int→Int→Prop),(∀ x,x∈r→x∈commL h)→GoodM n v E→GoodM n u F→n+72 * r.length≤100000 →
  ∃ v' u',qq s K r k v u=K v' u'∧GoodM (n+72 * r.length) v' (fun c d=>E c d∨(c∈r∧d∈commL h∧antiP h c d))∧GoodM (n+72 * r.length) u' (fun c d=>F c d∨(c∈r∧d∈commL h∧allP h c d))
 | [],k,n,v,u,E,F,_,hv,hu,hn=>⟨v,u,by rw[qq.eq_1],hv.congr (by simp) fun c d=>by simp,hu.congr (by simp) fun c d=>by simp⟩
 | x::r,k,n,v,u,E,F,hr,hv,hu,hn=>by
  have hn':n+72 * (r.length+1)≤100000:=hn;have hc6:=Jv h;rw[qq.eq_2,S.tx,jT (by omega),qC];unfold qB;obtain⟨v1,u1,e1,g1,g2⟩:=qaC S (hr x (by simp)) (qq s K r (k+1)) (commL h) 0 n v u E F (fun y hy=>hy) hv hu (by omega);obtain⟨v2,u2,e2,g3,g4⟩:=qdq S K r (k+1) (n+72) v1 u1 _ _ (fun y hy=>hr y (by simp[hy])) (g1.congr (by omega) fun _ _=>Iff.rfl) (g2.congr (by omega) fun _ _=>Iff.rfl) (by omega);refine⟨v2,u2,by rw[e1,e2],g3.congr (by simp;omega) fun c d=>?_,g4.congr (by simp;omega) fun c d=>?_⟩ <;>
  ·simp only[B4,or_and_right];exact or_assoc
def antiE (h:List rf5Op) (c d:Int):Prop:=c∈commL h∧d∈commL h∧antiP h c d
def allE (h:List rf5Op) (c d:Int):Prop:=c∈commL h∧d∈commL h∧allP h c d
theorem He (S:SnapOk h s):∃ v u,jX s=some (v,u)∧GoodM 500 v (antiE h)∧GoodM 500 u (allE h):=by
 unfold jX;have hc6:=Jv h;have g0:GoodM 0 [] (fun _ _=>False):=⟨A2 _,by simp,by simp,fun _ _=>by simp⟩;obtain⟨v,u,e,g1,g2⟩:=qdq S (qu) (commL h) 0 0 [] [] _ _ (fun y hy=>hy) g0 g0 (by omega);rw[S.tx,jT (by omega),qC,e];exact⟨v,u,rfl,g1.congr (by omega) fun c d=>by simp[antiE],g2.congr (by omega) fun c d=>by simp[allE]⟩
theorem NO (S:SnapOk h s) {a b:Int} (ha:a∈commL h) (hb:b∈commL h):ovB s a b=ovL h a b:=by
 unfold ovB;rw[qaB S ha hb];rfl
theorem Vl {x y:qd} (h0:x.f_0=y.f_0) (h1:x.f_1=y.f_1):x=y:=by
 cases x;cases y;cases h0;cases h1;rfl
theorem qfR {ov:Int→Int→Bool} {l:List qd} (x:qn):x∈triAll ov l l↔(qd.mk x.f_0 x.f_1∈l∧qd.mk x.f_1 x.f_2∈l∧ov x.f_0 x.f_1=true∧ov x.f_1 x.f_2=true):=by
 unfold triAll triIn;simp only[List.mem_flatMap,List.mem_map,List.mem_filter];constructor
 ·rintro⟨a,ha,b,⟨hb,ht⟩,rfl⟩
  unfold tri2 at ht;simp only[A3,beq_iff_eq]at ht;obtain⟨e,h1,h2⟩:=ht;have e2:qd.mk a.f_1 b.f_1=b:=Vl e rfl;have e1:qd.mk a.f_0 a.f_1=a:=Vl rfl rfl;exact⟨by rw[e1];exact ha,by show qd.mk a.f_1 b.f_1∈l;rw[e2];exact hb,h1,by show ov a.f_1 b.f_1=true;rw[e];exact h2⟩
 ·rintro⟨h1,h2,h3,h4⟩
  exact⟨_,h1,_,⟨h2,by simp[tri2,h3,h4]⟩,qcd rfl rfl rfl⟩
theorem qdK {ov:Int→Int→Bool} {l:List qd} (hl:l.Nodup):(triAll ov l l).Nodup:=by
 unfold triAll;refine List.pairwise_flatMap.2 ⟨fun a ha=>?_,hl.imp fun {a b} hab x hx y hy e=>?_⟩
 ·unfold triIn;refine List.pairwise_map.2 ((hl.filter _).imp_of_mem fun {b c} hb hc hbc e=>hbc ?_);have h1:=(List.mem_filter.1 hb).2;have h2:=(List.mem_filter.1 hc).2;unfold tri2 at h1 h2;simp only[A3,beq_iff_eq]at h1 h2;exact Vl (h1.1.symm.trans h2.1) (by injection e)
 ·subst e;unfold triIn at hx hy;obtain⟨p,_,h1⟩:=List.mem_map.1 hx;obtain⟨q,_,h2⟩:=List.mem_map.1 hy;rw[← h1]at h2
  injection h2 with e0 e1 e2
  exact hab (Vl e0.symm e1.symm)
theorem qfS {ov:Int→Int→Bool} {l:List qd} {n:Nat} (hn:l.length≤n):(triAll ov l l).length≤n * n:=by
 unfold triAll;refine A9 (YO (m:=n) fun x hx=>?_) (Nat.mul_le_mul_right _ hn);unfold triIn;rw[A6];exact A9 (List.length_filter_le _ _) hn
theorem qeV {T R:List qn} (hT:T.Nodup) (hR:R.Pairwise fun a b=>ltOf cf3 a b=true) (hm:∀ x,x∈T↔x∈R):sort3 T=R:=by
 have hRn:R.Nodup:=hR.imp fun {a b} hab e=>by subst e;rw[swo3.irrefl]at hab;cases hab
 have hp:T.Perm R:=(List.perm_ext_iff_of_nodup hT hRn).2 hm;rw[NX hp]
 have tr:∀ a b c:qn,(!ltOf cf3 b a)=true→(!ltOf cf3 c b)=true→(!ltOf cf3 c a)=true:=fun a b c h1 h2=>by
  rw[B3]at *;exact swo3.ntrans _ _ _ h2 h1
 have to:∀ a b:qn,((!ltOf cf3 b a) || !ltOf cf3 a b)=true:=fun a b=>by
  cases h1:ltOf cf3 b a
  ·rfl
  ·cases h2:ltOf cf3 a b
   ·rfl
   ·have:=swo3.trans _ _ _ h1 h2;rw[swo3.irrefl]at this;cases this
 have h1:(sort3 R).Pairwise fun a b=>(!ltOf cf3 b a)=true:=D2 tr to R
 refine List.Perm.eq_of_pairwise (le:=fun a b=>(!ltOf cf3 b a)=true) (fun a b _ _ x y=>?_) h1 (hR.imp fun {a b} hab=>?_) (B5 R _)
 ·rw[B3]at x y;exact tot3 a b y x
 ·cases h2:ltOf cf3 b a
  ·rfl
  ·have:=swo3.trans _ _ _ hab h2;rw[swo3.irrefl]at this;cases this
def dangT (h:List rf5Op) (x:qn):Prop:=antiE h x.f_0 x.f_1∧antiE h x.f_1 x.f_2∧ovL h x.f_0 x.f_1=true∧ovL h x.f_1 x.f_2=true
theorem qby (S:SnapOk h s) {v:Map2} (hv:GoodM 500 v (antiE h)) {R:List qn} (hR:R.Pairwise fun a b=>ltOf cf3 a b=true) (hm:∀ x,x∈R↔dangT h x) :
  ((keys2 v).all (fun p=>(jt s p.f_0 p.f_1).isSome) && decide ((triAll (ovB s) (keys2 v) (keys2 v)).length≤1000000))=true∧sort3 (triAll (ovB s) (keys2 v) (keys2 v))=R:=by
 have hin:∀ p,p∈keys2 v→antiE h p.f_0 p.f_1:=fun p hp=>(hv.mem _ _).1 (by rw[show qd.mk p.f_0 p.f_1=p from Vl rfl rfl];exact hp)
 constructor
 ·rw[A3,decide_eq_true_eq,B6];refine⟨fun p hp=>?_,?_⟩
  ·have:=hin p hp;rw[qaB S this.1 this.2.1];rfl
  ·have h1:(keys2 v).length≤500:=by rw[A6];exact hv.len
   exact A9 (qfS h1) (by omega)
 ·refine qeV (qdK hv.nd) hR fun x=>?_
  rw[qfR,hm];unfold dangT;rw[hv.mem,hv.mem];constructor
  ·rintro⟨h1,h2,h3,h4⟩
   rw[NO S h1.1 h1.2.1]at h3;rw[NO S h2.1 h2.2.1]at h4;exact⟨h1,h2,h3,h4⟩
  ·rintro⟨h1,h2,h3,h4⟩
   rw[← NO S h1.1 h1.2.1]at h3;rw[← NO S h2.1 h2.2.1]at h4;exact⟨h1,h2,h3,h4⟩
end Go.AM
