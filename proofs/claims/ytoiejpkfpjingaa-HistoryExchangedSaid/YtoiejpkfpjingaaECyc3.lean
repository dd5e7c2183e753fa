import Derived.Test.YtoiejpkfpjingaaHA1
import Derived.Test.YtoiejpkfpjingaaKAT
import Derived.WalkKit
import Derived.BigCall
import Derived.Deep.RegionHeld3
import Derived.Deep.RegionHeldLaw
import Derived.Deep.AppendLies
import Derived.Deep.OwnRows
import Derived.OneCell
import Derived.Laws.Rows
set_option linter.all false
set_option maxRecDepth 100000
open List renaming setIfInBounds_toArray→A0, set_cons_zero→A1, set_cons_succ→A2, getElem_toArray→A3, getElem_cons_succ→A4, getElem_cons_zero→A5, getLast?_eq_some_getLast→A9, getElem?_eq_getElem→B3, getLastD_eq_getLast?→B6, getElem?_toArray→B7, getElem?_cons_succ→B8, getElem?_cons_zero→D0, getD_eq_getElem?_getD→D1
open Nat renaming le_trans→A6
open Bool renaming and_eq_true→A7
open Int renaming natCast_nonneg→A8
open Go.Result renaming andThen→B4
open Go.Region renaming wanted→B5
open Go.MapKept renaming run_getObj_map→D2
namespace Go.AM
open Go.RowKit Go.Proofs
theorem glob0 (M:Mem):Glob M:=fun g hg=>by cases hg
theorem Cons.below {M:Mem} {w w':World} (h:Cons M w) (hB:Below w.heap.size w w'):Cons M w':=Ui h hB
theorem Cons.of_blocks {M:Mem} {w w':World} (h:Cons M w) (hb:∀ b o u,M b o=some u→b<w.heap.size→w'.heap[b]? = w.heap[b]?):Cons M w':=fun b o u hu=>by
 have h1:=h b o u hu;rw[Ji (hb b o u hu (XV h1))];exact h1
theorem Cons.alloc {M:Mem} {w:World} (h:Cons M w) (o:Obj):Cons M (w.alloc o):=h.of_blocks fun b _ _ _ hb=>heap_alloc_old w o hb
theorem Cons.setCell {M:Mem} {w:World} (h:Cons M w) {a:Addr} (ha:∀ o,M a.block o=none) (v:Value):Cons M (w.setCell a v) :=
 h.of_blocks fun b o u hu hb=>Below.heap_setCell w a v b fun e=>by rw[e,ha]at hu;cases hu
theorem Nu (l:List Int):flat (cL l)=cL l:=XK l .i64
theorem QN {M:Mem} {l:List Int} {v:Value} (h:R M (.lst 3 1 none (cL l)) v):∃ a cap,v=.slice a l.length cap∧∀ j (hj:j<l.length),∃ b off,a=some ⟨b,off,none⟩∧M b (off+j)=some (.int .i64 l[j]):=by
 generalize hx:cL l=xs at h
 cases h with
 | lstn =>
  have:l=[]:=by simpa[cL] using hx
  subst this;exact⟨none,0,rfl,fun j hj=>absurd hj (by simp)⟩
 | lste _ _ _ ad cap =>
  have:l=[]:=by simpa[cL] using hx
  subst this;exact⟨some ad,cap,rfl,fun j hj=>absurd hj (by simp)⟩
 | lst us h1 h2 h5 h3 h4 =>
  subst hx;rename_i b off cap;refine⟨some ⟨b,off,none⟩,cap,by simp[cL],fun j hj=>⟨b,off,rfl,?_⟩⟩
  have hf:(flat (cL l))[j]? = some (.int .i64 l[j]):=by rw[Nu];simp[cL,hj]
  rw[h3 j _ hf,(h4 j _ hf).int_inv]
theorem Hh {M:Mem} {c:List Int} {g off cap:Nat} (hcap:c.length≤cap) (hM:∀ j (hj:j<c.length),M g (off+j)=some (.int .i64 c[j])):R M (.lst 3 1 none (cL c)) (.slice (some ⟨g,off,none⟩) c.length cap):=by
 have hl:(cL c).length=c.length:=by simp[cL]
 have hf:∀ (j:Nat) x,(flat (cL c))[j]? = some x→∃ h:j<c.length,x=.int .i64 c[j]:=by
  intro j x hx;rw[Nu]at hx;have hj:=(List.getElem?_eq_some_iff.1 hx).1;rw[hl]at hj;refine⟨hj,?_⟩
  simpa[cL,hj] using hx.symm
 rw[← hl];refine .lst (fun j=>.int .i64 (c.getD j 0)) (by rw[hl];exact hcap) (fun x hx=>?_) (fun x hx=>?_) (fun j x hx=>?_) (fun j x hx=>?_)
 ·obtain⟨z,_,rfl⟩:=List.mem_map.1 hx;rfl
 ·obtain⟨z,_,rfl⟩:=List.mem_map.1 hx;rfl
 ·obtain⟨hj,rfl⟩:=hf j x hx;rw[hM j hj,D1,B3 hj];rfl
 ·obtain⟨hj,rfl⟩:=hf j x hx;rw[D1,B3 hj];exact .int _ _
abbrev intsV (l:List Int):List Value:=l.map (Value.int .i64)
theorem Yv {w:World} {base:Nat} {v:Value} {c:List Int} (h:w.ownsRow base 3 1 v c.length (intsV c)):∃ N:Mem,Cons N w∧R N (.lst 3 1 none (cL c)) v∧∀ b o u,N b o=some u→v.ownBlock=some b:=by
 rcases h.2 with ⟨rfl,h0⟩ | ⟨g,cap,cur,rfl,hb,hg,hn,hm,hs,ht⟩
 ·have:c=[]:=List.eq_nil_of_length_eq_zero h0;subst this;exact⟨fun _ _=>none,fun _ _ _ hu=>(by cases hu),.lstn _ _ _,fun _ _ _ hu=>(by cases hu)⟩
 ·have hcell:∀ j (hj:j<c.length),cur[j]? = some (.int .i64 c[j]):=by
   intro j hj;have h1:=congrArg (fun l=>l[j]?) ht;simp only[List.getElem?_take,Array.getElem?_toList]at h1;rw[if_pos (by omega)]at h1;rw[h1];simp[hj]
  refine⟨fun b o=>if b=g then (c[o]?).map (Value.int .i64) else none,fun b o u hu=>?_,?_,fun b o u hu=>?_⟩
  ·simp only at hu;split at hu
   ·rename_i e;subst e
    cases ho:c[o]? with
    | none=>rw[ho]at hu;cases hu
    | some x =>
     rw[ho]at hu;cases hu;obtain⟨hj,rfl⟩:=List.getElem?_eq_some_iff.1 ho;unfold mc;rw[hg];exact qW (hcell o hj) rfl
   ·cases hu
  ·refine Hh hn fun j hj=>?_
   simp[hj]
  ·simp only at hu;split at hu
   ·rename_i e;subst e;rfl
   ·cases hu
theorem jg {f:Nat} {args:List AV} {r:AV} (h:Run Try.prog (.call f args r)):CallOk Try.prog f args r:=Xn mixedP h
theorem Ht {w w':World} (h:Below w.heap.size w w'):w.grownBy w' none:=⟨h.os,h.tape,h.output,h.size,fun k hk _=>h.block k hk⟩
theorem Dn {M:Mem} {w:World} {t kt e:TypeId} {ks vs:List AV} {mv kv:Value} {k r:AV} (hC:Cons M w) (hm:R M (.mpv ks vs) mv) (ht:JC Try.prog t=some (kt,e)) (hkv:k.keyV=some kv) (hr:alookup Try.prog t [] (.mpv ks vs) k=some r) :
  ∃ v,(Instr.lookup t mv kv false).run Try.prog w=.ok v w∧R M r v:=by
 unfold alookup at hr;rw[ht]at hr;simp only[Qy]at hr;split at hr
 case h_2=>cases hr
 rename_i hc;simp only[A7]at hc;obtain⟨⟨hfit,hks⟩,hall⟩:=hc;have ht:=JB ht;obtain⟨K,l,hl⟩:=XJ hfit hkv
 have hz:∀ z,zeroA1 Try.prog e=some z→∃ v,(zeroValue e).run Try.prog w=.ok v w∧R M z v:=fun z hz=>by
  obtain⟨v,h1,h2⟩:=Xx (M:=M) (O:=⟨fun _ _=>none,fun _=>0,fun _=>0⟩) (w:=w) hz;exact⟨v,h1,h2⟩
 rcases Hd hm with ⟨rfl,rfl,rfl⟩ | ⟨ks',vs',b,es,clock,hp,rfl,h1,h2,h3,h4,h5,h6,h7⟩
 ·simp only[findA]at hr;obtain⟨z,hz,hz2⟩:=hz _ hr;refine⟨z,?_,hz2⟩
  have hfind:(Instr.findKey kt kv (#[]:Array MapEntry).toList).run Try.prog w=.ok none w:=by
   rcases K.find w hl [] (by simp) with ⟨h1,_⟩ | ⟨j,e,_,h2,_⟩
   ·exact h1
   ·simp at h2
  simp[Instr.lookup,run_underlying ht,K.check w true hl,hfind,hz,B4]
 ·have hb:=VU (hC _ _ _ h1)
  have hall':ks'.all (keyFits Try.prog kt)=true:=List.all_eq_true.2 fun y hy=>List.all_eq_true.1 hall y (hp.keys.mem_iff.2 hy)
  have E:EntOk M es clock ks' vs':=⟨h2,h3,h4,h5,h6,h7⟩;obtain⟨hck,hst,hfd⟩:=XM (w:=w) hfit hkv hall' E;obtain⟨fp1,fp2⟩:=Nv hkv hp E
  rcases hfd with ⟨k1,k2,k3⟩ | ⟨j,e0,k1,k2,k3,k4⟩
  ·rw[fp1 k1]at hr;obtain⟨z,hz,hz2⟩:=hz _ hr;refine⟨z,?_,hz2⟩;simp[Instr.lookup,run_underlying ht,D2 hb,hck,k2,hz,B4]
  ·obtain⟨i,g1,g2⟩:=fp2 j k1;rw[g1]at hr;simp only[g2]at hr;refine⟨e0.val,?_,h7 j r e0 hr (by simpa using k3)⟩;simp[Instr.lookup,run_underlying ht,D2 hb,hck,k2,B4]
def madd (M:Mem) (b:Nat) (v:Value):Mem:=fun b' o=>if b'=b∧o=0 then some v else M b' o
theorem Yz (M:Mem) (b:Nat) (v:Value):madd M b v b 0=some v:=by simp[madd]
theorem qY {M:Mem} {b b' o:Nat} {v:Value} (h:b'≠b):madd M b v b' o=M b' o:=by simp[madd,h]
theorem QK {M:Mem} {w:World} {b:Nat} {v:Value} {t:TypeId} {fz:Nat×Nat} {cs:Array Value} (hC:Cons M w) (h:w.heap[b]? = some (.cells cs t fz)) (hv:cs[0]? = some v) (ht:isTup v=false):Cons (madd M b v) w:=fun b' o u hu=>by
 unfold madd at hu;split at hu
 ·rename_i e;obtain⟨rfl,rfl⟩:=e;cases hu;unfold mc;rw[h];exact qW hv ht
 ·exact hC _ _ _ hu
end Go.AM
namespace Go.AM
theorem Vo (t:Int):∀ (l:List Int) (k:Nat),∃ r:Int,jo t Jg l k=some r∧(decide (r ≥ 0)=l.contains t)
 | [],k=>⟨-1,by rw[jo.eq_1];rfl,rfl⟩
 | x::l,k=>by
  obtain⟨r,h1,h2⟩:=Vo t l (k+1);rw[jo.eq_2];by_cases h:t=x
  ·subst h;refine⟨(k:Int),by simp,?_⟩;simp
  ·refine⟨r,?_,?_⟩
   ·rw[beq_eq_false_iff_ne.2 h,cN,h1]
   ·rw[h2,List.contains_cons];simp[h]
theorem Zx {l:List Int} (hl:l.length≤100000) (t:Int):Jh l t=some (l.contains t):=by
 unfold Jh QD;obtain⟨r,h1,h2⟩:=Vo t l 0;have:lenOk l=true:=Nat.ble_eq_true_of_le (by omega);rw[this];simp only[chk,cond_true];rw[h1,← h2];rfl
def growF (E:Int→Int→Bool) (l:List Int):Nat→List Int→Option (List Int)
 | 0,c=>if E (c.getLastD 0) (c.headD 0) then some c else none
 | n+1,c=>l.findSome? fun t=>if c.contains t then none else if E (c.getLastD 0) t then growF E l n (c++[t]) else none
def stepF (E:Int→Int→Bool) (l:List Int) (n:Nat) (c:List Int) (t:Int):Option (List Int):=if c.contains t then none else if E (c.getLastD 0) t then growF E l n (c++[t]) else none
end Go.AM
namespace Go.Proofs
open Go.RowKit Go.AM
theorem Try.infoInt:(Try.prog.info? 3).map (fun i=>(i.zero,i.size,i.bytes))=some (some (.int .i64 0),1,8):=by kernel_rfl
theorem Try.indexFunc (k:Nat) (hrun:∀ args w,(callFunc k args).run Try.prog w=.ok (.enter k args) w) (caps:Array Value) (l:List Int) (v:Value) (hlen:l.length≤100000) (M:Mem) (hv:R M (.lst 3 1 none (cL l)) v) (I Q:Nat→World→Prop) (hI:∀ i w,I i w→Cons M w)
  (step:∀ i x w,l[i]? = some x→I i w→Calls Try.prog k (#[.int .i64 x]++caps) w fun e w'=>(e=.returned (.bool true)∧Q i w')∨(e=.returned (.bool false)∧I (i+1) w')) (w:World) (h0:I 0 w) :
  Calls Try.prog 88 #[v,.func (.func k) #[] caps] w fun e w'=>(∃ i:Nat,i<l.length∧e=.returned (.int .i64 i)∧Q i w')∨(e=.returned (.int .i64 (-1))∧I l.length w'):=by
 obtain⟨a,cap,rfl,hcell⟩:=QN hv;clear hv;have mixed:=mixedP;have t3:=Try.underlying3;have a3:=Try.isAgg3;have z3:=Try.sizeOf3;have v3:=Try.zeroValue3;have u3:=run_underlying Try.underlying3;have t4:=Try.underlying4;have a4:=Try.isAgg4;have z4:=Try.sizeOf4;have v4:=Try.zeroValue4;have t24:=Try.underlying24;have a24:=Try.isAgg24;have z24:=Try.sizeOf24;have v24:=Try.zeroValue24
 go_enter Try.func88,Try.ntmps88
 go_wp2
 go_loopw [8] (fun i wr=>∃ k:Nat,k≤l.length∧i=.int .i64 k∧I k wr) (fun i _=>l.length - (RowKit.intOf i).toNat)
 case atStart=>exact⟨0,Nat.zero_le _,rfl,h0⟩
 case round =>
  obtain⟨j,hj,rfl,hIj⟩:=hrel
  rcases Nat.lt_or_ge j l.length with h1 | h1
  ·obtain⟨b,off,rfl,hM⟩:=hcell j h1;have hc:wr.cell? ⟨b,off+j,none⟩=some (.int .i64 l[j]):=qu (hI _ _ hIj _ _ _ hM) rfl;have j0:(0:Int)≤(j:Int):=A8 _
   have j1:(j:Int)<(l.length:Int):=by omega
   have hs:=step j l[j] wr (B3 h1) hIj;clear hcell
   go_wp2_with fail
   refine hs.mono ?_
   rintro e w' (⟨rfl,hq⟩ | ⟨rfl,hq⟩)
   ·go_wp2
    go_ret
    exact .inl ⟨j,h1,rfl,hq⟩
   ·go_wp2
    go_roundw
    case rel=>exact⟨j+1,h1,by go_num,hq⟩
    case measure=>simp[RowKit.intOf];omega
  ·have hkl:j=l.length:=by omega
   subst hkl
   go_wp2
   go_ret
   exact .inr ⟨rfl,hIj⟩
end Go.Proofs
namespace Go.Proofs
open Go.RowKit Go.AM
theorem Try.run_append_int (w:World) (base:Nat) {g cap:Nat} {c:List Int} (x:Int) {ad:Addr} {c0:Nat} {ty:TypeId} (hown:w.ownsRow base 3 1 (.slice (some ⟨g,0,none⟩) c.length cap) c.length (intsV c)) (hx:w.cell? (ad.add 0)=some (.int .i64 x)) (hlen:c.length≤1000000) (hb:base≤w.heap.size) :
  ∃ g' cap' w',(Builtin.append_ #[24,24] ty #[.slice (some ⟨g,0,none⟩) c.length cap,.slice (some ad) 1 c0]).run Try.prog w=.ok (.slice (some ⟨g',0,none⟩) (c.length+1) cap') w'∧w'.ownsRow base 3 1 (.slice (some ⟨g',0,none⟩) (c.length+1) cap') (c.length+1) (intsV (c++[x])) ∧
   ((g'=g∧cap'=cap∧w.grownBy w' (some g))∨(g'=w.heap.size∧w.grownBy w' none)):=by
 obtain⟨i,hi,hz,hs1,hby⟩:=info_parts Try.infoInt
 have hnews:∀ (j:Nat) u,[Value.int .i64 x][j]? = some u→w.cell? (ad.add j)=some u:=by
  intro j u hj
  match j,hj with
  | 0,hj=>simp at hj;subst hj;exact hx
 have h1:∀ u,u∈[Value.int .i64 x]→u.oneCell'=true:=by intro u hu;simp at hu;subst hu;rfl
 have hap:intsV (c++[x])=intsV c++[.int .i64 x]:=by simp[intsV]
 rw[hap];by_cases hroom:c.length+1≤cap
 ·obtain⟨w',hr,ho,hg⟩:=run_append_fits (P:=Try.prog) w base 24 ty 3 i 1 Try.underlying24 hi hs1 g c.length cap (intsV c) hown ad 1 c0 [.int .i64 x] rfl hnews h1 hroom;exact⟨g,cap,w',hr,ho,.inl ⟨rfl,rfl,hg⟩⟩
 ·have hrow:=hown
  rcases hrow.2 with ⟨hv,h0⟩ | ⟨g',cap',cur,hv,hbg,hg,hnc,hcm,hcs,htake⟩
  ·cases hv
  ·cases hv;have holds:∀ (j:Nat) u,(intsV c)[j]? = some u→w.cell? ((⟨g,0,none⟩:Addr).add j)=some u:=hown.cells (g:=g) rfl;have hr:=run_append_grow (P:=Try.prog) w 24 ty 3 i (.int .i64 0) Try.underlying24 hi hz ⟨g,0,none⟩ c.length cap (intsV c) (by rw[hs1];exact hown.1) holds ad 1 c0 [.int .i64 x] (by rw[hs1];rfl) hnews (by omega) (by omega) (growslice_fits (by omega) (by rw[hby];omega));refine⟨_,_,_,hr,⟨by simp[intsV],.inr ⟨w.heap.size,_,_,rfl,hb,Go.heap_alloc_new w.drew _,grownCap_ge w (c.length+1) cap 3,grownCap_le_maxLen w (c.length+1) cap 3 (by unfold maxLen;omega),?_,?_⟩⟩,.inr ⟨rfl,⟨rfl,rfl,rfl,by simp,fun k hk _=>heap_alloc_old w.drew _ hk⟩⟩⟩
   ·have hge:=grownCap_ge w (c.length+1) cap 3;have hzs:(Value.int IntKind.i64 0).cells.size=1:=rfl;simp only[Array.size_append,List.size_toArray,size_zeroCells,hzs,List.length_map,List.length_cons,List.length_nil];omega
   ·simp only[Array.toList_append,List.append_assoc];rw[← List.append_assoc]
    have:(c.length+1) * 1=(intsV c++[Value.int .i64 x]).length:=by simp[intsV]
    rw[this];exact List.take_left
theorem Try.step_append_int {ops:Array Oper} {o:Oper} {a:Act} {w:World} {K:Act→World→Prop} {Q:Exit→Act→World→Prop} {Z:Prop} (s x:Operand) (ho:o.op=.call { callee:=.builtin .append,args:=#[s,x],argTypes:=#[24,24] }) (base:Nat) {g cap:Nat} {c:List Int} (t:Int) {ad:Addr} {c0:Nat}
  (hs:a.eval s=.slice (some ⟨g,0,none⟩) c.length cap) (hown:w.ownsRow base 3 1 (.slice (some ⟨g,0,none⟩) c.length cap) c.length (intsV c)) (hx:a.eval x=.slice (some ad) 1 c0) (hc:w.cell? (ad.add 0)=some (.int .i64 t)) (hlen:c.length≤1000000) (hb:base≤w.heap.size)
  (hw:B5 o (yielded ops a.tmps)=true)
  (h:∀ g' cap' w',w'.ownsRow base 3 1 (.slice (some ⟨g',0,none⟩) (c.length+1) cap') (c.length+1) (intsV (c++[t]))→((g'=g∧cap'=cap∧w.grownBy w' (some g))∨(g'=w.heap.size∧w.grownBy w' none))→K (a.put o.dst (.slice (some ⟨g',0,none⟩) (c.length+1) cap')) w') :
  if B5 o (yielded ops a.tmps)=true then Oper.wp Try.prog o a w K Q else Z:=by
 rw[if_pos hw];obtain⟨g',cap',w',hr,h2,h3⟩:=Try.run_append_int w base t (ty:=o.type) (c0:=c0) hown hc hlen hb;unfold Oper.wp execOp;simp only[ho,resolve,invoke,builtin,Sem.run_bind,Sem.run_pure,Result.andThen_ok,List.map_toArray,List.map_cons,List.map_nil,hs,hx,hr];exact h g' cap' w' h2 h3
structure GP (base:Nat) (w:World) (bf:Nat) (vc:Value) (c:List Int) (w':World):Prop where
 os:w'.os=w.os
 tape:w'.tape=w.tape
 output:w'.output=w.output
 size:w.heap.size≤w'.heap.size
 block:∀ k,k<w.heap.size→k≠bf→some k≠vc.ownBlock→w'.heap[k]? = w.heap[k]?
 own:w'.ownsRow base 3 1 vc c.length (intsV c)
 box:∃ fv,w'.heap[bf]? = some (.cells #[fv] 24 (0,0))
theorem Qm {w:World} {base bf:Nat} {fv vc:Value} {c:List Int} (hb:w.heap[bf]? = some (.cells #[fv] 24 (0,0))) (ho:w.ownsRow base 3 1 vc c.length (intsV c)):some bf≠vc.ownBlock:=by
 rcases ho.2 with ⟨rfl,_⟩ | ⟨g,cap,cur,rfl,_,hg,_⟩
 ·intro e;cases e
 ·intro e;simp only[Value.ownBlock,Option.some.injEq]at e;subst e;rw[hb]at hg;simp at hg
section
variable {base:Nat} {w w1 w2:World} {bf:Nat} {vc:Value} {c:List Int}
theorem GP.refl {fv:Value} (ho:w.ownsRow base 3 1 vc c.length (intsV c)) (hb:w.heap[bf]? = some (.cells #[fv] 24 (0,0))):GP base w bf vc c w:=⟨rfl,rfl,rfl,Nat.le_refl _,fun _ _ _ _=>rfl,ho,fv,hb⟩
theorem GP.below (h:GP base w bf vc c w1) (hB:Below w1.heap.size w1 w2):GP base w bf vc c w2:=by
 obtain⟨fv,hf⟩:=h.box;refine⟨hB.os.trans h.os,hB.tape.trans h.tape,hB.output.trans h.output,A6 h.size hB.size,fun k hk h1 h2=>?_,World.ownsRow.kept h.own (Ht hB) ?_,fv,?_⟩
 ·have:=h.size;rw[hB.block k (by omega),h.block k hk h1 h2]
 ·cases vc.ownBlock with
  | none=>exact .inl rfl
  | some k=>exact .inr (by intro e;cases e)
 ·rw[hB.block bf (lt_of_block hf)];exact hf
theorem GP.alloc (h:GP base w bf vc c w1) (o:Obj):GP base w bf vc c (w1.alloc o):=h.below ((Below.refl _ _).alloc (Nat.le_refl _) o)
theorem GP.drew (h:GP base w bf vc c w1):GP base w bf vc c w1.drew:=h.below ⟨rfl,rfl,rfl,Nat.le_refl _,fun _ _=>rfl⟩
theorem GP.trans (h:GP base w bf vc c w1) (k:GP base w1 bf vc c w2):GP base w bf vc c w2 :=
 ⟨k.os.trans h.os,k.tape.trans h.tape,k.output.trans h.output,A6 h.size k.size,fun j hj h1 h2=>by
  have:=h.size
  rw[k.block j (by omega) h1 h2,h.block j hj h1 h2],k.own,k.box⟩
theorem GP.cons {M:Mem} (h:GP base w bf vc c w1) (hC:Cons M w) (hf:∀ o,M bf o=none) (hv:∀ g,vc.ownBlock=some g→∀ o,M g o=none):Cons M w1 :=
 hC.of_blocks fun b o u hu hb=>h.block b hb (fun e=>by rw[e,hf]at hu;cases hu) (fun e=>by rw[hv b e.symm]at hu;cases hu)
theorem GP.back {t:Int} {g g' cap cap':Nat} {v3 w4:World} (h:GP base w bf (.slice (some ⟨g,0,none⟩) c.length cap) c v3)  {v4:World}
  (hap:(g'=g∧cap'=cap∧v3.grownBy v4 (some g))∨(g'=v3.heap.size∧v3.grownBy v4 none)) (hk:GP base v4 bf (.slice (some ⟨g',0,none⟩) (c.length+1) cap') (c++[t]) w4):GP base w bf (.slice (some ⟨g,0,none⟩) c.length cap) c w4:=by
 have hs:=h.size;have hgl:=(h.own.lt g rfl).2;obtain⟨fv,hf⟩:=h.box
 have hne:bf≠g:=fun e=>Qm hf h.own (by rw[e];rfl)
 rcases hap with ⟨rfl,rfl,hg⟩ | ⟨rfl,hg⟩
 ·refine⟨hk.os.trans (hg.os.trans h.os),hk.tape.trans (hg.tape.trans h.tape),hk.output.trans (hg.output.trans h.output),A6 hs (A6 hg.size hk.size),fun k hk1 hk2 hk3=>?_,?_,hk.box⟩
  ·have:=hg.size;rw[hk.block k (by omega) hk2 hk3,hg.block k (by omega) hk3,h.block k hk1 hk2 hk3]
  ·obtain⟨e1,e2⟩:=hk.own;refine⟨by simp[intsV],.inr ?_⟩
   rcases e2 with ⟨hv,_⟩ | ⟨g2,cap2,cur,hv,k1,k2,k3,k4,k5,k6⟩
   ·cases hv
   ·obtain⟨e3,e4⟩:g'=g2∧cap'=cap2:=by
     simp only[Value.slice.injEq,Option.some.injEq,Addr.mk.injEq]at hv;exact⟨hv.1.1,hv.2.2⟩
    subst e3;subst e4;rw[List.length_append,List.length_singleton]at k6;refine⟨g',cap',cur,rfl,k1,k2,by rw[List.length_append]at k3;simp at k3;omega,k4,k5,?_⟩;have h1:=congrArg (List.take c.length) k6;rw[List.take_take]at h1;rw[Nat.min_eq_left (by omega)]at h1;rw[Nat.mul_one,h1];simp[intsV]
 ·have hneq:g≠v3.heap.size:=by omega
  refine⟨hk.os.trans (hg.os.trans h.os),hk.tape.trans (hg.tape.trans h.tape),hk.output.trans (hg.output.trans h.output),A6 hs (A6 hg.size hk.size),fun k hk1 hk2 hk3=>?_,?_,hk.box⟩
  ·have:=hg.size;rw[hk.block k (by omega) hk2 (by intro e;simp[Value.ownBlock]at e;omega),hg.block k (by omega) (by intro e;cases e),h.block k hk1 hk2 hk3]
  ·obtain⟨e1,e2⟩:=h.own;refine⟨e1,?_⟩
   rcases e2 with ⟨hv,_⟩ | ⟨g2,cap2,cur,hv,k1,k2,k3⟩
   ·cases hv
   ·cases hv;have:=hg.size;exact .inr ⟨g,cap,cur,rfl,k1,by rw[hk.block g (by omega) (fun e=>hne e.symm) (by intro e;simp[Value.ownBlock]at e;omega),hg.block g (by omega) (by intro e;cases e)];exact k2,k3⟩
end
def Found (M:Mem) (w:World) (bf:Nat) (r:List Int) (w':World):Prop :=
 ∃ M' fv,Sub M M'∧Cons M' w'∧(∀ b o,b<w.heap.size→M' b o=M b o)∧w'.heap[bf]? = some (.cells #[fv] 24 (0,0))∧R M' (.lst 3 1 none (cL r)) fv
def DO (M:Mem) (base:Nat) (w:World) (bf:Nat) (vc:Value) (c:List Int) (res:Option (List Int)) (e:Ending) (w':World):Prop :=
 e=.returned (.bool res.isSome)∧GP base w bf vc c w'∧∀ r,res=some r→Found M w bf r w'
def growV (bf be bl bg:Nat):Value:=.func (.func 52) #[] #[.pointer (some ⟨bf,0,none⟩),.pointer (some ⟨be,0,none⟩),.pointer (some ⟨bl,0,none⟩),.pointer (some ⟨bg,0,none⟩)]
structure GE (M:Mem) (bf be bl bg:Nat) (E:Int→Int→Bool) (l:List Int):Prop where
 e:∃ mv,M be 0=some mv∧isTup mv=false∧∀ w,Cons M w→∀ a b,wfI .i64 a=true→wfI .i64 b=true→(Instr.lookup 67 mv (.agg #[.int .i64 a,.int .i64 b]) false).run Try.prog w=.ok (.bool (E a b)) w
 lv:∃ lv,M bl 0=some lv∧isTup lv=false∧R M (.lst 3 1 none (cL l)) lv
 g:M bg 0=some (growV bf be bl bg)
 f:∀ o,M bf o=none
 wf:∀ x,x∈l→wfI .i64 x=true
 len:l.length≤1000
def Grow52 (n:Nat):Prop:=∀ (E:Int→Int→Bool) (l c:List Int) (M:Mem) (w:World) (base bf be bl bg long:Nat) (vc:Value),GE M bf be bl bg E l→Cons M w→c≠[]→(∀ x,x∈c→wfI .i64 x=true)→c.length+n=long→long≤1000 →
 w.ownsRow base 3 1 vc c.length (intsV c)→(∀ g,vc.ownBlock=some g→∀ o,M g o=none)→(∃ fv,w.heap[bf]? = some (.cells #[fv] 24 (0,0)))→base≤w.heap.size →
 Calls Try.prog 52 #[vc,.int .i64 (long:Nat),.pointer (some ⟨bf,0,none⟩),.pointer (some ⟨be,0,none⟩),.pointer (some ⟨bl,0,none⟩),.pointer (some ⟨bg,0,none⟩)] w (DO M base w bf vc c (growF E l n c))
theorem Try.contains_own {w:World} {base:Nat} {v:Value} {c:List Int} {t:Int} (hl:c.length≤100000) (h:w.ownsRow base 3 1 v c.length (intsV c)):Calls Try.prog 39 #[v,.int .i64 t] w fun e w'=>e=.returned (.bool (c.contains t))∧Below w.heap.size w w':=by
 obtain⟨N,hN,hR,_⟩:=Yv h;refine (jg (QA c t _ (Zx hl t)) N w [v,.int .i64 t] (glob0 N) hN rfl (fun j a b ha hb=>?_)).mono ?_
 ·match j,ha,hb with
  | 0,ha,hb=>cases ha;cases hb;exact hR
  | 1,ha,hb=>cases ha;cases hb;exact .int _ _
 ·rintro e w' ⟨v',M',rfl,hB,_,_,_,hr,_⟩
  cases hr;exact⟨rfl,hB⟩
end Go.Proofs
namespace Go.Proofs
open Go.RowKit Go.AM
theorem Try.enter55:∀ args w,(callFunc 55 args).run Try.prog w=.ok (.enter 55 args) w:=fun args w=>by
 have h := Try.func55;have h1 : Try.f55.name ≠ "runtime.NumGoroutine" := of_decide_eq_true (by kernel_rfl)
 have h2:Try.f55.body≠none:=fun e=>absurd (show Try.f55.body.isNone=false by kernel_rfl) (by rw[e];decide)
 simp[callFunc,h,h1,h2]
theorem Try.enter52:∀ args w,(callFunc 52 args).run Try.prog w=.ok (.enter 52 args) w:=fun args w=>by
 have h := Try.func52;have h1 : Try.f52.name ≠ "runtime.NumGoroutine" := of_decide_eq_true (by kernel_rfl)
 have h2:Try.f52.body≠none:=fun e=>absurd (show Try.f52.body.isNone=false by kernel_rfl) (by rw[e];decide)
 simp[callFunc,h,h1,h2]
theorem Try.containsFunc (k:Nat) (hrun:∀ args w,(callFunc k args).run Try.prog w=.ok (.enter k args) w) (caps:Array Value) (l:List Int) (v:Value) (hlen:l.length≤100000) (M:Mem) (hv:R M (.lst 3 1 none (cL l)) v) (I Q:Nat→World→Prop) (hI:∀ i w,I i w→Cons M w)
  (step:∀ i x w,l[i]? = some x→I i w→Calls Try.prog k (#[.int .i64 x]++caps) w fun e w'=>(e=.returned (.bool true)∧Q i w')∨(e=.returned (.bool false)∧I (i+1) w')) (w:World) (h0:I 0 w) :
  Calls Try.prog 54 #[v,.func (.func k) #[] caps] w fun e w'=>(∃ i:Nat,i<l.length∧e=.returned (.bool true)∧Q i w')∨(e=.returned (.bool false)∧I l.length w'):=by
 have mixed:=mixedP;have t3:=Try.underlying3;have a3:=Try.isAgg3;have z3:=Try.sizeOf3;have v3:=Try.zeroValue3;have u3:=run_underlying Try.underlying3;have t4:=Try.underlying4;have a4:=Try.isAgg4;have z4:=Try.sizeOf4;have v4:=Try.zeroValue4;have hc:=Try.indexFunc k hrun caps l v hlen M hv I Q hI step w h0;clear hrun step hI hv h0
 go_enter Try.func54,Try.ntmps54
 go_wp2_with fail
 refine hc.mono ?_
 rintro e w' (⟨i,hi,rfl,hq⟩ | ⟨rfl,hq⟩)
 ·have i0:(0:Int)≤(i:Int):=A8 _
  go_wp2
  go_ret
  exact .inl ⟨i,hi,rfl,hq⟩
 ·go_wp2
  go_ret
  exact .inr ⟨rfl,hq⟩
theorem Qx {α β:Type} {f:α→Option β}:∀ {l:List α} {i:Nat} {x:α} {r:β},l[i]? = some x→(∀ j y,j<i→l[j]? = some y→f y=none)→f x=some r→l.findSome? f=some r
 | [],i,x,r,h,_,_=>by simp at h
 | a::l,0,x,r,h,_,hf=>by
  simp at h;subst h;rw[List.findSome?_cons,hf]
 | a::l,i+1,x,r,h,hn,hf=>by
  rw[List.findSome?_cons,hn 0 a (by omega) rfl];exact Qx (l:=l) (i:=i) (by simpa using h) (fun j y hj hy=>hn (j+1) y (by omega) (by simpa using hy)) hf
theorem Xf {α β:Type} {f:α→Option β} {l:List α} (h:∀ j y,j<l.length→l[j]? = some y→f y=none):l.findSome? f=none:=by
 rw[List.findSome?_eq_none_iff];intro x hx;obtain⟨j,hj⟩:=List.mem_iff_getElem?.1 hx;exact h j x (List.getElem?_eq_some_iff.1 hj).1 hj
def skipsOk (md:Region.Mode) (ops:Array Oper):List Nat→Array Bool→Act→Bool
 | [],_,_=>true
 | i::r,listed,a=>Region.free md ops listed i && (((Region.ready md ops listed).contains i) && (match ops[i]? with
  | some o=>!B5 o (yielded ops a.tmps) && skipsOk md ops r (listed.setIfInBounds i true) (a.put o.dst undef)
  | none=>false))
def skipL:List Nat→Array Bool→Array Bool
 | [],l=>l
 | i::r,l=>skipL r (l.setIfInBounds i true)
def skipA (ops:Array Oper):List Nat→Act→Act
 | [],a=>a
 | i::r,a=>skipA ops r (match ops[i]? with | some o=>a.put o.dst undef | none=>a)
theorem QB {P:Program} {ops:Array Oper} {Q:Exit→Act→World→Prop} {md:Region.Mode} {S:World→Prop} (hs:Region.noSelect ops=true) {w:World} (hS:S w) (hq:∀ c a d v w,Q (.panic c) (a.put d v) w→Q (.panic c) a w):∀ (L:List Nat) {fuel:Nat} {listed:Array Bool} {a:Act},skipsOk md ops L listed a=true →
  wpAnyH P md ops Q S fuel (skipL L listed) (skipA ops L a) w→wpAnyH P md ops Q S (fuel+L.length) listed a w
 | [],fuel,listed,a,_,h=>h
 | i::r,fuel,listed,a,hk,h=>by
  simp only[skipsOk,A7]at hk;obtain⟨h1,h2,h3⟩:=hk
  cases ho:ops[i]? with
  | none=>rw[ho]at h3;cases h3
  | some o =>
   rw[ho]at h3;simp only[A7,Bool.not_eq_true']at h3
   have h4:wpAnyH P md ops Q S fuel (skipL r (listed.setIfInBounds i true)) (skipA ops r (a.put o.dst undef)) w:=by
    have:skipA ops (i::r) a=skipA ops r (a.put o.dst undef):=by simp only[skipA,ho]
    rw[← this];exact h
   exact wpAnyH_take ho hs h1 h2 (fun c b w' hh=>hq _ _ _ _ _ hh) (Or.inr ⟨h3.1,rfl⟩) hS (QB hs hS hq r h3.2 h4)
theorem qbC {M:Mem} {base bf g g' cap cap' n:Nat} {w w2 w3:World} {c:List Int} (P2:GP base w bf (.slice (some ⟨g,0,none⟩) c.length cap) c w2) (C2:Cons M w2) (hMg:∀ o,M g o=none)
  (hap:(g'=g∧cap'=cap∧w2.grownBy w3 (some g))∨(g'=w2.heap.size∧w2.grownBy w3 none)) :
  Cons M w3∧(∀ g2,(Value.slice (some ⟨g',0,none⟩) n cap').ownBlock=some g2→∀ o,M g2 o=none)∧(∃ fv,w3.heap[bf]? = some (.cells #[fv] 24 (0,0)))∧w.heap.size≤w3.heap.size:=by
 obtain⟨fv,hf⟩:=P2.box
 have hne:bf≠g:=fun e=>Qm hf P2.own (by rw[e];rfl)
 have hs:=P2.size
 rcases hap with ⟨rfl,rfl,hg⟩ | ⟨rfl,hg⟩
 ·refine⟨C2.of_blocks fun b o u hu hb=>hg.block b hb (fun e=>by cases e;rw[hMg]at hu;cases hu),fun g2 h2 o=>?_,⟨fv,by rw[hg.block bf (lt_of_block hf) (fun e=>hne (by cases e;rfl))];exact hf⟩,A6 hs hg.size⟩;cases h2;exact hMg o
 ·refine⟨C2.of_blocks fun b o u hu hb=>hg.block b hb (fun e=>by cases e),fun g2 h2 o=>?_,⟨fv,by rw[hg.block bf (lt_of_block hf) (fun e=>by cases e)];exact hf⟩,A6 hs hg.size⟩;cases h2
  cases hm:M w2.heap.size o with
  | none=>rfl
  | some u =>
   have:=XV (C2 _ _ _ hm);omega
theorem Found.back {M:Mem} {w w3 w4:World} {bf:Nat} {r:List Int} (h:Found M w3 bf r w4) (hs:w.heap.size≤w3.heap.size):Found M w bf r w4:=by
 obtain⟨M',fv,h1,h2,h3,h4⟩:=h;exact⟨M',fv,h1,h2,fun b o hb=>h3 b o (by omega),h4⟩
set_option maxHeartbeats 4000000 in
theorem Try.step55 {n:Nat} (ih:Grow52 n) (E:Int→Int→Bool) (l c:List Int) (M:Mem) (w:World) (base bf be bl bg bc bt bn long:Nat) (vc:Value) (t:Int) (hG:GE M bf be bl bg E l) (hC:Cons M w) (hne:c≠[]) (hwc:∀ x,x∈c→wfI .i64 x=true) (hwt:wfI .i64 t=true)
  (hlong:c.length+(n+1)=long) (hl:long≤1000) (hown:w.ownsRow base 3 1 vc c.length (intsV c)) (hMv:∀ g,vc.ownBlock=some g→∀ o,M g o=none) (hbox:∃ fv,w.heap[bf]? = some (.cells #[fv] 24 (0,0))) (hb:base≤w.heap.size)
  (k1:M bc 0=some vc) (k2:M bt 0=some (.int .i64 (c.getLastD 0))) (k3:M bn 0=some (.int .i64 (long:Nat))) :
  Calls Try.prog 55 #[.int .i64 t,.pointer (some ⟨bc,0,none⟩),.pointer (some ⟨be,0,none⟩),.pointer (some ⟨bt,0,none⟩),.pointer (some ⟨bg,0,none⟩),.pointer (some ⟨bn,0,none⟩)] w (DO M base w bf vc c (stepF E l n c t)):=by
 obtain⟨mv,e1,e2,e3⟩:=hG.e;have hg:=hG.g;obtain⟨fv,hbox⟩:=hbox;have hpos:0<c.length:=List.length_pos_iff.2 hne
 have hclen:c.length≤1000:=by omega
 obtain⟨g,cap,rfl,hbg,hgl⟩:=hown.form hpos;have hlast:wfI .i64 (c.getLastD 0)=true:=hwc _ (by rw[B6,A9 hne];exact List.getLast_mem hne);generalize hla:c.getLastD 0=last at *
 have hE:=fun w' h=>e3 w' h last t hlast hwt
 have KS:∀ w',Cons M w'→w'.cell? ⟨bc,0,none⟩=some (.slice (some ⟨g,0,none⟩) c.length cap)∧w'.cell? ⟨be,0,none⟩=some mv∧w'.cell? ⟨bt,0,none⟩=some (.int .i64 last)∧w'.cell? ⟨bg,0,none⟩=some (.func (.func 52) #[] #[.pointer (some ⟨bf,0,none⟩),.pointer (some ⟨be,0,none⟩),.pointer (some ⟨bl,0,none⟩),.pointer (some ⟨bg,0,none⟩)])∧w'.cell? ⟨bn,0,none⟩=some (.int .i64 (long:Nat))∧(Instr.lookup 67 mv (.agg #[.int .i64 last,.int .i64 t]) false).run Try.prog w'=.ok (.bool (E last t)) w' :=
  fun w' h=>⟨qu (h _ _ _ k1) rfl,qu (h _ _ _ e1) e2,qu (h _ _ _ k2) rfl,qu (h _ _ _ hg) rfl,qu (h _ _ _ k3) rfl,hE w' h⟩
 have P0:GP base w bf (.slice (some ⟨g,0,none⟩) c.length cap) c w:=.refl hown hbox;have mixed:=mixedP;have t3:=Try.underlying3;have a3:=Try.isAgg3;have z3:=Try.sizeOf3;have v3:=Try.zeroValue3;have u3:=run_underlying Try.underlying3;have t4:=Try.underlying4;have a4:=Try.isAgg4;have z4:=Try.sizeOf4;have v4:=Try.zeroValue4;have t24:=Try.underlying24;have a24:=Try.isAgg24;have z24:=Try.sizeOf24;have v24:=Try.zeroValue24;have u24:=run_underlying Try.underlying24;have t55:=Try.underlying55;have a55:=Try.isAgg55;have z55:=Try.sizeOf55;have v55:=Try.zeroValue55;have t67:=Try.underlying67;have a67:=Try.isAgg67;have z67:=Try.sizeOf67;have v67:=Try.zeroValue67;have t73:=Try.underlying73;have a73:=Try.isAgg73;have z73:=Try.sizeOf73;have v73:=Try.zeroValue73;have u73:=run_underlying Try.underlying73
 have hct:Hid (∀ w1,w1.ownsRow base 3 1 (.slice (some ⟨g,0,none⟩) c.length cap) c.length (intsV c)→Calls Try.prog 39 #[.slice (some ⟨g,0,none⟩) c.length cap,.int .i64 t] w1 fun e w'=>e=.returned (.bool (c.contains t))∧Below w1.heap.size w1 w'):=fun w1 h=>Try.contains_own (by omega) h
 have hstep:stepF E l n c t=if c.contains t then none else if E last t then growF E l n (c++[t]) else none:=by unfold stepF;rw[hla]
 rw[hstep];clear hstep hE e3 hla hlast
 cases hcc:c.contains t with
 | true =>
  rw[hcc]at hct;have K0:=KS w.drew hC
  go_enter Try.func55,Try.ntmps55
  go_wp2
  refine wp_region_held_drew (S:=fun w'=>w'.cell? ⟨bc,0,none⟩=some (.slice (some ⟨g,0,none⟩) c.length cap)) (by kernel_rfl) K0.1 (fun hHeld=>?_);refine wpAnyH_take (i:=0) (v:=.slice (some ⟨g,0,none⟩) c.length cap) rfl (by kernel_rfl) (by kernel_rfl) (by kernel_rfl) (fun _ _ _ h=>h) (Or.inl ⟨by kernel_rfl,fun w' hw'=>?_⟩) hHeld ?_
  ·go_simp
  simp only[Act.put,A3,A4,A5,A0,A1,A2];refine wpAnyH_take (i:=1) (v:=.int .i64 t) rfl (by kernel_rfl) (by kernel_rfl) (by kernel_rfl) (fun _ _ _ h=>h) (Or.inl ⟨by kernel_rfl,fun w' hw'=>?_⟩) hHeld ?_
  ·go_simp
  simp only[Act.put,A3,A4,A5,A0,A1,A2];refine wpAnyH_ready (rs:=[2]) (by kernel_rfl) (by simp) (AllReadyH.cons rfl (fun K hK=>?_) AllReadyH.nil);rw[if_pos (by kernel_rfl)];go_simp
  go_at_call 39
  refine (hct.out _ P0.drew.own).mono ?_
  rintro e w1 ⟨rfl,hB⟩
  have C1:Cons M w1:=Cons.below (w:=w.drew) hC hB;have K1:=KS w1 C1
  go_wp2_with fail
  refine hK.out _ _ K1.1 (fun hHeld=>?_);clear hK K;refine wpAnyH_take (i:=3) (v:=.bool false) rfl (by kernel_rfl) (by kernel_rfl) (by kernel_rfl) (fun _ _ _ h=>h) (Or.inl ⟨by kernel_rfl,fun w' hw'=>?_⟩) hHeld ?_
  ·go_simp
  simp only[Act.put,A3,A4,A5,A0,A1,A2];refine wpAnyH_take (i:=4) (v:=.bool false) rfl (by kernel_rfl) (by kernel_rfl) (by kernel_rfl) (fun _ _ _ h=>h) (Or.inl ⟨by kernel_rfl,fun w' hw'=>?_⟩) hHeld ?_
  ·go_simp
  simp only[Act.put,A3,A4,A5,A0,A1,A2];refine QB (by kernel_rfl) hHeld (fun _ _ d _ _ h=>by cases d <;> exact h) [5,6,7,8,9] (fuel:=11) (by kernel_rfl) ?_;simp only[skipL,skipA,Act.put,B7,B8,D0,A0,A1,A2];refine wpAnyH_take (i:=10) (v:=.bool false) rfl (by kernel_rfl) (by kernel_rfl) (by kernel_rfl) (fun _ _ _ h=>h) (Or.inl ⟨by kernel_rfl,fun w' hw'=>?_⟩) hHeld ?_
  ·go_simp
  simp only[Act.put,A3,A4,A5,A0,A1,A2];refine wpAnyH_take (i:=11) (v:=.bool false) rfl (by kernel_rfl) (by kernel_rfl) (by kernel_rfl) (fun _ _ _ h=>h) (Or.inl ⟨by kernel_rfl,fun w' hw'=>?_⟩) hHeld ?_
  ·go_simp
  simp only[Act.put,A3,A4,A5,A0,A1,A2];refine QB (by kernel_rfl) hHeld (fun _ _ d _ _ h=>by cases d <;> exact h) [12,13,14,15,16,17,18] (fuel:=2) (by kernel_rfl) ?_;simp only[skipL,skipA,Act.put,B7,B8,D0,A0,A1,A2];refine wpAnyH_take (i:=19) (v:=.bool false) rfl (by kernel_rfl) (by kernel_rfl) (by kernel_rfl) (fun _ _ _ h=>h) (Or.inl ⟨by kernel_rfl,fun w' hw'=>?_⟩) hHeld ?_
  ·go_simp
  simp only[Act.put,A3,A4,A5,A0,A1,A2];refine wpAnyH_take (i:=20) (v:=.bool false) rfl (by kernel_rfl) (by kernel_rfl) (by kernel_rfl) (fun _ _ _ h=>h) (Or.inl ⟨by kernel_rfl,fun w' hw'=>?_⟩) hHeld ?_
  ·go_simp
  simp only[Act.put,A3,A4,A5,A0,A1,A2];refine wpAnyH_done (by kernel_rfl) ?_ _
  go_wp2
  go_ret
  exact⟨rfl,P0.drew.below hB,fun r h=>by cases h⟩
 | false =>
  rw[hcc]at hct
  cases hE1:E last t with
  | false =>
   rw[hE1]at KS;have K0:=KS w.drew hC
   go_enter Try.func55,Try.ntmps55
   go_wp2
   refine wp_region_held_drew (S:=fun w'=>w'.cell? ⟨bc,0,none⟩=some (.slice (some ⟨g,0,none⟩) c.length cap)∧w'.cell? ⟨be,0,none⟩=some mv∧w'.cell? ⟨bt,0,none⟩=some (.int .i64 last)∧(Instr.lookup 67 mv (.agg #[.int .i64 last,.int .i64 t]) false).run Try.prog w'=.ok (.bool false) w') (by kernel_rfl) ⟨K0.1,K0.2.1,K0.2.2.1,K0.2.2.2.2.2⟩ (fun hHeld=>?_);refine wpAnyH_take (i:=0) (v:=.slice (some ⟨g,0,none⟩) c.length cap) rfl (by kernel_rfl) (by kernel_rfl) (by kernel_rfl) (fun _ _ _ h=>h) (Or.inl ⟨by kernel_rfl,fun w' hw'=>?_⟩) hHeld ?_
   ·obtain⟨q0,q1,q2,q3⟩:=hw';go_simp
   simp only[Act.put,A3,A4,A5,A0,A1,A2];refine wpAnyH_take (i:=1) (v:=.int .i64 t) rfl (by kernel_rfl) (by kernel_rfl) (by kernel_rfl) (fun _ _ _ h=>h) (Or.inl ⟨by kernel_rfl,fun w' hw'=>?_⟩) hHeld ?_
   ·obtain⟨q0,q1,q2,q3⟩:=hw';go_simp
   simp only[Act.put,A3,A4,A5,A0,A1,A2];refine wpAnyH_ready (rs:=[2]) (by kernel_rfl) (by simp) (AllReadyH.cons rfl (fun K hK=>?_) AllReadyH.nil);rw[if_pos (by kernel_rfl)];go_simp
   go_at_call 39
   refine (hct.out _ P0.drew.own).mono ?_
   rintro e w1 ⟨rfl,hB⟩
   have C1:Cons M w1:=Cons.below (w:=w.drew) hC hB;have K1:=KS w1 C1
   go_wp2_with fail
   refine hK.out _ _ ⟨K1.1,K1.2.1,K1.2.2.1,K1.2.2.2.2.2⟩ (fun hHeld=>?_);clear hK K;refine wpAnyH_take (i:=3) (v:=.bool true) rfl (by kernel_rfl) (by kernel_rfl) (by kernel_rfl) (fun _ _ _ h=>h) (Or.inl ⟨by kernel_rfl,fun w' hw'=>?_⟩) hHeld ?_
   ·obtain⟨q0,q1,q2,q3⟩:=hw';go_simp
   simp only[Act.put,A3,A4,A5,A0,A1,A2];refine wpAnyH_take (i:=4) (v:=.bool true) rfl (by kernel_rfl) (by kernel_rfl) (by kernel_rfl) (fun _ _ _ h=>h) (Or.inl ⟨by kernel_rfl,fun w' hw'=>?_⟩) hHeld ?_
   ·obtain⟨q0,q1,q2,q3⟩:=hw';go_simp
   simp only[Act.put,A3,A4,A5,A0,A1,A2];refine wpAnyH_take (i:=5) (v:=mv) rfl (by kernel_rfl) (by kernel_rfl) (by kernel_rfl) (fun _ _ _ h=>h) (Or.inl ⟨by kernel_rfl,fun w' hw'=>?_⟩) hHeld ?_
   ·obtain⟨q0,q1,q2,q3⟩:=hw';go_simp
   simp only[Act.put,A3,A4,A5,A0,A1,A2];refine wpAnyH_take (i:=6) (v:=.int .i64 last) rfl (by kernel_rfl) (by kernel_rfl) (by kernel_rfl) (fun _ _ _ h=>h) (Or.inl ⟨by kernel_rfl,fun w' hw'=>?_⟩) hHeld ?_
   ·obtain⟨q0,q1,q2,q3⟩:=hw';go_simp
   simp only[Act.put,A3,A4,A5,A0,A1,A2];refine wpAnyH_take (i:=7) (v:=.int .i64 t) rfl (by kernel_rfl) (by kernel_rfl) (by kernel_rfl) (fun _ _ _ h=>h) (Or.inl ⟨by kernel_rfl,fun w' hw'=>?_⟩) hHeld ?_
   ·obtain⟨q0,q1,q2,q3⟩:=hw';go_simp
   simp only[Act.put,A3,A4,A5,A0,A1,A2];refine wpAnyH_take (i:=8) (v:=.agg #[.int .i64 last,.int .i64 t]) rfl (by kernel_rfl) (by kernel_rfl) (by kernel_rfl) (fun _ _ _ h=>h) (Or.inl ⟨by kernel_rfl,fun w' hw'=>?_⟩) hHeld ?_
   ·obtain⟨q0,q1,q2,q3⟩:=hw';go_simp
   simp only[Act.put,A3,A4,A5,A0,A1,A2];refine wpAnyH_take (i:=9) (v:=.bool false) rfl (by kernel_rfl) (by kernel_rfl) (by kernel_rfl) (fun _ _ _ h=>h) (Or.inl ⟨by kernel_rfl,fun w' hw'=>?_⟩) hHeld ?_
   ·obtain⟨q0,q1,q2,q3⟩:=hw';go_simp
   simp only[Act.put,A3,A4,A5,A0,A1,A2];refine wpAnyH_take (i:=10) (v:=.bool false) rfl (by kernel_rfl) (by kernel_rfl) (by kernel_rfl) (fun _ _ _ h=>h) (Or.inl ⟨by kernel_rfl,fun w' hw'=>?_⟩) hHeld ?_
   ·obtain⟨q0,q1,q2,q3⟩:=hw';go_simp
   simp only[Act.put,A3,A4,A5,A0,A1,A2];refine wpAnyH_take (i:=11) (v:=.bool false) rfl (by kernel_rfl) (by kernel_rfl) (by kernel_rfl) (fun _ _ _ h=>h) (Or.inl ⟨by kernel_rfl,fun w' hw'=>?_⟩) hHeld ?_
   ·obtain⟨q0,q1,q2,q3⟩:=hw';go_simp
   simp only[Act.put,A3,A4,A5,A0,A1,A2];refine QB (by kernel_rfl) hHeld (fun _ _ d _ _ h=>by cases d <;> exact h) [12,13,14,15,16,17,18] (fuel:=2) (by kernel_rfl) ?_;simp only[skipL,skipA,Act.put,B7,B8,D0,A0,A1,A2];refine wpAnyH_take (i:=19) (v:=.bool false) rfl (by kernel_rfl) (by kernel_rfl) (by kernel_rfl) (fun _ _ _ h=>h) (Or.inl ⟨by kernel_rfl,fun w' hw'=>?_⟩) hHeld ?_
   ·obtain⟨q0,q1,q2,q3⟩:=hw';go_simp
   simp only[Act.put,A3,A4,A5,A0,A1,A2];refine wpAnyH_take (i:=20) (v:=.bool false) rfl (by kernel_rfl) (by kernel_rfl) (by kernel_rfl) (fun _ _ _ h=>h) (Or.inl ⟨by kernel_rfl,fun w' hw'=>?_⟩) hHeld ?_
   ·obtain⟨q0,q1,q2,q3⟩:=hw';go_simp
   simp only[Act.put,A3,A4,A5,A0,A1,A2];refine wpAnyH_done (by kernel_rfl) ?_ _
   go_wp2
   go_ret
   exact⟨rfl,P0.drew.below hB,fun r h=>by cases h⟩
  | true =>
   rw[hE1]at KS;have K0:=KS w.drew hC
   have hwf2:∀ x,x∈c++[t]→wfI .i64 x=true:=fun x hx=>by
    rcases List.mem_append.1 hx with h | h
    ·exact hwc x h
    ·rw[List.mem_singleton.1 h];exact hwt
   obtain⟨b9,hb9⟩:∃ b9,b9=(growF E l n (c++[t])).isSome:=⟨_,rfl⟩
   have hgr:Hid (∀ w4 vc2,Cons M w4→w4.ownsRow base 3 1 vc2 (c.length+1) (intsV (c++[t]))→(∀ g,vc2.ownBlock=some g→∀ o,M g o=none)→(∃ fv,w4.heap[bf]? = some (.cells #[fv] 24 (0,0)))→base≤w4.heap.size →
     Calls Try.prog 52 #[vc2,.int .i64 (long:Nat),.pointer (some ⟨bf,0,none⟩),.pointer (some ⟨be,0,none⟩),.pointer (some ⟨bl,0,none⟩),.pointer (some ⟨bg,0,none⟩)] w4 fun e w'=>e=.returned (.bool b9)∧GP base w4 bf vc2 (c++[t]) w'∧∀ r,growF E l n (c++[t])=some r→Found M w4 bf r w') :=
    fun w4 vc2 h1 h2 h3 h4 h5=>ih E l (c++[t]) M w4 base bf be bl bg long vc2 hG h1 (by simp) hwf2 (by simp;omega) hl (by simpa using h2) h3 h4 h5 |>.mono fun e w' h=>⟨by rw[hb9];exact h.1,h.2⟩
   have hMg:=hMv g rfl;have en52:=Try.enter52;clear ih hwf2 hwc
   go_enter Try.func55,Try.ntmps55
   go_wp2
   go_region_held3 (fun w'=>w'.cell? ⟨bc,0,none⟩=some (.slice (some ⟨g,0,none⟩) c.length cap)∧w'.cell? ⟨be,0,none⟩=some mv∧w'.cell? ⟨bt,0,none⟩=some (.int .i64 last)∧w'.cell? ⟨bg,0,none⟩=some (.func (.func 52) #[] #[.pointer (some ⟨bf,0,none⟩),.pointer (some ⟨be,0,none⟩),.pointer (some ⟨bl,0,none⟩),.pointer (some ⟨bg,0,none⟩)])∧w'.cell? ⟨bn,0,none⟩=some (.int .i64 (long:Nat))∧(Instr.lookup 67 mv (.agg #[.int .i64 last,.int .i64 t]) false).run Try.prog w'=.ok (.bool true) w')
    (first | exact K0 | exact K1 | exact KS _ (C1.alloc _) | exact KS _ A.1 | exact K4)
    (first
     | (go_at_call 39;refine (hct.out _ P0.drew.own).mono ?_;rintro e w1 ⟨rfl,hB⟩;have C1:Cons M w1:=Cons.below (w:=w.drew) hC hB;have P1:=P0.drew.below hB;have K1:=KS w1 C1)
     | (refine Try.step_append_int (.tmp 21) (.tmp 23) (by rfl) base t (by rfl) (P1.alloc _).own (by rfl) (by simp[jA]) (by omega) (by have:=P1.size;simp;omega) (by rfl) ?_;intro g' cap' w3 ho3 hap;have A:=qbC (n:=c.length+1) (P1.alloc _) (C1.alloc _) hMg hap)
     | (go_at_call 52;refine (hgr.out w3 _ A.1 ho3 A.2.1 A.2.2.1 (A6 hb A.2.2.2)).mono ?_;rintro e w4 ⟨rfl,hP4,hF4⟩;have K4:=KS w4 (hP4.cons A.1 hG.f A.2.1)))
   all_goals go_wp2
   all_goals go_ret
   all_goals exact⟨by simp[hb9],GP.back (P1.alloc _) hap hP4,fun r hr=>(hF4 r (by simpa using hr)).back A.2.2.2⟩
end Go.Proofs
namespace Go.Proofs
open Go.RowKit Go.AM
theorem Try.clone_own {w:World} {base:Nat} {v:Value} {c:List Int} (hl:c.length≤100000) (hne:c≠[]) (h:w.ownsRow base 3 1 v c.length (intsV c)) :
  Calls Try.prog 53 #[v] w fun e w'=>∃ u N,e=.returned u∧Below w.heap.size w w'∧(∀ b o,b<w.heap.size→N b o=none)∧Cons N w'∧R N (.lst 3 1 none (cL c)) u:=by
 obtain⟨N,hN,hR,_⟩:=Yv h
 have hcap:jN c=some c:=by
  unfold jN
  have:capOk 8 (0+c.length)=true:=by
   simp only[capOk,A7,Nat.ble_eq];omega
  rw[this];rfl
 have hrun:=Xn mixedP (Qs c c hcap);refine (hrun.1 N ⟨fun _ _=>none,fun _=>0,fun _=>0⟩ w [v] (glob0 N) hN rfl (fun i c g hh=>by cases hh) (fun c c' g hh=>by cases hh) (fun j a b ha hb=>?_) (fun id x hx=>by cases hx)).mono ?_
 ·match j,ha,hb with
  | 0,ha,hb=>cases ha;cases hb;exact⟨hR,trivial⟩
 ·rintro e w' ⟨u,M',O',rfl,hB,_,hC',_,hO,_,_,hv,hs⟩
  have ho:=hs 1900000 _ rfl;obtain⟨q1,q2⟩:=hv;obtain⟨k0,k1,k2,k3⟩:=ho;have hpos:0<c.length:=List.length_pos_iff.2 hne
  rcases q2 with ⟨h0,_⟩ | ⟨g,cap,rfl,p1,p2,p3,p4⟩
  ·omega
  rcases k3 with ⟨h0,_⟩ | ⟨g',cur,r1,r2,r3,r4,r5,r6⟩
  ·exact absurd (List.map_eq_nil_iff.1 h0) hne
  have hgg:g'=g:=by rw[p1]at r1;exact (Option.some.inj r1).symm
  subst hgg
  have hge:w.heap.size≤g':=by
   rcases (hO true 1900000 g' p1).2 with h | ⟨_,h⟩
   ·exact h
   ·cases h
  obtain⟨el,fz,hb,_⟩:=r2
  have r4':c.length≤cur.size:=by simpa using r4
  have hcell:∀ j (hj:j<c.length),cur[j]? = some (.int .i64 c[j]):=fun j hj=>by
   have hjc:j<cur.size:=by omega
   have h1:=r6 j (.int .i64 c[j]) cur[j] (by rw[XK];simp[hj]) (by simp[hjc]);rw[Array.getElem?_eq_getElem hjc,h1.int_inv]
  refine⟨_,fun b o=>if b=g' then (c[o]?).map (Value.int .i64) else none,rfl,⟨hB.os,hB.tape,hB.output,hB.size,fun k hk=>hB.block k ⟨hk,fun _ hh=>by cases hh⟩⟩,fun b o hb=>?_,fun b o u hu=>?_,?_⟩
  ·have:b≠g':=by omega
   simp[this]
  ·simp only at hu;split at hu
   ·rename_i e;subst e
    cases hco:c[o]? with
    | none=>rw[hco]at hu;cases hu
    | some x =>
     rw[hco]at hu;cases hu;obtain⟨hj,rfl⟩:=List.getElem?_eq_some_iff.1 hco;unfold mc;rw[hb];exact qW (hcell o hj) rfl
   ·cases hu
  ·refine Hh (off:=0 * 1) p3 fun j hj=>?_
   simp[hj]
theorem qaK {c:List Int} (hne:c≠[]):c[c.length - 1]? = some (c.getLastD 0):=by
 rw[← List.getLast?_eq_getElem?,A9 hne,B6,A9 hne];rfl
theorem VP {w:World} {base g cap:Nat} {c:List Int} (h:w.ownsRow base 3 1 (.slice (some ⟨g,0,none⟩) c.length cap) c.length (intsV c)) {j:Nat} {x:Int} (hx:c[j]? = some x):w.cell? ⟨g,j,none⟩=some (.int .i64 x):=by
 have:=h.cells (g:=g) rfl j (.int .i64 x) (by simp[intsV,hx])
 rwa [jA,Nat.zero_add]at this
theorem GP.store {base:Nat} {w w1:World} {bf:Nat} {vc:Value} {c:List Int} (h:GP base w bf vc c w1) (u:Value):GP base w bf vc c (w1.setCell ⟨bf,0,none⟩ u):=by
 obtain⟨fv,hf⟩:=h.box;refine⟨h.os,h.tape,h.output,by simpa[World.setCell] using h.size,fun k hk h1 h2=>?_,ownsRow_setCell_other h.own (fun e=>Qm hf h.own e.symm) u,u,one_setCell hf⟩;rw[Below.heap_setCell _ _ _ _ h1,h.block k hk h1 h2]
def mjoin (M N:Mem) (B:Nat):Mem:=fun b o=>if b<B then M b o else N b o
theorem qbj {M N:Mem} {w:World} {B:Nat} (hC:Cons M w) (hB:w.heap.size≤B):Sub M (mjoin M N B):=fun b o u hu=>by
 have:=XV (hC _ _ _ hu);unfold mjoin;rw[if_pos (by omega)];exact hu
theorem qat {M N:Mem} {B:Nat} (hN:∀ b o,b<B→N b o=none):Sub N (mjoin M N B):=fun b o u hu=>by
 unfold mjoin;split
 ·rename_i h;rw[hN b o h]at hu;cases hu
 ·exact hu
theorem qau {M N:Mem} {w:World} {B:Nat} (hM:Cons M w) (hN:Cons N w):Cons (mjoin M N B) w:=fun b o u hu=>by
 unfold mjoin at hu;split at hu
 ·exact hM _ _ _ hu
 ·exact hN _ _ _ hu
theorem qbk {M N:Mem} {B b o:Nat} (h:b<B):mjoin M N B b o=M b o:=by unfold mjoin;rw[if_pos h]
set_option maxHeartbeats 4000000 in
theorem Try.grow52:∀ n,Grow52 n:=by
 intro n
 induction n with
 | zero =>
  intro E l c M w base bf be bl bg long vc hG hC hne hwc hlong hl hown hMv hbox hb;obtain⟨mv,e1,e2,e3⟩:=hG.e;obtain⟨fv,hbox⟩:=hbox;have hpos:0<c.length:=List.length_pos_iff.2 hne;obtain⟨g,cap,rfl,hbg,hgl⟩:=hown.form hpos
  have hlc:c.length=long:=by omega
  subst hlc;have hlast:wfI .i64 (c.getLastD 0)=true:=hwc _ (by rw[B6,A9 hne];exact List.getLast_mem hne);have hfst:wfI .i64 (c.headD 0)=true:=hwc _ (by cases c with | nil=>exact absurd rfl hne | cons a r=>simp)
  have hE:=fun w' h=>e3 w' h (c.getLastD 0) (c.headD 0) hlast hfst
  obtain⟨res,hres⟩:∃ res,res=growF E l 0 c:=⟨_,rfl⟩;rw[← hres]
  have hgf:res=if E (c.getLastD 0) (c.headD 0) then some c else none:=hres
  have HR:=(show Hid _ from hgf);clear hres hgf
  have hc0:c[0]? = some (c.headD 0):=by cases c with | nil=>exact absurd rfl hne | cons a r=>rfl
  have hc1:=qaK hne;have bflt:=lt_of_block hbox;obtain⟨m,hm⟩:∃ m,c.length=m+1:=⟨c.length - 1,by omega⟩
  have f1:IntKind.i64.wrap ((c.length:Int) - 1)=(m:Int):=by rw[Xy (by omega) (by omega)];omega
  have m0:(0:Int)≤(m:Int):=A8 _
  have m1:(m:Int)<(c.length:Int):=by omega
  have hc1:c[m]? = some (c.getLastD 0):=by rw[← hc1];congr 1;omega
  have P1:GP base w bf (.slice (some ⟨g,0,none⟩) c.length cap) c ((w.alloc (.cells #[.slice (some ⟨g,0,none⟩) c.length cap] 24)).alloc (.cells #[.int .i64 (c.length:Nat)] 3)):=((GP.refl hown hbox).alloc _).alloc _;have b1:((w.alloc (.cells #[.slice (some ⟨g,0,none⟩) c.length cap] 24)).alloc (.cells #[.int .i64 (c.length:Nat)] 3)).cell? ⟨g,m,none⟩=some (.int .i64 (c.getLastD 0)):=VP P1.own hc1;have HM:=(show Hid _ from hm)
  have l0:(0:Int)<(c.length:Int):=by omega
  clear hm;generalize c.getLastD 0=last at *;generalize c.headD 0=fst at *;obtain⟨w3,ew3⟩:∃ w3,w3=((w.alloc (.cells #[.slice (some ⟨g,0,none⟩) c.length cap] 24)).alloc (.cells #[.int .i64 (c.length:Nat)] 3)).alloc (.cells #[.int .i64 last] 3):=⟨_,rfl⟩
  have P3:GP base w bf (.slice (some ⟨g,0,none⟩) c.length cap) c w3:=by rw[ew3];exact P1.alloc _
  have a6:w3.heap[w.heap.size]? = some (.cells #[.slice (some ⟨g,0,none⟩) c.length cap] 24 (0,0)):=by rw[ew3,heap_alloc_old _ _ (by simp;omega),heap_alloc_old _ _ (by simp)];exact heap_alloc_new _ _
  have a9:w3.heap[w.heap.size+1+1]? = some (.cells #[.int .i64 last] 3 (0,0)):=by rw[ew3];have:=heap_alloc_new ((w.alloc (.cells #[.slice (some ⟨g,0,none⟩) c.length cap] 24)).alloc (.cells #[.int .i64 (c.length:Nat)] 3)) (.cells #[.int .i64 last] 3);simpa using this
  have C3:Cons M w3:=by rw[ew3];exact ((hC.alloc _).alloc _).alloc _
  have HW:=(show Hid (w3=_) from ew3);have hclo:=Try.clone_own (base:=base) (by omega) hne P3.own;rw[ew3]at hclo;clear ew3;have mixed:=mixedP;have t3:=Try.underlying3;have a3:=Try.isAgg3;have z3:=Try.sizeOf3;have v3:=Try.zeroValue3;have u3:=run_underlying Try.underlying3;have t4:=Try.underlying4;have a4:=Try.isAgg4;have z4:=Try.sizeOf4;have v4:=Try.zeroValue4;have t24:=Try.underlying24;have a24:=Try.isAgg24;have z24:=Try.sizeOf24;have v24:=Try.zeroValue24;have u24:=run_underlying Try.underlying24;have t55:=Try.underlying55;have a55:=Try.isAgg55;have z55:=Try.sizeOf55;have v55:=Try.zeroValue55;have t67:=Try.underlying67;have a67:=Try.isAgg67;have z67:=Try.sizeOf67;have v67:=Try.zeroValue67;have t73:=Try.underlying73;have a73:=Try.isAgg73;have z73:=Try.sizeOf73;have v73:=Try.zeroValue73;have u73:=run_underlying Try.underlying73;have HE:=(show Hid _ from hE);have HG:=(show Hid _ from hG);have HC:=(show Hid _ from hclo);have HP:=(show Hid _ from P3);have Ha6:=(show Hid _ from a6);have Ha9:=(show Hid _ from a9);clear hE e3 hG hclo P1 P3 a6 a9
  go_enter Try.func52,Try.ntmps52
  go_wp2_with fail
  refine Calls.mono HC.out ?_;rw[← HW.out]
  rintro e w2 ⟨u,N,rfl,hB,hN1,hN2,hN3⟩
  obtain⟨au,cu,rfl,hN4⟩:=QN hN3;have P4:=HP.out.below hB;obtain⟨fv4,hb4⟩:=P4.box;have d1:=free_of_one hb4;have d2:=cell_of_one hb4;have hs3:=HP.out.size;have g6:=lt_of_block Ha6.out;have g9:=lt_of_block Ha9.out;have hC2:Cons M (w2.setCell ⟨bf,0,none⟩ (.slice au c.length cu)):=(C3.below hB).setCell HG.out.f _
  have hgb:bf≠g:=fun e=>Qm hb4 P4.own (by rw[e];rfl)
  have k6:(w2.setCell ⟨bf,0,none⟩ (.slice au c.length cu)).cell? ⟨w.heap.size,0,none⟩=some (.slice (some ⟨g,0,none⟩) c.length cap):=by
   refine cell_of_one (t:=24) ?_;rw[Below.heap_setCell _ _ _ _ (by simp;omega),hB.block _ g6];exact Ha6.out
  have k9:(w2.setCell ⟨bf,0,none⟩ (.slice au c.length cu)).cell? ⟨w.heap.size+1+1,0,none⟩=some (.int .i64 last):=by
   refine cell_of_one (t:=3) ?_;rw[Below.heap_setCell _ _ _ _ (by simp;omega),hB.block _ g9];exact Ha9.out
  have ke:(w2.setCell ⟨bf,0,none⟩ (.slice au c.length cu)).cell? ⟨be,0,none⟩=some mv:=qu (hC2 _ _ _ e1) e2
  have kg:(w2.setCell ⟨bf,0,none⟩ (.slice au c.length cu)).cell? ⟨g,0,none⟩=some (.int .i64 fst):=by
   rw[World.cell?_setCell_far _ _ _ _ (by simpa using hgb)];exact VP P4.own hc0
  have kl:=HE.out _ hC2;have hb5:=one_setCell (u:=.slice au c.length cu) hb4
  go_wp2
  go_region_held3 (fun w'=>w'.cell? ⟨w.heap.size,0,none⟩=some (.slice (some ⟨g,0,none⟩) c.length cap)∧w'.cell? ⟨w.heap.size+1+1,0,none⟩=some (.int .i64 last)∧w'.cell? ⟨be,0,none⟩=some mv∧w'.cell? ⟨g,0,none⟩=some (.int .i64 fst)∧(Instr.lookup 67 mv (.agg #[.int .i64 last,.int .i64 fst]) false).run Try.prog w'=.ok (.bool (E last fst)) w')
   (first | exact⟨k6,k9,ke,kg,HE.out _ hC2⟩) (fail)
  all_goals go_wp2
  all_goals go_ret
  all_goals refine⟨by rw[HR.out];cases E last fst <;> rfl,(P4.store _).drew,fun r hr=>?_⟩
  all_goals
   have hrc:r=c:=by
    rw[HR.out]at hr;split at hr
    ·exact (Option.some.inj hr).symm
    ·cases hr
   subst hrc;have hN5:∀ b o,b<w3.heap.size→N b o=none:=hN1;exact⟨mjoin M N w3.heap.size,_,qbj hC hs3,qau (M:=M) hC2 (hN2.setCell (fun o=>hN5 bf o (by omega)) _),fun b o hb=>qbk (by omega),hb5,hN3.mono (qat hN5)⟩
 | succ n ih =>
  intro E l c M w base bf be bl bg long vc hG hC hne hwc hlong hl hown hMv hbox hb;obtain⟨lv,q1,q2,q3⟩:=hG.lv;obtain⟨fv,hbox⟩:=hbox;have hpos:0<c.length:=List.length_pos_iff.2 hne;obtain⟨g,cap,rfl,hbg,hgl⟩:=hown.form hpos;have hgf:growF E l (n+1) c=l.findSome? (stepF E l n c):=rfl;rw[hgf];have hc1:=qaK hne;have bflt:=lt_of_block hbox;obtain⟨m,hm⟩:∃ m,c.length=m+1:=⟨c.length - 1,by omega⟩
  have f1:IntKind.i64.wrap ((c.length:Int) - 1)=(m:Int):=by rw[Xy (by omega) (by omega)];omega
  have m0:(0:Int)≤(m:Int):=A8 _
  have m1:(m:Int)<(c.length:Int):=by omega
  obtain⟨last,hla⟩:∃ last,last=c.getLastD 0:=⟨_,rfl⟩
  have hc1:c[m]? = some last:=by rw[hla,← hc1];congr 1;omega
  have P1:GP base w bf (.slice (some ⟨g,0,none⟩) c.length cap) c ((w.alloc (.cells #[.slice (some ⟨g,0,none⟩) c.length cap] 24)).alloc (.cells #[.int .i64 (long:Nat)] 3)):=((GP.refl hown hbox).alloc _).alloc _;have b1:((w.alloc (.cells #[.slice (some ⟨g,0,none⟩) c.length cap] 24)).alloc (.cells #[.int .i64 (long:Nat)] 3)).cell? ⟨g,m,none⟩=some (.int .i64 last):=VP P1.own hc1;have HM:=(show Hid _ from hm)
  have l0:(c.length:Int)≠(long:Int):=by omega
  have l1:((c.length:Int) == (long:Int))=false:=by simpa using l0
  clear hm;obtain⟨w3,ew3⟩:∃ w3,w3=((w.alloc (.cells #[.slice (some ⟨g,0,none⟩) c.length cap] 24)).alloc (.cells #[.int .i64 (long:Nat)] 3)).alloc (.cells #[.int .i64 last] 3):=⟨_,rfl⟩
  have P3:GP base w bf (.slice (some ⟨g,0,none⟩) c.length cap) c w3:=by rw[ew3];exact P1.alloc _
  have a6:w3.heap[w.heap.size]? = some (.cells #[.slice (some ⟨g,0,none⟩) c.length cap] 24 (0,0)):=by rw[ew3,heap_alloc_old _ _ (by simp;omega),heap_alloc_old _ _ (by simp)];exact heap_alloc_new _ _
  have a7:w3.heap[w.heap.size+1]? = some (.cells #[.int .i64 (long:Nat)] 3 (0,0)):=by rw[ew3,heap_alloc_old _ _ (by simp)];have:=heap_alloc_new (w.alloc (.cells #[.slice (some ⟨g,0,none⟩) c.length cap] 24)) (.cells #[.int .i64 (long:Nat)] 3);simpa using this
  have a9:w3.heap[w.heap.size+1+1]? = some (.cells #[.int .i64 last] 3 (0,0)):=by rw[ew3];have:=heap_alloc_new ((w.alloc (.cells #[.slice (some ⟨g,0,none⟩) c.length cap] 24)).alloc (.cells #[.int .i64 (long:Nat)] 3)) (.cells #[.int .i64 last] 3);simpa using this
  have C3:Cons M w3:=by rw[ew3];exact ((hC.alloc _).alloc _).alloc _
  have hlv:((w.alloc (.cells #[.slice (some ⟨g,0,none⟩) c.length cap] 24)).alloc (.cells #[.int .i64 (long:Nat)] 3)).cell? ⟨bl,0,none⟩=some lv:=qu (((hC.alloc _).alloc _) _ _ _ q1) q2;have hlv3:w3.cell? ⟨bl,0,none⟩=some lv:=qu (C3 _ _ _ q1) q2;obtain⟨M3,eM3⟩:∃ M3,M3=madd (madd (madd M w.heap.size (.slice (some ⟨g,0,none⟩) c.length cap)) (w.heap.size+1) (.int .i64 (long:Nat))) (w.heap.size+1+1) (.int .i64 last):=⟨_,rfl⟩
  have hold:∀ b o,b<w.heap.size→M3 b o=M b o:=fun b o hb=>by rw[eM3,qY (by omega),qY (by omega),qY (by omega)]
  have k1:M3 w.heap.size 0=some (.slice (some ⟨g,0,none⟩) c.length cap):=by rw[eM3,qY (by omega),qY (by omega),Yz]
  have k2:M3 (w.heap.size+1+1) 0=some (.int .i64 (c.getLastD 0)):=by rw[eM3,Yz,hla]
  have k3:M3 (w.heap.size+1) 0=some (.int .i64 (long:Nat)):=by rw[eM3,qY (by omega),Yz]
  have C33:Cons M3 w3:=by rw[eM3];exact QK (QK (QK C3 a6 rfl rfl) a7 rfl rfl) a9 rfl rfl
  have hsub:Sub M M3:=fun b o u hu=>by rw[hold b o (XV (hC _ _ _ hu))];exact hu
  have hG3:GE M3 bf be bl bg E l:=by
   obtain⟨mv,e1,e2,e3⟩:=hG.e;exact⟨⟨mv,hsub _ _ _ e1,e2,fun w' h=>e3 w' fun b o u hu=>h _ _ _ (hsub _ _ _ hu)⟩,⟨lv,hsub _ _ _ q1,q2,q3.mono hsub⟩,hsub _ _ _ hG.g,fun o=>by rw[hold bf o bflt];exact hG.f o,hG.wf,hG.len⟩
  have hMv3:∀ g2,(Value.slice (some ⟨g,0,none⟩) c.length cap).ownBlock=some g2→∀ o,M3 g2 o=none:=fun g2 h2 o=>by
   have h3:=hMv g2 h2 o;cases h2;rw[hold g o hgl];exact h3
  have hst:=fun t w' hwt hC' ho' hb' hsz=>Try.step55 ih E l c M3 w' base bf be bl bg w.heap.size (w.heap.size+1+1) (w.heap.size+1) long (.slice (some ⟨g,0,none⟩) c.length cap) t hG3 hC' hne hwc hwt hlong hl ho' hMv3 hb' hsz k1 k2 k3
  have hs3:=P3.size;have hcon:=Try.containsFunc 55 Try.enter55 #[.pointer (some ⟨w.heap.size,0,none⟩),.pointer (some ⟨be,0,none⟩),.pointer (some ⟨w.heap.size+1+1,0,none⟩),.pointer (some ⟨bg,0,none⟩),.pointer (some ⟨w.heap.size+1,0,none⟩)] l lv (by have:=hG.len;omega) M3 (q3.mono hsub)
   (fun i w'=>Cons M3 w'∧GP base w3 bf (.slice (some ⟨g,0,none⟩) c.length cap) c w'∧∀ j y,j<i→l[j]? = some y→stepF E l n c y=none)
   (fun i w'=>∃ x r,l[i]? = some x∧(∀ j y,j<i→l[j]? = some y→stepF E l n c y=none)∧stepF E l n c x=some r∧GP base w3 bf (.slice (some ⟨g,0,none⟩) c.length cap) c w'∧Found M3 w3 bf r w')
   (fun i w' h=>h.1)
   (fun i x w' hx ⟨h1,h2,h3⟩=>(hst x w' (hG.wf x (List.mem_of_getElem? hx)) h1 h2.own h2.box (by have:=h2.size;omega)).mono fun e w4 ⟨e1,e2,e3⟩=>by
    cases hr:stepF E l n c x with
    | none =>
     rw[hr]at e1
     exact .inr ⟨e1,e2.cons h1 hG3.f hMv3,h2.trans e2,fun j y hj hy=>by
      rcases Nat.lt_succ_iff_lt_or_eq.1 hj with hj | rfl
      ·exact h3 j y hj hy
      ·rw[hx]at hy;cases hy;exact hr⟩
    | some r =>
     rw[hr]at e1
     exact .inl ⟨e1,x,r,hx,h3,hr,h2.trans e2,(e3 r hr).back h2.size⟩)
   w3 ⟨C33,.refl P3.own P3.box.choose_spec,fun j y hj=>absurd hj (Nat.not_lt_zero _)⟩
  have HW:=(show Hid (w3=_) from ew3);rw[ew3]at hcon hlv3;have HC:=(show Hid _ from hcon);have HP:=(show Hid _ from P3);have HG:=(show Hid _ from hG3);have HO:=(show Hid _ from hold);have HS:=(show Hid _ from hsub);clear hcon ew3 P3 hG3 hG hold hsub hst a6 a7 a9 P1 hMv hMv3 eM3 hla k2;have mixed:=mixedP;have t3:=Try.underlying3;have a3:=Try.isAgg3;have z3:=Try.sizeOf3;have v3:=Try.zeroValue3;have u3:=run_underlying Try.underlying3;have t4:=Try.underlying4;have a4:=Try.isAgg4;have z4:=Try.sizeOf4;have v4:=Try.zeroValue4;have t24:=Try.underlying24;have a24:=Try.isAgg24;have z24:=Try.sizeOf24;have v24:=Try.zeroValue24;have u24:=run_underlying Try.underlying24;have t55:=Try.underlying55;have a55:=Try.isAgg55;have z55:=Try.sizeOf55;have v55:=Try.zeroValue55;have t75:=Try.underlying75;have a75:=Try.isAgg75;have z75:=Try.sizeOf75;have v75:=Try.zeroValue75
  go_enter Try.func52,Try.ntmps52
  go_wp2_with fail
  refine Calls.mono HC.out ?_
  rintro e w' (⟨i,hi,rfl,x,r,h1,h2,h3,h4,h5⟩ | ⟨rfl,h1,h2,h3⟩)
  ·go_wp2
   go_ret
   have hf:=Qx h1 h2 h3;rw[← HW.out]at h4 h5;refine⟨by rw[hf];rfl,HP.out.trans h4,fun r' hr'=>?_⟩;rw[hf]at hr';cases hr';obtain⟨M',fv',s1,s2,s3,s4⟩:=h5;exact⟨M',fv',Sub.trans HS.out s1,s2,fun b o hb=>(s3 b o (by omega)).trans (HO.out b o hb),s4⟩
  ·go_wp2
   go_ret
   have hf:l.findSome? (stepF E l n c)=none:=Xf h3;rw[← HW.out]at h2;exact⟨by rw[hf];rfl,HP.out.trans h2,fun r' hr'=>by rw[hf]at hr';cases hr'⟩
end Go.Proofs
