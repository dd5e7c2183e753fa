import Derived.Sort.Grow
import Derived.Test.YtdghpfejmlpjhaaASimP
import Derived.Test.YtdghpfejmlpjhaaChecked
import Derived.WalkKit
import Derived.BigCall
import Derived.Deep.RegionHeld3
import Derived.Deep.RegionHeldLaw
import Derived.Deep.AppendLies
import Derived.Deep.OwnRows
import Derived.OneCell
import Derived.Laws.Rows
import Derived.Test.YtdghpfejmlpjhaaASimK
set_option linter.all false
set_option maxRecDepth 100000
open Int renaming toNat→A0
open Go.IntKind renaming wrap→A1, i64→D0
open Go.World renaming cell?→A2, frozen?→D2
open List renaming replicate→A3, map→A4, range→A5, getElem_toArray→A6, getElem_cons_succ→A7, getElem_cons_zero→A8, setIfInBounds_toArray→A9, set_cons_zero→B1, set_cons_succ→C0, length_map→C7
open Nat renaming le_refl→D1
open Go.Result renaming andThen→D3
open Go.MapKept renaming run_getObj_map→D4
open Array renaming getElem?_eq_getElem→D5
namespace Go.AM
open Go.RowKit Go.Sort Go.Proofs
theorem qig (zs:List Int) (k:IntKind):flat (zs.map (AV.int k))=zs.map (AV.int k):=by
 unfold flat;rw[List.flatMap_map];simp only[AV.cells];exact List.map_eq_flatMap.symm
end Go.AM
namespace Go.AM
open Go.RowKit Go.Proofs
variable {M:Mem} {w w':World} {u v:Value} {t:TypeId} {b j:Nat}
def Tf3:=And.intro Try.underlying3<|And.intro Try.isAgg3<|And.intro Try.sizeOf3<|And.intro Try.zeroValue3<|run_underlying Try.underlying3
def Tf4:=And.intro Try.underlying4<|And.intro Try.isAgg4<|And.intro Try.sizeOf4<|And.intro Try.zeroValue4<|run_underlying Try.underlying4
def Tf24:=And.intro Try.underlying24<|And.intro Try.isAgg24<|And.intro Try.sizeOf24<|And.intro Try.zeroValue24<|run_underlying Try.underlying24
def Tf27:=And.intro Try.underlying27<|And.intro Try.isAgg27<|And.intro Try.sizeOf27<|And.intro Try.zeroValue27<|run_underlying Try.underlying27
def Tf39:=And.intro Try.underlying39<|And.intro Try.isAgg39<|And.intro Try.sizeOf39<|And.intro Try.zeroValue39<|run_underlying Try.underlying39
def Tf41:=And.intro Try.underlying41<|And.intro Try.isAgg41<|And.intro Try.sizeOf41<|And.intro Try.zeroValue41<|run_underlying Try.underlying41
def Tf50:=And.intro Try.underlying50<|And.intro Try.isAgg50<|And.intro Try.sizeOf50<|And.intro Try.zeroValue50<|run_underlying Try.underlying50
def Tf52:=And.intro Try.underlying52<|And.intro Try.isAgg52<|And.intro Try.sizeOf52<|And.intro Try.zeroValue52<|run_underlying Try.underlying52
def Tf54:=And.intro Try.underlying54<|And.intro Try.isAgg54<|And.intro Try.sizeOf54<|And.intro Try.zeroValue54<|run_underlying Try.underlying54
def Tf56:=And.intro Try.underlying56<|And.intro Try.isAgg56<|And.intro Try.sizeOf56<|And.intro Try.zeroValue56<|run_underlying Try.underlying56
def Tf75:=And.intro Try.underlying75<|And.intro Try.isAgg75<|And.intro Try.sizeOf75<|And.intro Try.zeroValue75<|run_underlying Try.underlying75
def Tf77:=And.intro Try.underlying77<|And.intro Try.isAgg77<|And.intro Try.sizeOf77<|And.intro Try.zeroValue77<|run_underlying Try.underlying77
def Tf105:=And.intro Try.underlying105<|And.intro Try.isAgg105<|And.intro Try.sizeOf105<|And.intro Try.zeroValue105<|run_underlying Try.underlying105
def Tf127:=And.intro Try.underlying127<|And.intro Try.isAgg127<|And.intro Try.sizeOf127<|And.intro Try.zeroValue127<|run_underlying Try.underlying127
def Tf145:=And.intro Try.underlying145<|And.intro Try.isAgg145<|And.intro Try.sizeOf145<|And.intro Try.zeroValue145<|run_underlying Try.underlying145
def Tf146:=And.intro Try.underlying146<|And.intro Try.isAgg146<|And.intro Try.sizeOf146<|And.intro Try.zeroValue146<|run_underlying Try.underlying146
def Tf149:=And.intro Try.underlying149<|And.intro Try.isAgg149<|And.intro Try.sizeOf149<|And.intro Try.zeroValue149<|run_underlying Try.underlying149
def Tf150:=And.intro Try.underlying150<|And.intro Try.isAgg150<|And.intro Try.sizeOf150<|And.intro Try.zeroValue150<|run_underlying Try.underlying150
def Tf152:=And.intro Try.underlying152<|And.intro Try.isAgg152<|And.intro Try.sizeOf152<|And.intro Try.zeroValue152<|run_underlying Try.underlying152
def Tf178:=And.intro Try.underlying178<|And.intro Try.isAgg178<|And.intro Try.sizeOf178<|And.intro Try.zeroValue178<|run_underlying Try.underlying178
def Tf180:=And.intro Try.underlying180<|And.intro Try.isAgg180<|And.intro Try.sizeOf180<|And.intro Try.zeroValue180<|run_underlying Try.underlying180
def Tf183:=And.intro Try.underlying183<|And.intro Try.isAgg183<|And.intro Try.sizeOf183<|And.intro Try.zeroValue183<|run_underlying Try.underlying183
def Tf191:=And.intro Try.underlying191<|And.intro Try.isAgg191<|And.intro Try.sizeOf191<|And.intro Try.zeroValue191<|run_underlying Try.underlying191
def Tf192:=And.intro Try.underlying192<|And.intro Try.isAgg192<|And.intro Try.sizeOf192<|And.intro Try.zeroValue192<|run_underlying Try.underlying192
theorem mixedP:Try.prog.follows .mixedOrders=true:=by kernel_rfl
abbrev cL (l:List Int):List AV:=l.map (AV.int .i64)
theorem glob0 (M:Mem):Glob M:=fun g hg=>by cases hg
theorem Cons.below (h:Cons M w) (hB:Below w.heap.size w w'):Cons M w':=DS h hB
theorem Cons.of_blocks (h:Cons M w) (hb:∀ b o u,M b o=some u->b<w.heap.size->w'.heap[b]? = w.heap[b]?):Cons M w':=fun b o u hu=>by
 have h1:=h b o u hu;rw[JU (hb b o u hu (Nx h1))];exact h1
theorem Cons.alloc {M:Mem} {w:World} (h:Cons M w) (o:Obj):Cons M (w.alloc o):=h.of_blocks fun b _ _ _ hb=>heap_alloc_old w o hb
theorem Cons.setCell {M:Mem} {w:World} (h:Cons M w) {a:Addr} (ha:∀ o,M a.block o=none) (v:Value):Cons M (w.setCell a v) :=
 h.of_blocks fun b o u hu hb=>Below.heap_setCell w a v b fun e=>by rw[e,ha]at hu;cases hu
theorem qjS (l:List Int):flat (cL l)=cL l:=qig l .i64
theorem qbe {l:List Int} (h:R M (.lst 3 1 none (cL l)) v):∃ a cap,v=.slice a l.length cap/\∀ j (hj:j<l.length),∃ b off,a=some ⟨b,off,none⟩/\M b (off+j)=some (.int .i64 l[j]):=by
 generalize hx:cL l=xs at h
 cases h with
 | lstn =>
  have:l=[]:=by simpa[cL] using hx
  subst this;exact⟨none,0,rfl,fun j hj=>absurd hj (by simp)⟩
 | lste _ _ _ ad cap =>
  have:l=[]:=by simpa[cL] using hx
  subst this;exact⟨some ad,cap,rfl,fun j hj=>absurd hj (by simp)⟩
 | lst us h1 h2 h5 h3 h4 =>
  subst hx;rename_i b off cap;refine⟨some ⟨b,off,none⟩,cap,by simp[cL],fun j hj=>⟨b,off,rfl,?_⟩⟩
  have hf:(flat (cL l))[j]? = some (.int .i64 l[j]):=by rw[qjS];simp[cL,hj]
  rw[h3 j _ hf,(h4 j _ hf).int_inv]
theorem VD {f:Nat} {args:List AV} {r:AV} (h:Run Try.prog (.call f args r)):CallOk Try.prog f args r:=Yx mixedP h
theorem qap {kt e:TypeId} {ks vs:List AV} {mv kv:Value} {k r:AV} (hC:Cons M w) (hm:R M (.mpv ks vs) mv) (ht:Qz Try.prog t=some (kt,e)) (hkv:k.keyV=some kv) (hr:alookup Try.prog t [] (.mpv ks vs) k=some r) :
  ∃ v,(Instr.lookup t mv kv false).run Try.prog w=.ok v w/\R M r v:=by
 unfold alookup at hr;rw[ht]at hr;simp only[Zf]at hr;split at hr
 case h_2=>cases hr
 rename_i hc;simp only[Bool.and_eq_true]at hc;obtain⟨⟨hfit,hks⟩,hall⟩:=hc;have ht:=Qg ht;obtain⟨K,l,hl⟩:=VL hfit hkv
 have hz:∀ z,zeroA1 Try.prog e=some z->∃ v,(zeroValue e).run Try.prog w=.ok v w/\R M z v:=fun z hz=>by
  obtain⟨v,h1,h2⟩:=US (M:=M) (O:=⟨fun _ _=>none,fun _=>0,fun _=>0⟩) (w:=w) hz;exact⟨v,h1,h2⟩
 rcases Ud hm with ⟨rfl,rfl,rfl⟩ | ⟨ks',vs',b,es,clock,hp,rfl,h1,h2,h3,h4,h5,h6,h7⟩
 ·simp only[findA]at hr;obtain⟨z,hz,hz2⟩:=hz _ hr;refine⟨z,?_,hz2⟩
  have hfind:(Instr.findKey kt kv (#[]:Array MapEntry).toList).run Try.prog w=.ok none w:=by
   rcases K.find w hl [] (by simp) with ⟨h1,_⟩ | ⟨j,e,_,h2,_⟩
   ·exact h1
   simp at h2
  simp[Instr.lookup,run_underlying ht,K.check w true hl,hfind,hz,D3]
 have hb:=ZW (hC _ _ _ h1)
 have hall':ks'.all (keyFits Try.prog kt)=true:=List.all_eq_true.2 fun y hy=>List.all_eq_true.1 hall y (hp.keys.mem_iff.2 hy)
 have E:EntOk M es clock ks' vs':=⟨h2,h3,h4,h5,h6,h7⟩;obtain⟨hck,hst,hfd⟩:=Yv (w:=w) hfit hkv hall' E;obtain⟨fp1,fp2⟩:=qbf hkv hp E
 rcases hfd with ⟨k1,k2,k3⟩ | ⟨j,e0,k1,k2,k3,k4⟩
 ·rw[fp1 k1]at hr;obtain⟨z,hz,hz2⟩:=hz _ hr;refine⟨z,?_,hz2⟩;simp[Instr.lookup,run_underlying ht,D4 hb,hck,k2,hz,D3]
 obtain⟨i,g1,g2⟩:=fp2 j k1;rw[g1]at hr;simp only[g2]at hr;refine⟨e0.val,?_,h7 j r e0 hr (by simpa using k3)⟩;simp[Instr.lookup,run_underlying ht,D4 hb,hck,k2,D3]
theorem jL {cs:Array Value} (u:Value) (h:w.heap[b]? = some (.cells cs t (0,0))):(w.setCell ⟨b,j,none⟩ u).heap[b]? = some (.cells (cs.setIfInBounds j u) t (0,0)):=by
 have hlt:=lt_of_block h
 have h':w.heap[b]=.cells cs t (0,0):=by simpa[D5 hlt] using h
 show (w.heap.modify b _)[b]? = _;rw[D5 (by simpa using hlt),Array.getElem_modify_self,h'];rfl
theorem qK {k:Nat} (h:k≠b):(w.setCell ⟨b,j,none⟩ u).heap[k]? = w.heap[k]?:=Below.heap_setCell w ⟨b,j,none⟩ u k h
theorem jX {a:Addr}:(w.setCell a u).heap.size=w.heap.size:=by simp[World.setCell]
theorem tkH {P:Program} {ops:Array Oper} {Q:Exit->Act->World->Prop} {md:Region.Mode} {S:World->Prop} {i:Nat} {oi:Oper} {fuel:Nat} {listed:Array Bool} {a:Act} (hi:ops[i]? = some oi) (hy:YieldsIf P ops S oi v a) (hS:S w) (h:wpAnyH P md ops Q S fuel (listed.setIfInBounds i true) (a.put oi.dst v) w) (hs:Region.noSelect ops=true:=by kernel_rfl) (hf:Region.free md ops listed i=true:=by kernel_rfl) (hr:(Region.ready md ops listed).contains i=true:=by kernel_rfl) (hQ:∀ c a w,Q (.panic c) (a.put oi.dst v) w->Q (.panic c) a w:=by exact fun _ _ _ h=>h):wpAnyH P md ops Q S (fuel+1) listed a w:=wpAnyH_take hi hs hf hr hQ hy hS h
end Go.AM
namespace Go.AM
open Go.RowKit
variable {P:Program} {n:Nat} {K V:Type} {F:K->AV} {G:V->AV} {eq:K->K->Bool}
inductive AllP {α:Type} (q:α->Prop):List α->Prop where
 | nil:AllP q []
 | cons {a l}:q a->AllP q l->AllP q (a::l)
theorem AllP.mem {α:Type} {q:α->Prop}:∀ {l:List α},AllP q l->∀ x,x∈l->q x
 | _,.nil,x,h=>by cases h
 | _,.cons h t,x,hx=>by
  rcases List.mem_cons.1 hx with rfl | hx
  ·exact h
  exact t.mem x hx
def stepA (P:Program) (n:Nat) (all:List Oper) (env:Env) (k:Nat):Option Env :=
 match all[k]? with
 | some o=>match awanted all o env with
  | some true=>astep P n o env
  | _=>none
 | none=>none
theorem W.regionA {id:Nat} {ops:Array Oper} {Q:Ex->Env->Prop} {env e1:Env} (hb:jr ops=true) (h:Run P (.any n ops.toList (A5 ops.size) env e1)) (hq:WO P n false ops.toList [] (Q .normal) e1):W P n (.region id ops true) Q env:=by
 obtain⟨e2,h1,h2⟩:=hq;exact⟨_,e2,.regionA hb h h1,h2⟩
theorem qfS {α:Type} {enc:α->AV} {all:List Oper} {env:Env} {s sz k:Nat} {l l':List α} (hF:Flat enc) (hl:decide (l.length=sz/\l'.length=sz)=true)
  (hp:(match all[k]? with | some o=>setPre P all o env | none=>none)=some (s,0,.agg (l.map enc),l'.map enc,sz)):stepA P n all env k=some (ins s (.hob 3 [] (l.map enc)) env):=by
 obtain⟨hl1,hl2⟩:=of_decide_eq_true hl;unfold stepA
 cases hk:all[k]? with
 | none=>rw[hk]at hp;cases hp
 | some o =>
  rw[hk]at hp;obtain⟨a1,a2,a3,a4,_,a5⟩:=NG (n:=n) hp;simp only[a1];rw[a5 _ rfl (by rw[C7];exact hl1)];unfold putRow;have:Nat.ble (0+(l.map enc).length) (l'.map enc).length=true:=Nat.ble_eq_true_of_le (by rw[C7,C7];omega);simp only[hF.all,a4,this];rw[hF.strips,List.take_zero,List.drop_eq_nil_of_le (by rw[C7,C7];omega),List.nil_append,List.append_nil]
inductive AQ (q:Nat->Env->Prop):List (Nat×Env)->Prop where
 | n:AQ q []
 | c {e l} (k:Nat):q k e->AQ q l->AQ q ((k,e)::l)
theorem AQ.all {q:Nat->Env->Prop} {l:List (Nat×Env)} (h:AQ q l):AllP (fun p=>q p.1 p.2) l:=by
 induction h with
 | n=>exact .nil
 | c k a b ih=>exact .cons a ih
theorem WO.s1 {all:List Oper} {o:Oper} {k:Nat} {env e:Env} (ho:all[k]? = some o) (h:stepsK P n false all 1 [o] env=some e:=by kernel_rfl):∃ o,all[k]? = some o/\WO P n false all [o] (fun e'=>e'=e) env:=⟨o,ho,WO.steps 1 h (WO.nil rfl)⟩
end Go.AM
namespace Go.AM
end Go.AM
namespace Go.Proofs
open Go.RowKit Go.AM Go.Sort
set_option maxHeartbeats 4000000 in
theorem Try.key81 (rel a c:Int) (b off cap n:Nat) (W:World) (h0:W.cell? ⟨b,off,none⟩=some (.int .i64 a)) (h1:1<n->W.cell? ⟨b,off+1,none⟩=some (.int .i64 c)) (h2:¬ 1<n->c=0) (hn:0<n) (hl:n<=1000000) :
  Calls Try.prog 81 #[.agg #[.int .i64 rel,.slice (some ⟨b,off,none⟩) n cap]] W fun e w'=>e=.returned (.agg #[.int .i64 rel,.int .i64 a,.int .i64 c])/\Below W.heap.size W w':=by
 have mixed:=mixedP;have⟨t3,a3,z3,v3,u3⟩:=Tf3;have⟨t4,a4,z4,v4,u4⟩:=Tf4;have⟨t39,a39,z39,v39,u39⟩:=Tf39;have⟨t41,a41,z41,v41,u41⟩:=Tf41;have⟨t127,a127,z127,v127,u127⟩:=Tf127
 have hb:b<W.heap.size:=by
  unfold A2 at h0
  cases hh:W.heap[b]? with
  | none=>simp[hh]at h0
  | some o=>exact lt_of_block hh
 go_enter Try.func81,Try.ntmps81
 go_wp2_with fail
 obtain⟨W2,hW2⟩:∃ W2,W2=(W.alloc (.cells #[.int .i64 rel,.slice (some ⟨b,off,none⟩) n cap] 41)).alloc (.cells #[.int .i64 0,.int .i64 0,.int .i64 0] 127):=⟨_,rfl⟩
 have e1:W2.heap[W.heap.size]? = some (.cells #[.int .i64 rel,.slice (some ⟨b,off,none⟩) n cap] 41 (0,0)):=by
  rw[hW2,heap_alloc_old _ _ (by simp)];exact heap_alloc_new _ _
 have e2:W2.heap[W.heap.size+1]? = some (.cells #[.int .i64 0,.int .i64 0,.int .i64 0] 127 (0,0)):=by
  have:=heap_alloc_new (W.alloc (.cells #[.int .i64 rel,.slice (some ⟨b,off,none⟩) n cap] 41)) (.cells #[.int .i64 0,.int .i64 0,.int .i64 0] 127);rw[hW2]
  simpa using this
 have hsz:W2.heap.size=W.heap.size+2:=by rw[hW2];simp
 have hB:Below W.heap.size W W2:=by rw[hW2];exact ((Below.refl _ _).alloc (D1 _) _).alloc (by simp) _
 rw[<- hW2];clear hW2
 have old:∀ w',Below W.heap.size W w'->w'.cell? ⟨b,off,none⟩=some (.int .i64 a)/\(1<n->w'.cell? ⟨b,off+1,none⟩=some (.int .i64 c)):=fun w' h=>⟨(h.cell hb).trans h0,fun hc=>(h.cell hb).trans (h1 hc)⟩
 have K0:W2.cell? ⟨W.heap.size,0,none⟩=some (.int .i64 rel)/\W2.cell? ⟨W.heap.size,1,none⟩=some (.slice (some ⟨b,off,none⟩) n cap)/\W2.cell? ⟨b,off,none⟩=some (.int .i64 a):=by
  refine⟨?_,?_,(old _ hB).1⟩ <;> simp[A2,e1]
 refine wp_region_held_drew (S:=(fun w'=>w'.cell? ⟨W.heap.size,0,none⟩=some (.int .i64 rel)/\w'.cell? ⟨W.heap.size,1,none⟩=some (.slice (some ⟨b,off,none⟩) n cap)/\w'.cell? ⟨b,off,none⟩=some (.int .i64 a))) kR K0 (fun hHeld=>?_);refine tkH (i:=0) (v:=.pointer (some ⟨W.heap.size,0,none⟩)) rfl (Or.inl ⟨by kernel_rfl,fun w' hw'=>?_⟩) hHeld ?_
 ·obtain⟨q0,q1,q2⟩:=hw';go_simp
 simp only[Act.put,A6,A7,A8,A9,B1,C0];refine tkH (i:=1) (v:=.int .i64 rel) rfl (Or.inl ⟨by kernel_rfl,fun w' hw'=>?_⟩) hHeld ?_
 ·obtain⟨q0,q1,q2⟩:=hw';go_simp
 simp only[Act.put,A6,A7,A8,A9,B1,C0];refine tkH (i:=2) (v:=.pointer (some ⟨W.heap.size,1,none⟩)) rfl (Or.inl ⟨by kernel_rfl,fun w' hw'=>?_⟩) hHeld ?_
 ·obtain⟨q0,q1,q2⟩:=hw';go_simp
 simp only[Act.put,A6,A7,A8,A9,B1,C0];refine tkH (i:=3) (v:=.slice (some ⟨b,off,none⟩) n cap) rfl (Or.inl ⟨by kernel_rfl,fun w' hw'=>?_⟩) hHeld ?_
 ·obtain⟨q0,q1,q2⟩:=hw';go_simp
 simp only[Act.put,A6,A7,A8,A9,B1,C0];refine tkH (i:=4) (v:=.pointer (some ⟨b,off,none⟩)) rfl (Or.inl ⟨by kernel_rfl,fun w' hw'=>?_⟩) hHeld ?_
 ·obtain⟨q0,q1,q2⟩:=hw';go_simp
 simp only[Act.put,A6,A7,A8,A9,B1,C0];refine tkH (i:=5) (v:=.int .i64 a) rfl (Or.inl ⟨by kernel_rfl,fun w' hw'=>?_⟩) hHeld ?_
 ·obtain⟨q0,q1,q2⟩:=hw';go_simp
 simp only[Act.put,A6,A7,A8,A9,B1,C0];refine tkH (i:=6) (v:=.agg #[.int .i64 rel,.int .i64 a,.int .i64 0]) rfl (Or.inl ⟨by kernel_rfl,fun w' hw'=>?_⟩) hHeld ?_
 ·obtain⟨q0,q1,q2⟩:=hw';go_simp
 simp only[Act.put,A6,A7,A8,A9,B1,C0];refine wpAnyH_ready (rs:=[7]) kR (by simp) (AllReadyH.cons rfl (fun K hK=>?_) AllReadyH.nil);rw[if_pos (by kernel_rfl)];go_simp;obtain⟨W3,hW3⟩:∃ W3,W3=(W2.alloc (Obj.cells #[Value.int D0 0,Value.int D0 0,Value.int D0 0] 127)).drew:=⟨_,rfl⟩
 have g1:W3.heap[W.heap.size]? = some (.cells #[.int .i64 rel,.slice (some ⟨b,off,none⟩) n cap] 41 (0,0)):=by
  rw[hW3];exact (heap_alloc_old _ _ (lt_of_block e1)).trans e1
 have g2:W3.heap[W.heap.size+1]? = some (.cells #[.int .i64 0,.int .i64 0,.int .i64 0] 127 (0,0)):=by
  rw[hW3];exact (heap_alloc_old _ _ (lt_of_block e2)).trans e2
 have g3:W3.heap[W.heap.size+2]? = some (.cells #[.int .i64 0,.int .i64 0,.int .i64 0] 127 (0,0)):=by
  rw[hW3,<- hsz];exact heap_alloc_new _ _
 have hB3:Below W.heap.size W W3:=by rw[hW3];exact (hB.alloc oM _).trans ⟨rfl,rfl,rfl,D1 _,fun _ _=>rfl⟩
 have hsz3:W3.heap.size=W.heap.size+3:=by rw[hW3];simp[hsz]
 have K3:W3.cell? ⟨W.heap.size,0,none⟩=some (.int .i64 rel)/\W3.cell? ⟨W.heap.size,1,none⟩=some (.slice (some ⟨b,off,none⟩) n cap)/\W3.cell? ⟨b,off,none⟩=some (.int .i64 a):=by
  refine⟨?_,?_,(old _ hB3).1⟩ <;> simp[A2,g1]
 rw[<- hW3];clear hW3 e1 e2 hHeld K0;refine hK.out _ _ K3 (fun _=>?_);clear hK K;refine wpAnyH_ready (rs:=[8]) kR (by simp) (AllReadyH.cons rfl (fun K hK=>?_) AllReadyH.nil);rw[if_pos (by kernel_rfl)]
 have fz:∀ j,W3.frozen? ⟨W.heap.size+2,j,none⟩=false:=fun j=>by simp[D2,g3]
 have f0:=fz 0;have f1:=fz 1;have f2:=fz 2
 have z0:W3.cell? ⟨W.heap.size+2,0,none⟩=some (.int .i64 0):=by simp[A2,g3]
 have z1:W3.cell? ⟨W.heap.size+2,1,none⟩=some (.int .i64 0):=by simp[A2,g3]
 have z2:W3.cell? ⟨W.heap.size+2,2,none⟩=some (.int .i64 0):=by simp[A2,g3]
 go_wp2_with fail
 obtain⟨W4,hW4⟩:∃ W4,W4=(((W3.setCell { block:=W.heap.size+2,off:=0 } (Value.int D0 rel)).setCell { block:=W.heap.size+2,off:=1 } (Value.int D0 a)).setCell { block:=W.heap.size+2,off:=2 } (Value.int D0 0)):=⟨_,rfl⟩
 have k3:W4.heap[W.heap.size+2]? = some (.cells #[.int .i64 rel,.int .i64 a,.int .i64 0] 127 (0,0)):=by
  rw[hW4,jL _ (jL _ (jL _ g3))];rfl
 have kb:∀ j,j≠W.heap.size+2->W4.heap[j]? = W3.heap[j]?:=fun j hj=>by
  rw[hW4,Below.heap_setCell _ _ _ _ hj,Below.heap_setCell _ _ _ _ hj,Below.heap_setCell _ _ _ _ hj]
 have hB4:Below W.heap.size W W4:=hB3.trans ⟨by rw[hW4];rfl,by rw[hW4];rfl,by rw[hW4];rfl,by rw[hW4,jX,jX,jX];exact D1 _,fun j hj=>kb j oM⟩;rw[<- hW4];clear hW4;have k1:=(kb (W.heap.size) oM).trans g1;have k2:=(kb (W.heap.size+1) oM).trans g2;clear kb g1 g2 g3 fz f0 f1 f2 z0 z1 z2 K3
 have K4:W4.cell? ⟨W.heap.size,0,none⟩=some (.int .i64 rel)/\W4.cell? ⟨W.heap.size,1,none⟩=some (.slice (some ⟨b,off,none⟩) n cap)/\W4.cell? ⟨b,off,none⟩=some (.int .i64 a):=by
  refine⟨?_,?_,(old _ hB4).1⟩ <;> simp[A2,k1]
 refine hK.out _ _ K4 (fun _=>?_);clear hK K;refine wpAnyH_done kR ?_ _;obtain⟨c0,c1,_⟩:=K4
 have d0:W4.cell? ⟨W.heap.size+2,0,none⟩=some (.int .i64 rel):=by simp[A2,k3]
 have d1:W4.cell? ⟨W.heap.size+2,1,none⟩=some (.int .i64 a):=by simp[A2,k3]
 have d2:W4.cell? ⟨W.heap.size+2,2,none⟩=some (.int .i64 0):=by simp[A2,k3]
 have b0:W4.cell? ⟨W.heap.size+1,0,none⟩=some (.int .i64 0):=by simp[A2,k2]
 have b1:W4.cell? ⟨W.heap.size+1,1,none⟩=some (.int .i64 0):=by simp[A2,k2]
 have b2:W4.cell? ⟨W.heap.size+1,2,none⟩=some (.int .i64 0):=by simp[A2,k2]
 have f2:W4.frozen? ⟨W.heap.size+2,2,none⟩=false:=by simp[D2,k3]
 have y0:W4.frozen? ⟨W.heap.size+1,0,none⟩=false:=by simp[D2,k2]
 have y1:W4.frozen? ⟨W.heap.size+1,1,none⟩=false:=by simp[D2,k2]
 have y2:W4.frozen? ⟨W.heap.size+1,2,none⟩=false:=by simp[D2,k2]
 have n1:=(old _ hB4).2
 have hres:∀ (tm:Array Value) (w9:World) (x:Int),tm[2]?.getD undef=.pointer (some ⟨W.heap.size+1,0,none⟩)->w9.heap[W.heap.size+1]? = some (.cells #[.int .i64 rel,.int .i64 a,.int .i64 x] 127 (0,0))->(results Try.f81 tm).run Try.prog w9=.ok (.agg #[.int .i64 rel,.int .i64 a,.int .i64 x]) w9:=by
  intro tm w9 x htm h9
  have hr:Try.f81.results=#[.cell 2 127]:=by kernel_rfl
  have e0:w9.cell? ⟨W.heap.size+1,0,none⟩=some (.int .i64 rel):=by simp[A2,h9]
  have e1:w9.cell? ⟨W.heap.size+1,1,none⟩=some (.int .i64 a):=by simp[A2,h9]
  have e2:w9.cell? ⟨W.heap.size+1,2,none⟩=some (.int .i64 x):=by simp[A2,h9]
  simp[results,hr,htm];go_simp
 by_cases hc:1<n
 ·have n1:=n1 hc
  go_wp2
  refine bodyPost_ret (hres _ _ c (by rfl) ?_) rfl ⟨rfl,?_⟩
  ·rw[jL _ (jL _ (jL _ ((qK (by omega)).trans k2)))];rfl
  refine hB4.trans ⟨rfl,rfl,rfl,by simp only[jX];exact D1 _,fun j hj=>?_⟩;rw[qK (by omega),qK (by omega),qK (by omega),qK (by omega)]
 have n1:=h2 hc;subst n1
 go_wp2
 refine bodyPost_ret (hres _ _ 0 (by rfl) ?_) rfl ⟨rfl,?_⟩
 ·rw[jL _ (jL _ (jL _ k2))];rfl
 refine hB4.trans ⟨rfl,rfl,rfl,by simp only[jX];exact D1 _,fun j hj=>?_⟩;rw[qK (by omega),qK (by omega),qK (by omega)]
end Go.Proofs
namespace Go.AM
open Go.RowKit Go.Proofs
theorem key81 {rel a:Int} {l:List Int} (hl:(a::l).length<=1000000):CallOk Try.prog 81 [.agg [.int .i64 rel,.lst 3 1 none (cL (a::l))]] (.agg [.int .i64 rel,.int .i64 a,.int .i64 (l.headD 0)]):=by
 intro M w vs hG hC hlen hR
 obtain⟨v0,rfl⟩:∃ v0,vs=[v0]:=by
  match vs,hlen with
  | [v0],_=>exact⟨v0,rfl⟩
 have r0:R M (.agg [.int .i64 rel,.lst 3 1 none (cL (a::l))]) v0:=hR 0 _ v0 rfl rfl;obtain⟨us,rfl,hu,hc⟩:=r0.agg_inv
 obtain⟨u0,u1,rfl⟩:∃ u0 u1,us=[u0,u1]:=by
  match us,hu with
  | [u0,u1],_=>exact⟨u0,u1,rfl⟩
 obtain rfl:u0=.int .i64 rel:=(hc 0 _ u0 rfl rfl).int_inv;obtain⟨ad,cap,rfl,hcell⟩:=qbe (hc 1 _ u1 rfl rfl);obtain⟨b,off,rfl,hM⟩:=hcell 0 (by simp);have h0:w.cell? ⟨b,off,none⟩=some (.int .i64 a):=JM (hC _ _ _ (by simpa using hM)) rfl
 have h1:1<(a::l).length->w.cell? ⟨b,off+1,none⟩=some (.int .i64 (l.headD 0)):=fun hlt=>by
  obtain⟨b',off',e,hM'⟩:=hcell 1 hlt;cases e;have:=JM (hC _ _ _ hM') rfl
  cases l with
  | nil=>simp at hlt
  | cons c l=>simpa using this
 have h2:¬ 1<(a::l).length->l.headD 0=0:=fun hn=>by
  cases l with
  | nil=>rfl
  | cons c l=>simp at hn
 refine (Go.Proofs.Try.key81 rel a (l.headD 0) b off cap (a::l).length w h0 h1 h2 (by simp) hl).mono ?_
 rintro e w' ⟨rfl,hB⟩
 refine⟨_,M,rfl,hB,Sub.refl M,DS hC hB,fun _ _ _=>rfl,?_,trivial⟩
 refine .agg (vs:=[.int .i64 rel,.int .i64 a,.int .i64 (l.headD 0)]) rfl fun j c v hc hv=>?_
 match j,hc,hv with
 | 0,hc,hv=>cases hc;cases hv;exact .int _ _
 | 1,hc,hv=>cases hc;cases hv;exact .int _ _
 | 2,hc,hv=>cases hc;cases hv;exact .int _ _
open Go.Proofs
abbrev I6:Int->AV:=AV.int .i64
abbrev W6:Int->Int:=A1 .i64
abbrev S1 (n:Nat):AV:=.sb 2000000 5 1 0 n
abbrev O1 (l:List Int):Nat×AV:=(2000000,.obj 1000000005 1 (A4 (AV.int .u8) l))
abbrev M8 (l:List Int):List AV:=A4 (AV.int .u8) l
abbrev M6 (l:List Int):List AV:=A4 (AV.int .i64) l
structure apiFact where
 qb:Int
 qa:(List Int)
def l3 (c:Option Nat) (l:List Int):AV:=.lst 3 1 c (A4 (AV.int .i64) l)
def qA (x:apiFact):AV:=.agg [.int .i64 x.qb,l3 none x.qa]
structure rf2Atom where
 qb:Int
 qa:(List Int)
def l41 (c:Option Nat) (l:List apiFact):AV:=.lst 41 2 c (A4 qA l)
def qbg (x:rf2Atom):AV:=.agg [.int .i64 x.qb,l3 none x.qa]
structure rf3Lit where
 qr:Bool
 qe:rf2Atom
def XF (x:rf3Lit):AV:=.agg [.bool x.qr,.int .i64 x.qe.qb,l3 none x.qe.qa]
structure rf3Rule where
 qf:rf2Atom
 qc:(List rf3Lit)
def l96 (c:Option Nat) (l:List rf3Lit):AV:=.lst 96 3 c (A4 XF l)
def Xn (x:rf3Rule):AV:=.agg [.int .i64 x.qf.qb,l3 none x.qf.qa,l96 none x.qc]
structure qm where
 qb:Int
 qa:(List Int)
def l94 (c:Option Nat) (l:List rf3Rule):AV:=.lst 94 3 c (A4 Xn l)
def YG (x:qm):AV:=.agg [.int .i64 x.qb,l3 none x.qa]
structure ruLit where
 qr:Bool
 qe:qm
def ZJ (x:ruLit):AV:=.agg [.bool x.qr,.int .i64 x.qe.qb,l3 none x.qe.qa]
structure ruRule where
 qf:qm
 qc:(List ruLit)
def l56 (c:Option Nat) (l:List ruLit):AV:=.lst 56 3 c (A4 ZJ l)
def XE (x:ruRule):AV:=.agg [.int .i64 x.qf.qb,l3 none x.qf.qa,l56 none x.qc]
structure qn where
 f_0:Int
 f_1:Int
def l54 (c:Option Nat) (l:List ruRule):AV:=.lst 54 3 c (A4 XE l)
def XG (x:qn):AV:=.agg [.int .i64 x.f_0,.int .i64 x.f_1]
def l112 (c:Option Nat) (l:List qn):AV:=.lst 112 2 c (A4 XG l)
def Qm (v11:Bool):Option Bool :=
 (some v11)
def Xl (a1:apiFact):Option Bool :=
 (bif (decide (a1.qb >= 0)) then (bif (decide (a1.qb<=5)) then (bif (decide ((a1.qa.length:Int) >= 1)) then ((Qm) (decide ((a1.qa.length:Int)<=2))) else ((Qm) false)) else ((Qm) false)) else ((Qm) false))
def Yf (N1:(Option Bool)) (v8:Bool):Option Bool :=
 (bif v8 then (some false) else N1)
def Jg (K3:(Option Bool)):List Int->Nat->Option Bool
 | [],k1=>K3
 | x1::r1,k1=>(bif (decide (x1<1)) then ((Yf (Jg K3 r1 (k1+1))) true) else ((Yf (Jg K3 r1 (k1+1))) (decide (x1 > 6))))
def Zh (a1:apiFact):Option Bool :=
 (chk (lenOk a1.qa) (Jg (Xl a1) a1.qa 0))
theorem qcl (a1:apiFact) (r:Bool) (h:Zh a1=some r):Run Try.prog (.call 33 [.agg [I6 a1.qb,l3 none a1.qa]] (.bool r)):=by
 refine cW Try.func33 rfl (env0:=[(0,.agg [I6 a1.qb,l3 none a1.qa])]) ?_;unfold Zh at h;refine W.seq ?_;let z0:=fun t=>EN ((1,.ptr (.agg [I6 a1.qb,l3 none a1.qa]))::t);refine W.rT [1] [1] (e2:=z0 []) ?_;refine W.seq<|W.join (σ:=Unit) (fun s=>z0 []) (fun s=>(Xl a1)=some r) (fun s h=>?_) (fun hK3=>?_)
 ·unfold Xl at h;refine W.seq<|W.join (σ:=(Bool)) (fun s=>[(2,.bool s)]) (fun s=>(Qm) s=some r) (fun v11 h=>?_) (fun hK10=>?_)
  ·unfold Qm at h;refine W.wk (e:=[(2,.bool v11)]) ?_;cases h;exact W.rr
  refine W.rg ?_;let z1:=fun t=>z0 ((19,.ptr (I6 a1.qb))::(20,I6 a1.qb)::t);refine WO.bh 4 (fun b=>z1 [(21,.bool b),(22,.bool b)]) (decide (a1.qb >= 0)) h (fun h=>?_) (fun h=>?_)
  ·let z2:=fun t=>z1 ((21,.bool true)::(22,.bool true)::(23,.ptr (I6 a1.qb))::(24,I6 a1.qb)::t);refine WO.bh 5 (fun b=>z2 [(25,.bool b),(26,.bool b),(27,.bool b)]) (decide (a1.qb<=5)) h (fun h=>?_) (fun h=>?_)
   ·refine WO.pq 2 (jM (.int .i64) a1.qa)<|WO.bh 3 (fun b=>z2 [(25,.bool true),(26,.bool true),(27,.bool true),(28,.ptr (l3 none a1.qa)),(29,l3 none a1.qa),(30,I6 (a1.qa.length:Int)),(31,.bool b),(32,.bool b),(33,.bool b)]) (decide ((a1.qa.length:Int) >= 1)) h (fun h=>?_) (fun h=>?_)
    ·exact WO.pq 2 (jM (.int .i64) a1.qa)<|WO.fn (hK10 (decide ((a1.qa.length:Int)<=2)) h)
    exact WO.fn (hK10 false h)
   exact WO.fn (hK10 false h)
  exact WO.fn (hK10 false h)
 refine W.sr<|WO.pq 2 (jM (.int .i64) a1.qa) ?_;let z3:=fun t=>z0 ((6,l3 none a1.qa)::(7,I6 (a1.qa.length:Int))::t);refine WO.fn (e2:=z3 [(8,.int .i64 0)]) ?_;refine W.block ?_;obtain⟨hl1,h⟩:=qi h;refine W.wk<|W.range (σ:=Unit) a1.qa (fun k1 s=>z3 [(8,I6 (k1:Int))]) (fun r0 k0 s=>Jg (Xl a1) r0 k0=some r) (fun s h=>?_) (fun x1 r1 k1 s hx1 hk1 h hN1=>?_) () h
 ·rw[Jg.eq_1]at h;refine W.sr<|WO.pq 0 (jB (qM (l:=a1.qa)))<|WO.fn (e2:=z3 [(8,I6 ((a1.qa).length:Int)),(9,.bool false)]) ?_;exact W.seq<|W.cF<|W.exit<|W.wk (hK3 () h)
 rw[Jg.eq_2]at h;refine W.sr<|WO.pq 0 (jB (qZ hk1)) ?_;let z4:=fun t=>z3 ((8,I6 (k1:Int))::t);refine WO.fn (e2:=z4 [(9,.bool true)]) ?_;refine W.seq<|W.cT ?_;let y0:Env:=[(6,l3 none a1.qa),(7,I6 (a1.qa.length:Int)),(8,I6 (k1:Int))];refine W.sw (e:=z0 y0) ?_;refine W.seq<|W.block<|W.sr<|WO.pq 0 (ja (f:=(AV.int .i64)) hx1)<|WO.fn (e2:=z0 ((4,I6 x1)::y0)) ?_;refine W.seq<|W.join (σ:=(Bool)) (fun s=>z4 [(17,.bool s)]) (fun s=>(Yf (Jg (Xl a1) r1 (k1+1))) s=some r) (fun v8 h=>?_) (fun hK7=>?_)
 ·unfold Yf at h;refine W.ch v8 h (fun h=>?_) (fun h=>?_)
  ·refine W.seq<|W.rt (e2:=[(2,.bool false)]) ?_;refine W.wk (e:=[(2,.bool false)]) ?_;cases h;exact W.rr
  refine W.sw (e:=z0 y0) ?_;exact W.rg<|WO.pq 0 (jI (qC hl1 hk1))<|WO.fn (hN1 () h)
 refine W.rg<|WO.bh 3 (fun b=>z0 [(4,I6 x1),(6,l3 none a1.qa),(7,I6 (a1.qa.length:Int)),(8,I6 (k1:Int)),(12,I6 x1),(13,.bool b),(14,.bool b)]) (decide (x1<1)) h (fun h=>?_) (fun h=>?_)
 ·exact WO.fn (hK7 true h)
 exact WO.fn (hK7 (decide (x1 > 6)) h)
def QX (v11:Bool):Option Bool :=
 (some v11)
def YA (a1:rf2Atom):Option Bool :=
 (bif (decide (a1.qb >= 0)) then (bif (decide (a1.qb<=5)) then (bif (decide ((a1.qa.length:Int) >= 1)) then ((QX) (decide ((a1.qa.length:Int)<=2))) else ((QX) false)) else ((QX) false)) else ((QX) false))
def ZN (N1:(Option Bool)) (v8:Bool):Option Bool :=
 (bif v8 then (some false) else N1)
def Qe (K3:(Option Bool)):List Int->Nat->Option Bool
 | [],k1=>K3
 | x1::r1,k1=>(bif (decide (x1<(-6))) then ((ZN (Qe K3 r1 (k1+1))) true) else ((ZN (Qe K3 r1 (k1+1))) (decide (x1 > 7))))
def UF (a1:rf2Atom):Option Bool :=
 (chk (lenOk a1.qa) (Qe (YA a1) a1.qa 0))
theorem qag (a1:rf2Atom) (r:Bool) (h:UF a1=some r):Run Try.prog (.call 61 [.agg [I6 a1.qb,l3 none a1.qa]] (.bool r)):=by
 refine cW Try.func61 rfl (env0:=[(0,.agg [I6 a1.qb,l3 none a1.qa])]) ?_;unfold UF at h;refine W.seq ?_;let z0:=fun t=>EN ((1,.ptr (.agg [I6 a1.qb,l3 none a1.qa]))::t);refine W.rT [1] [1] (e2:=z0 []) ?_;refine W.seq<|W.join (σ:=Unit) (fun s=>z0 []) (fun s=>(YA a1)=some r) (fun s h=>?_) (fun hK3=>?_)
 ·unfold YA at h;refine W.seq<|W.join (σ:=(Bool)) (fun s=>[(2,.bool s)]) (fun s=>(QX) s=some r) (fun v11 h=>?_) (fun hK10=>?_)
  ·unfold QX at h;refine W.wk (e:=[(2,.bool v11)]) ?_;cases h;exact W.rr
  refine W.rg ?_;let z1:=fun t=>z0 ((19,.ptr (I6 a1.qb))::(20,I6 a1.qb)::t);refine WO.bh 4 (fun b=>z1 [(21,.bool b),(22,.bool b)]) (decide (a1.qb >= 0)) h (fun h=>?_) (fun h=>?_)
  ·let z2:=fun t=>z1 ((21,.bool true)::(22,.bool true)::(23,.ptr (I6 a1.qb))::(24,I6 a1.qb)::t);refine WO.bh 5 (fun b=>z2 [(25,.bool b),(26,.bool b),(27,.bool b)]) (decide (a1.qb<=5)) h (fun h=>?_) (fun h=>?_)
   ·refine WO.pq 2 (jM (.int .i64) a1.qa)<|WO.bh 3 (fun b=>z2 [(25,.bool true),(26,.bool true),(27,.bool true),(28,.ptr (l3 none a1.qa)),(29,l3 none a1.qa),(30,I6 (a1.qa.length:Int)),(31,.bool b),(32,.bool b),(33,.bool b)]) (decide ((a1.qa.length:Int) >= 1)) h (fun h=>?_) (fun h=>?_)
    ·exact WO.pq 2 (jM (.int .i64) a1.qa)<|WO.fn (hK10 (decide ((a1.qa.length:Int)<=2)) h)
    exact WO.fn (hK10 false h)
   exact WO.fn (hK10 false h)
  exact WO.fn (hK10 false h)
 refine W.sr<|WO.pq 2 (jM (.int .i64) a1.qa) ?_;let z3:=fun t=>z0 ((6,l3 none a1.qa)::(7,I6 (a1.qa.length:Int))::t);refine WO.fn (e2:=z3 [(8,.int .i64 0)]) ?_;refine W.block ?_;obtain⟨hl1,h⟩:=qi h;refine W.wk<|W.range (σ:=Unit) a1.qa (fun k1 s=>z3 [(8,I6 (k1:Int))]) (fun r0 k0 s=>Qe (YA a1) r0 k0=some r) (fun s h=>?_) (fun x1 r1 k1 s hx1 hk1 h hN1=>?_) () h
 ·rw[Qe.eq_1]at h;refine W.sr<|WO.pq 0 (jB (qM (l:=a1.qa)))<|WO.fn (e2:=z3 [(8,I6 ((a1.qa).length:Int)),(9,.bool false)]) ?_;exact W.seq<|W.cF<|W.exit<|W.wk (hK3 () h)
 rw[Qe.eq_2]at h;refine W.sr<|WO.pq 0 (jB (qZ hk1)) ?_;let z4:=fun t=>z3 ((8,I6 (k1:Int))::t);refine WO.fn (e2:=z4 [(9,.bool true)]) ?_;refine W.seq<|W.cT ?_;let y0:Env:=[(6,l3 none a1.qa),(7,I6 (a1.qa.length:Int)),(8,I6 (k1:Int))];refine W.sw (e:=z0 y0) ?_;refine W.seq<|W.block<|W.sr<|WO.pq 0 (ja (f:=(AV.int .i64)) hx1)<|WO.fn (e2:=z0 ((4,I6 x1)::y0)) ?_;refine W.seq<|W.join (σ:=(Bool)) (fun s=>z4 [(17,.bool s)]) (fun s=>(ZN (Qe (YA a1) r1 (k1+1))) s=some r) (fun v8 h=>?_) (fun hK7=>?_)
 ·unfold ZN at h;refine W.ch v8 h (fun h=>?_) (fun h=>?_)
  ·refine W.seq<|W.rt (e2:=[(2,.bool false)]) ?_;refine W.wk (e:=[(2,.bool false)]) ?_;cases h;exact W.rr
  refine W.sw (e:=z0 y0) ?_;exact W.rg<|WO.pq 0 (jI (qC hl1 hk1))<|WO.fn (hN1 () h)
 refine W.rg<|WO.bh 3 (fun b=>z0 [(4,I6 x1),(6,l3 none a1.qa),(7,I6 (a1.qa.length:Int)),(8,I6 (k1:Int)),(12,I6 x1),(13,.bool b),(14,.bool b)]) (decide (x1<(-6))) h (fun h=>?_) (fun h=>?_)
 ·exact WO.fn (hK7 true h)
 exact WO.fn (hK7 (decide (x1 > 7)) h)
def YB (v12:Int):Option Int :=
 (some v12)
def ZP (N1:(Int->Option Int)) (v11:Int):Option Int :=
 (N1 v11)
def Qf (K4:(Int->Option Int)):List Int->Nat->Int->Option Int
 | [],k1,v6=>(K4 v6)
 | x1::r1,k1,v6=>(bif (decide (x1 >= 0)) then (chk (decide (0<=x1)) ((ZP (Qf K4 r1 (k1+1))) (iOr .i64 v6 (iShl .i64 1 x1)))) else ((ZP (Qf K4 r1 (k1+1))) v6))
def VH (a1:rf2Atom):Option Int :=
 (chk (lenOk a1.qa) (Qf (YB) a1.qa 0 0))
theorem UV (a1:rf2Atom) (r:Int) (h:VH a1=some r):Run Try.prog (.call 62 [.agg [I6 a1.qb,l3 none a1.qa]] (I6 r)):=by
 refine cW Try.func62 rfl (env0:=[(0,.agg [I6 a1.qb,l3 none a1.qa])]) ?_;unfold VH at h;refine W.seq ?_;let z0:=fun t=>EN ((1,.ptr (.agg [I6 a1.qb,l3 none a1.qa]))::t);refine W.rT [1] [1] (e2:=z0 []) ?_;refine W.seq<|W.rt (e2:=z0 [(3,.int .i64 0)]) ?_;refine W.seq<|W.join (σ:=(Int)) (fun s=>[(3,I6 s)]) (fun s=>(YB) s=some r) (fun v12 h=>?_) (fun hK4=>?_)
 ·unfold YB at h;refine W.seq<|W.rt (e2:=[(2,I6 v12)]) ?_;refine W.wk (e:=[(2,I6 v12)]) ?_;cases h;exact W.rr
 refine W.sr<|WO.pq 2 (jM (.int .i64) a1.qa) ?_;let z1:=fun t=>EN ((3,.int .i64 0)::(7,l3 none a1.qa)::(8,I6 (a1.qa.length:Int))::t);refine WO.fn (e2:=z1 [(9,.int .i64 0)]) ?_;refine W.block ?_;obtain⟨hl1,h⟩:=qi h;refine W.wk<|W.range (σ:=(Int)) a1.qa (fun k1 s=>[(3,I6 s),(7,l3 none a1.qa),(8,I6 (a1.qa.length:Int)),(9,I6 (k1:Int))]) (fun r0 k0 s=>Qf (YB) r0 k0 s=some r) (fun v6 h=>?_) (fun x1 r1 k1 s hx1 hk1 h hN1=>?_) 0 h
 ·rw[Qf.eq_1]at h;refine W.sr<|WO.pq 0 (jB (qM (l:=a1.qa)))<|WO.fn (e2:=[(3,I6 v6),(7,l3 none a1.qa),(8,I6 (a1.qa.length:Int)),(9,I6 ((a1.qa).length:Int)),(10,.bool false)]) ?_;exact W.seq<|W.cF<|W.exit<|W.wk (hK4 v6 h)
 obtain⟨v6,rfl⟩:∃ x,x=s:=⟨s,rfl⟩;rw[Qf.eq_2]at h;refine W.sr<|WO.pq 0 (jB (qZ hk1))<|WO.fn (e2:=[(3,I6 v6),(7,l3 none a1.qa),(8,I6 (a1.qa.length:Int)),(9,I6 (k1:Int)),(10,.bool true)]) ?_;refine W.seq<|W.cT ?_;let y0:Env:=[(7,l3 none a1.qa),(8,I6 (a1.qa.length:Int)),(9,I6 (k1:Int))];refine W.sw (e:=((3,I6 v6)::y0)) ?_;refine W.seq<|W.join (σ:=(Int)) (fun s=>((3,I6 s)::y0)) (fun s=>(ZP (Qf (YB) r1 (k1+1))) s=some r) (fun v11 h=>?_) (fun hK7=>?_)
 ·unfold ZP at h;exact W.rg<|WO.pq 0 (jI (qC hl1 hk1))<|WO.fn (hN1 v11 h)
 refine W.block<|W.sr<|WO.pq 0 (ja (f:=(AV.int .i64)) hx1)<|WO.fn (e2:=((3,I6 v6)::(5,I6 x1)::y0)) ?_;refine W.seq<|W.rt (e2:=[(3,I6 v6),(5,I6 x1),(7,l3 none a1.qa),(8,I6 (a1.qa.length:Int)),(9,I6 (k1:Int)),(14,.bool (decide (x1 >= 0)))]) ?_;refine W.ch (decide (x1 >= 0)) h (fun h=>?_) (fun h=>?_)
 ·refine W.rg ?_;obtain⟨hc10,h⟩:=qi h;exact WO.pk 2 (if x1<0 then none else some (I6 (iShl .i64 1 x1))) (if_neg (qds hc10))<|WO.fn (hK7 (iOr .i64 v6 (iShl .i64 1 x1)) h)
 exact W.sw (hK7 v6 h)
def JK:Option Bool :=
 (some true)
def Xj (N4:(Option Bool)):Option Bool :=
 N4
def XZ (N5:(Option Bool)) (v67:Bool):Option Bool :=
 (bif v67 then (some false) else N5)
def JJ (x4:qn) (K61:(Option Bool)):List qn->Nat->Option Bool
 | [],k5=>K61
 | x5::r5,k5=>(bif (x4.f_0 == x5.f_0) then ((XZ (JJ x4 K61 r5 (k5+1))) (x4.f_1 != x5.f_1)) else ((XZ (JJ x4 K61 r5 (k5+1))) false))
def Jp (v58:(List qn)) (K59:(Option Bool)):List qn->Nat->Option Bool
 | [],k4=>K59
 | x4::r4,k4=>(chk (lenOk v58) (JJ x4 (Xj (Jp v58 K59 r4 (k4+1))) v58 0))
def ji (v58:(List qn)):Option Bool :=
 (chk (lenOk v58) (Jp v58 (JK) v58 0))
def jV (N2:((List qn)->Option Bool)) (v53:(List qn)) (v54:Int) (v55:Int):Option Bool :=
 (bif (v54 != v55) then (some false) else (N2 v53))
def Xk (x3:rf3Lit) (v36:(List qn)) (N3:((List qn)->Int->Int->Option Bool)) (v51:Int) (v52:Int):Option Bool :=
 (N3 (v36++[(qn.mk x3.qe.qb (x3.qe.qa.length:Int))]) v51 v52)
def jc (K34:((List qn)->Int->Int->Option Bool)):List rf3Lit->Nat->(List qn)->Int->Int->Option Bool
 | [],k3,v36,v37,v38=>(K34 v36 v37 v38)
 | x3::r3,k3,v36,v37,v38=>((UF x3.qe).bind fun w43=>(bif (!w43) then (some false) else (chk (capOk 16 ((v36++[(qn.mk x3.qe.qb (x3.qe.qa.length:Int))])).length) ((VH x3.qe).bind fun w48=>(bif (!x3.qr) then ((VH x3.qe).bind fun w50=>((Xk x3 v36 (jc K34 r3 (k3+1))) (iOr .i64 v37 w48) (iOr .i64 v38 w50))) else ((Xk x3 v36 (jc K34 r3 (k3+1))) (iOr .i64 v37 w48) v38))))))
def Ya (x2:rf3Rule) (v22:(List qn)) (N2:((List qn)->Option Bool)) (v28:Bool):Option Bool :=
 (bif v28 then (some false) else (chk (capOk 16 ((v22++[(qn.mk x2.qf.qb (x2.qf.qa.length:Int))])).length) ((VH x2.qf).bind fun w33=>(chk (lenOk x2.qc) (jc (jV N2) x2.qc 0 (v22++[(qn.mk x2.qf.qb (x2.qf.qa.length:Int))]) w33 0)))))
def qT (K20:((List qn)->Option Bool)):List rf3Rule->Nat->(List qn)->Option Bool
 | [],k2,v22=>(K20 v22)
 | x2::r2,k2,v22=>((UF x2.qf).bind fun w27=>(bif (!w27) then ((Ya x2 v22 (qT K20 r2 (k2+1))) true) else ((Ya x2 v22 (qT K20 r2 (k2+1))) (decide ((x2.qc.length:Int) > 3)))))
def YQ (a1:(List rf3Rule)) (v19:(List qn)):Option Bool :=
 (chk (lenOk a1) (qT (ji) a1 0 v19))
def Qy (K9:((List qn)->Option Bool)):List apiFact->Nat->(List qn)->Option Bool
 | [],k1,v11=>(K9 v11)
 | x1::r1,k1,v11=>((Zh x1).bind fun w16=>(bif (!w16) then (some false) else (chk (capOk 16 ((v11++[(qn.mk x1.qb (x1.qa.length:Int))])).length) ((Qy K9 r1 (k1+1)) (v11++[(qn.mk x1.qb (x1.qa.length:Int))])))))
def YR (a1:(List rf3Rule)) (a2:(List apiFact)) (v6:Bool):Option Bool :=
 (bif v6 then (some false) else (chk (lenOk a2) (Qy (YQ a1) a2 0 ([]:(List qn)))))
def Vp (a1:(List rf3Rule)) (a2:(List apiFact)):Option Bool :=
 (bif (decide ((a1.length:Int) > 10)) then ((YR a1 a2) true) else ((YR a1 a2) (decide ((a2.length:Int) > 20))))
theorem qdo (a1:(List rf3Rule)) (a2:(List apiFact)) (r:Bool) (h:Vp a1 a2=some r):Run Try.prog (.call 20 [l94 none a1,l41 none a2] (.bool r)):=by
 refine cW Try.func20 rfl (env0:=[(0,l94 none a1),(1,l41 none a2)]) ?_;unfold Vp at h;refine W.seq ?_;let z0:=fun t=>EN ((0,l94 none a1)::t);let z1:=fun t=>z0 ((1,l41 none a2)::t);refine W.rt (e2:=z1 []) ?_;refine W.seq<|W.seq<|W.join (σ:=(Bool)) (fun s=>z1 [(25,.bool s)]) (fun s=>(YR a1 a2) s=some r) (fun v6 h=>?_) (fun hK5=>?_)
 ·unfold YR at h;refine W.ch v6 h (fun h=>?_) (fun h=>?_)
  ·refine W.seq<|W.rt (e2:=[(4,.bool false)]) ?_;refine W.wk (e:=[(4,.bool false)]) ?_;cases h;exact W.rr
  refine W.sw (e:=z1 []) ?_;refine W.seq<|W.rt (e2:=z1 [(5,.nils)]) ?_;refine W.seq<|W.join (σ:=((List qn))) (fun s=>z0 [(5,l112 (some 10500) s)]) (fun s=>(YQ a1) s=some r) (fun v19 h=>?_) (fun hK9=>?_)
  ·unfold YQ at h;refine W.seq<|W.join (σ:=((List qn))) (fun s=>[(5,l112 (some 10500) s)]) (fun s=>(ji) s=some r) (fun v58 h=>?_) (fun hK20=>?_)
   ·unfold ji at h;refine W.seq<|W.join (σ:=Unit) (fun s=>[]) (fun s=>(JK)=some r) (fun s h=>?_) (fun hK59=>?_)
    ·unfold JK at h;refine W.seq<|W.rt (e2:=[(4,.bool true)]) ?_;refine W.wk (e:=[(4,.bool true)]) ?_;cases h;exact W.rr
    refine W.sr<|WO.pq 1 (jM XG v58) ?_;let z2:=fun t=>EN ((5,l112 (some 10500) v58)::t);let z3:=fun t=>z2 ((115,l112 (some 10500) v58)::(116,I6 (v58.length:Int))::t);refine WO.fn (e2:=z3 [(117,.int .i64 0)]) ?_;refine W.block ?_;obtain⟨hl4,h⟩:=qi h;refine W.wk<|W.range (σ:=Unit) v58 (fun k4 s=>z3 [(117,I6 (k4:Int))]) (fun r0 k0 s=>Jp v58 (JK) r0 k0=some r) (fun s h=>?_) (fun x4 r4 k4 s hx4 hk4 h hN4=>?_) () h
    ·rw[Jp.eq_1]at h;refine W.sr<|WO.pq 0 (jB (qM (l:=v58)))<|WO.fn (e2:=z3 [(117,I6 ((v58).length:Int)),(118,.bool false)]) ?_;exact W.seq<|W.cF<|W.exit<|W.wk (hK59 () h)
    rw[Jp.eq_2]at h;refine W.sr<|WO.pq 0 (jB (qZ hk4))<|WO.fn (e2:=z3 [(117,I6 (k4:Int)),(118,.bool true)]) ?_;refine W.seq<|W.cT ?_;let y0:Env:=[(115,l112 (some 10500) v58),(116,I6 (v58.length:Int)),(117,I6 (k4:Int))];refine W.sw (e:=z2 y0) ?_;refine W.seq<|W.join (σ:=Unit) (fun s=>z2 y0) (fun s=>(Xj (Jp v58 (JK) r4 (k4+1)))=some r) (fun s h=>?_) (fun hK61=>?_)
    ·unfold Xj at h;exact W.rg<|WO.pq 0 (jI (qC hl4 hk4))<|WO.fn (hN4 () h)
    refine W.block<|W.sr<|WO.pq 0 (ja (f:=XG) hx4) ?_;let z4:=fun t=>z2 ((15,.ptr (.agg [I6 x4.f_0,I6 x4.f_1]))::t);refine WO.fi [5,15,115,116,117] [15] (e2:=z4 y0) ?_;refine W.sr<|WO.pq 1 (jM XG v58) ?_;let z5:=fun t=>z4 ((115,l112 (some 10500) v58)::(116,I6 (v58.length:Int))::(117,I6 (k4:Int))::(121,l112 (some 10500) v58)::(122,I6 (v58.length:Int))::t);refine WO.fn (e2:=z5 [(123,.int .i64 0)]) ?_;refine W.block ?_;obtain⟨hl5,h⟩:=qi h;refine W.wk<|W.range (σ:=Unit) v58 (fun k5 s=>z5 [(123,I6 (k5:Int))]) (fun r0 k0 s=>JJ x4 (Xj (Jp v58 (JK) r4 (k4+1))) r0 k0=some r) (fun s h=>?_) (fun x5 r5 k5 s hx5 hk5 h hN5=>?_) () h
    ·rw[JJ.eq_1]at h;refine W.sr<|WO.pq 0 (jB (qM (l:=v58)))<|WO.fn (e2:=z5 [(123,I6 ((v58).length:Int)),(124,.bool false)]) ?_;exact W.seq<|W.cF<|W.exit<|W.wk (hK61 () h)
    rw[JJ.eq_2]at h;refine W.sr<|WO.pq 0 (jB (qZ hk5)) ?_;let z6:=fun t=>z5 ((123,I6 (k5:Int))::t);refine WO.fn (e2:=z6 [(124,.bool true)]) ?_;refine W.seq<|W.cT ?_;let y1:Env:=[(115,l112 (some 10500) v58),(116,I6 (v58.length:Int)),(117,I6 (k4:Int)),(121,l112 (some 10500) v58),(122,I6 (v58.length:Int)),(123,I6 (k5:Int))];refine W.sw (e:=z4 y1) ?_;refine W.seq<|W.block<|W.sr<|WO.pq 0 (ja (f:=XG) hx5) ?_;let z7:=fun t=>z4 ((17,.ptr (.agg [I6 x5.f_0,I6 x5.f_1]))::t);refine WO.fi [5,15,17,115,116,117,121,122,123] [17] (e2:=z7 y1) ?_;refine W.seq<|W.join (σ:=(Bool)) (fun s=>z6 [(138,.bool s)]) (fun s=>(XZ (JJ x4 (Xj (Jp v58 (JK) r4 (k4+1))) r5 (k5+1))) s=some r) (fun v67 h=>?_) (fun hK66=>?_)
    ·unfold XZ at h;refine W.ch v67 h (fun h=>?_) (fun h=>?_)
     ·refine W.seq<|W.rt (e2:=[(4,.bool false)]) ?_;refine W.wk (e:=[(4,.bool false)]) ?_;cases h;exact W.rr
     refine W.sw (e:=z4 y1) ?_;exact W.rg<|WO.pq 0 (jI (qC hl5 hk5))<|WO.fn (hN5 () h)
    refine W.rg<|WO.bh 6 (fun b=>z7 [(115,l112 (some 10500) v58),(116,I6 (v58.length:Int)),(117,I6 (k4:Int)),(121,l112 (some 10500) v58),(122,I6 (v58.length:Int)),(123,I6 (k5:Int)),(127,.ptr (I6 x4.f_0)),(128,I6 x4.f_0),(129,.ptr (I6 x5.f_0)),(130,I6 x5.f_0),(131,.bool b),(132,.bool b)]) (x4.f_0 == x5.f_0) h (fun h=>?_) (fun h=>?_)
    ·exact WO.fn (hK66 (x4.f_1 != x5.f_1) h)
    exact WO.fn (hK66 false h)
   refine W.sr<|WO.pq 1 (jM Xn a1) ?_;let z8:=fun t=>EN ((5,l112 (some 10500) v19)::(45,l94 none a1)::(46,I6 (a1.length:Int))::t);refine WO.fn (e2:=z8 [(47,.int .i64 0)]) ?_;refine W.block ?_;obtain⟨hl2,h⟩:=qi h;refine W.wk<|W.range (σ:=((List qn))) a1 (fun k2 s=>[(5,l112 (some 10500) s),(45,l94 none a1),(46,I6 (a1.length:Int)),(47,I6 (k2:Int))]) (fun r0 k0 s=>qT (ji) r0 k0 s=some r) (fun v22 h=>?_) (fun x2 r2 k2 s hx2 hk2 h hN2=>?_) v19 h
   ·rw[qT.eq_1]at h;refine W.sr<|WO.pq 0 (jB (qM (l:=a1)))<|WO.fn (e2:=[(5,l112 (some 10500) v22),(45,l94 none a1),(46,I6 (a1.length:Int)),(47,I6 ((a1).length:Int)),(48,.bool false)]) ?_;exact W.seq<|W.cF<|W.exit<|W.wk (hK20 v22 h)
   obtain⟨v22,rfl⟩:∃ x,x=s:=⟨s,rfl⟩;rw[qT.eq_2]at h;refine W.sr<|WO.pq 0 (jB (qZ hk2)) ?_;let z9:=fun t=>EN ((5,l112 (some 10500) v22)::t);refine WO.fn (e2:=z9 [(45,l94 none a1),(46,I6 (a1.length:Int)),(47,I6 (k2:Int)),(48,.bool true)]) ?_;refine W.seq<|W.cT ?_;let y2:Env:=[(45,l94 none a1),(46,I6 (a1.length:Int)),(47,I6 (k2:Int))];refine W.sw (e:=z9 y2) ?_;refine W.seq<|W.block<|W.sr<|WO.pq 0 (ja (f:=Xn) hx2) ?_;let y3:Env:=(9,.ptr (.agg [I6 x2.qf.qb,l3 none x2.qf.qa,l96 none x2.qc]))::y2;refine WO.fi [5,9,45,46,47] [9] (e2:=z9 y3) ?_;refine W.seq<|W.seq ?_;let z10:=fun t=>z9 ((9,.ptr (.agg [I6 x2.qf.qb,l3 none x2.qf.qa,l96 none x2.qc]))::(45,l94 none a1)::(46,I6 (a1.length:Int))::(47,I6 (k2:Int))::t);refine W.join (σ:=(Bool)) (fun s=>z10 [(60,.bool s)]) (fun s=>(Ya x2 v22 (qT (ji) r2 (k2+1))) s=some r) (fun v28 h=>?_) (fun hK26=>?_)
   ·unfold Ya at h;refine W.ch v28 h (fun h=>?_) (fun h=>?_)
    ·refine W.seq<|W.rt (e2:=[(4,.bool false)]) ?_;refine W.wk (e:=[(4,.bool false)]) ?_;cases h;exact W.rr
    refine W.sw (e:=z9 y3) ?_;refine W.sr<|WO.pq 7 (jM (.int .i64) x2.qf.qa) ?_;obtain⟨hc31,h⟩:=qi h;refine WO.ak 2 71 112 2 XG v22 [(qn.mk x2.qf.qb (x2.qf.qa.length:Int))] hc31 ?_;let z11:=fun t=>EN ((5,l112 (some 71) (v22++[(qn.mk x2.qf.qb (x2.qf.qa.length:Int))]))::t);refine WO.fn (e2:=z11 y3) ?_;refine W.sr ?_;obtain⟨w33,hw33,h⟩:=qd h;refine WO.ck 2 (F:=62) (l:=[.agg [I6 x2.qf.qb,l3 none x2.qf.qa]]) (C:=[]) (r:=I6 w33) (UV x2.qf w33 hw33)<|WO.fn (e2:=z11 ((9,.ptr (.agg [I6 x2.qf.qb,l3 none x2.qf.qa,l96 none x2.qc]))::(10,I6 w33)::(11,.int .i64 0)::y2)) ?_;refine W.seq<|W.join (σ:=((List qn)×Int×Int)) (fun s=>((5,l112 (some 10500) s.1)::(10,I6 s.2.1)::(11,I6 s.2.2)::y2)) (fun s=>(jV (qT (ji) r2 (k2+1))) s.1 s.2.1 s.2.2=some r) (fun s h=>?_) (fun hK34=>?_)
    ·obtain⟨v53,v54,v55⟩:=s;have h:(jV (qT (ji) r2 (k2+1))) v53 v54 v55=some r:=h;unfold jV at h;refine W.seq ?_;let z12:=fun t=>EN ((5,l112 (some 10500) v53)::(45,l94 none a1)::(46,I6 (a1.length:Int))::t);refine W.rt (e2:=z12 [(47,I6 (k2:Int)),(113,.bool (v54 != v55))]) ?_;refine W.ch (v54 != v55) h (fun h=>?_) (fun h=>?_)
     ·refine W.seq<|W.rt (e2:=[(4,.bool false)]) ?_;refine W.wk (e:=[(4,.bool false)]) ?_;cases h;exact W.rr
     refine W.sw (e:=((5,l112 (some 10500) v53)::y2)) ?_;exact W.rg<|WO.pq 0 (jI (qC hl2 hk2))<|WO.fn (hN2 v53 h)
    refine W.sr<|WO.pq 2 (jM XF x2.qc)<|WO.fn (e2:=z11 [(10,I6 w33),(11,.int .i64 0),(45,l94 none a1),(46,I6 (a1.length:Int)),(47,I6 (k2:Int)),(76,l96 none x2.qc),(77,I6 (x2.qc.length:Int)),(78,.int .i64 0)]) ?_;refine W.block ?_;obtain⟨hl3,h⟩:=qi h;refine W.weak [5,10,11,45,46,47,76,77,78] [] [] [(71,some 10500)] (env':=[(5,l112 (some 10500) (v22++[(qn.mk x2.qf.qb (x2.qf.qa.length:Int))])),(10,I6 w33),(11,.int .i64 0),(45,l94 none a1),(46,I6 (a1.length:Int)),(47,I6 (k2:Int)),(76,l96 none x2.qc),(77,I6 (x2.qc.length:Int)),(78,I6 ((0:Nat):Int))]) kR<|W.range (σ:=((List qn)×Int×Int)) x2.qc (fun k3 s=>[(5,l112 (some 10500) s.1),(10,I6 s.2.1),(11,I6 s.2.2),(45,l94 none a1),(46,I6 (a1.length:Int)),(47,I6 (k2:Int)),(76,l96 none x2.qc),(77,I6 (x2.qc.length:Int)),(78,I6 (k3:Int))]) (fun r0 k0 s=>jc (jV (qT (ji) r2 (k2+1))) r0 k0 s.1 s.2.1 s.2.2=some r) (fun s h=>?_) (fun x3 r3 k3 s hx3 hk3 h hN3=>?_) ((v22++[(qn.mk x2.qf.qb (x2.qf.qa.length:Int))]),w33,0) h
    ·obtain⟨v36,v37,v38⟩:=s;have h:jc (jV (qT (ji) r2 (k2+1))) [] (x2.qc).length v36 v37 v38=some r:=h;rw[jc.eq_1]at h;refine W.sr<|WO.pq 0 (jB (qM (l:=x2.qc))) ?_;let z13:=fun t=>EN ((5,l112 (some 10500) v36)::(10,I6 v37)::(11,I6 v38)::t);refine WO.fn (e2:=z13 [(45,l94 none a1),(46,I6 (a1.length:Int)),(47,I6 (k2:Int)),(76,l96 none x2.qc),(77,I6 (x2.qc.length:Int)),(78,I6 ((x2.qc).length:Int)),(79,.bool false)]) ?_;exact W.seq<|W.cF<|W.exit<|W.wk (hK34 (v36,v37,v38) h)
    obtain⟨v36,v37,v38⟩:=s;have h:jc (jV (qT (ji) r2 (k2+1))) (x3::r3) k3 v36 v37 v38=some r:=h;rw[jc.eq_2]at h;refine W.sr<|WO.pq 0 (jB (qZ hk3)) ?_;let z14:=fun t=>EN ((5,l112 (some 10500) v36)::(10,I6 v37)::t);refine WO.fn (e2:=z14 [(11,I6 v38),(45,l94 none a1),(46,I6 (a1.length:Int)),(47,I6 (k2:Int)),(76,l96 none x2.qc),(77,I6 (x2.qc.length:Int)),(78,I6 (k3:Int)),(79,.bool true)]) ?_;refine W.seq<|W.cT ?_;let y4:Env:=[(45,l94 none a1),(46,I6 (a1.length:Int)),(47,I6 (k2:Int)),(76,l96 none x2.qc),(77,I6 (x2.qc.length:Int)),(78,I6 (k3:Int))];refine W.sw (e:=z14 ((11,I6 v38)::y4)) ?_;refine W.seq ?_;let z15:=fun t=>EN ((5,l112 (some 96) (v36++[(qn.mk x3.qe.qb (x3.qe.qa.length:Int))]))::t);refine W.join (σ:=(Int×Int)) (fun s=>z15 ((10,I6 s.1)::(11,I6 s.2)::y4)) (fun s=>(Xk x3 v36 (jc (jV (qT (ji) r2 (k2+1))) r3 (k3+1))) s.1 s.2=some r) (fun s h=>?_) (fun hK39=>?_)
    ·obtain⟨v51,v52⟩:=s;have h:(Xk x3 v36 (jc (jV (qT (ji) r2 (k2+1))) r3 (k3+1))) v51 v52=some r:=h;unfold Xk at h;refine W.rg<|WO.pq 0 (jI (qC hl3 hk3))<|WO.fin [5,10,11,45,46,47,76,77,78] [] [] [(96,some 10500)] (e2:=[(5,l112 (some 10500) (v36++[(qn.mk x3.qe.qb (x3.qe.qa.length:Int))])),(10,I6 v51),(11,I6 v52),(45,l94 none a1),(46,I6 (a1.length:Int)),(47,I6 (k2:Int)),(76,l96 none x2.qc),(77,I6 (x2.qc.length:Int)),(78,I6 ((k3+1:Nat):Int))]) kR (fun _ h=>h) ?_;exact hN3 ((v36++[(qn.mk x3.qe.qb (x3.qe.qa.length:Int))]),v51,v52) h
    refine W.block<|W.sr<|WO.pq 0 (ja (f:=XF) hx3) ?_;let y5:Env:=(11,I6 v38)::(13,.ptr (.agg [.bool x3.qr,I6 x3.qe.qb,l3 none x3.qe.qa]))::y4;refine WO.fi [5,10,11,13,45,46,47,76,77,78] [13] (e2:=z14 y5) ?_;refine W.seq<|W.sr ?_;obtain⟨w43,hw43,h⟩:=qd h;refine WO.ck 2 (F:=61) (l:=[.agg [I6 x3.qe.qb,l3 none x3.qe.qa]]) (C:=[]) (r:=.bool w43) (qag x3.qe w43 hw43)<|WO.fn (e2:=z14 [(11,I6 v38),(13,.ptr (.agg [.bool x3.qr,I6 x3.qe.qb,l3 none x3.qe.qa])),(45,l94 none a1),(46,I6 (a1.length:Int)),(47,I6 (k2:Int)),(76,l96 none x2.qc),(77,I6 (x2.qc.length:Int)),(78,I6 (k3:Int)),(85,.bool (!w43))]) ?_;refine W.ch (!w43) h (fun h=>?_) (fun h=>?_)
    ·refine W.seq<|W.rt (e2:=[(4,.bool false)]) ?_;refine W.wk (e:=[(4,.bool false)]) ?_;cases h;exact W.rr
    refine W.sw (e:=z14 y5) ?_;refine W.sr<|WO.pq 7 (jM (.int .i64) x3.qe.qa) ?_;obtain⟨hc46,h⟩:=qi h;refine WO.ak 2 96 112 2 XG v36 [(qn.mk x3.qe.qb (x3.qe.qa.length:Int))] hc46<|WO.fn (e2:=z15 ((10,I6 v37)::y5)) ?_;refine W.sr ?_;obtain⟨w48,hw48,h⟩:=qd h;refine WO.ck 3 (F:=62) (l:=[.agg [I6 x3.qe.qb,l3 none x3.qe.qa]]) (C:=[]) (r:=I6 w48) (UV x3.qe w48 hw48) ?_;let z16:=fun t=>z15 ((10,I6 (iOr .i64 v37 w48))::t);refine WO.fn (e2:=z16 y5) ?_;refine W.seq<|W.rt (e2:=z16 [(11,I6 v38),(13,.ptr (.agg [.bool x3.qr,I6 x3.qe.qb,l3 none x3.qe.qa])),(45,l94 none a1),(46,I6 (a1.length:Int)),(47,I6 (k2:Int)),(76,l96 none x2.qc),(77,I6 (x2.qc.length:Int)),(78,I6 (k3:Int)),(104,.bool (!x3.qr))]) ?_;refine W.ch (!x3.qr) h (fun h=>?_) (fun h=>?_)
    ·refine W.rg ?_;obtain⟨w50,hw50,h⟩:=qd h;exact WO.ck 3 (F:=62) (l:=[.agg [I6 x3.qe.qb,l3 none x3.qe.qa]]) (C:=[]) (r:=I6 w50) (UV x3.qe w50 hw50)<|WO.fn (hK39 ((iOr .i64 v37 w48),(iOr .i64 v38 w50)) h)
    exact W.sw (hK39 ((iOr .i64 v37 w48),v38) h)
   refine W.rg ?_;obtain⟨w27,hw27,h⟩:=qd h;refine WO.ck 2 (F:=61) (l:=[.agg [I6 x2.qf.qb,l3 none x2.qf.qa]]) (C:=[]) (r:=.bool w27) (qag x2.qf w27 hw27)<|WO.bh 2 (fun b=>z10 [(51,.ptr (.agg [I6 x2.qf.qb,l3 none x2.qf.qa])),(52,.agg [I6 x2.qf.qb,l3 none x2.qf.qa]),(53,.bool w27),(54,.bool b),(55,.bool b)]) (!w27) h (fun h=>?_) (fun h=>?_)
   ·exact WO.fn (hK26 true h)
   exact WO.pq 2 (jM XF x2.qc)<|WO.fn (hK26 (decide ((x2.qc.length:Int) > 3)) h)
  refine W.sr<|WO.pq 1 (jM qA a2)<|WO.fn (e2:=z0 [(5,.nils),(26,l41 none a2),(27,I6 (a2.length:Int)),(28,.int .i64 0)]) ?_;refine W.block ?_;obtain⟨hl1,h⟩:=qi h;refine W.weak [0,5,26,27,28] [] [(5,0,112,2,10500)] [] (env':=z0 [(5,l112 (some 10500) ([]:(List qn))),(26,l41 none a2),(27,I6 (a2.length:Int)),(28,I6 ((0:Nat):Int))]) kR<|W.range (σ:=((List qn))) a2 (fun k1 s=>z0 [(5,l112 (some 10500) s),(26,l41 none a2),(27,I6 (a2.length:Int)),(28,I6 (k1:Int))]) (fun r0 k0 s=>Qy (YQ a1) r0 k0 s=some r) (fun v11 h=>?_) (fun x1 r1 k1 s hx1 hk1 h hN1=>?_) ([]:(List qn)) h
  ·rw[Qy.eq_1]at h;refine W.sr<|WO.pq 0 (jB (qM (l:=a2)))<|WO.fn (e2:=z0 [(5,l112 (some 10500) v11),(26,l41 none a2),(27,I6 (a2.length:Int)),(28,I6 ((a2).length:Int)),(29,.bool false)]) ?_;exact W.seq<|W.cF<|W.exit<|W.wk (hK9 v11 h)
  obtain⟨v11,rfl⟩:∃ x,x=s:=⟨s,rfl⟩;rw[Qy.eq_2]at h;refine W.sr<|WO.pq 0 (jB (qZ hk1)) ?_;let z17:=fun t=>z0 ((5,l112 (some 10500) v11)::t);refine WO.fn (e2:=z17 [(26,l41 none a2),(27,I6 (a2.length:Int)),(28,I6 (k1:Int)),(29,.bool true)]) ?_;refine W.seq<|W.cT ?_;let y6:Env:=[(26,l41 none a2),(27,I6 (a2.length:Int)),(28,I6 (k1:Int))];refine W.sw (e:=z17 y6) ?_;refine W.seq<|W.block<|W.sr<|WO.pq 0 (ja (f:=qA) hx1) ?_;let y7:Env:=(5,l112 (some 10500) v11)::(7,.ptr (.agg [I6 x1.qb,l3 none x1.qa]))::y6;refine WO.fi [0,5,7,26,27,28] [7] (e2:=z0 y7) ?_;refine W.seq<|W.sr ?_;obtain⟨w16,hw16,h⟩:=qd h;refine WO.ck 1 (F:=33) (l:=[.agg [I6 x1.qb,l3 none x1.qa]]) (C:=[]) (r:=.bool w16) (qcl x1 w16 hw16)<|WO.fn (e2:=z17 [(7,.ptr (.agg [I6 x1.qb,l3 none x1.qa])),(26,l41 none a2),(27,I6 (a2.length:Int)),(28,I6 (k1:Int)),(34,.bool (!w16))]) ?_;refine W.ch (!w16) h (fun h=>?_) (fun h=>?_)
  ·refine W.seq<|W.rt (e2:=[(4,.bool false)]) ?_;refine W.wk (e:=[(4,.bool false)]) ?_;cases h;exact W.rr
  refine W.sw (e:=z0 y7) ?_;refine W.rg<|WO.pq 5 (jM (.int .i64) x1.qa) ?_;obtain⟨hc18,h⟩:=qi h;refine WO.ak 2 43 112 2 XG v11 [(qn.mk x1.qb (x1.qa.length:Int))] hc18<|WO.fn (e2:=z0 ((5,l112 (some 43) (v11++[(qn.mk x1.qb (x1.qa.length:Int))]))::y6)) ?_;refine W.rg<|WO.pq 0 (jI (qC hl1 hk1))<|WO.fin [0,5,26,27,28] [] [] [(43,some 10500)] (e2:=z0 [(5,l112 (some 10500) (v11++[(qn.mk x1.qb (x1.qa.length:Int))])),(26,l41 none a2),(27,I6 (a2.length:Int)),(28,I6 ((k1+1:Nat):Int))]) kR (fun _ h=>h) ?_;exact hN1 (v11++[(qn.mk x1.qb (x1.qa.length:Int))]) h
 refine W.rg<|WO.pq 1 (jM Xn a1)<|WO.bh 2 (fun b=>z1 [(18,l94 none a1),(19,I6 (a1.length:Int)),(20,.bool b),(21,.bool b)]) (decide ((a1.length:Int) > 10)) h (fun h=>?_) (fun h=>?_)
 ·exact WO.fn (hK5 true h)
 exact WO.pq 1 (jM qA a2)<|WO.fn (hK5 (decide ((a2.length:Int) > 20)) h)
def NM (v30:(List Int)):Option ((List Int)×Int) :=
 (some ((snap 0 (A0 6) v30),0))
def Yb (v30:(List Int)) (K31:(Option ((List Int)×Int))):List Nat->Nat->Option ((List Int)×Int)
 | [],k4=>K31
 | x4::r4,k4=>(chk (decide ((0:Int)<=(k4:Int)/\(k4:Int)<(((A0 6):Nat):Int))) ((v30[(0+A0 (k4:Int))]?).bind fun e36=>(bif (decide (e36 > 5)) then (some ((snap 0 (([]:(List Int)).length) ([]:(List Int))),8)) else (Yb v30 K31 r4 (k4+1)))))
def Dr (v30:(List Int)):Option ((List Int)×Int) :=
 (chk (lenOk (A5 (A0 (((A0 6):Nat):Int)))) (Yb v30 (NM v30) (A5 (A0 (((A0 6):Nat):Int))) 0))
def Dq (N1:((List Int)->Option ((List Int)×Int))) (v29:(List Int)):Option ((List Int)×Int) :=
 (N1 v29)
def NO (N2:((List Int)->Option ((List Int)×Int))) (v28:(List Int)):Option ((List Int)×Int) :=
 (N2 v28)
def YS (x2:rf3Rule) (v14:(List Int)) (N3:((List Int)->Option ((List Int)×Int))) (v22:Int):Option ((List Int)×Int) :=
 (chk (decide ((0:Int)<=x2.qf.qb/\x2.qf.qb<(((A0 6):Nat):Int))) ((v14[(0+A0 x2.qf.qb)]?).bind fun e24=>(chk (decide ((0:Int)<=x2.qf.qb/\x2.qf.qb<(((A0 6):Nat):Int))) ((upd v14 (0+A0 x2.qf.qb) (if v22 > e24 then v22 else e24)).bind fun u26=>(N3 u26)))))
def QF (x2:rf3Rule) (K11:((List Int)->Option ((List Int)×Int))):List rf3Lit->Nat->(List Int)->Option ((List Int)×Int)
 | [],k3,v14=>(K11 v14)
 | x3::r3,k3,v14=>(chk (decide ((0:Int)<=x3.qe.qb/\x3.qe.qb<(((A0 6):Nat):Int))) ((v14[(0+A0 x3.qe.qb)]?).bind fun e19=>(bif x3.qr then ((YS x2 v14 (QF x2 K11 r3 (k3+1))) (A1 .i64 (e19+1))) else ((YS x2 v14 (QF x2 K11 r3 (k3+1))) e19))))
def Yc (K8:((List Int)->Option ((List Int)×Int))):List rf3Rule->Nat->(List Int)->Option ((List Int)×Int)
 | [],k2,v10=>(K8 v10)
 | x2::r2,k2,v10=>(chk (lenOk x2.qc) (QF x2 (NO (Yc K8 r2 (k2+1))) x2.qc 0 v10))
def Yd (a1:(List rf3Rule)) (K5:((List Int)->Option ((List Int)×Int))):List Nat->Nat->(List Int)->Option ((List Int)×Int)
 | [],k1,v7=>(K5 v7)
 | x1::r1,k1,v7=>(chk (lenOk a1) (Yc (Dq (Yd a1 K5 r1 (k1+1))) a1 0 v7))
def VF (a1:(List rf3Rule)):Option ((List Int)×Int) :=
 (chk (mkOk 8 6) (chk (lenOk (A5 (A0 60))) (Yd a1 (Dr) (A5 (A0 60)) 0 (A3 (A0 6) 0))))
def QK (a1:Int) (a2:(List Int)):Option Int :=
 (bif ((a2.length:Int) == 1) then ((idx a2 0).bind fun e7=>(some (A1 .i64 ((A1 .i64 ((A1 .i64 (a1 * 42))+e7)) - 1)))) else ((idx a2 0).bind fun e9=>((idx a2 1).bind fun e10=>(some (A1 .i64 ((A1 .i64 ((A1 .i64 ((A1 .i64 (a1 * 42))+(A1 .i64 (e9 * 6))))+e10)) - 1))))))
def qaV (v12:(List Bool)):Option (List Bool) :=
 (chk (decide (v12.length=252)) (chk (decide (v12.length=252/\(A3 252 false).length=252)) (chk (decide (v12.length=252)) (some v12))))
def UG (K4:((List Bool)->Option (List Bool))):List apiFact->Nat->(List Bool)->Option (List Bool)
 | [],k1,v6=>(K4 v6)
 | x1::r1,k1,v6=>((QK x1.qb x1.qa).bind fun w9=>(chk (decide ((0:Int)<=w9/\w9<((252:Nat):Int)/\0<1)) (chk (decide ((0+A0 w9 * 1)<v6.length)) ((UG K4 r1 (k1+1)) (v6.set (0+A0 w9 * 1) true)))))
def qfg (a1:(List apiFact)):Option (List Bool) :=
 (chk (lenOk a1) (UG (qaV) a1 0 (A3 252 false)))
def qcr (a1:Int):Option apiFact :=
 (bif (decide (((a1).tmod 42) >= 6)) then (some (apiFact.mk (A1 .i64 ((a1).tdiv 42)) [(A1 .i64 ((((a1).tmod 42)).tdiv 6)),(A1 .i64 (((((a1).tmod 42)).tmod 6)+1))])) else (some (apiFact.mk (A1 .i64 ((a1).tdiv 42)) [(A1 .i64 (((a1).tmod 42)+1))])))
def YP (v65:(List (List Int))):Option (List (List Int)) :=
 (some v65)
def Jo (N1:((List (List Int))->Option (List (List Int)))) (v64:(List (List Int))):Option (List (List Int)) :=
 (N1 v64)
def Xp (a1:rf3Rule) (a2:(List Bool)) (a3:Int) (v25:(List (List Int))) (K0:(rf3Rule->(List Bool)->Int->(List Int)->Option (List (List Int)))) (K26:((List (List Int))->Option (List (List Int)))) (v57:(List Int)) (v58:Bool):Option (List (List Int)) :=
 (bif v58 then (chk (decide (a2.length=252)) (chk (decide (v57.length=8)) ((K0 a1 a2 (A1 .i64 (a3+1)) v57).bind fun w62=>(chk (capOk 64 ((v25++w62)).length) (K26 (v25++w62)))))) else (K26 v25))
def Jm (N2:((List Int)->Bool->Option (List (List Int)))) (v55:(List Int)) (v56:Bool):Option (List (List Int)) :=
 (N2 v55 v56)
def qH (w31:apiFact) (K38:((List Int)->Bool->Option (List (List Int)))):List Int->Nat->(List Int)->Bool->Option (List (List Int))
 | [],k2,v40,v41=>(K38 v40 v41)
 | x2::r2,k2,v40,v41=>(bif (decide (x2<0)) then (bif v41 then ((idx w31.qa (k2:Int)).bind fun e45=>((Jm (qH w31 K38 r2 (k2+1))) v40 (e45 == (A1 .i64 (0 - x2))))) else ((Jm (qH w31 K38 r2 (k2+1))) v40 false)) else (chk (decide ((0:Int)<=x2/\x2<((8:Nat):Int)/\0<1)) ((v40[(0+A0 x2 * 1)]?).bind fun e48=>(bif (e48 != 0) then (bif v41 then ((idx w31.qa (k2:Int)).bind fun e49=>(chk (decide ((0:Int)<=x2/\x2<((8:Nat):Int)/\0<1)) ((v40[(0+A0 x2 * 1)]?).bind fun e51=>((Jm (qH w31 K38 r2 (k2+1))) v40 (e49 == e51))))) else ((Jm (qH w31 K38 r2 (k2+1))) v40 false)) else ((idx w31.qa (k2:Int)).bind fun e52=>(chk (decide ((0:Int)<=x2/\x2<((8:Nat):Int)/\0<1)) (chk (decide ((0+A0 x2 * 1)<v40.length)) ((Jm (qH w31 K38 r2 (k2+1))) (v40.set (0+A0 x2 * 1) e52) v41))))))))
def Jn (a1:rf3Rule) (a2:(List Bool)) (a3:Int) (a4:(List Int)) (e14:rf3Lit) (v25:(List (List Int))) (w31:apiFact) (K0:(rf3Rule->(List Bool)->Int->(List Int)->Option (List (List Int)))) (K26:((List (List Int))->Option (List (List Int)))) (v34:Bool):Option (List (List Int)) :=
 (bif v34 then (K26 v25) else (chk (decide (a4.length=8)) (chk (decide (a4.length=8/\(A3 8 0).length=8)) (chk (lenOk e14.qe.qa) (qH w31 (Xp a1 a2 a3 v25 K0 K26) e14.qe.qa 0 a4 true)))))
def jH (a1:rf3Rule) (a2:(List Bool)) (a3:Int) (a4:(List Int)) (e14:rf3Lit) (K0:(rf3Rule->(List Bool)->Int->(List Int)->Option (List (List Int)))) (K22:((List (List Int))->Option (List (List Int)))):List Nat->Nat->(List (List Int))->Option (List (List Int))
 | [],k1,v25=>(K22 v25)
 | x1::r1,k1,v25=>(chk (decide ((0:Int)<=(k1:Int)/\(k1:Int)<((252:Nat):Int))) ((a2[A0 (k1:Int) * 1]?).bind fun e29=>((qcr (k1:Int)).bind fun w31=>(bif (!e29) then ((Jn a1 a2 a3 a4 e14 v25 w31 K0 (Jo (jH a1 a2 a3 a4 e14 K0 K22 r1 (k1+1)))) true) else (bif (w31.qb != e14.qe.qb) then ((Jn a1 a2 a3 a4 e14 v25 w31 K0 (Jo (jH a1 a2 a3 a4 e14 K0 K22 r1 (k1+1)))) true) else ((Jn a1 a2 a3 a4 e14 v25 w31 K0 (Jo (jH a1 a2 a3 a4 e14 K0 K22 r1 (k1+1)))) ((w31.qa.length:Int) != (e14.qe.qa.length:Int))))))))
def jU:Nat->rf3Rule->(List Bool)->Int->(List Int)->Option (List (List Int))
 | 0,_,_,_,_=>none
 | fuel+1,a1,a2,a3,a4=>(chk (!a2.isEmpty) (chk (!a4.isEmpty) (bif (a3 == (a1.qc.length:Int)) then (chk (decide (a4.length=8)) (chk (decide (a4.length=8)) (some [a4]))) else ((idx a1.qc a3).bind fun e14=>(bif e14.qr then (chk (decide (a2.length=252)) (chk (decide (a4.length=8)) (((jU fuel) a1 a2 (A1 .i64 (a3+1)) a4).bind fun w20=>(some w20)))) else (chk (decide (a2.length=252)) (chk (lenOk (A5 (A0 252))) (jH a1 a2 a3 a4 e14 (jU fuel) (YP) (A5 (A0 252)) 0 ([]:(List (List Int)))))))))))
def qaj (a1:rf2Atom) (v17:(List Int)):Option Int :=
 ((QK a1.qb v17).bind fun w19=>(some w19))
def Nc (N1:((List Int)->Option Int)) (v16:(List Int)):Option Int :=
 (N1 v16)
def XN (a2:(List Int)) (K6:((List Int)->Option Int)):List Int->Nat->(List Int)->Option Int
 | [],k1,v8=>(K6 v8)
 | x1::r1,k1,v8=>(bif (decide (x1<0)) then (chk (capOk 8 ((v8++[(A1 .i64 (0 - x1))])).length) ((Nc (XN a2 K6 r1 (k1+1))) (v8++[(A1 .i64 (0 - x1))]))) else (chk (decide ((0:Int)<=x1/\x1<((8:Nat):Int)/\0<1)) ((a2[(0+A0 x1 * 1)]?).bind fun e14=>(chk (capOk 8 ((v8++[e14])).length) ((Nc (XN a2 K6 r1 (k1+1))) (v8++[e14]))))))
def XO (a1:rf2Atom) (a2:(List Int)):Option Int :=
 (chk (!a2.isEmpty) (chk (lenOk a1.qa) (XN a2 (qaj a1) a1.qa 0 ([]:(List Int)))))
def qbs:Option Bool :=
 (some true)
def Nd (N1:(Option Bool)) (v16:Bool):Option Bool :=
 (bif v16 then (some false) else N1)
def Yz (a2:(List Int)) (a3:(List Bool)) (K7:(Option Bool)):List rf3Lit->Nat->Option Bool
 | [],k1=>K7
 | x1::r1,k1=>(bif x1.qr then (chk (decide (a2.length=8)) ((XO x1.qe a2).bind fun w13=>(chk (decide ((0:Int)<=w13/\w13<((252:Nat):Int)/\0<1)) ((a3[(0+A0 w13 * 1)]?).bind fun e15=>((Nd (Yz a2 a3 K7 r1 (k1+1))) e15))))) else ((Nd (Yz a2 a3 K7 r1 (k1+1))) false))
def NL (a1:rf3Rule) (a2:(List Int)) (a3:(List Bool)):Option Bool :=
 (chk (!a2.isEmpty) (chk (!a3.isEmpty) (chk (lenOk a1.qc) (Yz a2 a3 (qbs) a1.qc 0))))
def XX (v45:(List Bool)):Option (List Bool) :=
 (chk (decide (v45.length=252)) (chk (decide (v45.length=252/\(A3 252 false).length=252)) (chk (decide (v45.length=252)) (some v45))))
def Xy (N2:((List Bool)->Bool->Option (List Bool))) (v43:(List Bool)) (v44:Bool):Option (List Bool) :=
 (N2 v43 v44)
def Xx (N3:((List Bool)->Bool->Option (List Bool))) (v41:(List Bool)) (v42:Bool):Option (List Bool) :=
 (N3 v41 v42)
def Xw (v22:(List Bool)) (v23:Bool) (w30:Int) (K24:((List Bool)->Bool->Option (List Bool))) (v37:Bool):Option (List Bool) :=
 (bif v37 then (chk (decide ((0:Int)<=w30/\w30<((252:Nat):Int)/\0<1)) (chk (decide ((0+A0 w30 * 1)<v22.length)) (K24 (v22.set (0+A0 w30 * 1) true) true))) else (K24 v22 v23))
def Jv (x2:rf3Rule) (a3:(List Bool)) (K17:((List Bool)->Bool->Option (List Bool))):List (List Int)->Nat->(List Bool)->Bool->Option (List Bool)
 | [],k3,v22,v23=>(K17 v22 v23)
 | x3::r3,k3,v22,v23=>(chk (decide (x3.length=8)) (chk (decide (x3.length=8/\(A3 8 0).length=8)) (chk (decide (x3.length=8)) ((XO x2.qf x3).bind fun w30=>(chk (decide (x3.length=8)) (chk (decide (a3.length=252)) ((NL x2 x3 a3).bind fun w34=>(bif w34 then (chk (decide ((0:Int)<=w30/\w30<((252:Nat):Int)/\0<1)) ((v22[(0+A0 w30 * 1)]?).bind fun e36=>((Xw v22 v23 w30 (Xx (Jv x2 a3 K17 r3 (k3+1)))) (!e36)))) else ((Xw v22 v23 w30 (Xx (Jv x2 a3 K17 r3 (k3+1)))) false)))))))))
def Jw (fuel:Nat) (a3:(List Bool)) (N1:((List Bool)->Bool->Option (List Bool))):List rf3Rule->Nat->(List Bool)->Bool->Option (List Bool)
 | [],k2,v15,v16=>(N1 v15 v16)
 | x2::r2,k2,v15,v16=>(chk (decide (v15.length=252)) ((jU fuel x2 v15 0 (A3 8 0)).bind fun w21=>(chk (lenOk w21) (Jv x2 a3 (Xy (Jw fuel a3 N1 r2 (k2+1))) w21 0 v15 v16))))
def Jx (fuel:Nat) (a1:(List rf3Rule)) (a3:(List Bool)) (K7:((List Bool)->Option (List Bool))):Nat->(List Bool)->Bool->Option (List Bool)
 | 0,_,_=>none
 | m1+1,v9,v10=>(bif v10 then (chk (lenOk a1) (Jw fuel a3 (Jx fuel a1 a3 K7 m1) a1 0 v9 false)) else (K7 v9))
def QL (fuel:Nat) (a1:(List rf3Rule)) (a2:(List Bool)) (a3:(List Bool)):Option (List Bool) :=
 (chk (!a2.isEmpty) (chk (!a3.isEmpty) (Jx fuel a1 a3 (XX) fuel a2 true)))
def ZE (v34:(List Bool)):Option ((List Bool)×Int) :=
 (chk (decide (v34.length=252)) (chk (decide (v34.length=252/\(A3 252 false).length=252)) (chk (decide (v34.length=252)) (some (v34,0)))))
def Up (fuel:Nat) (v16:(List Bool)) (N1:((List Bool)->Option ((List Bool)×Int))) (v29:(List rf3Rule)):Option ((List Bool)×Int) :=
 (chk (decide (v16.length=252)) (chk (decide (v16.length=252)) ((QL fuel v29 v16 v16).bind fun w32=>(chk (decide (w32.length=252/\v16.length=252)) (N1 w32)))))
def Uo (N2:((List rf3Rule)->Option ((List Bool)×Int))) (v28:(List rf3Rule)):Option ((List Bool)×Int) :=
 (N2 v28)
def XP (k1:Nat) (w5:((List Int)×Int)) (K20:((List rf3Rule)->Option ((List Bool)×Int))):List rf3Rule->Nat->(List rf3Rule)->Option ((List Bool)×Int)
 | [],k2,v22=>(K20 v22)
 | x2::r2,k2,v22=>((idx w5.1 x2.qf.qb).bind fun e26=>(bif (e26 == (k1:Int)) then (chk (capOk 56 ((v22++[x2])).length) ((Uo (XP k1 w5 K20 r2 (k2+1))) (v22++[x2]))) else ((Uo (XP k1 w5 K20 r2 (k2+1))) v22)))
def QY (fuel:Nat) (a1:(List rf3Rule)) (w5:((List Int)×Int)) (K14:((List Bool)->Option ((List Bool)×Int))):List Nat->Nat->(List Bool)->Option ((List Bool)×Int)
 | [],k1,v16=>(K14 v16)
 | x1::r1,k1,v16=>(chk (lenOk a1) (XP k1 w5 (Up fuel v16 (QY fuel a1 w5 K14 r1 (k1+1))) a1 0 ([]:(List rf3Rule))))
def Hz (fuel:Nat) (a1:(List rf3Rule)) (a2:(List apiFact)):Option ((List Bool)×Int) :=
 ((VF a1).bind fun w5=>((qfg a2).bind fun w7=>(chk (decide (w7.length=252/\(A3 252 false).length=252)) (bif (w5.2 != 0) then (chk (decide ((A3 252 false).length=252/\(A3 252 false).length=252)) (chk (decide ((A3 252 false).length=252)) (some ((A3 252 false),w5.2)))) else (chk (lenOk (A5 (A0 6))) (QY fuel a1 w5 (ZE) (A5 (A0 6)) 0 w7))))))
def Qw (a1:(List Int)):Option (List Int):=chk (capOk 8 a1.length) (some a1)
theorem UB (a1:(List Int)) (r:(List Int)) (h:Qw a1=some r):Run Try.prog (.call 70 [l3 none a1] (l3 (some 1) r)):=by
 refine cW Try.func70 rfl (env0:=[(0,l3 none a1)]) ?_;unfold Qw at h;obtain⟨hc,h⟩:=qi h;cases h;refine W.regS [0] [] [] [] (e2:=[(0,l3 none a1)]) kR kR<|W.seqU (e0:=[(0,l3 none a1),(3,l3 none a1),(4,.ub (M6 a1).isEmpty)]) (e2:=[(2,l3 (some 1) a1)]) (ei:=[(0,l3 none a1)]) (M6 a1).isEmpty ?_ kR (fun hp=>?_) ?_ ?_ ?_
 ·exact W.region kR (WO.end0 (e2:=[(0,l3 none a1),(3,l3 none a1),(4,.ub (M6 a1).isEmpty)]) kR ⟨rfl,rfl⟩)
 ·have hl:a1=[]:=by simpa using hp
  subst hl;refine W.regS [2] [] [] [] (e2:=[(2,.nils)]) kR kR<|W.weak [2] [] [(2,0,3,1,1)] [] (env':=[(2,l3 (some 1) [])]) kR ?_;exact W.ret ⟨rfl,rfl⟩
 ·refine W.weak [0] [] [] [] (env':=[(0,l3 none a1)]) kR ?_;exact W.skip ⟨rfl,rfl⟩
 ·refine W.sr<|WO.appendK 2 (d:=7) (e:=3) (s:=1) (bytes:=8) (xs:=[]) (ys:=(M6 a1)) (zs:=(M6 a1)) (env1:=[(0,l3 none a1),(5,.lst 3 1 none []),(6,l3 none a1)]) kR rfl (by rw[C7];exact hc) (e1:=[(0,l3 none a1),(5,.lst 3 1 none []),(6,l3 none a1),(7,l3 (some 7) a1)]) kR ?_;refine WO.fin [2] [] [] [(7,some 1)] (e2:=[(2,l3 (some 1) a1)]) kR (fun _ h=>h) ?_;exact W.ret ⟨rfl,rfl⟩
 have hr:jJ Try.prog Try.f70 [(2,l3 (some 1) a1)]=some (l3 (some 1) a1):=by kernel_rfl
 exact hr
def UJ (a1:rf2Atom):Option qm :=
 ((sub a1.qa 0 (if 5<(a1.qa.length:Int) then 5 else (a1.qa.length:Int))).bind fun e4=>((Qw e4).bind fun w5=>(some (qm.mk a1.qb w5))))
theorem qah (a1:rf2Atom) (r:qm) (h:UJ a1=some r):Run Try.prog (.call 59 [.agg [I6 a1.qb,l3 none a1.qa]] (.agg [I6 r.qb,l3 none r.qa])):=by
 refine cW Try.func59 rfl (env0:=[(0,.agg [I6 a1.qb,l3 none a1.qa])]) ?_;unfold UJ at h;refine W.seq<|W.rT [1,2] [1] (e2:=[(1,.ptr (.agg [I6 a1.qb,l3 none a1.qa])),(2,.box [.int .i64 0,.nils])]) ?_;refine W.sr<|WO.pq 6 (jM (.int .i64) a1.qa) ?_;obtain⟨e4,he4,h⟩:=qd h;refine WO.pk 1 (if (0:Int)<=0/\0<=(if 5<(a1.qa.length:Int) then 5 else (a1.qa.length:Int))/\(if 5<(a1.qa.length:Int) then 5 else (a1.qa.length:Int))<=((M6 a1.qa).length:Int) then some (.lst 3 1 none (((M6 a1.qa).take (A0 (if 5<(a1.qa.length:Int) then 5 else (a1.qa.length:Int)))).drop (A0 0))) else none) (qkn he4) ?_;obtain⟨w5,hw5,h⟩:=qd h;refine WO.ck 0 (F:=70) (l:=[l3 none e4]) (C:=[]) (r:=l3 (some 1) w5) (UB e4 w5 hw5)<|WO.fn (e2:=[(2,.box [I6 a1.qb,l3 none w5])]) ?_;refine W.wk (e:=[(2,.box [I6 a1.qb,l3 none w5])]) ?_;cases h;exact W.rr
def XT (v26:(List ruRule)):Option (List ruRule) :=
 (some v26)
def Yt (v6:(List ruRule)) (N1:((List ruRule)->Option (List ruRule))) (v24:ruRule):Option (List ruRule) :=
 (chk (capOk 56 ((v6++[v24])).length) (N1 (v6++[v24])))
def Zo (v15:Int) (v16:(List Int)) (N2:(Int->(List Int)->(List ruLit)->Option (List ruRule))) (v23:(List ruLit)):Option (List ruRule) :=
 (N2 v15 v16 v23)
def Qr (K13:(ruRule->Option (List ruRule))):List rf3Lit->Nat->Int->(List Int)->(List ruLit)->Option (List ruRule)
 | [],k2,v15,v16,v17=>(K13 (ruRule.mk (qm.mk v15 v16) v17))
 | x2::r2,k2,v15,v16,v17=>(bif (decide ((k2:Int)<5)) then ((UJ x2.qe).bind fun w21=>(chk (capOk 40 ((v17++[(ruLit.mk x2.qr w21)])).length) ((Zo v15 v16 (Qr K13 r2 (k2+1))) (v17++[(ruLit.mk x2.qr w21)])))) else ((Zo v15 v16 (Qr K13 r2 (k2+1))) v17))
def Qj (K4:((List ruRule)->Option (List ruRule))):List rf3Rule->Nat->(List ruRule)->Option (List ruRule)
 | [],k1,v6=>(K4 v6)
 | x1::r1,k1,v6=>(bif (decide ((k1:Int) > 11)) then (K4 v6) else ((UJ x1.qf).bind fun w12=>(chk (lenOk x1.qc) (Qr (Yt v6 (Qj K4 r1 (k1+1))) x1.qc 0 w12.qb w12.qa ([]:(List ruLit))))))
def NW (a1:(List rf3Rule)):Option (List ruRule) :=
 (chk (lenOk a1) (Qj (XT) a1 0 ([]:(List ruRule))))
theorem DC (a1:(List rf3Rule)) (r:(List ruRule)) (h:NW a1=some r):Run Try.prog (.call 18 [l94 none a1] (l54 (some 1) r)):=by
 refine cW Try.func18 rfl (env0:=[(0,l94 none a1)]) ?_;unfold NW at h;refine W.seq<|W.rt (e2:=[(0,l94 none a1)]) ?_;refine W.seq<|W.rt (e2:=[(0,l94 none a1),(3,.nils)]) ?_;refine W.seq<|W.join (σ:=((List ruRule))) (fun s=>[(3,l54 (some 10300) s)]) (fun s=>(XT) s=some r) (fun v26 h=>?_) (fun hK4=>?_)
 ·unfold XT at h;refine W.seq<|W.rt (e2:=[(2,l54 (some 10300) v26)]) ?_;refine W.weak [2] [] [] [(10300,some 1)] (env':=[(2,l54 (some 1) v26)]) kR ?_;cases h;exact W.rr
 refine W.sr<|WO.pq 1 (jM Xn a1)<|WO.fn (e2:=[(3,.nils),(9,l94 none a1),(10,I6 (a1.length:Int)),(11,.int .i64 0)]) ?_;refine W.block ?_;obtain⟨hl1,h⟩:=qi h;refine W.weak [3,9,10,11] [] [(3,0,54,3,10300)] [] (env':=[(3,l54 (some 10300) ([]:(List ruRule))),(9,l94 none a1),(10,I6 (a1.length:Int)),(11,I6 ((0:Nat):Int))]) kR<|W.range (σ:=((List ruRule))) a1 (fun k1 s=>[(3,l54 (some 10300) s),(9,l94 none a1),(10,I6 (a1.length:Int)),(11,I6 (k1:Int))]) (fun r0 k0 s=>Qj (XT) r0 k0 s=some r) (fun v6 h=>?_) (fun x1 r1 k1 s hx1 hk1 h hN1=>?_) ([]:(List ruRule)) h
 ·rw[Qj.eq_1]at h;refine W.sr<|WO.pq 0 (jB (qM (l:=a1)))<|WO.fn (e2:=[(3,l54 (some 10300) v6),(9,l94 none a1),(10,I6 (a1.length:Int)),(11,I6 ((a1).length:Int)),(12,.bool false)]) ?_;exact W.seq<|W.cF<|W.exit<|W.wk (hK4 v6 h)
 obtain⟨v6,rfl⟩:∃ x,x=s:=⟨s,rfl⟩;rw[Qj.eq_2]at h;refine W.sr<|WO.pq 0 (jB (qZ hk1)) ?_;let z0:=fun t=>EN ((3,l54 (some 10300) v6)::t);refine WO.fn (e2:=z0 [(9,l94 none a1),(10,I6 (a1.length:Int)),(11,I6 (k1:Int)),(12,.bool true)]) ?_;refine W.seq<|W.cT ?_;let y0:Env:=[(9,l94 none a1),(10,I6 (a1.length:Int)),(11,I6 (k1:Int))];refine W.sw (e:=z0 y0) ?_;refine W.seq<|W.block<|W.sr<|WO.pq 1 (ja (f:=Xn) hx1) ?_;let y1:Env:=(5,.ptr (.agg [I6 x1.qf.qb,l3 none x1.qf.qa,l96 none x1.qc]))::y0;refine WO.fi [3,4,5,9,10,11] [5] (e2:=z0 ((4,I6 (k1:Int))::y1)) ?_;refine W.seq<|W.seq ?_;let z1:=fun t=>z0 ((5,.ptr (.agg [I6 x1.qf.qb,l3 none x1.qf.qa,l96 none x1.qc]))::t);refine W.rt (e2:=z1 [(9,l94 none a1),(10,I6 (a1.length:Int)),(11,I6 (k1:Int)),(17,.bool (decide ((k1:Int) > 11)))]) ?_;refine W.ch (decide ((k1:Int) > 11)) h (fun h=>?_) (fun h=>?_)
 ·exact W.exit<|W.wk (hK4 v6 h)
 refine W.sw (e:=z0 y1) ?_;refine W.sr ?_;obtain⟨w12,hw12,h⟩:=qd h;refine WO.ck 2 (F:=59) (l:=[.agg [I6 x1.qf.qb,l3 none x1.qf.qa]]) (C:=[]) (r:=.agg [I6 w12.qb,l3 none w12.qa]) (qah x1.qf w12 hw12)<|WO.fn (e2:=z1 ((6,.box [I6 w12.qb,l3 none w12.qa,.nils])::y0)) ?_;refine W.seq<|W.join (σ:=(ruRule)) (fun s=>z0 ((6,.ptr (.agg [I6 s.qf.qb,l3 none s.qf.qa,l56 none s.qc]))::y0)) (fun s=>(Yt v6 (Qj (XT) r1 (k1+1))) s=some r) (fun v24 h=>?_) (fun hK13=>?_)
 ·unfold Yt at h;refine W.rg ?_;obtain⟨hc25,h⟩:=qi h;refine WO.ak 3 47 54 3 XE v6 [v24] hc25<|WO.fn (e2:=((3,l54 (some 47) (v6++[v24]))::y0)) ?_;refine W.rg<|WO.pq 0 (jI (qC hl1 hk1))<|WO.fin [3,9,10,11] [] [] [(47,some 10300)] (e2:=[(3,l54 (some 10300) (v6++[v24])),(9,l94 none a1),(10,I6 (a1.length:Int)),(11,I6 ((k1+1:Nat):Int))]) kR (fun _ h=>h) ?_;exact hN1 (v6++[v24]) h
 refine W.sr<|WO.pq 2 (jM XF x1.qc)<|WO.fn (e2:=z0 [(6,.box [I6 w12.qb,l3 none w12.qa,.nils]),(9,l94 none a1),(10,I6 (a1.length:Int)),(11,I6 (k1:Int)),(23,l96 none x1.qc),(24,I6 (x1.qc.length:Int)),(25,.int .i64 0)]) ?_;refine W.block ?_;obtain⟨hl2,h⟩:=qi h;refine W.weak [3,6,9,10,11,23,24,25] [] [(6,2,56,3,10602)] [] (env':=z0 [(6,.box [I6 w12.qb,l3 none w12.qa,l56 (some 10602) ([]:(List ruLit))]),(9,l94 none a1),(10,I6 (a1.length:Int)),(11,I6 (k1:Int)),(23,l96 none x1.qc),(24,I6 (x1.qc.length:Int)),(25,I6 ((0:Nat):Int))]) kR<|W.range (σ:=(Int×(List Int)×(List ruLit))) x1.qc (fun k2 s=>z0 [(6,.box [I6 s.1,l3 none s.2.1,l56 (some 10602) s.2.2]),(9,l94 none a1),(10,I6 (a1.length:Int)),(11,I6 (k1:Int)),(23,l96 none x1.qc),(24,I6 (x1.qc.length:Int)),(25,I6 (k2:Int))]) (fun r0 k0 s=>Qr (Yt v6 (Qj (XT) r1 (k1+1))) r0 k0 s.1 s.2.1 s.2.2=some r) (fun s h=>?_) (fun x2 r2 k2 s hx2 hk2 h hN2=>?_) (w12.qb,w12.qa,([]:(List ruLit))) h
 ·obtain⟨v15,v16,v17⟩:=s;have h:Qr (Yt v6 (Qj (XT) r1 (k1+1))) [] (x1.qc).length v15 v16 v17=some r:=h;rw[Qr.eq_1]at h;refine W.sr<|WO.pq 0 (jB (qM (l:=x1.qc)))<|WO.fn (e2:=z0 [(6,.box [I6 v15,l3 none v16,l56 (some 10602) v17]),(9,l94 none a1),(10,I6 (a1.length:Int)),(11,I6 (k1:Int)),(23,l96 none x1.qc),(24,I6 (x1.qc.length:Int)),(25,I6 ((x1.qc).length:Int)),(26,.bool false)]) ?_;refine W.seq<|W.cF<|W.exit<|W.weak [3,6,9,10,11] [6] [] [] (env':=z0 ((6,.ptr (.agg [I6 (ruRule.mk (qm.mk v15 v16) v17).qf.qb,l3 none (ruRule.mk (qm.mk v15 v16) v17).qf.qa,l56 none (ruRule.mk (qm.mk v15 v16) v17).qc]))::y0)) kR ?_;exact hK13 (ruRule.mk (qm.mk v15 v16) v17) h
 obtain⟨v15,v16,v17⟩:=s;have h:Qr (Yt v6 (Qj (XT) r1 (k1+1))) (x2::r2) k2 v15 v16 v17=some r:=h;rw[Qr.eq_2]at h;refine W.sr<|WO.pq 0 (jB (qZ hk2)) ?_;let z2:=fun t=>z0 ((6,.box [I6 v15,l3 none v16,l56 (some 10602) v17])::t);refine WO.fn (e2:=z2 [(9,l94 none a1),(10,I6 (a1.length:Int)),(11,I6 (k1:Int)),(23,l96 none x1.qc),(24,I6 (x1.qc.length:Int)),(25,I6 (k2:Int)),(26,.bool true)]) ?_;refine W.seq<|W.cT ?_;let y2:Env:=[(9,l94 none a1),(10,I6 (a1.length:Int)),(11,I6 (k1:Int)),(23,l96 none x1.qc),(24,I6 (x1.qc.length:Int)),(25,I6 (k2:Int))];refine W.sw (e:=z2 y2) ?_;refine W.seq<|W.join (σ:=((List ruLit))) (fun s=>z0 ((6,.box [I6 v15,l3 none v16,l56 (some 10602) s])::y2)) (fun s=>(Zo v15 v16 (Qr (Yt v6 (Qj (XT) r1 (k1+1))) r2 (k2+1))) s=some r) (fun v23 h=>?_) (fun hK18=>?_)
 ·unfold Zo at h;exact W.rg<|WO.pq 0 (jI (qC hl2 hk2))<|WO.fn (hN2 (v15,v16,v23) h)
 refine W.block<|W.sr<|WO.pq 1 (ja (f:=XF) hx2)<|WO.fi [3,6,7,8,9,10,11,23,24,25] [8] (e2:=z2 ((7,I6 (k2:Int))::(8,.ptr (.agg [.bool x2.qr,I6 x2.qe.qb,l3 none x2.qe.qa]))::y2)) ?_;refine W.seq<|W.rt (e2:=z2 [(8,.ptr (.agg [.bool x2.qr,I6 x2.qe.qb,l3 none x2.qe.qa])),(9,l94 none a1),(10,I6 (a1.length:Int)),(11,I6 (k1:Int)),(23,l96 none x1.qc),(24,I6 (x1.qc.length:Int)),(25,I6 (k2:Int)),(31,.bool (decide ((k2:Int)<5)))]) ?_;refine W.ch (decide ((k2:Int)<5)) h (fun h=>?_) (fun h=>?_)
 ·refine W.rg ?_;obtain⟨w21,hw21,h⟩:=qd h;refine WO.ck 6 (F:=59) (l:=[.agg [I6 x2.qe.qb,l3 none x2.qe.qa]]) (C:=[]) (r:=.agg [I6 w21.qb,l3 none w21.qa]) (qah x2.qe w21 hw21) ?_;obtain⟨hc22,h⟩:=qi h;refine WO.ak 2 41 56 3 ZJ v17 [(ruLit.mk x2.qr w21)] hc22<|WO.fin [3,6,9,10,11,23,24,25] [] [] [(41,some 10602)] (e2:=z0 ((6,.box [I6 v15,l3 none v16,l56 (some 10602) (v17++[(ruLit.mk x2.qr w21)])])::y2)) kR (fun _ h=>h) ?_;exact hK18 (v17++[(ruLit.mk x2.qr w21)]) h
 exact W.sw (hK18 v17 h)
def qao (a1:(List Int)):Option (List Int) :=
 ((sub a1 0 (if 9<(a1.length:Int) then 9 else (a1.length:Int))).bind fun e4=>((Qw e4).bind fun w5=>(some w5)))
theorem qfZ (a1:(List Int)) (r:(List Int)) (h:qao a1=some r):Run Try.prog (.call 60 [l3 none a1] (l3 (some 1) r)):=by
 refine cW Try.func60 rfl (env0:=[(0,l3 none a1)]) ?_;unfold qao at h;refine W.seq<|W.rt (e2:=[(0,l3 none a1)]) ?_;refine W.sr<|WO.pq 2 (jM (.int .i64) a1) ?_;obtain⟨e4,he4,h⟩:=qd h;refine WO.pk 1 (if (0:Int)<=0/\0<=(if 9<(a1.length:Int) then 9 else (a1.length:Int))/\(if 9<(a1.length:Int) then 9 else (a1.length:Int))<=((M6 a1).length:Int) then some (.lst 3 1 none (((M6 a1).take (A0 (if 9<(a1.length:Int) then 9 else (a1.length:Int)))).drop (A0 0))) else none) (qkn he4) ?_;obtain⟨w5,hw5,h⟩:=qd h;refine WO.ck 0 (F:=70) (l:=[l3 none e4]) (C:=[]) (r:=l3 (some 1) w5) (UB e4 w5 hw5)<|WO.fn (e2:=[(2,l3 (some 8) w5)]) ?_;refine W.weak [2] [] [] [(8,some 1)] (env':=[(2,l3 (some 1) w5)]) kR ?_;cases h;exact W.rr
def Vj (v13:(List apiFact)):Option (List apiFact) :=
 (some v13)
def QA (K4:((List apiFact)->Option (List apiFact))):List apiFact->Nat->(List apiFact)->Option (List apiFact)
 | [],k1,v6=>(K4 v6)
 | x1::r1,k1,v6=>(bif (decide ((k1:Int) > 25)) then (K4 v6) else ((qao x1.qa).bind fun w11=>(chk (capOk 32 ((v6++[(apiFact.mk x1.qb w11)])).length) ((QA K4 r1 (k1+1)) (v6++[(apiFact.mk x1.qb w11)])))))
def YD (a1:(List apiFact)):Option (List apiFact) :=
 (chk (lenOk a1) (QA (Vj) a1 0 ([]:(List apiFact))))
theorem Un (a1:(List apiFact)) (r:(List apiFact)) (h:YD a1=some r):Run Try.prog (.call 19 [l41 none a1] (l41 (some 1) r)):=by
 refine cW Try.func19 rfl (env0:=[(0,l41 none a1)]) ?_;unfold YD at h;refine W.seq<|W.rt (e2:=[(0,l41 none a1)]) ?_;refine W.seq<|W.rt (e2:=[(0,l41 none a1),(3,.nils)]) ?_;refine W.seq<|W.join (σ:=((List apiFact))) (fun s=>[(3,l41 (some 10300) s)]) (fun s=>(Vj) s=some r) (fun v13 h=>?_) (fun hK4=>?_)
 ·unfold Vj at h;refine W.seq<|W.rt (e2:=[(2,l41 (some 10300) v13)]) ?_;refine W.weak [2] [] [] [(10300,some 1)] (env':=[(2,l41 (some 1) v13)]) kR ?_;cases h;exact W.rr
 refine W.sr<|WO.pq 1 (jM qA a1)<|WO.fn (e2:=[(3,.nils),(6,l41 none a1),(7,I6 (a1.length:Int)),(8,.int .i64 0)]) ?_;refine W.block ?_;obtain⟨hl1,h⟩:=qi h;refine W.weak [3,6,7,8] [] [(3,0,41,2,10300)] [] (env':=[(3,l41 (some 10300) ([]:(List apiFact))),(6,l41 none a1),(7,I6 (a1.length:Int)),(8,I6 ((0:Nat):Int))]) kR<|W.range (σ:=((List apiFact))) a1 (fun k1 s=>[(3,l41 (some 10300) s),(6,l41 none a1),(7,I6 (a1.length:Int)),(8,I6 (k1:Int))]) (fun r0 k0 s=>QA (Vj) r0 k0 s=some r) (fun v6 h=>?_) (fun x1 r1 k1 s hx1 hk1 h hN1=>?_) ([]:(List apiFact)) h
 ·rw[QA.eq_1]at h;refine W.sr<|WO.pq 0 (jB (qM (l:=a1)))<|WO.fn (e2:=[(3,l41 (some 10300) v6),(6,l41 none a1),(7,I6 (a1.length:Int)),(8,I6 ((a1).length:Int)),(9,.bool false)]) ?_;exact W.seq<|W.cF<|W.exit<|W.wk (hK4 v6 h)
 obtain⟨v6,rfl⟩:∃ x,x=s:=⟨s,rfl⟩;rw[QA.eq_2]at h;refine W.sr<|WO.pq 0 (jB (qZ hk1)) ?_;let z0:=fun t=>EN ((3,l41 (some 10300) v6)::t);refine WO.fn (e2:=z0 [(6,l41 none a1),(7,I6 (a1.length:Int)),(8,I6 (k1:Int)),(9,.bool true)]) ?_;refine W.seq<|W.cT ?_;let y0:Env:=[(6,l41 none a1),(7,I6 (a1.length:Int)),(8,I6 (k1:Int))];refine W.sw (e:=z0 y0) ?_;refine W.seq<|W.block<|W.sr<|WO.pq 1 (ja (f:=qA) hx1)<|WO.fi [3,4,5,6,7,8] [5] (e2:=z0 ((4,I6 (k1:Int))::(5,.ptr (.agg [I6 x1.qb,l3 none x1.qa]))::y0)) ?_;refine W.seq<|W.seq ?_;let z1:=fun t=>z0 ((5,.ptr (.agg [I6 x1.qb,l3 none x1.qa]))::t);refine W.rt (e2:=z1 [(6,l41 none a1),(7,I6 (a1.length:Int)),(8,I6 (k1:Int)),(14,.bool (decide ((k1:Int) > 25)))]) ?_;refine W.ch (decide ((k1:Int) > 25)) h (fun h=>?_) (fun h=>?_)
 ·exact W.exit<|W.wk (hK4 v6 h)
 refine W.sw (e:=z1 y0) ?_;refine W.rg ?_;obtain⟨w11,hw11,h⟩:=qd h;refine WO.ck 5 (F:=60) (l:=[l3 none x1.qa]) (C:=[]) (r:=l3 (some 1) w11) (qfZ x1.qa w11 hw11) ?_;obtain⟨hc12,h⟩:=qi h;refine WO.ak 2 23 41 2 qA v6 [(apiFact.mk x1.qb w11)] hc12<|WO.fn (e2:=((3,l41 (some 23) (v6++[(apiFact.mk x1.qb w11)]))::y0)) ?_;refine W.rg<|WO.pq 0 (jI (qC hl1 hk1))<|WO.fin [3,6,7,8] [] [] [(23,some 10300)] (e2:=[(3,l41 (some 10300) (v6++[(apiFact.mk x1.qb w11)])),(6,l41 none a1),(7,I6 (a1.length:Int)),(8,I6 ((k1+1:Nat):Int))]) kR (fun _ h=>h) ?_;exact hN1 (v6++[(apiFact.mk x1.qb w11)]) h
def Jb:Option Bool :=
 (some true)
def qV (a2:(List apiFact)) (g3:(apiFact->apiFact->Option Bool)) (K8:(Option Bool)):List apiFact->Nat->Option Bool
 | [],k1=>K8
 | x1::r1,k1=>((idx a2 (k1:Int)).bind fun e13=>((g3 x1 e13).bind fun w15=>(bif (!w15) then (some false) else (qV a2 g3 K8 r1 (k1+1)))))
def Qv (a1:(List apiFact)) (a2:(List apiFact)) (g3:(apiFact->apiFact->Option Bool)):Option Bool :=
 (bif ((a1.length:Int) != (a2.length:Int)) then (some false) else (chk (lenOk a1) (qV a2 g3 (Jb) a1 0)))
theorem Ul (a1:(List apiFact)) (a2:(List apiFact)) (g3:(apiFact->apiFact->Option Bool)) (F_g3:Nat) (C_g3:List AV) (hok_g3:okFn Try.prog F_g3=true) (hrun_g3:∀ (x0:apiFact) (x1:apiFact) r,g3 x0 x1=some r->Run Try.prog (.call F_g3 ([.agg [I6 x0.qb,l3 none x0.qa],.agg [I6 x1.qb,l3 none x1.qa]]++C_g3) (.bool r))) (r:Bool) (h:Qv a1 a2 g3=some r):Run Try.prog (.call 65 [l41 none a1,l41 none a2,.clo F_g3 C_g3] (.bool r)):=by
 refine cW Try.func65 rfl (env0:=[(0,l41 none a1),(1,l41 none a2),(2,.clo F_g3 C_g3)]) ?_;unfold Qv at h;refine W.seq ?_;let z0:=fun t=>EN ((0,l41 none a1)::(1,l41 none a2)::(2,.clo F_g3 C_g3)::t);refine W.rt (e2:=z0 []) ?_;refine W.seq<|W.sr<|WO.pq 1 (jM qA a1)<|WO.pq 1 (jM qA a2)<|WO.fn (e2:=z0 [(14,.bool ((a1.length:Int) != (a2.length:Int)))]) ?_;refine W.ch ((a1.length:Int) != (a2.length:Int)) h (fun h=>?_) (fun h=>?_)
 ·refine W.seq<|W.rt (e2:=[(6,.bool false)]) ?_;refine W.wk (e:=[(6,.bool false)]) ?_;cases h;exact W.rr
 refine W.sw (e:=z0 []) ?_;refine W.seq<|W.join (σ:=Unit) (fun s=>[]) (fun s=>(Jb)=some r) (fun s h=>?_) (fun hK8=>?_)
 ·unfold Jb at h;refine W.seq<|W.rt (e2:=[(6,.bool true)]) ?_;refine W.wk (e:=[(6,.bool true)]) ?_;cases h;exact W.rr
 refine W.sr<|WO.pq 1 (jM qA a1) ?_;let z1:=fun t=>EN ((1,l41 none a2)::(2,.clo F_g3 C_g3)::(15,l41 none a1)::(16,I6 (a1.length:Int))::t);refine WO.fn (e2:=z1 [(17,.int .i64 0)]) ?_;refine W.block ?_;obtain⟨hl1,h⟩:=qi h;refine W.wk<|W.range (σ:=Unit) a1 (fun k1 s=>z1 [(17,I6 (k1:Int))]) (fun r0 k0 s=>qV a2 g3 (Jb) r0 k0=some r) (fun s h=>?_) (fun x1 r1 k1 s hx1 hk1 h hN1=>?_) () h
 ·rw[qV.eq_1]at h;refine W.sr<|WO.pq 0 (jB (qM (l:=a1)))<|WO.fn (e2:=z1 [(17,I6 ((a1).length:Int)),(18,.bool false)]) ?_;exact W.seq<|W.cF<|W.exit<|W.wk (hK8 () h)
 rw[qV.eq_2]at h;refine W.sr<|WO.pq 0 (jB (qZ hk1))<|WO.fn (e2:=z1 [(17,I6 (k1:Int)),(18,.bool true)]) ?_;refine W.seq<|W.cT ?_;let y0:Env:=[(15,l41 none a1),(16,I6 (a1.length:Int)),(17,I6 (k1:Int))];let z2:=fun t=>EN ((1,l41 none a2)::(2,.clo F_g3 C_g3)::t);refine W.sw (e:=z2 y0) ?_;refine W.seq<|W.block<|W.sr<|WO.pq 1 (ja (f:=qA) hx1)<|WO.fi [1,2,7,8,15,16,17] [8] (e2:=z2 ((7,I6 (k1:Int))::(8,.ptr (.agg [I6 x1.qb,l3 none x1.qa]))::y0)) ?_;refine W.sr ?_;obtain⟨e13,he13,h⟩:=qd h;refine WO.pq 2 (Nl (f:=qA) he13) ?_;let z3:=fun t=>z2 ((8,.ptr (.agg [I6 x1.qb,l3 none x1.qa]))::(9,.ptr (.agg [I6 e13.qb,l3 none e13.qa]))::t);refine WO.fi [1,2,8,9,15,16,17] [9] (e2:=z3 y0) ?_;refine W.sr ?_;obtain⟨w15,hw15,h⟩:=qd h;refine WO.callK 3 (F:=F_g3) (l:=[.agg [I6 x1.qb,l3 none x1.qa],.agg [I6 e13.qb,l3 none e13.qa]]) (C:=C_g3) (r:=.bool w15) kR hok_g3 (hrun_g3 x1 e13 w15 hw15) (e1:=z3 [(15,l41 none a1),(16,I6 (a1.length:Int)),(17,I6 (k1:Int)),(26,.clo F_g3 C_g3),(27,.agg [I6 x1.qb,l3 none x1.qa]),(28,.agg [I6 e13.qb,l3 none e13.qa]),(29,.bool w15)]) kR<|WO.fn (e2:=z1 [(17,I6 (k1:Int)),(30,.bool (!w15))]) ?_;refine W.ch (!w15) h (fun h=>?_) (fun h=>?_)
 ·refine W.seq<|W.rt (e2:=[(6,.bool false)]) ?_;refine W.wk (e:=[(6,.bool false)]) ?_;cases h;exact W.rr
 refine W.sw (e:=z2 y0) ?_;exact W.rg<|WO.pq 0 (jI (qC hl1 hk1))<|WO.fn (hN1 () h)
def Qp:Option Bool :=
 (some true)
def jm (a2:(List Int)) (K7:(Option Bool)):List Int->Nat->Option Bool
 | [],k1=>K7
 | x1::r1,k1=>((idx a2 (k1:Int)).bind fun e12=>(bif (x1 != e12) then (some false) else (jm a2 K7 r1 (k1+1))))
def QS (a1:(List Int)) (a2:(List Int)):Option Bool :=
 (bif ((a1.length:Int) != (a2.length:Int)) then (some false) else (chk (lenOk a1) (jm a2 (Qp) a1 0)))
theorem UA (a1:(List Int)) (a2:(List Int)) (r:Bool) (h:QS a1 a2=some r):Run Try.prog (.call 34 [l3 none a1,l3 none a2] (.bool r)):=by
 refine cW Try.func34 rfl (env0:=[(0,l3 none a1),(1,l3 none a2)]) ?_;unfold QS at h;refine W.seq ?_;let z0:=fun t=>EN ((0,l3 none a1)::(1,l3 none a2)::t);refine W.rt (e2:=z0 []) ?_;refine W.seq<|W.sr<|WO.pq 1 (jM (.int .i64) a1)<|WO.pq 1 (jM (.int .i64) a2)<|WO.fn (e2:=z0 [(10,.bool ((a1.length:Int) != (a2.length:Int)))]) ?_;refine W.ch ((a1.length:Int) != (a2.length:Int)) h (fun h=>?_) (fun h=>?_)
 ·refine W.seq<|W.rt (e2:=[(4,.bool false)]) ?_;refine W.wk (e:=[(4,.bool false)]) ?_;cases h;exact W.rr
 refine W.sw (e:=z0 []) ?_;refine W.seq<|W.join (σ:=Unit) (fun s=>[]) (fun s=>(Qp)=some r) (fun s h=>?_) (fun hK7=>?_)
 ·unfold Qp at h;refine W.seq<|W.rt (e2:=[(4,.bool true)]) ?_;refine W.wk (e:=[(4,.bool true)]) ?_;cases h;exact W.rr
 refine W.sr<|WO.pq 1 (jM (.int .i64) a1) ?_;let z1:=fun t=>z0 ((12,I6 (a1.length:Int))::t);refine WO.fn (e2:=z1 [(13,.int .i64 0)]) ?_;refine W.block ?_;obtain⟨hl1,h⟩:=qi h;refine W.wk<|W.range (σ:=Unit) a1 (fun k1 s=>z1 [(13,I6 (k1:Int))]) (fun r0 k0 s=>jm a2 (Qp) r0 k0=some r) (fun s h=>?_) (fun x1 r1 k1 s hx1 hk1 h hN1=>?_) () h
 ·rw[jm.eq_1]at h;refine W.sr<|WO.pq 0 (jB (qM (l:=a1)))<|WO.fn (e2:=z1 [(13,I6 ((a1).length:Int)),(14,.bool false)]) ?_;exact W.seq<|W.cF<|W.exit<|W.wk (hK7 () h)
 rw[jm.eq_2]at h;refine W.sr<|WO.pq 0 (jB (qZ hk1))<|WO.fn (e2:=z1 [(13,I6 (k1:Int)),(14,.bool true)]) ?_;refine W.seq<|W.cT ?_;let y0:Env:=[(12,I6 (a1.length:Int)),(13,I6 (k1:Int))];refine W.sw (e:=z0 y0) ?_;refine W.seq<|W.block<|W.seq<|W.rt (e2:=z0 ((5,I6 (k1:Int))::y0)) ?_;refine W.sr<|WO.pq 2 (ja (f:=(AV.int .i64)) hx1) ?_;obtain⟨e12,he12,h⟩:=qd h;refine WO.pq 3 (Nl (f:=(AV.int .i64)) he12)<|WO.fn (e2:=z1 [(13,I6 (k1:Int)),(24,.bool (x1 != e12))]) ?_;refine W.ch (x1 != e12) h (fun h=>?_) (fun h=>?_)
 ·refine W.seq<|W.rt (e2:=[(4,.bool false)]) ?_;refine W.wk (e:=[(4,.bool false)]) ?_;cases h;exact W.rr
 refine W.sw (e:=z0 y0) ?_;exact W.rg<|WO.pq 0 (jI (qC hl1 hk1))<|WO.fn (hN1 () h)
def ZH (v6:Bool):Option Bool :=
 (some v6)
def Yu (a1:apiFact) (a2:apiFact):Option Bool :=
 (bif (a1.qb == a2.qb) then ((QS a1.qa a2.qa).bind fun w5=>((ZH) w5)) else ((ZH) false))
theorem qcm (a1:apiFact) (a2:apiFact) (r:Bool) (h:Yu a1 a2=some r):Run Try.prog (.call 66 [.agg [I6 a1.qb,l3 none a1.qa],.agg [I6 a2.qb,l3 none a2.qa]] (.bool r)):=by
 refine cW Try.func66 rfl (env0:=[(0,.agg [I6 a1.qb,l3 none a1.qa]),(1,.agg [I6 a2.qb,l3 none a2.qa])]) ?_;unfold Yu at h;refine W.seq ?_;let z0:=fun t=>EN ((2,.ptr (.agg [I6 a1.qb,l3 none a1.qa]))::(3,.ptr (.agg [I6 a2.qb,l3 none a2.qa]))::t);refine W.rT [2,3] [2,3] (e2:=z0 []) ?_;refine W.seq<|W.join (σ:=(Bool)) (fun s=>[(4,.bool s)]) (fun s=>(ZH) s=some r) (fun v6 h=>?_) (fun hK4=>?_)
 ·unfold ZH at h;refine W.wk (e:=[(4,.bool v6)]) ?_;cases h;exact W.rr
 refine W.rg<|WO.bh 6 (fun b=>z0 [(5,.ptr (I6 a1.qb)),(6,I6 a1.qb),(7,.ptr (I6 a2.qb)),(8,I6 a2.qb),(9,.bool b),(10,.bool b)]) (a1.qb == a2.qb) h (fun h=>?_) (fun h=>?_)
 ·obtain⟨w5,hw5,h⟩:=qd h;exact WO.ck 4 (F:=34) (l:=[l3 none a1.qa,l3 none a2.qa]) (C:=[]) (r:=.bool w5) (UA a1.qa a2.qa w5 hw5)<|WO.fn (hK4 w5 h)
 exact WO.fn (hK4 false h)
def UK (a1:(List apiFact)) (a2:(List apiFact)):Option Bool :=
 ((Qv a1 a2 (fun y0 y1=>Yu y0 y1)).bind fun w5=>(some w5))
theorem qai (a1:(List apiFact)) (a2:(List apiFact)) (r:Bool) (h:UK a1 a2=some r):Run Try.prog (.call 23 [l41 none a1,l41 none a2] (.bool r)):=by
 refine cW Try.func23 rfl (env0:=[(0,l41 none a1),(1,l41 none a2)]) ?_;unfold UK at h;refine W.seq<|W.rt (e2:=[(0,l41 none a1),(1,l41 none a2)]) ?_;refine W.sr ?_;obtain⟨w5,hw5,h⟩:=qd h;refine WO.ck 2 (F:=65) (l:=[l41 none a1,l41 none a2,.clo 66 []]) (C:=[]) (r:=.bool w5) (Ul a1 a2 (fun y0 y1=>Yu y0 y1) 66 [] kR (fun y0 y1 r h=>qcm y0 y1 r h) w5 hw5) ?_;refine WO.fn (e2:=[(4,.bool w5)]) ?_;refine W.wk (e:=[(4,.bool w5)]) ?_;cases h;exact W.rr
def Ja:Option Int :=
 (some (-1))
def qU (g2:(apiFact->Option Bool)) (K4:(Option Int)):List apiFact->Nat->Option Int
 | [],k1=>K4
 | x1::r1,k1=>((g2 x1).bind fun w9=>(bif w9 then (some (k1:Int)) else (qU g2 K4 r1 (k1+1))))
def Qu (a1:(List apiFact)) (g2:(apiFact->Option Bool)):Option Int :=
 (chk (lenOk a1) (qU g2 (Ja) a1 0))
theorem Uk (a1:(List apiFact)) (g2:(apiFact->Option Bool)) (F_g2:Nat) (C_g2:List AV) (hok_g2:okFn Try.prog F_g2=true) (hrun_g2:∀ (x0:apiFact) r,g2 x0=some r->Run Try.prog (.call F_g2 ([.agg [I6 x0.qb,l3 none x0.qa]]++C_g2) (.bool r))) (r:Int) (h:Qu a1 g2=some r):Run Try.prog (.call 92 [l41 none a1,.clo F_g2 C_g2] (I6 r)):=by
 refine cW Try.func92 rfl (env0:=[(0,l41 none a1),(1,.clo F_g2 C_g2)]) ?_;unfold Qu at h;refine W.seq ?_;let z0:=fun t=>EN ((0,l41 none a1)::(1,.clo F_g2 C_g2)::t);refine W.rt (e2:=z0 []) ?_;refine W.seq<|W.join (σ:=Unit) (fun s=>[]) (fun s=>(Ja)=some r) (fun s h=>?_) (fun hK4=>?_)
 ·unfold Ja at h;refine W.seq<|W.rt (e2:=[(4,I6 (-1))]) ?_;refine W.wk (e:=[(4,I6 (-1))]) ?_;cases h;exact W.rr
 refine W.sr<|WO.pq 1 (jM qA a1) ?_;let z1:=fun t=>z0 ((7,I6 (a1.length:Int))::t);refine WO.fn (e2:=z1 [(8,.int .i64 0)]) ?_;refine W.block ?_;obtain⟨hl1,h⟩:=qi h;refine W.wk<|W.range (σ:=Unit) a1 (fun k1 s=>z1 [(8,I6 (k1:Int))]) (fun r0 k0 s=>qU g2 (Ja) r0 k0=some r) (fun s h=>?_) (fun x1 r1 k1 s hx1 hk1 h hN1=>?_) () h
 ·rw[qU.eq_1]at h;refine W.sr<|WO.pq 0 (jB (qM (l:=a1)))<|WO.fn (e2:=z1 [(8,I6 ((a1).length:Int)),(9,.bool false)]) ?_;exact W.seq<|W.cF<|W.exit<|W.wk (hK4 () h)
 rw[qU.eq_2]at h;refine W.sr<|WO.pq 0 (jB (qZ hk1))<|WO.fn (e2:=z1 [(8,I6 (k1:Int)),(9,.bool true)]) ?_;refine W.seq<|W.cT ?_;let y0:Env:=[(7,I6 (a1.length:Int)),(8,I6 (k1:Int))];refine W.sw (e:=z0 y0) ?_;refine W.seq<|W.block<|W.seq ?_;let z2:=fun t=>z0 ((5,I6 (k1:Int))::t);refine W.rt (e2:=z2 y0) ?_;refine W.sr<|WO.pq 3 (ja (f:=qA) hx1) ?_;obtain⟨w9,hw9,h⟩:=qd h;let z3:=fun t=>z2 ((7,I6 (a1.length:Int))::(8,I6 (k1:Int))::t);refine WO.callK 1 (F:=F_g2) (l:=[.agg [I6 x1.qb,l3 none x1.qa]]) (C:=C_g2) (r:=.bool w9) kR hok_g2 (hrun_g2 x1 w9 hw9) (e1:=z3 [(11,.clo F_g2 C_g2),(12,l41 none a1),(13,I6 (k1:Int)),(14,.ptr (.agg [I6 x1.qb,l3 none x1.qa])),(15,.agg [I6 x1.qb,l3 none x1.qa]),(16,.bool w9)]) kR<|WO.fn (e2:=z3 [(16,.bool w9)]) ?_;refine W.ch w9 h (fun h=>?_) (fun h=>?_)
 ·refine W.seq<|W.rt (e2:=[(4,I6 (k1:Int))]) ?_;refine W.wk (e:=[(4,I6 (k1:Int))]) ?_;cases h;exact W.rr
 refine W.sw (e:=z0 y0) ?_;exact W.rg<|WO.pq 0 (jI (qC hl1 hk1))<|WO.fn (hN1 () h)
def Jc (a1:(List apiFact)) (g2:(apiFact->Option Bool)):Option Bool :=
 ((Qu a1 g2).bind fun w5=>(some (decide (w5 >= 0))))
theorem Va (a1:(List apiFact)) (g2:(apiFact->Option Bool)) (F_g2:Nat) (C_g2:List AV) (hok_g2:okFn Try.prog F_g2=true) (hrun_g2:∀ (x0:apiFact) r,g2 x0=some r->Run Try.prog (.call F_g2 ([.agg [I6 x0.qb,l3 none x0.qa]]++C_g2) (.bool r))) (r:Bool) (h:Jc a1 g2=some r):Run Try.prog (.call 71 [l41 none a1,.clo F_g2 C_g2] (.bool r)):=by
 refine cW Try.func71 rfl (env0:=[(0,l41 none a1),(1,.clo F_g2 C_g2)]) ?_;unfold Jc at h;refine W.seq<|W.rt (e2:=[(0,l41 none a1),(1,.clo F_g2 C_g2)]) ?_;refine W.sr ?_;obtain⟨w5,hw5,h⟩:=qd h;refine WO.ck 2 (F:=92) (l:=[l41 none a1,.clo F_g2 C_g2]) (C:=[]) (r:=I6 w5) (Uk a1 g2 F_g2 C_g2 hok_g2 hrun_g2 w5 hw5)<|WO.fn (e2:=[(4,.bool (decide (w5 >= 0)))]) ?_;refine W.wk (e:=[(4,.bool (decide (w5 >= 0)))]) ?_;cases h;exact W.rr
def Qq (v6:Bool):Option Bool :=
 (some v6)
def YZ (a1:apiFact) (c2:apiFact):Option Bool :=
 (bif (c2.qb == a1.qb) then ((QS c2.qa a1.qa).bind fun w5=>((Qq) w5)) else ((Qq) false))
theorem qaS (a1:apiFact) (c2:apiFact) (r:Bool) (h:YZ a1 c2=some r):Run Try.prog (.call 72 [.agg [I6 a1.qb,l3 none a1.qa],.ptr (.agg [I6 c2.qb,l3 none c2.qa])] (.bool r)):=by
 refine cW Try.func72 rfl (env0:=[(0,.agg [I6 a1.qb,l3 none a1.qa]),(1,.ptr (.agg [I6 c2.qb,l3 none c2.qa]))]) ?_;unfold YZ at h;refine W.seq ?_;let z0:=fun t=>EN ((1,.ptr (.agg [I6 c2.qb,l3 none c2.qa]))::(2,.ptr (.agg [I6 a1.qb,l3 none a1.qa]))::t);refine W.rT [1,2] [2] (e2:=z0 []) ?_;refine W.seq<|W.join (σ:=(Bool)) (fun s=>[(3,.bool s)]) (fun s=>(Qq) s=some r) (fun v6 h=>?_) (fun hK4=>?_)
 ·unfold Qq at h;refine W.wk (e:=[(3,.bool v6)]) ?_;cases h;exact W.rr
 refine W.rg<|WO.bh 6 (fun b=>z0 [(4,.ptr (I6 c2.qb)),(5,I6 c2.qb),(6,.ptr (I6 a1.qb)),(7,I6 a1.qb),(8,.bool b),(9,.bool b)]) (c2.qb == a1.qb) h (fun h=>?_) (fun h=>?_)
 ·obtain⟨w5,hw5,h⟩:=qd h;exact WO.ck 4 (F:=34) (l:=[l3 none c2.qa,l3 none a1.qa]) (C:=[]) (r:=.bool w5) (UA c2.qa a1.qa w5 hw5)<|WO.fn (hK4 w5 h)
 exact WO.fn (hK4 false h)
def Ys (a1:(List apiFact)) (a2:apiFact):Option Bool :=
 ((Jc a1 (fun y0=>YZ y0 a2)).bind fun w5=>(some w5))
theorem VE (a1:(List apiFact)) (a2:apiFact) (r:Bool) (h:Ys a1 a2=some r):Run Try.prog (.call 27 [l41 none a1,.agg [I6 a2.qb,l3 none a2.qa]] (.bool r)):=by
 refine cW Try.func27 rfl (env0:=[(0,l41 none a1),(1,.agg [I6 a2.qb,l3 none a2.qa])]) ?_;unfold Ys at h;refine W.seq<|W.rT [0,3] [3] (e2:=[(0,l41 none a1),(3,.ptr (.agg [I6 a2.qb,l3 none a2.qa]))]) ?_;refine W.sr ?_;obtain⟨w5,hw5,h⟩:=qd h;refine WO.ck 2 (F:=71) (l:=[l41 none a1,.clo 72 [.ptr (.agg [I6 a2.qb,l3 none a2.qa])]]) (C:=[]) (r:=.bool w5) (Va a1 (fun y0=>YZ y0 a2) 72 [.ptr (.agg [I6 a2.qb,l3 none a2.qa])] kR (fun y0 r h=>qaS y0 a2 r h) w5 hw5) ?_;refine WO.fn (e2:=[(4,.bool w5)]) ?_;refine W.wk (e:=[(4,.bool w5)]) ?_;cases h;exact W.rr
end Go.AM
namespace Go.AM
open Go.Proofs
structure rufact where
 qj:Int
 f_a:Int
 f_b:Int
def l50 (c:Option Nat) (l:List qm):AV:=.lst 50 2 c (A4 YG l)
def qh (x:rufact):AV:=.agg [.int .i64 x.qj,.int .i64 x.f_a,.int .i64 x.f_b]
def qg (x a:rufact):Bool:=(x.qj == a.qj) && ((x.f_a == a.f_a) && ((x.f_b == a.f_b) && true))
end Go.AM
