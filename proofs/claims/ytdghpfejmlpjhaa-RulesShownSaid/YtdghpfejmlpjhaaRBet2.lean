import Derived.Test.YtdghpfejmlpjhaaRL45
import Derived.StillTailTactics
import Derived.BigQuiet
import Derived.Deep.QuietTactic
set_option linter.all false
set_option maxRecDepth 100000
open Go.World renaming cell?→A0, drewN→A7, frozen?→C0
open Prod renaming fst→A1
open Nat renaming le_refl→A2, le_trans→A8, lt_or_ge→A9
open Option renaming bind_some→A3
open List renaming length_map→A4, length_append→A5, getElem?_eq_getElem→B1, replicate→C7, length_singleton→D1, mem_cons_of_mem→D2, mem_append_right→D3, mem_of_getElem?→D4, length_eraseIdx→D5
open Bool renaming and_eq_true→A6
open Go.MapKept renaming run_getObj_map→D0
namespace Go.AM
abbrev zWay:ruway:=ruway.mk (rucost.mk 0 0) 0 ([]:LI)
def costS (known:LC) (w:ruway) (f:rufact):ruway :=
 ⟨⟨max w.qp.qQ (IntKind.i64.wrap ((mget qf zWay f known).qp.qQ+1)),
  min (IntKind.i64.wrap (w.qp.qt+(mget qf zWay f known).qp.qt)) 1000⟩,w.qY,w.qJ++[f]⟩
def wayL (known:LC) (v:LA):LQ->ruway->Option ruway
 | [],w=>some w
 | x::b,w=>bif x.qw then wayL known v b w else (qA v x.qg).bind fun f=>chk (wfF f) (wayL known v b (costS known w f))
def putO (out:LC) (f:rufact) (w:ruway):LC :=
 bif decide (w.qp.qt<(mget qf zWay f out).qp.qt) || decide ((mget qf zWay f out).qp.qt=0) then mset qf f w out else out
def outD (known:LC) (i:Int) (head:qo) (body:LQ):LC->Li->Option LC
 | out,[]=>some out
 | out,v::d=>(wayL known v body ⟨⟨1,1⟩,i,[]⟩).bind fun w=>(qA v head).bind fun f=>chk (wfF f) (outD known i head body (putO out f w) d)
theorem Uf (known:LC) (i:Int) (head:qo) (body:LQ):∀ (a b:Li) (out:LC),outD known i head body out (a++b)=(outD known i head body out a).bind fun o=>outD known i head body o b
 | [],b,out=>rfl
 | v::a,b,out=>by
  show (wayL known v body ⟨⟨1,1⟩,i,[]⟩).bind _=((wayL known v body ⟨⟨1,1⟩,i,[]⟩).bind _).bind _
  cases wayL known v body ⟨⟨1,1⟩,i,[]⟩ with
  | none=>rfl
  | some w =>
   simp only[A3]
   cases qA v head with
   | none=>rfl
   | some f =>
    simp only[A3]
    cases hw:wfF f with
    | true=>simp only[chk,cT];exact Uf known i head body a b _
    | false=>simp only[chk,cN];rfl
theorem qbr (f:rufact) (w:ruway):∀ out:LC,(mset qf f w out).length<=out.length+1
 | []=>by simp[mset]
 | p::r=>by
  have:=qbr f w r;unfold mset;cases qf p.1 f <;> simp <;> omega
theorem qkN (out:LC) (f:rufact) (w:ruway):(putO out f w).length<=out.length+1:=by
 have:=qbr f w out;unfold putO
 cases decide (w.qp.qt<(mget qf zWay f out).qp.qt) || decide ((mget qf zWay f out).qp.qt=0) <;> simp only[cT,cN] <;> omega
theorem qcQ (known:LC) (i:Int) (head:qo) (body:LQ):∀ (d:Li) (out r:LC),outD known i head body out d=some r->r.length<=out.length+d.length
 | [],out,r,h=>by cases h;simp
 | v::d,out,r,h=>by
  obtain⟨w,_,h⟩:=qb (show (wayL known v body ⟨⟨1,1⟩,i,[]⟩).bind _=some r from h);obtain⟨f,_,h⟩:=qb h;obtain⟨_,h⟩:=qm h;have h1:=qcQ known i head body d _ _ h;have h2:=qkN out f w;rw[List.length_cons];omega
end Go.AM
namespace Go.Proofs
open Go.RowKit Go.AM
open Go.ChangeMaps (setBlock)
variable {B0 g go:Nat} {M M' M0 Mb:Mem} {w wR:World} {known out:LC} {f:rufact} {k:ruway}
structure OS (B0:Nat) (Mb M0:Mem) (wR:World) (go:Nat) (out:LC) (M:Mem) (w:World):Prop where
 cons:Cons M w
 sub:Sub M0 M
 os:w.os=wR.os
 tape:w.tape=wR.tape
 output:w.output=wR.output
 size:wR.heap.size<=w.heap.size
 block:∀ k,k<wR.heap.size->k≠go->w.heap[k]? = wR.heap[k]?
 none':∀ o,M go o=none
 lt:go<wR.heap.size
 bnd:B0<=wR.heap.size
 map:∃ M2,Sub M M2/\Cons M2 w/\(∀ o,M2 go o=none)/\MapAt M2 w go qh qE out/\∀ b o,b<B0->M2 b o=Mb b o
def mjoin (M2 M':Mem) (B:Nat):Mem:=fun b o=>if b<B then M2 b o else M' b o
theorem OS.grow {w':World} (h:OS B0 Mb M0 wR go out M w) (hB:Below w.heap.size w w') (hs:Sub M M') (ho:∀ b o,b<w.heap.size->M' b o=M b o) (hC:Cons M' w'):OS B0 Mb M0 wR go out M' w':=by
 obtain⟨h1,h2,h3,h4,h5,h6,h7,h8,h9,h10,M2,k1,k2,k3,k4,k5⟩:=h
 have hgl:go<w.heap.size:=by omega
 refine⟨hC,Sub.trans h2 hs,hB.os.trans h3,hB.tape.trans h4,hB.output.trans h5,A8 h6 hB.size,fun k hk hne=>(hB.block k oM).trans (h7 k hk hne),fun o=>by rw[ho _ _ hgl];exact h8 o,h9,h10,mjoin M2 M' w.heap.size,?_,?_,?_,?_,fun b o hb=>by unfold mjoin;rw[if_pos (by omega)];exact k5 b o hb⟩
 .intro b o u hu;unfold mjoin;split
  .rename_i hb;rw[ho _ _ hb]at hu;exact k1 _ _ _ hu
  exact hu
 .intro b o u hu;unfold mjoin at hu;split at hu
  .rename_i hb;have:=k2 _ _ _ hu;rw[Qd (hB.block b hb)];exact this
  exact hC _ _ _ hu
 .intro o;unfold mjoin;rw[if_pos hgl];exact k3 o
 refine (k4.of (hB.block go hgl)).mono fun b o u hu=>?_
 unfold mjoin;rw[if_pos (NJ (k2 _ _ _ hu))];exact hu
theorem OS.down (h:OS B0 Mb M0 wR go out M w) (h1:Sub M0 M') (h2:Sub M' M):OS B0 Mb M0 wR go out M' w:=by
 obtain⟨y1,y2,y3,y4,y5,y6,y7,y8,y9,y10,M2,k1,k2,k3,k4,k5⟩:=h;refine⟨fun b o u hu=>y1 b o u (h2 b o u hu),h1,y3,y4,y5,y6,y7,fun o=>?_,y9,y10,M2,Sub.trans h2 k1,k2,k3,k4,k5⟩
 cases hq:M' go o with
 | none=>rfl
 | some u=>have:=h2 go o u hq;rw[y8]at this;cases this
theorem factKey (hf:wfF f=true):(qh f).keyV=some (.agg #[.int .i64 f.qn,.int .i64 f.f_a,.int .i64 f.f_b]):=by
 unfold wfF at hf;rw[A6,A6]at hf;simp only[qh,AV.keyV,keyVs,hf.1.1,hf.1.2,hf.2]
theorem qcq {v:Value} (h:R M (qE k) v):∃ sv,v=.agg #[.int .i64 k.qp.qQ,.int .i64 k.qp.qt,.int .i64 k.qY,sv]/\R M (l127 none k.qJ) sv:=by
 obtain⟨vs,rfl,hl,hr⟩:=(show R M (.agg [.int .i64 k.qp.qQ,.int .i64 k.qp.qt,.int .i64 k.qY,l127 none k.qJ]) v from h).agg_inv
 match vs,hl with
 | [u0,u1,u2,u3],_ =>
  have r0:=hr 0 _ _ rfl rfl;have r1:=hr 1 _ _ rfl rfl;have r2:=hr 2 _ _ rfl rfl;have r3:=hr 3 _ _ rfl rfl;cases r0;cases r1;cases r2;exact⟨u3,rfl,r3⟩
theorem qkq {mv:Value} (hm:R M (mpE qh qE known) mv) (hf:wfF f=true) (w:World) (hC:Cons M w):∃ sv,(Instr.lookup 146 mv (.agg #[.int .i64 f.qn,.int .i64 f.f_a,.int .i64 f.f_b]) false).run Try.prog w=.ok (.agg #[.int .i64 (mget qf zWay f known).qp.qQ,.int .i64 (mget qf zWay f known).qp.qt,.int .i64 (mget qf zWay f known).qY,sv]) w:=by
 have hk:=factKey hf;have hr:=YG (P:=Try.prog) (t:=146) (kt:=127) (e:=152) (F:=qh) (G:=qE) (eq:=qf) (l:=known) (k:=f) (z:=zWay) (by rw[hk];rfl) kR (fun x=>by kernel_rfl) (fun x y=>rfl) kR;obtain⟨v,h1,h2⟩:=qaF (kt:=127) (e:=152) (w:=w) hC hm kR hk hr;obtain⟨sv,rfl,_⟩:=qcq h2;exact⟨sv,h1⟩
theorem qlG (h:MapAt M w g qh qE out) (hf:wfF f=true):∃ sv,∀ w':World,w'.heap[g]? = w.heap[g]?->(Instr.lookup 146 (.map (some g)) (.agg #[.int .i64 f.qn,.int .i64 f.f_a,.int .i64 f.f_b]) false).run Try.prog w'=.ok (.agg #[.int .i64 (mget qf zWay f out).qp.qQ,.int .i64 (mget qf zWay f out).qp.qt,.int .i64 (mget qf zWay f out).qY,sv]) w':=by
 obtain⟨es,clock,hb,E⟩:=h;have ht':=Ql (show QI Try.prog 146=some (127,152) by kernel_rfl)
 have hfit:∀ x,keyFits Try.prog 127 (qh x)=true:=fun x=>by kernel_rfl
 have he:∀ x y,akeq (qh x) (qh y)=qf x y:=fun x y=>rfl
 have fnd:=fun w=>YE (P:=Try.prog) (w:=w) (hfit f) (factKey hf) (UR hfit out) E
 obtain⟨h2,h3,h4,h5,h6,h7⟩:=E;obtain⟨_,_,hfd⟩:=fnd w
 rcases hfd with ⟨k1,k2,k3⟩ | ⟨j,e0,k1,k2,k3,k4⟩
 .rcases Zx (G:=qE) he zWay f out with ⟨j,g1,g2⟩ | ⟨g1,g2⟩
  .rw[k1]at g1;cases g1
  refine⟨.slice none 0 0,fun w' hw'=>?_⟩;obtain⟨hck,_,hfd'⟩:=fnd w'
  have q2:(Instr.findKey 127 (.agg #[.int .i64 f.qn,.int .i64 f.f_a,.int .i64 f.f_b]) es.toList).run Try.prog w'=.ok none w':=by
   rcases hfd' with ⟨_,q,_⟩ | ⟨j,e0,q1,_,_,_⟩
   .exact q
   rw[k1]at q1;cases q1
  have z1:=Try.zeroValue152 w';rw[g2];simp[Instr.lookup,run_underlying ht',D0 (hw'.trans hb),hck,q2,z1,Result.andThen]
 rcases Zx (G:=qE) he zWay f out with ⟨i,g1,g2⟩ | ⟨g1,g2⟩
 .rw[k1]at g1;cases g1;obtain⟨sv,hev,_⟩:=qcq (h7 j _ e0 g2 (by simpa using k3));refine⟨sv,fun w' hw'=>?_⟩;obtain⟨hck,_,hfd'⟩:=fnd w'
  rcases hfd' with ⟨q1,_,_⟩ | ⟨j',e1,q1,q2,q3,_⟩
  .rw[k1]at q1;cases q1
  rw[k1]at q1;cases q1;rw[k3]at q3;cases q3;rw[<- hev];simp[Instr.lookup,run_underlying ht',D0 (hw'.trans hb),hck,q2,Result.andThen]
 rw[k1]at g1;cases g1
theorem qix (h:MapAt M w g qh qE out) (hf:wfF f=true) {sv:Value} (hs:R M (l127 none k.qJ) sv) (hl:out.length<1000000000) :
  ∃ o',(Instr.mapUpdate 146 (.map (some g)) (.agg #[.int .i64 f.qn,.int .i64 f.f_a,.int .i64 f.f_b]) (.agg #[.int .i64 k.qp.qQ,.int .i64 k.qp.qt,.int .i64 k.qY,sv])).run Try.prog w=.ok () (setBlock w g o')/\MapAt M (setBlock w g o') g qh qE (mset qf f k out):=by
 obtain⟨es,clock,hb,hE⟩:=h
 have hvv:R M (qE k) (.agg #[.int .i64 k.qp.qQ,.int .i64 k.qp.qt,.int .i64 k.qY,sv]):=by
  refine .agg (vs:=[.int .i64 k.qp.qQ,.int .i64 k.qp.qt,.int .i64 k.qY,sv]) rfl fun j c u hc hu=>?_
  match j,hc,hu with
  | 0,hc,hu=>cases hc;cases hu;exact .int _ _
  | 1,hc,hu=>cases hc;cases hu;exact .int _ _
  | 2,hc,hu=>cases hc;cases hu;exact .int _ _
  | 3,hc,hu=>cases hc;cases hu;exact hs
 obtain⟨es',clock',hE',hU⟩:=Try.update_own (t:=146) (kt:=127) (e:=152) (eq:=qf) (G:=qE) hE kR (fun x=>by kernel_rfl) (fun x y=>rfl) (k:=f) (v:=k) (factKey hf) hvv hl;exact⟨_,hU w g hb,es',clock',Go.AM.setBlock_at hb,hE'⟩
theorem Try.field152 (a b c d:Value) (w:World):(Instr.field 152 (.agg #[a,b,c,d]) 0).run Try.prog w=.ok (.agg #[a,b]) w:=by kernel_rfl
theorem Try.field149a (a b:Value) (w:World):(Instr.field 149 (.agg #[a,b]) 0).run Try.prog w=.ok a w:=by kernel_rfl
theorem Try.field149b (a b:Value) (w:World):(Instr.field 149 (.agg #[a,b]) 1).run Try.prog w=.ok b w:=by kernel_rfl
theorem OS.pack {M0':Mem} (h:OS B0 Mb M0 wR go out M w) (hs:Sub M0' M):OS B0 Mb M0' wR go out M w:=by
 obtain⟨y1,y2,y3,y4,y5,y6,y7,y8,y9,y10,y11⟩:=h;exact⟨y1,hs,y3,y4,y5,y6,y7,y8,y9,y10,y11⟩
theorem Try.enter121:∀ args w,(callFunc 121 args).run Try.prog w=.ok (.enter 121 args) w:=fun args w=>by
 have h := Try.func121;have h1 : Try.f121.name ≠ "runtime.NumGoroutine" := of_decide_eq_true kR
 have h2:Try.f121.body≠none:=fun e=>absurd (show Try.f121.body.isNone=false by kernel_rfl) (by rw[e];decide)
 simp[callFunc,h,h1,h2]
set_option maxHeartbeats 4000000 in
theorem Try.back121 (B0:Nat) (Mb M0:Mem) (wR:World) (bi br bk bo go:Nat) (known:LC) (i rel:Int) (args:LA) (body:LQ) (hi0:M0 bi 0=some (.int .i64 i)) (hv bv:Value) (h0:M0 br 0=some (.int .i64 rel)) (h1:M0 br 1=some hv) (hr:R M0 (l3 none args) hv) (h2:M0 br 2=some bv) (hb:R M0 (l56 none body) bv) (hbl:body.length<=1000)
  (mo:LR) (h3:M0 bk 0=some (.map mo)) (hk:R M0 (mpE qh qE known) (.map mo)) (h4:M0 bo 0=some (.map (some go)))
  (out out1:LC) (hol:out.length<1000000000) (M:Mem) (w:World) (v:LA) (hv8:v.length=8) (hD:outD known i ⟨rel,args⟩ body out [v]=some out1) (hS:OS B0 Mb M0 wR go out M w) :
  Calls Try.prog 121 #[valsV v,.pointer (some ⟨bi,0,none⟩),.pointer (some ⟨br,0,none⟩),.pointer (some ⟨bk,0,none⟩),.pointer (some ⟨bo,0,none⟩)] w fun e w'=>e=retU/\OS B0 Mb M0 wR go out1 M w':=by
 have mixed:=mixedP;have⟨t3,a3,z3,v3,u3⟩:=Tf3;have⟨t4,a4,z4,v4,u4⟩:=Tf4;have⟨t39,a39,z39,v39,u39⟩:=Tf39;have⟨t50,a50,z50,v50,u50⟩:=Tf50;have⟨t52,a52,z52,v52,u52⟩:=Tf52;have⟨t54,a54,z54,v54,u54⟩:=Tf54;have⟨t56,a56,z56,v56,u56⟩:=Tf56;have⟨t127,a127,z127,v127,u127⟩:=Tf127;have⟨t146,a146,z146,v146,u146⟩:=Tf146;have⟨t149,a149,z149,v149,u149⟩:=Tf149;have⟨t150,a150,z150,v150,u150⟩:=Tf150;have⟨t152,a152,z152,v152,u152⟩:=Tf152;have⟨t178,a178,z178,v178,u178⟩:=Tf178;obtain⟨x0,x1,x2,x3,x4,x5,x6,x7,rfl⟩:=eight hv8;obtain⟨wy,hwy,hD⟩:=qb (show (wayL known [x0,x1,x2,x3,x4,x5,x6,x7] body ⟨⟨1,1⟩,i,[]⟩).bind _=some out1 from hD);obtain⟨f,hf,hD⟩:=qb hD;obtain⟨hwf,hD⟩:=qm hD;have hD:=Option.some.inj hD;have hC:=hS.cons;have hsub:=hS.sub;obtain⟨aa,ac,rfl⟩:=JF hr;obtain⟨ba,bc,rfl,hbody⟩:=qbC hb;rw[A4]at hr h1
 have q0:∀ o o',((w.alloc o).alloc o').cell? ⟨bi,0,none⟩=some (.int .i64 i):=fun o o'=>qG ((hC.alloc o).alloc o') (hsub _ _ _ hi0) rfl
 have q0:∀ o,(w.alloc o).cell? ⟨bi,0,none⟩=some (.int .i64 i):=fun o=>qG (hC.alloc o) (hsub _ _ _ hi0) rfl
 have q2:∀ o o',((w.alloc o).alloc o').cell? ⟨br,2,none⟩=some (.slice ba body.length bc):=fun o o'=>qG ((hC.alloc o).alloc o') (hsub _ _ _ h2) rfl
 obtain⟨w2,ew2⟩:∃ w2,w2=(w.alloc (.cells #[.int .i64 x0,.int .i64 x1,.int .i64 x2,.int .i64 x3,.int .i64 x4,.int .i64 x5,.int .i64 x6,.int .i64 x7] 178)).alloc (.cells #[.int .i64 1,.int .i64 1,.int .i64 i,.slice none 0 0] 152):=⟨_,rfl⟩
 have z2':w2.heap.size=w.heap.size+2:=by rw[ew2];simp
 have B2:Below w.heap.size w w2:=by rw[ew2];exact ((Below.refl _ _).alloc (A2 _) _).alloc (by simp) _
 have nA:w2.heap[w.heap.size]? = some (.cells #[.int .i64 x0,.int .i64 x1,.int .i64 x2,.int .i64 x3,.int .i64 x4,.int .i64 x5,.int .i64 x6,.int .i64 x7] 178 (0,0)):=by rw[ew2,heap_alloc_old _ _ (by simp)];exact heap_alloc_new _ _
 have nB:w2.heap[w.heap.size+1]? = some (.cells #[.int .i64 1,.int .i64 1,.int .i64 i,.slice none 0 0] 152 (0,0)):=by
  rw[ew2];have:=heap_alloc_new (w.alloc (.cells #[.int .i64 x0,.int .i64 x1,.int .i64 x2,.int .i64 x3,.int .i64 x4,.int .i64 x5,.int .i64 x6,.int .i64 x7] 178)) (.cells #[.int .i64 1,.int .i64 1,.int .i64 i,.slice none 0 0] 152)
  simpa using this
 have HW2:=(show Hid (w2=_) from ew2);have HD:=(show Hid _ from hD);have HS:=(show Hid _ from hS);clear ew2 hD hS
 go_enter Try.func121,Try.ntmps121
 go_wp2
 rw[<- HW2.out]
 go_loopw [17] (fun n wr=>∃ k:Nat,k<=body.length/\n=.int .i64 k/\∃ (wk:ruway) (vc:Value),wayL known [x0,x1,x2,x3,x4,x5,x6,x7] (body.drop k) wk=some wy/\wk.qJ.length<=k/\Below w.heap.size w wr/\w.heap.size+2<=wr.heap.size/\wr.heap[w.heap.size]? = some (.cells #[.int .i64 x0,.int .i64 x1,.int .i64 x2,.int .i64 x3,.int .i64 x4,.int .i64 x5,.int .i64 x6,.int .i64 x7] 178 (0,0)) /\
   wr.heap[w.heap.size+1]? = some (.cells #[.int .i64 wk.qp.qQ,.int .i64 wk.qp.qt,.int .i64 wk.qY,vc] 152 (0,0))/\wr.ownsRow (w.heap.size+2) 127 3 vc wk.qJ.length (factsC wk.qJ))
  (fun n _=>body.length - (RowKit.intOf n).toNat)
 case atStart=>exact⟨0,Nat.zero_le _,rfl,⟨⟨1,1⟩,i,[]⟩,_,hwy,A2 _,B2,by omega,nA,nB,World.ownsRow_nil w2 (w.heap.size+2) 127 3⟩
 case round =>
  clear q0 q2 nA nB B2 z2';obtain⟨k,hk1,rfl,wk,vc,hwk,hsl,hB,hsz,nA,nB,hown⟩:=hrel;have C1:=hC.below hB
  have dA0:wr.cell? ⟨w.heap.size,0,none⟩=some (.int .i64 x0):=by simp[A0,nA]
  rcases A9 k body.length with hk2 | hk2
  .obtain⟨b,off,av,rfl,e0,e1,e2,rav,aa2,ac2,rfl⟩:=hbody k _ (B1 hk2);rw[List.drop_eq_getElem_cons hk2]at hwk;have i0:(0:Int)<=(k:Int):=Int.natCast_nonneg _
   have i1:(k:Int)<(body.length:Int):=by omega
   have f0:=qG C1 (hsub _ _ _ e0) rfl;have f1:=qG C1 (hsub _ _ _ e1) rfl;have f2:=qG C1 (hsub _ _ _ e2) rfl;generalize body[k]=x at hwk e0 e1 e2 rav f0 f1 f2;obtain⟨nt,xrel,xargs⟩:=x;simp only at e0 e1 e2 rav f0 f1 f2;obtain⟨w4,ew4⟩:∃ w4,w4=wr.alloc (.cells #[.bool nt,.int .i64 xrel,.slice aa2 xargs.length ac2] 56):=⟨_,rfl⟩
   have z4':w4.heap.size=wr.heap.size+1:=by rw[ew4];simp
   have b4:∀ k,k<wr.heap.size->w4.heap[k]? = wr.heap[k]?:=fun k hk=>by rw[ew4];exact heap_alloc_old _ _ hk
   have n4:w4.heap[wr.heap.size]? = some (.cells #[.bool nt,.int .i64 xrel,.slice aa2 xargs.length ac2] 56 (0,0)):=by rw[ew4];exact heap_alloc_new _ _
   have B4:Below w.heap.size w w4:=by rw[ew4];exact hB.alloc oM _
   have O4:w4.ownsRow (w.heap.size+2) 127 3 vc wk.qJ.length (factsC wk.qJ):=by rw[ew4];exact hown.alloc _
   have g0:w4.cell? ⟨wr.heap.size,0,none⟩=some (.bool nt):=by simp[A0,n4]
   have g1:w4.cell? ⟨wr.heap.size,1,none⟩=some (.int .i64 xrel):=by simp[A0,n4]
   have g2:w4.cell? ⟨wr.heap.size,2,none⟩=some (.slice aa2 xargs.length ac2):=by simp[A0,n4]
   cases nt with
   | true =>
    have hwk:wayL known [x0,x1,x2,x3,x4,x5,x6,x7] (body.drop (k+1)) wk=some wy:=hwk;have HW4:=(show Hid (w4=_) from ew4);rw[ew4]at g0;have HK:=(show Hid _ from hwk);clear ew4 hwk
    go_wp2
    rw[<- HW4.out]
    go_roundw
    case rel=>exact⟨k+1,hk2,by go_num,wk,vc,HK.out,by omega,B4,by omega,(b4 _ oM).trans nA,(b4 _ oM).trans nB,O4⟩
    case measure=>simp[RowKit.intOf];omega
   | false =>
    obtain⟨fx,hfx,hwk⟩:=qb (show (qA [x0,x1,x2,x3,x4,x5,x6,x7] ⟨xrel,xargs⟩).bind _=some wy from hwk);obtain⟨hwfx,hwk⟩:=qm hwk;have C4:=hC.below B4
    have c118:=VE (JT [x0,x1,x2,x3,x4,x5,x6,x7] ⟨xrel,xargs⟩ fx hfx) M w4 [valsV [x0,x1,x2,x3,x4,x5,x6,x7],.agg #[.int .i64 xrel,.slice aa2 xargs.length ac2]] (glob0 M) C4 rfl (fun j a b ha hb=>by
     match j,ha,hb with
     | 0,ha,hb=>cases ha;cases hb;exact qcs _ _
     | 1,ha,hb=>cases ha;cases hb;exact qdB (rav.mono hsub))
    have nA4:=(b4 _ oM).trans nA
    have k80:w4.cell? ⟨w.heap.size,0,none⟩=some (.int .i64 x0):=by simp[A0,nA4]
    have k81:w4.cell? ⟨w.heap.size,1,none⟩=some (.int .i64 x1):=by simp[A0,nA4]
    have k82:w4.cell? ⟨w.heap.size,2,none⟩=some (.int .i64 x2):=by simp[A0,nA4]
    have k83:w4.cell? ⟨w.heap.size,3,none⟩=some (.int .i64 x3):=by simp[A0,nA4]
    have k84:w4.cell? ⟨w.heap.size,4,none⟩=some (.int .i64 x4):=by simp[A0,nA4]
    have k85:w4.cell? ⟨w.heap.size,5,none⟩=some (.int .i64 x5):=by simp[A0,nA4]
    have k86:w4.cell? ⟨w.heap.size,6,none⟩=some (.int .i64 x6):=by simp[A0,nA4]
    have k87:w4.cell? ⟨w.heap.size,7,none⟩=some (.int .i64 x7):=by simp[A0,nA4]
    have HW4:=(show Hid (w4=_) from ew4);have HK:=(show Hid _ from hwk);have HC118:=(show Hid _ from c118);rw[ew4]at g0 g1 g2 k80 k81 k82 k83 k84 k85 k86 k87;clear ew4 hwk c118
    go_wp2_with fail
    rw[<- HW4.out];refine Calls.mono HC118.out ?_
    rintro e w5 ⟨fv,M5,rfl,hB5,s5,C5,o5,r5,_⟩
    obtain rfl:fv=.agg #[.int .i64 fx.qn,.int .i64 fx.f_a,.int .i64 fx.f_b]:=Hr r5;have B5:Below w.heap.size w w5:=B4.trans (hB5.mono (by have:=B4.size;omega));have hz5:=hB5.size;obtain⟨w6,ew6⟩:∃ w6,w6=w5.alloc (.cells #[.int .i64 fx.qn,.int .i64 fx.f_a,.int .i64 fx.f_b] 127):=⟨_,rfl⟩;obtain⟨w7,ew7⟩:∃ w7,w7=w6.alloc (.cells #[.int .i64 fx.qn,.int .i64 fx.f_a,.int .i64 fx.f_b] 127):=⟨_,rfl⟩
    have z6:w6.heap.size=w5.heap.size+1:=by rw[ew6];simp
    have z7:w7.heap.size=w5.heap.size+2:=by rw[ew7];simp[z6]
    have B7:Below w.heap.size w w7:=by rw[ew7,ew6];exact (B5.alloc B5.size _).alloc (by have:=B5.size;simp;omega) _
    have b6:∀ k,k<w4.heap.size->w6.heap[k]? = w4.heap[k]?:=fun k hk=>by rw[ew6,heap_alloc_old _ _ (by omega)];exact hB5.block k hk
    have n6:w6.heap[w5.heap.size]? = some (.cells #[.int .i64 fx.qn,.int .i64 fx.f_a,.int .i64 fx.f_b] 127 (0,0)):=by rw[ew6];exact heap_alloc_new _ _
    have b7:∀ k,k<w6.heap.size->w7.heap[k]? = w6.heap[k]?:=fun k hk=>by rw[ew7];exact heap_alloc_old _ _ hk
    have n7:w7.heap[w6.heap.size]? = some (.cells #[.int .i64 fx.qn,.int .i64 fx.f_a,.int .i64 fx.f_b] 127 (0,0)):=by rw[ew7];exact heap_alloc_new _ _
    have nB6:w6.heap[w.heap.size+1]? = some (.cells #[.int .i64 wk.qp.qQ,.int .i64 wk.qp.qt,.int .i64 wk.qY,vc] 152 (0,0)):=(b6 _ oM).trans ((b4 _ oM).trans nB);have nA7:w7.heap[w.heap.size]? = some (.cells #[.int .i64 x0,.int .i64 x1,.int .i64 x2,.int .i64 x3,.int .i64 x4,.int .i64 x5,.int .i64 x6,.int .i64 x7] 178 (0,0)):=(b7 _ oM).trans ((b6 _ oM).trans nA4);have nB7:w7.heap[w.heap.size+1]? = some (.cells #[.int .i64 wk.qp.qQ,.int .i64 wk.qp.qt,.int .i64 wk.qY,vc] 152 (0,0)):=(b7 _ oM).trans nB6
    have O7:w7.ownsRow (w.heap.size+2) 127 3 vc wk.qJ.length (factsC wk.qJ):=by
     rw[ew7,ew6];exact ((Df O4 fun k hk _=>hB5.block k hk).alloc _).alloc _
    have v6:w6.cell? ⟨w.heap.size+1,3,none⟩=some vc:=by simp[A0,nB6]
    have h60:w6.cell? ⟨w5.heap.size,0,none⟩=some (.int .i64 fx.qn):=by simp[A0,n6]
    have h61:w6.cell? ⟨w5.heap.size,1,none⟩=some (.int .i64 fx.f_a):=by simp[A0,n6]
    have h62:w6.cell? ⟨w5.heap.size,2,none⟩=some (.int .i64 fx.f_b):=by simp[A0,n6]
    have hll:wk.qJ.length<=1000000000:=by omega
    have hbase:w.heap.size+2<=w7.heap.size:=by omega
    have HW7:=(show Hid (w7=_) from ew7);have HW6:=(show Hid (w6=_) from ew6);rw[ew6]at ew7 v6 h60 h61 h62 n7;rw[ew7]at O7 n7 hbase
    have z6':(w5.alloc (.cells #[.int .i64 fx.qn,.int .i64 fx.f_a,.int .i64 fx.f_b] 127)).heap.size=w5.heap.size+1:=by simp
    rw[z6']at n7
    have hD8:∀ w8:World,w7.grownBy w8 vc.ownBlock->w8.heap[w.heap.size+1]? = some (.cells #[.int .i64 wk.qp.qQ,.int .i64 wk.qp.qt,.int .i64 wk.qY,vc] 152 (0,0)):=fun w8 hg=>by
     rw[hg.block _ (by omega) (fun e=>by have:=(hown.lt _ e.symm).1;omega)];exact nB7
    have HD8:=(show Hid _ from hD8);clear ew6 ew7 hD8 C5 s5 o5 r5 nB7
    go_wp2_with (first | (at_builtin;refine VA rfl (.tmp 28) (.tmp 30) (by rfl) (by rfl) (by rfl) O7 n7 hll hbase ?_;intro gb cb w8 ho8 hg8 ha8 hl8;rw[<- HW6.out,<- HW7.out]at hg8 ha8;have nb8:=HD8.out _ hg8;have d1:w8.frozen? ⟨w.heap.size+1,3,none⟩=false:=(by simp[C0,nb8]);have d2:w8.cell? ⟨w.heap.size+1,3,none⟩=some vc:=(by simp[A0,nb8])))
    have B8:Below w.heap.size w w8:=⟨hg8.os.trans B7.os,hg8.tape.trans B7.tape,hg8.output.trans B7.output,A8 B7.size hg8.size,fun k hk=>by rw[hg8.block k (by omega) (fun e=>by have:=(hown.lt _ e.symm).1;omega)];exact B7.block k hk⟩
    have b8:∀ k,k<w7.heap.size->k<w.heap.size+2\/k=w5.heap.size->w8.heap[k]? = w7.heap[k]?:=fun k hk h1=>by
     refine hg8.block k hk fun e=>?_
     have h2:=hown.lt _ e.symm;have:=h2.1;have:=h2.2;omega
    have nA8:w8.heap[w.heap.size]? = _:=(b8 _ oM (.inl oM)).trans nA7;have nF8:w8.heap[w5.heap.size]? = _:=(b8 _ oM (.inr rfl)).trans ((b7 _ oM).trans n6);obtain⟨w9,ew9⟩:∃ w9,w9=w8.setCell ⟨w.heap.size+1,3,none⟩ (.slice (some ⟨gb,0,none⟩) (wk.qJ.length+1) cb):=⟨_,rfl⟩
    have nA9:w9.heap[w.heap.size]? = some (.cells #[.int .i64 x0,.int .i64 x1,.int .i64 x2,.int .i64 x3,.int .i64 x4,.int .i64 x5,.int .i64 x6,.int .i64 x7] 178 (0,0)):=by rw[ew9,qM (by omega)];exact nA8
    have nF9:w9.heap[w5.heap.size]? = some (.cells #[.int .i64 fx.qn,.int .i64 fx.f_a,.int .i64 fx.f_b] 127 (0,0)):=by rw[ew9,qM (by omega)];exact nF8
    have nB9:w9.heap[w.heap.size+1]? = some (.cells #[.int .i64 wk.qp.qQ,.int .i64 wk.qp.qt,.int .i64 wk.qY,.slice (some ⟨gb,0,none⟩) (wk.qJ.length+1) cb] 152 (0,0)):=by rw[ew9,jP _ nb8];rfl
    have O9:w9.ownsRow (w.heap.size+2) 127 3 (.slice (some ⟨gb,0,none⟩) (wk.qJ.length+1) cb) (wk.qJ.length+1) (factsC (wk.qJ++[fx])):=by
     refine Df ho8 fun k hk hkb=>?_
     have:=(ho8.lt k hkb).1;rw[ew9,qM (by omega)]
    have B9:Below w.heap.size w w9:=by
     rw[ew9];exact⟨B8.os,B8.tape,B8.output,by rw[jY];exact B8.size,fun k hk=>by rw[qM (by omega)];exact B8.block k hk⟩
    have z9:w9.heap.size=w8.heap.size:=by rw[ew9,jY]
    have z8:=hg8.size;rw[<- ew9];clear ew9 d1 d2 nb8 ho8 hg8 ha8 B8 b8 nA8 nF8 v6 h60 h61 h62 O7 n7 nA7 k80 k81 k82 k83 k84 k85 k86 k87 g0 g1 g2 f0 f1 f2 O4 n4 hbase nB6 z6';clear b6 b7 n6;have C9:=hC.below B9
    have kk:∀ d,({ w9 with drawn:=d }:World).cell? ⟨bk,0,none⟩=some (.map mo):=fun d=>qG C9 (hsub _ _ _ h3) rfl
    have l0:∀ d,({ w9 with drawn:=d }:World).cell? ⟨w.heap.size+1,0,none⟩=some (.int .i64 wk.qp.qQ):=fun d=>by simp[A0,nB9]
    have l1:∀ d,({ w9 with drawn:=d }:World).cell? ⟨w.heap.size+1,1,none⟩=some (.int .i64 wk.qp.qt):=fun d=>by simp[A0,nB9]
    have m0:∀ d,({ w9 with drawn:=d }:World).cell? ⟨w5.heap.size,0,none⟩=some (.int .i64 fx.qn):=fun d=>by simp[A0,nF9]
    have m1:∀ d,({ w9 with drawn:=d }:World).cell? ⟨w5.heap.size,1,none⟩=some (.int .i64 fx.f_a):=fun d=>by simp[A0,nF9]
    have m2:∀ d,({ w9 with drawn:=d }:World).cell? ⟨w5.heap.size,2,none⟩=some (.int .i64 fx.f_b):=fun d=>by simp[A0,nF9]
    obtain⟨sv,hlk⟩:=qkq (hk.mono hsub) hwfx w9.drew C9;have fd1:=Try.field152;have fd2:=Try.field149a;have fd3:=Try.field149b
    go_still_tail 12,(by kernel_rfl)
    change wpList _ _ _ _ _ w9.drew;obtain⟨DD,eDD⟩:∃ DD,DD=(max wk.qp.qQ (IntKind.i64.wrap ((mget qf zWay fx known).qp.qQ+1))):=⟨_,rfl⟩;rw[<- eDD];obtain⟨wa,ewa⟩:∃ wa,wa=w9.drew:=⟨_,rfl⟩;rw[<- ewa]
    have nBa:wa.heap[w.heap.size+1]? = some (.cells #[.int .i64 wk.qp.qQ,.int .i64 wk.qp.qt,.int .i64 wk.qY,.slice (some ⟨gb,0,none⟩) (wk.qJ.length+1) cb] 152 (0,0)):=by rw[ewa];exact nB9
    have p1:wa.frozen? ⟨w.heap.size+1,0,none⟩=false:=by simp[C0,nBa]
    have p2:wa.cell? ⟨w.heap.size+1,0,none⟩=some (.int .i64 wk.qp.qQ):=by simp[A0,nBa]
    obtain⟨w10,ew10⟩:∃ w10,w10=wa.setCell ⟨w.heap.size+1,0,none⟩ (.int .i64 DD):=⟨_,rfl⟩
    have nB10:w10.heap[w.heap.size+1]? = some (.cells #[.int .i64 DD,.int .i64 wk.qp.qt,.int .i64 wk.qY,.slice (some ⟨gb,0,none⟩) (wk.qJ.length+1) cb] 152 (0,0)):=by rw[ew10,jP _ nBa];rfl
    have b10:∀ k,k≠w.heap.size+1->w10.heap[k]? = w9.heap[k]?:=fun k hk=>by rw[ew10,qM hk,ewa];rfl
    have z10:w10.heap.size=w9.heap.size:=by rw[ew10,jY,ewa];rfl
    have o10:w10.os=w9.os/\w10.tape=w9.tape/\w10.output=w9.output:=by rw[ew10,ewa];exact⟨rfl,rfl,rfl⟩
    have B10:Below w.heap.size w w10:=⟨o10.1.trans B9.os,o10.2.1.trans B9.tape,o10.2.2.trans B9.output,by rw[z10];exact B9.size,fun k hk=>by rw[b10 k (by omega)];exact B9.block k hk⟩;have C10:=hC.below B10;have HDD:=(show Hid _ from eDD);have HW10:=(show Hid _ from ew10);have HB10:=(show Hid _ from b10);clear eDD ew10 ewa kk l0 l1 m0 m1 m2 hlk b10 o10
    go_wp2
    rw[<- HW10.out];have nF10:=(HB10.out w5.heap.size oM).trans nF9
    have kk:∀ d,({ w10 with drawn:=d }:World).cell? ⟨bk,0,none⟩=some (.map mo):=fun d=>qG C10 (hsub _ _ _ h3) rfl
    have l1:∀ d,({ w10 with drawn:=d }:World).cell? ⟨w.heap.size+1,1,none⟩=some (.int .i64 wk.qp.qt):=fun d=>by simp[A0,nB10]
    have m0:∀ d,({ w10 with drawn:=d }:World).cell? ⟨w5.heap.size,0,none⟩=some (.int .i64 fx.qn):=fun d=>by simp[A0,nF10]
    have m1:∀ d,({ w10 with drawn:=d }:World).cell? ⟨w5.heap.size,1,none⟩=some (.int .i64 fx.f_a):=fun d=>by simp[A0,nF10]
    have m2:∀ d,({ w10 with drawn:=d }:World).cell? ⟨w5.heap.size,2,none⟩=some (.int .i64 fx.f_b):=fun d=>by simp[A0,nF10]
    obtain⟨sv,hlk⟩:=qkq (hk.mono hsub) hwfx w10.drew C10
    go_still_tail 12,(by kernel_rfl)
    change wpList _ _ _ _ _ w10.drew;obtain⟨NN,eNN⟩:∃ NN,NN=(min (IntKind.i64.wrap (wk.qp.qt+(mget qf zWay fx known).qp.qt)) 1000):=⟨_,rfl⟩;rw[<- eNN];obtain⟨wa,ewa⟩:∃ wa,wa=w10.drew:=⟨_,rfl⟩;rw[<- ewa]
    have nBa:wa.heap[w.heap.size+1]? = some (.cells #[.int .i64 DD,.int .i64 wk.qp.qt,.int .i64 wk.qY,.slice (some ⟨gb,0,none⟩) (wk.qJ.length+1) cb] 152 (0,0)):=by rw[ewa];exact nB10
    have p1:wa.frozen? ⟨w.heap.size+1,1,none⟩=false:=by simp[C0,nBa]
    have p2:wa.cell? ⟨w.heap.size+1,1,none⟩=some (.int .i64 wk.qp.qt):=by simp[A0,nBa]
    obtain⟨w11,ew11⟩:∃ w11,w11=wa.setCell ⟨w.heap.size+1,1,none⟩ (.int .i64 NN):=⟨_,rfl⟩
    have nB11:w11.heap[w.heap.size+1]? = some (.cells #[.int .i64 DD,.int .i64 NN,.int .i64 wk.qY,.slice (some ⟨gb,0,none⟩) (wk.qJ.length+1) cb] 152 (0,0)):=by rw[ew11,jP _ nBa];rfl
    have b11:∀ k,k≠w.heap.size+1->w11.heap[k]? = w9.heap[k]?:=fun k hk=>by rw[ew11,qM hk,ewa];exact HB10.out k hk
    have z11:w11.heap.size=w9.heap.size:=by rw[ew11,jY,ewa];exact z10
    have B11:Below w.heap.size w w11:=by
     rw[ew11,ewa];exact⟨B10.os,B10.tape,B10.output,by rw[jY];exact B10.size,fun k hk=>by rw[qM (by omega)];exact B10.block k hk⟩
    have HNN:=(show Hid _ from eNN);have HW11:=(show Hid _ from ew11);have HB11:=(show Hid _ from b11);have HO9:=(show Hid _ from O9);clear eNN ew11 ewa kk l1 m0 m1 m2 hlk b11 O9
    go_wp2
    rw[<- HW11.out]
    go_roundw
    case rel =>
     refine⟨k+1,hk2,by go_num,costS known wk fx,.slice (some ⟨gb,0,none⟩) (wk.qJ.length+1) cb,HK.out,?_,B11,by omega,(HB11.out _ oM).trans nA9,?_,?_⟩
     .show (wk.qJ++[fx]).length<=k+1;rw[A5,D1];omega
     .show w11.heap[w.heap.size+1]? = some (.cells #[.int .i64 (max wk.qp.qQ (IntKind.i64.wrap ((mget qf zWay fx known).qp.qQ+1))),.int .i64 (min (IntKind.i64.wrap (wk.qp.qt+(mget qf zWay fx known).qp.qt)) 1000),.int .i64 wk.qY,.slice (some ⟨gb,0,none⟩) (wk.qJ.length+1) cb] 152 (0,0));rw[<- HDD.out,<- HNN.out];exact nB11
     show w11.ownsRow (w.heap.size+2) 127 3 (.slice (some ⟨gb,0,none⟩) (wk.qJ.length+1) cb) (wk.qJ++[fx]).length (factsC (wk.qJ++[fx]));rw[A5,D1]
     refine Df HO9.out fun k hk hkb=>HB11.out k ?_
     have:=(World.ownsRow.lt HO9.out k hkb).1;omega
    case measure=>simp[RowKit.intOf];omega
  have hkl:k=body.length:=by omega
  subst hkl;rw[List.drop_length]at hwk;obtain rfl:wk=wy:=Option.some.inj hwk;clear hwk hsl hbody;have hD:=HD.out
  have hcall:=VE (JT [x0,x1,x2,x3,x4,x5,x6,x7] ⟨rel,args⟩ f hf) M wr [valsV [x0,x1,x2,x3,x4,x5,x6,x7],.agg #[.int .i64 rel,.slice aa args.length ac]] (glob0 M) C1 rfl (fun j a b ha hb=>by
    match j,ha,hb with
    | 0,ha,hb=>cases ha;cases hb;exact qcs _ _
    | 1,ha,hb=>cases ha;cases hb;exact qdB (hr.mono hsub))
  have e0:=qG C1 (hsub _ _ _ h0) rfl;have e1:=qG C1 (hsub _ _ _ h1) rfl
  have k81:wr.cell? ⟨w.heap.size,1,none⟩=some (.int .i64 x1):=by simp[A0,nA]
  have k82:wr.cell? ⟨w.heap.size,2,none⟩=some (.int .i64 x2):=by simp[A0,nA]
  have k83:wr.cell? ⟨w.heap.size,3,none⟩=some (.int .i64 x3):=by simp[A0,nA]
  have k84:wr.cell? ⟨w.heap.size,4,none⟩=some (.int .i64 x4):=by simp[A0,nA]
  have k85:wr.cell? ⟨w.heap.size,5,none⟩=some (.int .i64 x5):=by simp[A0,nA]
  have k86:wr.cell? ⟨w.heap.size,6,none⟩=some (.int .i64 x6):=by simp[A0,nA]
  have k87:wr.cell? ⟨w.heap.size,7,none⟩=some (.int .i64 x7):=by simp[A0,nA]
  have HC:=(show Hid _ from hcall);have HDD:=(show Hid _ from hD);clear hcall hD
  go_wp2_with fail
  refine Calls.mono HC.out ?_
  rintro e w5 ⟨fv,M5,rfl,hB5,s5,C5,o5,r5,_⟩
  obtain rfl:fv=.agg #[.int .i64 f.qn,.int .i64 f.f_a,.int .i64 f.f_b]:=Hr r5;have hz5:=hB5.size;have B5:Below w.heap.size w w5:=hB.trans (hB5.mono oM);obtain⟨w6,ew6⟩:∃ w6,w6=w5.alloc (.cells #[.int .i64 f.qn,.int .i64 f.f_a,.int .i64 f.f_b] 127):=⟨_,rfl⟩
  have z6:w6.heap.size=w5.heap.size+1:=by rw[ew6];simp
  have B6:Below w.heap.size w w6:=by rw[ew6];exact B5.alloc B5.size _
  have b6:∀ k,k<wr.heap.size->w6.heap[k]? = wr.heap[k]?:=fun k hk=>by rw[ew6,heap_alloc_old _ _ (by omega)];exact hB5.block k hk
  have n6:w6.heap[w5.heap.size]? = some (.cells #[.int .i64 f.qn,.int .i64 f.f_a,.int .i64 f.f_b] 127 (0,0)):=by rw[ew6];exact heap_alloc_new _ _
  have nB6:=(b6 _ oM).trans nB
  have O6:w6.ownsRow (w.heap.size+2) 127 3 vc wk.qJ.length (factsC wk.qJ):=by
   rw[ew6];exact (Df hown fun k hk _=>hB5.block k hk).alloc _
  have C6:=hC.below B6
  have kk:∀ d,({ w6 with drawn:=d }:World).cell? ⟨bo,0,none⟩=some (.map (some go)):=fun d=>qG C6 (hsub _ _ _ h4) rfl
  have l1:∀ d,({ w6 with drawn:=d }:World).cell? ⟨w.heap.size+1,1,none⟩=some (.int .i64 wk.qp.qt):=fun d=>by simp[A0,nB6]
  have m0:∀ d,({ w6 with drawn:=d }:World).cell? ⟨w5.heap.size,0,none⟩=some (.int .i64 f.qn):=fun d=>by simp[A0,n6]
  have m1:∀ d,({ w6 with drawn:=d }:World).cell? ⟨w5.heap.size,1,none⟩=some (.int .i64 f.f_a):=fun d=>by simp[A0,n6]
  have m2:∀ d,({ w6 with drawn:=d }:World).cell? ⟨w5.heap.size,2,none⟩=some (.int .i64 f.f_b):=fun d=>by simp[A0,n6]
  obtain⟨y1,y2,y3,y4,y5,y6,y7,y8,y9,y10,M2,j1,j2,j3,j4,j5⟩:=HS.out
  have hgl:go<w.heap.size:=by omega
  have j6:MapAt M2 w6 go qh qE out:=j4.of (B6.block go hgl);obtain⟨sv,hlk0⟩:=qlG j6 hwf
  have hlk:=fun n=>hlk0 (w6.drewN n) rfl
  clear hlk0;have fd1:=Try.field152;have fd3:=Try.field149b;have HW6:=(show Hid (w6=_) from ew6);clear ew6 C5 s5 o5 r5 e0 e1 k81 k82 k83 k84 k85 k86 k87 nA dA0;have HDD:=HDD.out;unfold putO at HDD;obtain⟨old,eold⟩:∃ old,old=(mget qf zWay f out).qp.qt:=⟨_,rfl⟩;rw[<- eold]at HDD hlk;clear eold
  go_wp2
  rw[<- HW6.out]
  have hend:∀ out1,out1=out->∀ nq,OS B0 Mb M0 wR go out1 M (w6.drewN nq):=fun o ho nq=>by
   rw[ho];exact OS.grow HS.out ⟨B6.os,B6.tape,B6.output,B6.size,B6.block⟩ (Sub.refl M) (fun _ _ _=>rfl) C6
  have hput:∀ out1,out1=mset qf f wk out->∀ nq,∃ o',(Instr.mapUpdate 146 (.map (some go)) (.agg #[.int .i64 f.qn,.int .i64 f.f_a,.int .i64 f.f_b]) (.agg #[.int .i64 wk.qp.qQ,.int .i64 wk.qp.qt,.int .i64 wk.qY,vc])).run Try.prog (w6.drewN nq)=.ok () (setBlock (w6.drewN nq) go o')/\OS B0 Mb M0 wR go out1 M (setBlock (w6.drewN nq) go o'):=fun o ho nq=>by
   obtain⟨wq,ewq⟩:∃ wq,wq=w6.drewN nq:=⟨_,rfl⟩
   have Bq:Below w.heap.size w wq:=by rw[ewq];exact⟨B6.os,B6.tape,B6.output,B6.size,B6.block⟩
   have Oq:wq.ownsRow (w.heap.size+2) 127 3 vc wk.qJ.length (factsC wk.qJ):=by rw[ewq];exact O6
   have jq:MapAt M2 wq go qh qE out:=by rw[ewq];exact j6
   rw[<- ewq];have s3:Sub M2 (mtail M2 w.heap.size wq):=UL j2 Bq (A2 _);have hsub:R (mtail M2 w.heap.size wq) (l127 none wk.qJ) vc:=qkG Oq oM;obtain⟨o',q1,q2⟩:=qix (jq.mono s3) hwf (k:=wk) hsub hol;refine⟨o',q1,?_⟩;have Cq:Cons (mtail M2 w.heap.size wq) wq:=Zl j2 Bq
   have mgo:∀ o,mtail M2 w.heap.size wq go o=none:=fun o=>by rw[QY hgl];exact j3 o
   have hC2:∀ N:Mem,Cons N wq->(∀ o,N go o=none)->Cons N (setBlock wq go o'):=fun N hN hg b o u hu=>by
    have hne:b≠go:=fun e=>by rw[e,hg]at hu;cases hu
    rw[Qd (setBlock_other hne)];exact hN _ _ _ hu
   rw[ho];refine⟨hC2 M (hC.below Bq) y8,y2,Bq.os.trans y3,Bq.tape.trans y4,Bq.output.trans y5,by rw[setBlock_size];have:=Bq.size;omega,fun k hk hne=>by rw[setBlock_other hne,Bq.block k (by omega)];exact y7 k hk hne,y8,y9,y10,_,Sub.trans j1 s3,hC2 _ Cq mgo,mgo,q2,fun b o hb=>by rw[QY (by omega)];exact j5 b o hb⟩
  have v0':∀ d,(w6.drewN d).cell? ⟨w.heap.size+1,0,none⟩=some (.int .i64 wk.qp.qQ):=fun d=>by simp[A0,A7,nB6]
  have v1':∀ d,(w6.drewN d).cell? ⟨w.heap.size+1,1,none⟩=some (.int .i64 wk.qp.qt):=fun d=>by simp[A0,A7,nB6]
  have v2':∀ d,(w6.drewN d).cell? ⟨w.heap.size+1,2,none⟩=some (.int .i64 wk.qY):=fun d=>by simp[A0,A7,nB6]
  have v3':∀ d,(w6.drewN d).cell? ⟨w.heap.size+1,3,none⟩=some vc:=fun d=>by simp[A0,A7,nB6]
  have HE:=(show Hid _ from hend);have HP:=(show Hid _ from hput);have HDO:=(show Hid _ from HDD);clear hend hput HDD;by_cases c1:wk.qp.qt<old
  .have c1':decide (wk.qp.qt<old)=true:=dT c1
   go_quiet (fail)
   obtain⟨o',q1,q2⟩:=HP.out out1 (by have:=HDO.out;rw[c1']at this;exact this.symm) nq;have HQ:=(show Hid _ from q2);clear q2
   go_wp2
   refine bodyPost_end (results_none rfl _ _ _) rfl ?_;exact⟨rfl,HQ.out⟩
  have c1':decide (wk.qp.qt<old)=false:=dF c1;by_cases c2:old=0
  .subst c2
   go_quiet (fail)
   obtain⟨o',q1,q2⟩:=HP.out out1 (by have:=HDO.out;rw[c1']at this;exact this.symm) nq;have HQ:=(show Hid _ from q2);clear q2
   go_wp2
   refine bodyPost_end (results_none rfl _ _ _) rfl ?_;exact⟨rfl,HQ.out⟩
  have c2':(old == 0)=false:=by simpa using c2
  have c2'':decide (old=0)=false:=dF c2
  go_quiet (fail)
  have q2:=HE.out out1 (by have:=HDO.out;rw[c1',c2'']at this;exact this.symm) nq;have HQ:=(show Hid _ from q2);clear q2
  go_wp2
  refine bodyPost_end (results_none rfl _ _ _) rfl ?_;exact⟨rfl,HQ.out⟩
def okB (known:LC) (i:Int) (head:qo) (body:LQ) (out0:LC) (d:Li):Prop:=(outD known i head body out0 d).isSome=true/\out0.length+d.length<=900000000
def StB (B0:Nat) (Mb M0:Mem) (wR:World) (go:Nat) (known:LC) (i:Int) (head:qo) (body:LQ) (out0:LC) (d:Li) (M:Mem) (w:World):Prop:=∃ o,outD known i head body out0 d=some o/\OS B0 Mb M0 wR go o M w
theorem OS.cb {bi br bk bo:Nat} {i rel:Int} {args:LA} {body:LQ} {out0:LC} (hi0:M0 bi 0=some (.int .i64 i)) {hv bv:Value} (h0:M0 br 0=some (.int .i64 rel)) (h1:M0 br 1=some hv) (hr:R M0 (l3 none args) hv) (h2:M0 br 2=some bv) (hb:R M0 (l56 none body) bv) (hbl:body.length<=1000)
  {mo:LR} (h3:M0 bk 0=some (.map mo)) (hk:R M0 (mpE qh qE known) (.map mo)) (h4:M0 bo 0=some (.map (some go))) :
  CB (okB known i ⟨rel,args⟩ body out0) 121 #[.pointer (some ⟨bi,0,none⟩),.pointer (some ⟨br,0,none⟩),.pointer (some ⟨bk,0,none⟩),.pointer (some ⟨bo,0,none⟩)] M0 (StB B0 Mb M0 wR go known i ⟨rel,args⟩ body out0):=by
 refine⟨fun {a b} h=>?_,Try.enter121,fun ⟨o,_,h⟩=>⟨h.cons,h.sub⟩,fun ⟨o,e,h⟩ hB hs ho hC=>⟨o,e,h.grow hB hs ho hC⟩,fun ⟨o,e,h⟩ h1 h2=>⟨o,e,h.down h1 h2⟩,fun {d M w} v hv8 hD hS=>?_⟩
 .obtain⟨h1,h2⟩:=h;rw[Uf]at h1;rw[A5]at h2;refine⟨?_,by omega⟩
  cases ho:outD known i ⟨rel,args⟩ body out0 a with
  | none=>rw[ho]at h1;cases h1
  | some o=>rfl
 obtain⟨o,e,h⟩:=hS;obtain⟨g1,g2⟩:=hD;rw[Uf,e,A3]at g1;obtain⟨o1,ho1⟩:=Option.isSome_iff_exists.1 g1;have hl:=qcQ _ _ _ _ _ _ _ e;rw[A5]at g2;refine Calls.mono (Try.back121 B0 Mb M0 wR bi br bk bo go known i rel args body hi0 hv bv h0 h1 hr h2 hb hbl mo h3 hk h4 o o1 oM M w v hv8 ho1 h) ?_
 rintro ed w' ⟨q1,q2⟩
 exact⟨q1,o1,by rw[Uf,e,A3];exact ho1,q2⟩
end Go.Proofs
namespace Go.AM
def seedW (fs:LI):LC:=fs.foldl (fun o f=>mset qf f ⟨⟨1,1⟩,-1,[]⟩ o) []
theorem qeh (fs:LI):(seedW fs).length<=fs.length:=by
 have key:∀ (fs:LI) (o:LC),(fs.foldl (fun o f=>mset qf f ⟨⟨1,1⟩,-1,[]⟩ o) o).length<=o.length+fs.length:=by
  intro fs
  induction fs with
  | nil=>intro o;simp
  | cons f fs ih =>
   intro o;have h1:=ih (mset qf f ⟨⟨1,1⟩,-1,[]⟩ o);have h2:=qbr f ⟨⟨1,1⟩,-1,[]⟩ o;rw[List.foldl_cons,List.length_cons];omega
 have:=key fs []
 simpa[seedW] using this
def RulesN (no known:LB×LC) (inl:LB) (l:LH) (seed:LC):Nat->LC->Prop
 | 0,o=>o=seed
 | k+1,o=>∃ o1 r bl d,RulesN no known inl l seed k o1/\l[k]? = some r/\(∀ rel,(mget keq1 [] rel bl).Perm ((inl.map A1).filter fun f=>f.qn == rel))/\tryP r.qe no.1 bl r.qe (C7 8 0)=some d/\outD known.2 (k:Int) r.qi r.qe o1 d=some o
def okV (r:ruRule) (v:LA):Prop:=(∀ x,x∈r.qe->x.qw=false->∃ f,qA v x.qg=some f/\wfF f=true)/\∃ f,qA v r.qi=some f/\wfF f=true
structure BetOk (l:LH) (gv no:LB) (known:LC):Prop where
 ll:l.length<=12
 gl:gv.length<=100000
 kl:known.length<=100000
 gwf:∀ p,p∈gv->wfF p.1=true
 kwf:∀ p,p∈known->wfF p.1=true
 rules:∀ r,r∈l->r.qe.length<=1000/\∃ dd,tryP r.qe no (byRelL (addF [] (known.map A1))) r.qe (C7 8 0)=some dd/\dd.length<=50000000/\∀ v,v∈dd->okV r v
def BetT (l:LH) (gv no:LB) (known:LC) (out:LC):Prop :=
 ∃ done inl,done.Perm (gv.map A1)/\inl.Perm (addF [] (known.map A1))/\RulesN (no,[]) ([],known) inl l (seedW done) l.length out
theorem qdY {known:LC} {v:LA}:∀ {body:LQ},(∀ x,x∈body->x.qw=false->∃ f,qA v x.qg=some f/\wfF f=true)->∀ w,(wayL known v body w).isSome=true
 | [],_,w=>rfl
 | x::b,h,w=>by
  have ih:=fun w=>qdY (known:=known) (fun y hy=>h y (D2 _ hy)) w
  unfold wayL
  cases hn:x.qw with
  | true=>simp only[cT];exact ih w
  | false =>
   obtain⟨f,h1,h2⟩:=h x (List.mem_cons_self ..) hn;simp only[cN,h1,A3,h2,chk,cT];exact ih _
theorem qeu {known:LC} {i:Int} {r:ruRule}:∀ {d:Li},(∀ v,v∈d->okV r v)->∀ out,(outD known i r.qi r.qe out d).isSome=true
 | [],_,out=>rfl
 | v::d,h,out=>by
  obtain⟨h1,f,h2,h3⟩:=h v (List.mem_cons_self ..);obtain⟨w,hw⟩:=Option.isSome_iff_exists.1 (qdY (known:=known) h1 ⟨⟨1,1⟩,i,[]⟩);unfold outD;simp only[hw,A3,h2,h3,chk,cT];exact qeu (fun u hu=>h u (D2 _ hu)) _
end Go.AM
namespace Go.Proofs
open Go.RowKit Go.AM
open Go.ChangeMaps (setBlock)
variable {M:Mem} {inl:LC} {w:World}
theorem qjm {gi:Nat} (h:R M (mpE qh qE inl) (.map (some gi))):∃ (es:LX) (clock:Nat) (fs:LI),M gi 0=some (mapCell es clock)/\MapKept.Stamped es clock/\(inl.map A1).Perm fs/\fs.length=es.size/\∀ (j:Nat) f e,fs[j]? = some f->es[j]? = some e->e.key=factV f:=by
 have h':R M (.mpv (inl.map fun p=>qh p.1) (inl.map fun p=>qE p.2)) (.map (some gi)):=h;clear h;generalize hks:(inl.map fun p=>qh p.1)=ks at h';generalize hvs:(inl.map fun p=>qE p.2)=vs at h'
 rcases Ug h' with ⟨h0,_,_⟩ | ⟨ks',vs',b,es,clock,hp,hv,h1,h2,h3,h4,h5,h6,h7⟩
 .cases h0
 cases hv
 have hk:(inl.map fun p=>qh p.1).Perm ks':=by
  have h8:=hp.2.2.map A1;rw[qap hp.1,qap hp.2.1]at h8;rw[hks];exact h8
 obtain⟨fs,q1,rfl⟩:=qaB qh hk (inl.map A1) (by simp[List.map_map,Function.comp_def]);refine⟨es,clock,fs,h1,h2,q1,by simpa using h4,fun j f e hf he=>?_⟩;have:=h6 j (qh f) e (by simp[hf]) he;obtain⟨l,hl,hkl⟩:=XO this;obtain⟨l1,rfl,hl1,_⟩:=Jf hkl;obtain⟨l2,rfl,hl2,_⟩:=Jf hl1;obtain⟨l3,rfl,hl3,_⟩:=Jf hl2;cases hl3;exact hl
theorem qhM {mv:Value} (h:R M (mpE qh qE inl) mv):∃ (es:LX) (fs:LI),(inl.map A1).Perm fs/\∀ w,Cons M w->∃ o,(Instr.range 146 mv).run Try.prog w=.ok (.pointer (some ⟨w.heap.size,0,none⟩)) (w.alloc o)/\IterG M es (w.alloc o) w.heap.size fs:=by
 obtain⟨mo,rfl⟩:=Zc h
 cases mo with
 | none =>
  have h0:inl=[]:=by
   have h':R M (.mpv (inl.map fun p=>qh p.1) (inl.map fun p=>qE p.2)) (.map none):=h
   rcases Ug h' with ⟨_,h1,_⟩ | ⟨ks',vs',b,es,clock,hp,hv,_⟩
   .exact List.map_eq_nil_iff.1 h1
   cases hv
  subst h0;exact⟨#[],[],List.Perm.refl _,fun w hC=>⟨_,run_range_nilMap w 146 127 152 Try.underlying146,.inl ⟨rfl,rfl,heap_alloc_new _ _⟩⟩⟩
 | some gi =>
  obtain⟨es,clock,fs,q1,q2,q3,q4,q5⟩:=qjm h;refine⟨es,fs,q3,fun w hC=>?_⟩;have hb:=ZW (hC _ _ _ q1);exact⟨_,run_range_map w 146 127 152 gi es clock Try.underlying146 hb,.inr ⟨gi,clock,q1,q2,Iter.start (heap_alloc_new _ _) q4 q5⟩⟩
abbrev WaysAt (w:World) (g:Nat) (out:LC):Prop:=MapAt (fun _ _=>none) w g qh qE out
theorem WaysAt.seed {g:Nat} {out:LC} (h:WaysAt w g out) {f:rufact} (hf:wfF f=true) (hl:out.length<1000000000) :
  ∃ o',(Instr.mapUpdate 146 (.map (some g)) (.agg #[.int .i64 f.qn,.int .i64 f.f_a,.int .i64 f.f_b]) (.agg #[.int .i64 1,.int .i64 1,.int .i64 (-1),.slice none 0 0])).run Try.prog w=.ok () (setBlock w g o')/\WaysAt (setBlock w g o') g (mset qf f ⟨⟨1,1⟩,-1,[]⟩ out) :=
 qix h hf (k:=⟨⟨1,1⟩,-1,[]⟩) (.lstn _ _ _) hl
def mhole (M:Mem) (B:Nat) (w:World) (go:Nat):Mem:=fun b o=>if b=go then none else mtail M B w b o
set_option maxHeartbeats 8000000 in
theorem Try.bet93 {l:LH} {gv no:LB} {known:LC} (h:BetOk l gv no known) (hC:Cons M w) {lv nov gvv kv:Value} (rl:R M (l54 none l) lv) (rn:R M (mpE qh AV.bool no) nov) (rg:R M (mpE qh AV.bool gv) gvv) (rk:R M (mpE qh qE known) kv) :
  Calls Try.prog 93 #[lv,nov,gvv,kv] w fun e w'=>∃ out M',BetT l gv no known out/\e=.returned (.map (some (w.heap.size+1)))/\Below w.heap.size w w'/\Sub M M'/\Cons M' w'/\(∀ b o,b<w.heap.size->M' b o=M b o)/\R M' (mpE qh qE out) (.map (some (w.heap.size+1))):=by
 obtain⟨hll,hgl,hkl,hwg,hwk,hrl⟩:=h;obtain⟨la,lc,rfl,hrules⟩:=DT rl;obtain⟨mo,rfl⟩:=Zc rn;obtain⟨es,fs,hfs,hrange⟩:=qen rg;obtain⟨mk,rfl⟩:=Zc rk;obtain⟨es2,fs2,hfs2,hrange2⟩:=qhM rk;have mixed:=mixedP;have⟨t3,a3,z3,v3,u3⟩:=Tf3;have⟨t4,a4,z4,v4,u4⟩:=Tf4;have⟨t27,a27,z27,v27,u27⟩:=Tf27;have⟨t39,a39,z39,v39,u39⟩:=Tf39;have⟨t50,a50,z50,v50,u50⟩:=Tf50;have⟨t52,a52,z52,v52,u52⟩:=Tf52;have⟨t54,a54,z54,v54,u54⟩:=Tf54;have⟨t105,a105,z105,v105,u105⟩:=Tf105;have⟨t127,a127,z127,v127,u127⟩:=Tf127;have⟨t146,a146,z146,v146,u146⟩:=Tf146;have⟨t149,a149,z149,v149,u149⟩:=Tf149;have⟨t150,a150,z150,v150,u150⟩:=Tf150;have⟨t152,a152,z152,v152,u152⟩:=Tf152;have⟨t178,a178,z178,v178,u178⟩:=Tf178;have⟨t180,a180,z180,v180,u180⟩:=Tf180;have hmm:=@run_makeMap Try.prog
 have hmf:∀ (fn:Fn) (first cap:LO) (w:World),(Instr.makeFunc fn first cap).run Try.prog w=.ok (.func fn first cap) w:=fun _ _ _ _=>rfl
 obtain⟨w2,ew2⟩:∃ w2,w2=((w.alloc (.cells #[.map mk] 146)).alloc (.map #[] 0)).alloc (.cells #[.map (some (w.heap.size+1))] 146):=⟨_,rfl⟩
 have z2:w2.heap.size=w.heap.size+1+1+1:=by rw[ew2];simp
 have B2:Below w.heap.size w w2:=by rw[ew2];exact (((Below.refl _ _).alloc (A2 _) _).alloc (by simp) _).alloc (by simp;omega) _
 have e0:w2.heap[w.heap.size]? = some (.cells #[.map mk] 146 (0,0)):=by rw[ew2,heap_alloc_old _ _ (by simp;omega),heap_alloc_old _ _ (by simp)];exact heap_alloc_new _ _
 have e1:w2.heap[w.heap.size+1]? = some (.map #[] 0):=by
  rw[ew2,heap_alloc_old _ _ (by simp)];have:=heap_alloc_new (w.alloc (.cells #[.map mk] 146)) (.map #[] 0)
  simpa using this
 have e2:w2.heap[w.heap.size+1+1]? = some (.cells #[.map (some (w.heap.size+1))] 146 (0,0)):=by
  rw[ew2];have:=heap_alloc_new ((w.alloc (.cells #[.map mk] 146)).alloc (.map #[] 0)) (.cells #[.map (some (w.heap.size+1))] 146)
  simpa using this
 obtain⟨ob,hrg,hI0⟩:=hrange w2 (hC.below B2);obtain⟨w3,ew3⟩:∃ w3,w3=w2.alloc ob:=⟨_,rfl⟩
 have z3':w3.heap.size=w.heap.size+1+1+1+1:=by rw[ew3];simp[z2]
 have B3:Below w.heap.size w w3:=by rw[ew3];exact B2.alloc oM _
 have e0:w3.heap[w.heap.size]? = some (.cells #[.map mk] 146 (0,0)):=by rw[ew3,heap_alloc_old _ _ (by omega)];exact e0
 have e1:w3.heap[w.heap.size+1]? = some (.map #[] 0):=by rw[ew3,heap_alloc_old _ _ (by omega)];exact e1
 have e2:w3.heap[w.heap.size+1+1]? = some (.cells #[.map (some (w.heap.size+1))] 146 (0,0)):=by rw[ew3,heap_alloc_old _ _ (by omega)];exact e2
 rw[<- ew3,z2]at hI0;rw[<- ew3,z2,ew2]at hrg;have S0:WaysAt w3 (w.heap.size+1) (seedW []):=.empty e1;have HB3:=(show Hid _ from B3);have HR2:=(show Hid _ from hrange2);clear ew2 ew3 B2 hrange e1 B3 z2 hrange2
 go_enter Try.func93,Try.ntmps93
 go_wp2
 go_loopw [] (fun wr=>Below w.heap.size w wr/\w3.heap.size<=wr.heap.size/\(∀ k,k<w3.heap.size->k≠w.heap.size+1->k≠w.heap.size+1+1+1->wr.heap[k]? = w3.heap[k]?)/\∃ done rem,(done++rem).Perm fs/\IterG M es wr (w.heap.size+1+1+1) rem/\WaysAt wr (w.heap.size+1) (seedW done))
  (fun wr=>itLeft es (w.heap.size+1+1+1) wr)
 case atStart=>exact⟨HB3.out,A2 _,fun _ _ _ _=>rfl,[],fs,List.Perm.refl _,hI0,S0⟩
 case round =>
  obtain⟨hBr,hsz,hold,done,rem,hp,hI,hS⟩:=hrel;have hCr:=hC.below hBr
  rcases hI.next hCr 0 with ⟨rfl,hrun⟩ | ⟨j,f,v,wn,hj,hrun,hgr,hszn,hIn,hent⟩
  .have hnx:∀ ty,(Instr.next (.pointer (some ⟨w.heap.size+1+1+1,0,none⟩)) false ty).run Try.prog wr=_:=fun _=>hrun
   have hpf':done.Perm (gv.map A1):=by
    have:done.Perm fs:=by simpa using hp
    exact this.trans hfs.symm
   have b0:wr.heap[w.heap.size]? = some (.cells #[.map mk] 146 (0,0)):=(hold _ oM oM oM).trans e0;have b2:wr.heap[w.heap.size+1+1]? = some (.cells #[.map (some (w.heap.size+1))] 146 (0,0)):=(hold _ oM oM oM).trans e2
   have zr:w.heap.size+1+1+1<wr.heap.size:=by omega
   clear e0 e2 hI0 hfs S0 hI hrun hold hwg hp hrg;obtain⟨w4,ew4⟩:∃ w4,w4=wr.alloc (.map #[] 0):=⟨_,rfl⟩
   have z4:w4.heap.size=wr.heap.size+1:=by rw[ew4];simp
   have B4:Below w.heap.size w w4:=by rw[ew4];exact hBr.alloc oM _
   have b4:∀ k,k<wr.heap.size->w4.heap[k]? = wr.heap[k]?:=fun k hk=>by rw[ew4];exact heap_alloc_old _ _ hk
   have n4:w4.heap[wr.heap.size]? = some (.map #[] 0):=by rw[ew4];exact heap_alloc_new _ _
   obtain⟨ob2,hrg2,hI2⟩:=HR2.out w4 (hC.below B4);obtain⟨w5,ew5⟩:∃ w5,w5=w4.alloc ob2:=⟨_,rfl⟩
   have z5:w5.heap.size=wr.heap.size+1+1:=by rw[ew5];simp[z4]
   have B5:Below w.heap.size w w5:=by rw[ew5];exact B4.alloc oM _
   have b5:∀ k,k<wr.heap.size->w5.heap[k]? = wr.heap[k]?:=fun k hk=>by rw[ew5,heap_alloc_old _ _ (by omega)];exact b4 k hk
   have n5:w5.heap[wr.heap.size]? = some (.map #[] 0):=by rw[ew5,heap_alloc_old _ _ (by omega)];exact n4
   have m4:w4.cell? ⟨w.heap.size,0,none⟩=some (.map mk):=cell_of_one ((b4 _ oM).trans b0);rw[<- ew5,z4]at hI2;rw[<- ew5,z4,ew4]at hrg2;rw[ew4]at m4;have S1:SetAt w5 wr.heap.size (addF [] []):=.empty n5;have HS:=(show Hid _ from hS);have Hhb:=(show Hid _ from b5);clear ew4 ew5 B4 b4 n4 n5 hS b5
   go_wp2
   clear hnx;obtain⟨w7,rfl⟩:∃ w7,w7=wr:=⟨_,rfl⟩
   go_loopw [] (fun wx=>Below w.heap.size w wx/\w5.heap.size<=wx.heap.size/\(∀ k,k<w7.heap.size->wx.heap[k]? = w7.heap[k]?)/\∃ done2 rem,(done2++rem).Perm fs2/\IterG M es2 wx (w7.heap.size+1) rem/\SetAt wx w7.heap.size (addF [] done2))
    (fun wx=>itLeft es2 (w7.heap.size+1) wx)
   case atStart=>exact⟨B5,A2 _,Hhb.out,[],fs2,List.Perm.refl _,hI2,S1⟩
   case round =>
    obtain⟨hBx,hszx,holdx,done2,rem,hp,hI,hSx⟩:=hrel;have hCx:=hC.below hBx
    rcases hI.next hCx 0 with ⟨rfl,hrun⟩ | ⟨j,f,v,wn,hj,hrun,hgr,hszn,hIn,hent⟩
    .have hnx:∀ ty,(Instr.next (.pointer (some ⟨w7.heap.size+1,0,none⟩)) false ty).run Try.prog wr=_:=fun _=>hrun
     have hpf:done2.Perm fs2:=by simpa using hp
     have N0:NT (addF [] done2):=NT.empty.add.1
     have P0:(addF [] done2).Perm (addF [] (known.map A1)):=NT.perm N0 NT.empty.add.1 fun g=>by
      rw[NT.empty.add.2.1,NT.empty.add.2.1,hpf.mem_iff,<- hfs2.mem_iff]
     have W0:∀ p,p∈addF [] done2->wfF p.1=true:=qcS NT.empty (P:=fun f=>wfF f=true) (fun f hf=>by
      have h1:=hfs2.mem_iff.2 (hpf.mem_iff.1 hf);obtain⟨p,hp,rfl⟩:=List.mem_map.1 h1
      exact hwk p hp) (fun p hp=>by simp at hp)
     have L0:(addF [] done2).length<=100000:=by
      have h1:=HI done2 [];have h2:=hpf.length_eq;have h3:=hfs2.length_eq;rw[A4]at h3;simp at h1;omega
     have hz7:w7.heap.size<wr.heap.size:=by omega
     obtain⟨M1,eM1⟩:∃ M1,M1=mhole M w.heap.size wr (w.heap.size+1):=⟨_,rfl⟩
     have C1:Cons M1 wr:=by
      rw[eM1];intro b o u hu;unfold mhole at hu;split at hu
      .cases hu
      exact Zl hC hBx _ _ _ hu
     have s1:Sub M M1:=by
      rw[eM1];intro b o u hu;have h1:=NJ (hC _ _ _ hu);unfold mhole;rw[if_neg (by omega),QY h1];exact hu
     have x0:=(holdx _ oM).trans b0;have x2:=(holdx _ oM).trans b2
     have m0:M1 w.heap.size 0=some (.map mk):=by rw[eM1];unfold mhole;rw[if_neg (by omega),JJ (by omega)];exact DI x0 rfl rfl
     have m2:M1 (w.heap.size+1+1) 0=some (.map (some (w.heap.size+1))):=by rw[eM1];unfold mhole;rw[if_neg (by omega),JJ (by omega)];exact DI x2 rfl rfl
     have hole:∀ o,M1 (w.heap.size+1) o=none:=fun o=>by rw[eM1];unfold mhole;rw[if_pos rfl]
     have old1:∀ b o,b<w.heap.size->M1 b o=M b o:=fun b o hb=>by rw[eM1];unfold mhole;rw[if_neg (by omega),QY hb]
     have RS:R M1 (mpE qh AV.bool (addF [] done2)) (.map (some w7.heap.size)):=by
      obtain⟨es,clock,hb,hE⟩:=hSx
      obtain⟨h2,h3,h4,h5,h6,h7⟩:=EntOk.mono hE (M':=M1) fun b o u hu=>by cases hu
      exact .mpv (by rw[eM1];unfold mhole;rw[if_neg (by omega),JJ (by omega)];exact YK hb) h2 h3 h4 h5 h6 h7
     have O0:OS w.heap.size M M1 wr (w.heap.size+1) (seedW done) M1 wr:=⟨C1,Sub.refl _,rfl,rfl,rfl,A2 _,fun _ _ _=>rfl,hole,by omega,by omega,M1,Sub.refl _,C1,hole,(MapAt.of HS.out (holdx _ oM)).mono (fun b o u hu=>by cases hu),old1⟩
     have hsl:(seedW done).length<=100000:=by
      have h1:=qeh done;have h2:=hpf'.length_eq;rw[A4]at h2;omega
     have HN:=(show Hid _ from N0);have HP:=(show Hid _ from P0);have HW:=(show Hid _ from W0);have HBx:=(show Hid _ from hBx);clear eM1 x0 x2 hI hrun hSx holdx hp N0 P0 W0 hI2 S1 b0 b2 hBx hpf hfs2 hwk hrg2 m4
     go_wp2
     clear hnx;obtain⟨w8,rfl⟩:∃ w8,w8=wr:=⟨_,rfl⟩
     go_loopw [37] (fun i wx=>∃ k:Nat,k<=l.length/\i=.int .i64 k/\∃ M' outc,Sub M1 M'/\OS w.heap.size M M1 w8 (w.heap.size+1) outc M' wx/\RulesN (no,[]) ([],known) (addF [] done2) l (seedW done) k outc/\outc.length<=100000+50000000 * k)
      (fun i _=>l.length - (RowKit.intOf i).toNat)
     case atStart=>exact⟨0,Nat.zero_le _,rfl,M1,seedW done,Sub.refl _,O0,rfl,by omega⟩
     case round =>
      obtain⟨k,hk,rfl,M2,outc,s2,F2,hrn,hol⟩:=hrel
      rcases A9 k l.length with hk1 | hk1
      .obtain⟨b,off,hv,bv,rfl,q0,q1,q2,rhv,rbv⟩:=hrules k _ (B1 hk1);have hrx:=hrl _ (List.getElem_mem hk1);have hlk:l[k]? = some l[k]:=B1 hk1;have i0:(0:Int)<=(k:Int):=Int.natCast_nonneg _
       have i1:(k:Int)<(l.length:Int):=by omega
       obtain⟨ha,hac,rfl⟩:=JF rhv;obtain⟨ba,bac,rfl⟩:=JF rbv;have f0:=qG F2.cons (s2 _ _ _ (s1 _ _ _ q0)) rfl;have f1:=qG F2.cons (s2 _ _ _ (s1 _ _ _ q1)) rfl;have f2:=qG F2.cons (s2 _ _ _ (s1 _ _ _ q2)) rfl;generalize l[k]=x at q0 q1 q2 rhv rbv f0 f1 f2 hrx hlk;obtain⟨⟨hrel,hargs⟩,body⟩:=x;simp only[A4]at q1 q2 rhv rbv f1 f2;simp only at hrx;obtain⟨hbl,dd,hdd,hdl,hdv⟩:=hrx;obtain⟨wa,ewa⟩:∃ wa,wa=wr.alloc (.cells #[.int .i64 (k:Int)] 3):=⟨_,rfl⟩;obtain⟨w9,ew9⟩:∃ w9,w9=wa.alloc (.cells #[.int .i64 hrel,.slice ha hargs.length hac,.slice ba body.length bac] 54):=⟨_,rfl⟩
       have za:wa.heap.size=wr.heap.size+1:=by rw[ewa];simp
       obtain⟨Ma,eMa⟩:∃ Ma,Ma=mbox M2 wr.heap.size #[.int .i64 (k:Int)]:=⟨_,rfl⟩;obtain⟨M3,eM3⟩:∃ M3,M3=mbox Ma wa.heap.size #[.int .i64 hrel,.slice ha hargs.length hac,.slice ba body.length bac]:=⟨_,rfl⟩
       have sa:Sub M2 Ma:=by rw[eMa];exact Ys F2.cons (A2 _)
       have Ca:Cons Ma wa:=by
        rw[eMa,ewa]
        exact Di (F2.cons.alloc _) (heap_alloc_new _ _) fun j u h=>by
         match j,h with
         | 0,h=>cases h;rfl
       have s3:Sub M2 M3:=Sub.trans sa (by rw[eM3];exact Ys Ca (A2 _));have s03:Sub M M3:=Sub.trans s1 (Sub.trans s2 s3)
       have t3c:∀ (j:Nat) u,(#[.int .i64 hrel,.slice ha hargs.length hac,.slice ba body.length bac]:LO)[j]? = some u->isTup u=false:=fun j u h=>by
        match j,h with
        | 0,h | 1,h | 2,h=>cases h;rfl
       have C3:Cons M3 w9:=by rw[eM3,ew9];exact Di (Ca.alloc _) (heap_alloc_new _ _) t3c
       have F3:OS w.heap.size M M3 w8 (w.heap.size+1) outc M3 w9:=(F2.grow (by rw[ew9,ewa];exact ((Below.refl _ _).alloc (A2 _) _).alloc (by simp) _) s3 (fun b o hb=>by rw[eM3,Zn (by omega),eMa,Zn (by omega)]) C3).pack (Sub.refl _)
       have g3:∀ j:Nat,M3 (wr.heap.size+1) j=(#[.int .i64 hrel,.slice ha hargs.length hac,.slice ba body.length bac]:LO)[j]?:=fun j=>by rw[eM3,za,Ui]
       have ga:M3 wr.heap.size 0=some (.int .i64 (k:Int)):=by rw[eM3,Zn (by omega),eMa,Ui];rfl
       have cbk:=OS.cb (B0:=w.heap.size) (Mb:=M) (M0:=M3) (wR:=w8) (bi:=wr.heap.size) (br:=wr.heap.size+1) (bk:=w.heap.size) (bo:=w.heap.size+1+1) (go:=w.heap.size+1) (known:=known) (i:=(k:Int)) (rel:=hrel) (args:=hargs) (body:=body) (out0:=outc) ga (g3 0) (g3 1) (rhv.mono s03) (g3 2) (rbv.mono s03) hbl (s3 _ _ _ (s2 _ _ _ m0)) (rk.mono s03) (s3 _ _ _ (s2 _ _ _ m2))
       have hcall:=Try.inst116 (okB known (k:Int) ⟨hrel,hargs⟩ body outc) 121 _ M3 _ cbk body (addF [] done2) no hrel (.slice ha hargs.length hac) (.slice ba body.length bac) w7.heap.size mo [] M3 w9 ⟨outc,rfl,F3⟩ ⟨rfl,rfl⟩ (rbv.mono s03) (RS.mono (Sub.trans s2 s3)) (rn.mono s03) (fun p hp=>by
        have h1:=HW.out p hp;unfold wfF at h1;rw[A6,A6]at h1
        exact h1.1.1) L0 hbl (fun bl hbl=>by
        obtain⟨o2,ho2,hp2⟩:=UB (bl:=byRelL (addF [] (known.map A1))) (bl':=bl) (fun rel=>by
         rw[ZC]
         exact (((HP.out.map A1).symm).filter _).trans (hbl rel).symm) body _ _ hdd
        refine⟨o2,ho2,qeu (r:=⟨⟨hrel,hargs⟩,body⟩) (fun v hv=>hdv v (hp2.mem_iff.2 (by simpa using hv))) _,?_⟩;have h1:=hp2.length_eq;rw[List.nil_append]
        omega)
       have hl2:∀ bl o2,(∀ rel,(mget keq1 [] rel bl).Perm (((addF [] done2).map A1).filter fun f=>f.qn == rel))->tryP body no bl body (C7 8 0)=some o2->o2.length<=50000000:=fun bl o2 hb ho=>by
        obtain⟨o3,ho3,hp2⟩:=UB (bl:=byRelL (addF [] (known.map A1))) (bl':=bl) (fun rel=>by
         rw[ZC]
         exact (((HP.out.map A1).symm).filter _).trans (hb rel).symm) body _ _ hdd
        rw[ho]at ho3;cases ho3;rw[<- hp2.length_eq];exact hdl
       have HL2:=(show Hid _ from hl2);have HW9:=(show Hid (w9=_) from ew9);have HWa:=(show Hid (wa=_) from ewa);have HCl:=(show Hid _ from hcall);have HRN:=(show Hid _ from hrn);clear ew9 ewa eM3 eMa hcall cbk F3 g3 C3 hrn hdv hdd hl2
       go_wp2_with fail
       rw[<- HWa.out,<- HW9.out];refine Calls.mono HCl.out ?_
       rintro e wt ⟨rfl,bl,o2,hbl2,ho2,outx,hox,F4⟩
       have HL:=(show Hid _ from hox);clear hox
       go_wp2
       go_roundw
       case rel =>
        have hox:=HL.out;rw[List.nil_append]at hox;have h1:=qcQ _ _ _ _ _ _ _ hox;refine⟨k+1,hk1,by go_num,M3,outx,Sub.trans s2 s3,F4.pack (Sub.trans s2 s3),⟨outc,_,bl,o2,HRN.out,hlk,hbl2,ho2,hox⟩,?_⟩;have h2:=HL2.out bl o2 hbl2 ho2;omega
       case measure=>simp[RowKit.intOf];omega
      have hkl:k=l.length:=by omega
      subst hkl;obtain⟨y1,y2,y3,y4,y5,y6,y7,y8,y9,y10,Mf,j1,j2,j3,j4,j5⟩:=F2;have k1:=qG y1 (s2 _ _ _ m2) rfl;have BF:Below w.heap.size w wr:=⟨y3.trans HBx.out.os,y4.trans HBx.out.tape,y5.trans HBx.out.output,A8 HBx.out.size y6,fun k hk=>by rw[y7 k (by omega) (by omega)];exact HBx.out.block k hk⟩
      have s5:Sub Mf (mtail M w.heap.size wr):=fun b o u hu=>by
       rcases A9 b w.heap.size with h1 | h1
       .rw[QY h1,<- j5 b o h1];exact hu
       rw[JJ h1];exact j2 _ _ _ hu
      have hfin:∃ out M',BetT l gv no known out/\Below w.heap.size w wr/\Sub M M'/\Cons M' wr/\(∀ b o,b<w.heap.size->M' b o=M b o)/\R M' (mpE qh qE out) (.map (some (w.heap.size+1))):=by
       refine⟨outc,mtail M w.heap.size wr,⟨done,_,hpf',HP.out,hrn⟩,BF,UL hC BF (A2 _),Zl hC BF,fun b o hb=>QY hb,?_⟩;obtain⟨es,clock,hb,hE⟩:=j4.mono s5;obtain⟨h2,h3,h4,h5,h6,h7⟩:=hE;exact .mpv (by rw[JJ (by omega)];exact YK hb) h2 h3 h4 h5 h6 h7
      have HF:=(show Hid _ from hfin);clear hfin s5 BF j1 j2 j3 j4 j5 y1 y3 y4 y5 y6 y7 y8 hrn
      go_wp2
      go_ret
      obtain⟨out,M',f1,f2,f3,f4,f5,f6⟩:=HF.out;exact⟨out,M',f1,rfl,f2,f3,f4,f5,f6⟩
    have hnx:∀ ty,(Instr.next (.pointer (some ⟨w7.heap.size+1,0,none⟩)) false ty).run Try.prog wr=_:=fun _=>hrun
    have Cn:Cons M wn:=hCx.of_blocks fun b o u hu hb=>hgr.block b hb fun e=>by have:=NJ (hC _ _ _ hu);cases e;omega
    have hen:=hent wn rfl Cn;have hfm:f∈fs2:=hp.mem_iff.1 (D3 _ (D4 hj))
    have hwf1:wfF f=true:=by
     have h1:=hfs2.mem_iff.2 hfm;obtain⟨p,hp,rfl⟩:=List.mem_map.1 h1;exact hwk p hp
    have hlen:done2.length+rem.length<=100000:=by
     have h1:=hp.length_eq;have h2:=hfs2.length_eq;rw[A5]at h1;rw[A4]at h2;omega
    have hjl:=(List.getElem?_eq_some_iff.1 hj).1;have hal:=HI done2 [];rw[List.length_nil]at hal;obtain⟨w4,ew4⟩:∃ w4,w4=wn.alloc (.cells #[.int .i64 f.qn,.int .i64 f.f_a,.int .i64 f.f_b] 127):=⟨_,rfl⟩
    have z4:w4.heap.size=wr.heap.size+1:=by rw[ew4];simp[hszn]
    have b4:∀ k,k<wr.heap.size->k≠w7.heap.size+1->w4.heap[k]? = wr.heap[k]?:=fun k hk hne=>by
     rw[ew4,heap_alloc_old _ _ (by omega)];exact hgr.block k hk (fun e=>hne (Option.some.inj e))
    have n9:w4.heap[wr.heap.size]? = some (.cells #[.int .i64 f.qn,.int .i64 f.f_a,.int .i64 f.f_b] 127 (0,0)):=by rw[ew4,<- hszn];exact heap_alloc_new _ _
    have k2:w4.cell? ⟨wr.heap.size,0,none⟩=some (.int .i64 f.qn):=by simp[A0,n9]
    have k3:w4.cell? ⟨wr.heap.size,1,none⟩=some (.int .i64 f.f_a):=by simp[A0,n9]
    have k4:w4.cell? ⟨wr.heap.size,2,none⟩=some (.int .i64 f.f_b):=by simp[A0,n9]
    have S4:SetAt w4 w7.heap.size (addF [] done2):=hSx.of (b4 _ oM oM);obtain⟨o',hup,S5⟩:=S4.put hwf1 oM
    have g0:w4.os=w.os/\w4.tape=w.tape/\w4.output=w.output:=by rw[ew4];exact⟨hgr.os.trans hBx.os,hgr.tape.trans hBx.tape,hgr.output.trans hBx.output⟩
    have hi4:w4.heap[w7.heap.size+1]? = wn.heap[w7.heap.size+1]?:=by rw[ew4,heap_alloc_old _ _ (by omega)]
    have HS5:=(show Hid _ from S5);have HG:=(show Hid _ from g0);have HW:=(show Hid (w4=_) from ew4);rw[ew4]at k2 k3 k4 hup;clear ew4 S4 S5 n9 g0 hSx
    go_wp2
    rw[<- HW.out]
    go_roundw
    case rel =>
     have hall:∀ k,k<wr.heap.size->k≠w7.heap.size->k≠w7.heap.size+1->(setBlock w4 w7.heap.size o').heap[k]? = wr.heap[k]?:=fun k hk h1 h2=>by rw[setBlock_other h1,b4 k hk h2]
     refine⟨⟨HG.out.1,HG.out.2.1,HG.out.2.2,by rw[setBlock_size];omega,fun k hk=>?_⟩,by rw[setBlock_size];omega,fun k hk=>?_,done2++[f],rem.eraseIdx j,?_,hIn.of ?_,?_⟩
     .rw[hall k (by omega) (by omega) (by omega)];exact hBx.block k hk
     .rw[hall k (by omega) (by omega) (by omega)];exact holdx k hk
     .refine List.Perm.trans ?_ hp;rw[List.append_assoc];refine List.Perm.append_left _ ?_;have h1:=qaS rem j hjl;rw[(List.getElem?_eq_some_iff.1 hj).2]at h1;exact h1.symm
     .rw[setBlock_other (by omega)];exact hi4
     have:addF [] (done2++[f])=mset qf f true (addF [] done2):=by simp[addF]
     rw[this];exact HS5.out
    case measure =>
     have h1:=(hIn.of (w':=setBlock w4 w7.heap.size o') (by rw[setBlock_other (by omega)];exact hi4)).left;rw[h1,hI.left,D5,if_pos hjl];omega
  have hnx:∀ ty,(Instr.next (.pointer (some ⟨w.heap.size+1+1+1,0,none⟩)) false ty).run Try.prog wr=_:=fun _=>hrun
  have Cn:Cons M wn:=hCr.of_blocks fun b o u hu hb=>hgr.block b hb fun e=>by have:=NJ (hC _ _ _ hu);cases e;omega
  have hen:=hent wn rfl Cn;have hfm:f∈fs:=hp.mem_iff.1 (D3 _ (D4 hj))
  have hwf1:wfF f=true:=by
   have h1:=hfs.mem_iff.2 hfm;obtain⟨p,hp,rfl⟩:=List.mem_map.1 h1;exact hwg p hp
  have hlen:done.length+rem.length<=100000:=by
   have h1:=hp.length_eq;have h2:=hfs.length_eq;rw[A5]at h1;rw[A4]at h2;omega
  have hjl:=(List.getElem?_eq_some_iff.1 hj).1;have hal:=qeh done;obtain⟨w4,ew4⟩:∃ w4,w4=wn.alloc (.cells #[.int .i64 f.qn,.int .i64 f.f_a,.int .i64 f.f_b] 127):=⟨_,rfl⟩
  have z4:w4.heap.size=wr.heap.size+1:=by rw[ew4];simp[hszn]
  have b4:∀ k,k<wr.heap.size->k≠w.heap.size+1+1+1->w4.heap[k]? = wr.heap[k]?:=fun k hk hne=>by
   rw[ew4,heap_alloc_old _ _ (by omega)];exact hgr.block k hk (fun e=>hne (Option.some.inj e))
  have n9:w4.heap[wr.heap.size]? = some (.cells #[.int .i64 f.qn,.int .i64 f.f_a,.int .i64 f.f_b] 127 (0,0)):=by rw[ew4,<- hszn];exact heap_alloc_new _ _
  have n1:w4.heap[w.heap.size+1+1]? = some (.cells #[.map (some (w.heap.size+1))] 146 (0,0)):=by rw[b4 _ (by omega) (by omega),hold _ (by omega) (by omega) (by omega)];exact e2
  have k1:=cell_of_one n1
  have k2:w4.cell? ⟨wr.heap.size,0,none⟩=some (.int .i64 f.qn):=by simp[A0,n9]
  have k3:w4.cell? ⟨wr.heap.size,1,none⟩=some (.int .i64 f.f_a):=by simp[A0,n9]
  have k4:w4.cell? ⟨wr.heap.size,2,none⟩=some (.int .i64 f.f_b):=by simp[A0,n9]
  have S4:WaysAt w4 (w.heap.size+1) (seedW done):=hS.of (b4 _ oM oM);obtain⟨o',hup,S5⟩:=S4.seed hwf1 oM
  have g0:w4.os=w.os/\w4.tape=w.tape/\w4.output=w.output:=by rw[ew4];exact⟨hgr.os.trans hBr.os,hgr.tape.trans hBr.tape,hgr.output.trans hBr.output⟩
  have hi4:w4.heap[w.heap.size+1+1+1]? = wn.heap[w.heap.size+1+1+1]?:=by rw[ew4,heap_alloc_old _ _ (by omega)]
  have HS:=(show Hid _ from S5);have HG:=(show Hid _ from g0);have HW:=(show Hid (w4=_) from ew4);rw[ew4]at k1 k2 k3 k4 hup;clear ew4 S4 S5 n9 n1 g0 hS
  go_wp2
  rw[<- HW.out]
  go_roundw
  case rel =>
   have hall:∀ k,k<wr.heap.size->k≠w.heap.size+1->k≠w.heap.size+1+1+1->(setBlock w4 (w.heap.size+1) o').heap[k]? = wr.heap[k]?:=fun k hk h1 h2=>by rw[setBlock_other h1,b4 k hk h2]
   refine⟨⟨HG.out.1,HG.out.2.1,HG.out.2.2,by rw[setBlock_size];omega,fun k hk=>?_⟩,by rw[setBlock_size];omega,fun k hk h1 h2=>?_,done++[f],rem.eraseIdx j,?_,hIn.of ?_,?_⟩
   .rw[hall k (by omega) (by omega) (by omega)];exact hBr.block k hk
   .rw[hall k (by omega) h1 h2];exact hold k hk h1 h2
   .refine List.Perm.trans ?_ hp;rw[List.append_assoc];refine List.Perm.append_left _ ?_;have h1:=qaS rem j hjl;rw[(List.getElem?_eq_some_iff.1 hj).2]at h1;exact h1.symm
   .rw[setBlock_other (by omega)];exact hi4
   have:seedW (done++[f])=mset qf f ⟨⟨1,1⟩,-1,[]⟩ (seedW done):=by simp[seedW]
   rw[this];exact HS.out
  case measure =>
   have h1:=(hIn.of (w':=setBlock w4 (w.heap.size+1) o') (by rw[setBlock_other (by omega)];exact hi4)).left;rw[h1,hI.left,D5,if_pos hjl];omega
end Go.Proofs
