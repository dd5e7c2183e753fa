import Derived.Test.YtdghpfejmlpjhaaRBet2
import GoSem.Claim
set_option linter.all false
set_option maxRecDepth 100000
open Prod renaming fst→A0
open Option renaming bind_some→A1, getD_some→D3, map_eq_some_iff→D9
open Go.World renaming cell?→A2
open List renaming mem_cons_of_mem→A3, mem_cons_self→A6, getD_eq_getElem?_getD→A8, length_map→A9, map_cons→B1, map→C0, getElem?_append_right→D0, length_append→D1, length_singleton→D2, nodup_cons→D5, foldl_cons→D6, mem_of_getElem?→D7, getElem?_append_left→D8, getElem?_eq_getElem→E0
open Nat renaming le_refl→A4, lt_or_ge→A5
open Bool renaming not_true→A7, not_false→C7
open Go.Result renaming andThen→D4
open Go.MapKept renaming run_getObj_map→E7
namespace Go.AM
variable {lv:List LC}
def zProof:ruProof:=ruProof.mk 0 ⟨0,[]⟩ []
def prevL (lv:List LC):Nat->LC
 | 0=>[]
 | i+1=>lv.getD i []
def LevT (l:LH) (gv no:LB) (lv:List LC):Prop:=∀ i,i<lv.length->BetT l gv no (prevL lv i) (lv.getD i [])
def hasW (f:rufact) (m:LC):Bool:=(findA (qh f) (m.map fun p=>qh p.1)).isSome
def goodW (f:rufact) (m:LC):Bool:=hasW f m && decide ((mget qf zWay f m).qp.qt<=500)
inductive ProveT (fuel:Nat) (l:LH) (gv no:LB) (kf:rufact):ruProof×Int->Prop where
 | found (lv:List LC) (d:Nat) (p:ruProof):LevT l gv no lv->lv.length=d+1->d<40->(∀ i,i<d->goodW kf (lv.getD i [])=false)->goodW kf (lv.getD d [])=true->YR fuel lv (d:Int) kf=some p->ProveT fuel l gv no kf (p,0)
 | size (lv:List LC):LevT l gv no lv->lv.length=40->(∀ i,i<40->goodW kf (lv.getD i [])=false)->ProveT fuel l gv no kf (zProof,3)
theorem qcO (m:LC):∀ {i:Nat},i<=lv.length->prevL (lv++[m]) i=prevL lv i
 | 0,_=>rfl
 | i+1,h=>by
  show (lv++[m]).getD i []=lv.getD i [];rw[A8,A8,D8 (by omega)]
theorem qeH (m:LC) {i:Nat} (h:i<lv.length):(lv++[m]).getD i []=lv.getD i []:=qcO m (i:=i+1) h
theorem qeI (m:LC):(lv++[m]).getD lv.length []=m:=by
 rw[A8,D0 (A4 _)];simp
theorem LevT.snoc {l:LH} {gv no:LB} (h:LevT l gv no lv) {m:LC} (hm:BetT l gv no (prevL lv lv.length) m):LevT l gv no (lv++[m]):=fun i hi=>by
 rw[D1,D2]at hi;rw[qcO m (by omega)]
 rcases A5 i lv.length with h1 | h1
 .rw[qeH m h1];exact h i h1
 have:i=lv.length:=by omega
 subst this;rw[qeI];exact hm
def AnsT (fuel:Nat) (l:LH) (gv no:LB) (kf:rufact) (bv bf mb:Bool) (r:ruProof×Int):Prop :=
 ((bv && bf)=false/\r=(zProof,2))\/((bv && bf)=true/\mb=false/\r=(zProof,8))\/((bv && bf)=true/\mb=true/\mget qf false kf no=false/\r=(zProof,5))\/((bv && bf)=true/\mb=true/\mget qf false kf no=true/\ProveT fuel l gv no kf r)
def qdo (r:ruProof×Int):AV:=.tup [.agg [.int .i64 r.1.ql,.int .i64 r.1.qd.qc,l3 none r.1.qd.qa,l77 none r.1.qj],.int .i64 r.2]
structure PrvOk (fuel:Nat) (l:LH) (facts:LG) (f:apiFact) (gv no:LB) (kf:rufact) (bv bf mb:Bool):Prop where
 hv:Xp fuel l facts=some bv
 hf:bv=true->XW fuel f=some bf
 hm:bv=true->bf=true->Qc fuel l facts=some (no,mb)
 hk:bv=true->bf=true->VG f=some kf/\wfF kf=true
 hg:bv=true->bf=true->mb=true->QS facts=some gv
 hok:bv=true->bf=true->mb=true->∀ lv,LevT l gv no lv->lv.length<40->BetOk l gv no (prevL lv lv.length)
 htree:bv=true->bf=true->mb=true->∀ lv d,LevT l gv no lv->lv.length=d+1->d<40->hasW kf (lv.getD d [])=true->∃ p,YR fuel lv (d:Int) kf=some p
end Go.AM
namespace Go.Proofs
open Go.RowKit Go.AM
open Go.ChangeMaps (setBlock)
variable {M:Mem} {v:Value} {no:LB} {w:World} {B base:Nat} {us:LT} {fz:Nat×Nat}
theorem qkp (M:Mem):R M (.agg [.int .i64 zProof.ql,.int .i64 zProof.qd.qc,l3 none zProof.qd.qa,l77 none zProof.qj]) (.agg #[.int .i64 0,.int .i64 0,.slice none 0 0,.slice none 0 0]):=by
 refine .agg (vs:=[.int .i64 0,.int .i64 0,.slice none 0 0,.slice none 0 0]) rfl fun j c v hc hv=>?_
 match j,hc,hv with
 | 0,hc,hv=>cases hc;cases hv;exact .int _ _
 | 1,hc,hv=>cases hc;cases hv;exact .int _ _
 | 2,hc,hv=>cases hc;cases hv;exact .lstn _ _ _
 | 3,hc,hv=>cases hc;cases hv;exact .lstn _ _ _
theorem qkP {a:AV} {e:Int} (h:R M a v):R M (.tup [a,.int .i64 e]) (.tuple #[v,.int .i64 e]) :=
 R.tup (vs:=[v,.int .i64 e]) rfl fun j c u hc hu=>by
  match j,hc,hu with
  | 0,hc,hu=>cases hc;cases hu;exact h
  | 1,hc,hu=>cases hc;cases hu;exact .int _ _
theorem qjP {b:Bool} {u:Value} (h:R M (.tup [mpE qh AV.bool no,.bool b]) u):∃ v,u=.tuple #[v,.bool b]/\R M (mpE qh AV.bool no) v:=by
 generalize hx:AV.tup [mpE qh AV.bool no,.bool b]=x at h;cases h <;> cases hx;rename_i vs hl hr
 match vs,hl with
 | [u0,u1],_ =>
  rw[(hr 1 _ _ rfl rfl).bool_inv];exact⟨u0,rfl,hr 0 _ _ rfl rfl⟩
theorem qlb {lvs:List LC} (hl:us.length=lvs.length) (h:w.ownsRow base 146 1 v lvs.length us) (hu:∀ (i:Nat) m u,lvs[i]? = some m->us[i]? = some u->R M (mpE qh qE m) u) (hM:∀ g,v.ownBlock=some g->∀ o,M g o=none) (hC:Cons M w) :
  ∃ N,Sub M N/\Cons N w/\(∀ b o,v.ownBlock≠some b->N b o=M b o)/\R N (l146 none lvs) v:=by
 obtain⟨q1,q2⟩:=h
 rcases q2 with ⟨rfl,h0⟩ | ⟨g,cap,cur,rfl,hb,hg,hn,hm,hs,ht⟩
 .have:lvs=[]:=List.eq_nil_of_length_eq_zero h0;subst this;exact⟨M,Sub.refl M,hC,fun _ _ _=>rfl,.lstn _ _ _⟩
 have hsub:Sub M (fun b o=>if b=g then mc w b o else M b o):=fun b o u hh=>by
  have:b≠g:=fun e=>by rw[e,hM g rfl o]at hh;cases hh
  simp only[if_neg this];exact hh
 refine⟨fun b o=>if b=g then mc w b o else M b o,hsub,fun b o u hh=>?_,fun b o hne=>?_,?_⟩
 .simp only at hh;split at hh
  .exact hh
  exact hC _ _ _ hh
 .have:b≠g:=fun e=>hne (by rw[e];rfl)
  simp only[if_neg this]
 have hcell:∀ (j:Nat) u,us[j]? = some u->cur[j]? = some u:=fun j u hu=>by
  have h1:=congrArg (fun l=>l[j]?) ht;simp only[List.getElem?_take,Array.getElem?_toList,hu]at h1;split at h1
  .exact h1
  cases h1
 have hfl:∀ l:List LC,flat (l.map (mpE qh qE))=l.map (mpE qh qE):=fun l=>by
  induction l with
  | nil=>rfl
  | cons a l ih =>
   show (mpE qh qE a)::flat (l.map (mpE qh qE))=_;rw[ih];rfl
 have hll:(lvs.map (mpE qh qE)).length=lvs.length:=A9 _;show R _ (.lst 146 1 none (lvs.map (mpE qh qE))) (.slice (some ⟨g,0,none⟩) lvs.length cap);rw[<- hll]
 have key:∀ (j:Nat) c,(flat (lvs.map (mpE qh qE)))[j]? = some c->∃ m u,lvs[j]? = some m/\c=mpE qh qE m/\us[j]? = some u:=fun j c hc=>by
  rw[hfl,List.getElem?_map,D9]at hc;obtain⟨m,h1,rfl⟩:=hc;have hj:=(List.getElem?_eq_some_iff.1 h1).1;exact⟨m,us[j]'(by omega),h1,rfl,E0 oM⟩
 refine .lst (fun j=>us.getD j undef) (by rw[hll];exact hn) (fun x hx=>?_) (fun x hx=>?_) (fun j c hc=>?_) (fun j c hc=>?_)
 .obtain⟨z,_,rfl⟩:=List.mem_map.1 hx;rfl
 .obtain⟨z,_,rfl⟩:=List.mem_map.1 hx;rfl
 .obtain⟨m,u,h1,rfl,h3⟩:=key j c hc;rw[A8,h3,Nat.zero_add];simp only[if_true,D3];obtain⟨mo,rfl⟩:=Zc (hu j m u h1 h3);exact DI hg (hcell j _ h3) rfl
 obtain⟨m,u,h1,rfl,h3⟩:=key j c hc;rw[A8,h3];exact (hu j m u h1 h3).mono hsub
theorem owns146 {w':World} {vc:Value} {n:Nat} {xs:LT} (h:w.ownsRow base 146 1 vc n xs) (hb:∀ k,k<w.heap.size->vc.ownBlock=some k->w'.heap[k]? = w.heap[k]?):w'.ownsRow base 146 1 vc n xs:=by
 obtain⟨q1,q2⟩:=h;refine⟨q1,?_⟩
 rcases q2 with hn | ⟨g,cap,cur,rfl,hb',hgg,rest⟩
 .exact .inl hn
 exact .inr ⟨g,cap,cur,rfl,hb',by rw[hb g (lt_of_block hgg) rfl];exact hgg,rest⟩
theorem Try.info146:(Try.prog.info? 146).map (fun i=>(i.zero,i.size,i.bytes))=some (some (.map none),1,8):=by kernel_rfl
theorem qcH (w:World) (base:Nat) (v:Value) (us:LT) (mo:LR) (hown:w.ownsRow base 146 1 v us.length us) (hx:w.heap[B]? = some (.cells #[.map mo] 146 fz)) (hlen:us.length<=1000000000) (hb:base<=w.heap.size) (ty:TypeId) (c0:Nat) :
  ∃ g cap w',(Builtin.append_ #[145,145] ty #[v,.slice (some ⟨B,0,none⟩) 1 c0]).run Try.prog w=.ok (.slice (some ⟨g,0,none⟩) (us.length+1) cap) w'/\w'.ownsRow base 146 1 (.slice (some ⟨g,0,none⟩) (us.length+1) cap) (us.length+1) (us++[.map mo])/\w.grownBy w' v.ownBlock/\(v.ownBlock=some g\/g=w.heap.size)/\g<w'.heap.size:=by
 obtain⟨i0,hi,hz0,hz1,hz2⟩:=info_parts Try.info146;exact run_append_lies (P:=Try.prog) w 145 ty base 146 i0 (.map none) 1 8 Try.underlying145 hi hz0 hz1 hz2 rfl oM v us.length us hown ⟨B,0,none⟩ 1 c0 [.map mo] rfl (World.news_of_block hx) (by simp[Value.oneCell']) oM (by unfold maxLen;omega) oM hb _ rfl
theorem qaq {ops:Lh} {rest:LF} {o:Oper} {a:Act} {Q:Exit->Act->World->Prop} (hgd:o.guard=none) (s x:Operand) (ho:o.op=.call { callee:=.builtin .append,args:=#[s,x],argTypes:=#[145,145] }) {mo:LR} {c0:Nat} 
  (hs:a.eval s=v) (hx:a.eval x=.slice (some ⟨B,0,none⟩) 1 c0) (hown:w.ownsRow base 146 1 v us.length us) (hb:w.heap[B]? = some (.cells #[.map mo] 146 fz)) (hlen:us.length<=1000000000) (hbase:base<=w.heap.size)
  (h:∀ g cap w',w'.ownsRow base 146 1 (.slice (some ⟨g,0,none⟩) (us.length+1) cap) (us.length+1) (us++[.map mo])->w.grownBy w' v.ownBlock->(v.ownBlock=some g\/g=w.heap.size)->g<w'.heap.size->wpList Try.prog ops Q rest (a.put o.dst (.slice (some ⟨g,0,none⟩) (us.length+1) cap)) w'):wpList Try.prog ops Q (o::rest) a w:=by
 obtain⟨g,cap,w',hr,h2,h3,h4,h5⟩:=qcH w base v us mo hown hb hlen hbase o.type c0
 refine wpList_plain hgd fun K hK=>?_
 unfold Oper.wp execOp;simp only[ho,resolve,invoke,builtin,Sem.run_bind,Sem.run_pure,Result.andThen_ok,List.map_toArray,B1,List.map_nil,hs,hx,hr];exact hK _ _ (h g cap w' h2 h3 h4 h5)
theorem qmi {known:LC} {mv:Value} (hm:R M (mpE qh qE known) mv) {f:rufact} (hf:wfF f=true) (w:World) (hC:Cons M w):∃ sa sn sc,(Instr.lookup 146 mv (.agg #[.int .i64 f.qn,.int .i64 f.f_a,.int .i64 f.f_b]) true).run Try.prog w=.ok (.tuple #[.agg #[.int .i64 (mget qf zWay f known).qp.qQ,.int .i64 (mget qf zWay f known).qp.qt,.int .i64 (mget qf zWay f known).qY,.slice sa sn sc],.bool (hasW f known)]) w:=by
 have hk:=factKey hf;have ht:=Ql (show QI Try.prog 146=some (127,152) by kernel_rfl)
 have hfit:∀ x,keyFits Try.prog 127 (qh x)=true:=fun x=>by kernel_rfl
 have he:∀ x y,akeq (qh x) (qh y)=qf x y:=fun x y=>rfl
 have hz:=Try.zeroValue152 w;have hm':R M (.mpv (known.map fun p=>qh p.1) (known.map fun p=>qE p.2)) mv:=hm;obtain⟨K,l,hl⟩:=VN (hfit f) hk
 rcases Ug hm' with ⟨rfl,h1,h2⟩ | ⟨ks',vs',b,es,clock,hp,rfl,h1,h2,h3,h4,h5,h6,h7⟩
 .have h0:known=[]:=List.map_eq_nil_iff.1 h1;subst h0
  have hfind:(Instr.findKey 127 (.agg #[.int .i64 f.qn,.int .i64 f.f_a,.int .i64 f.f_b]) (#[]:LX).toList).run Try.prog w=.ok none w:=by
   rcases K.find w hl [] (by simp) with ⟨h1,_⟩ | ⟨j,e,_,h2,_⟩
   .exact h1
   simp at h2
  refine⟨none,0,0,?_⟩;show _=Result.ok (Value.tuple #[.agg #[.int .i64 0,.int .i64 0,.int .i64 0,.slice none 0 0],.bool false]) w;simp[Instr.lookup,run_underlying ht,K.check w true hl,hfind,hz,D4]
 have hb:=ZW (hC _ _ _ h1);have hks:(known.map fun p=>qh p.1).all (keyFits Try.prog 127)=true:=UR hfit known
 have hall':ks'.all (keyFits Try.prog 127)=true:=List.all_eq_true.2 fun y hy=>List.all_eq_true.1 hks y (hp.keys.mem_iff.2 hy)
 have E:EntOk M es clock ks' vs':=⟨h2,h3,h4,h5,h6,h7⟩;obtain⟨hck,hst,hfd⟩:=YE (w:=w) (hfit f) hk hall' E;obtain⟨fp1,fp2⟩:=qby hk hp E
 rcases hfd with ⟨k1,k2,k3⟩ | ⟨j,e0,k1,k2,k3,k4⟩
 .have g1:=fp1 k1
  rcases Zx (G:=qE) he zWay f known with ⟨i,g2,_⟩ | ⟨_,g2⟩
  .rw[g1]at g2;cases g2
  refine⟨none,0,0,?_⟩;unfold hasW;rw[g1,g2];show _=Result.ok (Value.tuple #[.agg #[.int .i64 0,.int .i64 0,.int .i64 0,.slice none 0 0],.bool false]) w;simp[Instr.lookup,run_underlying ht,E7 hb,hck,k2,hz,D4]
 obtain⟨i,g1,g2⟩:=fp2 j k1
 rcases Zx (G:=qE) he zWay f known with ⟨i',g3,g4⟩ | ⟨g3,_⟩
 .rw[g1]at g3;cases g3;rw[g4]at g2;obtain⟨sv,hev,hrs⟩:=qcq (h7 j _ e0 g2.symm (by simpa using k3));obtain⟨sa,sc,rfl⟩:=JF hrs;refine⟨sa,(C0 qh (mget qf zWay f known).qJ).length,sc,?_⟩;unfold hasW;rw[g1,<- hev];simp[Instr.lookup,run_underlying ht,E7 hb,hck,k2,D4]
 rw[g1]at g3;cases g3
theorem store4 {b:Nat} {x0 x1 x2 x3:Value} {t:TypeId} (h:w.heap[b]? = some (.cells #[x0,x1,x2,x3] t (0,0))) (y0 y1 y2 y3:Value) :
  ((((w.setCell ⟨b,0,none⟩ y0).setCell ⟨b,1,none⟩ y1).setCell ⟨b,2,none⟩ y2).setCell ⟨b,3,none⟩ y3).heap[b]? = some (.cells #[y0,y1,y2,y3] t (0,0))/\(∀ k,k≠b->((((w.setCell ⟨b,0,none⟩ y0).setCell ⟨b,1,none⟩ y1).setCell ⟨b,2,none⟩ y2).setCell ⟨b,3,none⟩ y3).heap[k]? = w.heap[k]?)/\((((w.setCell ⟨b,0,none⟩ y0).setCell ⟨b,1,none⟩ y1).setCell ⟨b,2,none⟩ y2).setCell ⟨b,3,none⟩ y3).heap.size=w.heap.size:=by
 refine⟨?_,fun k hk=>?_,?_⟩
 .rw[jP _ (jP _ (jP _ (jP _ h)))];rfl
 .rw[qM hk,qM hk,qM hk,qM hk]
 simp only[jY]
def PrvPost (fuel:Nat) (l:LH) (gv no:LB) (kf:rufact) (bv bf mb:Bool) (M:Mem) (w:World) (e:Ending) (w':World):Prop :=
 ∃ r v M',AnsT fuel l gv no kf bv bf mb r/\e=.returned v/\Below w.heap.size w w'/\Sub M M'/\Cons M' w'/\(∀ b o,b<w.heap.size->M' b o=M b o)/\R M' (qdo r) v
set_option maxHeartbeats 1000000 in
theorem Try.prove46 {fuel:Nat} {l:LH} {facts:LG} {f:apiFact} {gv:LB} {kf:rufact} {bv bf mb:Bool} (h:PrvOk fuel l facts f gv no kf bv bf mb) (hC:Cons M w) {lv fsv av:Value} (rl:R M (l54 none l) lv) (rf:R M (l41 none facts) fsv) (ra:R M (l3 none f.qa) av) :
  Calls Try.prog 46 #[lv,fsv,.agg #[.int .i64 f.qc,av]] w (PrvPost fuel l gv no kf bv bf mb M w):=by
 obtain⟨hv,hf,hm,hk,hg,hok,htree⟩:=h;have Hf:=(show Hid _ from hf);have Hm:=(show Hid _ from hm);have Hk:=(show Hid _ from hk);have Hg:=(show Hid _ from hg);have Hok:=(show Hid _ from hok);have Htr:=(show Hid _ from htree);clear hf hm hk hg hok htree;obtain⟨la,lc,rfl,_⟩:=DT rl;obtain⟨fa,fc,rfl⟩:=JF rf;obtain⟨aa,ac,rfl⟩:=JF ra;simp only[A9]at rf ra ⊢;have mixed:=mixedP;have⟨t3,a3,z3,v3,u3⟩:=Tf3;have⟨t4,a4,z4,v4,u4⟩:=Tf4;have⟨t24,a24,z24,v24,u24⟩:=Tf24;have⟨t39,a39,z39,v39,u39⟩:=Tf39;have⟨t41,a41,z41,v41,u41⟩:=Tf41;have⟨t75,a75,z75,v75,u75⟩:=Tf75;have⟨t77,a77,z77,v77,u77⟩:=Tf77;have⟨t105,a105,z105,v105,u105⟩:=Tf105;have⟨t127,a127,z127,v127,u127⟩:=Tf127;have⟨t145,a145,z145,v145,u145⟩:=Tf145;have⟨t146,a146,z146,v146,u146⟩:=Tf146;have⟨t149,a149,z149,v149,u149⟩:=Tf149;have⟨t150,a150,z150,v150,u150⟩:=Tf150;have⟨t152,a152,z152,v152,u152⟩:=Tf152;obtain⟨w2,ew2⟩:∃ w2,w2=(w.alloc (.cells #[.int .i64 f.qc,.slice aa f.qa.length ac] 41)).alloc (.cells #[.int .i64 0,.int .i64 0,.slice none 0 0,.slice none 0 0] 77):=⟨_,rfl⟩
 have z2:w2.heap.size=w.heap.size+1+1:=by rw[ew2];simp
 have B2:Below w.heap.size w w2:=by rw[ew2];exact ((Below.refl _ _).alloc (A4 _) _).alloc (by simp) _
 have e0:w2.heap[w.heap.size]? = some (.cells #[.int .i64 f.qc,.slice aa f.qa.length ac] 41 (0,0)):=by rw[ew2,heap_alloc_old _ _ (by simp)];exact heap_alloc_new _ _
 have e1:w2.heap[w.heap.size+1]? = some (.cells #[.int .i64 0,.int .i64 0,.slice none 0 0,.slice none 0 0] 77 (0,0)):=by
  rw[ew2];have:=heap_alloc_new (w.alloc (.cells #[.int .i64 f.qc,.slice aa f.qa.length ac] 41)) (.cells #[.int .i64 0,.int .i64 0,.slice none 0 0,.slice none 0 0] 77)
  simpa using this
 have hres:∀ (tm:LO) (w9:World) (x0 x1 x2 x3:Value) (x:Int),tm[6]?.getD undef=.pointer (some ⟨w.heap.size+1,0,none⟩)->tm[7]?.getD undef=.int .i64 x->w9.heap[w.heap.size+1]? = some (.cells #[x0,x1,x2,x3] 77 (0,0))->(results Try.f46 tm).run Try.prog w9=.ok (.tuple #[.agg #[x0,x1,x2,x3],.int .i64 x]) w9:=by
  intro tm w9 x0 x1 x2 x3 x htm htm2 h9
  have hr:Try.f46.results=#[.cell 6 77,.tmp 7]:=by kernel_rfl
  have e0:w9.cell? ⟨w.heap.size+1,0,none⟩=some x0:=by simp[A2,h9]
  have e1:w9.cell? ⟨w.heap.size+1,1,none⟩=some x1:=by simp[A2,h9]
  have e2:w9.cell? ⟨w.heap.size+1,2,none⟩=some x2:=by simp[A2,h9]
  have e3:w9.cell? ⟨w.heap.size+1,3,none⟩=some x3:=by simp[A2,h9]
  simp[results,hr,htm,htm2];go_simp
 have HW2:=(show Hid (w2=_) from ew2);have HR:=(show Hid _ from hres)
 have h56:=VE (Nb fuel l facts bv hv) M w2 [.slice la l.length lc,.slice fa facts.length fc] (glob0 M) (hC.below B2) rfl (fun j a b ha hb=>by
  match j,ha,hb with
  | 0,ha,hb=>cases ha;cases hb;exact rl
  | 1,ha,hb=>cases ha;cases hb;exact rf)
 have H56:=(show Hid _ from h56);clear ew2 hres h56 hv
 go_enter Try.func46,Try.ntmps46
 go_wp2_with fail
 rw[<- HW2.out];refine Calls.mono H56.out ?_
 rintro e w3 ⟨v,M3,rfl,hB3,s3,C3,o3,r3,_⟩
 obtain rfl:=r3.bool_inv;have B3:Below w.heap.size w w3:=B2.trans (hB3.mono oM);have z3':=hB3.size;have e0:=(hB3.block _ oM).trans e0;have e1:=(hB3.block _ oM).trans e1
 have fz:∀ (wx:World) (x0 x1 x2 x3:Value),wx.heap[w.heap.size+1]? = some (.cells #[x0,x1,x2,x3] 77 (0,0))->(wx.frozen? ⟨w.heap.size+1,0,none⟩=false/\wx.frozen? ⟨w.heap.size+1,1,none⟩=false/\wx.frozen? ⟨w.heap.size+1,2,none⟩=false/\wx.frozen? ⟨w.heap.size+1,3,none⟩=false)/\wx.cell? ⟨w.heap.size+1,0,none⟩=some x0/\wx.cell? ⟨w.heap.size+1,1,none⟩=some x1/\wx.cell? ⟨w.heap.size+1,2,none⟩=some x2/\wx.cell? ⟨w.heap.size+1,3,none⟩=some x3:=fun wx x0 x1 x2 x3 hx=>by
  refine⟨⟨?_,?_,?_,?_⟩,?_,?_,?_,?_⟩ <;> simp[World.frozen?,A2,hx]
 have fin:∀ (wx:World) (x0 x1 x2 x3:Value) (x:Int),wx.heap[w.heap.size+1]? = some (.cells #[x0,x1,x2,x3] 77 (0,0))->Below w.heap.size w wx->AnsT fuel l gv no kf bv bf mb (zProof,x)->PrvPost fuel l gv no kf bv bf mb M w (.returned (.tuple #[.agg #[.int .i64 0,.int .i64 0,.slice none 0 0,.slice none 0 0],.int .i64 x])) ((((wx.setCell ⟨w.heap.size+1,0,none⟩ (.int .i64 0)).setCell ⟨w.heap.size+1,1,none⟩ (.int .i64 0)).setCell ⟨w.heap.size+1,2,none⟩ (.slice none 0 0)).setCell ⟨w.heap.size+1,3,none⟩ (.slice none 0 0)):=fun wx x0 x1 x2 x3 x hx hB hA=>by
  obtain⟨_,q2,q3⟩:=store4 hx (.int .i64 0) (.int .i64 0) (.slice none 0 0) (.slice none 0 0);have BF:Below w.heap.size w ((((wx.setCell ⟨w.heap.size+1,0,none⟩ (.int .i64 0)).setCell ⟨w.heap.size+1,1,none⟩ (.int .i64 0)).setCell ⟨w.heap.size+1,2,none⟩ (.slice none 0 0)).setCell ⟨w.heap.size+1,3,none⟩ (.slice none 0 0)):=⟨hB.os,hB.tape,hB.output,by rw[q3];exact hB.size,fun k hk=>(q2 k oM).trans (hB.block k hk)⟩;exact⟨(zProof,x),_,M,hA,rfl,BF,Sub.refl M,hC.below BF,fun _ _ _=>rfl,qkP (qkp M)⟩
 have HF:=(show Hid _ from fin);have HZ:=(show Hid _ from fz);clear fin fz C3 s3 o3 r3 hB3
 cases bv with
 | false =>
  obtain⟨⟨p0,p1,p2,p3⟩,p4,p5,p6,p7⟩:=HZ.out _ _ _ _ _ e1
  go_wp2
  refine bodyPost_ret (HR.out _ _ _ _ _ _ 2 (by rfl) (by rfl) (store4 e1 _ _ _ _).1) rfl (HF.out _ _ _ _ _ 2 e1 B3 (.inl ⟨rfl,rfl⟩))
 | true =>
  have hf:=Hf.out rfl
  have h75:=VE (ZD fuel f bf hf) M w3 [.agg #[.int .i64 f.qc,.slice aa f.qa.length ac]] (glob0 M) (hC.below B3) rfl (fun j a b ha hb=>by
   match j,ha,hb with
   | 0,ha,hb =>
    cases ha;cases hb
    refine .agg (vs:=[.int .i64 f.qc,.slice aa f.qa.length ac]) rfl fun j c v hc hv=>?_
    match j,hc,hv with
    | 0,hc,hv=>cases hc;cases hv;exact .int _ _
    | 1,hc,hv=>cases hc;cases hv;exact ra)
  have d0:w3.cell? ⟨w.heap.size,0,none⟩=some (.int .i64 f.qc):=by simp[A2,e0]
  have d1:w3.cell? ⟨w.heap.size,1,none⟩=some (.slice aa f.qa.length ac):=by simp[A2,e0]
  have H75:=(show Hid _ from h75);clear h75 hf
  go_wp2_with fail
  refine Calls.mono H75.out ?_
  rintro e w4 ⟨v,M4,rfl,hB4,s4,C4,o4,r4,_⟩
  obtain rfl:=r4.bool_inv;have B4:Below w.heap.size w w4:=B3.trans (hB4.mono oM);have z4':=hB4.size;have e0:=(hB4.block _ oM).trans e0;have e1:=(hB4.block _ oM).trans e1;clear C4 s4 o4 r4 hB4 d0 d1
  cases bf with
  | false =>
   obtain⟨⟨p0,p1,p2,p3⟩,p4,p5,p6,p7⟩:=HZ.out _ _ _ _ _ e1
   go_wp2
   refine bodyPost_ret (HR.out _ _ _ _ _ _ 2 (by rfl) (by rfl) (store4 e1 _ _ _ _).1) rfl (HF.out _ _ _ _ _ 2 e1 B4 (.inl ⟨rfl,rfl⟩))
  | true =>
   have hm:=Hm.out (by first | rfl | trivial | simp) (by first | rfl | trivial | simp);obtain⟨hkey,hwk⟩:=Hk.out (by first | rfl | trivial | simp) (by first | rfl | trivial | simp)
   have h57:=VE (Nc fuel l facts (no,mb) hm) M w4 [.slice la l.length lc,.slice fa facts.length fc] (glob0 M) (hC.below B4) rfl (fun j a b ha hb=>by
    match j,ha,hb with
    | 0,ha,hb=>cases ha;cases hb;exact rl
    | 1,ha,hb=>cases ha;cases hb;exact rf)
   have H57:=(show Hid _ from h57);clear h57 hm
   go_wp2_with fail
   refine Calls.mono H57.out ?_
   rintro e w5 ⟨v,M5,rfl,hB5,s5,C5,o5,r5,_⟩
   obtain⟨mv,rfl,rno⟩:=qjP r5;have B5:Below w.heap.size w w5:=B4.trans (hB5.mono oM);have z5':=hB5.size;have e0:=(hB5.block _ oM).trans e0;have e1:=(hB5.block _ oM).trans e1
   have hA5:∀ o,M5 (w.heap.size+1) o=none:=fun o=>by
    rw[o5 _ _ (by omega)]
    cases hm:M (w.heap.size+1) o with
    | none=>rfl
    | some u=>have:=NJ (hC _ _ _ hm);omega
   have HA5:=(show Hid _ from hA5);clear hA5
   have o5':∀ b o,b<w.heap.size->M5 b o=M b o:=fun b o hb=>o5 b o oM
   clear r5 hB5 o5
   cases mb with
   | false =>
    obtain⟨⟨p0,p1,p2,p3⟩,p4,p5,p6,p7⟩:=HZ.out _ _ _ _ _ e1;clear s5 C5 o5' rno hkey
    go_wp2
    refine bodyPost_ret (HR.out _ _ _ _ _ _ 8 (by rfl) (by rfl) (store4 e1 _ _ _ _).1) rfl (HF.out _ _ _ _ _ 8 e1 B5 (.inr (.inl ⟨rfl,rfl,rfl⟩)))
   | true =>
    have hg:=Hg.out (by first | rfl | trivial | simp) (by first | rfl | trivial | simp) (by first | rfl | trivial | simp)
    have ra5:R M5 (.agg [.int .i64 f.qc,l3 none f.qa]) (.agg #[.int .i64 f.qc,.slice aa f.qa.length ac]):=by
     refine .agg (vs:=[.int .i64 f.qc,.slice aa f.qa.length ac]) rfl fun j c v hc hv=>?_
     match j,hc,hv with
     | 0,hc,hv=>cases hc;cases hv;exact .int _ _
     | 1,hc,hv=>cases hc;cases hv;exact ra.mono s5
    have h81:∀ wx (N:Mem),Cons N wx->Sub M5 N->Calls Try.prog 81 #[.agg #[.int .i64 f.qc,.slice aa f.qa.length ac]] wx fun e w'=>e=.returned (factV kf)/\Below wx.heap.size wx w':=fun wx N hN hs=>by
     refine Calls.mono (VE (Nd f kf hkey) N wx [.agg #[.int .i64 f.qc,.slice aa f.qa.length ac]] (glob0 N) hN rfl (fun j a b ha hb=>by
      match j,ha,hb with
      | 0,ha,hb=>cases ha;cases hb;exact ra5.mono hs)) ?_
     rintro e w' ⟨v,N',rfl,hB,_,_,_,r,_⟩
     exact⟨by rw[Hr r],hB⟩
    have d0:w5.cell? ⟨w.heap.size,0,none⟩=some (.int .i64 f.qc):=by simp[A2,e0]
    have d1:w5.cell? ⟨w.heap.size,1,none⟩=some (.slice aa f.qa.length ac):=by simp[A2,e0]
    have H81:=(show Hid _ from h81);have HS5:=(show Hid _ from s5);have HC5:=(show Hid _ from C5);have HO5:=(show Hid _ from o5');have Hgv:=(show Hid _ from hg);clear h81 hkey s5 C5 o5' hg ra5
    go_wp2_with fail
    refine Calls.mono (H81.out _ M5 HC5.out (Sub.refl _)) ?_
    rintro e w6 ⟨rfl,hB6⟩
    have B6:Below w.heap.size w w6:=B5.trans (hB6.mono oM);have C6:Cons M5 w6:=Cons.below (show Cons M5 w5 from HC5.out) hB6;have z6':=hB6.size;have e0:=(hB6.block _ oM).trans e0;have e1:=(hB6.block _ oM).trans e1;clear hB6 d0 d1;have hlk:=qhE rno hwk w6 C6
    cases hin:mget qf false kf no with
    | false =>
     rw[hin]at hlk;obtain⟨⟨p0,p1,p2,p3⟩,p4,p5,p6,p7⟩:=HZ.out _ _ _ _ _ e1;clear C6 rno
     go_wp2
     refine bodyPost_ret (HR.out _ _ _ _ _ _ 5 (by rfl) (by rfl) (store4 e1 _ _ _ _).1) rfl (HF.out _ _ _ _ _ 5 e1 B6 (.inr (.inr (.inl ⟨rfl,rfl,hin,rfl⟩))))
    | true =>
     rw[hin]at hlk;have hmm:=@run_makeMap Try.prog;have Hin:=(show Hid _ from hin);clear hin;obtain⟨w8,ew8⟩:∃ w8,w8=(w6.alloc (.cells #[] 146)).alloc (.map #[] 0):=⟨_,rfl⟩
     have z8:w8.heap.size=w6.heap.size+2:=by rw[ew8];simp
     have B8:Below w.heap.size w w8:=by rw[ew8];exact (B6.alloc B6.size _).alloc (by have:=B6.size;simp;omega) _
     have C8:Cons M5 w8:=by rw[ew8];exact (C6.alloc _).alloc _
     have b8:∀ k,k<w6.heap.size->w8.heap[k]? = w6.heap[k]?:=fun k hk=>by rw[ew8,heap_alloc_old _ _ (by simp;omega),heap_alloc_old _ _ hk]
     have n8:w8.heap[w6.heap.size]? = some (.cells #[] 146 (0,0)):=by rw[ew8,heap_alloc_old _ _ (by simp)];exact heap_alloc_new _ _
     have m8:w8.heap[w6.heap.size+1]? = some (.map #[] 0):=by
      rw[ew8];have:=heap_alloc_new (w6.alloc (.cells #[] 146)) (.map #[] 0)
      simpa using this
     have O8:w8.ownsRow w6.heap.size 146 1 (.slice (some ⟨w6.heap.size,0,none⟩) 0 0) 0 []:=⟨rfl,.inr ⟨w6.heap.size,0,#[],rfl,A4 _,n8,A4 _,Nat.zero_le _,rfl,rfl⟩⟩
     have hnone:∀ (N:Mem) (wx:World) g,Cons N wx->wx.heap.size<=g->∀ o,N g o=none:=fun N wx g hN hg o=>by
      cases hm:N g o with
      | none=>rfl
      | some u=>have:=NJ (hN _ _ _ hm);omega
     obtain⟨M8,eM8⟩:∃ M8:Mem,M8=fun b o=>if b=w6.heap.size+1 then mc w8 b o else M5 b o:=⟨_,rfl⟩
     have s8:Sub M5 M8:=fun b o u hu=>by
      have:b≠w6.heap.size+1:=fun e=>by rw[e,hnone M5 w6 _ C6 (by omega)]at hu;cases hu
      rw[eM8];simp only[if_neg this];exact hu
     have CM8:Cons M8 w8:=fun b o u hu=>by
      rw[eM8]at hu;simp only at hu;split at hu
      .exact hu
      exact C8 _ _ _ hu
     have oM8:∀ b o,b<w.heap.size->M8 b o=M b o:=fun b o hb=>by
      have:=B6.size;rw[eM8];simp only[if_neg (show ¬ b=w6.heap.size+1 by omega)];exact HO5.out b o hb
     have nM8:∀ o,M8 w6.heap.size o=none:=fun o=>by
      rw[eM8];simp only[if_neg (show ¬ w6.heap.size=w6.heap.size+1 by omega)];exact hnone M5 w6 _ C6 (A4 _) o
     have aM8:∀ o,M8 (w.heap.size+1) o=none:=fun o=>by
      rw[eM8];simp only[if_neg (show ¬ w.heap.size+1=w6.heap.size+1 by omega)];exact HA5.out o
     have R8:R M8 (mpE qh qE (prevL [] 0)) (.map (some (w6.heap.size+1))):=by
      obtain⟨es,clock,hb,hE⟩:=(MapAt.empty (M:=M8) (F:=qh) (G:=qE) m8);obtain⟨h2,h3,h4,h5,h6,h7⟩:=hE;exact .mpv (by rw[eM8];simp only[if_true];exact YK hb) h2 h3 h4 h5 h6 h7
     have HW8:=(show Hid (w8=_) from ew8);clear eM8 ew8 C8 n8 m8 C6
     go_wp2
     rw[<- HW8.out];clear hlk
     go_loopw [10,11,41] (fun vc0 kv0 i wr=>∃ k:Nat,k<=40/\i=.int .i64 k/\∃ (vc kv:Value) (lvs:List LC) (us:LT) (Mk:Mem),vc=vc0/\kv=kv0/\lvs.length=k/\us.length=k/\LevT l gv no lvs/\(∀ i,i<k->goodW kf (lvs.getD i [])=false)/\Sub M5 Mk/\Cons Mk wr/\Below w.heap.size w wr/\(∀ b o,b<w.heap.size->Mk b o=M b o)/\R Mk (mpE qh qE (prevL lvs k)) kv/\wr.ownsRow w6.heap.size 146 1 vc k us /\
       (∀ (i:Nat) m u,lvs[i]? = some m->us[i]? = some u->R Mk (mpE qh qE m) u)/\(∀ g,vc.ownBlock=some g->∀ o,Mk g o=none)/\wr.heap[w.heap.size]? = some (.cells #[.int .i64 f.qc,.slice aa f.qa.length ac] 41 (0,0))/\wr.heap[w.heap.size+1]? = some (.cells #[.int .i64 0,.int .i64 0,.slice none 0 0,.slice none 0 0] 77 (0,0))/\(∀ o,Mk (w.heap.size+1) o=none)/\w8.heap.size<=wr.heap.size)
      (fun _ _ i _=>40 - (RowKit.intOf i).toNat)
     case atStart =>
      exact⟨0,Nat.zero_le _,rfl,_,_,[],[],M8,rfl,rfl,rfl,rfl,fun i hi=>by simp at hi,fun i hi=>by omega,s8,CM8,B8,oM8,R8,O8,fun i m u h=>by simp at h,fun g hg o=>by cases hg;exact nM8 o,(b8 _ oM).trans e0,(b8 _ oM).trans e1,aM8,A4 _⟩
     case round =>
      clear R8 O8 oM8 nM8 CM8 s8 b8 B8 e0 e1;obtain⟨k,hk40,rfl,vc,kv,lvs,us,Mk,rfl,rfl,hll,hul,hLev,hno,hs5,hCk,hBk,hok,hRk,hown,hus,hgn,e0,e1,hA1,hsz⟩:=hrel
      rcases A5 k 40 with hk1 | hk1
      .have i0:(k:Int)<40:=by omega
       have h73:=VE (Nf facts gv Hgv.out) Mk wr [.slice fa facts.length fc] (glob0 Mk) hCk rfl (fun j a b ha hb=>by
        match j,ha,hb with
        | 0,ha,hb=>cases ha;cases hb;exact rf.mono (Sub.trans HS5.out hs5))
       have hbok:=Hok.out (by first | rfl | trivial | simp) (by first | rfl | trivial | simp) (by first | rfl | trivial | simp) lvs hLev oM;rw[hll]at hbok;have H73:=(show Hid _ from h73);have HB:=(show Hid _ from hbok);have HL:=(show Hid _ from hLev);have HN:=(show Hid _ from hno);have HU:=(show Hid _ from hus);have HOk:=(show Hid _ from hok);have HRk:=(show Hid _ from hRk);have HG:=(show Hid _ from hgn);clear h73 hbok hLev hno hus hok hRk hgn
       go_wp2_with fail
       refine Calls.mono H73.out ?_
       rintro e w9 ⟨gvv,M9,rfl,hB9,s9,C9,o9,r9,_⟩
       have H93:=Try.bet93 HB.out C9 (rl.mono (Sub.trans HS5.out (Sub.trans hs5 s9))) (rno.mono (Sub.trans hs5 s9)) r9 (HRk.out.mono s9);obtain⟨gmo,rfl⟩:=Zc r9;have HH93:=(show Hid _ from H93);clear H93
       go_wp2_with fail
       refine Calls.mono HH93.out ?_
       rintro e w10 ⟨out,M10,hT,rfl,hB10,s10,C10,o10,r10⟩
       have hz9:=hB9.size;have hz10:=hB10.size;obtain⟨w11,ew11⟩:∃ w11,w11=w10.alloc (.cells #[.map (some (w9.heap.size+1))] 146):=⟨_,rfl⟩
       have z11:w11.heap.size=w10.heap.size+1:=by rw[ew11];simp
       have b10:∀ k,k<wr.heap.size->w10.heap[k]? = wr.heap[k]?:=fun k hk=>(hB10.block k oM).trans (hB9.block k hk)
       have b11:∀ k,k<w10.heap.size->w11.heap[k]? = w10.heap[k]?:=fun k hk=>by rw[ew11];exact heap_alloc_old _ _ hk
       have n11:w11.heap[w10.heap.size]? = some (.cells #[.map (some (w9.heap.size+1))] 146 (0,0)):=by rw[ew11];exact heap_alloc_new _ _
       have O11:w11.ownsRow w6.heap.size 146 1 vc us.length us:=by
        rw[hul]
        exact owns146 hown fun k hk _=>(b11 k oM).trans (b10 k hk)
       have B11:Below w.heap.size w w11:=by
        rw[ew11];exact ((hBk.trans (hB9.mono hBk.size)).trans (hB10.mono (by have:=hBk.size;omega))).alloc (by have:=hBk.size;omega) _
       have hlen:us.length<=1000000000:=by omega
       have hbase:w6.heap.size<=w11.heap.size:=by omega
       have hfar:∀ k,k<w6.heap.size->some k≠vc.ownBlock:=fun k hk e=>by have:=(hown.lt k e.symm).1;omega
       have hD12:∀ w12:World,w11.grownBy w12 vc.ownBlock->w12.heap[w.heap.size]? = some (.cells #[.int .i64 f.qc,.slice aa f.qa.length ac] 41 (0,0)):=fun w12 hg=>by
        rw[hg.block _ (by omega) (hfar _ (by omega)),b11 _ (by omega),b10 _ (by omega)];exact e0
       have HD12:=(show Hid _ from hD12);have HW11:=(show Hid (w11=_) from ew11);rw[ew11]at n11 O11 hbase;clear ew11 hD12
       go_wp2_with (first | (at_builtin;refine qaq rfl (.tmp 49) (.tmp 51) (by rfl) (by rfl) (by rfl) O11 n11 hlen hbase ?_;intro gb cb w12 ho12 hg12 ha12 hl12;rw[<- HW11.out]at hg12 ha12;have nA12:=HD12.out _ hg12;have d0:w12.cell? ⟨w.heap.size,0,none⟩=some (.int .i64 f.qc):=(by simp[A2,nA12]);have d1:w12.cell? ⟨w.heap.size,1,none⟩=some (.slice aa f.qa.length ac):=(by simp[A2,nA12])))
       have hsb:∀ b o u,M10 b o=some u->some b≠vc.ownBlock:=fun b o u hu e=>by
        have h1:=hown.lt b e.symm;have h2:=h1.2;have h3:M10 b o=Mk b o:=(o10 b o oM).trans (o9 b o h2);rw[h3,HG.out b e.symm o]at hu;cases hu
       have C12:Cons M10 w12:=fun b o u hu=>by
        have h1:=NJ (C10 _ _ _ hu);rw[Qd ((hg12.block b (by omega) (hsb b o u hu)).trans (b11 b h1))];exact C10 _ _ _ hu
       have s510:Sub M5 M10:=Sub.trans hs5 (Sub.trans s9 s10);refine Calls.mono (H81.out _ M10 C12 s510) ?_
       rintro e w13 ⟨rfl,hB13⟩
       have C13:Cons M10 w13:=Cons.below (show Cons M10 w12 from C12) hB13;have hz12:=hg12.size;have hz13:=hB13.size;obtain⟨sa,sn,sc,hlk0⟩:=qmi r10 hwk w13 C13;obtain⟨dp,nd,rn,hgw,hlk⟩:∃ dp nd rn,goodW kf out=(hasW kf out && decide (nd<=500))/\(Instr.lookup 146 (.map (some (w9.heap.size+1))) (factV kf) true).run Try.prog w13=.ok (.tuple #[.agg #[.int .i64 dp,.int .i64 nd,.int .i64 rn,.slice sa sn sc],.bool (hasW kf out)]) w13:=⟨_,_,_,rfl,hlk0⟩;clear hlk0;obtain⟨w14,ew14⟩:∃ w14,w14=w13.alloc (.cells #[.int .i64 dp,.int .i64 nd,.int .i64 rn,.slice sa sn sc] 152):=⟨_,rfl⟩
       have z14:w14.heap.size=w13.heap.size+1:=by rw[ew14];simp
       have b13:∀ k,k<w12.heap.size->w14.heap[k]? = w12.heap[k]?:=fun k hk=>by rw[ew14,heap_alloc_old _ _ (by omega)];exact hB13.block k hk
       have n14:w14.heap[w13.heap.size]? = some (.cells #[.int .i64 dp,.int .i64 nd,.int .i64 rn,.slice sa sn sc] 152 (0,0)):=by rw[ew14];exact heap_alloc_new _ _
       have hsz0:w.heap.size+1<w6.heap.size:=by omega
       have B12:Below w.heap.size w w12:=⟨hg12.os.trans B11.os,hg12.tape.trans B11.tape,hg12.output.trans B11.output,Nat.le_trans B11.size hg12.size,fun k hk=>by rw[hg12.block k (by omega) (hfar k (by omega))];exact B11.block k hk⟩
       have B14:Below w.heap.size w w14:=by
        rw[ew14];exact (B12.trans (hB13.mono oM)).alloc oM _
       have C14:Cons M10 w14:=by rw[ew14];exact C13.alloc _
       have e0':w14.heap[w.heap.size]? = some (.cells #[.int .i64 f.qc,.slice aa f.qa.length ac] 41 (0,0)):=(b13 _ oM).trans nA12
       have e1':w14.heap[w.heap.size+1]? = some (.cells #[.int .i64 0,.int .i64 0,.slice none 0 0,.slice none 0 0] 77 (0,0)):=by
        rw[b13 _ (by omega),hg12.block _ (by omega) (hfar _ (by omega)),b11 _ (by omega),b10 _ (by omega)];exact e1
       have O14:w14.ownsRow w6.heap.size 146 1 (.slice (some ⟨gb,0,none⟩) (k+1) cb) (k+1) (us++[.map (some (w9.heap.size+1))]):=by
        have h1:=owns146 ho12 (w':=w14) fun k hk _=>b13 k hk
        rw[hul]at h1;exact h1
       have hgb:∀ o,M10 gb o=none:=fun o=>by
        rcases ha12 with h1 | h1
        .cases hm:M10 gb o with
         | none=>rfl
         | some u=>exact absurd h1.symm (hsb _ _ _ hm)
        exact hnone M10 w10 gb C10 oM o
       have hA10:∀ o,M10 (w.heap.size+1) o=none:=fun o=>((o10 _ o oM).trans (o9 _ o oM)).trans (hA1 o)
       have HA10:=(show Hid _ from hA10);clear hA10;have hLs:LevT l gv no (lvs++[out]):=LevT.snoc (show LevT l gv no lvs from HL.out) (by rw[hll];exact hT)
       have hll':(lvs++[out]).length=k+1:=by rw[D1,D2,hll]
       have hul':(us++[Value.map (some (w9.heap.size+1))]).length=k+1:=by rw[D1,D2,hul]
       have hlast:(lvs++[out]).getD k []=out:=by rw[<- hll];exact qeI out
       have hus':∀ (i:Nat) m u,(lvs++[out])[i]? = some m->(us++[Value.map (some (w9.heap.size+1))])[i]? = some u->R M10 (mpE qh qE m) u:=fun i m u hm hu=>by
        rcases A5 i k with h1 | h1
        .rw[D8 (by omega)]at hm hu;exact (HU.out i m u hm hu).mono (Sub.trans s9 s10)
        have h2:=(List.getElem?_eq_some_iff.1 hm).1;rw[hll']at h2
        have:i=k:=by omega
        subst this;rw[D0 (by omega),hll,Nat.sub_self]at hm;rw[D0 (by omega),hul,Nat.sub_self]at hu;cases hm;cases hu;exact r10
       have hold10:∀ b o,b<w.heap.size->M10 b o=M b o:=fun b o hb=>((o10 b o oM).trans (o9 b o oM)).trans (HOk.out b o hb)
       have hnol:∀ i,i<k->goodW kf ((lvs++[out]).getD i [])=false:=fun i hi=>by rw[qeH out (by omega)];exact HN.out i hi
       have hprev:R M10 (mpE qh qE (prevL (lvs++[out]) (k+1))) (.map (some (w9.heap.size+1))):=by
        show R M10 (mpE qh qE ((lvs++[out]).getD k [])) _;rw[hlast];exact r10
       obtain⟨hb,ehb⟩:∃ hb,hb=hasW kf out:=⟨_,rfl⟩;rw[<- ehb]at hgw hlk
       have c14:w14.cell? ⟨w13.heap.size,1,none⟩=some (.int .i64 nd):=by simp[A2,n14]
       have Hgw:=(show Hid _ from hgw);have Heh:=(show Hid _ from ehb);have HW14:=(show Hid (w14=_) from ew14);have HLs:=(show Hid _ from hLs);have Hus:=(show Hid _ from hus');have Hold:=(show Hid _ from hold10);have Hnol:=(show Hid _ from hnol);have Hprev:=(show Hid _ from hprev);have Hgb:=(show Hid _ from hgb);have Hlast:=(show Hid _ from hlast);rw[ew14]at c14;clear ew14 hgw ehb hLs hus' hold10 hnol hprev hgb hlast b10 b11 b13 n11 n14 ho12 hg12 ha12 hl12 C12 hsb O11 d0 d1 nA12 e0 e1 hT r10 o10 o9 C10 C9 r9 hB9 hB10 hown hCk hBk
       cases hb with
       | false =>
        go_wp2
        rw[<- HW14.out]
        go_roundw
        case rel =>
         refine⟨k+1,hk1,by go_num,.slice (some ⟨gb,0,none⟩) (k+1) cb,.map (some (w9.heap.size+1)),lvs++[out],us++[.map (some (w9.heap.size+1))],M10,rfl,rfl,hll',hul',HLs.out,fun i hi=>?_,s510,C14,B14,Hold.out,Hprev.out,O14,Hus.out,fun g hg o=>?_,e0',e1',HA10.out,by omega⟩
         .rcases A5 i k with h1 | h1
          .exact Hnol.out i h1
          have:i=k:=by omega
          subst this;rw[Hlast.out];exact Hgw.out
         cases hg;exact Hgb.out o
        case measure=>simp[RowKit.intOf];omega
       | true =>
        by_cases hn:nd<=500
        .have hgood:goodW kf out=true:=by rw[Hgw.out,dT hn];rfl
         obtain⟨p,hp⟩:=Htr.out (by first | rfl | trivial | simp) (by first | rfl | trivial | simp) (by first | rfl | trivial | simp) (lvs++[out]) k HLs.out hll' hk1 (by rw[Hlast.out,<- Heh.out])
         have d0:w14.cell? ⟨w.heap.size,0,none⟩=some (.int .i64 f.qc):=by simp[A2,e0']
         have d1:w14.cell? ⟨w.heap.size,1,none⟩=some (.slice aa f.qa.length ac):=by simp[A2,e0']
         have HP:=(show Hid _ from hp);have HGd:=(show Hid _ from hgood);have HD:=(show Hid _ from And.intro d0 d1);rw[HW14.out]at d0 d1;clear hp hgood
         go_wp2_with fail
         rw[<- HW14.out];refine Calls.mono (H81.out _ M10 C14 s510) ?_
         rintro e w15 ⟨rfl,hB15⟩
         have C15:Cons M10 w15:=Cons.below (show Cons M10 w14 from C14) hB15;have hz15:=hB15.size;have B15:Below w.heap.size w w15:=B14.trans (hB15.mono oM)
         have O15:=owns146 O14 (w':=w15) fun k hk _=>hB15.block k hk
         rw[<- hll']at O15;obtain⟨N,sN,CN,oN,rN⟩:=qlb (by rw[hul',hll']) O15 Hus.out (fun g hg o=>by cases hg;exact Hgb.out o) C15;have e1'':=(hB15.block _ oM).trans e1'
         have h94:=VE (qfZ fuel (lvs++[out]) (k:Int) kf p HP.out) N w15 [.slice (some ⟨gb,0,none⟩) (lvs++[out]).length cb,.int .i64 (k:Int),factV kf] (glob0 N) CN rfl (fun j a b ha hb=>by
          match j,ha,hb with
          | 0,ha,hb=>cases ha;cases hb;rw[hll']at rN ⊢;exact rN
          | 1,ha,hb=>cases ha;cases hb;exact .int _ _
          | 2,ha,hb=>cases ha;cases hb;exact qlk _ _)
         have hgA:gb≠w.heap.size+1:=fun e=>by
          have:=(O14.lt gb rfl).1;omega
         have nA:∀ o,N (w.heap.size+1) o=none:=fun o=>by
          rw[oN _ o (fun e=>hgA (Option.some.inj e))];exact HA10.out o
         have oldN:∀ b o,b<w.heap.size->N b o=M b o:=fun b o hb=>by
          rw[oN b o (fun e=>by have h1:=(O14.lt gb rfl).1;have h2:gb=b:=Option.some.inj e;omega)];exact Hold.out b o hb
         have sMN:Sub M N:=Sub.trans HS5.out (Sub.trans s510 sN);have fz15:=HZ.out _ _ _ _ _ e1'';have H94:=(show Hid _ from h94);have HNA:=(show Hid _ from nA);have HoN:=(show Hid _ from oldN);have HE:=(show Hid _ from e1'');have HhD:=(show Hid _ from HD.out);rw[hll']at H94;clear h94 nA oldN oN rN O15 fz15 e1'' HD d0 d1 CN C15
         go_wp2_with fail
         refine Calls.mono H94.out ?_
         rintro e w16 ⟨pv,N',rfl,hB16,s16,C16,o16,r16,_⟩
         obtain⟨us4,rfl,hu4,hc4⟩:=r16.agg_inv
         obtain⟨v0,v1,v2,v3,rfl⟩:∃ v0 v1 v2 v3,us4=[v0,v1,v2,v3]:=by
          match us4,hu4 with
          | [v0,v1,v2,v3],_=>exact⟨_,_,_,_,rfl⟩
         obtain rfl:=(hc4 0 _ v0 rfl rfl).int_inv;obtain rfl:=(hc4 1 _ v1 rfl rfl).int_inv;obtain⟨va,vc2,rfl⟩:=JF (hc4 2 _ v2 rfl rfl);obtain⟨vb,vd2,rfl⟩:=JF (hc4 3 _ v3 rfl rfl);have hz16:=hB16.size;have E16:=(hB16.block _ oM).trans HE.out;have B16:Below w.heap.size w w16:=B15.trans (hB16.mono oM);obtain⟨⟨p0,p1,p2,p3⟩,p4,p5,p6,p7⟩:=HZ.out _ _ _ _ _ E16
         have hfin:∀ wE:World,(∀ k,k≠w.heap.size+1->wE.heap[k]? = w16.heap[k]?)->wE.heap.size=w16.heap.size->wE.os=w16.os->wE.tape=w16.tape->wE.output=w16.output->PrvPost fuel l gv no kf true true true M w (.returned (.tuple #[.agg #[.int .i64 p.ql,.int .i64 p.qd.qc,.slice va (C0 (AV.int .i64) p.qd.qa).length vc2,.slice vb (C0 qZ p.qj).length vd2],.int .i64 0])) wE:=fun wE hk hsz h1 h2 h3=>by
          have BE:Below w.heap.size w wE:=⟨h1.trans B16.os,h2.trans B16.tape,h3.trans B16.output,by rw[hsz];exact B16.size,fun k hk2=>(hk k oM).trans (B16.block k hk2)⟩
          have nA':∀ o,N' (w.heap.size+1) o=none:=fun o=>(o16 _ o oM).trans (HNA.out o)
          have CE:Cons N' wE:=fun b o u hu=>by
           have hne:b≠w.heap.size+1:=fun e=>by rw[e,nA' o]at hu;cases hu
           rw[Qd (hk b hne)];exact C16 _ _ _ hu
          exact⟨(p,0),_,N',.inr (.inr (.inr ⟨rfl,rfl,Hin.out,.found (lvs++[out]) k p HLs.out hll' hk1 Hnol.out (by rw[Hlast.out];exact HGd.out) HP.out⟩)),rfl,BE,Sub.trans sMN s16,CE,fun b o hb=>(o16 b o oM).trans (HoN.out b o hb),qkP r16⟩
         have HFin:=(show Hid _ from hfin);clear hfin r16 hc4 C16 o16 hB16 s16;simp only[A9]at HFin;simp only[A9]
         go_wp2
         obtain⟨q1,q2,q3⟩:=store4 E16 (.int .i64 p.ql) (.int .i64 p.qd.qc) (.slice va p.qd.qa.length vc2) (.slice vb p.qj.length vd2);refine bodyPost_ret (HR.out _ _ _ _ _ _ 0 (by rfl) (by rfl) q1) rfl (HFin.out _ q2 q3 rfl rfl rfl)
        have hn':decide (nd<=500)=false:=dF hn
        go_wp2
        rw[<- HW14.out]
        go_roundw
        case rel =>
         refine⟨k+1,hk1,by go_num,.slice (some ⟨gb,0,none⟩) (k+1) cb,.map (some (w9.heap.size+1)),lvs++[out],us++[.map (some (w9.heap.size+1))],M10,rfl,rfl,hll',hul',HLs.out,fun i hi=>?_,s510,C14,B14,Hold.out,Hprev.out,O14,Hus.out,fun g hg o=>?_,e0',e1',HA10.out,by omega⟩
         .rcases A5 i k with h1 | h1
          .exact Hnol.out i h1
          have:i=k:=by omega
          subst this;rw[Hlast.out,Hgw.out,hn'];rfl
         cases hg;exact Hgb.out o
        case measure=>simp[RowKit.intOf];omega
      have hkl:k=40:=by omega
      subst hkl;have HL:=(show Hid _ from hLev);have HN:=(show Hid _ from hno);obtain⟨⟨p0,p1,p2,p3⟩,p4,p5,p6,p7⟩:=HZ.out _ _ _ _ _ e1;have HE:=(show Hid _ from e1);clear hLev hno hus hok hRk hgn hown hCk
      go_wp2
      refine bodyPost_ret (HR.out _ _ _ _ _ _ 3 (by rfl) (by rfl) (store4 HE.out _ _ _ _).1) rfl (HF.out _ _ _ _ _ 3 HE.out hBk (.inr (.inr (.inr ⟨rfl,rfl,Hin.out,.size lvs HL.out hll HN.out⟩))))
end Go.Proofs
namespace Go.AM
open Go.Proofs Go.Sort
open Classical
variable {known out:LC} {ar:Int->Nat} {d:Nat} {gv no:LB} {L:LH} {lv:List LC}
theorem Zm {f:rufact}:∀ {l:LC},f∈l.map A0↔(mfind f l).isSome=true
 | []=>by simp[mfind]
 | p::r=>by
  rw[B1,List.mem_cons,Zm (l:=r),mfind]
  cases hq:qf p.1 f with
  | true=>simp[XP.1 hq]
  | false =>
   have:=YL.1 hq;rw[cN];constructor
   .rintro (h | h)
    .exact absurd h.symm this
    exact h
   exact .inr
theorem qab {f:rufact} {w:ruway}:∀ {l:LC},(l.map A0).Nodup->((mset qf f w l).map A0).Nodup
 | [],_=>by simp[mset]
 | p::r,h=>by
  rw[B1,D5]at h;unfold mset
  cases hq:qf p.1 f with
  | true =>
   rw[cT,B1,D5];have:=XP.1 hq
   first
    | exact h
    | (rw[this]at h;exact h)
  | false =>
   have hne:=YL.1 hq;rw[cN,B1,D5];refine⟨fun hm=>?_,qab h.2⟩;have h1:=Zm.1 hm;rw[VL,if_neg hne]at h1;exact h.1 (Zm.2 h1)
theorem qlO (out:LC) (f:rufact) (w:ruway):putO out f w=putW out f w:=by
 unfold putO putW;show (bif decide (w.qp.qt<(mget qf wayZ f out).qp.qt) || decide ((mget qf wayZ f out).qp.qt=0) then mset qf f w out else out)=_;by_cases h:w.qp.qt<(mget qf wayZ f out).qp.qt\/(mget qf wayZ f out).qp.qt=0
 .rw[if_pos h]
  rcases h with h | h
  .rw[dT h];rfl
  rw[dT h,Bool.or_true];rfl
 rw[if_neg h,dF (fun e=>h (.inl e)),dF (fun e=>h (.inr e))];rfl
theorem qhO (h:(out.map A0).Nodup) (f:rufact) (w:ruway):((putW out f w).map A0).Nodup:=by
 unfold putW;split
 .exact qab h
 exact h
structure KOk (ar:Int->Nat) (d:Nat) (known:LC):Prop where
 nd:(known.map A0).Nodup
 arK:arW ar (fun g=>g∈known.map A0)
 rng:∀ f w,mfind f known=some w->1<=w.qp.qt/\w.qp.qt<=1000/\0<=w.qp.qQ/\w.qp.qQ<=(d:Int)
theorem KOk.mget {ar:Int->Nat} {d:Nat} {known:LC} (h:KOk ar d known) (f:rufact):0<=(mget qf wayZ f known).qp.qt/\(mget qf wayZ f known).qp.qt<=1000/\0<=(mget qf wayZ f known).qp.qQ/\(mget qf wayZ f known).qp.qQ<=(d:Int):=by
 rw[Vs]
 cases hm:mfind f known with
 | none =>
  show 0<=(0:Int)/\(0:Int)<=1000/\0<=(0:Int)/\(0:Int)<=(d:Int);omega
 | some w =>
  have:=h.rng f w hm;simp only[D3];omega
theorem KOk.nil (ar:Int->Nat):KOk ar 0 []:=⟨by simp,fun g hg=>by simp at hg,fun f w h=>by simp[mfind]at h⟩
theorem qcr {ar:Int->Nat} {d:Nat} {known:LC} (h:KOk ar d known) (hd:d<=1000) {v:LA} (hv:V8 v):∀ (body:LQ) (w:ruway),(∀ x,x∈body->fitP x.qg.qc x.qg.qa)->(0<=w.qp.qQ/\w.qp.qQ<=(d:Int)+1)->(1<=w.qp.qt/\w.qp.qt<=1000) ->
  wayL known v body w=some (body.foldl (wayStep known v) w)/\(0<=(body.foldl (wayStep known v) w).qp.qQ/\(body.foldl (wayStep known v) w).qp.qQ<=(d:Int)+1)/\(1<=(body.foldl (wayStep known v) w).qp.qt/\(body.foldl (wayStep known v) w).qp.qt<=1000)
 | [],w,_,h1,h2=>⟨rfl,h1,h2⟩
 | x::body,w,hx,h1,h2=>by
  have hb:=fun y hy=>hx y (A3 x hy)
  rw[D6];unfold wayL
  cases hn:x.qw with
  | true =>
   have es:wayStep known v w x=w:=by unfold wayStep;rw[hn,cT]
   rw[cT,es];exact qcr h hd hv body w hb h1 h2
  | false =>
   have hfx:=hx x (A6 ..);have hm:=h.mget (groundF v x.qg)
   have es:wayStep known v w x=⟨⟨max w.qp.qQ ((mget qf wayZ (groundF v x.qg) known).qp.qQ+1),min (w.qp.qt+(mget qf wayZ (groundF v x.qg) known).qp.qt) 1000⟩,w.qY,w.qJ++[groundF v x.qg]⟩:=by
    unfold wayStep;rw[hn,cN]
   have ec:costS known w (groundF v x.qg)=wayStep known v w x:=by
    rw[es];unfold costS;show (⟨⟨max w.qp.qQ (IntKind.wrap .i64 ((mget qf wayZ (groundF v x.qg) known).qp.qQ+1)),min (IntKind.wrap .i64 (w.qp.qt+(mget qf wayZ (groundF v x.qg) known).qp.qt)) 1000⟩,w.qY,w.qJ++[groundF v x.qg]⟩:ruway)=_;rw[wrap64 (by omega) (by omega),wrap64 (by omega) (by omega)]
   rw[cN,XQ hv.1 (qI hfx) hfx.2.1.2];simp only[A1];rw[NH (Zr hv hfx),ec];exact qcr h hd hv body _ hb (by rw[es];simp only;omega) (by rw[es];simp only;omega)
theorem qdX (h:KOk ar d known) (hd:d<=1000) {v:LA} (hv:V8 v) {r:ruRule} (hr:∀ x,x∈r.qe->fitP x.qg.qc x.qg.qa) (i:Int) :
  wayL known v r.qe ⟨⟨1,1⟩,i,[]⟩=some (wayOf known i r v)/\(0<=(wayOf known i r v).qp.qQ/\(wayOf known i r v).qp.qQ<=(d:Int)+1)/\(1<=(wayOf known i r v).qp.qt/\(wayOf known i r v).qp.qt<=1000) :=
 qcr h hd hv r.qe ⟨⟨1,1⟩,i,[]⟩ hr (by simp only;omega) (by simp only;omega)
theorem BestM.same {K K':rufact->ruway->Prop} (h:BestM K out) (hk:∀ f w,K f w↔K' f w):BestM K' out :=
 ⟨fun f w hw=>⟨(hk f w).1 (h.good f w hw).1,(h.good f w hw).2⟩,fun f w hw=>h.least f w ((hk f w).2 hw)⟩
theorem qgs {ar:Int->Nat} {d:Nat} {known:LC} (h:KOk ar d known) (hd:d<=1000) {r:ruRule} (hr:okL ar r) (i:Int):∀ (ds:Li) (out:LC) (K:rufact->ruway->Prop),(∀ v,v∈ds->V8 v)->BestM K out->(out.map A0).Nodup ->
  ∃ o,outD known i r.qi r.qe out ds=some o/\BestM (fun g u=>K g u\/∃ v,v∈ds/\g=groundF v r.qi/\u=wayOf known i r v) o/\(o.map A0).Nodup
 | [],out,K,_,hb,hn=>⟨out,rfl,hb.same fun g u=>⟨.inl,fun h=>h.elim id fun ⟨v,hv,_⟩=>by simp at hv⟩,hn⟩
 | v::ds,out,K,hv,hb,hn=>by
  have hv0:=hv v (A6 ..);obtain⟨w1,w2,w3⟩:=qdX h hd hv0 (fun x hx=>(hr.body x hx).1) i;obtain⟨o,o1,o2,o3⟩:=qgs h hd hr i ds (putW out (groundF v r.qi) (wayOf known i r v)) _ (fun u hu=>hv u (A3 _ hu)) (hb.put (groundF v r.qi) (wayOf known i r v) w3.1) (qhO hn _ _);refine⟨o,?_,o2.same fun g u=>?_,o3⟩
  .unfold outD;rw[w1];simp only[A1];rw[XQ hv0.1 (qI hr.head.1) hr.head.1.2.1.2];simp only[A1];rw[NH (Zr hv0 hr.head.1),qlO];exact o1
  constructor
  .rintro ((a | a) | ⟨u',a,b⟩)
   .exact .inl a
   .exact .inr ⟨v,A6 ..,a⟩
   exact .inr ⟨u',A3 _ a,b⟩
  rintro (a | ⟨u',a,b⟩)
  .exact .inl (.inl a)
  rcases List.mem_cons.1 a with rfl | a
  .exact .inl (.inr b)
  exact .inr ⟨u',a,b⟩
theorem qhF:∀ (fs:LI) (o:LC) (K:rufact->ruway->Prop),BestM K o->(o.map A0).Nodup ->
  BestM (fun g u=>(K g u/\¬ (g∈fs))\/(g∈fs/\u=⟨⟨1,1⟩,-1,[]⟩)) (fs.foldl (fun o f=>mset qf f ⟨⟨1,1⟩,-1,[]⟩ o) o)/\((fs.foldl (fun o f=>mset qf f ⟨⟨1,1⟩,-1,[]⟩ o) o).map A0).Nodup:=by
 intro fs
 have key:∀ (fs:LI) (o:LC) (f:rufact),mfind f (fs.foldl (fun o f=>mset qf f ⟨⟨1,1⟩,-1,[]⟩ o) o)=if f∈fs then some ⟨⟨1,1⟩,-1,[]⟩ else mfind f o:=by
  intro fs
  induction fs with
  | nil=>intro o f;simp
  | cons x fs ih =>
   intro o f;rw[D6,ih,VL];by_cases h1:f∈fs
   .rw[if_pos h1,if_pos (A3 _ h1)]
   rw[if_neg h1];by_cases h2:f=x
   .rw[if_pos h2,if_pos (by rw[h2];exact A6 ..)]
   rw[if_neg h2,if_neg (by rw[List.mem_cons];rintro (h | h);exact h2 h;exact h1 h)]
 intro o K hb hn;refine⟨⟨fun f w hw=>?_,fun f w hw=>?_⟩,?_⟩
 .rw[key]at hw;by_cases h1:f∈fs
  .rw[if_pos h1]at hw;cases hw;exact⟨.inr ⟨h1,rfl⟩,Int.le_refl _⟩
  rw[if_neg h1]at hw;exact⟨.inl ⟨(hb.good f w hw).1,h1⟩,(hb.good f w hw).2⟩
 .rw[key]
  rcases hw with ⟨h1,h2⟩ | ⟨h1,rfl⟩
  .rw[if_neg h2];exact hb.least f w h1
  rw[if_pos h1];exact⟨_,rfl,Int.le_refl _⟩
 clear hb
 induction fs generalizing o with
 | nil=>exact hn
 | cons x fs ih=>rw[D6];exact ih _ (qab hn)
theorem qjx (fs:LI):BestM (fun g u=>g∈fs/\u=⟨⟨1,1⟩,-1,[]⟩) (seedW fs)/\((seedW fs).map A0).Nodup:=by
 obtain⟨a,b⟩:=qhF fs [] (fun _ _=>False) ⟨fun f w h=>by simp[mfind]at h,fun f w h=>h.elim⟩ (by simp);exact⟨a.same fun g u=>⟨fun h=>h.elim (fun h=>h.1.elim) id,.inr⟩,b⟩
theorem qgK {P:rufact->Prop} (hP:okW P):∀ (body:LQ) (v u:LA),InstP P body v u->V8 v->(∀ x,x∈body->fitP x.qg.qc x.qg.qa)->Ext v u/\∀ x,x∈posB body->P (groundF u x.qg):=by
 intro body
 induction body with
 | nil =>
  intro v u hi hv _;have:u=v:=hi;subst this;exact⟨Ext.refl _,fun x hx=>by simp[posB]at hx⟩
 | cons y body ih =>
  intro v u hi hv hb
  have hb':=fun z (hz:z∈body)=>hb z (A3 _ hz)
  rcases hi with ⟨hn,hi⟩ | ⟨hn,g,u1,k1,k2,k3,k4,k5⟩
  .have e:posB (y::body)=posB body:=by unfold posB;rw[List.filter_cons,if_neg (by simp[hn])]
   rw[e];exact ih v u hi hv hb'
  have e:posB (y::body)=y::posB body:=by unfold posB;rw[List.filter_cons,if_pos (by simp[hn])]
  have hfy:=hb y (A6 ..);obtain⟨p1,p2,p3⟩:=QB k4 hv (qI hfy) (ZV (hP g k1));obtain⟨q1,q2⟩:=Zv k4 hv (qI hfy) (ZV (hP g k1)) k3.symm;obtain⟨i1,i2⟩:=ih u1 u k5 p1 hb';refine⟨q1.trans i1,fun x hx=>?_⟩;rw[e]at hx
  rcases List.mem_cons.1 hx with rfl | hx
  .rw[i1.groundF p3]
   have:groundF u1 x.qg=g:=by
    unfold groundF mkF;rw[q2,<- k2];have hg1:=hP g k1;unfold argsF;split
    .rename_i e0;cases g;simp only at e0;subst e0;rfl
    rfl
   rw[this];exact k1
  exact i2 x hx
theorem qeb {K:LevP}:∀ {gs:LI} {s t:Nat},SumN K gs s->SumN K gs t->s=t
 | [],s,t,h,k=>by rw[SumN]at h k;omega
 | g::gs,s,t,⟨w,a,h1,h2,h3⟩,⟨w',b,k1,k2,k3⟩=>by
  rw[h1]at k1;cases k1;rw[h3,k3,qeb h2 k2]
open Go.Proofs Go.Sort
open Classical
theorem qgF (known:LC) (g:rufact):g∈(addF [] (known.map A0)).map A0↔g∈known.map A0:=by
 rw[NT.empty.add.2.1];simp
theorem qiZ (h:KOk ar d known) (hno:NT no) {r:ruRule} (hr:okL ar r) :
  ∃ dd,tryP r.qe no (byRelL (addF [] (known.map A0))) r.qe v0=some dd/\dd.length<=16003008/\∀ w,w∈dd↔InstP (fun g=>g∈known.map A0) r.qe v0 w/\FreeP (fun g=>g∈no.map A0) w r.qe:=by
 have N0:NT (addF [] (known.map A0)):=NT.empty.add.1
 have har:arW ar fun g=>g∈(addF [] (known.map A0)).map A0:=fun g hg=>h.arK g ((qgF known g).1 hg)
 have hfs:=YO N0.n fun g hg=>(har g hg).1
 obtain⟨dd,d1,d2,d3⟩:=qct (bl:=byRelL (addF [] (known.map A0))) hno (by simpa using hfs) har (fun rel=>ZC rel _) (all:=r.qe) (fun x hx=>(hr.body x hx).1) r.qe v0 hr.body V8_0;refine⟨dd,d1,?_,fun w=>?_⟩
 .have:252 ^ r.qe.length<=252 ^ 3:=Nat.pow_le_pow_right oM hr.1.1
  have e:252 ^ 3=16003008:=by decide
  omega
 rw[d3]
 have:(fun g=>g∈(addF [] (known.map A0)).map A0)=fun g=>g∈known.map A0:=funext fun g=>propext (qgF known g)
 rw[this]
theorem qgD (h:KOk ar d known):known.length<=252:=by
 have:=YO h.nd fun g hg=>(h.arK g hg).1
 simpa using this
theorem qlx (hL:∀ r,r∈L->okL ar r) (hl:L.length<=12) (hgl:gv.length<=1000) (hga:arW ar fun g=>g∈gv.map A0) (hno:NT no) (h:KOk ar d known):BetOk L gv no known:=by
 refine⟨hl,by omega,by have:=qgD h;omega,fun p hp=>(hga p.1 (List.mem_map.2 ⟨p,hp,rfl⟩)).1.wf,fun p hp=>(h.arK p.1 (List.mem_map.2 ⟨p,hp,rfl⟩)).1.wf,fun r hr=>⟨by have:=(hL r hr).1.1;omega,?_⟩⟩;have hrl:=hL r hr;obtain⟨dd,d1,d2,d3⟩:=qiZ h hno hrl;refine⟨dd,d1,by omega,fun v hv=>?_⟩;obtain⟨a,_⟩:=hrl.inst h.arK.ok ((d3 v).1 hv).1;exact⟨fun x hx _=>⟨_,XQ a.1 (qI (hrl.body x hx).1) (hrl.body x hx).1.2.1.2,Zr a (hrl.body x hx).1⟩,_,XQ a.1 (qI hrl.head.1) hrl.head.1.2.1.2,Zr a hrl.head.1⟩
def KW (L:LH) (gv no:LB) (known:LC) (k:Nat) (g:rufact) (u:ruway):Prop :=
 (g∈gv.map A0/\u=⟨⟨1,1⟩,-1,[]⟩)\/∃ i r,i<k/\L[i]? = some r/\∃ v,InstP (fun g=>g∈known.map A0) r.qe v0 v/\FreeP (fun g=>g∈no.map A0) v r.qe/\g=groundF v r.qi/\u=wayOf known (i:Int) r v
theorem qbJ {ar:Int->Nat} {L:LH} (hL:∀ r,r∈L->okL ar r) {gv no:LB} (hno:NT no) {d:Nat} {known:LC} (h:KOk ar d known) (hd:d<=1000) {done:LI} {inl:LB} (hdone:done.Perm (gv.map A0)) (hinl:inl.Perm (addF [] (known.map A0))) :
  ∀ (k:Nat) (o:LC),RulesN (no,[]) ([],known) inl L (seedW done) k o->BestM (KW L gv no known k) o/\(o.map A0).Nodup
 | 0,o,ho=>by
  have:o=seedW done:=ho;subst this;obtain⟨a,b⟩:=qjx done;refine⟨a.same fun g u=>?_,b⟩;rw[hdone.mem_iff];exact⟨.inl,fun q=>q.elim id fun ⟨i,r,hi,_⟩=>by omega⟩
 | k+1,o,⟨o1,r,bl,ds,h1,h2,h3,h4,h5⟩=>by
  obtain⟨a,b⟩:=qbJ hL hno h hd hdone hinl k o1 h1;have hr:=hL r (D7 h2);obtain⟨dd,d1,d2,d3⟩:=qiZ h hno hr
  obtain⟨o2,ho2,hp2⟩:=UB (bl:=byRelL (addF [] (known.map A0))) (bl':=bl) (fun rel=>by
   rw[ZC]
   exact (((hinl.map A0).symm).filter _).trans (h3 rel).symm) r.qe _ _ d1
  have e4:tryP r.qe no bl r.qe (List.replicate 8 0)=some ds:=h4;have ho2':tryP r.qe no bl r.qe (List.replicate 8 0)=some o2:=ho2;rw[e4]at ho2';obtain rfl:ds=o2:=Option.some.inj ho2';obtain⟨o',q1,q2,q3⟩:=qgs h hd hr (k:Int) ds o1 _ (fun v hv=>(hr.inst h.arK.ok ((d3 v).1 (hp2.mem_iff.2 hv)).1).1) a b;have e5:outD known (k:Int) r.qi r.qe o1 ds=some o:=h5;rw[e5]at q1;obtain rfl:o=o':=Option.some.inj q1;refine⟨q2.same fun g u=>?_,q3⟩;constructor
  .rintro ((q | ⟨i,r',hi,q⟩) | ⟨v,hv,q⟩)
   .exact .inl q
   .exact .inr ⟨i,r',by omega,q⟩
   have:=(d3 v).1 (hp2.mem_iff.2 hv);exact .inr ⟨k,r,by omega,h2,v,this.1,this.2,q⟩
  rintro (q | ⟨i,r',hi,hr',v,q1,q2,q3⟩)
  .exact .inl (.inl q)
  rcases A5 i k with hik | hik
  .exact .inl (.inr ⟨i,r',hik,hr',v,q1,q2,q3⟩)
  have:i=k:=by omega
  subst this;rw[h2]at hr';obtain rfl:=Option.some.inj hr';exact .inr ⟨v,hp2.mem_iff.1 ((d3 v).2 ⟨q1,q2⟩),q3⟩
theorem KOk.knownOk {ar:Int->Nat} {d:Nat} {known:LC} (h:KOk ar d known):knownOk known:=fun f w hw=>⟨(h.rng f w hw).1,(h.rng f w hw).2.1⟩
theorem qmo (hL:∀ r,r∈L->okL ar r) (hga:arW ar fun g=>g∈gv.map A0) (hno:NT no) (h:KOk ar d known) (hd:d<=1000) (hb:BetT L gv no known out) :
  BetterP L (fun g=>g∈gv.map A0) (fun g=>g∈no.map A0) (levM known) (levM out)/\KOk ar (d+1) out:=by
 obtain⟨done,inl,b1,b2,b3⟩:=hb;obtain⟨hB,hN⟩:=qbJ hL hno h hd b1 b2 L.length out b3;have hK:=h.knownOk
 have isWay:∀ f u,KW L gv no known L.length f u->WayOk L (fun g=>g∈gv.map A0) (fun g=>g∈no.map A0) (levM known) f (wayP u)/\(okU1 f/\(argsF f).length=ar f.qn)/\1<=u.qp.qt/\u.qp.qt<=1000/\0<=u.qp.qQ/\u.qp.qQ<=(d:Int)+1:=fun f u hu=>by
  rcases hu with ⟨a,rfl⟩ | ⟨i,r,hi,hr,v,v1,v2,rfl,rfl⟩
  .exact⟨.inl ⟨rfl,rfl,a,rfl⟩,hga f a,by simp only;omega⟩
  have hrl:=hL r (D7 hr);obtain⟨c1,c2⟩:=hrl.inst h.arK.ok v1;obtain⟨w1,w2,w3⟩:=qdX h hd c1 (fun x hx=>(hrl.body x hx).1) (i:Int)
  obtain⟨_,p2⟩:=qgK h.arK.ok r.qe v0 v v1 V8_0 fun x hx=>(hrl.body x hx).1
  exact⟨qkr hK hr c1 c2 v2 fun x hx=>Zm.1 (p2 x hx),hrl.ground h.arK.ok v1,w3.1,w3.2,w2.1,w2.2⟩
 refine⟨⟨fun f w hw=>?_,fun f w hw=>?_⟩,hN,fun g hg=>?_,fun f w hw=>?_⟩
 .unfold levM at hw;rw[D9]at hw;obtain⟨u,u1,rfl⟩:=hw;exact (isWay f u (hB.good f u u1).1).1
 .obtain⟨u,hu,hle⟩:∃ u,KW L gv no known L.length f u/\u.qp.qt.toNat<=w.nodes:=by
   rcases hw with ⟨a,b,c,e⟩ | ⟨a,r,b,v,v1,v2,v3,v4,v5,s,v6,v7⟩
   .exact⟨⟨⟨1,1⟩,-1,[]⟩,.inl ⟨c,rfl⟩,by rw[e];exact A4 _⟩
   have hrl:=hL r (D7 b)
   have hbw:∀ x,x∈r.qe->bnd v x.qg.qa:=fun x hx=>v2 _ (A3 _ (List.mem_map.2 ⟨x,hx,rfl⟩))
   obtain⟨u,u1,u2⟩:=Zq (P:=fun g=>g∈known.map A0) r.qe v0 v (fun x hx=>(hrl.body x hx).1) V8_0 v1 (Ext.zero v) hbw fun x hx=>by
    have hgm:groundF v x.qg∈w.sub:=by rw[v5];exact List.mem_map.2 ⟨x,hx,rfl⟩
    have:=qbe v6 _ hgm;unfold levM at this;rw[Option.isSome_map]at this;exact Zm.2 this
   obtain⟨c1,c2⟩:=hrl.inst h.arK.ok u1
   have hge:∀ a,a∈atomsU r->groundF u a=groundF v a:=fun a ha=>(u2.groundF (c2 a ha)).symm
   have hfree:FreeP (fun g=>g∈no.map A0) u r.qe:=fun x hx hn hy=>v4 x hx hn (by rw[<- hge _ (A3 _ (List.mem_map.2 ⟨x,hx,rfl⟩))];exact hy)
   have hi:w.rule.toNat<L.length:=(List.getElem?_eq_some_iff.1 b).1;refine⟨wayOf known (w.rule.toNat:Int) r u,.inr ⟨w.rule.toNat,r,hi,b,u,u1,hfree,by rw[hge _ (A6 ..)];exact v3.symm,rfl⟩,?_⟩
   obtain⟨_,p2⟩:=qgK h.arK.ok r.qe v0 u u1 V8_0 fun x hx=>(hrl.body x hx).1
   obtain⟨s',s1,s2,s3,s4⟩:=ZY hK (v:=u) r.qe ⟨⟨1,1⟩,(w.rule.toNat:Int),[]⟩ 0 rfl fun x hx=>Zm.1 (p2 x hx)
   have hsub:((posB r.qe).map fun x=>groundF u x.qg)=w.sub:=by
    rw[v5]
    exact List.map_congr_left fun x hx=>hge _ (A3 _ (List.mem_map.2 ⟨x,(List.mem_filter.1 hx).1,rfl⟩))
   rw[hsub]at s1;have:=qeb s1 v6;have e:(wayOf known (w.rule.toNat:Int) r u).qp.qt=((min (1+0+s') 1000:Nat):Int):=s2;rw[e,v7];omega
  obtain⟨u',q1,q2⟩:=hB.least f u hu;refine⟨wayP u',by unfold levM;rw[q1];rfl,?_⟩;show u'.qp.qt.toNat<=w.nodes;omega
 .obtain⟨u,hu⟩:=Option.isSome_iff_exists.1 (Zm.1 hg);exact (isWay g u (hB.good g u hu).1).2.1
 obtain⟨_,_,a,b,c,e⟩:=isWay f w (hB.good f w hw).1;exact⟨a,b,c,by omega⟩
theorem Dn {ar:Int->Nat} {L:LH} (hL:∀ r,r∈L->okL ar r) {gv no:LB} (hga:arW ar fun g=>g∈gv.map A0) (hno:NT no) {lv:List LC} (hlen:lv.length<=1000) (h:LevT L gv no lv) :
  ∀ i,i<=lv.length->KOk ar i (prevL lv i)/\∀ e,e<i->BetterP L (fun g=>g∈gv.map A0) (fun g=>g∈no.map A0) (levM (prevL lv e)) (levM (prevL lv (e+1)))
 | 0,_=>⟨KOk.nil ar,fun e he=>by omega⟩
 | i+1,hi=>by
  obtain⟨a,b⟩:=Dn hL hga hno hlen h i oM;obtain⟨c,e⟩:=qmo hL hga hno a oM (h i oM);refine⟨e,fun j hj=>?_⟩
  rcases A5 j i with h1 | h1
  .exact b j h1
  have:j=i:=by omega
  subst this;exact c
theorem Do:∀ {i:Nat},i<=lv.length->levK lv i=levM (prevL lv i)
 | 0,_=>by funext f;rfl
 | i+1,hi=>by
  funext f
  show (lv[i]?).bind (fun m=>(mfind f m).map wayP)=(mfind f (lv.getD i [])).map wayP;rw[A8,E0 (by omega)];rfl
theorem qjU (hL:∀ r,r∈L->okL ar r) (hga:arW ar fun g=>g∈gv.map A0) (hno:NT no) (hlen:lv.length<=1000) (h:LevT L gv no lv):LevsP L (fun g=>g∈gv.map A0) (fun g=>g∈no.map A0) (levK lv) lv.length:=by
 refine⟨rfl,fun d hd=>?_⟩;rw[Do (by omega),Do (by omega)];exact (Dn hL hga hno hlen h lv.length (A4 _)).2 d hd
theorem qaf (f:rufact):∀ l:LC,hasW f l=(mfind f l).isSome
 | []=>rfl
 | p::r=>by
  have ih:=qaf f r;unfold hasW at ih ⊢;rw[B1,mfind];unfold findA;show (match qf p.1 f with | true=>some 0 | false=>match findA (qh f) (r.map fun p:rufact×ruway=>qh p.1) with | some j=>some (j+1) | none=>none).isSome=_
  cases qf p.1 f with
  | true=>rfl
  | false =>
   rw[cN,<- ih];cases findA (qh f) (r.map fun p:rufact×ruway=>qh p.1) <;> rfl
theorem qcZ {f:rufact} {i:Nat} (hi:i<lv.length) (hk:KOk ar (i+1) (lv.getD i [])):(goodW f (lv.getD i [])=true->∃ w,levK lv (i+1) f=some w/\w.nodes<=500)/\(goodW f (lv.getD i [])=false->∀ w,levK lv (i+1) f=some w->500<w.nodes):=by
 rw[Do (by omega)]
 have hg:goodW f (lv.getD i [])=((mfind f (lv.getD i [])).isSome && decide ((mget qf wayZ f (lv.getD i [])).qp.qt<=500)):=by
  unfold goodW;rw[qaf];rfl
 rw[hg,Vs];show (_->∃ w,(mfind f (lv.getD i [])).map wayP=some w/\w.nodes<=500)/\(_->∀ w,(mfind f (lv.getD i [])).map wayP=some w->500<w.nodes)
 cases hm:mfind f (lv.getD i []) with
 | none=>exact⟨fun h=>by simp at h,fun _ w h=>by cases h⟩
 | some u =>
  have hr:=hk.rng f u hm;simp only[Option.isSome_some,Bool.true_and,D3];refine⟨fun h=>⟨wayP u,rfl,?_⟩,fun h w hw=>?_⟩
  .have h:=of_decide_eq_true h;show u.qp.qt.toNat<=500;omega
  have h:=of_decide_eq_false h;cases hw;show 500<u.qp.qt.toNat;omega
end Go.AM
namespace Go.AM
def V (a:Int):BitVec 64:=BitVec.ofInt 64 a
def Bits (a b:Int):Prop:=∀ i:Nat,(V a).getLsbD i=true->(V b).getLsbD i=true
theorem Bits.refl (a:Int):Bits a a:=fun _ h=>h
theorem Bits.trans {a b c:Int} (h:Bits a b) (k:Bits b c):Bits a c:=fun i x=>k i (h i x)
open Go.Proofs Go.Sort
open Classical
def bitS (s:Int) (k:Nat):Bool:=(iAnd .i64 (iShr .i64 s (k:Int)) 1) == 1
def selF {α:Type} (s:Int):Nat->List α->List α
 | _,[]=>[]
 | k,x::r=>bif bitS s k then x::selF s (k+1) r else selF s (k+1) r
theorem qeg {α:Type} {s t:Int} {n:Nat} (h:∀ i,i<n->bitS s i=true->bitS t i=true):∀ (l:List α) (k:Nat),k+l.length<=n->∀ x,x∈selF s k l->x∈selF t k l
 | [],k,_,x,hx=>hx
 | y::r,k,hn,x,hx=>by
  rw[List.length_cons]at hn;have ih:=qeg h r (k+1) oM x;unfold selF at hx ⊢
  cases hs:bitS s k with
  | true =>
   rw[hs,cT]at hx;rw[h k (by omega) hs,cT]
   rcases List.mem_cons.1 hx with h1 | h1
   .exact h1 ▸ A6 ..
   exact A3 _ (ih h1)
  | false =>
   rw[hs,cN]at hx
   cases bitS t k with
   | true=>exact A3 _ (ih hx)
   | false=>exact ih hx
theorem mset_len (out:LB) (f:rufact):(mset qf f true out).length<=out.length+1:=by
 induction out with
 | nil=>simp[mset]
 | cons p r ih =>
  unfold mset
  cases qf p.1 f with
  | true=>simp
  | false=>simpa using ih
def EnoughP (l:LN) (facts:LG) (f:apiFact) (s:Int):Prop:=∃ X,LeastR (l.map toR) (fun _=>False) (fun g=>g∈(selF s 0 facts).map toF) X/\X (toF f)
theorem EnoughP.mono {l:LN} {facts:LG} {f:apiFact} {s t:Int} (h:∀ i,i<facts.length->bitS s i=true->bitS t i=true) {fuel:Nat} (hf:300<=fuel) (hv:VR l facts) (hg:groundP f) (hs:EnoughP l facts f s) (ht:∃ Y,LeastR (l.map toR) (fun _=>False) (fun g=>g∈(selF t 0 facts).map toF) Y):EnoughP l facts f t:=by
 obtain⟨X,hX,hx⟩:=hs;obtain⟨Y,hY⟩:=ht;refine⟨Y,hY,hX.least Y (fun g hg=>hY.sub g ?_) hY.closed _ hx⟩;obtain⟨z,hz,rfl⟩:=List.mem_map.1 hg;exact List.mem_map.2 ⟨z,qeg h facts 0 oM z hz,rfl⟩
end Go.AM
namespace Go.AM
open Go.Proofs
end Go.AM
namespace Go.AM
open Go.RowKit Go.Proofs
open Classical
variable {a:LH} {b:LG} {c:apiFact} {k:ruProof×Int->LD}
noncomputable def pvZ (a:LH) (b:LG) (c:apiFact) (k:ruProof×Int->LD):LD :=
 if ∃ T:ruProof×Int->Prop,CallS Try.prog 46 [l54 none a,l41 none b,.agg [.int .i64 c.qc,l3 none c.qa]] (fun x=>∃ w,T w/\x=qdo w)/\∀ w,T w->k w=some true then some true else none
theorem qkM {r:Bool} (h:pvZ a b c k=some r):∃ T:ruProof×Int->Prop,CallS Try.prog 46 [l54 none a,l41 none b,.agg [.int .i64 c.qc,l3 none c.qa]] (fun x=>∃ w,T w/\x=qdo w)/\∀ w,T w->k w=some r:=by
 unfold pvZ at h;split at h
 .rename_i h1;cases h;exact h1
 cases h
theorem qgk (T:ruProof×Int->Prop) (h:CallS Try.prog 46 [l54 none a,l41 none b,.agg [.int .i64 c.qc,l3 none c.qa]] (fun x=>∃ w,T w/\x=qdo w)) (hk:∀ w,T w->k w=some true):pvZ a b c k=some true:=by
 unfold pvZ;rw[if_pos ⟨T,h,hk⟩]
theorem proveS {fuel:Nat} {l:LH} {facts:LG} {f:apiFact} {gv no:LB} {kf:rufact} {bv bf mb:Bool} (h:PrvOk fuel l facts f gv no kf bv bf mb):CallS Try.prog 46 [l54 none l,l41 none facts,.agg [.int .i64 f.qc,l3 none f.qa]] (fun x=>∃ w,AnsT fuel l gv no kf bv bf mb w/\x=qdo w):=by
 intro M w vs hG hC hl hR
 obtain⟨v0,v1,v2,rfl⟩:∃ v0 v1 v2,vs=[v0,v1,v2]:=by
  match vs,hl with
  | [v0,v1,v2],_=>exact⟨v0,v1,v2,rfl⟩
 have r2:R M (.agg [.int .i64 f.qc,l3 none f.qa]) v2:=hR 2 _ v2 rfl rfl;obtain⟨us,rfl,hu,hc⟩:=r2.agg_inv
 obtain⟨u0,u1,rfl⟩:∃ u0 u1,us=[u0,u1]:=by
  match us,hu with
  | [u0,u1],_=>exact⟨u0,u1,rfl⟩
 obtain rfl:u0=.int .i64 f.qc:=(hc 0 _ u0 rfl rfl).int_inv;refine (Go.Proofs.Try.prove46 h hC (hR 0 _ v0 rfl rfl) (hR 1 _ v1 rfl rfl) (hc 1 _ u1 rfl rfl)).mono ?_
 rintro e w' ⟨r,v,M',h1,h2,h3,h4,h5,h6,h7⟩
 exact⟨_,v,M',⟨r,h1,rfl⟩,h2,h3,h4,h5,h6,h7⟩
end Go.AM
namespace Go.AM
open Go.Proofs
end Go.AM
namespace Go.AM
open Go.Proofs Go.Sort
open Classical
variable {facts:LG} {f:apiFact}
theorem qlP {fuel:Nat} {l:LH} {bv bf:Bool} (h1:Xp fuel l facts=some bv) (h2:XW fuel f=some bf) (h:(bv && bf)=false):CallS Try.prog 46 [l54 none l,l41 none facts,.agg [.int .i64 f.qc,l3 none f.qa]] (fun x=>∃ w,w=(zProof,2)/\x=qdo w):=by
 have bad:bv=true->bf=true->False:=fun a b=>by rw[a,b]at h;cases h
 have ho:PrvOk fuel l facts f [] [] ⟨0,0,0⟩ bv bf false:=⟨h1,fun _=>h2,fun a b=>(bad a b).elim,fun a b=>(bad a b).elim,fun a b=>(bad a b).elim,fun a b=>(bad a b).elim,fun a b=>(bad a b).elim⟩;refine (proveS ho).mono ?_
 rintro x ⟨w,hw,rfl⟩
 refine⟨w,?_,rfl⟩
 rcases hw with ⟨_,e⟩ | ⟨e,_⟩ | ⟨e,_⟩ | ⟨e,_⟩
 .exact e
 .rw[h]at e;cases e
 .rw[h]at e;cases e
 rw[h]at e;cases e
theorem qdb {l:LG} (hl:l.length<=100) (h:∀ f,f∈l->groundP f):QS l=some (addF [] (l.map toF)):=by
 unfold QS;rw[NH (qy (by omega)),UP _ l 0 [] h NT.empty (by simp;omega)];rfl
def AnsM (fuel:Nat) (l:LN) (facts:LG) (S:LM) (f:apiFact) (w:ruProof×Int):Prop :=
 (¬ setB S (toF f)/\w=(zProof,5))\/(setB S (toF f)/\((Vr fuel l facts S f=some (0,0)/\w=(zProof,3)) \/
  ∃ (d m:Nat) (p:ruProof),Vr fuel l facts S f=some (((d+1:Nat):Int),(m:Int))/\d<40/\m<=500/\okT p/\hT p=d+1/\nT p=m/\p.qd=f/\HoldsN (l.map toR) (fun g=>g∈facts.map toF) (setB S) (d+1) p/\Ja fuel p=some (ownT p)/\Dd fuel l facts S (ownT p)=some true/\Qo fuel (ownT p) 40=some ((d+1:Nat):Int)/\VI fuel (ownT p)=some (m:Int)/\w=(p,0)))
theorem qjI {fuel:Nat} (hf:400<=fuel) {l:LN} (hl:okRules l) (hv:VR l facts) (hg:groundP f) {out:LB} {S:LM} (hm:Qc fuel (l.map toR) facts=some (out,true)) (hS:StR (arVR l facts) out S):CallS Try.prog 46 [l54 none (l.map toR),l41 none facts,.agg [.int .i64 f.qc,l3 none f.qa]] (fun x=>∃ w,AnsM fuel l facts S f w/\x=qdo w):=by
 have h1:=mvalid (by omega:4<=fuel) hl hv.1 hv.2.2.2.1 (m:=facts) (by have:=hv.2.1;omega) fun f hf=>by have:=(hv.2.2.1 f hf).2.1.2;omega
 rw[dT hv]at h1;have h2:=VP (by omega:4<=fuel) f;rw[dT hg]at h2;obtain⟨gv,S0,g1,g2,g3⟩:=VQ (by have:=hv.2.1;omega:facts.length<=100) hv.2.2.1 hv.facts_ar
 have hL:∀ r,r∈l.map toR->okL (arVR l facts) r:=fun r hr=>by
  obtain⟨q,hq,rfl⟩:=List.mem_map.1 hr;exact hv.okL q hq
 have hll:(l.map toR).length<=12:=by rw[A9];have:=hv.1;omega
 have hgl:gv.length<=1000:=by
  have:=YO g3.nt.n fun g hg=>(g3.ar g hg).1
  rw[A9]at this;omega
 have hok:=(Xz hg).1
 have eG:(fun g=>g∈gv.map A0)=fun g=>g∈facts.map toF:=funext fun g=>propext (by
  have e:=qdb (by have:=hv.2.1;omega:facts.length<=100) hv.2.2.1;rw[g1]at e;rw[Option.some.inj e,NT.empty.add.2.1]
  simp)
 have eX:(fun g=>g∈out.map A0)=setB S:=funext fun g=>propext (hS.same g)
 have levs:∀ lv,LevT (l.map toR) gv out lv->lv.length<=1000->LevsP (l.map toR) (fun g=>g∈facts.map toF) (setB S) (levK lv) lv.length:=fun lv h hlen=>by
  have:=qjU hL g3.ar hS.nt hlen h;rw[eG,eX]at this;exact this
 have ho:PrvOk fuel (l.map toR) facts f gv out (toF f) true true true:=by
  refine⟨h1,fun _=>h2,fun _ _=>hm,fun _ _=>⟨qcm hg,hok.wf⟩,fun _ _ _=>g1,fun _ _ _ lv h hlt=>qlx hL hll hgl g3.ar hS.nt (Dn hL g3.ar hS.nt oM h lv.length (A4 _)).1,fun _ _ _ lv d h hlen hd hw=>?_⟩
  have hsome:(levK lv (d+1) (toF f)).isSome=true:=by
   rw[Do (by omega)];show ((mfind (toF f) (lv.getD d [])).map wayP).isSome=true;rw[Option.isSome_map,<- qaf];exact hw
  obtain⟨p,p1,_⟩:=qcu hL (levs lv h oM) d fuel (toF f) oM oM oM hok hsome;exact⟨p,p1⟩
 refine (proveS ho).mono ?_
 rintro x ⟨w,hw,rfl⟩
 refine⟨w,?_,rfl⟩;have hin:mget qf false (toF f) out=true↔setB S (toF f):=(NT.mget hS.nt.t _).trans (hS.same _)
 rcases hw with ⟨e,_⟩ | ⟨_,e,_⟩ | ⟨_,_,e,q⟩ | ⟨_,_,e,q⟩
 .cases e
 .cases e
 .exact .inl ⟨fun h=>(by rw[hin.2 h]at e;cases e),q⟩
 refine .inr ⟨hin.1 e,?_⟩
 cases q with
 | size lv q1 q2 q3 =>
  left;refine⟨?_,rfl⟩;have hlv:=levs lv q1 oM;rw[q2]at hlv
  refine qgo hf hv hS.len hg hlv fun w' hw'=>?_
  exact (qcZ (by omega:39<lv.length) (Dn hL g3.ar hS.nt oM q1 40 oM).1).2 (q3 39 oM) w' hw'
 | found lv d p q1 q2 q3 q4 q5 q6 =>
  right;have hlv:=levs lv q1 oM;rw[q2]at hlv;obtain⟨w',w1,w2⟩:=(qcZ (by omega:d<lv.length) (Dn hL g3.ar hS.nt oM q1 (d+1) oM).1).1 q5
  have hno:∀ e,e<=d->∀ w',levK lv e (toF f)=some w'->500<w'.nodes:=fun e he w' hw'=>by
   match e,he,hw' with
   | 0,_,hw'=>cases hw'
   | e+1,he,hw'=>exact (qcZ (by omega:e<lv.length) (Dn hL g3.ar hS.nt oM q1 (e+1) oM).1).2 (q4 e oM) w' hw'
  have hsome:(levK lv (d+1) (toF f)).isSome=true:=by rw[w1];rfl
  obtain⟨p',p1,p2⟩:=qcu hL hlv d fuel (toF f) oM oM oM hok hsome;rw[q6]at p1;obtain rfl:p=p':=Option.some.inj p1;obtain⟨t1,t2,t3,t4,t5,t6,t7,t8⟩:=qhS hf hv hS.arB hS.len hg q3 hlv w1 w2 hno p2;obtain⟨k1,k2,k3,k4,w'',k5,k6⟩:=qfe hL hlv (d+1) (toF f) p (A4 _) hok p2;rw[w1]at k5;cases k5;exact⟨d,w'.nodes,p,t1,q3,w2,t2,t3,k6 w2,t4,k1,t5,t6,t7,t8,rfl⟩
end Go.AM
namespace Go.AM
open Go.Proofs
def JK (v21:Bool):LD :=
 (some v21)
def Jd (v38:Bool):LD :=
 (some v38)
def Jc (v50:Bool):LD :=
 (some v50)
noncomputable def jl (fuel:Nat) (a1:LN) (a2:LG) (w6:ruProof) (v25:Bool) (v26:Bool):LD :=
 (bif v26 then (some false) else ((Ns a1).bind fun w29=>((Yg a2).bind fun w30=>(pvZ w29 w30 w6.qd (fun w31=>(bif (w31.2 != 0) then (bif (!v25) then (bif (w31.2 == 2) then ((QZ fuel).bind fun w35=>((Jd) w35)) else (bif (w31.2 == 5) then ((QZ fuel).bind fun w36=>((Jd) w36)) else (bif (w31.2 == 3) then ((QZ fuel).bind fun w37=>((Jd) w37)) else ((Jd) false)))) else ((Jd) false)) else ((Ns a1).bind fun w40=>((Yg a2).bind fun w41=>((Ym fuel w40 w41 w31.1).bind fun w42=>(bif w42.1 then (bif (w42.2 == 0) then (bif (!v25) then ((QZ fuel).bind fun w44=>((Jc) w44)) else ((Ja fuel w31.1).bind fun w45=>((Qo fuel w45 40).bind fun w46=>((Ja fuel w6).bind fun w47=>((Qo fuel w47 40).bind fun w48=>(bif (decide (w46<=w48)) then ((QZ fuel).bind fun w49=>((Jc) w49)) else ((Jc) false))))))) else ((Jc) false)) else ((Jc) false)))))))))))
noncomputable def Je (fuel:Nat) (a1:LN) (a2:LG) (w6:ruProof) (w10:(Bool×Int)) (w14:(LG×Int)) (v17:Bool):LD :=
 (bif v17 then (bif (w10.2 == w14.2) then (bif (w10.2 == 2) then ((QZ fuel).bind fun w19=>((JK) w19)) else (bif (w10.2 == 8) then ((QZ fuel).bind fun w20=>((JK) w20)) else ((JK) false))) else ((JK) false)) else (bif w10.1 then ((Zo w14.1 w6.qd).bind fun w24=>((jl fuel a1 a2 w6) true (!w24))) else ((jl fuel a1 a2 w6) false false)))
noncomputable def XN (fuel:Nat) (a1:LN) (a2:LG) (a3:qr):LD :=
 ((Dj fuel a3 42).bind fun w6=>((Ns a1).bind fun w8=>((Yg a2).bind fun w9=>((Ym fuel w8 w9 w6).bind fun w10=>((Ns a1).bind fun w12=>((Yg a2).bind fun w13=>((XH fuel w12 w13).bind fun w14=>(bif (w10.2 != 0) then ((Je fuel a1 a2 w6 w10 w14) true) else ((Je fuel a1 a2 w6 w10 w14) (w14.2 != 0))))))))))
theorem qak (fuel:Nat) (a1:LN) (a2:LG) (a3:qr) (r:Bool) (h:XN fuel a1 a2 a3=some r):CallOk Try.prog 16 [l94 none a1,l41 none a2,.agg [I6 a3.ql,I6 a3.qd.qc,l3 none a3.qd.qa,l85 none a3.qj]] (.bool r):=by
 refine qbY Try.func16 rfl kR (fun e k l xs h=>by cases h) ?_;rw[show argsEnv 0 (C0 AV.strip [l94 none a1,l41 none a2,.agg [I6 a3.ql,I6 a3.qd.qc,l3 none a3.qd.qa,l85 none a3.qj]])=[(0,l94 none a1),(1,l41 none a2),(2,.agg [I6 a3.ql,I6 a3.qd.qc,l3 none a3.qd.qa,l85 none a3.qj])] from by kernel_rfl];unfold XN at h
 first | refine W.seq ?_ | refine CodeP.seqW mixedP ?_
 first
  | refine W.regT [0,1,5] [5] [] [] (e2:=[(0,l94 none a1),(1,l41 none a2),(5,.ptr (.agg [I6 a3.ql,I6 a3.qd.qc,l3 none a3.qd.qa,l85 none a3.qj]))]) kR kR (fun _ h=>h) ?_
  | refine W.regPT [0,1,5] [5] [] [] (e2:=[(0,l94 none a1),(1,l41 none a2),(5,.ptr (.agg [I6 a3.ql,I6 a3.qd.qc,l3 none a3.qd.qa,l85 none a3.qj]))]) kR kR ?_
 first | refine W.seq ?_ | refine CodeP.seqW mixedP ?_
 refine W.rg ?_;obtain⟨w6,hw6,h⟩:=qb h;refine WO.ck 1 (F:=54) (l:=[.agg [I6 a3.ql,I6 a3.qd.qc,l3 none a3.qd.qa,l85 none a3.qj],.int .i64 42]) (C:=[]) (r:=.agg [I6 w6.ql,I6 w6.qd.qc,l3 none w6.qd.qa,l77 none w6.qj]) (qdI fuel a3 42 w6 hw6) ?_
 first
  | refine WO.fin [0,1,7] [7] [] [] (e2:=[(0,l94 none a1),(1,l41 none a2),(7,.ptr (.agg [I6 w6.ql,I6 w6.qd.qc,l3 none w6.qd.qa,l77 none w6.qj]))]) kR (fun _ h=>h) ?_
  | refine WO.finP [0,1,7] [7] [] [] (e2:=[(0,l94 none a1),(1,l41 none a2),(7,.ptr (.agg [I6 w6.ql,I6 w6.qd.qc,l3 none w6.qd.qa,l77 none w6.qj]))]) kR ?_
 first | refine W.seq ?_ | refine CodeP.seqW mixedP ?_
 refine W.rg ?_;obtain⟨w8,hw8,h⟩:=qb h;refine WO.ck 1 (F:=18) (l:=[l94 none a1]) (C:=[]) (r:=l54 (some 1) w8) (VF a1 w8 hw8) ?_;obtain⟨w9,hw9,h⟩:=qb h;refine WO.ck 1 (F:=19) (l:=[l41 none a2]) (C:=[]) (r:=l41 (some 1) w9) (Yl a2 w9 hw9) ?_;obtain⟨w10,hw10,h⟩:=qb h;refine WO.ck 1 (F:=55) (l:=[l54 none w8,l41 none w9,.agg [I6 w6.ql,I6 w6.qd.qc,l3 none w6.qd.qa,l77 none w6.qj]]) (C:=[]) (r:=.tup [.bool w10.1,I6 w10.2]) (qav fuel w8 w9 w6 w10 hw10) ?_
 first
  | refine WO.fin [0,1,7,8,9] [] [] [] (e2:=[(0,l94 none a1),(1,l41 none a2),(7,.ptr (.agg [I6 w6.ql,I6 w6.qd.qc,l3 none w6.qd.qa,l77 none w6.qj])),(8,.bool w10.1),(9,I6 w10.2)]) kR (fun _ h=>h) ?_
  | refine WO.finP [0,1,7,8,9] [] [] [] (e2:=[(0,l94 none a1),(1,l41 none a2),(7,.ptr (.agg [I6 w6.ql,I6 w6.qd.qc,l3 none w6.qd.qa,l77 none w6.qj])),(8,.bool w10.1),(9,I6 w10.2)]) kR ?_
 first | refine W.seq ?_ | refine CodeP.seqW mixedP ?_
 refine W.rg ?_;obtain⟨w12,hw12,h⟩:=qb h;refine WO.ck 1 (F:=18) (l:=[l94 none a1]) (C:=[]) (r:=l54 (some 1) w12) (VF a1 w12 hw12) ?_;obtain⟨w13,hw13,h⟩:=qb h;refine WO.ck 1 (F:=19) (l:=[l41 none a2]) (C:=[]) (r:=l41 (some 1) w13) (Yl a2 w13 hw13) ?_;obtain⟨w14,hw14,h⟩:=qb h;refine WO.ck 0 (F:=17) (l:=[l54 none w12,l41 none w13]) (C:=[]) (r:=.tup [l41 none w14.1,I6 w14.2]) (qau fuel w12 w13 w14 hw14) ?_
 first
  | refine WO.fin [0,1,7,8,9,10,11] [] [] [] (e2:=[(0,l94 none a1),(1,l41 none a2),(7,.ptr (.agg [I6 w6.ql,I6 w6.qd.qc,l3 none w6.qd.qa,l77 none w6.qj])),(8,.bool w10.1),(9,I6 w10.2),(10,l41 none w14.1),(11,I6 w14.2)]) kR (fun _ h=>h) ?_
  | refine WO.finP [0,1,7,8,9,10,11] [] [] [] (e2:=[(0,l94 none a1),(1,l41 none a2),(7,.ptr (.agg [I6 w6.ql,I6 w6.qd.qc,l3 none w6.qd.qa,l77 none w6.qj])),(8,.bool w10.1),(9,I6 w10.2),(10,l41 none w14.1),(11,I6 w14.2)]) kR ?_
 first | refine W.seq ?_ | refine CodeP.seqW mixedP ?_
 first | refine W.seq ?_ | refine CodeP.seqW mixedP ?_
 let z0:=fun t=>EN ((0,l94 none a1)::(1,l41 none a2)::(7,.ptr (.agg [I6 w6.ql,I6 w6.qd.qc,l3 none w6.qd.qa,l77 none w6.qj]))::t);let z1:=fun t=>z0 ((8,.bool w10.1)::(9,I6 w10.2)::(10,l41 none w14.1)::(11,I6 w14.2)::t);refine W.join (σ:=(Bool)) (fun s=>z1 [(38,.bool s)]) (fun s=>(Je fuel a1 a2 w6 w10 w14) s=some r) (fun v17 h=>?_) (fun hK16=>?_)
 .unfold Je at h;refine W.ch v17 h (fun h=>?_) (fun h=>?_)
  .first | refine W.seq ?_ | refine CodeP.seqW mixedP ?_
   refine W.join (σ:=(Bool)) (fun s=>[(6,.bool s)]) (fun s=>(JK) s=some r) (fun v21 h=>?_) (fun hK18=>?_)
   .unfold JK at h
    first
     | refine W.weak [6] [] [] [] (env':=[(6,.bool v21)]) kR ?_
     | refine CodeP.weakP [6] [] [] [] (env':=[(6,.bool v21)]) kR ?_
    cases h;exact W.rr
   refine W.rg ?_;let z2:=fun t=>z1 ((38,.bool v17)::(39,I6 w10.2)::(40,I6 w14.2)::t);refine WO.bh 4 (fun b=>z2 [(41,.bool b),(42,.bool b)]) (w10.2 == w14.2) h (fun h=>?_) (fun h=>?_)
   .let z3:=fun t=>z2 ((41,.bool true)::(42,.bool true)::(43,I6 w10.2)::t);refine WO.bh 3 (fun b=>z3 [(44,.bool b),(45,.bool b)]) (w10.2 == 2) h (fun h=>?_) (fun h=>?_)
    .obtain⟨w19,hw19,h⟩:=qb h;refine WO.ck 5 (F:=21) (l:=[]) (C:=[]) (r:=.bool w19) (QN fuel w19 hw19) ?_
     first
      | refine WO.fin [6] [] [] [] (e2:=[(6,.bool w19)]) kR (fun _ h=>h) ?_
      | refine WO.finP [6] [] [] [] (e2:=[(6,.bool w19)]) kR ?_
     exact hK18 w19 h
    refine WO.bh 5 (fun b=>z3 [(44,.bool false),(45,.bool false),(46,I6 w10.2),(47,.bool b),(48,.bool b),(49,.bool b),(50,.bool b)]) (w10.2 == 8) h (fun h=>?_) (fun h=>?_)
    .obtain⟨w20,hw20,h⟩:=qb h;refine WO.ck 0 (F:=21) (l:=[]) (C:=[]) (r:=.bool w20) (QN fuel w20 hw20) ?_
     first
      | refine WO.fin [6] [] [] [] (e2:=[(6,.bool w20)]) kR (fun _ h=>h) ?_
      | refine WO.finP [6] [] [] [] (e2:=[(6,.bool w20)]) kR ?_
     exact hK18 w20 h
    first
     | refine WO.fin [6] [] [] [] (e2:=[(6,.bool false)]) kR (fun _ h=>h) ?_
     | refine WO.finP [6] [] [] [] (e2:=[(6,.bool false)]) kR ?_
    exact hK18 false h
   first
    | refine WO.fin [6] [] [] [] (e2:=[(6,.bool false)]) kR (fun _ h=>h) ?_
    | refine WO.finP [6] [] [] [] (e2:=[(6,.bool false)]) kR ?_
   exact hK18 false h
  refine W.skip ?_
  first
   | refine W.weak [0,1,7,8,10] [] [] [] (env':=[(0,l94 none a1),(1,l41 none a2),(7,.ptr (.agg [I6 w6.ql,I6 w6.qd.qc,l3 none w6.qd.qa,l77 none w6.qj])),(8,.bool w10.1),(10,l41 none w14.1)]) kR ?_
   | refine CodeP.weakP [0,1,7,8,10] [] [] [] (env':=[(0,l94 none a1),(1,l41 none a2),(7,.ptr (.agg [I6 w6.ql,I6 w6.qd.qc,l3 none w6.qd.qa,l77 none w6.qj])),(8,.bool w10.1),(10,l41 none w14.1)]) kR ?_
  first | refine W.seq ?_ | refine CodeP.seqW mixedP ?_
  first | refine W.seq ?_ | refine CodeP.seqW mixedP ?_
  refine W.join (σ:=(Bool×Bool)) (fun s=>z0 [(8,.bool s.1),(60,.bool s.2)]) (fun s=>(jl fuel a1 a2 w6) s.1 s.2=some r) (fun s h=>?_) (fun hK23=>?_)
  .obtain⟨v25,v26⟩:=s;have h:(jl fuel a1 a2 w6) v25 v26=some r:=h;unfold jl at h;refine W.ch v26 h (fun h=>?_) (fun h=>?_)
   .first | refine W.seq ?_ | refine CodeP.seqW mixedP ?_
    first
     | refine W.regT [6] [] [] [] (e2:=[(6,.bool false)]) kR kR (fun _ h=>h) ?_
     | refine W.regPT [6] [] [] [] (e2:=[(6,.bool false)]) kR kR ?_
    first
     | refine W.weak [6] [] [] [] (env':=[(6,.bool false)]) kR ?_
     | refine CodeP.weakP [6] [] [] [] (env':=[(6,.bool false)]) kR ?_
    cases h;exact W.rr
   refine W.skip ?_
   first
    | refine W.weak [0,1,7,8] [] [] [] (env':=[(0,l94 none a1),(1,l41 none a2),(7,.ptr (.agg [I6 w6.ql,I6 w6.qd.qc,l3 none w6.qd.qa,l77 none w6.qj])),(8,.bool v25)]) kR ?_
    | refine CodeP.weakP [0,1,7,8] [] [] [] (env':=[(0,l94 none a1),(1,l41 none a2),(7,.ptr (.agg [I6 w6.ql,I6 w6.qd.qc,l3 none w6.qd.qa,l77 none w6.qj])),(8,.bool v25)]) kR ?_
   obtain⟨w29,hw29,h⟩:=qb h;obtain⟨w30,hw30,h⟩:=qb h;obtain⟨T,hT,h⟩:=qkM h;refine CodeP.seq (CodeP.regionS mixedP kR ?_);refine qlA T (fun w31:ruProof×Int=>[(0,l94 none a1),(1,l41 none a2),(7,.ptr (.agg [I6 w6.ql,I6 w6.qd.qc,l3 none w6.qd.qa,l77 none w6.qj])),(8,.bool v25),(9,I6 w31.2),(12,.box [I6 w31.1.ql,I6 w31.1.qd.qc,l3 none w31.1.qd.qa,l77 none w31.1.qj]),(61,.tup [.agg [I6 w31.1.ql,I6 w31.1.qd.qc,l3 none w31.1.qd.qa,l77 none w31.1.qj],I6 w31.2]),(62,l94 none a1),(63,l54 (some 63) w29),(64,l41 none a2),(65,l41 (some 65) w30),(66,.ptr (.agg [I6 w6.qd.qc,l3 none w6.qd.qa])),(67,.agg [I6 w6.qd.qc,l3 none w6.qd.qa]),(68,.tup [.agg [I6 w31.1.ql,I6 w31.1.qd.qc,l3 none w31.1.qd.qa,l77 none w31.1.qj],I6 w31.2]),(69,.agg [I6 w31.1.ql,I6 w31.1.qd.qc,l3 none w31.1.qd.qa,l77 none w31.1.qj]),(70,I6 w31.2)]) (fun S hfin=>?_) (fun w31 hw31=>?_)
   .exact AnyS.anyG 6 (fun w31=>.tup [.agg [I6 w31.1.ql,I6 w31.1.qd.qc,l3 none w31.1.qd.qa,l77 none w31.1.qj],I6 w31.2]) mixedP hT hfin (.cons (gcall 1 (F:=18) (l:=[l94 none a1]) (C:=[]) (r:=l54 (some 1) w29) (VF a1 w29 hw29)) (.cons (gcall 3 (F:=19) (l:=[l41 none a2]) (C:=[]) (r:=l41 (some 1) w30) (Yl a2 w30 hw30)) .nil)) (fun w31=>(.cons (gcall 1 (F:=18) (l:=[l94 none a1]) (C:=[]) (r:=l54 (some 1) w29) (VF a1 w29 hw29)) (.cons (gcall 3 (F:=19) (l:=[l41 none a2]) (C:=[]) (r:=l41 (some 1) w30) (Yl a2 w30 hw30)) .nil)))
   replace h:=h w31 hw31
   first
    | refine WO.fin [0,1,7,8,9,12] [12] [] [] (e2:=[(0,l94 none a1),(1,l41 none a2),(7,.ptr (.agg [I6 w6.ql,I6 w6.qd.qc,l3 none w6.qd.qa,l77 none w6.qj])),(8,.bool v25),(9,I6 w31.2),(12,.ptr (.agg [I6 w31.1.ql,I6 w31.1.qd.qc,l3 none w31.1.qd.qa,l77 none w31.1.qj]))]) kR (fun _ h=>h) ?_
    | refine WO.finP [0,1,7,8,9,12] [12] [] [] (e2:=[(0,l94 none a1),(1,l41 none a2),(7,.ptr (.agg [I6 w6.ql,I6 w6.qd.qc,l3 none w6.qd.qa,l77 none w6.qj])),(8,.bool v25),(9,I6 w31.2),(12,.ptr (.agg [I6 w31.1.ql,I6 w31.1.qd.qc,l3 none w31.1.qd.qa,l77 none w31.1.qj]))]) kR ?_
   refine CodeP.of mixedP<|W.seq<|W.seq ?_;let z4:=fun t=>z0 ((8,.bool v25)::(9,I6 w31.2)::(12,.ptr (.agg [I6 w31.1.ql,I6 w31.1.qd.qc,l3 none w31.1.qd.qa,l77 none w31.1.qj]))::(72,.bool (w31.2 != 0))::t);refine W.rt (e2:=z4 []) ?_;refine W.ch (w31.2 != 0) h (fun h=>?_) (fun h=>?_)
   .refine W.seq<|W.join (σ:=(Bool)) (fun s=>[(6,.bool s)]) (fun s=>(Jd) s=some r) (fun v38 h=>?_) (fun hK34=>?_)
    .unfold Jd at h;refine W.wk (e:=[(6,.bool v38)]) ?_;cases h;exact W.rr
    refine W.rg ?_;let z5:=fun t=>z4 ((73,.bool v25)::t);refine WO.bh 3 (fun b=>z5 [(74,.bool b),(75,.bool b)]) (!v25) h (fun h=>?_) (fun h=>?_)
    .let z6:=fun t=>z5 ((74,.bool true)::(75,.bool true)::(76,I6 w31.2)::t);refine WO.bh 3 (fun b=>z6 [(77,.bool b),(78,.bool b)]) (w31.2 == 2) h (fun h=>?_) (fun h=>?_)
     .obtain⟨w35,hw35,h⟩:=qb h;exact WO.ck 9 (F:=21) (l:=[]) (C:=[]) (r:=.bool w35) (QN fuel w35 hw35)<|WO.fn (hK34 w35 h)
     let z7:=fun t=>z6 ((77,.bool false)::(78,.bool false)::(79,I6 w31.2)::t);refine WO.bh 4 (fun b=>z7 [(80,.bool b),(81,.bool b),(82,.bool b)]) (w31.2 == 5) h (fun h=>?_) (fun h=>?_)
     .obtain⟨w36,hw36,h⟩:=qb h;exact WO.ck 5 (F:=21) (l:=[]) (C:=[]) (r:=.bool w36) (QN fuel w36 hw36)<|WO.fn (hK34 w36 h)
     refine WO.bh 5 (fun b=>z7 [(80,.bool false),(81,.bool false),(82,.bool false),(83,I6 w31.2),(84,.bool b),(85,.bool b),(86,.bool b),(87,.bool b)]) (w31.2 == 3) h (fun h=>?_) (fun h=>?_)
     .obtain⟨w37,hw37,h⟩:=qb h;exact WO.ck 0 (F:=21) (l:=[]) (C:=[]) (r:=.bool w37) (QN fuel w37 hw37)<|WO.fn (hK34 w37 h)
     exact WO.fn (hK34 false h)
    exact WO.fn (hK34 false h)
   refine W.sw (e:=z0 [(8,.bool v25),(12,.ptr (.agg [I6 w31.1.ql,I6 w31.1.qd.qc,l3 none w31.1.qd.qa,l77 none w31.1.qj]))]) ?_;refine W.sr ?_;obtain⟨w40,hw40,h⟩:=qb h;refine WO.ck 1 (F:=18) (l:=[l94 none a1]) (C:=[]) (r:=l54 (some 1) w40) (VF a1 w40 hw40) ?_;obtain⟨w41,hw41,h⟩:=qb h;refine WO.ck 1 (F:=19) (l:=[l41 none a2]) (C:=[]) (r:=l41 (some 1) w41) (Yl a2 w41 hw41) ?_;obtain⟨w42,hw42,h⟩:=qb h;refine WO.ck 1 (F:=55) (l:=[l54 none w40,l41 none w41,.agg [I6 w31.1.ql,I6 w31.1.qd.qc,l3 none w31.1.qd.qa,l77 none w31.1.qj]]) (C:=[]) (r:=.tup [.bool w42.1,I6 w42.2]) (qav fuel w40 w41 w31.1 w42 hw42) ?_;let z8:=fun t=>EN ((7,.ptr (.agg [I6 w6.ql,I6 w6.qd.qc,l3 none w6.qd.qa,l77 none w6.qj]))::(8,.bool v25)::(9,I6 w42.2)::(12,.ptr (.agg [I6 w31.1.ql,I6 w31.1.qd.qc,l3 none w31.1.qd.qa,l77 none w31.1.qj]))::t);refine WO.fn (e2:=z8 [(13,.bool w42.1)]) ?_;refine W.seq<|W.join (σ:=(Bool)) (fun s=>[(6,.bool s)]) (fun s=>(Jc) s=some r) (fun v50 h=>?_) (fun hK43=>?_)
   .unfold Jc at h;refine W.wk (e:=[(6,.bool v50)]) ?_;cases h;exact W.rr
   refine W.rg<|WO.bh 2 (fun b=>z8 [(13,.bool b),(99,.bool b),(100,.bool b)]) w42.1 h (fun h=>?_) (fun h=>?_)
   .let z9:=fun t=>z8 ((13,.bool true)::(99,.bool true)::(100,.bool true)::(101,I6 w42.2)::t);refine WO.bh 4 (fun b=>z9 [(102,.bool b),(103,.bool b),(104,.bool b)]) (w42.2 == 0) h (fun h=>?_) (fun h=>?_)
    .let z10:=fun t=>z9 ((102,.bool true)::(103,.bool true)::(104,.bool true)::(105,.bool v25)::t);refine WO.bh 3 (fun b=>z10 [(106,.bool b),(107,.bool b)]) (!v25) h (fun h=>?_) (fun h=>?_)
     .obtain⟨w44,hw44,h⟩:=qb h;exact WO.ck 10 (F:=21) (l:=[]) (C:=[]) (r:=.bool w44) (QN fuel w44 hw44)<|WO.fn (hK43 w44 h)
     obtain⟨w45,hw45,h⟩:=qb h;refine WO.ck 1 (F:=49) (l:=[.agg [I6 w31.1.ql,I6 w31.1.qd.qc,l3 none w31.1.qd.qa,l77 none w31.1.qj]]) (C:=[]) (r:=.agg [I6 w45.ql,I6 w45.qd.qc,l3 none w45.qd.qa,l85 none w45.qj]) (UG fuel w31.1 w45 hw45) ?_;obtain⟨w46,hw46,h⟩:=qb h;refine WO.ck 0 (F:=51) (l:=[.agg [I6 w45.ql,I6 w45.qd.qc,l3 none w45.qd.qa,l85 none w45.qj],.int .i64 40]) (C:=[]) (r:=I6 w46) (DB fuel w45 40 w46 hw46) ?_;obtain⟨w47,hw47,h⟩:=qb h;refine WO.ck 1 (F:=49) (l:=[.agg [I6 w6.ql,I6 w6.qd.qc,l3 none w6.qd.qa,l77 none w6.qj]]) (C:=[]) (r:=.agg [I6 w47.ql,I6 w47.qd.qc,l3 none w47.qd.qa,l85 none w47.qj]) (UG fuel w6 w47 hw47) ?_;obtain⟨w48,hw48,h⟩:=qb h;refine WO.ck 0 (F:=51) (l:=[.agg [I6 w47.ql,I6 w47.qd.qc,l3 none w47.qd.qa,l85 none w47.qj],.int .i64 40]) (C:=[]) (r:=I6 w48) (DB fuel w47 40 w48 hw48)<|WO.bh 4 (fun b=>z10 [(106,.bool false),(107,.bool false),(108,.agg [I6 w31.1.ql,I6 w31.1.qd.qc,l3 none w31.1.qd.qa,l77 none w31.1.qj]),(109,.agg [I6 w45.ql,I6 w45.qd.qc,l3 none w45.qd.qa,l85 none w45.qj]),(110,I6 w46),(111,.agg [I6 w6.ql,I6 w6.qd.qc,l3 none w6.qd.qa,l77 none w6.qj]),(112,.agg [I6 w47.ql,I6 w47.qd.qc,l3 none w47.qd.qa,l85 none w47.qj]),(113,I6 w48),(114,.bool b),(115,.bool b),(116,.bool b),(117,.bool b)]) (decide (w46<=w48)) h (fun h=>?_) (fun h=>?_)
     .obtain⟨w49,hw49,h⟩:=qb h;exact WO.ck 0 (F:=21) (l:=[]) (C:=[]) (r:=.bool w49) (QN fuel w49 hw49)<|WO.fn (hK43 w49 h)
     exact WO.fn (hK43 false h)
    exact WO.fn (hK43 false h)
   exact WO.fn (hK43 false h)
  refine W.rg<|WO.bh 2 (fun b=>z0 [(8,.bool b),(10,l41 none w14.1),(53,.bool b),(54,.bool b)]) w10.1 h (fun h=>?_) (fun h=>?_)
  .obtain⟨w24,hw24,h⟩:=qb h;exact WO.ck 3 (F:=27) (l:=[l41 none w14.1,.agg [I6 w6.qd.qc,l3 none w6.qd.qa]]) (C:=[]) (r:=.bool w24) (qcF w14.1 w6.qd w24 hw24)<|WO.fn (hK23 (true,(!w24)) h)
  exact WO.fn (hK23 (false,false) h)
 refine W.rg<|WO.bh 3 (fun b=>z1 [(33,I6 w10.2),(34,.bool b),(35,.bool b)]) (w10.2 != 0) h (fun h=>?_) (fun h=>?_)
 .exact WO.fn (hK16 true h)
 exact WO.fn (hK16 (w14.2 != 0) h)
end Go.AM
namespace Go.AM
open Go.Proofs Go.Sort
open Classical
variable {l:LN} {facts:LG}
theorem qfG {ar:Int->Nat} {L:LH} (hL:∀ r,r∈L->okL ar r) {G X:rufact->Prop} (hX:LeastR L X G X) (hP:okW X):∀ (d:Nat) (f:rufact) (n:Nat),Cost L G X d f n->X f
 | 0,f,n,h=>h.elim
 | d+1,f,n,h=>by
  rw[Cost]at h
  rcases h with ⟨a,_⟩ | ⟨r,hr,w,w1,w2,w3,w4,s,w5,w6⟩
  .exact hX.sub f a
  have hrl:=hL r hr
  have hpos:∀ (gs:LI) (s:Nat),CostsL (Cost L G X d) gs s->∀ g,g∈gs->X g:=by
   intro gs
   induction gs with
   | nil=>intro s _ g hg;simp at hg
   | cons y gs ih =>
    intro s hs g hg;obtain⟨m,t,a,b,_⟩:=hs
    rcases List.mem_cons.1 hg with rfl | hg
    .exact qfG hL hX hP d _ m a
    exact ih t b g hg
  have hbw:∀ x,x∈r.qe->bnd w x.qg.qa:=fun x hx=>w2 _ (A3 _ (List.mem_map.2 ⟨x,hx,rfl⟩))
  obtain⟨u,u1,u2⟩:=Zq (P:=X) r.qe v0 w (fun x hx=>(hrl.body x hx).1) V8_0 w1 (Ext.zero w) hbw fun x hx=>hpos _ _ w5 _ (List.mem_map.2 ⟨x,hx,rfl⟩)
  obtain⟨c1,c2⟩:=hrl.inst hP u1
  have hge:∀ a,a∈atomsU r->groundF u a=groundF w a:=fun a ha=>(u2.groundF (c2 a ha)).symm
  have:=hX.closed r hr u u1 fun x hx hn hy=>w4 x hx hn (by rw[<- hge _ (A3 _ (List.mem_map.2 ⟨x,hx,rfl⟩))];exact hy)
  rw[hge _ (A6 ..),w3]at this;exact this
theorem qdt {fuel:Nat} (hf:400<=fuel) (hl:okRules l) (hv:VR l facts) {p:ruProof} (ho:okT p) (hh:hT p<=50) {out:LB} (hn:NT out) (h1:Qc fuel (l.map toR) facts=some (out,true)) :
  Ym fuel (l.map toR) facts p=some (decide (nT p<=500/\hT p<=40/\HoldsN (l.map toR) (fun g=>g∈facts.map toF) (memO out) 50 p),0):=by
 have hv4:=mvalid (by omega:4<=fuel) hl hv.1 hv.2.2.2.1 (m:=facts) (by have:=hv.2.1;omega) fun f hf=>by have:=(hv.2.2.1 f hf).2.1.2;omega
 obtain⟨gv,S0,g1,g2,g3⟩:=VQ (by have:=hv.2.1;omega:facts.length<=100) hv.2.2.1 hv.facts_ar
 have eG:memO gv=fun g=>g∈facts.map toF:=funext fun g=>propext (by
  have e:=qdb (by have:=hv.2.1;omega:facts.length<=100) hv.2.2.1;rw[g1]at e;show g∈gv.map A0↔_;rw[Option.some.inj e,NT.empty.add.2.1]
  simp)
 have hL:=hv.okL;unfold Ym;rw[hv4,dT hv];simp only[A1,A7,cN];rw[h1];simp only[A1,A7,cN];have hs:=qef fuel p 500 40 oM ho oM oM;rw[show jD fuel p 500 40=_ from hs];simp only[A1];unfold YU;by_cases hc:nT p<=500/\hT p<=40
 .rw[if_pos hc,dT (by omega),cT,g1];simp only[A1]
  rw[qcP (fun r hr=>by
   obtain⟨q,hq,rfl⟩:=List.mem_map.1 hr
   exact (hL q hq).1) g3.nt hn 50 fuel p hh (by omega) ho]
  simp only[A1];rw[eG]
  congr 2
  exact decide_eq_decide.2 ⟨fun h=>⟨hc.1,hc.2,h⟩,fun h=>h.2.2⟩
 rw[if_neg hc,dF (by omega),cN,dF (fun h=>hc ⟨h.1,h.2.1⟩)]
theorem qcj {fuel:Nat} (hf:400<=fuel) {p:qr} (hl:okRules l) (hfa:okFacts facts) (hp:okQ p):XN fuel l facts p=some true:=by
 obtain⟨n,rfl⟩:∃ n,fuel=n+30:=⟨fuel - 30,by omega⟩;have haw:=qkj n;obtain⟨q,m,e1,e2,e3,e4⟩:=qhb 42 (n+30) p 510 oM oM hp oM oM;have hof:Ns l=some ((l.take 12).map cvR):=qmk hl.1 (fun r hr=>(hl.2 r hr).2.1);have hfv:Yg facts=some ((facts.take 26).map cvF):=qkc hfa.1;unfold XN Dj;rw[show js (n+30) p 42 510=some (q,(m:Int)) from e1];simp only[A1];rw[hof,hfv];simp only[A1];by_cases hv:VR l facts
 .rw[qgV hv,qge hv]
  have hv4:=mvalid (by omega:4<=n+30) hl hv.1 hv.2.2.2.1 (m:=facts) (by have:=hv.2.1;omega) fun f hf=>by have:=(hv.2.2.1 f hf).2.1.2;omega
  rcases qib (by omega:300<=n+30) hv.1 hv.okL (by have:=hv.2.1;omega) hv.2.2.1 hv.facts_ar with ⟨out,S,a1,a2,a3⟩ | ⟨a1,a2⟩
  .have hX:LeastR (l.map toR) (memO out) (fun g=>g∈facts.map toF) (memO out):=by
    rcases qhT (by omega:300<=n+30) hv.1 hv.okL (by have:=hv.2.1;omega) hv.2.2.1 hv.facts_ar with ⟨v,o,v1,v2,v3,m1,m2,m3,m4⟩ | ⟨m0,m1⟩
    .rw[a1]at m1;cases m1;exact m4
    rw[a1]at m1;cases m1
   have hL:∀ r,r∈l.map toR->okL (arVR l facts) r:=fun r hr=>by
    obtain⟨q,hq,rfl⟩:=List.mem_map.1 hr;exact hv.okL q hq
   have eX:memO out=setB S:=funext fun g=>propext (a3.same g)
   have hM:XH (n+30) (l.map toR) facts=some (sortF (apis out),0):=by
    unfold XH;rw[hv4,dT hv];simp only[A1,A7,cN];rw[a1];simp only[A1,A7,cN];rw[qfm a3.nt fun g hg=>(a3.ar g hg).1];rfl
   have hlen:out.length<=252:=by
    have:=YO a3.nt.n fun g hg=>(a3.ar g hg).1
    simpa using this
   rw[qdt (by omega) hl hv e2 (by omega) a3.nt a1,hM];simp only[A1];rw[show ((0:Int) != 0)=false from rfl,cN];unfold Je;rw[cN]
   have hb:∀ b,b=decide (nT q<=500/\hT q<=40/\HoldsN (l.map toR) (fun g=>g∈facts.map toF) (memO out) 50 q)->(bif b then ((Zo (sortF (apis out)) q.qd).bind fun w24=>((jl (n+30) l facts q) true (!w24))) else ((jl (n+30) l facts q) false false))=some true:=fun b hb=>by
    have key:jl (n+30) l facts q b false=some true:=by
     unfold jl;rw[cN,hof,hfv];simp only[A1];rw[qgV hv,qge hv];by_cases hg:groundP q.qd
     .refine qgk _ (qjI oM hl hv hg a1 a3) fun w hw=>?_
      rcases hw with ⟨h1,rfl⟩ | ⟨h1,⟨h2,rfl⟩ | ⟨d,k,p',h2,h3,h4,h5,h6,h7,h8,h9,t1,t2,t3,t4,rfl⟩⟩
      .
       have hbf:b=false:=by
        rw[hb]
        refine dF fun h=>h1 ?_
        rw[<- eX];exact qfG hL hX a3.ar.ok _ _ _ (Vn 50 q h.2.2)
       rw[show ((5:Int) != 0)=true from rfl,cT,hbf,C7,cT,show ((5:Int) == 2)=false from rfl,cN,show ((5:Int) == 5)=true from rfl,cT,haw];rfl
      
      have hbf:b=false:=by
       rw[hb]
       refine dF fun h=>?_
       obtain⟨r,r1,r2⟩:=Nh (by omega:100<=n+30) (by have:=hv.1;omega) hv.okL (by have:=hv.2.1;omega:facts.length<=100) hv.2.2.1 a3.len hg;rw[h2]at r1;obtain rfl:=Option.some.inj r1;have hc:=(Vn 50 q h.2.2).le h.2.1;rw[eX]at hc
       rcases r2 with ⟨_,hno⟩ | ⟨d',k',e,_⟩
       .have:=hno _ hc;have:=h.1;omega
       have:=congrArg A0 e;simp only at this;omega
      rw[show ((3:Int) != 0)=true from rfl,cT,hbf,C7,cT,show ((3:Int) == 2)=false from rfl,cN,show ((3:Int) == 5)=false from rfl,cN,show ((3:Int) == 3)=true from rfl,cT,haw];rfl
      
      have hck:=qdt (by omega:400<=n+30) hl hv h5 oM a3.nt a1;rw[dT ⟨by omega,by omega,by rw[eX];exact h9.le (by omega)⟩]at hck;rw[show ((0:Int) != 0)=false from rfl,cN];simp only[A1];rw[hck];simp only[A1,cT];rw[show ((0:Int) == 0)=true from rfl,cT]
      cases hbv:b with
      | false =>
       rw[C7,cT,haw];rfl
      | true =>
       have hq:=of_decide_eq_true (hb.symm.trans hbv);rw[A7,cN,t1];simp only[A1];rw[t3];simp only[A1];rw[qfv (n+30) q (by omega) e2];simp only[A1];have hd:=Dt (n+30) q 40 oM e2 oM;rw[if_pos hq.2.1]at hd;rw[show Qo (n+30) (ownT q) 40=_ from hd];simp only[A1];obtain⟨r,r1,r2⟩:=Nh (by omega:100<=n+30) (by have:=hv.1;omega) hv.okL (by have:=hv.2.1;omega:facts.length<=100) hv.2.2.1 a3.len hg;rw[h2]at r1;obtain rfl:=Option.some.inj r1;have hc:=Vn 50 q hq.2.2;rw[eX]at hc
       have hle:((d+1:Nat):Int)<=(hT q:Int):=by
        rcases r2 with ⟨e,_⟩ | ⟨d',k',e,q1,q2,q3,q4⟩
        .have:=congrArg A0 e;simp only at this;omega
        have e1:=congrArg A0 e;simp only at e1
        have:d'=d:=by omega
        subst this
        rcases A5 d' (hT q) with h | h
        .omega
        have:=q3 _ (hc.le h);have:=hq.1;omega
       rw[dT hle,cT,haw];rfl
     .have h2:=VP (by omega:4<=n+30) q.qd;rw[dF hg]at h2;rw[dT hv]at hv4
      refine qgk _ (qlP hv4 h2 rfl) fun w hw=>?_
      subst hw
      have hbf:b=false:=by
       rw[hb]
       exact dF fun h=>hg h.2.2.ground
      rw[show ((2:Int) != 0)=true from rfl,cT,hbf,C7,cT,show ((2:Int) == 2)=true from rfl,cT,haw];rfl
    cases hbv:b with
    | false =>
     rw[cN];rw[hbv]at key;exact key
    | true =>
     have hq:=of_decide_eq_true (hb.symm.trans hbv);have hg:=hq.2.2.ground;have hin:q.qd∈sortF (apis out):=qma.2 ⟨toF q.qd,qfG hL hX a3.ar.ok _ _ _ (Vn 50 q hq.2.2),qhp hg⟩;rw[cT,qhu (qfU hlen) (qy (by have:=hg.2.1.2;omega)),dT hin];simp only[A1,A7];rw[hbv]at key;exact key
   exact hb _ rfl
  .have hC:Ym (n+30) (l.map toR) facts q=some (false,8):=by
    unfold Ym;rw[hv4,dT hv];simp only[A1,A7,cN];rw[a1];rfl
   have hM:XH (n+30) (l.map toR) facts=some ([],8):=by
    unfold XH;rw[hv4,dT hv];simp only[A1,A7,cN];rw[a1];rfl
   rw[hC,hM];simp only[A1];rw[show ((8:Int) != 0)=true from rfl,cT];unfold Je;rw[cT,beq_self_eq_true,cT,show ((8:Int) == 2)=false from rfl,cN,cT,haw];rfl
 .have hC:Ym (n+30) ((l.take 12).map cvR) ((facts.take 26).map cvF) q=some (false,2):=by
   unfold Ym;rw[DN (by omega) hl,dF hv];rfl
  have hM:XH (n+30) ((l.take 12).map cvR) ((facts.take 26).map cvF)=some ([],2):=by
   unfold XH;rw[DN (by omega) hl,dF hv];rfl
  rw[hC,hM];simp only[A1];rw[show ((2:Int) != 0)=true from rfl,cT];unfold Je;rw[cT,beq_self_eq_true,cT,cT,haw];rfl
theorem DS (fuel:Nat) (a1:LN) (a2:LG) (a3:qr) (r:Bool) (h:XN fuel a1 a2 a3=some r):Run Try.prog (.call 16 [l94 none a1,l41 none a2,jv a3] (.bool r)):=by
 rw[Qm];exact .ext0 (qak fuel a1 a2 a3 r h)
end Go.AM
