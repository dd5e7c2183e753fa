/- s -/
import Derived.Test.YtdghpfejmlpjhaaASimE
import Derived.Great.BuildSlice
import Derived.Lib.ConvBytes
set_option linter.unusedVariables false
set_option linter.unusedSimpArgs false
namespace Go.AM
open Go.RowKit
section
variable {bs:Base} {n:Nat} {M:Mem} {O:Gh} {env:Env} {a:Act} {w:World} {P:Program}
def unAgg (p:Nat×AV):AV:=match p.2 with | .agg cs=>.agg (cs.map AV.strip) | x=>x.strip
theorem ZP (p:Nat×AV):(unAgg p).cells=p.2.cells.map AV.strip:=by
 obtain⟨i,x⟩:=p;cases x <;> rfl
theorem JS {x:AV} (h:x.one=true):x.strip.one=true:=by
 cases x <;> first | rfl | cases h
theorem Ug (P:Program) (e:TypeId) (x:AV):nilE P e x=x∨x=.nils∧∃ e' k',nilE P e x=.lst e' k' none []:=by
 cases x with
 | nils =>
  simp only[nilE]
  split
  ·exact .inr ⟨trivial,_,_,rfl⟩
  ·exact .inl rfl
 | _=>exact .inl rfl
theorem qao (P:Program) (e:TypeId):∀ (xs:List AV),(flat (xs.map (nilE P e))).length=(flat xs).length∧∀ (j:Nat) c,(flat (xs.map (nilE P e)))[j]? = some c→∃ c0,(flat xs)[j]? = some c0∧(c=c0∨c0=.nils∧∃ e' k',c=.lst e' k' none [])
 | []=>⟨rfl,fun j c h=>by simp[flat]at h⟩
 | x::xs=>by
  obtain⟨ih1,ih2⟩:=qao P e xs;have hx:flat ((x::xs).map (nilE P e))=(nilE P e x).cells++flat (xs.map (nilE P e)):=rfl;have hx2:flat (x::xs)=x.cells++flat xs:=rfl;rw[hx,hx2]
  have hlen:(nilE P e x).cells.length=x.cells.length:=by
   rcases Ug P e x with h | ⟨rfl,e',k',h⟩ <;> rw[h] <;> rfl
  refine⟨by simp[hlen,ih1],fun j c hj=>?_⟩
  by_cases hl:j<x.cells.length
  ·rw[List.getElem?_append_left (by omega)]at hj;rw[List.getElem?_append_left hl]
   rcases Ug P e x with h | ⟨rfl,e',k',h⟩
   ·rw[h]at hj;exact⟨c,hj,.inl rfl⟩
   ·rw[h]at hj
    obtain rfl:j=0:=by simp[AV.cells]at hl;omega
    cases hj;exact⟨.nils,rfl,.inr ⟨rfl,e',k',rfl⟩⟩
  ·rw[List.getElem?_append_right (by omega),hlen]at hj;rw[List.getElem?_append_right (by omega)];exact ih2 _ c hj
theorem R.nilsE {M:Mem} {e e' k:Nat} {xs:List AV} {v:Value} (h:R M (.lst e' k none xs) v):R M (.lst e' k none (xs.map (nilE P e))) v:=by
 generalize hx:AV.lst e' k none xs=x at h
 cases h with
 | lstn=>cases hx;exact .lstn _ _ _
 | lste=>cases hx;exact .lste _ _ _ _ _
 | lst us h1 h2 h3 h4 h5 =>
  cases hx;obtain⟨_,hf⟩:=qao P e xs
  have e1:xs.length=(xs.map (nilE P e)).length:=by rw[List.length_map]
  rw[e1]
  have hm:∀ y,y∈xs.map (nilE P e)→∃ x,x∈xs∧(y=x∨x=.nils∧∃ e' k',y=.lst e' k' none []):=by
   intro y hy;obtain⟨x,hx,rfl⟩:=List.mem_map.1 hy;exact⟨x,hx,Ug P e x⟩
  refine .lst us (by rw[← e1];exact h1) (fun y hy=>?_) (fun y hy=>?_) (fun j c hc=>?_) (fun j c hc=>?_)
  ·obtain⟨x,hx,rfl | ⟨rfl,e',k',rfl⟩⟩:=hm y hy
   ·exact h2 _ hx
   ·have:=h2 AV.nils hx;exact this
  ·obtain⟨x,hx,rfl | ⟨rfl,e',k',rfl⟩⟩:=hm y hy
   ·exact h3 _ hx
   ·rfl
  ·obtain⟨c0,q1,q2⟩:=hf j c hc;exact h4 j c0 q1
  ·obtain⟨c0,q1,rfl | ⟨rfl,e',k',rfl⟩⟩:=hf j c hc
   ·exact h5 j _ q1
   ·have:=h5 j _ q1;generalize us j=u at this;cases this;exact .lstn _ _ _
 | _=>cases hx
theorem QT (h:Inv bs n M O env a w) {o:Oper} {t len:Nat} {ps:Array (Nat×Operand)} (ho:o.op=.buildSlice t len ps) {l:List (Nat×AV)} (hl:parts? env ps=some l) {r:AV} (hr:Vw P t len l=some r) :
  ∃ (e k:Nat) (xs:List AV) (us:Array Value),r=.lst e k none xs∧(execOp a.eval o).run P w=.ok (.value (.slice (some ⟨w.heap.size,0,none⟩) xs.length xs.length)) (w.alloc (.cells us e))∧us.size=xs.length * k ∧
   R (addRow M w.heap.size us) (.lst e k none xs) (.slice (some ⟨w.heap.size,0,none⟩) xs.length xs.length)∧xs.length≤16777216:=by
 obtain⟨l1,l2⟩:=Vh h hl
 have he:execOp a.eval o=vS (Instr.buildSlice t len (ps.map fun (i,x)=>(i,a.eval x))):=by unfold execOp;rw[ho];rfl
 unfold Vw at hr
 split at hr
 case h_2=>cases hr
 rename_i e s hse;obtain⟨hu,hs⟩:=jK hse
 split at hr
 case h_2=>cases hr
 rename_i hc;cases hr;simp only[Bool.and_eq_true]at hc;obtain⟨⟨⟨⟨⟨c1,c2⟩,c3⟩,c4⟩,c5⟩,c6⟩:=hc;have c2:=Nat.eq_of_beq_eq_true c2;have c3:=Nat.le_of_ble_eq_true c3;have c5:0<s:=Nat.le_of_ble_eq_true c5;simp only[List.all_eq_true,Bool.and_eq_true]at c6
 obtain⟨ie,hie,hsz⟩:∃ ie,P.info? e=some ie∧ie.size=s:=by
  unfold tSize at hs
  cases hi:P.info? e with
  | none=>rw[hi]at hs;cases hs
  | some ie=>rw[hi]at hs;exact⟨ie,rfl,Option.some.inj hs⟩
 subst hsz
 obtain⟨z,hz⟩:∃ z,ie.zero=some z:=by
  rw[hie]at c1;simp only[Option.bind_some]at c1
  cases hz:ie.zero with
  | none=>rw[hz]at c1;cases c1
  | some z=>exact⟨z,rfl⟩
 by_cases c7:len=0
 ·subst c7;have hl0:l=[]:=List.eq_nil_of_length_eq_zero c2;subst hl0;have hps:ps=#[]:=Array.eq_empty_of_size_eq_zero (by simpa using l1.symm);subst hps;refine⟨e,ie.size,[],#[],rfl,?_,by simp,R.lste _ _ _ _ _,by simp⟩;rw[he];refine ZK ?_
  simp[Instr.buildSlice,run_underlying hu,sizeOf,typeInfo,hie,Instr.fill,newRow,Array.range_zero']
 have c7:0<len:=Nat.pos_of_ne_zero c7;have hfill:=UQ (s:=ie.size) l 0 [] (by simp) c4 (fun p hp=>⟨Nat.eq_of_beq_eq_true (c6 p hp).1,(by simpa using (c6 p hp).2)⟩);simp only[List.nil_append]at hfill;obtain⟨us,h1,h2⟩:=Ul (M:=M) (place:=fun i=>some (i * ie.size,ie.size)) (place':=fun i=>some (i * ie.size,ie.size)) (fun i q hq=>hq) l _ _
  ((Array.range (len * ie.size)).map (z.cells[· % z.cells.size]!)) _ l1
  (fun j p q hp hq=>by
   obtain⟨e1,e2⟩:=l2 j p q hp hq
   exact⟨e1,Yy e2 (by simpa using (c6 p (List.mem_of_getElem? hp)).2)⟩)
  ⟨by simp[c2],fun j c u hc hu=>by
   rw[List.getElem?_replicate]at hc
   split at hc
   ·cases hc;exact .top u
   ·cases hc⟩ hfill
 have hlen:(l.map unAgg).length=len:=by simp[c2]
 have hflat:flat (l.map unAgg)=l.flatMap fun p=>p.2.cells.map AV.strip:=by
  unfold flat;rw[List.flatMap_map];simp only[ZP]
 have hty:∀ x,x∈l.map unAgg→x.cells.length=ie.size:=by
  intro x hx;obtain⟨p,hp,rfl⟩:=List.mem_map.1 hx;rw[ZP]
  simpa using Nat.eq_of_beq_eq_true (c6 p hp).1
 have hsize:us.size=(l.map unAgg).length * ie.size:=by
  rw[← h2.1,← hflat,qW hty]
 have hll:((l.map unAgg).map (nilE P e)).length=(l.map unAgg).length:=by rw[List.length_map]
 suffices hmain:(execOp a.eval o).run P w=.ok (.value (.slice (some ⟨w.heap.size,0,none⟩) (l.map unAgg).length (l.map unAgg).length)) (w.alloc (.cells us e)) ∧
   R (addRow M w.heap.size us) (.lst e ie.size none (l.map unAgg)) (.slice (some ⟨w.heap.size,0,none⟩) (l.map unAgg).length (l.map unAgg).length)∧(l.map unAgg).length≤16777216 by
  refine⟨e,ie.size,(l.map unAgg).map (nilE P e),us,rfl,?_,by rw[hll];exact hsize,?_,by rw[hll];exact hmain.2.2⟩
  ·rw[hll];exact hmain.1
  ·rw[hll];exact hmain.2.1.nilsE
 refine⟨?_,?_,?_⟩
 ·rw[he,hlen];refine ZK ?_
  exact run_buildSlice w t e len _ us ie z hu hie hz (by omega) (by
   have:=Nat.mul_pos c7 c5
   omega) h1
 ·refine R.lst (fun j=>us.getD j undef) (Nat.le_refl _) hty (fun x hx=>?_) (fun j c hj=>?_) (fun j c hj=>?_)
  ·obtain⟨p,hp,rfl⟩:=List.mem_map.1 hx;rw[ZP];have:=(c6 p hp).2;simp only[List.all_map,List.all_eq_true]at this ⊢;intro y hy;exact JS (this y hy)
  ·rw[hflat]at hj;have hjl:=(List.getElem?_eq_some_iff.1 hj).1;rw[h2.1]at hjl;unfold addRow;rw[if_pos rfl]
   have hone:c.one=true:=by
    have hmem:=List.mem_of_getElem? hj;obtain⟨y,hy,hyc⟩:=List.mem_flatMap.1 hmem;obtain⟨z,hz,rfl⟩:=List.mem_map.1 hyc;exact JS ((by simpa using (c6 y hy).2:∀ x,x∈y.2.cells→x.one=true) z hz)
   have e1:us[0+j]? = some (us.getD j undef):=by simp[hjl]
   exact Jd e1 (QR ((h2.2 j c _ hj (by simp[hjl])).one hone))
  ·rw[hflat]at hj;have hjl:=(List.getElem?_eq_some_iff.1 hj).1;rw[h2.1]at hjl;refine (h2.2 j c _ hj ?_).mono (Yr h.cons us)
   simp[hjl]
 ·have:len≤len * ie.size:=Nat.le_mul_of_pos_right _ c5;rw[hlen];omega
def Made (P:Program) (O:Gh) (M:Mem) (a:Act) (w:World) (o:Oper) (x:AV):Prop :=
 ∃ v w' M',(execOp a.eval o).run P w=.ok (.value v) w'∧w.grownBy w' none∧Sub M M'∧Cons M' w'∧(∀ b o,b<w.heap.size→M' b o=M b o)∧ValOk O M' w' x v
theorem qbg (w:World) (row:Option Nat):w.grownBy w row:=⟨rfl,rfl,rfl,Nat.le_refl _,fun _ _ _=>rfl⟩
theorem Simple.made (h:Inv bs n M O env a w) {o:Oper} {x:AV} (hs:Simple P O M a w o x):Made P O M a w o x:=by
 obtain⟨v,h1,h2⟩:=hs;exact⟨v,w,M,h1,qbg w none,Sub.refl M,h.cons,fun _ _ _=>rfl,h2⟩
theorem ZH {M:Mem} {w:World} (us:Array Value):∀ b o,b<w.heap.size→addRow M w.heap.size us b o=M b o:=by
 intro b o hb;unfold addRow;rw[if_neg (by omega)]
theorem HY (s:ByteArray):flat (bytesA s)=bytesA s:=by
 unfold flat bytesA;rw[List.flatMap_map];simp only[AV.cells];exact List.map_eq_flatMap.symm
theorem qct (h:Inv bs n M O env a w) {o:Oper} {y:Operand} {s d:TypeId} (ho:o.op=.convert s d y) {q:ByteArray} {x:AV} (hp:aop env y=some (.str q)) (hx:YG P s d (.str q)=some x):Made P O M a w o x:=by
 have hv:=(qo h hp).1.str_inv;simp only[YG]at hx
 split at hx
 case h_2=>cases hx
 rename_i e hs hd
 split at hx
 case h_2=>cases hx
 rename_i hb;cases hx
 have he:execOp a.eval o=vS (convert s d (a.eval y)):=by unfold execOp;rw[ho];rfl
 have hrun:=Lib.run_convert_string_bytes (P:=P) w s d e q hs hd (Vm hb)
 have hget:∀ j:Nat,(q.data.map fun (b:UInt8)=>Value.int .u8 (b.toNat:Int))[j]? = (q.data.toList[j]?).map fun (b:UInt8)=>Value.int .u8 (b.toNat:Int):=by
  intro j
  simp
 refine⟨.slice (some ⟨w.heap.size,0,none⟩) q.size (grownCap w q.size 0 e),Lib.bytesWorld w e q,addRow M w.heap.size (q.data.map fun (b:UInt8)=>Value.int .u8 (b.toNat:Int)),?_,?_,Yr h.cons _,?_,ZH _,?_,trivial⟩
 ·rw[he,hv];exact ZK hrun
 ·exact⟨rfl,rfl,rfl,by rw[Lib.bytesWorld_size];omega,fun k hk _=>Lib.bytesWorld_at_old w e q k hk⟩
 ·intro b o u hu;unfold addRow at hu
  split at hu
  ·rename_i eb;subst eb;obtain⟨hu,htp⟩:=Yb hu;rw[hget]at hu
   have hlt:o<q.size:=by
    rcases Nat.lt_or_ge o q.size with k | k
    ·exact k
    ·rw[List.getElem?_eq_none (by rw[Array.length_toList];exact k)]at hu;cases hu
   refine Ui ?_ htp;rw[Lib.bytesWorld_cell w e q o hlt]
   have hlt':o<q.data.toList.length:=by rw[Array.length_toList];exact hlt
   rw[List.getElem?_eq_getElem hlt']at hu;cases hu
   simp[List.getD,List.getElem?_eq_getElem hlt']
  ·have:=h.cons b o u hu;rw[Qp (Lib.bytesWorld_at_old w e q b (ZL this))];exact this
 ·have hlen:(bytesA q).length=q.size:=by unfold bytesA;rw[List.length_map,Array.length_toList];rfl
  rw[← hlen];refine R.lst (fun j=>(q.data.map fun (b:UInt8)=>Value.int .u8 (b.toNat:Int)).getD j undef) ?_ (fun z hz=>?_) (fun z hz=>?_) (fun j c hc=>?_) (fun j c hc=>?_)
  ·rw[hlen];exact grownCap_ge w _ _ _
  ·unfold bytesA at hz;obtain⟨b,_,rfl⟩:=List.mem_map.1 hz;rfl
  ·unfold bytesA at hz;obtain⟨b,_,rfl⟩:=List.mem_map.1 hz;rfl
  ·rw[HY]at hc;have hj:=(List.getElem?_eq_some_iff.1 hc).1;rw[hlen]at hj;unfold addRow;rw[if_pos rfl,Nat.zero_add]
   have hjl:j<(q.data.map fun (b:UInt8)=>Value.int .u8 (b.toNat:Int)).size:=by rw[Array.size_map];exact hj
   refine Jd (by rw[Array.getD_eq_getD_getElem?,Array.getElem?_eq_getElem hjl];rfl) ?_;rw[Array.getD_eq_getD_getElem?,Array.getElem?_eq_getElem hjl,Array.getElem_map];rfl
  ·rw[HY]at hc;unfold bytesA at hc;rw[List.getElem?_map]at hc
   cases hb:q.data.toList[j]? with
   | none=>rw[hb]at hc;cases hc
   | some b =>
    rw[hb]at hc;cases hc
    have:(q.data.map fun (b:UInt8)=>Value.int .u8 (b.toNat:Int)).getD j undef=.int .u8 b.toNat:=by
     rw[Array.getD_eq_getD_getElem?,hget,hb];rfl
    rw[this];exact .int _ _
theorem Ue (h:Inv bs n M O env a w) {o:Oper} {x:AV} (hx:apure P o env=some x):Made P O M a w o x:=by
 obtain⟨dst,op,ty,pos,after,guard⟩:=o
 cases op with
 | move y=>exact (NJ h (.inl rfl) hx).made h
 | assign y=>exact (NJ h (.inr rfl) hx).made h
 | pick c p q =>
  simp only[apure]at hx
  split at hx
  ·rename_i hb;exact (NI h rfl hb (by simpa using hx)).made h
  ·rename_i hb;exact (NI h rfl hb (by simpa using hx)).made h
  ·cases hx
 | binOp op t y z t' =>
  simp only[apure]at hx
  split at hx
  ·rename_i p q hp hq;exact (qcT h rfl hp hq hx).made h
  ·cases hx
 | unOp op t y =>
  simp only[apure]at hx
  split at hx
  ·rename_i p hp;exact (qeu h rfl hp hx).made h
  ·cases hx
 | convert s t y =>
  simp only[apure]at hx
  split at hx
  ·rename_i p hp
   by_cases hq:∃ q,p=.str q
   ·obtain⟨q,rfl⟩:=hq;exact qct (o:=⟨dst,.convert s t y,ty,pos,after,guard⟩) h rfl hp hx
   ·exact (Hr h rfl (fun q e=>hq ⟨q,e⟩) hp hx).made h
  ·cases hx
 | build t ps =>
  simp only[apure]at hx
  split at hx
  ·rename_i l hl
   split at hx
   ·rename_i v hv;cases hx;exact (qaO h rfl hl hv).made h
   ·rw[Option.map_eq_some_iff]at hx;obtain⟨v,hv,rfl⟩:=hx;obtain⟨u,h1,h2⟩:=VO h (o:=⟨dst,.build t ps,ty,pos,after,guard⟩) rfl hl hv;exact (show Simple P O M a w ⟨dst,.build t ps,ty,pos,after,guard⟩ v.strip from⟨u,h1,NH h2⟩).made h
  ·cases hx
 | buildSlice t m ps =>
  simp only[apure]at hx
  split at hx
  ·rename_i l hl;obtain⟨e,k,xs,us,e1,h1,h2,h3,_⟩:=QT (o:=⟨dst,.buildSlice t m ps,ty,pos,after,guard⟩) h rfl hl hx;subst e1;exact⟨_,_,_,h1,World.grownBy_alloc w _ none,Yr h.cons us,Vr h.cons us e,ZH us,h3,trivial⟩
  ·cases hx
 | load t y =>
  simp only[apure]at hx
  split at hx
  ·rename_i p hp;exact (qbA h rfl hp hx).made h
  ·cases hx
 | fieldAddr t y f =>
  simp only[apure]at hx
  split at hx
  ·rename_i p hp;exact (Nf h rfl hp hx).made h
  ·cases hx
 | field t y f =>
  simp only[apure]at hx
  split at hx
  ·rename_i cs o' ft sz hp hf;exact (qaM h rfl hp hf hx).made h
  ·rename_i cs o' ft sz hp hf;exact (Dt h rfl hp hf hx).made h
  ·cases hx
 | indexAddr t y i =>
  simp only[apure]at hx
  split at hx
  ·rename_i p q hp hq;exact (Nd h rfl hp hq hx).made h
  ·cases hx
 | index t y i =>
  simp only[apure]at hx
  split at hx
  ·rename_i p q hp hq;exact (qaL h rfl hp hq hx).made h
  ·cases hx
 | slice t y lo hi mx =>
  cases mx with
  | some mx =>
   cases hi with
   | none=>simp[apure]at hx
   | some hi =>
    simp only[apure]at hx
    split at hx
    case h_2=>cases hx
    rename_i e k lab xs k2 m hp hm
    split at hx
    case h_2=>cases hx
    rename_i e' k' hse
    split at hx
    case h_2=>cases hx
    rename_i l k1 c hk hl hh;have hk:=Nat.eq_of_beq_eq_true hk;subst hk
    split at hx
    case isFalse=>cases hx
    rename_i hb;cases hx;exact (Dr h rfl hp hse hl hh hm hb).made h
  | none =>
   simp only[apure]at hx
   split at hx
   ·rename_i p hp;exact (qaK h rfl hp hx).made h
   ·cases hx
 | makeFunc fn first caps =>
  cases fn <;> simp only[apure]at hx <;> try (cases hx;done)
  split at hx
  ·rename_i l hf hl
   split at hx
   ·rename_i hp;cases hx;exact (Ha h rfl (Nat.eq_of_beq_eq_true hf) hl hp).made h
   ·split at hx
    ·rename_i hp;cases hx;exact (Nc h rfl (Nat.eq_of_beq_eq_true hf) hl hp).made h
    ·cases hx
  ·cases hx
 | lookup t y k c =>
  cases c with
  | true=>simp[apure]at hx
  | false =>
   simp only[apure]at hx
   split at hx
   ·rename_i m kk hm hk
    cases hr:alookup P t env m kk with
    | none=>rw[hr]at hx;cases hx
    | some r =>
     rw[hr]at hx;cases hx;exact (Ds h rfl hm hk hr).made h
   ·cases hx
 | entry y =>
  simp only[apure]at hx
  split at hx
  case h_2=>cases hx
  rename_i id hp
  split at hx
  case h_2=>cases hx
  rename_i k ks v vs hl;cases hx;exact (qaN h rfl hp hl).made h
 | extract y i =>
  simp only[apure]at hx
  split at hx
  ·rename_i vs hp;exact (Hq h rfl hp hx).made h
  ·rename_i id e k off m rest hp;exact (Hb h rfl hp hx).made h
  ·cases hx
 | nilCheck y =>
  simp only[apure]at hx
  split at hx
  ·rename_i z hp;cases hx;exact (ZM h rfl hp (.inl ⟨z,rfl⟩)).made h
  ·rename_i b z hp
   cases b with
   | false=>cases hx;exact (Nb h rfl hp).made h
   | true=>cases hx
  ·rename_i s m hp;cases hx;exact (ZM h rfl hp (.inr ⟨s,m,rfl⟩)).made h
  ·cases hx
 | call c =>
  obtain⟨callee,args,ats⟩:=c
  cases callee with
  | value f=>simp[apure]at hx
  | invoke r m=>simp[apure]at hx
  | builtin b =>
   cases b <;> simp only[apure]at hx <;> try (cases hx;done)
   case len =>
    split at hx
    ·rename_i y t ha ht
     split at hx
     ·rename_i p hp;exact (qcS h rfl ha ht hp hx).made h
     ·cases hx
    ·cases hx
   case max =>
    split at hx
    ·rename_i y z ha
     split at hx
     ·rename_i k p k' q hp hq;cases hx;exact (qcR h rfl ha hp hq).made h
     ·cases hx
    ·cases hx
   case min =>
    split at hx
    ·rename_i y z ha
     split at hx
     ·rename_i k p k' q hp hq;cases hx;exact (qcQ h rfl ha hp hq).made h
     ·cases hx
    ·cases hx
 | _=>simp[apure]at hx
theorem XG (h:Inv bs n M O env a w) {d:Option Nat} {x:AV} {v:Value} (hv:ValOk O M w x v) {env':Env} (he:eput n d x env=some env'):Inv bs n M O env' (a.put d v) w:=by
 unfold eput at he
 split at he
 ·cases he;exact h
 ·rename_i t
  split at he
  ·rename_i hc;cases he;simp only[Bool.and_eq_true]at hc;exact h.put (Nat.le_of_ble_eq_true hc.1) hv
  ·cases he
def Leads (P:Program) (bs:Base) (n:Nat) (o:Oper) (a:Act) (w:World) (env':Env):Prop :=
 ∃ v w' M' O',((execOp a.eval o).run P w=.ok (.value v) w'∨((execOp a.eval o).run P w=.ok .skip w'∧v=undef))∧Inv bs n M' O' env' (a.put o.dst v) w'
theorem Zz (h:Inv bs n M O env a w) {o:Oper} {x:AV} (hx:apure P o env=some x) {env':Env} (he:eput n o.dst x env=some env'):Leads P bs n o a w env':=by
 obtain⟨v,w',M',h1,h2,h3,h4,h5,h6⟩:=Ue h hx;have h':=h.grown (row:=none) (fun g e=>by cases e) h2 h3 h4 (fun b o hb _=>h5 b o hb);exact⟨v,w',M',O,.inl h1,XG h' h6 he⟩
end
end Go.AM
