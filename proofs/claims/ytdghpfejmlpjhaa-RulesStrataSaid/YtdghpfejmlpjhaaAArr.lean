/- s -/
import Derived.Test.YtdghpfejmlpjhaaAWq
set_option linter.unusedVariables false
namespace Go.AM
variable {P:Program} {n:Nat} {α:Type} {enc:α→AV}
def Flat (enc:α→AV):Prop:=∀ x,(enc x).one=true∧(enc x).strip=enc x∧(enc x).cells=[enc x]
theorem qz (k:IntKind):Flat (AV.int k):=fun _=>⟨rfl,rfl,rfl⟩
theorem YW:Flat AV.bool:=fun _=>⟨rfl,rfl,rfl⟩
theorem Flat.all (h:Flat enc) (l:List α):(l.map enc).all AV.one=true:=by
 rw[List.all_map,List.all_eq_true]
 exact fun x _=>(h x).1
theorem Flat.strips (h:Flat enc) (l:List α):(l.map enc).map AV.strip=l.map enc:=by
 rw[List.map_map]
 exact List.map_congr_left fun x _=>(h x).2.1
def cutS (P:Program) (t:TypeId):Bool:=match tSize P t with
 | some sz=>Nat.beq sz 1 && !tAgg P t && (P.underlying t).isSome
 | none=>false
def cutW (P:Program) (t:TypeId) (sz:Nat):Bool:=match tSize P t with
 | some s=>Nat.beq s sz && tAgg P t && (P.underlying t).isSome
 | none=>false
theorem YD {t:TypeId} {l:List α} {off:Nat} {e:α} (hF:Flat enc) (hc:cutS P t=true) (h:l[off]? = some e):cut P t (l.map enc) off=some (enc e):=by
 unfold cutS at hc
 split at hc
 ·rename_i sz hs;simp only[Bool.and_eq_true,Bool.not_eq_true']at hc;obtain⟨⟨h1,h2⟩,h3⟩:=hc;obtain rfl:=Nat.eq_of_beq_eq_true h1;have hlt:=(List.getElem?_eq_some_iff.1 h).1;unfold cut;rw[hs];have e1:Nat.ble (off+1) (l.map enc).length=true:=Nat.ble_eq_true_of_le (by rw[List.length_map];exact hlt)
  have e2:(l.map enc)[off]? = some (enc e):=by rw[List.getElem?_map,h];rfl
  simp only[e1,h3,h2,e2,(hF e).1,Bool.and_self]
 ·cases hc
theorem qgh {t sz:Nat} {l:List α} {off:Nat} (hF:Flat enc) (hc:cutW P t sz=true) (h:off+sz≤l.length):cut P t (l.map enc) off=some (.agg (((l.drop off).take sz).map enc)):=by
 unfold cutW at hc
 split at hc
 ·rename_i s hs;simp only[Bool.and_eq_true]at hc;obtain⟨⟨h1,h2⟩,h3⟩:=hc;obtain rfl:=Nat.eq_of_beq_eq_true h1;unfold cut;rw[hs];have e1:Nat.ble (off+s) (l.map enc).length=true:=Nat.ble_eq_true_of_le (by rw[List.length_map];exact h);simp only[e1,h3,h2,Bool.and_self];rw[← List.map_drop,← List.map_take,hF.strips]
 ·cases hc
theorem Qs {t sz:Nat} {l:List α} (hF:Flat enc) (hc:cutW P t sz=true) (h:l.length=sz):cut P t (l.map enc) 0=some (.agg (l.map enc)):=by
 rw[qgh hF hc (by omega),List.drop_zero,List.take_of_length_le (by omega)]
def setPre (P:Program) (all:List Oper) (o:Oper) (env:Env):Option (Nat×Nat×AV×List AV×Nat) :=
 match awanted all o env with
 | some true=>match o.op with
  | .store t p x=>match o.dst,aop env p,aop env x,tSize P t with
   | none,some (.pb s off),some v,some sz=>match look env s with
    | some (.hob 3 [] cs)=>some (s,off,v,cs,sz)
    | _=>none
   | _,_,_,_=>none
  | _=>none
 | _=>none
theorem Vq {all:List Oper} {o:Oper} {env:Env} {s off:Nat} {v:AV} {cs:List AV} {sz:Nat} (h:setPre P all o env=some (s,off,v,cs,sz)):awanted all o env=some true∧isEff o.op=true∧isApp o.op=false∧look env s=some (.hob 3 [] cs) ∧
  (v.one=true→v.cells.length=sz→astep P n o env=putCell s env off v)∧(∀ c2,v=.agg c2→c2.length=sz→astep P n o env=putRow s env off c2):=by
 unfold setPre at h
 split at h <;> try cases h
 rename_i hw
 split at h <;> try cases h
 rename_i t p x ho
 split at h <;> try cases h
 rename_i hd hp hx hs
 split at h <;> try cases h
 rename_i hl;refine⟨hw,by rw[ho];rfl,by rw[ho];rfl,hl,fun h1 hc=>?_,fun c2 hv hc=>?_⟩
 ·unfold astep;rw[ho];simp only[hd,hp,hx,hs]
  have:Nat.beq v.cells.length sz=true:=by rw[hc];exact Nat.beq_refl _
  simp only[this]
  cases v <;> first | (simp only[hl];done) | cases h1
 ·subst hv;unfold astep;rw[ho];simp only[hd,hp,hx,hs]
  have:Nat.beq (AV.agg c2).cells.length sz=true:=by show Nat.beq c2.length sz=true;rw[hc];exact Nat.beq_refl _
  simp only[this]
theorem WO.eff {draw:Bool} {all ops:List Oper} {Q:Env→Prop} {en e1:Env} {o:Oper} (hw:awanted all o en=some true) (hei:isEff o.op=true) (hap:isApp o.op=false) (hst:astep P n o en=some e1) (h:WO P n draw all ops Q e1):WO P n draw all (o::ops) Q en:=by
 refine WO.step (e1:=e1) ?_ h;unfold step1;rw[hw]
 cases draw with
 | true =>
  refine Ya (Zg hap) ?_;unfold astepD;simp only[hei,hst]
 | false=>exact hst
theorem WO.setA {draw:Bool} {all ops:List Oper} {Q:Env→Prop} {env e1:Env} {s off:Nat} {l:List α} {x:α} (k:Nat) (hF:Flat enc) (hlt:decide (off<l.length)=true) (h:WO P n draw all (ops.drop (k+1)) Q e1)
  (hp:stepsE P n draw all k ops env (fun os e=>match os with | o::_=>setPre P all o e | []=>none)=some (s,off,enc x,l.map enc,1):=by kernel_rfl)
  (hs:stepsE P n draw all k ops env (fun os en=>some (ins s (.hob 3 [] ((l.set off x).map enc)) en))=some e1:=by kernel_rfl):WO P n draw all ops Q env:=by
 obtain⟨en,h1,h2⟩:=qZ hp;obtain⟨en',h3,h4⟩:=qZ hs;rw[h1]at h3;cases h3;cases h4;refine WO.steps k h1 ?_
 cases hos:ops.drop k with
 | nil=>rw[hos]at h2;cases h2
 | cons o rest =>
  rw[hos]at h2;rw[XF hos]at h;obtain⟨a1,a2,a3,a4,a5,_⟩:=Vq (n:=n) h2;refine WO.eff a1 a2 a3 ?_ h;have hone:=(hF x).1;rw[a5 hone (by rw[(hF x).2.2];rfl)];unfold putCell;have:Nat.blt off (l.map enc).length=true:=Nat.ble_eq_true_of_le (by rw[List.length_map];exact of_decide_eq_true hlt);simp only[hone,a4,this];rw[List.map_set,(hF x).2.1]
theorem WO.storeA {draw:Bool} {all ops:List Oper} {Q:Env→Prop} {env e1:Env} {s sz:Nat} {l l':List α} (k:Nat) (hF:Flat enc) (hl:decide (l.length=sz∧l'.length=sz)=true) (h:WO P n draw all (ops.drop (k+1)) Q e1)
  (hp:stepsE P n draw all k ops env (fun os e=>match os with | o::_=>setPre P all o e | []=>none)=some (s,0,.agg (l.map enc),l'.map enc,sz):=by kernel_rfl)
  (hs:stepsE P n draw all k ops env (fun os en=>some (ins s (.hob 3 [] (l.map enc)) en))=some e1:=by kernel_rfl):WO P n draw all ops Q env:=by
 obtain⟨en,h1,h2⟩:=qZ hp;obtain⟨en',h3,h4⟩:=qZ hs;rw[h1]at h3;cases h3;cases h4;obtain⟨hl1,hl2⟩:=of_decide_eq_true hl;refine WO.steps k h1 ?_
 cases hos:ops.drop k with
 | nil=>rw[hos]at h2;cases h2
 | cons o rest =>
  rw[hos]at h2;rw[XF hos]at h;obtain⟨a1,a2,a3,a4,_,a5⟩:=Vq (n:=n) h2;refine WO.eff a1 a2 a3 ?_ h;rw[a5 _ rfl (by rw[List.length_map];exact hl1)];unfold putRow;have:Nat.ble (0+(l.map enc).length) (l'.map enc).length=true:=Nat.ble_eq_true_of_le (by rw[List.length_map,List.length_map];omega);simp only[hF.all,a4,this];rw[hF.strips,List.take_zero,List.drop_eq_nil_of_le (by rw[List.length_map,List.length_map];omega),List.nil_append,List.append_nil]
def boxPre (all:List Oper) (o:Oper) (env:Env):Option (Nat×AV) :=
 match awanted all o env with
 | some true=>match o.op with
  | .box t x=>match o.dst,aop env x with
   | some d,some v=>match clearOf d env with
    | true=>some (d,v)
    | false=>none
   | _,_=>none
  | _=>none
 | _=>none
theorem qaB {d:Nat}:∀ {en:Env},clearOf d en=true→forget d en=en
 | [],_=>rfl
 | (t,y)::r,h=>by
  simp only[clearOf,List.all_cons,Bool.and_eq_true,Bool.not_eq_true']at h;have ih:=qaB (en:=r) (d:=d) (by simpa[clearOf] using h.2);unfold forget at ih ⊢
  have hk:killRef d y=y:=by unfold killRef;rw[h.1.2]
  rw[List.filter_cons_of_pos (by simp[h.1.1]),List.map_cons,ih,hk]
theorem Dr {d:Nat} {x:AV}:∀ {en:Env},clearOf d en=true→forget d (ins d x en)=en
 | [],_=>by simp[forget,ins]
 | (t,y)::r,h=>by
  have h0:=h;simp only[clearOf,List.all_cons,Bool.and_eq_true,Bool.not_eq_true']at h;have ih:=Dr (x:=x) (en:=r) (d:=d) (by simpa[clearOf] using h.2)
  have hk:killRef d y=y:=by unfold killRef;rw[h.1.2]
  simp only[ins]
  split
  ·unfold forget at ih ⊢;rw[List.filter_cons_of_pos (by simp[h.1.1]),List.map_cons,ih,hk]
  ·simp only[h.1.1];have:=qaB h0;unfold forget at this ⊢;rw[List.filter_cons_of_neg (by simp)];exact this
theorem qej {d:Nat} {x:AV} {p:Nat×AV}:∀ {en:Env},p∈ins d x en→p=(d,x)∨p∈en
 | [],h=>by simpa[ins] using h
 | (t,y)::r,h=>by
  simp only[ins]at h
  split at h
  ·rcases List.mem_cons.1 h with h | h
   ·exact .inr (by rw[h];exact List.mem_cons_self ..)
   ·exact (qej h).imp id (List.mem_cons_of_mem _)
  ·split at h
   ·rcases List.mem_cons.1 h with h | h
    ·exact .inl h
    ·exact .inr (List.mem_cons_of_mem _ h)
   ·rcases List.mem_cons.1 h with h | h
    ·exact .inl h
    ·exact .inr h
theorem Um {d:Nat} {x:AV}:∀ {en:Env},look (ins d x en) d=some x
 | []=>by simp[ins,look]
 | (t,y)::r=>by
  have ih:=Um (x:=x) (en:=r) (d:=d);simp only[ins]
  split
  ·rename_i hb;have:t<d:=Nat.le_of_ble_eq_true hb
   have h2:Nat.beq t d=false:=by rw[Bool.eq_false_iff];intro hh;have:=Nat.eq_of_beq_eq_true hh;omega
   simp only[look,h2];exact ih
  ·split <;> simp[look]
theorem qgb {d:Nat} {x y:AV} {en:Env} (h:(eput n (some d) x en).isSome=true):eput n (some d) y en=some (ins d y en):=by
 unfold eput at h ⊢;simp only at h ⊢
 split at h
 ·rfl
 ·cases h
theorem WO.boxA {all ops:List Oper} {Q:Env→Prop} {env e1:Env} {d:Nat} {l:List α} (k:Nat) (hF:Flat enc) (hl:(!l.isEmpty)=true) (h:WO P n false all (ops.drop (k+1)) Q e1)
  (hp:stepsE P n false all k ops env (fun os e=>match os with | o::_=>boxPre all o e | []=>none)=some (d,.agg (l.map enc)):=by kernel_rfl)
  (hs:stepsE P n false all k ops env (fun os en=>match (eput n (some d) .und en).isSome,clearOf (1000000+d) en && Nat.blt d 1000000 with
   | true,true=>some (ins d (.pb (1000000+d) 0) (ins (1000000+d) (.hob 3 [] (l.map enc)) en))
   | _,_=>none)=some e1:=by kernel_rfl):WO P n false all ops Q env:=by
 obtain⟨en,h1,h2⟩:=qZ hp;obtain⟨en',h3,h4⟩:=qZ hs;rw[h1]at h3;cases h3;refine WO.steps k h1 ?_
 cases hos:ops.drop k with
 | nil=>rw[hos]at h2;cases h2
 | cons o rest =>
  rw[hos]at h2;rw[XF hos]at h;simp only[boxPre]at h2
  split at h2 <;> try cases h2
  rename_i hw
  split at h2 <;> try cases h2
  rename_i t x ho
  split at h2 <;> try cases h2
  rename_i hd hx
  split at h2 <;> try cases h2
  rename_i hcl
  split at h4 <;> try cases h4
  rename_i hb hc;refine WO.eff (e1:=ins d (.box (l.map enc)) en) hw (by rw[ho];rfl) (by rw[ho];rfl) ?_ (WO.mv [.arr d] ?_ h)
  ·unfold astep;rw[ho];simp only[hd,hx]
   have hne:(l.map enc).isEmpty=false:=by
    cases l with
    | nil=>cases hl
    | cons=>rfl
   have e1':(AV.agg (l.map enc)).cells=l.map enc:=rfl;rw[e1',hcl,hF.all,hne,hF.strips];show eput n (some d) _ en=_;exact qgb hb
  ·show arrBox (ins d (.box (l.map enc)) en) d=_;unfold arrBox
   have hc2:(clearOf (1000000+d) (ins d (.box (l.map enc)) en) && Nat.blt d 1000000)=true:=by
    simp only[Bool.and_eq_true]at hc ⊢;refine⟨?_,hc.2⟩;unfold clearOf;rw[List.all_eq_true];intro p hp
    rcases qej hp with rfl | hp
    ·have:Nat.beq d (1000000+d)=false:=by rw[Bool.eq_false_iff];intro hh;have:=Nat.eq_of_beq_eq_true hh;omega
     simp[this,AV.refs]
    ·have:=hc.1;unfold clearOf at this;exact List.all_eq_true.1 this p hp
   rw[Um,hc2]
   simp only
   rw[Dr hcl,hF.strips]
theorem WO.one {all ops:List Oper} {Q:Env→Prop} {en e1:Env} {o:Oper} (hw:awanted all o en=some true) (hst:astep P n o en=some e1) (h:WO P n false all ops Q e1):WO P n false all (o::ops) Q en:=by
 refine WO.step (e1:=e1) ?_ h;unfold step1;rw[hw];exact hst
theorem qeV {t:TypeId} {l:List α} {i:Int} {m:Nat} {e:α} (hF:Flat enc) (hc:cutS P t=true) (hi:(0:Int)≤i∧i<((m:Nat):Int)) (h:l[Int.toNat i * 1]? = some e):(if (0:Int)≤i∧i<((m:Nat):Int) then cut P t (List.map AV.strip (List.map enc l)) (Int.toNat i * 1) else none)=some (enc e):=by
 have hs:List.map AV.strip (List.map enc l)=List.map enc l:=by
  rw[List.map_map]
  exact List.map_congr_left fun x _=>(hF x).2.1
 rw[if_pos hi,hs];exact YD hF hc h
end Go.AM
