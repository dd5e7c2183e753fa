import Derived.Test.YtoiejpkfpjingaaASimJ
set_option linter.all false
open List renaming getElem?_eq_getElem→A0, mem_cons_self→A2, map_cons→A5, mem_cons_of_mem→A6, foldl_cons→A9, mem_append_right→B9, mem_append_left→C0
open Go.Region renaming before→A1, binds→A3, ready→A8
open Nat renaming lt_of_not_le→A4, le_refl→B5, lt_or_ge→B6
open Bool renaming not_eq_true'→A7, or_eq_true→B0
open Option renaming map_some→B7
open Array renaming getElem?_push→C2, getD_eq_getD_getElem?→C4
namespace Go.AM
open Go.RowKit
section
variable {n:Nat} {P:Program}
def Knows (e E:Env) (xs:List Operand):Prop:=∀ x,x∈xs→∀ v,aop e x=some v→aop E x=some v
theorem qaU (x:AV):x.sk.ent=x.ent:=by cases x <;> rfl
theorem DT {x:AV} (h:x.ent=false):x.sk=x:=by cases x <;> first | rfl | cases h
theorem qaM {e E:Env} {t:Nat} {v:AV} (h:∀ y,lookS e t=some y→lookS E t=some y) (hv:aop e (.tmp t)=some v):aop E (.tmp t)=some v:=by
 simp only[aop]at hv ⊢
 cases hl:look e t with
 | none=>rw[hl]at hv;cases hv
 | some y =>
  have:=h y.sk (by simp[lookS,hl]);simp only[lookS]at this
  cases hL:look E t with
  | none=>rw[hL]at this;cases this
  | some Y =>
   rw[hL]at this;simp only[B7,Option.some.injEq]at this;rw[hl]at hv
   cases y <;> cases Y <;> simp only[AV.sk]at this <;> first | (cases this;exact hv) | (cases this;done) | exact hv | (simp at hv;done)
theorem qbg {e E:Env} {ts:List Nat} (h:∀ t,t∈ts→∀ y,lookS e t=some y→lookS E t=some y) {xs:List Operand} (hx:∀ x t,x∈xs→x=.tmp t→t∈ts):Knows e E xs:=by
 intro x hxm v hv
 cases x with
 | tmp t=>exact qaM (h t (hx _ t hxm rfl)) hv
 | _=>exact hv
theorem Qr {e E:Env}:∀ {xs:List Operand} {l:List AV},Knows e E xs→optAll (xs.map (aop e))=some l→optAll (xs.map (aop E))=some l
 | [],l,_,h=>h
 | x::xs,l,hk,h=>by
  simp only[A5]at h ⊢
  cases hx:aop e x with
  | none=>rw[hx]at h;cases h
  | some v =>
   rw[hx]at h;rw[hk x (A2 ..) v hx];simp only[optAll]at h ⊢;split at h
   ·rename_i l' hl';rw[Qr (fun y hy=>hk y (A6 _ hy)) hl'];exact h
   ·cases h
theorem XO {e E:Env}:∀ {ps:List (Nat×Operand)} {l:List (Nat×AV)},Knows e E (ps.map (·.2)) →
  optAll (ps.map fun p=>match aop e p.2 with | some v=>some (p.1,v) | none=>none)=some l→optAll (ps.map fun p=>match aop E p.2 with | some v=>some (p.1,v) | none=>none)=some l
 | [],l,_,h=>h
 | (i,x)::ps,l,hk,h=>by
  simp only[A5]at h ⊢ hk
  cases hx:aop e x with
  | none=>rw[hx]at h;cases h
  | some v =>
   rw[hx]at h;rw[hk x (A2 ..) v hx];simp only[optAll]at h ⊢;split at h
   ·rename_i l' hl';rw[XO (fun y hy=>hk y (A6 _ hy)) hl'];exact h
   ·cases h
theorem QX {e E:Env} {d:Int} {x:Option Operand} (hk:Knows e E x.toList) {m:Int} (h:aoptInt e d x=some m):aoptInt E d x=some m:=by
 cases x with
 | none=>exact h
 | some y =>
  simp only[aoptInt]at h ⊢;split at h
  ·rename_i k m' hy;rw[hk y (by simp) _ hy];exact h
  ·cases h
theorem HW {e E:Env} {t:TypeId} {p r:AV} (hb:EA e E) (h:aload P e t p=some r):aload P E t p=some r:=by
 unfold aload at h ⊢;split at h
 ·rename_i s off;split at h
  ·rename_i cs hl;simp only[hb s _ rfl hl];exact h
  ·rename_i cs hl;simp only[hb s _ rfl hl];exact h
  ·rename_i ks cs hl;simp only[hb s _ rfl hl];exact h
  ·cases h
 ·exact h
 ·rename_i id k j o;split at h
  ·rename_i e' k' xs hl;simp only[hb id _ rfl hl];exact h
  ·cases h
 ·cases h
theorem Um {e E:Env} {m:AV} {q:List AV×List AV} (hb:EA e E) (h:QK e m=some q):QK E m=some q:=by
 unfold QK at h ⊢;split at h
 ·exact h
 ·rename_i id;split at h
  ·rename_i ks vs hl;simp only[hb id _ rfl hl];exact h
  ·cases h
 ·cases h
theorem Ut {e E:Env} {t:TypeId} {m k r:AV} (hb:EA e E) (h:alookup P t e m k=some r):alookup P t E m k=some r:=by
 unfold alookup at h ⊢;split at h
 ·rename_i kt et ks vs ht he;simp only[ht,Um hb he];exact h
 ·cases h
theorem NN {e E:Env} {t:TypeId} {p r:AV} {lo hi:Option Operand} (hk:Knows e E (lo.toList++hi.toList)) (h:aslice P t p lo hi e=some r):aslice P t p lo hi E=some r:=by
 have h1:∀ d m,aoptInt e d lo=some m→aoptInt E d lo=some m:=fun d m=>QX fun x hx=>hk x (C0 _ hx)
 have h2:∀ d m,aoptInt e d hi=some m→aoptInt E d hi=some m:=fun d m=>QX fun x hx=>hk x (B9 _ hx)
 unfold aslice at h ⊢;split at h
 ·split at h
  ·split at h
   ·split at h
    ·rename_i l m hl hm;simp only[h1 _ _ hl,h2 _ _ hm];simp_all
    ·cases h
   ·cases h
  ·cases h
 ·split at h
  ·split at h
   ·split at h
    ·rename_i l m hl hm;simp only[h1 _ _ hl,h2 _ _ hm];simp_all
    ·cases h
   ·cases h
  ·cases h
 ·split at h
  ·split at h
   ·rename_i l m hl hm;simp only[h1 _ _ hl,h2 _ _ hm];simp_all
   ·cases h
  ·cases h
 ·split at h
  ·split at h
   ·rename_i l m hl hm;simp only[h1 _ _ hl,h2 _ _ hm];simp_all
   ·cases h
  ·cases h
 ·cases h
theorem Ya {e E:Env} {o:Oper} {x:AV} (hk:Knows e E o.op.operands.toList) (hb:memFree o.op=true∨EA e E) (h:apure P o e=some x):apure P o E=some x:=by
 obtain⟨dst,op,ty,pos,after,guard⟩:=o
 cases op with
 | move y=>exact hk y (by simp[Op.operands]) _ h
 | assign y=>exact hk y (by simp[Op.operands]) _ h
 | pick c p q =>
  simp only[apure]at h ⊢;split at h
  ·rename_i hc;rw[hk c (by simp[Op.operands]) _ hc];exact hk p (by simp[Op.operands]) _ h
  ·rename_i hc;rw[hk c (by simp[Op.operands]) _ hc];exact hk q (by simp[Op.operands]) _ h
  ·cases h
 | binOp op t y z t' =>
  simp only[apure]at h ⊢;split at h
  ·rename_i p q hp hq;rw[hk y (by simp[Op.operands]) _ hp,hk z (by simp[Op.operands]) _ hq];exact h
  ·cases h
 | unOp op t y =>
  simp only[apure]at h ⊢;split at h
  ·rename_i p hp;rw[hk y (by simp[Op.operands]) _ hp];exact h
  ·cases h
 | convert s t y =>
  simp only[apure]at h ⊢;split at h
  ·rename_i p hp;rw[hk y (by simp[Op.operands]) _ hp];exact h
  ·cases h
 | build t ps =>
  simp only[apure]at h ⊢;split at h
  ·rename_i l hl;have:parts? E ps=some l:=XO (by simpa[Op.operands] using hk) hl;rw[this];exact h
  ·cases h
 | buildSlice t m ps =>
  simp only[apure]at h ⊢;split at h
  ·rename_i l hl;have:parts? E ps=some l:=XO (by simpa[Op.operands] using hk) hl;rw[this];exact h
  ·cases h
 | load t y =>
  simp only[apure]at h ⊢;split at h
  ·rename_i p hp;rw[hk y (by simp[Op.operands]) _ hp]
   rcases hb with hb | hb
   ·cases hb
   ·exact HW hb h
  ·cases h
 | fieldAddr t y f =>
  simp only[apure]at h ⊢;split at h
  ·rename_i p hp;rw[hk y (by simp[Op.operands]) _ hp];exact h
  ·cases h
 | field t y f =>
  simp only[apure]at h ⊢;split at h
  ·rename_i cs o' ft sz hp hf;rw[hk y (by simp[Op.operands]) _ hp,hf];exact h
  ·rename_i cs o' ft sz hp hf;rw[hk y (by simp[Op.operands]) _ hp,hf];exact h
  ·cases h
 | indexAddr t y i =>
  simp only[apure]at h ⊢;split at h
  ·rename_i p q hp hq;rw[hk y (by simp[Op.operands]) _ hp,hk i (by simp[Op.operands]) _ hq];exact h
  ·cases h
 | index t y i =>
  simp only[apure]at h ⊢;split at h
  ·rename_i p q hp hq;rw[hk y (by simp[Op.operands]) _ hp,hk i (by simp[Op.operands]) _ hq];exact h
  ·cases h
 | slice t y lo hi mx =>
  cases mx with
  | some mx =>
   cases hi with
   | none=>simp[apure]at h
   | some hi =>
    simp only[apure]at h ⊢;split at h
    case h_2=>cases h
    rename_i e0 k0 lab xs k2 m hp hm;simp only[hk y (by simp[Op.operands]) _ hp,hk mx (by simp[Op.operands]) _ hm];split at h
    case h_2=>cases h
    rename_i e' k' hse;split at h
    case h_2=>cases h
    rename_i l k1 c hkk hl hh;simp only[hse,hkk,QX (E:=E) (fun z hz=>hk z (by simp[Op.operands]at hz ⊢;exact .inr (.inl hz))) hl,hk hi (by simp[Op.operands]) _ hh];exact h
  | none =>
   simp only[apure]at h ⊢;split at h
   ·rename_i p hp;rw[hk y (by simp[Op.operands]) _ hp];refine NN (fun z hz=>hk z ?_) h;simp only[Op.operands];simp at hz ⊢
    rcases hz with hz | hz
    ·exact .inr (.inl hz)
    ·exact .inr (.inr hz)
   ·cases h
 | lookup t y k c =>
  cases c with
  | true=>simp[apure]at h
  | false =>
   have hb:EA e E:=by
    rcases hb with hb | hb
    ·simp[memFree]at hb
    ·exact hb
   simp only[apure]at h ⊢;split at h
   ·rename_i p q hp hq;rw[hk y (by simp[Op.operands]) _ hp,hk k (by simp[Op.operands]) _ hq];simp only;rw[Option.map_eq_some_iff]at h ⊢;obtain⟨r,hr,e1⟩:=h;exact⟨r,Ut hb hr,e1⟩
   ·cases h
 | entry y =>
  have hb:EA e E:=by
   rcases hb with hb | hb
   ·simp[memFree]at hb
   ·exact hb
  simp only[apure]at h ⊢;split at h
  ·rename_i id hp;rw[hk y (by simp[Op.operands]) _ hp];simp only;split at h
   ·rename_i k ks v vs hl;simp only[hb id _ rfl hl];exact h
   ·cases h
  ·cases h
 | makeFunc fn first caps =>
  cases fn <;> simp only[apure]at h ⊢ <;> try (cases h;done)
  split at h
  ·rename_i l hf hl;rw[Qr (fun z hz=>hk z (by simp[Op.operands];exact .inr (by simpa using hz))) hl];simp only[hf];exact h
  ·cases h
 | extract y i =>
  simp only[apure]at h ⊢;split at h
  ·rename_i vs hp;rw[hk y (by simp[Op.operands]) _ hp];exact h
  ·rename_i id e' k off m rest hp;rw[hk y (by simp[Op.operands]) _ hp];exact h
  ·cases h
 | nilCheck y =>
  simp only[apure]at h ⊢;split at h
  ·rename_i z hp;rw[hk y (by simp[Op.operands]) _ hp];exact h
  ·rename_i b z hp;rw[hk y (by simp[Op.operands]) _ hp];exact h
  ·rename_i s m hp;rw[hk y (by simp[Op.operands]) _ hp];exact h
  ·cases h
 | call c =>
  obtain⟨callee,args,ats⟩:=c
  cases callee with
  | value f=>simp[apure]at h
  | invoke r m=>simp[apure]at h
  | builtin b =>
   have hka:∀ y,y∈args.toList→∀ v,aop e y=some v→aop E y=some v:=fun y hy=>hk y (by simp[Op.operands,Call.operands];simpa using hy)
   cases b <;> simp only[apure]at h ⊢ <;> try (cases h;done)
   case len =>
    split at h
    ·rename_i y t ha ht;split at h
     ·rename_i p hp;rw[hka y (by rw[ha];simp) _ hp];exact h
     ·cases h
    ·cases h
   case max =>
    split at h
    ·rename_i y z ha;split at h
     ·rename_i k p k' q hp hq;rw[hka y (by rw[ha];simp) _ hp,hka z (by rw[ha];simp) _ hq];exact h
     ·cases h
    ·cases h
   case min =>
    split at h
    ·rename_i y z ha;split at h
     ·rename_i k p k' q hp hq;rw[hka y (by rw[ha];simp) _ hp,hka z (by rw[ha];simp) _ hq];exact h
     ·cases h
    ·cases h
 | _=>simp[apure]at h
theorem Uu {e E:Env} {o:Oper} {f:Nat} {args:List AV} (hk:Knows e E o.op.operands.toList) (h:acallee P o e=some (f,args)):acallee P o E=some (f,args):=by
 unfold acallee at h ⊢;split at h
 case h_2=>cases h
 rename_i fo as ats ho;rw[ho]at hk;split at h
 case h_2=>cases h
 rename_i g caps l hf hl;have h1:=hk fo (by simp[Op.operands,Call.operands]) _ hf;have h2:=Qr (E:=E) (fun z hz=>hk z (by simp[Op.operands,Call.operands];exact .inr (by simpa using hz))) hl;simp only[h1,h2];exact h
theorem qZ {all:List Oper} {e E:Env} {o:Oper} {b:Bool} (hk:NA all o e E) (h:awanted all o e=some b):awanted all o E=some b:=by
 unfold awanted at h ⊢;split at h
 ·exact h
 ·rename_i j want hg;split at h
  ·cases h
  ·rename_i t ht
   have hmem:t∈namesOf all.toArray o:=by
    unfold namesOf;rw[hg];refine B9 _ ?_
    have ht':(all.toArray[j]?.bind fun x=>x.dst)=some t:=by simpa using ht
    simp only[ht'];simp
   have key:∀ y,y.ent=false→look e t=some y→look E t=some y:=by
    intro y hy hl;have:=hk t hmem y (by simp[lookS,hl,DT hy]);simp only[lookS]at this
    cases hL:look E t with
    | none=>rw[hL]at this;cases this
    | some Y =>
     rw[hL]at this;simp only[B7,Option.some.injEq]at this
     have hY:Y.ent=false:=by rw[← qaU,this];exact hy
     rw[DT hY]at this;rw[this]
   split at h
   ·rename_i c hl;simp only[ht,key _ rfl hl];exact h
   ·rename_i hl;simp only[ht,key _ rfl hl];exact h
   ·cases h
theorem jC {all:List Oper} {e E:Env} {o:Oper} (hk:NA all o e E):Knows e E o.op.operands.toList:=by
 refine qbg hk fun x t hx ht=>?_
 subst ht;unfold namesOf;refine C0 _ (B9 _ ?_);exact List.mem_filterMap.2 ⟨_,hx,rfl⟩
theorem qaY {all:List Oper} {o:Oper} {e e1:Env} {x:AV} (hw:awanted all o e=some true) (hx:apure P o e=some x) (he:eput n o.dst x e=some e1) (hnb:x.ent=false):Pure1 P n all o e e1:=by
 refine⟨x,he,hnb,fun E hk hb=>?_⟩;obtain⟨_,hd,_⟩:=jt he;intro bs M O a w h K Q hK;rw[qB h (qZ hk hw)];simp only[if_true];obtain⟨v,w',M',h1,h2,h3,h4,h5,h6⟩:=YA h (Ya (jC hk) hb hx);have h':=h.grown (row:=none) (fun g e=>by cases e) h2 h3 h4 (fun b o hb _=>h5 b o hb);unfold Oper.wp;rw[h1];exact hK _ _ _ _ (XR h' h6 hd)
theorem UD {all:List Oper} {o:Oper} {e e1:Env} (hw:awanted all o e=some false) (he:eput n o.dst .und e=some e1):Pure1 P n all o e e1:=by
 refine⟨.und,he,rfl,fun E hk hb=>?_⟩;obtain⟨_,hd,_⟩:=jt he;intro bs M O a w h K Q hK;rw[qB h (qZ hk hw)];simp only[Bool.false_eq_true,if_false];exact hK _ _ _ _ (XR h (x:=.und) ⟨.und,trivial⟩ hd)
theorem Dv {all:List Oper} {o:Oper} {e e1:Env} {f:Nat} {args:List AV} {r:AV} (hw:awanted all o e=some true) (hc:acallee P o e=some (f,args)) (hr:CallOk P f args r) (he:callPut n true o.dst r e=some e1):Pure1 P n all o e e1:=by
 have he':notBox r.strip=true∧eput n o.dst r.strip e=some e1:=by
  unfold callPut at he;simp only at he;split at he
  ·rename_i hb;exact⟨hb,he⟩
  ·cases he
 obtain⟨hnb,he⟩:=he';refine⟨r.strip,he,by simpa[notBox] using hnb,fun E hk hb=>?_⟩;obtain⟨_,hd,_⟩:=jt he;intro bs M O a w h K Q hK;rw[qB h (qZ hk hw)];simp only[if_true]
 exact Zg (all:=all) (Uu (jC hk) hc) hr h fun v w' M' h' hR _ _ _=>hK _ _ _ _ (XR h' (ja hR.strip (JQ r)) hd)
theorem qaL {e E:Env} (hb:EA e E) {x y:AV} (h:asnapC e x=some y):asnapC E x=some y:=by
 unfold asnapC at h ⊢;split at h
 ·rename_i id;split at h
  ·rename_i ks vs hl;simp only[hb id _ rfl hl];exact h
  ·cases h
 ·rename_i id e' k off m;split at h
  ·rename_i e2 k2 xs hl;simp only[hb id _ rfl hl];exact h
  ·cases h
 ·exact h
theorem Xs {e E:Env} (hb:EA e E):∀ {caps l:List AV},optAll (caps.map (asnapC e))=some l→optAll (caps.map (asnapC E))=some l
 | [],l,h=>h
 | x::xs,l,h=>by
  simp only[A5]at h ⊢
  cases hx:asnapC e x with
  | none=>rw[hx]at h;cases h
  | some v =>
   rw[hx]at h;rw[qaL hb hx];simp only[optAll]at h ⊢;split at h
   ·rename_i l' hl';rw[Xs hb hl'];exact h
   ·cases h
theorem Na {e E:Env} (hb:EA e E) {x y:AV} (h:asnapP e x=some y):asnapP E x=some y:=by
 unfold asnapP at h ⊢;split at h
 ·exact h
 ·rename_i s;split at h
  ·rename_i c hl;simp only[hb s _ rfl hl];exact h
  ·rename_i cs hne hl;simp only[hb s _ rfl hl];exact h
  ·rename_i cs hl;simp only[hb s _ rfl hl];split at h
   ·rename_i c hl';rw[Xs hb hl'];exact h
   ·rename_i l hne hl';rw[Xs hb hl']
    cases l with
    | nil=>exact h
    | cons c l=>cases l with
     | nil=>exact absurd rfl (hne c)
     | cons c2 l=>exact h
   ·cases h
  ·cases h
 ·cases h
theorem VD {e E:Env} (hb:EA e E):∀ {caps l:List AV},optAll (caps.map (asnapP e))=some l→optAll (caps.map (asnapP E))=some l
 | [],l,h=>h
 | x::xs,l,h=>by
  simp only[A5]at h ⊢
  cases hx:asnapP e x with
  | none=>rw[hx]at h;cases h
  | some v =>
   rw[hx]at h;rw[Na hb hx];simp only[optAll]at h ⊢;split at h
   ·rename_i l' hl';rw[VD hb hl'];exact h
   ·cases h
theorem qbs {e E:Env} (hb:EA e E) {x y:AV} (h:asnap e x=some y):asnap E x=some y:=by
 cases x with
 | mb kd id =>
  cases kd with
  | succ kd=>simp[asnap]at h
  | zero =>
   simp only[asnap]at h ⊢;split at h
   ·rename_i ks vs hl;simp only[hb id _ rfl hl];exact h
   ·cases h
 | clb f caps =>
  simp only[asnap]at h ⊢;split at h
  ·rename_i l hl;rw[VD hb hl];exact h
  ·cases h
 | sb id e' k off m =>
  simp only[asnap]at h ⊢;split at h
  ·rename_i e2 k2 xs hl;simp only[hb id _ rfl hl];exact h
  ·cases h
 | pb s o =>
  simp only[asnap]at h ⊢;exact Na hb h
 | agr cs =>
  simp only[asnap]at h ⊢;split at h
  ·rename_i l hl;rw[Xs hb hl];exact h
  ·cases h
 | _=>first | exact h | cases h
theorem Uc {e E:Env} {o:Oper} {f:Nat} {args:List AV} (hk:Knows e E o.op.operands.toList) (hb:EA e E) (h:Ja P o e=some (f,args)):Ja P o E=some (f,args):=by
 unfold Ja at h ⊢;split at h
 case h_2=>cases h
 rename_i fo as ats ho;rw[ho]at hk;split at h
 case h_2=>cases h
 rename_i g caps l hf hl;have h1:=hk fo (by simp[Op.operands,Call.operands]) _ hf;have h2:=Qr (E:=E) (fun z hz=>hk z (by simp[Op.operands,Call.operands];exact .inr (by simpa using hz))) hl;simp only[h1,h2];split at h
 case h_2=>cases h
 rename_i fn hfn;split at h
 case h_2=>cases h
 rename_i l' hb' hl'
 have h3:∀ {l l':List AV},optAll (l.map (asnap e))=some l'→optAll (l.map (asnap E))=some l':=by
  intro l
  induction l with
  | nil=>intro l' h;exact h
  | cons x l ih =>
   intro l' h;simp only[A5]at h ⊢
   cases hx:asnap e x with
   | none=>rw[hx]at h;cases h
   | some v =>
    rw[hx]at h;rw[qbs hb hx];simp only[optAll]at h ⊢;split at h
    ·rename_i l2 hl2;rw[ih hl2];exact h
    ·cases h
 simp only[hfn,hb',h3 hl'];exact h
theorem qao {x:AV} (hp:x.plain=true):x.ent=false:=by cases x <;> first | rfl | cases hp
theorem Hk {all:List Oper} {o:Oper} {e e1:Env} {f:Nat} {args:List AV} {r:AV} (hw:awanted all o e=some true) (hc:Ja P o e=some (f,args)) (hp:r.plain=true) (hr:CallOk P f args r) (he:eput n o.dst r e=some e1):Pure1 P n all o e e1:=by
 have hmf:memFree o.op=false:=by
  unfold Ja at hc;split at hc
  case h_2=>cases hc
  rename_i fo as ats ho;rw[ho];rfl
 refine⟨r,he,qao hp,fun E hk hb=>?_⟩
 rcases hb with hb | hb
 ·rw[hmf]at hb;cases hb
 obtain⟨_,hd,_⟩:=jt he;intro bs M O a w h K Q hK;rw[qB h (qZ hk hw)];simp only[if_true]
 exact Va (all:=all) (Uc (jC hk) hb hc) hp hr h fun v w' h' hR=>hK _ _ _ _ (XR h' (ja hR (UE hp)) hd)
theorem Dt {s off:Nat} {vs:List AV} {e e1:Env} (h:putRow s e off vs=some e1):∃ y y':AV,look e s=some y∧y.ent=true∧y'.ent=true∧y'.sk=y.sk∧e1=ins s y' e∧∀ E,look E s=some y→putRow s E off vs=some (ins s y' E):=by
 unfold putRow at h;split at h
 ·cases h
 rename_i h1;split at h
 case h_3=>cases h
 case h_2 =>
  rename_i ks cs hl;split at h
  case h_2=>cases h
  rename_i h2;cases h;refine⟨_,.hob 3 ks (cs.take off++vs.map AV.strip++cs.drop (off+vs.length)),hl,rfl,rfl,rfl,rfl,fun E hE=>?_⟩;unfold putRow;simp only[h1,hE,h2]
 rename_i cs hl;split at h
 case h_2=>cases h
 rename_i h2;cases h;refine⟨_,.box (cs.take off++vs.map AV.strip++cs.drop (off+vs.length)),hl,rfl,rfl,rfl,rfl,fun E hE=>?_⟩;unfold putRow;simp only[h1,hE,h2]
theorem Hj {s off:Nat} {v:AV} {e e1:Env} (h:putCell s e off v=some e1):∃ y y':AV,look e s=some y∧y.ent=true∧y'.ent=true∧y'.sk=y.sk∧e1=ins s y' e∧(∀ cs,y≠.bxg cs)∧∀ E,look E s=some y→putCell s E off v=some (ins s y' E):=by
 unfold putCell at h;split at h
 ·cases h
 rename_i h1;split at h
 case h_3=>cases h
 case h_2 =>
  rename_i ks cs hl;split at h
  case h_2=>cases h
  rename_i h2;cases h;refine⟨_,.hob 3 ks (cs.set off v.strip),hl,rfl,rfl,rfl,rfl,fun _ e=>(by cases e),fun E hE=>?_⟩;unfold putCell;simp only[h1,hE,h2]
 rename_i cs hl;split at h
 case h_2=>cases h
 rename_i h2;cases h;refine⟨_,.box (cs.set off v),hl,rfl,rfl,rfl,rfl,fun _ e=>(by cases e),fun E hE=>?_⟩;unfold putCell;simp only[h1,hE,h2]
theorem Du {id k j off:Nat} {vs:List AV} {e e1:Env} (h:putObj id k j e off vs=some e1):∃ x x':AV,look e id=some x∧x.ent=true∧x'.ent=true∧x'.sk=x.sk∧e1=ins id x' e∧∀ E,look E id=some x→putObj id k j E off vs=some (ins id x' E):=by
 unfold putObj at h;split at h
 case h_2=>cases h
 rename_i e' k' xs hl;split at h
 case h_2=>cases h
 rename_i hk;split at h
 case h_2=>cases h
 rename_i y hy;split at h
 case h_2=>cases h
 rename_i y' hy';cases h;refine⟨_,.obj e' k (xs.set j y'),hl,rfl,rfl,rfl,rfl,fun E hE=>?_⟩;unfold putObj;simp only[hE,hk,hy,hy']
theorem VC {s off:Nat} {v:AV} {e e1:Env} (h:putG s e off v=some e1):∃ y y',look e s=some y∧y.ent=true∧y'.ent=true∧y'.sk=y.sk∧e1=ins s y' e∧∀ E,look E s=some y→putG s E off v=some (ins s y' E):=by
 unfold putG at h;split at h
 ·cases h
 rename_i h0;split at h
 ·rename_i cs hl;split at h
  case h_2=>cases h
  rename_i hc;cases h;exact⟨_,.bxg ((cs.map AV.strip).set off v.strip),hl,rfl,rfl,rfl,rfl,fun E hE=>by unfold putG;simp only[h0,hE,hc]⟩
 ·rename_i cs hl;split at h
  case h_2=>cases h
  rename_i hc;cases h;exact⟨_,.bxg (cs.set off v.strip),hl,rfl,rfl,rfl,rfl,fun E hE=>by unfold putG;simp only[h0,hE,hc]⟩
 ·cases h
theorem qae {all:List Oper} {o:Oper} {e e1:Env} (hw:awanted all o e=some true) (hs:isStore o.op=true) (he:astep P n o e=some e1):St1 P n all o e e1:=by
 cases hop:o.op with
 | store t p x =>
  have he0:=he;unfold astep at he;rw[hop]at he;simp only at he
  have fin:∀ (s:Nat) (y y':AV),o.dst=none→look e s=some y→y.ent=true→y'.ent=true→y'.sk=y.sk→e1=ins s y' e→(∀ E,NA all o e E→look E s=some y→astep P n o E=some (ins s y' E))→St1 P n all o e e1:=by
   intro s y y' hd h1 h2 h3 h4 h5 h6;refine⟨hs,hd,s,y,y',h1,h2,h3,h4,h5,fun E hk hE=>?_⟩;exact YR (qZ hk hw) (h6 E hk hE)
  have hka:∀ E,NA all o e E→∀ z v,z∈[p,x]→aop e z=some v→aop E z=some v:=by
   intro E hk z v hz hv;refine jC hk z ?_ v hv;rw[hop]
   simpa[Op.operands] using hz
  split at he
  ·rename_i s off v sz hd hp hx hsz;split at he
   case h_2=>cases he
   rename_i hlen
   have one:∀ (v:AV),aop e x=some v→Nat.beq v.cells.length sz=true→(∀ cs,v≠.agg cs)→(∀ id e' k o m,v≠.sb id e' k o m)→(∀ kd id,v≠.mb kd id)→(match look e s with | some (.bxg _)=>putG s e off v | _=>putCell s e off v)=some e1→St1 P n all o e e1:=by
    intro v hx hlen hna hnb hnm he;split at he
    ·rename_i cs0 hcs0;obtain⟨y,y',h1,h2,h2',h3,h4,h5⟩:=VC he;rw[hcs0]at h1;cases h1
     refine fin s _ y' hd hcs0 h2 h2' h3 h4 fun E hk hE=>?_
     unfold astep;rw[hop];simp only[hd,hka E hk p _ (by simp) hp,hka E hk x _ (by simp) hx,hsz,hlen];have h6:=h5 E hE
     cases v <;> first | (simp only[hE];exact h6) | exact absurd rfl (hna _) | exact absurd rfl (hnb _ _ _ _ _) | exact absurd rfl (hnm _ _)
    obtain⟨y,y',h1,h2,h2',h3,h4',hny,h5⟩:=Hj he
    refine fin s y y' hd h1 h2 h2' h3 h4' fun E hk hE=>?_
    unfold astep;rw[hop];simp only[hd,hka E hk p _ (by simp) hp,hka E hk x _ (by simp) hx,hsz,hlen];have h4:=h5 E hE
    have h6:(match look E s with | some (.bxg _)=>putG s E off v | _=>putCell s E off v)=some (ins s y' E):=by
     rw[hE]
     cases y <;> first | exact h4 | exact absurd rfl (hny _)
    cases v <;> first | exact h6 | exact absurd rfl (hna _) | exact absurd rfl (hnb _ _ _ _ _) | exact absurd rfl (hnm _ _)
   cases v with
   | agg cs =>
    obtain⟨y,y',h1,h2,h2',h3,h4,h5⟩:=Dt he
    refine fin s y y' hd h1 h2 h2' h3 h4 fun E hk hE=>?_
    unfold astep;rw[hop];simp only[hd,hka E hk p _ (by simp) hp,hka E hk x _ (by simp) hx,hsz,hlen];exact h5 E hE
   | sb id e' k o2 m =>
    obtain⟨y,y',h1,h2,h2',h3,h4,h5⟩:=VC he
    refine fin s y y' hd h1 h2 h2' h3 h4 fun E hk hE=>?_
    unfold astep;rw[hop];simp only[hd,hka E hk p _ (by simp) hp,hka E hk x _ (by simp) hx,hsz,hlen];exact h5 E hE
   | mb kd id =>
    obtain⟨y,y',h1,h2,h2',h3,h4,h5⟩:=VC he
    refine fin s y y' hd h1 h2 h2' h3 h4 fun E hk hE=>?_
    unfold astep;rw[hop];simp only[hd,hka E hk p _ (by simp) hp,hka E hk x _ (by simp) hx,hsz,hlen];exact h5 E hE
   | _=>exact one _ hx hlen (fun cs e=>by cases e) (fun _ _ _ _ _ e=>by cases e) (fun _ _ e=>by cases e) he
  ·rename_i id k j off v sz hd hp hx hsz;split at he
   case h_2=>cases he
   rename_i hlen;obtain⟨y,y',h1,h2,h3,h4,h5,h6⟩:=Du he
   refine fin id y y' hd h1 h2 h3 h4 h5 fun E hk hE=>?_
   unfold astep;rw[hop];simp only[hd,hka E hk p _ (by simp) hp,hka E hk x _ (by simp) hx,hsz,hlen];exact h6 E hE
  ·cases he
 | _=>rw[hop]at hs;cases hs
end
end Go.AM
namespace Go.AM
open Go.RowKit
section
variable {n:Nat} {P:Program}
theorem UQ (acc:Array Nat):∀ (l:List Edge) (s i:Nat),(l.foldl (fun s e=>if A3 .any e then s ||| 2 ^ e.on ||| acc.getD e.on 0 else s) s).testBit i=true →
    s.testBit i=true∨∃ e,e∈l∧A3 .any e=true∧(i=e.on∨(acc.getD e.on 0).testBit i=true)
  | [],s,i,h=>.inl h
  | e::l,s,i,h=>by
    simp only[A9]at h
    rcases UQ acc l _ i h with h1 | ⟨e',he',h1,h2⟩
    · split at h1
      · rename_i hb
        simp only[Nat.testBit_or,B0]at h1
        rcases h1 with (h1 | h1) | h1
        · exact .inl h1
        · refine .inr ⟨e,A2 ..,hb,.inl ?_⟩
          rw[Nat.testBit_two_pow]at h1
          simpa using (of_decide_eq_true h1).symm
        · exact .inr ⟨e,A2 ..,hb,.inr h1⟩
      · exact .inl h1
    · exact .inr ⟨e',A6 _ he',h1,h2⟩
def ji (acc:Array Nat) (o:Oper):Array Nat :=
  acc.push (o.after.foldl (fun s e=>if A3 .any e then s ||| 2 ^ e.on ||| acc.getD e.on 0 else s) 0)
theorem UZ (all:List Oper):A1 all.toArray=all.foldl ji #[]:=by
  unfold A1;rw[← Array.foldl_toList];rfl
theorem QS:∀ (l:List Oper) (acc:Array Nat),(l.foldl ji acc).size=acc.size+l.length
  | [],acc=>rfl
  | o::l,acc=>by
    simp only[A9,List.length_cons];rw[QS l];simp[ji];omega
theorem XY:∀ (l:List Oper) (acc:Array Nat) (j:Nat),j<acc.size→(l.foldl ji acc).getD j 0=acc.getD j 0
  | [],acc,j,h=>rfl
  | o::l,acc,j,h=>by
    simp only[A9];rw[XY l _ j (by simp[ji];omega)];simp[ji,C2,Nat.ne_of_lt h]
theorem qaI (all:List Oper) {j:Nat} {o:Oper} (h:all[j]? = some o) :
    (all.foldl ji #[]).getD j 0=o.after.toList.foldl (fun s e=>if A3 .any e then s ||| 2 ^ e.on ||| ((all.take j).foldl ji #[]).getD e.on 0 else s) 0:=by
  have hj:=(List.getElem?_eq_some_iff.1 h).1
  have hsplit:all=all.take j++o::all.drop (j+1):=by
    have:=List.getElem?_eq_some_iff.1 h;rw[← this.2];simp
  have hs:((all.take j).foldl ji #[]).size=j:=by rw[QS];simp;omega
  conv=>lhs;rw[hsplit]
  rw[List.foldl_append,A9,XY _ _ j (by simp[ji,hs])];simp only[ji];rw[C4,C2,if_pos (by rw[hs])];simp
def Closed (all:List Oper) (S:Nat→Prop):Prop:=∀ j o,all[j]? = some o→S j→∀ e,e∈o.after.toList→A3 .any e=true→S e.on
theorem Yx {all:List Oper} {S:Nat→Prop} (hc:Closed all S):∀ (j:Nat) (o:Oper),all[j]? = some o→(∀ e,e∈o.after.toList→A3 .any e=true→S e.on)→∀ i,((A1 all.toArray).getD j 0).testBit i=true→S i:=by
  intro j
  induction j using Nat.strongRecOn with
  | _ j ih =>
    intro o ho he i hi;rw[UZ,qaI all ho]at hi
    rcases UQ _ _ 0 i hi with h0 | ⟨e,hem,hb,h⟩
    · simp at h0
    · rcases h with rfl | h
      · exact he e hem hb
      · have hlt:e.on<j:=by
          refine A4 fun hle=>?_
          have hs:((all.take j).foldl ji #[]).size≤j:=by rw[QS];simp;omega
          rw[C4,Array.getElem?_eq_none (by omega)]at h;simp at h
        have hj:=(List.getElem?_eq_some_iff.1 ho).1;have ho':all[e.on]? = some (all[e.on]'(by omega)):=A0 _;refine ih e.on hlt _ ho' (hc e.on _ ho' (he e hem hb)) i ?_;rw[UZ];have h1:=XY (all.drop j) ((all.take j).foldl ji #[]) e.on (by rw[QS];simp;omega);rw[← List.foldl_append,List.take_append_drop]at h1;rw[h1];exact h
theorem QQ {o:Op} (h:memFree o=true):isEff o=false:=by
  unfold memFree at h;unfold isEff
  split at h <;> first | rfl | cases h
theorem Ux {o:Op} (h:isStore o=true):isEff o=true:=by
  cases o <;> first | rfl | cases h
def Free (x y:Op):Prop:=(isEff x=false∧isEff y=false)∨(isStore x=true∧memFree y=true)∨(memFree x=true∧isStore y=true)
theorem YW {all:List Oper} (h:orderOk all.toArray=true) {i j:Nat} {x y:Oper} (hij:i<j) (hx:all[i]? = some x) (hy:all[j]? = some y) :
    ((A1 all.toArray).getD j 0).testBit i=true∨(Free x.op y.op∧(∀ d,x.dst=some d→d ∉ namesOf all.toArray y)∧(∀ d,y.dst=some d→d ∉ namesOf all.toArray x)):=by
  unfold orderOk at h;simp only[List.all_eq_true,List.mem_range]at h;have hj:=(List.getElem?_eq_some_iff.1 hy).1;have:=h j (by simpa using hj) i hij;simp only[B0]at this
  rcases this with h1 | h1
  · exact .inl h1
  · refine .inr ?_
    have hx':all.toArray[i]? = some x:=by simpa using hx
    have hy':all.toArray[j]? = some y:=by simpa using hy
    rw[hx',hy']at h1;simp only[Bool.and_eq_true,B0,A7]at h1;obtain⟨⟨h1,h3⟩,h4⟩:=h1;refine⟨?_,fun d hd hm=>?_,fun d hd hm=>?_⟩
    · rcases h1 with (⟨h1,h2⟩ | h1) | h1
      · exact .inl ⟨h1,h2⟩
      · exact .inr (.inl h1)
      · exact .inr (.inr h1)
    · rw[hd]at h3
      simp only[A7,List.any_eq_false]at h3;exact h3 d hm (by simp)
    · rw[hd]at h4
      simp only[A7,List.any_eq_false]at h4;exact h4 d hm (by simp)
theorem DM {all rest:List Oper} {e e':Env} {draw:Bool} (h:Chain P n draw all rest e e') (hd:draw=true):∃ es:Nat→Env,es 0=e∧es rest.length=e'∧∀ i o,rest[i]? = some o→StepOk P n draw all o (es i) (es (i+1)):=by
  induction h with
  | @nil e=>exact⟨fun _=>e,rfl,rfl,fun i o h=>by simp at h⟩
  | drop e0 hf _ _ _=>rw[hf]at hd;cases hd
  | @step o rest e e1 e' hs _ ih =>
    obtain⟨es,h1,h2,h3⟩:=ih;refine⟨fun i=>match i with | 0=>e | i+1=>es i,rfl,h2,fun i o' ho=>?_⟩
    cases i with
    | zero=>simp at ho;subst ho;show StepOk P n draw all o e (es 0);rw[h1];exact hs
    | succ i=>exact h3 i o' (by simpa using ho)
variable {all:List Oper} {es:Nat→Env}
def Wr (all:List Oper) (i t:Nat):Prop:=∃ o,all[i]? = some o∧((isEff o.op=true∧isStore o.op=false)∨o.dst=some t)
def WrE (all:List Oper) (i:Nat):Prop:=∃ o,all[i]? = some o∧isEff o.op=true
theorem QA {d:Option Nat} {x:AV} {E:Env} {t:Nat} (h:d≠some t):look (insO d x E) t=look E t:=by
  cases d with
  | none=>rfl
  | some s =>
    simp only[insO];rw[qA,if_neg (fun e=>h (by rw[e]))]
theorem YY {e:Env} {s t:Nat} {x x':AV} (hl:look e s=some x) (hk:x'.sk=x.sk):lookS (ins s x' e) t=lookS e t:=by
  unfold lookS;rw[qA];split
  · rename_i h;subst h
    rw[hl];simp[hk]
  · rfl
theorem stable (hes:∀ i o,all[i]? = some o→StepOk P n true all o (es i) (es (i+1))) {t:Nat} {i:Nat}:∀ j,i≤j→j≤all.length→(∀ k,i≤k→k<j→¬ Wr all k t)→lookS (es j) t=lookS (es i) t:=by
  intro j
  induction j with
  | zero =>
   intro h _ _;have:i=0:=by omega
   subst this;rfl
  | succ j ih =>
    intro h hl hw;by_cases hij:i=j+1
    · subst hij;rfl
    · have hlt:j<all.length:=by omega
      have ho:all[j]? = some all[j]:=A0 hlt;have hn:=hw j (by omega) (by omega);rw[← ih (by omega) (by omega) (fun k h1 h2=>hw k h1 (by omega))]
      rcases (hes j _ ho).2 rfl with he | ⟨_,_,s,x,x',hx,_,_,hk,e1,_⟩ | ⟨_,x,hx,_⟩
      · exact absurd ⟨_,ho,.inl he.1⟩ hn
      · rw[e1]
        exact YY hx hk
      · obtain⟨e1,_,_⟩:=jt hx
        rw[e1];unfold lookS;rw[QA fun e=>hn ⟨_,ho,.inr e⟩]
theorem Yn (e:Env):EA e e:=fun _ _ _ h=>h
theorem EA.trans {a b c:Env} (h:EA a b) (k:EA b c):EA a c:=fun s x hx hl=>k s x hx (h s x hx hl)
theorem DZ {d:Option Nat} {x:AV} {e e1:Env} (hx:x.ent=false) (he:eput n d x e=some e1):EA e e1∧EA e1 e:=by
  obtain⟨e1',_,hno⟩:=jt he;subst e1'
  cases d with
  | none=>exact⟨Yn _,Yn _⟩
  | some t =>
    simp only[insO];refine⟨fun s y hy hl=>?_,fun s y hy hl=>?_⟩
    · rw[qA]
      split
      · rename_i h;subst h
        rw[hno s rfl y hl]at hy;cases hy
      · exact hl
    · rw[qA]at hl
      split at hl
      · cases hl
        rw[hx]at hy;cases hy
      · exact hl
theorem stableE (hes:∀ i o,all[i]? = some o→StepOk P n true all o (es i) (es (i+1))) {i:Nat}:∀ j,i≤j→j≤all.length→(∀ k,i≤k→k<j→¬ WrE all k)→EA (es i) (es j)∧EA (es j) (es i):=by
  intro j
  induction j with
  | zero =>
   intro h _ _;have:i=0:=by omega
   subst this;exact⟨Yn _,Yn _⟩
  | succ j ih =>
    intro h hl hw;by_cases hij:i=j+1
    · subst hij;exact⟨Yn _,Yn _⟩
    · have hlt:j<all.length:=by omega
      have ho:all[j]? = some all[j]:=A0 hlt;have hn:=hw j (by omega) (by omega);obtain⟨h1,h2⟩:=ih (by omega) (by omega) (fun k h1 h2=>hw k h1 (by omega))
      rcases (hes j _ ho).2 rfl with he | ⟨hs,_⟩ | ⟨_,x,hx,hxe,_⟩
      · exact absurd ⟨_,ho,he.1.1⟩ hn
      · exact absurd ⟨_,ho,Ux hs⟩ hn
      · obtain⟨k1,k2⟩:=DZ hxe hx
        exact⟨h1.trans k1,k2.trans h2⟩
structure Match (all:List Oper) (es:Nat→Env) (S:Nat→Prop) (E:Env):Prop where
  s:∀ t j,j≤all.length→(∀ i,i<j→Wr all i t→S i)→(∀ i,j≤i→Wr all i t→¬ S i)→∀ y,lookS (es j) t=some y→lookS E t=some y
  e:∀ j,j≤all.length→(∀ i,i<j→WrE all i→S i)→(∀ i,j≤i→WrE all i→¬ S i)→EA (es j) E
end
end Go.AM
namespace Go.AM
open Go.RowKit
section
variable {n:Nat} {P:Program} {all:List Oper} {es:Nat→Env}
theorem Hq {S:Nat→Prop} (hes:∀ i o,all[i]? = some o→StepOk P n true all o (es i) (es (i+1))) (hS:∀ i,i<all.length→¬ S i):Match all es S (es 0):=by
 refine⟨fun t j hj h1 h2 y hy=>?_,fun j hj h1 h2=>?_⟩
 ·rw[← stable hes (i:=0) j (Nat.zero_le _) hj (fun k _ hk hw=>hS k (by omega) (h1 k hk hw))];exact hy
 ·exact (stableE hes (i:=0) j (Nat.zero_le _) hj (fun k _ hk hw=>hS k (by omega) (h1 k hk hw))).2
theorem Yv {S:Nat→Prop} {E:Env} (hm:Match all es S E) {j:Nat} (hj:j≤all.length) (h1:∀ i,i<j→S i) (h2:∀ i,j≤i→i<all.length→¬ S i) {t:Nat} {x:AV} (hx:look (es j) t=some x):look E t=some x:=by
 have hlt:∀ i (o:Oper),all[i]? = some o→i<all.length:=fun i o ho=>(List.getElem?_eq_some_iff.1 ho).1
 cases he:x.ent with
 | true=>exact hm.e j hj (fun i hi _=>h1 i hi) (fun i hi ⟨o,ho,_⟩=>h2 i hi (hlt i o ho)) t x he hx
 | false =>
  have:=hm.s t j hj (fun i hi _=>h1 i hi) (fun i hi ⟨o,ho,_⟩=>h2 i hi (hlt i o ho)) x (by simp[lookS,hx,DT he]);unfold lookS at this
  cases hL:look E t with
  | none=>rw[hL]at this;cases this
  | some Y =>
   rw[hL]at this;simp only[B7,Option.some.injEq]at this
   have hY:Y.ent=false:=by rw[← qaU,this];exact he
   rw[DT hY]at this;rw[this]
theorem jy {x y:Op} (h:Free x y):¬ (isEff x=true∧isStore x=false)∧¬ (isEff y=true∧isStore y=false)∧¬ (isEff x=true∧isEff y=true)∧(isEff x=true→memFree y=true)∧(isEff y=true→memFree x=true):=by
 rcases h with ⟨h1,h2⟩ | ⟨h1,h2⟩ | ⟨h1,h2⟩
 ·refine⟨fun h=>?_,fun h=>?_,fun h=>?_,fun h=>?_,fun h=>?_⟩ <;> simp_all
 ·have:=QQ h2;refine⟨fun h=>?_,fun h=>?_,fun h=>?_,fun h=>h2,fun h=>?_⟩ <;> simp_all
 ·have:=QQ h1;refine⟨fun h=>?_,fun h=>?_,fun h=>?_,fun h=>?_,fun h=>h1⟩ <;> simp_all
theorem UX {α:Type} {p q:α→Bool}:∀ {l:List α} {x:α},(∀ y,y∈l→q y=true→p y=true)→x∈l→p x=true→q x=false→l.countP q<l.countP p
 | [],x,_,hx,_,_=>by cases hx
 | z::l,x,h,hx,hp,hq=>by
  have hle:l.countP q≤l.countP p:=List.countP_mono_left fun y hy=>h y (A6 _ hy)
  rw[List.countP_cons,List.countP_cons]
  cases hx with
  | head=>rw[if_pos hp,if_neg (by rw[hq];exact Bool.false_ne_true)];omega
  | tail _ hx =>
   have:=UX (fun y hy=>h y (A6 _ hy)) hx hp hq;by_cases hz:q z=true
   ·rw[if_pos hz,if_pos (h z (A2 ..) hz)];omega
   ·rw[if_neg hz];split <;> omega
def JD (N:Nat) (listed:Array Bool):Nat:=(List.range N).countP fun i=>!listed.getD i true
theorem ZD {listed:Array Bool} {i:Nat} (h:i<listed.size):listed.getD i true=listed.getD i false:=by
 simp[h]
theorem qat {all:List Oper} {o:Oper} {d:Nat} (h:o.dst=some d):d∈namesOf all.toArray o:=by
 unfold namesOf;rw[h];simp
theorem qaN {bs:Base} {Q:Exit→Act→World→Prop} (hes:∀ i o,all[i]? = some o→StepOk P n true all o (es i) (es (i+1))) (hord:orderOk all.toArray=true) (hback:ju all.toArray=true)
  (hQ:∀ a' w' M' O',Inv bs n M' O' (es all.length) a' w'→Q .normal a' w') :
  ∀ (fuel:Nat) (listed:Array Bool) (a:Act) (w:World) (M:Mem) (O:Gh) (E:Env),listed.size=all.length→Closed all (fun i=>listed.getD i false=true)→Match all es (fun i=>listed.getD i false=true) E →
   JD all.length listed≤fuel→Inv bs n M O E a w→wpAny P .any all.toArray Q fuel listed a w:=by
 have done:∀ (listed:Array Bool) (a:Act) (w:World) (M:Mem) (O:Gh) (E:Env),listed.size=all.length→Match all es (fun i=>listed.getD i false=true) E→Inv bs n M O E a w →
   A8 .any all.toArray listed=[]→Q .normal a w:=by
  intro listed a w M O E hsz hm h hr
  have hall:∀ i,i<all.length→listed.getD i false=true:=by
   intro i
   induction i using Nat.strongRecOn with
   | _ i ih =>
    intro hi
    cases hv:listed.getD i false with
    | true=>rfl
    | false =>
     exfalso;have ho:all[i]? = some all[i]:=A0 hi
     have:i∈A8 .any all.toArray listed:=by
      rw[mem_ready];refine⟨by rw[ZD (by omega)];exact hv,all[i],by simp,fun e he hb=>?_⟩
      have hlt:e.on<i:=by
       unfold ju at hback;rw[List.all_eq_true]at hback
       have hmem:(all[i],i)∈all.toArray.toList.zipIdx:=by
        rw[List.mem_iff_getElem?];exact⟨i,by simp[List.getElem?_zipIdx,ho]⟩
       have:=hback _ hmem;rw[Array.all_eq_true_iff_forall_mem]at this;have:=this e he;simp only[B0,A7]at this
       rcases this with h1 | h1
       ·rw[hb]at h1;cases h1
       ·exact Nat.le_of_ble_eq_true h1
      exact ih e.on hlt (by omega)
     rw[hr]at this;cases this
  refine hQ a w M O (h.sub fun t y hy=>.inl (Yv hm (B5 _) (fun i hi=>hall i hi) (fun i hi hw=>by omega) hy))
 intro fuel
 induction fuel with
 | zero =>
  intro listed a w M O E hsz hc hm hu h
  have hr:A8 .any all.toArray listed=[]:=by
   cases hr:A8 .any all.toArray listed with
   | nil=>rfl
   | cons i rs =>
    exfalso
    have hi:i∈A8 .any all.toArray listed:=by rw[hr];exact A2 ..
    rw[mem_ready]at hi;obtain⟨h0,o,ho,_⟩:=hi
    have hil:i<all.length:=by
     have:=(Array.getElem?_eq_some_iff.1 ho).1
     simpa using this
    have:0<JD all.length listed:=by
     unfold JD;rw[List.countP_pos_iff];exact⟨i,List.mem_range.2 hil,by rw[h0];rfl⟩
    omega
  exact⟨hr,done listed a w M O E hsz hm h hr⟩
 | succ fuel ih =>
  intro listed a w M O E hsz hc hm hu h;refine⟨fun hr=>done listed a w M O E hsz hm h hr,fun k hk=>?_⟩;rw[mem_ready]at hk;obtain⟨hk0,ok,hok,hkall⟩:=hk
  have hok':all[k]? = some ok:=by simpa using hok
  have hkl:k<all.length:=(List.getElem?_eq_some_iff.1 hok').1
  have hkf:listed.getD k false=false:=by rw[← ZD (by omega)];exact hk0
  have hdeps:∀ i,((A1 all.toArray).getD k 0).testBit i=true→listed.getD i false=true :=
   Yx hc k ok hok' (fun e he hb=>hkall e (by simpa using he) hb)
  have hnot:∀ i,listed.getD i false=true→i<all.length→((A1 all.toArray).getD i 0).testBit k=false:=by
   intro i hi hil
   cases hb:((A1 all.toArray).getD i 0).testBit k with
   | false=>rfl
   | true =>
    have:=Yx hc i _ (A0 hil) (fun e he hb=>hc i _ (A0 hil) hi e he hb) k hb;simp only[hkf]at this;cases this
  have hsz':(listed.setIfInBounds k true).size=all.length:=by simp[hsz]
  have hset:∀ i,(listed.setIfInBounds k true).getD i false=true↔(i=k∨listed.getD i false=true):=by
   intro i;by_cases hik:i=k
   ·subst hik
    have hkk:i<listed.size:=by omega
    simp[hkk]
   ·rw[getD_set_ne false (fun e=>hik e.symm)];simp[hik]
  have hc':Closed all (fun i=>(listed.setIfInBounds k true).getD i false=true):=by
   intro j o ho hj e he hb;rw[hset]at hj ⊢
   rcases hj with rfl | hj
   ·rw[hok']at ho;cases ho;exact .inr (hkall e (by simpa using he) hb)
   ·exact .inr (hc j o ho hj e he hb)
  have hu':JD all.length (listed.setIfInBounds k true)≤fuel:=by
   have:JD all.length (listed.setIfInBounds k true)<JD all.length listed:=by
    unfold JD;refine UX (x:=k) (fun i hi hq=>?_) (List.mem_range.2 hkl) (by rw[hk0];rfl) ?_
    ·have hil:=List.mem_range.1 hi;simp only[A7]at hq ⊢;rw[ZD (by omega)]at hq ⊢
     cases hv:listed.getD i false with
     | false=>rfl
     | true =>
      have:=(hset i).2 (.inr hv);rw[this]at hq;cases hq
    ·have hkk:k<listed.size:=by omega
     simp[hkk]
   omega
  obtain⟨hsem,hpure⟩:=hes k ok hok'
  have hwp:∀ (K:Act→World→Prop),(if Region.wanted ok (yielded all.toArray a.tmps) then ok.wp P a w K Q else K (a.put ok.dst undef) w)→wpOp P all.toArray Q k K a w:=by
   intro K hK;unfold wpOp;rw[hok];simp only;split
   ·rename_i hw;rw[if_pos hw]at hK;exact .inl hK
   ·rename_i hw;rw[if_neg hw]at hK;exact hK
  refine hwp _ ?_
  have P1:∀ i oi,all[i]? = some oi→i<k→listed.getD i false=true∨(Free oi.op ok.op∧(∀ d,oi.dst=some d→d ∉ namesOf all.toArray ok)∧(∀ d,ok.dst=some d→d ∉ namesOf all.toArray oi)):=by
   intro i oi hoi hi
   rcases YW hord hi hoi hok' with h1 | h1
   ·exact .inl (hdeps i h1)
   ·exact .inr h1
  have P2:∀ i oi,all[i]? = some oi→k<i→listed.getD i false=true→(Free ok.op oi.op∧(∀ d,ok.dst=some d→d ∉ namesOf all.toArray oi)∧(∀ d,oi.dst=some d→d ∉ namesOf all.toArray ok)):=by
   intro i oi hoi hi hl
   rcases YW hord hi hok' hoi with h1 | h1
   ·rw[hnot i hl (List.getElem?_eq_some_iff.1 hoi).1]at h1;cases h1
   ·exact h1
  have hNA:NA all ok (es k) E:=by
   intro t ht y hy;refine hm.s t k (by omega) (fun i hi hw=>?_) (fun i hi hw hl=>?_) y hy
   ·obtain⟨oi,hoi,hwi⟩:=hw
    rcases P1 i oi hoi hi with h1 | ⟨h1,h2,_⟩
    ·exact h1
    ·rcases hwi with hwi | hwi
     ·exact absurd hwi (jy h1).1
     ·exact absurd ht (h2 t hwi)
   ·obtain⟨oi,hoi,hwi⟩:=hw
    rcases B6 k i with hki | hki
    ·obtain⟨h1,h2,h3⟩:=P2 i oi hoi hki hl
     rcases hwi with hwi | hwi
     ·exact absurd hwi (jy h1).2.1
     ·exact absurd ht (h3 t hwi)
    ·have:i=k:=by omega
     subst this;simp only[hkf]at hl;cases hl
  have hEA:memFree ok.op=false→EA (es k) E:=by
   intro hmf;refine hm.e k (by omega) (fun i hi hw=>?_) (fun i hi hw hl=>?_)
   ·obtain⟨oi,hoi,hwi⟩:=hw
    rcases P1 i oi hoi hi with h1 | ⟨h1,_⟩
    ·exact h1
    ·rw[(jy h1).2.2.2.1 hwi]at hmf;cases hmf
   ·obtain⟨oi,hoi,hwi⟩:=hw
    rcases B6 k i with hki | hki
    ·obtain⟨h1,_⟩:=P2 i oi hoi hki hl;rw[(jy h1).2.2.2.2 hwi]at hmf;cases hmf
    ·have:i=k:=by omega
     subst this;simp only[hkf]at hl;cases hl
  rcases hpure rfl with ⟨hhard,_⟩ | ⟨hst,hdn,s,x,x',hx,hxe,hxe',hsk,hes1,hstep⟩ | ⟨hcl,x,hx,hxe,hstep⟩
  ·
   have hbefore:∀ i,i<k→listed.getD i false=true:=by
    intro i hi
    rcases P1 i _ (A0 (by omega)) hi with h1 | ⟨h1,_⟩
    ·exact h1
    ·exact absurd hhard (jy h1).2.1
   have hafter:∀ i,k<i→i<all.length→¬ listed.getD i false=true:=by
    intro i hi hil hli;exact absurd hhard (jy (P2 i _ (A0 hil) hi hli).1).1
   have hE:Inv bs n M O (es k) a w:=h.sub fun t y hy=>.inl (Yv hm (by omega) hbefore (fun i hi hil hl=>by
    rcases B6 k i with h1 | h1
    ·exact hafter i h1 hil hl
    ·have:i=k:=by omega
     subst this;simp only[hkf]at hl
     cases hl) hy)
   refine hsem bs M O a w hE _ Q fun a' w' M' O' h'=>ih _ a' w' M' O' (es (k+1)) hsz' hc' ⟨fun t j hj h1 h2 y hy=>?_,fun j hj h1 h2=>?_⟩ hu' h'
   ·have hkj:k<j:=by
     refine A4 fun hle=>?_
     exact h2 k hle ⟨ok,hok',.inl hhard⟩ ((hset k).2 (.inl rfl))
    have hst:=stable hes (t:=t) (i:=k+1) j hkj hj (fun i hi1 hi2 hw=>by
     rcases (hset i).1 (h1 i hi2 hw) with e | e
     ·omega
     ·exact hafter i (by omega) (by omega) e)
    rw[hst]at hy;exact hy
   ·have hkj:k<j:=by
     refine A4 fun hle=>?_
     exact h2 k hle ⟨ok,hok',hhard.1⟩ ((hset k).2 (.inl rfl))
    exact (stableE hes (i:=k+1) j hkj hj (fun i hi1 hi2 hw=>by
     rcases (hset i).1 (h1 i hi2 hw) with e | e
     ·omega
     ·exact hafter i (by omega) (by omega) e)).2
  ·
   have heff:=Ux hst
   have hmf:memFree ok.op=false:=by
    cases hv:memFree ok.op with
    | false=>rfl
    | true=>rw[QQ hv]at heff;cases heff
   have hea:=hEA hmf;have hxE:look E s=some x:=hea s x hxe hx
   have hkw:∀ t,¬ Wr all k t:=by
    rintro t ⟨o',ho',hw'⟩
    rw[hok']at ho';cases ho'
    rcases hw' with hw' | hw'
    ·rw[hst]at hw';cases hw'.2
    ·rw[hdn]at hw';cases hw'
   refine hstep E hNA hxE bs M O a w h _ Q fun a' w' M' O' h'=>ih _ a' w' M' O' _ hsz' hc' ⟨fun t j hj h1 h2 y hy=>?_,fun j hj h1 h2=>?_⟩ hu' h'
   ·rw[YY hxE hsk];refine hm.s t j hj (fun i hi hw=>?_) (fun i hi hw hl=>h2 i hi hw ((hset i).2 (.inr hl))) y hy
    rcases (hset i).1 (h1 i hi hw) with e | e
    ·subst e;exact absurd hw (hkw t)
    ·exact e
   ·have hkj:k<j:=by
     refine A4 fun hle=>?_
     exact h2 k hle ⟨ok,hok',heff⟩ ((hset k).2 (.inl rfl))
    have hst2:=(stableE hes (i:=k+1) j hkj hj (fun i hi1 hi2 hw=>by
     rcases (hset i).1 (h1 i hi2 hw) with e | e
     ·omega
     ·obtain⟨oi,hoi,hwi⟩:=hw
      exact (jy (P2 i oi hoi (by omega) e).1).2.2.1 ⟨heff,hwi⟩)).2
    refine hst2.trans ?_;rw[hes1];intro t y hy hl;rw[qA]at hl ⊢;split
    ·rename_i e;rw[if_pos e]at hl;exact hl
    ·rename_i e;rw[if_neg e]at hl;exact hea t y hy hl
  ·
   obtain⟨hes1,hdn,hdent⟩:=jt hx
   have hnoth:¬ (isEff ok.op=true∧isStore ok.op=false):=by
    rintro⟨e1,e2⟩
    rcases hcl with e | e
    ·rw[e]at e1;cases e1
    ·rw[e]at e2;cases e2
   have hmem:memFree ok.op=true∨EA (es k) E:=by
    cases hv:memFree ok.op with
    | true=>exact .inl rfl
    | false=>exact .inr (hEA hv)
   refine hstep E hNA hmem bs M O a w h _ Q fun a' w' M' O' h'=>ih _ a' w' M' O' _ hsz' hc' ⟨fun t j hj h1 h2 y hy=>?_,fun j hj h1 h2=>?_⟩ hu' h'
   ·by_cases hdt:ok.dst=some t
    ·have hkw:Wr all k t:=⟨ok,hok',.inr hdt⟩
     have hkj:k<j:=by
      refine A4 fun hle=>?_
      exact h2 k hle hkw ((hset k).2 (.inl rfl))
     have hst:=stable hes (t:=t) (i:=k+1) j hkj hj (fun i hi1 hi2 hw=>by
      rcases (hset i).1 (h1 i hi2 hw) with e | e
      ·omega
      ·obtain⟨oi,hoi,hwi⟩:=hw;obtain⟨g1,g2,_⟩:=P2 i oi hoi (by omega) e
       rcases hwi with hwi | hwi
       ·exact (jy g1).2.1 hwi
       ·exact g2 t hdt (qat hwi))
     rw[hst,hes1,hdt]at hy;unfold lookS at hy ⊢;rw[hdt];simp only[insO]at hy ⊢;rw[qA,if_pos rfl]at hy ⊢;exact hy
    ·unfold lookS;rw[QA hdt]
     have hkw:¬ Wr all k t:=by
      rintro⟨o',ho',hw'⟩
      rw[hok']at ho';cases ho'
      rcases hw' with hw' | hw'
      ·exact hnoth hw'
      ·exact hdt hw'
     refine hm.s t j hj (fun i hi hw=>?_) (fun i hi hw hl=>h2 i hi hw ((hset i).2 (.inr hl))) y hy
     rcases (hset i).1 (h1 i hi hw) with e | e
     ·subst e;exact absurd hw hkw
     ·exact e
   ·
    have out:∀ {F:Env},EA F E→(∀ d,ok.dst=some d→∀ y,look F d=some y→y.ent=false)→EA F (insO ok.dst x E):=by
     intro F hF hno t y hy hl;by_cases hdt:ok.dst=some t
     ·rw[hno t hdt y hl]at hy;cases hy
     ·rw[QA hdt];exact hF t y hy hl
    by_cases hke:isEff ok.op=true
    ·have hmf:memFree ok.op=false:=by
      cases hv:memFree ok.op with
      | false=>rfl
      | true=>rw[QQ hv]at hke;cases hke
     have hkj:k<j:=by
      refine A4 fun hle=>?_
      exact h2 k hle ⟨ok,hok',hke⟩ ((hset k).2 (.inl rfl))
     have hst2:=(stableE hes (i:=k+1) j hkj hj (fun i hi1 hi2 hw=>by
      rcases (hset i).1 (h1 i hi2 hw) with e | e
      ·omega
      ·obtain⟨oi,hoi,hwi⟩:=hw
       exact (jy (P2 i oi hoi (by omega) e).1).2.2.1 ⟨hke,hwi⟩)).2
     exact (hst2.trans (DZ hxe hx).2).trans (out (hEA hmf) hdent)
    ·have hkw:¬ WrE all k:=by
      rintro⟨o',ho',hw'⟩
      rw[hok']at ho';cases ho';exact hke hw'
     have hej:EA (es j) E:=hm.e j hj (fun i hi hw=>by
      rcases (hset i).1 (h1 i hi hw) with e | e
      ·subst e;exact absurd hw hkw
      ·exact e) (fun i hi hw hl=>h2 i hi hw ((hset i).2 (.inr hl)))
     refine out hej fun d hd y hy=>?_
     rcases B6 k j with hkj | hkj
     ·
      have key:∀ i,k+1≤i→i≤j→∀ y,look (es i) d=some y→y.ent=false:=by
       intro i
       induction i with
       | zero=>intro h;omega
       | succ i ihi =>
        intro hi1 hi2 y hy;by_cases hik:k=i
        ·subst hik;rw[hes1,hd]at hy;simp only[insO]at hy;rw[qA,if_pos rfl]at hy;cases hy;exact hxe
        ·have hil:i<all.length:=by omega
         have hoi:all[i]? = some all[i]:=A0 hil
         rcases (hes i _ hoi).2 rfl with ⟨he,_⟩ | ⟨_,_,s',z,z',hz,hze,hze',_,e1,_⟩ | ⟨_,z,hz,hze,_⟩
         ·exfalso
          rcases (hset i).1 (h1 i (by omega) ⟨_,hoi,he.1⟩) with e | e
          ·omega
          ·exact absurd he (jy (P2 i _ hoi (by omega) e).1).2.1
         ·rw[e1,qA]at hy;split at hy
          ·rename_i e;subst e;have:=ihi (by omega) (by omega) z hz;rw[hze]at this;cases this
          ·exact ihi (by omega) (by omega) y hy
         ·obtain⟨e1,_,_⟩:=jt hz;rw[e1]at hy;by_cases hdi:all[i].dst=some d
          ·rw[hdi]at hy;simp only[insO]at hy;rw[qA,if_pos rfl]at hy;cases hy;exact hze
          ·rw[QA hdi]at hy;exact ihi (by omega) (by omega) y hy
      exact key j (by omega) (B5 _) y hy
     ·
      cases hye:y.ent with
      | false=>rfl
      | true =>
       exfalso
       have key:∀ i,j≤i→i≤k→∃ z,look (es i) d=some z∧z.ent=true:=by
        intro i
        induction i with
        | zero =>
         intro hi1 _
         have:j=0:=by omega
         subst this;exact⟨y,hy,hye⟩
        | succ i ihi =>
         intro hi1 hi2;by_cases hij:j=i+1
         ·subst hij;exact⟨y,hy,hye⟩
         ·have hil:i<all.length:=by omega
          have hoi:all[i]? = some all[i]:=A0 hil;obtain⟨z0,hz0,hze0⟩:=ihi (by omega) (by omega)
          rcases (hes i _ hoi).2 rfl with ⟨he,_⟩ | ⟨_,_,s',z,z',hz,hze,hze',_,e1,_⟩ | ⟨_,z,hz,hze,_⟩
          ·exfalso;refine h2 i (by omega) ⟨_,hoi,he.1⟩ ((hset i).2 (.inr ?_))
           rcases P1 i _ hoi (by omega) with e | ⟨e,_⟩
           ·exact e
           ·exact absurd he (jy e).1
          ·rw[e1,qA];split
           ·exact⟨z',rfl,hze'⟩
           ·exact⟨z0,hz0,hze0⟩
          ·obtain⟨e1,_,e3⟩:=jt hz;rw[e1];by_cases hdi:all[i].dst=some d
           ·have:=e3 d hdi z0 hz0;rw[hze0]at this;cases this
           ·rw[QA hdi];exact⟨z0,hz0,hze0⟩
       obtain⟨z,hz,hze⟩:=key k hkj (B5 _);have:=hdent d hd z hz;rw[hze]at this;cases this
theorem He {bs:Base} {M:Mem} {O:Gh} {a:Act} {w:World} {id:Nat} {ops:Array Oper} {e e':Env} (hmix:P.follows .mixedOrders=true) (hord:orderOk ops=true) (hback:ju ops=true)
  (hc:Chain P n true ops.toList ops.toList e e') (h:Inv bs n M O e a w) {Q:Exit→Act→World→Prop} (hQ:∀ a' w' M' O',Inv bs n M' O' e' a' w'→Q .normal a' w'):(Code.region id ops true).wp P Q a w:=by
 obtain⟨es,h1,h2,h3⟩:=DM hc rfl;have ea:ops.toList.toArray=ops:=Array.toArray_toList;refine wp_region_any hmix ?_;have hdr:Inv bs n M O e a { w with drawn:=w.drawn+1 }:=h.grown (row:=none) (fun g e=>by cases e) ⟨rfl,rfl,rfl,B5 _,fun _ _ _=>rfl⟩ (Sub.refl M) (fun b o u hu=>h.cons b o u hu) (fun _ _ _ _=>rfl);have:=qaN (P:=P) (n:=n) (all:=ops.toList) (es:=es) (bs:=bs) (Q:=Q) h3 (by rw[ea];exact hord) (by rw[ea];exact hback) (fun a' w' M' O' h'=>hQ a' w' M' O' (by rw[← h2];exact h')) ops.size (Array.replicate ops.size false) a { w with drawn:=w.drawn+1 } M O e (by simp)
  (fun j o ho hj=>by simp[Array.getElem?_replicate]at hj;split at hj <;> simp at hj)
  (by
   rw[← h1]
   exact Hq h3 (fun i hi hS=>by
    have:i<ops.size:=by simpa using hi
    simp[this]at hS))
  (by
   unfold JD;have:=List.countP_le_length (p:=fun i=>!(Array.replicate ops.size false).getD i true) (l:=List.range ops.toList.length)
   simpa using this) hdr
 rw[ea]at this;exact this
end
end Go.AM
