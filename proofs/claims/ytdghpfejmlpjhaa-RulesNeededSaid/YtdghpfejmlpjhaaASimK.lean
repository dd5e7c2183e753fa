/- s -/
import Derived.Test.YtdghpfejmlpjhaaASimJ
set_option linter.unusedVariables false
set_option linter.unusedSimpArgs false
namespace Go.AM
open Go.RowKit
section
variable {n:Nat} {P:Program}
def Knows (e E:Env) (xs:List Operand):Prop:=∀ x,x∈xs→∀ v,aop e x=some v→aop E x=some v
theorem qfw (x:AV):x.sk.ent=x.ent:=by cases x <;> rfl
theorem qdS {x:AV} (h:x.ent=false):x.sk=x:=by cases x <;> first | rfl | cases h
theorem qfi {e E:Env} {t:Nat} {v:AV} (h:∀ y,lookS e t=some y→lookS E t=some y) (hv:aop e (.tmp t)=some v):aop E (.tmp t)=some v:=by
 simp only[aop]at hv ⊢
 cases hl:look e t with
 | none=>rw[hl]at hv;cases hv
 | some y =>
  have:=h y.sk (by simp[lookS,hl]);simp only[lookS]at this
  cases hL:look E t with
  | none=>rw[hL]at this;cases this
  | some Y =>
   rw[hL]at this;simp only[Option.map_some,Option.some.injEq]at this;rw[hl]at hv
   cases y <;> cases Y <;> simp only[AV.sk]at this <;> first | (cases this;exact hv) | (cases this;done) | exact hv | (simp at hv;done)
theorem qfT {e E:Env} {ts:List Nat} (h:∀ t,t∈ts→∀ y,lookS e t=some y→lookS E t=some y) {xs:List Operand} (hx:∀ x t,x∈xs→x=.tmp t→t∈ts):Knows e E xs:=by
 intro x hxm v hv
 cases x with
 | tmp t=>exact qfi (h t (hx _ t hxm rfl)) hv
 | _=>exact hv
theorem Yh {e E:Env}:∀ {xs:List Operand} {l:List AV},Knows e E xs→optAll (xs.map (aop e))=some l→optAll (xs.map (aop E))=some l
 | [],l,_,h=>h
 | x::xs,l,hk,h=>by
  simp only[List.map_cons]at h ⊢
  cases hx:aop e x with
  | none=>rw[hx]at h;cases h
  | some v =>
   rw[hx]at h;rw[hk x (List.mem_cons_self ..) v hx];simp only[optAll]at h ⊢
   split at h
   ·rename_i l' hl';rw[Yh (fun y hy=>hk y (List.mem_cons_of_mem _ hy)) hl'];exact h
   ·cases h
theorem Vi {e E:Env}:∀ {ps:List (Nat×Operand)} {l:List (Nat×AV)},Knows e E (ps.map (·.2)) →
  optAll (ps.map fun p=>match aop e p.2 with | some v=>some (p.1,v) | none=>none)=some l→optAll (ps.map fun p=>match aop E p.2 with | some v=>some (p.1,v) | none=>none)=some l
 | [],l,_,h=>h
 | (i,x)::ps,l,hk,h=>by
  simp only[List.map_cons]at h ⊢ hk
  cases hx:aop e x with
  | none=>rw[hx]at h;cases h
  | some v =>
   rw[hx]at h;rw[hk x (List.mem_cons_self ..) v hx];simp only[optAll]at h ⊢
   split at h
   ·rename_i l' hl';rw[Vi (fun y hy=>hk y (List.mem_cons_of_mem _ hy)) hl'];exact h
   ·cases h
theorem YZ {e E:Env} {d:Int} {x:Option Operand} (hk:Knows e E x.toList) {m:Int} (h:aoptInt e d x=some m):aoptInt E d x=some m:=by
 cases x with
 | none=>exact h
 | some y =>
  simp only[aoptInt]at h ⊢
  split at h
  ·rename_i k m' hy;rw[hk y (by simp) _ hy];exact h
  ·cases h
theorem qcE {e E:Env} {t:TypeId} {p r:AV} (hb:EA e E) (h:aload P e t p=some r):aload P E t p=some r:=by
 unfold aload at h ⊢
 split at h
 ·rename_i s off
  split at h
  ·rename_i cs hl;simp only[hb s _ rfl hl];exact h
  ·rename_i cs hl;simp only[hb s _ rfl hl];exact h
  ·rename_i ks cs hl;simp only[hb s _ rfl hl];exact h
  ·cases h
 ·exact h
 ·rename_i id k j o
  split at h
  ·rename_i e' k' xs hl;simp only[hb id _ rfl hl];exact h
  ·cases h
 ·cases h
theorem DB {e E:Env} {m:AV} {q:List AV×List AV} (hb:EA e E) (h:XH e m=some q):XH E m=some q:=by
 unfold XH at h ⊢
 split at h
 ·exact h
 ·rename_i id
  split at h
  ·rename_i ks vs hl;simp only[hb id _ rfl hl];exact h
  ·cases h
 ·cases h
theorem DH {e E:Env} {t:TypeId} {m k r:AV} (hb:EA e E) (h:alookup P t e m k=some r):alookup P t E m k=some r:=by
 unfold alookup at h ⊢
 split at h
 ·rename_i kt et ks vs ht he;simp only[ht,DB hb he];exact h
 ·cases h
theorem qbp {e E:Env} {t:TypeId} {p r:AV} {lo hi:Option Operand} (hk:Knows e E (lo.toList++hi.toList)) (h:aslice P t p lo hi e=some r):aslice P t p lo hi E=some r:=by
 have h1:∀ d m,aoptInt e d lo=some m→aoptInt E d lo=some m:=fun d m=>YZ fun x hx=>hk x (List.mem_append_left _ hx)
 have h2:∀ d m,aoptInt e d hi=some m→aoptInt E d hi=some m:=fun d m=>YZ fun x hx=>hk x (List.mem_append_right _ hx)
 unfold aslice at h ⊢
 split at h
 ·split at h
  ·split at h
   ·split at h
    ·rename_i l m hl hm;simp only[h1 _ _ hl,h2 _ _ hm]
     simp_all
    ·cases h
   ·cases h
  ·cases h
 ·split at h
  ·split at h
   ·split at h
    ·rename_i l m hl hm;simp only[h1 _ _ hl,h2 _ _ hm]
     simp_all
    ·cases h
   ·cases h
  ·cases h
 ·split at h
  ·split at h
   ·rename_i l m hl hm;simp only[h1 _ _ hl,h2 _ _ hm]
    simp_all
   ·cases h
  ·cases h
 ·split at h
  ·split at h
   ·rename_i l m hl hm;simp only[h1 _ _ hl,h2 _ _ hm]
    simp_all
   ·cases h
  ·cases h
 ·cases h
theorem Vv {e E:Env} {o:Oper} {x:AV} (hk:Knows e E o.op.operands.toList) (hb:memFree o.op=true∨EA e E) (h:apure P o e=some x):apure P o E=some x:=by
 obtain⟨dst,op,ty,pos,after,guard⟩:=o
 cases op with
 | move y=>exact hk y (by simp[Op.operands]) _ h
 | assign y=>exact hk y (by simp[Op.operands]) _ h
 | pick c p q =>
  simp only[apure]at h ⊢
  split at h
  ·rename_i hc;rw[hk c (by simp[Op.operands]) _ hc];exact hk p (by simp[Op.operands]) _ h
  ·rename_i hc;rw[hk c (by simp[Op.operands]) _ hc];exact hk q (by simp[Op.operands]) _ h
  ·cases h
 | binOp op t y z t' =>
  simp only[apure]at h ⊢
  split at h
  ·rename_i p q hp hq;rw[hk y (by simp[Op.operands]) _ hp,hk z (by simp[Op.operands]) _ hq];exact h
  ·cases h
 | unOp op t y =>
  simp only[apure]at h ⊢
  split at h
  ·rename_i p hp;rw[hk y (by simp[Op.operands]) _ hp];exact h
  ·cases h
 | convert s t y =>
  simp only[apure]at h ⊢
  split at h
  ·rename_i p hp;rw[hk y (by simp[Op.operands]) _ hp];exact h
  ·cases h
 | build t ps =>
  simp only[apure]at h ⊢
  split at h
  ·rename_i l hl;have:parts? E ps=some l:=Vi (by simpa[Op.operands] using hk) hl;rw[this];exact h
  ·cases h
 | buildSlice t m ps =>
  simp only[apure]at h ⊢
  split at h
  ·rename_i l hl;have:parts? E ps=some l:=Vi (by simpa[Op.operands] using hk) hl;rw[this];exact h
  ·cases h
 | load t y =>
  simp only[apure]at h ⊢
  split at h
  ·rename_i p hp;rw[hk y (by simp[Op.operands]) _ hp]
   rcases hb with hb | hb
   ·cases hb
   ·exact qcE hb h
  ·cases h
 | fieldAddr t y f =>
  simp only[apure]at h ⊢
  split at h
  ·rename_i p hp;rw[hk y (by simp[Op.operands]) _ hp];exact h
  ·cases h
 | field t y f =>
  simp only[apure]at h ⊢
  split at h
  ·rename_i cs o' ft sz hp hf;rw[hk y (by simp[Op.operands]) _ hp,hf];exact h
  ·rename_i cs o' ft sz hp hf;rw[hk y (by simp[Op.operands]) _ hp,hf];exact h
  ·cases h
 | indexAddr t y i =>
  simp only[apure]at h ⊢
  split at h
  ·rename_i p q hp hq;rw[hk y (by simp[Op.operands]) _ hp,hk i (by simp[Op.operands]) _ hq];exact h
  ·cases h
 | index t y i =>
  simp only[apure]at h ⊢
  split at h
  ·rename_i p q hp hq;rw[hk y (by simp[Op.operands]) _ hp,hk i (by simp[Op.operands]) _ hq];exact h
  ·cases h
 | slice t y lo hi mx =>
  cases mx with
  | some mx =>
   cases hi with
   | none=>simp[apure]at h
   | some hi =>
    simp only[apure]at h ⊢
    split at h
    case h_2=>cases h
    rename_i e0 k0 lab xs k2 m hp hm;simp only[hk y (by simp[Op.operands]) _ hp,hk mx (by simp[Op.operands]) _ hm]
    split at h
    case h_2=>cases h
    rename_i e' k' hse
    split at h
    case h_2=>cases h
    rename_i l k1 c hkk hl hh;simp only[hse,hkk,YZ (E:=E) (fun z hz=>hk z (by simp[Op.operands]at hz ⊢;exact .inr (.inl hz))) hl,hk hi (by simp[Op.operands]) _ hh];exact h
  | none =>
   simp only[apure]at h ⊢
   split at h
   ·rename_i p hp;rw[hk y (by simp[Op.operands]) _ hp];refine qbp (fun z hz=>hk z ?_) h;simp only[Op.operands]
    simp at hz ⊢
    rcases hz with hz | hz
    ·exact .inr (.inl hz)
    ·exact .inr (.inr hz)
   ·cases h
 | lookup t y k c =>
  cases c with
  | true=>simp[apure]at h
  | false =>
   have hb:EA e E:=by
    rcases hb with hb | hb
    ·simp[memFree]at hb
    ·exact hb
   simp only[apure]at h ⊢
   split at h
   ·rename_i p q hp hq;rw[hk y (by simp[Op.operands]) _ hp,hk k (by simp[Op.operands]) _ hq]
    simp only
    rw[Option.map_eq_some_iff]at h ⊢;obtain⟨r,hr,e1⟩:=h;exact⟨r,DH hb hr,e1⟩
   ·cases h
 | entry y =>
  have hb:EA e E:=by
   rcases hb with hb | hb
   ·simp[memFree]at hb
   ·exact hb
  simp only[apure]at h ⊢
  split at h
  ·rename_i id hp;rw[hk y (by simp[Op.operands]) _ hp]
   simp only
   split at h
   ·rename_i k ks v vs hl;simp only[hb id _ rfl hl];exact h
   ·cases h
  ·cases h
 | makeFunc fn first caps =>
  cases fn <;> simp only[apure]at h ⊢ <;> try (cases h;done)
  split at h
  ·rename_i l hf hl;rw[Yh (fun z hz=>hk z (by simp[Op.operands];exact .inr (by simpa using hz))) hl];simp only[hf];exact h
  ·cases h
 | extract y i =>
  simp only[apure]at h ⊢
  split at h
  ·rename_i vs hp;rw[hk y (by simp[Op.operands]) _ hp];exact h
  ·rename_i id e' k off m rest hp;rw[hk y (by simp[Op.operands]) _ hp];exact h
  ·cases h
 | nilCheck y =>
  simp only[apure]at h ⊢
  split at h
  ·rename_i z hp;rw[hk y (by simp[Op.operands]) _ hp];exact h
  ·rename_i b z hp;rw[hk y (by simp[Op.operands]) _ hp];exact h
  ·rename_i s m hp;rw[hk y (by simp[Op.operands]) _ hp];exact h
  ·cases h
 | call c =>
  obtain⟨callee,args,ats⟩:=c
  cases callee with
  | value f=>simp[apure]at h
  | invoke r m=>simp[apure]at h
  | builtin b =>
   have hka:∀ y,y∈args.toList→∀ v,aop e y=some v→aop E y=some v:=fun y hy=>hk y (by simp[Op.operands,Call.operands];simpa using hy)
   cases b <;> simp only[apure]at h ⊢ <;> try (cases h;done)
   case len =>
    split at h
    ·rename_i y t ha ht
     split at h
     ·rename_i p hp;rw[hka y (by rw[ha];simp) _ hp];exact h
     ·cases h
    ·cases h
   case max =>
    split at h
    ·rename_i y z ha
     split at h
     ·rename_i k p k' q hp hq;rw[hka y (by rw[ha];simp) _ hp,hka z (by rw[ha];simp) _ hq];exact h
     ·cases h
    ·cases h
   case min =>
    split at h
    ·rename_i y z ha
     split at h
     ·rename_i k p k' q hp hq;rw[hka y (by rw[ha];simp) _ hp,hka z (by rw[ha];simp) _ hq];exact h
     ·cases h
    ·cases h
 | _=>simp[apure]at h
theorem DI {e E:Env} {o:Oper} {f:Nat} {args:List AV} (hk:Knows e E o.op.operands.toList) (h:acallee P o e=some (f,args)):acallee P o E=some (f,args):=by
 unfold acallee at h ⊢
 split at h
 case h_2=>cases h
 rename_i fo as ats ho;rw[ho]at hk
 split at h
 case h_2=>cases h
 rename_i g caps l hf hl;have h1:=hk fo (by simp[Op.operands,Call.operands]) _ hf;have h2:=Yh (E:=E) (fun z hz=>hk z (by simp[Op.operands,Call.operands];exact .inr (by simpa using hz))) hl;simp only[h1,h2];exact h
theorem jY {all:List Oper} {e E:Env} {o:Oper} {b:Bool} (hk:NA all o e E) (h:awanted all o e=some b):awanted all o E=some b:=by
 unfold awanted at h ⊢
 split at h
 ·exact h
 ·rename_i j want hg
  split at h
  ·cases h
  ·rename_i t ht
   have hmem:t∈namesOf all.toArray o:=by
    unfold namesOf;rw[hg];refine List.mem_append_right _ ?_
    have ht':(all.toArray[j]?.bind fun x=>x.dst)=some t:=by simpa using ht
    simp only[ht']
    simp
   have key:∀ y,y.ent=false→look e t=some y→look E t=some y:=by
    intro y hy hl;have:=hk t hmem y (by simp[lookS,hl,qdS hy]);simp only[lookS]at this
    cases hL:look E t with
    | none=>rw[hL]at this;cases this
    | some Y =>
     rw[hL]at this;simp only[Option.map_some,Option.some.injEq]at this
     have hY:Y.ent=false:=by rw[← qfw,this];exact hy
     rw[qdS hY]at this;rw[this]
   split at h
   ·rename_i c hl;simp only[ht,key _ rfl hl];exact h
   ·rename_i hl;simp only[ht,key _ rfl hl];exact h
   ·cases h
theorem JX {all:List Oper} {e E:Env} {o:Oper} (hk:NA all o e E):Knows e E o.op.operands.toList:=by
 refine qfT hk fun x t hx ht=>?_
 subst ht;unfold namesOf;refine List.mem_append_left _ (List.mem_append_right _ ?_);exact List.mem_filterMap.2 ⟨_,hx,rfl⟩
theorem qfK {all:List Oper} {o:Oper} {e e1:Env} {x:AV} (hw:awanted all o e=some true) (hx:apure P o e=some x) (he:eput n o.dst x e=some e1) (hnb:x.ent=false):Pure1 P n all o e e1:=by
 refine⟨x,he,hnb,fun E hk hb=>?_⟩;obtain⟨_,hd,_⟩:=JN he;intro bs M O a w h K Q hK;rw[qZ h (jY hk hw)];simp only[if_true];obtain⟨v,w',M',h1,h2,h3,h4,h5,h6⟩:=Ue h (Vv (JX hk) hb hx);have h':=h.grown (row:=none) (fun g e=>by cases e) h2 h3 h4 (fun b o hb _=>h5 b o hb);unfold Oper.wp;rw[h1];exact hK _ _ _ _ (Vn h' h6 hd)
theorem DW {all:List Oper} {o:Oper} {e e1:Env} (hw:awanted all o e=some false) (he:eput n o.dst .und e=some e1):Pure1 P n all o e e1:=by
 refine⟨.und,he,rfl,fun E hk hb=>?_⟩;obtain⟨_,hd,_⟩:=JN he;intro bs M O a w h K Q hK;rw[qZ h (jY hk hw)];simp only[Bool.false_eq_true,if_false];exact hK _ _ _ _ (Vn h (x:=.und) ⟨.und,trivial⟩ hd)
theorem qdg {all:List Oper} {o:Oper} {e e1:Env} {f:Nat} {args:List AV} {r:AV} (hw:awanted all o e=some true) (hc:acallee P o e=some (f,args)) (hr:CallOk P f args r) (he:callPut n true o.dst r e=some e1):Pure1 P n all o e e1:=by
 have he':notBox r.strip=true∧eput n o.dst r.strip e=some e1:=by
  unfold callPut at he;simp only at he
  split at he
  ·rename_i hb;exact⟨hb,he⟩
  ·cases he
 obtain⟨hnb,he⟩:=he';refine⟨r.strip,he,by simpa[notBox] using hnb,fun E hk hb=>?_⟩;obtain⟨_,hd,_⟩:=JN he;intro bs M O a w h K Q hK;rw[qZ h (jY hk hw)];simp only[if_true]
 exact UU (all:=all) (DI (JX hk) hc) hr h fun v w' M' h' hR _ _ _=>hK _ _ _ _ (Vn h' (jZ hR.strip (Xq r)) hd)
theorem qfh {e E:Env} (hb:EA e E) {x y:AV} (h:asnapC e x=some y):asnapC E x=some y:=by
 unfold asnapC at h ⊢
 split at h
 ·rename_i id
  split at h
  ·rename_i ks vs hl;simp only[hb id _ rfl hl];exact h
  ·cases h
 ·rename_i id e' k off m
  split at h
  ·rename_i e2 k2 xs hl;simp only[hb id _ rfl hl];exact h
  ·cases h
 ·exact h
theorem ZA {e E:Env} (hb:EA e E):∀ {caps l:List AV},optAll (caps.map (asnapC e))=some l→optAll (caps.map (asnapC E))=some l
 | [],l,h=>h
 | x::xs,l,h=>by
  simp only[List.map_cons]at h ⊢
  cases hx:asnapC e x with
  | none=>rw[hx]at h;cases h
  | some v =>
   rw[hx]at h;rw[qfh hb hx];simp only[optAll]at h ⊢
   split at h
   ·rename_i l' hl';rw[ZA hb hl'];exact h
   ·cases h
theorem qaE {e E:Env} (hb:EA e E) {x y:AV} (h:asnapP e x=some y):asnapP E x=some y:=by
 unfold asnapP at h ⊢
 split at h
 ·exact h
 ·rename_i s
  split at h
  ·rename_i c hl;simp only[hb s _ rfl hl];exact h
  ·rename_i cs hne hl;simp only[hb s _ rfl hl];exact h
  ·rename_i cs hl;simp only[hb s _ rfl hl]
   split at h
   ·rename_i c hl';rw[ZA hb hl'];exact h
   ·rename_i l hne hl';rw[ZA hb hl']
    cases l with
    | nil=>exact h
    | cons c l=>cases l with
     | nil=>exact absurd rfl (hne c)
     | cons c2 l=>exact h
   ·cases h
  ·cases h
 ·cases h
theorem HA {e E:Env} (hb:EA e E):∀ {caps l:List AV},optAll (caps.map (asnapP e))=some l→optAll (caps.map (asnapP E))=some l
 | [],l,h=>h
 | x::xs,l,h=>by
  simp only[List.map_cons]at h ⊢
  cases hx:asnapP e x with
  | none=>rw[hx]at h;cases h
  | some v =>
   rw[hx]at h;rw[qaE hb hx];simp only[optAll]at h ⊢
   split at h
   ·rename_i l' hl';rw[HA hb hl'];exact h
   ·cases h
theorem qgo {e E:Env} (hb:EA e E) {x y:AV} (h:asnap e x=some y):asnap E x=some y:=by
 cases x with
 | mb kd id =>
  cases kd with
  | succ kd=>simp[asnap]at h
  | zero =>
   simp only[asnap]at h ⊢
   split at h
   ·rename_i ks vs hl;simp only[hb id _ rfl hl];exact h
   ·cases h
 | clb f caps =>
  simp only[asnap]at h ⊢
  split at h
  ·rename_i l hl;rw[HA hb hl];exact h
  ·cases h
 | sb id e' k off m =>
  simp only[asnap]at h ⊢
  split at h
  ·rename_i e2 k2 xs hl;simp only[hb id _ rfl hl];exact h
  ·cases h
 | pb s o =>
  simp only[asnap]at h ⊢;exact qaE hb h
 | agr cs =>
  simp only[asnap]at h ⊢
  split at h
  ·rename_i l hl;rw[ZA hb hl];exact h
  ·cases h
 | _=>first | exact h | cases h
theorem Dq {e E:Env} {o:Oper} {f:Nat} {args:List AV} (hk:Knows e E o.op.operands.toList) (hb:EA e E) (h:Qr P o e=some (f,args)):Qr P o E=some (f,args):=by
 unfold Qr at h ⊢
 split at h
 case h_2=>cases h
 rename_i fo as ats ho;rw[ho]at hk
 split at h
 case h_2=>cases h
 rename_i g caps l hf hl;have h1:=hk fo (by simp[Op.operands,Call.operands]) _ hf;have h2:=Yh (E:=E) (fun z hz=>hk z (by simp[Op.operands,Call.operands];exact .inr (by simpa using hz))) hl;simp only[h1,h2]
 split at h
 case h_2=>cases h
 rename_i fn hfn
 split at h
 case h_2=>cases h
 rename_i l' hb' hl'
 have h3:∀ {l l':List AV},optAll (l.map (asnap e))=some l'→optAll (l.map (asnap E))=some l':=by
  intro l
  induction l with
  | nil=>intro l' h;exact h
  | cons x l ih =>
   intro l' h;simp only[List.map_cons]at h ⊢
   cases hx:asnap e x with
   | none=>rw[hx]at h;cases h
   | some v =>
    rw[hx]at h;rw[qgo hb hx];simp only[optAll]at h ⊢
    split at h
    ·rename_i l2 hl2;rw[ih hl2];exact h
    ·cases h
 simp only[hfn,hb',h3 hl'];exact h
theorem qeG {x:AV} (hp:x.plain=true):x.ent=false:=by cases x <;> first | rfl | cases hp
theorem qbR {all:List Oper} {o:Oper} {e e1:Env} {f:Nat} {args:List AV} {r:AV} (hw:awanted all o e=some true) (hc:Qr P o e=some (f,args)) (hp:r.plain=true) (hr:CallOk P f args r) (he:eput n o.dst r e=some e1):Pure1 P n all o e e1:=by
 have hmf:memFree o.op=false:=by
  unfold Qr at hc
  split at hc
  case h_2=>cases hc
  rename_i fo as ats ho;rw[ho];rfl
 refine⟨r,he,qeG hp,fun E hk hb=>?_⟩
 rcases hb with hb | hb
 ·rw[hmf]at hb;cases hb
 obtain⟨_,hd,_⟩:=JN he;intro bs M O a w h K Q hK;rw[qZ h (jY hk hw)];simp only[if_true]
 exact NU (all:=all) (Dq (JX hk) hb hc) hp hr h fun v w' h' hR=>hK _ _ _ _ (Vn h' (jZ hR (DY hp)) hd)
theorem qde {s off:Nat} {vs:List AV} {e e1:Env} (h:putRow s e off vs=some e1):∃ y y':AV,look e s=some y∧y.ent=true∧y'.ent=true∧y'.sk=y.sk∧e1=ins s y' e∧∀ E,look E s=some y→putRow s E off vs=some (ins s y' E):=by
 unfold putRow at h
 split at h
 ·cases h
 rename_i h1
 split at h
 case h_3=>cases h
 case h_2 =>
  rename_i ks cs hl
  split at h
  case h_2=>cases h
  rename_i h2;cases h;refine⟨_,.hob 3 ks (cs.take off++vs.map AV.strip++cs.drop (off+vs.length)),hl,rfl,rfl,rfl,rfl,fun E hE=>?_⟩;unfold putRow;simp only[h1,hE,h2]
 rename_i cs hl
 split at h
 case h_2=>cases h
 rename_i h2;cases h;refine⟨_,.box (cs.take off++vs.map AV.strip++cs.drop (off+vs.length)),hl,rfl,rfl,rfl,rfl,fun E hE=>?_⟩;unfold putRow;simp only[h1,hE,h2]
theorem qbQ {s off:Nat} {v:AV} {e e1:Env} (h:putCell s e off v=some e1):∃ y y':AV,look e s=some y∧y.ent=true∧y'.ent=true∧y'.sk=y.sk∧e1=ins s y' e∧(∀ cs,y≠.bxg cs)∧∀ E,look E s=some y→putCell s E off v=some (ins s y' E):=by
 unfold putCell at h
 split at h
 ·cases h
 rename_i h1
 split at h
 case h_3=>cases h
 case h_2 =>
  rename_i ks cs hl
  split at h
  case h_2=>cases h
  rename_i h2;cases h;refine⟨_,.hob 3 ks (cs.set off v.strip),hl,rfl,rfl,rfl,rfl,fun _ e=>(by cases e),fun E hE=>?_⟩;unfold putCell;simp only[h1,hE,h2]
 rename_i cs hl
 split at h
 case h_2=>cases h
 rename_i h2;cases h;refine⟨_,.box (cs.set off v),hl,rfl,rfl,rfl,rfl,fun _ e=>(by cases e),fun E hE=>?_⟩;unfold putCell;simp only[h1,hE,h2]
theorem qdf {id k j off:Nat} {vs:List AV} {e e1:Env} (h:putObj id k j e off vs=some e1):∃ x x':AV,look e id=some x∧x.ent=true∧x'.ent=true∧x'.sk=x.sk∧e1=ins id x' e∧∀ E,look E id=some x→putObj id k j E off vs=some (ins id x' E):=by
 unfold putObj at h
 split at h
 case h_2=>cases h
 rename_i e' k' xs hl
 split at h
 case h_2=>cases h
 rename_i hk
 split at h
 case h_2=>cases h
 rename_i y hy
 split at h
 case h_2=>cases h
 rename_i y' hy';cases h;refine⟨_,.obj e' k (xs.set j y'),hl,rfl,rfl,rfl,rfl,fun E hE=>?_⟩;unfold putObj;simp only[hE,hk,hy,hy']
theorem Hz {s off:Nat} {v:AV} {e e1:Env} (h:putG s e off v=some e1):∃ y y',look e s=some y∧y.ent=true∧y'.ent=true∧y'.sk=y.sk∧e1=ins s y' e∧∀ E,look E s=some y→putG s E off v=some (ins s y' E):=by
 unfold putG at h
 split at h
 ·cases h
 rename_i h0
 split at h
 ·rename_i cs hl
  split at h
  case h_2=>cases h
  rename_i hc;cases h;exact⟨_,.bxg ((cs.map AV.strip).set off v.strip),hl,rfl,rfl,rfl,rfl,fun E hE=>by unfold putG;simp only[h0,hE,hc]⟩
 ·rename_i cs hl
  split at h
  case h_2=>cases h
  rename_i hc;cases h;exact⟨_,.bxg (cs.set off v.strip),hl,rfl,rfl,rfl,rfl,fun E hE=>by unfold putG;simp only[h0,hE,hc]⟩
 ·cases h
theorem qer {all:List Oper} {o:Oper} {e e1:Env} (hw:awanted all o e=some true) (hs:isStore o.op=true) (he:astep P n o e=some e1):St1 P n all o e e1:=by
 cases hop:o.op with
 | store t p x =>
  have he0:=he;unfold astep at he;rw[hop]at he;simp only at he
  have fin:∀ (s:Nat) (y y':AV),o.dst=none→look e s=some y→y.ent=true→y'.ent=true→y'.sk=y.sk→e1=ins s y' e→(∀ E,NA all o e E→look E s=some y→astep P n o E=some (ins s y' E))→St1 P n all o e e1:=by
   intro s y y' hd h1 h2 h3 h4 h5 h6;refine⟨hs,hd,s,y,y',h1,h2,h3,h4,h5,fun E hk hE=>?_⟩;exact Uv (jY hk hw) (h6 E hk hE)
  have hka:∀ E,NA all o e E→∀ z v,z∈[p,x]→aop e z=some v→aop E z=some v:=by
   intro E hk z v hz hv;refine JX hk z ?_ v hv;rw[hop]
   simpa[Op.operands] using hz
  split at he
  ·rename_i s off v sz hd hp hx hsz
   split at he
   case h_2=>cases he
   rename_i hlen
   have one:∀ (v:AV),aop e x=some v→Nat.beq v.cells.length sz=true→(∀ cs,v≠.agg cs)→(∀ id e' k o m,v≠.sb id e' k o m)→(∀ kd id,v≠.mb kd id)→(match look e s with | some (.bxg _)=>putG s e off v | _=>putCell s e off v)=some e1→St1 P n all o e e1:=by
    intro v hx hlen hna hnb hnm he
    split at he
    ·rename_i cs0 hcs0;obtain⟨y,y',h1,h2,h2',h3,h4,h5⟩:=Hz he;rw[hcs0]at h1;cases h1
     refine fin s _ y' hd hcs0 h2 h2' h3 h4 fun E hk hE=>?_
     unfold astep;rw[hop];simp only[hd,hka E hk p _ (by simp) hp,hka E hk x _ (by simp) hx,hsz,hlen];have h6:=h5 E hE
     cases v <;> first | (simp only[hE];exact h6) | exact absurd rfl (hna _) | exact absurd rfl (hnb _ _ _ _ _) | exact absurd rfl (hnm _ _)
    obtain⟨y,y',h1,h2,h2',h3,h4',hny,h5⟩:=qbQ he
    refine fin s y y' hd h1 h2 h2' h3 h4' fun E hk hE=>?_
    unfold astep;rw[hop];simp only[hd,hka E hk p _ (by simp) hp,hka E hk x _ (by simp) hx,hsz,hlen];have h4:=h5 E hE
    have h6:(match look E s with | some (.bxg _)=>putG s E off v | _=>putCell s E off v)=some (ins s y' E):=by
     rw[hE]
     cases y <;> first | exact h4 | exact absurd rfl (hny _)
    cases v <;> first | exact h6 | exact absurd rfl (hna _) | exact absurd rfl (hnb _ _ _ _ _) | exact absurd rfl (hnm _ _)
   cases v with
   | agg cs =>
    obtain⟨y,y',h1,h2,h2',h3,h4,h5⟩:=qde he
    refine fin s y y' hd h1 h2 h2' h3 h4 fun E hk hE=>?_
    unfold astep;rw[hop];simp only[hd,hka E hk p _ (by simp) hp,hka E hk x _ (by simp) hx,hsz,hlen];exact h5 E hE
   | sb id e' k o2 m =>
    obtain⟨y,y',h1,h2,h2',h3,h4,h5⟩:=Hz he
    refine fin s y y' hd h1 h2 h2' h3 h4 fun E hk hE=>?_
    unfold astep;rw[hop];simp only[hd,hka E hk p _ (by simp) hp,hka E hk x _ (by simp) hx,hsz,hlen];exact h5 E hE
   | mb kd id =>
    obtain⟨y,y',h1,h2,h2',h3,h4,h5⟩:=Hz he
    refine fin s y y' hd h1 h2 h2' h3 h4 fun E hk hE=>?_
    unfold astep;rw[hop];simp only[hd,hka E hk p _ (by simp) hp,hka E hk x _ (by simp) hx,hsz,hlen];exact h5 E hE
   | _=>exact one _ hx hlen (fun cs e=>by cases e) (fun _ _ _ _ _ e=>by cases e) (fun _ _ e=>by cases e) he
  ·rename_i id k j off v sz hd hp hx hsz
   split at he
   case h_2=>cases he
   rename_i hlen;obtain⟨y,y',h1,h2,h3,h4,h5,h6⟩:=qdf he
   refine fin id y y' hd h1 h2 h3 h4 h5 fun E hk hE=>?_
   unfold astep;rw[hop];simp only[hd,hka E hk p _ (by simp) hp,hka E hk x _ (by simp) hx,hsz,hlen];exact h6 E hE
  ·cases he
 | _=>rw[hop]at hs;cases hs
end
end Go.AM
