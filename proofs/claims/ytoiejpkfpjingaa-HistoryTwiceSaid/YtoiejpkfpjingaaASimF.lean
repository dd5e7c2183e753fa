import Derived.Test.YtoiejpkfpjingaaASimD
import Derived.Great.BuildSlice
import Derived.Lib.ConvBytes
set_option linter.all false
open Go.Sem renaming run_bind→A0, run_pure→A1
open Go.Result renaming andThen_ok→A2
open Option renaming map_some→A3, map_none→B9, isSome_none→C7
open Nat renaming eq_of_beq_eq_true→A4, add_mul→A7, le_refl→B6, le_of_ble_eq_true→B7, add_assoc→C4
open List renaming getElem?_append_left→A5, getElem?_map→A8, append_assoc→A9, getElem?_append_right→B0, mem_of_getElem?→B5, mem_of_mem_take→C0, getElem?_drop→C2, mem_of_mem_drop→C5, length_map→C6, eq_nil_of_length_eq_zero→C8, all_eq_true→C9, replicate→D0, mem_cons_of_mem→D3, take_append_drop→D4, getElem?_eq_getElem→D5
open Bool renaming and_eq_true→A6
open Array renaming length_toList→D1, getD_eq_getD_getElem?→D2, getElem?_eq_getElem→D6
namespace Go.AM
open Go.RowKit
section
variable {bs:Base} {n:Nat} {M:Mem} {O:Gh} {env:Env} {a:Act} {w:World} {P:Program}
theorem Qv (h:Inv bs n M O env a w) {d:Int} {x:Option Operand} {m:Int} (hm:aoptInt env d x=some m):(x=none∧m=d)∨∃ y k,x=some y∧a.eval y=.int k m:=by
 unfold aoptInt at hm;split at hm
 ·cases hm;exact .inl ⟨rfl,rfl⟩
 ·rename_i y;split at hm
  ·rename_i k m' hy;cases hm;exact .inr ⟨y,k,rfl,(qj h hy).1.int_inv⟩
  ·cases hm
theorem jL (k:IntKind) (m:Int) (y:Nat) (c:BoundsCode) (h0:0≤m) (h1:m≤y):(Instr.sliceBound (.int k m) y c).run P w=.ok m.toNat w:=by
 unfold Instr.sliceBound;simp only[asIntOf,A0,A1,A2,h0,h1,and_self,if_true]
theorem Jw (h:Inv bs n M O env a w) {isSlice:Bool} {lo hi:Option Operand} {l m:Int} {len cap:Nat} (hl:aoptInt env 0 lo=some l) (hh:aoptInt env len hi=some m) (h0:0≤l) (h1:l≤m) (h2:m≤len) (hc:len≤cap) :
  (Instr.sliceBounds isSlice len cap (lo.map a.eval) (hi.map a.eval) none).run P w=.ok (l.toNat,m.toNat,cap) w:=by
 unfold Instr.sliceBounds
 rcases Qv h hh with ⟨rfl,e⟩ | ⟨y,k,rfl,e⟩
 ·rcases Qv h hl with ⟨rfl,e'⟩ | ⟨y',k',rfl,e'⟩
  ·simp[A0,e,e']
  ·subst e;simp only[B9,A3,e',A0,A1,A2,C7];rw[jL k' l len _ h0 h1];simp
 ·have hb:∀ c,(Instr.sliceBound (.int k m) cap c).run P w=.ok m.toNat w:=fun c=>jL k m cap c (by omega) (by omega)
  rcases Qv h hl with ⟨rfl,e'⟩ | ⟨y',k',rfl,e'⟩
  ·simp only[B9,A3,e,A0,A1,A2,hb];simp[e']
  ·simp only[B9,A3,e,e',A0,A1,A2,hb,C7];rw[jL k' l m.toNat _ h0 (by omega)];rfl
theorem Zu (h:Inv bs n M O env a w) {isSlice:Bool} {lo:Option Operand} {hi mx:Operand} {l m c:Int} {k1 k2:IntKind} {len cap:Nat} (hl:aoptInt env 0 lo=some l) (hh:a.eval hi=.int k1 m) (hx:a.eval mx=.int k2 c) (h0:0≤l) (h1:l≤m) (h2:m≤c) (hc:c≤cap) :
  (Instr.sliceBounds isSlice len cap (lo.map a.eval) (some (a.eval hi)) (some (a.eval mx))).run P w=.ok (l.toNat,m.toNat,c.toNat) w:=by
 unfold Instr.sliceBounds
 have b1:∀ q,(Instr.sliceBound (.int k2 c) cap q).run P w=.ok c.toNat w:=fun q=>jL k2 c cap q (by omega) hc
 have b2:∀ q,(Instr.sliceBound (.int k1 m) c.toNat q).run P w=.ok m.toNat w:=fun q=>jL k1 m c.toNat q (by omega) (by omega)
 rcases Qv h hl with ⟨rfl,e'⟩ | ⟨y',k',rfl,e'⟩
 ·simp only[B9,hh,hx,A0,A1,A2,b1,b2];simp[e']
 ·simp only[A3,hh,hx,e',A0,A1,A2,b1,b2,Option.isSome_some];rw[jL k' l m.toNat _ h0 (by omega)];rfl
theorem JX {k:Nat}:∀ {xs:List AV} (i:Nat),(∀ x,x∈xs→x.cells.length=k)→flat (xs.drop i)=(flat xs).drop (i * k)
 | xs,0,_=>by simp
 | [],i+1,_=>by simp[flat]
 | x::xs,i+1,h=>by
  have h1:=h x (List.mem_cons_self ..)
  have ih:=JX (xs:=xs) i fun y hy=>h y (D3 _ hy)
  rw[List.drop_succ_cons,ih]
  have e:flat (x::xs)=x.cells++flat xs:=by simp[flat]
  have e2:(i+1) * k=x.cells.length+i * k:=by rw[h1,A7];omega
  rw[e,e2,List.drop_append];simp
theorem Nj (h:Inv bs n M O env a w) {o:Oper} {t:TypeId} {x:Operand} {lo hi:Option Operand} (ho:o.op=.slice t x lo hi none) {p r:AV} (hp:aop env x=some p) (hr:aslice P t p lo hi env=some r):Simple P O M a w o r:=by
 have hx:=qj h hp
 have he:execOp a.eval o=vS (Instr.sliceAt t (a.eval x) (lo.map a.eval) (hi.map a.eval) none):=by unfold execOp;rw[ho];rfl
 unfold aslice at hr;split at hr
 ·rename_i e k lab xs;split at hr
  case h_2=>cases hr
  rename_i e' k' hse;split at hr
  case h_2=>cases hr
  rename_i hk;have hk:=A4 hk;subst hk;obtain⟨hu,hs⟩:=jb hse;split at hr
  case h_2=>cases hr
  rename_i l m hl hm;by_cases hb:0≤l∧l≤m∧m≤xs.length
  case neg=>rw[if_neg hb]at hr;cases hr
  rw[if_pos hb]at hr;cases hr;obtain⟨b0,b1,b2⟩:=hb
  have hrun:∀ (ad:Option Addr) (cap:Nat),xs.length≤cap→a.eval x=.slice ad xs.length cap→(Instr.sliceAt t (a.eval x) (lo.map a.eval) (hi.map a.eval) none).run P w =
    .ok (.slice (if cap=l.toNat then ad else ad.map (·.add (l.toNat * k))) (m.toNat - l.toNat) (cap - l.toNat)) w:=by
   intro ad cap hc hv;rw[hv];unfold Instr.sliceAt Instr.slice;simp only[A0,run_underlying hu,A2,Jw h hl hm b0 b1 b2 hc,qV hs,A1]
  rcases hx.1.lst_inv with ⟨rfl,hv | ⟨ad,cap,hv⟩⟩ | ⟨b,off,cap,us,hv,h1,h2,h3,h4,h5⟩
  ·have l0:l=0:=by simp at b2;omega
   have m0:m=0:=by simp at b2;omega
   subst l0;subst m0;refine⟨_,by rw[he];exact XB (hrun none 0 (by simp) hv),?_,?_⟩
   ·simp;exact R.lstn e k _
   ·simp
    cases hi <;> cases lab <;> first | trivial | exact .inl ⟨_,rfl⟩
  ·have l0:l=0:=by simp at b2;omega
   have m0:m=0:=by simp at b2;omega
   subst l0;subst m0
   have how:OwnV O M w (.lst e k (keepLab hi lab) []) (.slice (some ad) 0 cap):=by
    cases hi with
    | some _=>trivial
    | none=>rw[← hv];exact hx.2
   refine⟨_,by rw[he];exact XB (hrun (some ad) cap (by simp) hv),?_⟩
   have e0:(if cap=(0:Int).toNat then some ad else (some ad).map (·.add ((0:Int).toNat * k)))=some ad:=by
    split
    ·rfl
    ·simp[Addr.add]
   rw[e0];refine⟨?_,by simpa using how⟩;simp;exact R.lste e k _ ad cap
  ·refine⟨_,by rw[he];exact XB (hrun _ cap h1 hv),?_⟩
   have hlen:((xs.take m.toNat).drop l.toNat).length=m.toNat - l.toNat:=by simp;omega
   have hty:∀ y,y∈xs.take m.toNat→y.cells.length=k:=fun y hy=>h2 y (C0 hy)
   have hflat:∀ (j:Nat) c,(flat ((xs.take m.toNat).drop l.toNat))[j]? = some c→(flat xs)[l.toNat * k+j]? = some c:=by
    intro j c hj;rw[JX _ hty,C2]at hj
    have hsplit:flat xs=flat (xs.take m.toNat)++flat (xs.drop m.toNat):=by
     simp only[flat,← List.flatMap_append,D4]
    rw[hsplit,A5 (List.getElem?_eq_some_iff.1 hj).1];exact hj
   by_cases hcl:cap=l.toNat
   ·rw[if_pos hcl];have hz:(xs.take m.toNat).drop l.toNat=[]:=C8 (by rw[hlen];omega);rw[hz]
    have:m.toNat - l.toNat=([]:List AV).length:=by simp;omega
    rw[this];refine⟨R.lst us (by simp) (by simp) (by simp) (by simp[flat]) (by simp[flat]),?_⟩
    have hc0:cap - l.toNat=0:=by omega
    rw[hc0]
    cases hi <;> cases lab <;> first | trivial | exact .inl ⟨_,rfl⟩
   ·rw[if_neg hcl];simp only[A3,jA]
    have how:OwnV O M w (.lst e k (keepLab hi lab) ((xs.take m.toNat).drop l.toNat)) (.slice (some ⟨b,off+l.toNat * k,none⟩) (m.toNat - l.toNat) (cap - l.toNat)):=by
     cases hi with
     | some _=>trivial
     | none =>
      cases lab with
      | none=>trivial
      | some c =>
       have hm':m=xs.length:=by
        simp only[aoptInt]at hm;exact (Option.some.inj hm).symm
       have hxo:=hx.2;rw[hv]at hxo
       rcases hxo with ⟨ad,ha⟩ | ⟨g,off2,cap2,cur,r1,r2,r3,r4,r5,r6,r7⟩
       ·have:=(Value.slice.inj ha).2.2;omega
       ·cases r1;refine .inr ⟨b,off+l.toNat * k,cap - l.toNat,cur,by rw[hlen],r2,r3,?_,by rw[hlen];omega,by omega,fun o ho=>r7 o ?_⟩
        ·rw[r4,C4,← A7]
         congr 2
         omega
        ·rw[hlen,C4,← A7]at ho
         have e1:l.toNat+(m.toNat - l.toNat)=xs.length:=by omega
         rw[e1]at ho;exact ho
    refine⟨?_,how⟩;rw[← hlen];exact R.lst (fun j=>us (l.toNat * k+j)) (by rw[hlen];omega) (fun y hy=>hty y (C5 hy)) (fun y hy=>h5 y (C0 (C5 hy))) (fun j c hj=>by rw[C4];exact h3 _ _ (hflat j c hj)) (fun j c hj=>h4 _ _ (hflat j c hj))
 ·
  rename_i id e k off q;split at hr
  case h_2=>cases hr
  rename_i e' k' hse;split at hr
  case h_2=>cases hr
  rename_i hk;have hk:=A4 hk;subst hk;obtain⟨hu,hs⟩:=jb hse;split at hr
  case h_2=>cases hr
  rename_i l m hl hm;by_cases hb:0≤l∧l≤m∧m≤q
  case neg=>rw[if_neg hb]at hr;cases hr
  rw[if_pos hb]at hr;cases hr;obtain⟨b0,b1,b2⟩:=hb
  have hrun:∀ (ad:Option Addr) (cap:Nat),q≤cap→a.eval x=.slice ad q cap→(Instr.sliceAt t (a.eval x) (lo.map a.eval) (hi.map a.eval) none).run P w =
    .ok (.slice (if cap=l.toNat then ad else ad.map (·.add (l.toNat * k))) (m.toNat - l.toNat) (cap - l.toNat)) w:=by
   intro ad cap hc hv;rw[hv];unfold Instr.sliceAt Instr.slice;simp only[A0,run_underlying hu,A2,Jw h hl hm b0 b1 b2 hc,qV hs,A1]
  obtain⟨h1,h2⟩:=hx
  rcases h2 with ⟨rfl,ad,hv⟩ | ⟨g,cap,hv,h3,h4,h5,h6⟩
  ·have l0:l=0:=by omega
   have m0:m=0:=by omega
   subst l0;subst m0;refine⟨_,by rw[he];exact XB (hrun ad 0 (by simp) hv),by simpa using h1,.inl ⟨by simp,ad,by simp⟩⟩
  ·refine⟨_,by rw[he];exact XB (hrun _ cap h5 hv),by omega,?_⟩;by_cases hcl:cap=l.toNat
   ·rw[if_pos hcl]
    have e1:m.toNat - l.toNat=0:=by omega
    have e2:cap - l.toNat=0:=by omega
    rw[e1,e2];exact .inl ⟨rfl,_,rfl⟩
   ·rw[if_neg hcl];simp only[A3,jA];refine .inr ⟨g,cap - l.toNat,by rw[A7],h3,?_,by omega,by omega⟩;rw[h4]
    congr 1
    omega
 ·
  rename_i st;split at hr
  case h_2=>cases hr
  rename_i hu;split at hr
  case h_2=>cases hr
  rename_i l m hl hm;by_cases hb:0≤l∧l≤m∧m≤st.size
  case neg=>rw[if_neg hb]at hr;cases hr
  rw[if_pos hb]at hr;cases hr;obtain⟨b0,b1,b2⟩:=hb;have hv:=hx.1.str_inv;refine⟨.string (st.extract l.toNat m.toNat),?_,.str _,trivial⟩;rw[he,hv];refine XB ?_;unfold Instr.sliceAt Instr.slice;simp only[A0,run_underlying hu,A2,C7,Bool.false_eq_true,if_false,A1,Jw (P:=P) (isSlice:=false) (cap:=st.size) h hl hm b0 b1 b2 (B6 _)]
 ·split at hr
  case h_2=>cases hr
  rename_i q hse;obtain⟨e',k'⟩:=q;obtain⟨hu,hs⟩:=jb hse;split at hr
  case h_2=>cases hr
  rename_i l m hl hm;by_cases hb:l=0∧m=0
  case neg=>rw[if_neg hb]at hr;cases hr
  rw[if_pos hb]at hr;cases hr;obtain⟨rfl,rfl⟩:=hb
  have hv:a.eval x=.slice none 0 0:=by
   have:=hx.1;generalize a.eval x=y at this;cases this;rfl
  refine⟨.slice none 0 0,?_,.nils,trivial⟩;rw[he,hv];refine XB ?_;unfold Instr.sliceAt Instr.slice;simp only[A0,run_underlying hu,A2,Jw (P:=P) (len:=0) (cap:=0) h hl hm (Int.le_refl 0) (Int.le_refl 0) (Int.le_refl 0) (B6 0),qV hs,A1];simp
 ·cases hr
theorem Ud (h:Inv bs n M O env a w) {o:Oper} {t:TypeId} {x hi mx:Operand} {lo:Option Operand} (ho:o.op=.slice t x lo (some hi) (some mx)) {e k:Nat} {lab:Option Nat} {xs:List AV} {k1 k2:IntKind} {e':Nat} {l m c:Int} (hp:aop env x=some (.lst e k lab xs)) (hse:qS P t=some (e',k))
  (hl:aoptInt env 0 lo=some l) (hh:aop env hi=some (.int k1 m)) (hm:aop env mx=some (.int k2 c)) (hb:0≤l∧l≤m∧m≤c∧c≤xs.length):Simple P O M a w o (.lst e k none ((xs.take m.toNat).drop l.toNat)):=by
 have hx:=qj h hp;have hhv:=(qj h hh).1.int_inv;have hmv:=(qj h hm).1.int_inv
 have he:execOp a.eval o=vS (Instr.sliceAt t (a.eval x) (lo.map a.eval) (some (a.eval hi)) (some (a.eval mx))):=by unfold execOp;rw[ho];rfl
 obtain⟨hu,hs⟩:=jb hse;obtain⟨b0,b1,b2,b3⟩:=hb
 have hrun:∀ (ad:Option Addr) (cap:Nat),xs.length≤cap→a.eval x=.slice ad xs.length cap→(Instr.sliceAt t (a.eval x) (lo.map a.eval) (some (a.eval hi)) (some (a.eval mx))).run P w =
   .ok (.slice (if c.toNat=l.toNat then ad else ad.map (·.add (l.toNat * k))) (m.toNat - l.toNat) (c.toNat - l.toNat)) w:=by
  intro ad cap hc hv;rw[hv];unfold Instr.sliceAt Instr.slice;have hbnd:=Zu (P:=P) h (isSlice:=true) (len:=xs.length) (cap:=cap) hl hhv hmv b0 b1 b2 (by omega);simp only[A0,run_underlying hu,A2,hbnd,qV hs,A1]
 rcases hx.1.lst_inv with ⟨rfl,hv | ⟨ad,cap,hv⟩⟩ | ⟨b,off,cap,us,hv,h1,h2,h3,h4,h5⟩
 ·have c0:c=0:=by simp at b3;omega
  have m0:m=0:=by omega
  have l0:l=0:=by omega
  subst l0;subst m0;subst c0;exact⟨_,by rw[he];exact XB (hrun none 0 (by simp) hv),by simp;exact R.lstn e k _,trivial⟩
 ·have c0:c=0:=by simp at b3;omega
  have m0:m=0:=by omega
  have l0:l=0:=by omega
  subst l0;subst m0;subst c0;exact⟨_,by rw[he];exact XB (hrun (some ad) cap (by simp) hv),by simp;exact R.lste e k _ ad 0,trivial⟩
 ·refine⟨_,by rw[he];exact XB (hrun _ cap h1 hv),?_,trivial⟩
  have hlen:((xs.take m.toNat).drop l.toNat).length=m.toNat - l.toNat:=by simp;omega
  have hty:∀ y,y∈xs.take m.toNat→y.cells.length=k:=fun y hy=>h2 y (C0 hy)
  have hflat:∀ (j:Nat) c,(flat ((xs.take m.toNat).drop l.toNat))[j]? = some c→(flat xs)[l.toNat * k+j]? = some c:=by
   intro j c hj;rw[JX _ hty,C2]at hj
   have hsplit:flat xs=flat (xs.take m.toNat)++flat (xs.drop m.toNat):=by
    simp only[flat,← List.flatMap_append,D4]
   rw[hsplit,A5 (List.getElem?_eq_some_iff.1 hj).1];exact hj
  by_cases hcl:c.toNat=l.toNat
  ·rw[if_pos hcl];have hz:(xs.take m.toNat).drop l.toNat=[]:=C8 (by rw[hlen];omega);rw[hz]
   have:m.toNat - l.toNat=([]:List AV).length:=by simp;omega
   rw[this];exact R.lst us (by simp) (by simp) (by simp) (by simp[flat]) (by simp[flat])
  ·rw[if_neg hcl];simp only[A3,jA];rw[← hlen];exact R.lst (fun j=>us (l.toNat * k+j)) (by rw[hlen];omega) (fun y hy=>hty y (C5 hy)) (fun y hy=>h5 y (C0 (C5 hy))) (fun j c hj=>by rw[C4];exact h3 _ _ (hflat j c hj)) (fun j c hj=>h4 _ _ (hflat j c hj))
theorem VQ (off:Nat):∀ (l:List Value) (k:Nat) (cs:Array Value),((l.zipIdx k).foldl (fun cs p=>cs.setIfInBounds (off+p.2) p.1) cs).size=cs.size ∧
  ∀ i:Nat,((l.zipIdx k).foldl (fun cs p=>cs.setIfInBounds (off+p.2) p.1) cs)[i]? = if off+k≤i∧i<off+k+l.length∧i<cs.size then l[i - (off+k)]? else cs[i]?
 | [],k,cs=>⟨rfl,fun i=>by rw[if_neg (by simp;omega)];rfl⟩
 | v::l,k,cs=>by
  obtain⟨h1,h2⟩:=VQ off l (k+1) (cs.setIfInBounds (off+k) v);simp only[List.zipIdx_cons,List.foldl_cons];refine⟨by rw[h1];simp,fun i=>?_⟩;rw[h2 i];simp only[List.length_cons,Array.size_setIfInBounds,Array.getElem?_setIfInBounds];by_cases c1:off+(k+1)≤i∧i<off+(k+1)+l.length∧i<cs.size
  ·rw[if_pos c1,if_pos (by omega),show i - (off+k)=(i - (off+(k+1)))+1 by omega];simp
  ·rw[if_neg c1];by_cases c2:off+k=i
   ·rw[if_pos c2];by_cases c3:off+k<cs.size
    ·rw[if_pos c3,if_pos (by omega),show i - (off+k)=0 by omega];simp
    ·rw[if_neg c3,if_neg (by omega)];subst c2;simp;omega
   ·rw[if_neg c2,if_neg (by omega)]
def Rows (M:Mem) (cs:List AV) (us:Array Value):Prop :=
 cs.length=us.size∧∀ (j:Nat) c u,cs[j]? = some c→us[j]? = some u→R M c u
theorem YK {place place':Nat→Option (Nat×Nat)} (hp:∀ i q,place i=some q→place' i=some q):∀ (ps:List (Nat×AV)) (qs:List (Nat×Value)) (cs:List AV) (us:Array Value) (r:List AV),
  ps.length=qs.length→(∀ (j:Nat) p q,ps[j]? = some p→qs[j]? = some q→p.1=q.1∧R M p.2 q.2)→Rows M cs us→fillA place cs ps=some r →
  ∃ us',Instr.fill place' us qs=some us'∧Rows M r us'
 | [],[],cs,us,r,_,_,hr,h=>by
  cases h;exact⟨us,rfl,hr⟩
 | [],_::_,_,_,_,hl,_,_,_=>by simp at hl
 | _::_,[],_,_,_,hl,_,_,_=>by simp at hl
 | (i,v)::ps,(i',u)::qs,cs,us,r,hl,hps,hr,h=>by
  obtain⟨e,hv⟩:=hps 0 (i,v) (i',u) rfl rfl;simp only at e hv;subst e;simp only[fillA]at h;split at h
  ·cases h
  ·rename_i off size hpl;split at h
   case h_2=>cases h
   rename_i hb;simp only[A6]at hb;obtain⟨⟨b1,b2⟩,b3⟩:=hb;have b1:=A4 b1;have b2:=B7 b2;obtain⟨k1,k2,k3⟩:=hv.cells b3;obtain⟨l1,l2⟩:=hr
   have hsz:u.cells.toList.length=size:=by simp[k1,b1]
   obtain⟨f1,f2⟩:=VQ off u.cells.toList 0 us
   have hfold:(u.cells.zipIdx.foldl (fun cs p=>cs.setIfInBounds (off+p.2) p.1) us)=((u.cells.toList.zipIdx).foldl (fun cs p=>cs.setIfInBounds (off+p.2) p.1) us):=by
    rw[← Array.foldl_toList];simp
   obtain⟨us',h1,h2⟩:=YK hp ps qs (cs.take off++v.cells.map AV.strip++cs.drop (off+size)) ((u.cells.toList.zipIdx).foldl (fun cs p=>cs.setIfInBounds (off+p.2) p.1) us) r
    (by simpa using hl) (fun j p q hp' hq=>hps (j+1) p q (by simpa using hp') (by simpa using hq)) ⟨by
     rw[f1,← l1];simp;omega,by
     intro j c x hc hx;rw[f2 j]at hx;simp only[Nat.add_zero]at hx;by_cases hj:off≤j∧j<off+u.cells.toList.length∧j<us.size
     ·rw[if_pos hj]at hx;rw[A9,B0 (by simp;omega),A5 (by simp;omega),A8]at hc
      have el:(List.take off cs).length=off:=by simp;omega
      rw[el]at hc
      cases hz:v.cells[j - off]? with
      | none=>rw[hz]at hc;cases hc
      | some z =>
       rw[hz]at hc;cases hc;exact (k2 (j - off) z x hz (by simpa using hx)).strip
     ·rw[if_neg hj]at hx;refine l2 j c x ?_ hx;have hxl:=(Array.getElem?_eq_some_iff.1 hx).1;by_cases hjo:j<off
      ·rw[A9,A5 (by simp;omega),List.getElem?_take,if_pos hjo]at hc;exact hc
      ·rw[B0 (by simp;omega)]at hc;simp only[List.length_append,List.length_take,C6,C2]at hc;rw[show off+size+(j - (min off cs.length+v.cells.length))=j by omega]at hc
       exact hc⟩ h
   refine⟨us',?_,h2⟩;simp only[Instr.fill,hp _ _ hpl]
   rw[if_neg (by
    rw[k1,b1,← l1];simp only[ne_eq,not_true_eq_false,decide_false,Bool.false_or,decide_eq_true_eq]
    omega)]
   rw[hfold];exact h1
theorem jU {t:TypeId} {z:List AV} (h:JO P t=some z):∃ it zv,P.info? t=some it∧it.zero=some zv∧Rows M z zv.cells∧(∀ c∈z,c.one=true∧c.lab? = none):=by
 unfold JO at h
 cases hi:P.info? t with
 | none=>rw[hi]at h;cases h
 | some it =>
  rw[hi]at h;simp only[Option.bind_some]at h
  cases hz:it.zero with
  | none=>rw[hz]at h;cases h
  | some zv =>
   rw[hz]at h;simp only at h;have hs:=qK h
   have hlen:zv.cells.toList.length=z.length:=by simpa using congrArg List.length hs
   refine⟨it,zv,rfl,hz,⟨by simpa using hlen.symm,fun j c u hc hu=>?_⟩,fun c hc=>?_⟩
   ·have hj:=congrArg (fun q=>q[j]?) hs;simp only[A8,hc,A3]at hj
    have hu':zv.cells.toList[j]? = some u:=by simpa using hu
    rw[hu']at hj;exact (Jf (O:=⟨fun _ _=>none,fun _=>0,fun _=>0⟩) (w:=default) (Option.some.inj hj)).1
   ·obtain⟨j,hj⟩:=List.mem_iff_getElem?.1 hc;have hjj:=congrArg (fun q=>q[j]?) hs;simp only[A8,hj,A3]at hjj
    cases hu:zv.cells.toList[j]? with
    | none=>rw[hu]at hjj;cases hjj
    | some u =>
     rw[hu]at hjj;have:=Jf (M:=fun _ _=>none) (O:=⟨fun _ _=>none,fun _=>0,fun _=>0⟩) (w:=default) (Option.some.inj hjj);exact⟨this.2.2.1,this.2.2.2.1⟩
theorem XN (h:Inv bs n M O env a w) {ps:Array (Nat×Operand)} {l:List (Nat×AV)} (hl:parts? env ps=some l) :
  l.length=((ps.map fun (i,x)=>(i,a.eval x)).toList).length∧∀ (j:Nat) p q,l[j]? = some p→((ps.map fun (i,x)=>(i,a.eval x)).toList)[j]? = some q→p.1=q.1∧ValOk O M w p.2 q.2:=by
 unfold parts? at hl;have hs:=qK hl
 have hlen:ps.toList.length=l.length:=by simpa using congrArg List.length hs
 refine⟨by simp at hlen ⊢;omega,fun j p q hp hq=>?_⟩;have hj:=congrArg (fun q=>q[j]?) hs;simp only[A8,hp,A3]at hj;simp only[Array.toList_map,A8]at hq
 cases hx:ps.toList[j]? with
 | none=>rw[hx]at hq;cases hq
 | some x =>
  rw[hx]at hq hj;simp only[A3,Option.some.injEq]at hq hj;split at hj
  ·rename_i v hv;cases hj;subst hq;exact⟨rfl,qj h hv⟩
  ·cases hj
theorem QG {x:AV} {M:Mem} {v:Value} (h:ValOk O M w x v) (ho:x.cells.all AV.one=true):R M x v:=by
 refine h.r (fun s=>?_) (fun _ _ e=>by subst e;simp[AV.cells,AV.one]at ho) fun _ e=>by subst e;simp[AV.cells,AV.one]at ho
 cases x <;> first | rfl | (simp[AV.cells,AV.one]at ho)
theorem US {place:Nat→Option (Nat×Nat)}:∀ {ps:List (Nat×AV)} {cs r:List AV},fillA place cs ps=some r→∀ p∈ps,p.2.cells.all AV.one=true
 | [],_,_,_,p,hp=>by cases hp
 | (i,v)::ps,cs,r,h,p,hp=>by
  simp only[fillA]at h;split at h
  ·cases h
  ·split at h
   case h_2=>cases h
   rename_i hb;simp only[A6]at hb
   cases hp with
   | head=>exact hb.2
   | tail _ hp=>exact US h p hp
theorem Nn (h:Inv bs n M O env a w) {o:Oper} {t:TypeId} {ps:Array (Nat×Operand)} (ho:o.op=.build t ps) {l:List (Nat×AV)} (hl:parts? env ps=some l) {r:AV} (hr:abuild P t l=some r):Simple P O M a w o r:=by
 obtain⟨l1,l2⟩:=XN h hl
 have he:execOp a.eval o=vS (Instr.build t (ps.map fun (i,x)=>(i,a.eval x))):=by unfold execOp;rw[ho];rfl
 have key:∀ (place place':Nat→Option (Nat×Nat)) z zv cs,(∀ i q,place i=some q→place' i=some q)→Rows M z zv→fillA place z l=some cs→∃ us',Instr.fill place' zv (ps.map fun (i,x)=>(i,a.eval x)).toList=some us'∧Rows M cs us':=by
  intro place place' z zv cs hp hz hf;refine YK hp l _ z zv cs l1 (fun j p q hp' hq=>?_) hz hf;obtain⟨e1,e2⟩:=l2 j p q hp' hq;exact⟨e1,QG e2 (US hf p (B5 hp'))⟩
 have fin:∀ cs us,Rows M cs us→P.built t (ps.map fun (i,x)=>(i,a.eval x)).toList=some us→Simple P O M a w o (.agg cs):=by
  intro cs us hR hb;refine⟨.agg us,by rw[he];exact XB (run_build w t _ us hb),?_,trivial⟩
  have:=R.agg (M:=M) (cs:=cs) (vs:=us.toList) (by simpa using hR.1) fun j c v hc hv=>hR.2 j c v hc (by simpa using hv)
  simpa using this
 unfold abuild at hr;split at hr
 ·rename_i fs z hu hz;obtain⟨it,zv,hi,hzz,hzr,_⟩:=jU (M:=M) hz;split at hr
  case h_2=>cases hr
  rename_i places hpl
  cases hf:fillA (fun i=>places[i]?) z l with
  | none=>rw[hf]at hr;cases hr
  | some cs =>
   rw[hf]at hr;cases hr;obtain⟨us',h1,h2⟩:=key _ (fun i=>places.toArray[i]?) z zv.cells cs (fun i q hq=>by simpa using hq) hzr hf;refine fin cs us' h2 ?_;unfold Program.built;simp only[hi,hu,hzz,hpl];exact h1
 ·rename_i k e z hu hz;obtain⟨it,zv,hi,hzz,hzr,_⟩:=jU (M:=M) hz;split at hr
  case h_2=>cases hr
  rename_i ie hie
  cases hf:fillA (fun i=>some (i * ie.size,ie.size)) z l with
  | none=>rw[hf]at hr;cases hr
  | some cs =>
   rw[hf]at hr;cases hr;obtain⟨us',h1,h2⟩:=key _ (fun i=>some (i * ie.size,ie.size)) z zv.cells cs (fun i q hq=>hq) hzr hf;refine fin cs us' h2 ?_;unfold Program.built;simp only[hi,hu,hzz,hie];exact h1
 ·cases hr
def CellG (O:Gh) (M:Mem) (w:World) (c:AV) (u:Value):Prop:=CellR O M 0 c u∧OwnV O M w c u∧c≠.slf
def RowsG (O:Gh) (M:Mem) (w:World) (cs:List AV) (us:Array Value):Prop :=
 cs.length=us.size∧∀ (j:Nat) c u,cs[j]? = some c→us[j]? = some u→CellG O M w c u
theorem Yo {c:AV} {u:Value} (h1:c.one=true) (h2:R M c u) (h3:OwnV O M w c u):CellG O M w c u:=by
 refine⟨?_,h3,fun e=>by subst e;cases h1⟩
 cases c <;> first | exact⟨h1,h2⟩ | cases h1
theorem NJ {u:Value} (h:u.oneCell'=true):u.cells=#[u]:=by cases u <;> first | rfl | cases h
theorem partG {v:AV} {u:Value} (h:ValOk O M w v u) (hp:v.gcells.all AV.partOk=true):u.cells.size=v.gcells.length∧∀ (j:Nat) c x,v.gcells[j]? = some c→u.cells[j]? = some x→CellG O M w c x:=by
 have single:∀ {c:AV},CellG O M w c u→u.cells.size=[c].length∧∀ (j:Nat) c' x,[c][j]? = some c'→u.cells[j]? = some x→CellG O M w c' x:=by
  intro c hc;rw[NJ hc.1.one];refine⟨rfl,fun j c' x h1 h2=>?_⟩
  cases j with
  | succ j=>simp at h1
  | zero=>cases h1;cases h2;exact hc
 have plain:v.one=true→R M v u→OwnV O M w v u→v.gcells=[v]→u.cells.size=v.gcells.length∧∀ (j:Nat) c x,v.gcells[j]? = some c→u.cells[j]? = some x→CellG O M w c x:=by
  intro h1 h2 h3 h4;rw[h4];exact single (Yo h1 h2 h3)
 cases v with
 | sb id e k off m=>exact single ⟨h,trivial,fun e=>by cases e⟩
 | mb kd id =>
  cases kd with
  | succ kd=>simp[AV.gcells,AV.partOk,AV.one]at hp
  | zero =>
   obtain⟨g,q1,q2⟩:=h;exact single ⟨⟨rfl,g,q1,q2⟩,trivial,fun e=>by cases e⟩
 | agg cs =>
  have h1:R M (.agg cs) u:=h.1;clear h
  cases h1 with
  | agg hl hr =>
   rename_i vs;refine⟨by simp[Value.cells,AV.gcells,hl],fun j c x hc hx=>?_⟩;simp only[AV.gcells,A8]at hc
   have hx':vs[j]? = some x:=by simpa[Value.cells] using hx
   cases hz:cs[j]? with
   | none=>rw[hz]at hc;cases hc
   | some z =>
    rw[hz]at hc;cases hc;have hR:=hr j z x hz hx'
    have hz1:z.strip1.partOk=true:=by
     rw[C9]at hp;exact hp _ (List.mem_map.2 ⟨z,B5 hz,rfl⟩)
    cases z with
    | lst e k l xs=>exact Yo rfl hR.setLab trivial
    | _=>first | (cases hR;done) | exact Yo hz1 hR trivial
 | box cs=>exact h.elim
 | obj e k xs=>exact h.elim
 | hob kd ks vs=>exact h.elim
 | bxg cs=>exact h.elim
 | slf=>exact h.elim
 | pb s o=>simp[AV.gcells,AV.partOk,AV.one]at hp
 | pe s k j o=>simp[AV.gcells,AV.partOk,AV.one]at hp
 | tpr s e k off m rest=>simp[AV.gcells,AV.partOk,AV.one]at hp
 | clb f caps=>simp[AV.gcells,AV.partOk,AV.one]at hp
 | agr cs=>simp[AV.gcells,AV.partOk,AV.one]at hp
 | top=>simp[AV.gcells,AV.partOk,AV.one]at hp
 | und=>simp[AV.gcells,AV.partOk,AV.one]at hp
 | tup vs=>simp[AV.gcells,AV.partOk,AV.one]at hp
 | ub p=>simp[AV.gcells,AV.partOk,AV.one]at hp
 | _=>exact plain rfl h.1 h.2 rfl
theorem ZT {place place':Nat→Option (Nat×Nat)} (hp:∀ i q,place i=some q→place' i=some q):∀ (ps:List (Nat×AV)) (qs:List (Nat×Value)) (cs:List AV) (us:Array Value) (r:List AV),
  ps.length=qs.length→(∀ (j:Nat) p q,ps[j]? = some p→qs[j]? = some q→p.1=q.1∧ValOk O M w p.2 q.2)→RowsG O M w cs us→fillG place cs ps=some r →
  ∃ us',Instr.fill place' us qs=some us'∧RowsG O M w r us'
 | [],[],cs,us,r,_,_,hr,h=>by
  cases h;exact⟨us,rfl,hr⟩
 | [],_::_,_,_,_,hl,_,_,_=>by simp at hl
 | _::_,[],_,_,_,hl,_,_,_=>by simp at hl
 | (i,v)::ps,(i',u)::qs,cs,us,r,hl,hps,hr,h=>by
  obtain⟨e,hv⟩:=hps 0 (i,v) (i',u) rfl rfl;simp only at e hv;subst e;simp only[fillG]at h;split at h
  ·cases h
  ·rename_i off size hpl;split at h
   case h_2=>cases h
   rename_i hb;simp only[A6]at hb;obtain⟨⟨b1,b2⟩,b3⟩:=hb;have b1:=A4 b1;have b2:=B7 b2;obtain⟨k1,k2⟩:=partG hv b3;obtain⟨l1,l2⟩:=hr
   have hsz:u.cells.toList.length=size:=by simp[k1,b1]
   obtain⟨f1,f2⟩:=VQ off u.cells.toList 0 us
   have hfold:(u.cells.zipIdx.foldl (fun cs p=>cs.setIfInBounds (off+p.2) p.1) us)=((u.cells.toList.zipIdx).foldl (fun cs p=>cs.setIfInBounds (off+p.2) p.1) us):=by
    rw[← Array.foldl_toList];simp
   obtain⟨us',h1,h2⟩:=ZT hp ps qs (cs.take off++v.gcells++cs.drop (off+size)) ((u.cells.toList.zipIdx).foldl (fun cs p=>cs.setIfInBounds (off+p.2) p.1) us) r
    (by simpa using hl) (fun j p q hp' hq=>hps (j+1) p q (by simpa using hp') (by simpa using hq)) ⟨by
     rw[f1,← l1];simp;omega,by
     intro j c x hc hx;rw[f2 j]at hx;simp only[Nat.add_zero]at hx;by_cases hj:off≤j∧j<off+u.cells.toList.length∧j<us.size
     ·rw[if_pos hj]at hx;rw[A9,B0 (by simp;omega),A5 (by simp;omega)]at hc
      have el:(List.take off cs).length=off:=by simp;omega
      rw[el]at hc;exact k2 (j - off) c x hc (by simpa using hx)
     ·rw[if_neg hj]at hx;refine l2 j c x ?_ hx;have hxl:=(Array.getElem?_eq_some_iff.1 hx).1;by_cases hjo:j<off
      ·rw[A9,A5 (by simp;omega),List.getElem?_take,if_pos hjo]at hc;exact hc
      ·rw[B0 (by simp;omega)]at hc;simp only[List.length_append,List.length_take,C2]at hc;rw[show off+size+(j - (min off cs.length+v.gcells.length))=j by omega]at hc
       exact hc⟩ h
   refine⟨us',?_,h2⟩;simp only[Instr.fill,hp _ _ hpl]
   rw[if_neg (by
    rw[k1,b1,← l1];simp only[ne_eq,not_true_eq_false,decide_false,Bool.false_or,decide_eq_true_eq]
    omega)]
   rw[hfold];exact h1
theorem Yt (h:Inv bs n M O env a w) {o:Oper} {t:TypeId} {ps:Array (Nat×Operand)} (ho:o.op=.build t ps) {l:List (Nat×AV)} (hl:parts? env ps=some l) {r:AV} (hr:abuildG P t l=some r):Simple P O M a w o r:=by
 obtain⟨l1,l2⟩:=XN h hl
 have he:execOp a.eval o=vS (Instr.build t (ps.map fun (i,x)=>(i,a.eval x))):=by unfold execOp;rw[ho];rfl
 unfold abuildG at hr;split at hr
 case h_2=>cases hr
 rename_i fs z hu hz;obtain⟨it,zv,hi,hzz,hzr,hzl⟩:=jU (M:=M) hz;split at hr
 case h_2=>cases hr
 rename_i places hpl hone
 cases hf:fillG (fun i=>places[i]?) z l with
 | none=>rw[hf]at hr;cases hr
 | some cs =>
  rw[hf]at hr;cases hr
  have hz0:RowsG O M w z zv.cells:=⟨hzr.1,fun j c u hc hu=>by
   have h1:=List.all_eq_true.1 hone c (B5 hc);refine Yo h1 (hzr.2 j c u hc hu) ?_;have:=(hzl c (B5 hc)).2
   cases c with
   | lst e k l xs=>cases l with
    | none=>trivial
    | some c=>cases this
   | _=>trivial⟩
  obtain⟨us',h1,h2⟩:=ZT (place':=fun i=>places.toArray[i]?) (fun i q hq=>by simpa using hq) l _ z zv.cells cs l1 (fun j p q hp' hq=>by
   obtain⟨e1,e2⟩:=l2 j p q hp' hq
   exact⟨e1,e2⟩) hz0 hf
  refine⟨.agg us',by
   rw[he];refine XB (run_build w t _ us' ?_);unfold Program.built;simp only[hi,hu,hzz,hpl]
   exact h1,us'.toList,by simp,by simpa using h2.1,fun j c u hc hu=>h2.2 j c u hc (by simpa using hu)⟩
def addRow (M:Mem) (g:Nat) (us:Array Value):Mem:=fun b o=>if b=g then cellsAt us o else M b o
theorem jO {M:Mem} {w:World} (h:Cons M w) {g:Nat} (hg:w.heap.size≤g) (o:Nat):M g o=none:=by
 cases hm:M g o with
 | none=>rfl
 | some u =>
  have:=XC (h g o u hm);omega
theorem QD {M:Mem} {w:World} (h:Cons M w) (us:Array Value):Sub M (addRow M w.heap.size us):=by
 intro b o u hu;unfold addRow;split
 ·rename_i e;subst e;rw[jO h (B6 _)]at hu;cases hu
 ·exact hu
theorem XW {M:Mem} {w:World} (h:Cons M w) (us:Array Value) (e:TypeId):Cons (addRow M w.heap.size us) (w.alloc (.cells us e)):=by
 intro b o u hu;unfold addRow at hu;split at hu
 ·rename_i e';subst e';unfold mc;rw[heap_alloc_new];exact hu
 ·have hb:=XC (h b o u hu);rw[jY (heap_alloc_old w _ hb)];exact h b o u hu
theorem JZ {M:Mem} {w:World} (h:Cons M w) (ob:Obj):Cons M (w.alloc ob):=by
 intro b o u hu;have hb:=XC (h b o u hu);rw[jY (heap_alloc_old w _ hb)];exact h b o u hu
theorem Zd {s:Nat}:∀ (ps:List (Nat×AV)) (i:Nat) (A:List AV),A.length=i * s→inOrder i ps=true→(∀ p∈ps,p.2.cells.length=s∧p.2.cells.all AV.one=true) →
  fillA (fun i=>some (i * s,s)) (A++D0 (ps.length * s) .top) ps=some (A++ps.flatMap fun p=>p.2.cells.map AV.strip)
 | [],i,A,hA,_,_=>by simp[fillA]
 | (j,v)::ps,i,A,hA,ho,hp=>by
  simp only[inOrder,A6]at ho;obtain⟨e,ho⟩:=ho;have e:=A4 e;subst e;obtain⟨h1,h2⟩:=hp (i,v) (List.mem_cons_self ..);simp only at h1 h2
  have ih:=Zd ps (i+1) (A++v.cells.map AV.strip) (by simp[hA,h1,A7]) ho fun p hp'=>hp p (D3 _ hp')
  have hlen:(A++D0 (((i,v)::ps).length * s) AV.top).length=i * s+(ps.length * s+s):=by simp[hA,A7]
  simp only[fillA]
  have hc:(Nat.beq v.cells.length s && Nat.ble (i * s+s) (A++D0 (((i,v)::ps).length * s) AV.top).length && v.cells.all AV.one)=true:=by
   simp only[A6];refine⟨⟨by rw[h1];simp,Nat.ble_eq_true_of_le (by rw[hlen];omega)⟩,h2⟩
  rw[hc];simp only[List.flatMap_cons];rw[← A9,← ih]
  congr 1
  rw[List.take_append_of_le_length (by omega),List.take_of_length_le (by omega),List.drop_append];rw[List.drop_of_length_le (by omega)];simp only[List.nil_append,List.drop_replicate,A9]
  congr 3
  simp only[List.length_cons,A7,hA];omega
end
end Go.AM
namespace Go.AM
open Go.RowKit
section
variable {bs:Base} {n:Nat} {M:Mem} {O:Gh} {env:Env} {a:Act} {w:World} {P:Program}
def unAgg (p:Nat×AV):AV:=match p.2 with | .agg cs=>.agg (cs.map AV.strip) | x=>x.strip
theorem XH (p:Nat×AV):(unAgg p).cells=p.2.cells.map AV.strip:=by
 obtain⟨i,x⟩:=p;cases x <;> rfl
theorem Jb {x:AV} (h:x.one=true):x.strip.one=true:=by
 cases x <;> first | rfl | cases h
theorem YC (P:Program) (e:TypeId) (x:AV):nilE P e x=x∨x=.nils∧∃ e' k',nilE P e x=.lst e' k' none []:=by
 cases x with
 | nils =>
  simp only[nilE];split
  ·exact .inr ⟨trivial,_,_,rfl⟩
  ·exact .inl rfl
 | _=>exact .inl rfl
theorem UR (P:Program) (e:TypeId):∀ (xs:List AV),(flat (xs.map (nilE P e))).length=(flat xs).length∧∀ (j:Nat) c,(flat (xs.map (nilE P e)))[j]? = some c→∃ c0,(flat xs)[j]? = some c0∧(c=c0∨c0=.nils∧∃ e' k',c=.lst e' k' none [])
 | []=>⟨rfl,fun j c h=>by simp[flat]at h⟩
 | x::xs=>by
  obtain⟨ih1,ih2⟩:=UR P e xs;have hx:flat ((x::xs).map (nilE P e))=(nilE P e x).cells++flat (xs.map (nilE P e)):=rfl;have hx2:flat (x::xs)=x.cells++flat xs:=rfl;rw[hx,hx2]
  have hlen:(nilE P e x).cells.length=x.cells.length:=by
   rcases YC P e x with h | ⟨rfl,e',k',h⟩ <;> rw[h] <;> rfl
  refine⟨by simp[hlen,ih1],fun j c hj=>?_⟩;by_cases hl:j<x.cells.length
  ·rw[A5 (by omega)]at hj;rw[A5 hl]
   rcases YC P e x with h | ⟨rfl,e',k',h⟩
   ·rw[h]at hj;exact⟨c,hj,.inl rfl⟩
   ·rw[h]at hj
    obtain rfl:j=0:=by simp[AV.cells]at hl;omega
    cases hj;exact⟨.nils,rfl,.inr ⟨rfl,e',k',rfl⟩⟩
  ·rw[B0 (by omega),hlen]at hj;rw[B0 (by omega)];exact ih2 _ c hj
theorem R.nilsE {M:Mem} {e e' k:Nat} {xs:List AV} {v:Value} (h:R M (.lst e' k none xs) v):R M (.lst e' k none (xs.map (nilE P e))) v:=by
 generalize hx:AV.lst e' k none xs=x at h
 cases h with
 | lstn=>cases hx;exact .lstn _ _ _
 | lste=>cases hx;exact .lste _ _ _ _ _
 | lst us h1 h2 h3 h4 h5 =>
  cases hx;obtain⟨_,hf⟩:=UR P e xs
  have e1:xs.length=(xs.map (nilE P e)).length:=by rw[C6]
  rw[e1]
  have hm:∀ y,y∈xs.map (nilE P e)→∃ x,x∈xs∧(y=x∨x=.nils∧∃ e' k',y=.lst e' k' none []):=by
   intro y hy;obtain⟨x,hx,rfl⟩:=List.mem_map.1 hy;exact⟨x,hx,YC P e x⟩
  refine .lst us (by rw[← e1];exact h1) (fun y hy=>?_) (fun y hy=>?_) (fun j c hc=>?_) (fun j c hc=>?_)
  ·obtain⟨x,hx,rfl | ⟨rfl,e',k',rfl⟩⟩:=hm y hy
   ·exact h2 _ hx
   ·have:=h2 AV.nils hx;exact this
  ·obtain⟨x,hx,rfl | ⟨rfl,e',k',rfl⟩⟩:=hm y hy
   ·exact h3 _ hx
   ·rfl
  ·obtain⟨c0,q1,q2⟩:=hf j c hc;exact h4 j c0 q1
  ·obtain⟨c0,q1,rfl | ⟨rfl,e',k',rfl⟩⟩:=hf j c hc
   ·exact h5 j _ q1
   ·have:=h5 j _ q1;generalize us j=u at this;cases this;exact .lstn _ _ _
 | _=>cases hx
theorem Jn (h:Inv bs n M O env a w) {o:Oper} {t len:Nat} {ps:Array (Nat×Operand)} (ho:o.op=.buildSlice t len ps) {l:List (Nat×AV)} (hl:parts? env ps=some l) {r:AV} (hr:Yb P t len l=some r) :
  ∃ (e k:Nat) (xs:List AV) (us:Array Value),r=.lst e k none xs∧(execOp a.eval o).run P w=.ok (.value (.slice (some ⟨w.heap.size,0,none⟩) xs.length xs.length)) (w.alloc (.cells us e))∧us.size=xs.length * k ∧
   R (addRow M w.heap.size us) (.lst e k none xs) (.slice (some ⟨w.heap.size,0,none⟩) xs.length xs.length)∧xs.length≤16777216:=by
 obtain⟨l1,l2⟩:=XN h hl
 have he:execOp a.eval o=vS (Instr.buildSlice t len (ps.map fun (i,x)=>(i,a.eval x))):=by unfold execOp;rw[ho];rfl
 unfold Yb at hr;split at hr
 case h_2=>cases hr
 rename_i e s hse;obtain⟨hu,hs⟩:=jb hse;split at hr
 case h_2=>cases hr
 rename_i hc;cases hr;simp only[A6]at hc;obtain⟨⟨⟨⟨⟨c1,c2⟩,c3⟩,c4⟩,c5⟩,c6⟩:=hc;have c2:=A4 c2;have c3:=B7 c3;have c5:0<s:=B7 c5;simp only[C9,A6]at c6
 obtain⟨ie,hie,hsz⟩:∃ ie,P.info? e=some ie∧ie.size=s:=by
  unfold tSize at hs
  cases hi:P.info? e with
  | none=>rw[hi]at hs;cases hs
  | some ie=>rw[hi]at hs;exact⟨ie,rfl,Option.some.inj hs⟩
 subst hsz
 obtain⟨z,hz⟩:∃ z,ie.zero=some z:=by
  rw[hie]at c1;simp only[Option.bind_some]at c1
  cases hz:ie.zero with
  | none=>rw[hz]at c1;cases c1
  | some z=>exact⟨z,rfl⟩
 by_cases c7:len=0
 ·subst c7;have hl0:l=[]:=C8 c2;subst hl0;have hps:ps=#[]:=Array.eq_empty_of_size_eq_zero (by simpa using l1.symm);subst hps;refine⟨e,ie.size,[],#[],rfl,?_,by simp,R.lste _ _ _ _ _,by simp⟩;rw[he];refine XB ?_;simp[Instr.buildSlice,run_underlying hu,sizeOf,typeInfo,hie,Instr.fill,newRow,Array.range_zero']
 have c7:0<len:=Nat.pos_of_ne_zero c7;have hfill:=Zd (s:=ie.size) l 0 [] (by simp) c4 (fun p hp=>⟨A4 (c6 p hp).1,(by simpa using (c6 p hp).2)⟩);simp only[List.nil_append]at hfill;obtain⟨us,h1,h2⟩:=YK (M:=M) (place:=fun i=>some (i * ie.size,ie.size)) (place':=fun i=>some (i * ie.size,ie.size)) (fun i q hq=>hq) l _ _
  ((Array.range (len * ie.size)).map (z.cells[· % z.cells.size]!)) _ l1
  (fun j p q hp hq=>by
   obtain⟨e1,e2⟩:=l2 j p q hp hq
   exact⟨e1,QG e2 (by simpa using (c6 p (B5 hp)).2)⟩)
  ⟨by simp[c2],fun j c u hc hu=>by
   rw[List.getElem?_replicate]at hc;split at hc
   ·cases hc;exact .top u
   ·cases hc⟩ hfill
 have hlen:(l.map unAgg).length=len:=by simp[c2]
 have hflat:flat (l.map unAgg)=l.flatMap fun p=>p.2.cells.map AV.strip:=by
  unfold flat;rw[List.flatMap_map];simp only[XH]
 have hty:∀ x,x∈l.map unAgg→x.cells.length=ie.size:=by
  intro x hx;obtain⟨p,hp,rfl⟩:=List.mem_map.1 hx;rw[XH]
  simpa using A4 (c6 p hp).1
 have hsize:us.size=(l.map unAgg).length * ie.size:=by
  rw[← h2.1,← hflat,qI hty]
 have hll:((l.map unAgg).map (nilE P e)).length=(l.map unAgg).length:=by rw[C6]
 suffices hmain:(execOp a.eval o).run P w=.ok (.value (.slice (some ⟨w.heap.size,0,none⟩) (l.map unAgg).length (l.map unAgg).length)) (w.alloc (.cells us e)) ∧
   R (addRow M w.heap.size us) (.lst e ie.size none (l.map unAgg)) (.slice (some ⟨w.heap.size,0,none⟩) (l.map unAgg).length (l.map unAgg).length)∧(l.map unAgg).length≤16777216 by
  refine⟨e,ie.size,(l.map unAgg).map (nilE P e),us,rfl,?_,by rw[hll];exact hsize,?_,by rw[hll];exact hmain.2.2⟩
  ·rw[hll];exact hmain.1
  ·rw[hll];exact hmain.2.1.nilsE
 refine⟨?_,?_,?_⟩
 ·rw[he,hlen];refine XB ?_
  exact run_buildSlice w t e len _ us ie z hu hie hz (by omega) (by
   have:=Nat.mul_pos c7 c5
   omega) h1
 ·refine R.lst (fun j=>us.getD j undef) (B6 _) hty (fun x hx=>?_) (fun j c hj=>?_) (fun j c hj=>?_)
  ·obtain⟨p,hp,rfl⟩:=List.mem_map.1 hx;rw[XH];have:=(c6 p hp).2;simp only[List.all_map,C9]at this ⊢;intro y hy;exact Jb (this y hy)
  ·rw[hflat]at hj;have hjl:=(List.getElem?_eq_some_iff.1 hj).1;rw[h2.1]at hjl;unfold addRow;rw[if_pos rfl]
   have hone:c.one=true:=by
    have hmem:=B5 hj;obtain⟨y,hy,hyc⟩:=List.mem_flatMap.1 hmem;obtain⟨z,hz,rfl⟩:=List.mem_map.1 hyc;exact Jb ((by simpa using (c6 y hy).2:∀ x,x∈y.2.cells→x.one=true) z hz)
   have e1:us[0+j]? = some (us.getD j undef):=by simp[hjl]
   exact jk e1 (Jl ((h2.2 j c _ hj (by simp[hjl])).one hone))
  ·rw[hflat]at hj;have hjl:=(List.getElem?_eq_some_iff.1 hj).1;rw[h2.1]at hjl;refine (h2.2 j c _ hj ?_).mono (QD h.cons us);simp[hjl]
 ·have:len≤len * ie.size:=Nat.le_mul_of_pos_right _ c5;rw[hlen];omega
def Made (P:Program) (O:Gh) (M:Mem) (a:Act) (w:World) (o:Oper) (x:AV):Prop :=
 ∃ v w' M',(execOp a.eval o).run P w=.ok (.value v) w'∧w.grownBy w' none∧Sub M M'∧Cons M' w'∧(∀ b o,b<w.heap.size→M' b o=M b o)∧ValOk O M' w' x v
theorem NC (w:World) (row:Option Nat):w.grownBy w row:=⟨rfl,rfl,rfl,B6 _,fun _ _ _=>rfl⟩
theorem Simple.made (h:Inv bs n M O env a w) {o:Oper} {x:AV} (hs:Simple P O M a w o x):Made P O M a w o x:=by
 obtain⟨v,h1,h2⟩:=hs;exact⟨v,w,M,h1,NC w none,Sub.refl M,h.cons,fun _ _ _=>rfl,h2⟩
theorem XA {M:Mem} {w:World} (us:Array Value):∀ b o,b<w.heap.size→addRow M w.heap.size us b o=M b o:=by
 intro b o hb;unfold addRow;rw[if_neg (by omega)]
theorem VR (s:ByteArray):flat (bytesA s)=bytesA s:=by
 unfold flat bytesA;rw[List.flatMap_map];simp only[AV.cells];exact List.map_eq_flatMap.symm
theorem HL (h:Inv bs n M O env a w) {o:Oper} {y:Operand} {s d:TypeId} (ho:o.op=.convert s d y) {q:ByteArray} {x:AV} (hp:aop env y=some (.str q)) (hx:QM P s d (.str q)=some x):Made P O M a w o x:=by
 have hv:=(qj h hp).1.str_inv;simp only[QM]at hx;split at hx
 case h_2=>cases hx
 rename_i e hs hd;split at hx
 case h_2=>cases hx
 rename_i hb;cases hx
 have he:execOp a.eval o=vS (convert s d (a.eval y)):=by unfold execOp;rw[ho];rfl
 have hrun:=Lib.run_convert_string_bytes (P:=P) w s d e q hs hd (XQ hb)
 have hget:∀ j:Nat,(q.data.map fun (b:UInt8)=>Value.int .u8 (b.toNat:Int))[j]? = (q.data.toList[j]?).map fun (b:UInt8)=>Value.int .u8 (b.toNat:Int):=by
  intro j;simp
 refine⟨.slice (some ⟨w.heap.size,0,none⟩) q.size (grownCap w q.size 0 e),Lib.bytesWorld w e q,addRow M w.heap.size (q.data.map fun (b:UInt8)=>Value.int .u8 (b.toNat:Int)),?_,?_,QD h.cons _,?_,XA _,?_,trivial⟩
 ·rw[he,hv];exact XB hrun
 ·exact⟨rfl,rfl,rfl,by rw[Lib.bytesWorld_size];omega,fun k hk _=>Lib.bytesWorld_at_old w e q k hk⟩
 ·intro b o u hu;unfold addRow at hu;split at hu
  ·rename_i eb;subst eb;obtain⟨hu,htp⟩:=Ql hu;rw[hget]at hu
   have hlt:o<q.size:=by
    rcases Nat.lt_or_ge o q.size with k | k
    ·exact k
    ·rw[List.getElem?_eq_none (by rw[D1];exact k)]at hu;cases hu
   refine YD ?_ htp;rw[Lib.bytesWorld_cell w e q o hlt]
   have hlt':o<q.data.toList.length:=by rw[D1];exact hlt
   rw[D5 hlt']at hu;cases hu;simp[List.getD,D5 hlt']
  ·have:=h.cons b o u hu;rw[jY (Lib.bytesWorld_at_old w e q b (XC this))];exact this
 ·have hlen:(bytesA q).length=q.size:=by unfold bytesA;rw[C6,D1];rfl
  rw[← hlen];refine R.lst (fun j=>(q.data.map fun (b:UInt8)=>Value.int .u8 (b.toNat:Int)).getD j undef) ?_ (fun z hz=>?_) (fun z hz=>?_) (fun j c hc=>?_) (fun j c hc=>?_)
  ·rw[hlen];exact grownCap_ge w _ _ _
  ·unfold bytesA at hz;obtain⟨b,_,rfl⟩:=List.mem_map.1 hz;rfl
  ·unfold bytesA at hz;obtain⟨b,_,rfl⟩:=List.mem_map.1 hz;rfl
  ·rw[VR]at hc;have hj:=(List.getElem?_eq_some_iff.1 hc).1;rw[hlen]at hj;unfold addRow;rw[if_pos rfl,Nat.zero_add]
   have hjl:j<(q.data.map fun (b:UInt8)=>Value.int .u8 (b.toNat:Int)).size:=by rw[Array.size_map];exact hj
   refine jk (by rw[D2,D6 hjl];rfl) ?_;rw[D2,D6 hjl,Array.getElem_map];rfl
  ·rw[VR]at hc;unfold bytesA at hc;rw[A8]at hc
   cases hb:q.data.toList[j]? with
   | none=>rw[hb]at hc;cases hc
   | some b =>
    rw[hb]at hc;cases hc
    have:(q.data.map fun (b:UInt8)=>Value.int .u8 (b.toNat:Int)).getD j undef=.int .u8 b.toNat:=by
     rw[D2,hget,hb];rfl
    rw[this];exact .int _ _
theorem YA (h:Inv bs n M O env a w) {o:Oper} {x:AV} (hx:apure P o env=some x):Made P O M a w o x:=by
 obtain⟨dst,op,ty,pos,after,guard⟩:=o
 cases op with
 | move y=>exact (ZL h (.inl rfl) hx).made h
 | assign y=>exact (ZL h (.inr rfl) hx).made h
 | pick c p q =>
  simp only[apure]at hx;split at hx
  ·rename_i hb;exact (ZK h rfl hb (by simpa using hx)).made h
  ·rename_i hb;exact (ZK h rfl hb (by simpa using hx)).made h
  ·cases hx
 | binOp op t y z t' =>
  simp only[apure]at hx;split at hx
  ·rename_i p q hp hq;exact (Dn h rfl hp hq hx).made h
  ·cases hx
 | unOp op t y =>
  simp only[apure]at hx;split at hx
  ·rename_i p hp;exact (qag h rfl hp hx).made h
  ·cases hx
 | convert s t y =>
  simp only[apure]at hx;split at hx
  ·rename_i p hp;by_cases hq:∃ q,p=.str q
   ·obtain⟨q,rfl⟩:=hq;exact HL (o:=⟨dst,.convert s t y,ty,pos,after,guard⟩) h rfl hp hx
   ·exact (Vy h rfl (fun q e=>hq ⟨q,e⟩) hp hx).made h
  ·cases hx
 | build t ps =>
  simp only[apure]at hx;split at hx
  ·rename_i l hl;split at hx
   ·rename_i v hv;cases hx;exact (Nn h rfl hl hv).made h
   ·rw[Option.map_eq_some_iff]at hx;obtain⟨v,hv,rfl⟩:=hx;obtain⟨u,h1,h2⟩:=Yt h (o:=⟨dst,.build t ps,ty,pos,after,guard⟩) rfl hl hv;exact (show Simple P O M a w ⟨dst,.build t ps,ty,pos,after,guard⟩ v.strip from⟨u,h1,ZJ h2⟩).made h
  ·cases hx
 | buildSlice t m ps =>
  simp only[apure]at hx;split at hx
  ·rename_i l hl;obtain⟨e,k,xs,us,e1,h1,h2,h3,_⟩:=Jn (o:=⟨dst,.buildSlice t m ps,ty,pos,after,guard⟩) h rfl hl hx;subst e1;exact⟨_,_,_,h1,World.grownBy_alloc w _ none,QD h.cons us,XW h.cons us e,XA us,h3,trivial⟩
  ·cases hx
 | load t y =>
  simp only[apure]at hx;split at hx
  ·rename_i p hp;exact (NV h rfl hp hx).made h
  ·cases hx
 | fieldAddr t y f =>
  simp only[apure]at hx;split at hx
  ·rename_i p hp;exact (Zt h rfl hp hx).made h
  ·cases hx
 | field t y f =>
  simp only[apure]at hx;split at hx
  ·rename_i cs o' ft sz hp hf;exact (Nl h rfl hp hf hx).made h
  ·rename_i cs o' ft sz hp hf;exact (Uf h rfl hp hf hx).made h
  ·cases hx
 | indexAddr t y i =>
  simp only[apure]at hx;split at hx
  ·rename_i p q hp hq;exact (Zs h rfl hp hq hx).made h
  ·cases hx
 | index t y i =>
  simp only[apure]at hx;split at hx
  ·rename_i p q hp hq;exact (Nk h rfl hp hq hx).made h
  ·cases hx
 | slice t y lo hi mx =>
  cases mx with
  | some mx =>
   cases hi with
   | none=>simp[apure]at hx
   | some hi =>
    simp only[apure]at hx;split at hx
    case h_2=>cases hx
    rename_i e k lab xs k2 m hp hm;split at hx
    case h_2=>cases hx
    rename_i e' k' hse;split at hx
    case h_2=>cases hx
    rename_i l k1 c hk hl hh;have hk:=A4 hk;subst hk;split at hx
    case isFalse=>cases hx
    rename_i hb;cases hx;exact (Ud h rfl hp hse hl hh hm hb).made h
  | none =>
   simp only[apure]at hx;split at hx
   ·rename_i p hp;exact (Nj h rfl hp hx).made h
   ·cases hx
 | makeFunc fn first caps =>
  cases fn <;> simp only[apure]at hx <;> try (cases hx;done)
  split at hx
  ·rename_i l hf hl;split at hx
   ·rename_i hp;cases hx;exact (Vf h rfl (A4 hf) hl hp).made h
   ·split at hx
    ·rename_i hp;cases hx;exact (Zr h rfl (A4 hf) hl hp).made h
    ·cases hx
  ·cases hx
 | lookup t y k c =>
  cases c with
  | true=>simp[apure]at hx
  | false =>
   simp only[apure]at hx;split at hx
   ·rename_i m kk hm hk
    cases hr:alookup P t env m kk with
    | none=>rw[hr]at hx;cases hx
    | some r =>
     rw[hr]at hx;cases hx;exact (Ue h rfl hm hk hr).made h
   ·cases hx
 | entry y =>
  simp only[apure]at hx;split at hx
  case h_2=>cases hx
  rename_i id hp;split at hx
  case h_2=>cases hx
  rename_i k ks v vs hl;cases hx;exact (Nm h rfl hp hl).made h
 | extract y i =>
  simp only[apure]at hx;split at hx
  ·rename_i vs hp;exact (Vx h rfl hp hx).made h
  ·rename_i id e k off m rest hp;exact (Vg h rfl hp hx).made h
  ·cases hx
 | nilCheck y =>
  simp only[apure]at hx;split at hx
  ·rename_i z hp;cases hx;exact (XD h rfl hp (.inl ⟨z,rfl⟩)).made h
  ·rename_i b z hp
   cases b with
   | false=>cases hx;exact (Zq h rfl hp).made h
   | true=>cases hx
  ·rename_i s m hp;cases hx;exact (XD h rfl hp (.inr ⟨s,m,rfl⟩)).made h
  ·cases hx
 | call c =>
  obtain⟨callee,args,ats⟩:=c
  cases callee with
  | value f=>simp[apure]at hx
  | invoke r m=>simp[apure]at hx
  | builtin b =>
   cases b <;> simp only[apure]at hx <;> try (cases hx;done)
   case len =>
    split at hx
    ·rename_i y t ha ht;split at hx
     ·rename_i p hp;exact (Dm h rfl ha ht hp hx).made h
     ·cases hx
    ·cases hx
   case max =>
    split at hx
    ·rename_i y z ha;split at hx
     ·rename_i k p k' q hp hq;cases hx;exact (Dl h rfl ha hp hq).made h
     ·cases hx
    ·cases hx
   case min =>
    split at hx
    ·rename_i y z ha;split at hx
     ·rename_i k p k' q hp hq;cases hx;exact (Dk h rfl ha hp hq).made h
     ·cases hx
    ·cases hx
 | _=>simp[apure]at hx
theorem JN (h:Inv bs n M O env a w) {d:Option Nat} {x:AV} {v:Value} (hv:ValOk O M w x v) {env':Env} (he:eput n d x env=some env'):Inv bs n M O env' (a.put d v) w:=by
 unfold eput at he;split at he
 ·cases he;exact h
 ·rename_i t;split at he
  ·rename_i hc;cases he;simp only[A6]at hc;exact h.put (B7 hc.1) hv
  ·cases he
def Leads (P:Program) (bs:Base) (n:Nat) (o:Oper) (a:Act) (w:World) (env':Env):Prop :=
 ∃ v w' M' O',((execOp a.eval o).run P w=.ok (.value v) w'∨((execOp a.eval o).run P w=.ok .skip w'∧v=undef))∧Inv bs n M' O' env' (a.put o.dst v) w'
theorem Xr (h:Inv bs n M O env a w) {o:Oper} {x:AV} (hx:apure P o env=some x) {env':Env} (he:eput n o.dst x env=some env'):Leads P bs n o a w env':=by
 obtain⟨v,w',M',h1,h2,h3,h4,h5,h6⟩:=YA h hx;have h':=h.grown (row:=none) (fun g e=>by cases e) h2 h3 h4 (fun b o hb _=>h5 b o hb);exact⟨v,w',M',O,.inl h1,JN h' h6 he⟩
end
end Go.AM
