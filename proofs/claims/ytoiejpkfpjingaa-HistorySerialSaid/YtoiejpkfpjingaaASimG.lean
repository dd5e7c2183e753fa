import Derived.Test.YtoiejpkfpjingaaASimD
import Derived.Great.BuildSlice
import Derived.Lib.ConvBytes
set_option linter.all false
open Go.Sem renaming run_bind→A0, run_pure→A6
open Go.Result renaming andThen_ok→A1
open Bool renaming and_eq_true→A2
open Nat renaming eq_of_beq_eq_true→A3, le_of_ble_eq_true→A4, add_mul→A9, le_refl→B5, add_assoc→D0, add_zero→D2
open List renaming mem_of_getElem?→A5, getElem?_map→A7, getElem?_append_left→B6, append_assoc→B7, length_map→B9, getElem?_append_right→C5, all_eq_true→C6, mem_of_mem_take→C7, getElem?_drop→C8, mem_of_mem_drop→D1, mem_cons_self→D5, mem_cons_of_mem→D6, flatMap_append→D7, take_append_drop→D8, eq_nil_of_length_eq_zero→D9, getElem?_take→E0, replicate→E7, flatMap_cons→E8, any_map→F0, any_eq_false→F3, set_eq_take_append_cons_drop→F4, take_of_length_le→F5, drop_of_length_le→F6, getElem?_eq_getElem→F7
open Option renaming map_some→A8, map_none→D3, isSome_none→D4
open Array renaming length_toList→C4, getD_eq_getD_getElem?→E9, getElem?_eq_getElem→F8
namespace Go.AM
open Go.RowKit
section
variable {bs:Base} {n:Nat} {M:Mem} {O:Gh} {env:Env} {a:Act} {w:World} {P:Program}
theorem Zg (h:Inv bs n M O env a w) {d:Int} {x:Option Operand} {m:Int} (hm:aoptInt env d x=some m):(x=none∧m=d)∨∃ y k,x=some y∧a.eval y=.int k m:=by
 unfold aoptInt at hm;split at hm
 ·cases hm;exact .inl ⟨rfl,rfl⟩
 ·rename_i y;split at hm
  ·rename_i k m' hy;cases hm;exact .inr ⟨y,k,rfl,(qD h hy).1.int_inv⟩
  ·cases hm
theorem Xd (k:IntKind) (m:Int) (y:Nat) (c:BoundsCode) (h0:0≤m) (h1:m≤y):(Instr.sliceBound (.int k m) y c).run P w=.ok m.toNat w:=by
 unfold Instr.sliceBound;simp only[asIntOf,A0,A6,A1,h0,h1,and_self,if_true]
theorem XU (h:Inv bs n M O env a w) {isSlice:Bool} {lo hi:Option Operand} {l m:Int} {len cap:Nat} (hl:aoptInt env 0 lo=some l) (hh:aoptInt env len hi=some m) (h0:0≤l) (h1:l≤m) (h2:m≤len) (hc:len≤cap) :
  (Instr.sliceBounds isSlice len cap (lo.map a.eval) (hi.map a.eval) none).run P w=.ok (l.toNat,m.toNat,cap) w:=by
 unfold Instr.sliceBounds
 rcases Zg h hh with ⟨rfl,e⟩ | ⟨y,k,rfl,e⟩
 ·rcases Zg h hl with ⟨rfl,e'⟩ | ⟨y',k',rfl,e'⟩
  ·simp[A0,e,e']
  ·subst e;simp only[D3,A8,e',A0,A6,A1,D4];rw[Xd k' l len _ h0 h1];simp
 ·have hb:∀ c,(Instr.sliceBound (.int k m) cap c).run P w=.ok m.toNat w:=fun c=>Xd k m cap c (by omega) (by omega)
  rcases Zg h hl with ⟨rfl,e'⟩ | ⟨y',k',rfl,e'⟩
  ·simp only[D3,A8,e,A0,A6,A1,hb];simp[e']
  ·simp only[D3,A8,e,e',A0,A6,A1,hb,D4];rw[Xd k' l m.toNat _ h0 (by omega)];rfl
theorem NT (h:Inv bs n M O env a w) {isSlice:Bool} {lo:Option Operand} {hi mx:Operand} {l m c:Int} {k1 k2:IntKind} {len cap:Nat} (hl:aoptInt env 0 lo=some l) (hh:a.eval hi=.int k1 m) (hx:a.eval mx=.int k2 c) (h0:0≤l) (h1:l≤m) (h2:m≤c) (hc:c≤cap) :
  (Instr.sliceBounds isSlice len cap (lo.map a.eval) (some (a.eval hi)) (some (a.eval mx))).run P w=.ok (l.toNat,m.toNat,c.toNat) w:=by
 unfold Instr.sliceBounds
 have b1:∀ q,(Instr.sliceBound (.int k2 c) cap q).run P w=.ok c.toNat w:=fun q=>Xd k2 c cap q (by omega) hc
 have b2:∀ q,(Instr.sliceBound (.int k1 m) c.toNat q).run P w=.ok m.toNat w:=fun q=>Xd k1 m c.toNat q (by omega) (by omega)
 rcases Zg h hl with ⟨rfl,e'⟩ | ⟨y',k',rfl,e'⟩
 ·simp only[D3,hh,hx,A0,A6,A1,b1,b2];simp[e']
 ·simp only[A8,hh,hx,e',A0,A6,A1,b1,b2,Option.isSome_some];rw[Xd k' l m.toNat _ h0 (by omega)];rfl
theorem YD {k:Nat}:∀ {xs:List AV} (i:Nat),(∀ x,x∈xs→x.cells.length=k)→flat (xs.drop i)=(flat xs).drop (i * k)
 | xs,0,_=>by simp
 | [],i+1,_=>by simp[flat]
 | x::xs,i+1,h=>by
  have h1:=h x (D5 ..)
  have ih:=YD (xs:=xs) i fun y hy=>h y (D6 _ hy)
  rw[List.drop_succ_cons,ih]
  have e:flat (x::xs)=x.cells++flat xs:=by simp[flat]
  have e2:(i+1) * k=x.cells.length+i * k:=by rw[h1,A9];omega
  rw[e,e2,List.drop_append];simp
theorem qbQ (h:Inv bs n M O env a w) {o:Oper} {t:TypeId} {x:Operand} {lo hi:Option Operand} (ho:o.op=.slice t x lo hi none) {p r:AV} (hp:aop env x=some p) (hr:aslice P t p lo hi env=some r):Simple P O M a w o r:=by
 have hx:=qD h hp
 have he:execOp a.eval o=vS (Instr.sliceAt t (a.eval x) (lo.map a.eval) (hi.map a.eval) none):=by unfold execOp;rw[ho];rfl
 unfold aslice at hr;split at hr
 ·rename_i e k lab xs;split at hr
  case h_2=>cases hr
  rename_i e' k' hse;split at hr
  case h_2=>cases hr
  rename_i hk;have hk:=A3 hk;subst hk;obtain⟨hu,hs⟩:=JK hse;split at hr
  case h_2=>cases hr
  rename_i l m hl hm;by_cases hb:0≤l∧l≤m∧m≤xs.length
  case neg=>rw[if_neg hb]at hr;cases hr
  rw[if_pos hb]at hr;cases hr;obtain⟨b0,b1,b2⟩:=hb
  have hrun:∀ (ad:Option Addr) (cap:Nat),xs.length≤cap→a.eval x=.slice ad xs.length cap→(Instr.sliceAt t (a.eval x) (lo.map a.eval) (hi.map a.eval) none).run P w =
    .ok (.slice (if cap=l.toNat then ad else ad.map (·.add (l.toNat * k))) (m.toNat - l.toNat) (cap - l.toNat)) w:=by
   intro ad cap hc hv;rw[hv];unfold Instr.sliceAt Instr.slice;simp only[A0,run_underlying hu,A1,XU h hl hm b0 b1 b2 hc,JD hs,A6]
  rcases hx.1.lst_inv with ⟨rfl,hv | ⟨ad,cap,hv⟩⟩ | ⟨b,off,cap,us,hv,h1,h2,h3,h4,h5⟩
  ·have l0:l=0:=by simp at b2;omega
   have m0:m=0:=by simp at b2;omega
   subst l0;subst m0;refine⟨_,by rw[he];exact VD (hrun none 0 (by simp) hv),?_,?_⟩
   ·simp;exact R.lstn e k _
   ·simp
    cases hi <;> cases lab <;> first | trivial | exact .inl ⟨_,rfl⟩
  ·have l0:l=0:=by simp at b2;omega
   have m0:m=0:=by simp at b2;omega
   subst l0;subst m0
   have how:OwnV O M w (.lst e k (keepLab hi lab) []) (.slice (some ad) 0 cap):=by
    cases hi with
    | some _=>trivial
    | none=>rw[← hv];exact hx.2
   refine⟨_,by rw[he];exact VD (hrun (some ad) cap (by simp) hv),?_⟩
   have e0:(if cap=(0:Int).toNat then some ad else (some ad).map (·.add ((0:Int).toNat * k)))=some ad:=by
    split
    ·rfl
    ·simp[Addr.add]
   rw[e0];refine⟨?_,by simpa using how⟩;simp;exact R.lste e k _ ad cap
  ·refine⟨_,by rw[he];exact VD (hrun _ cap h1 hv),?_⟩
   have hlen:((xs.take m.toNat).drop l.toNat).length=m.toNat - l.toNat:=by simp;omega
   have hty:∀ y,y∈xs.take m.toNat→y.cells.length=k:=fun y hy=>h2 y (C7 hy)
   have hflat:∀ (j:Nat) c,(flat ((xs.take m.toNat).drop l.toNat))[j]? = some c→(flat xs)[l.toNat * k+j]? = some c:=by
    intro j c hj;rw[YD _ hty,C8]at hj
    have hsplit:flat xs=flat (xs.take m.toNat)++flat (xs.drop m.toNat):=by
     simp only[flat,← D7,D8]
    rw[hsplit,B6 (List.getElem?_eq_some_iff.1 hj).1];exact hj
   by_cases hcl:cap=l.toNat
   ·rw[if_pos hcl];have hz:(xs.take m.toNat).drop l.toNat=[]:=D9 (by rw[hlen];omega);rw[hz]
    have:m.toNat - l.toNat=([]:List AV).length:=by simp;omega
    rw[this];refine⟨R.lst us (by simp) (by simp) (by simp) (by simp[flat]) (by simp[flat]),?_⟩
    have hc0:cap - l.toNat=0:=by omega
    rw[hc0]
    cases hi <;> cases lab <;> first | trivial | exact .inl ⟨_,rfl⟩
   ·rw[if_neg hcl];simp only[A8,QN]
    have how:OwnV O M w (.lst e k (keepLab hi lab) ((xs.take m.toNat).drop l.toNat)) (.slice (some ⟨b,off+l.toNat * k,none⟩) (m.toNat - l.toNat) (cap - l.toNat)):=by
     cases hi with
     | some _=>trivial
     | none =>
      cases lab with
      | none=>trivial
      | some c =>
       have hm':m=xs.length:=by
        simp only[aoptInt]at hm;exact (Option.some.inj hm).symm
       have hxo:=hx.2;rw[hv]at hxo
       rcases hxo with ⟨ad,ha⟩ | ⟨g,off2,cap2,cur,r1,r2,r3,r4,r5,r6,r7⟩
       ·have:=(Value.slice.inj ha).2.2;omega
       ·cases r1;refine .inr ⟨b,off+l.toNat * k,cap - l.toNat,cur,by rw[hlen],r2,r3,?_,by rw[hlen];omega,by omega,fun o ho=>r7 o ?_⟩
        ·rw[r4,D0,← A9]
         congr 2
         omega
        ·rw[hlen,D0,← A9]at ho
         have e1:l.toNat+(m.toNat - l.toNat)=xs.length:=by omega
         rw[e1]at ho;exact ho
    refine⟨?_,how⟩;rw[← hlen];exact R.lst (fun j=>us (l.toNat * k+j)) (by rw[hlen];omega) (fun y hy=>hty y (D1 hy)) (fun y hy=>h5 y (C7 (D1 hy))) (fun j c hj=>by rw[D0];exact h3 _ _ (hflat j c hj)) (fun j c hj=>h4 _ _ (hflat j c hj))
 ·
  rename_i id e k off q;split at hr
  case h_2=>cases hr
  rename_i e' k' hse;split at hr
  case h_2=>cases hr
  rename_i hk;have hk:=A3 hk;subst hk;obtain⟨hu,hs⟩:=JK hse;split at hr
  case h_2=>cases hr
  rename_i l m hl hm;by_cases hb:0≤l∧l≤m∧m≤q
  case neg=>rw[if_neg hb]at hr;cases hr
  rw[if_pos hb]at hr;cases hr;obtain⟨b0,b1,b2⟩:=hb
  have hrun:∀ (ad:Option Addr) (cap:Nat),q≤cap→a.eval x=.slice ad q cap→(Instr.sliceAt t (a.eval x) (lo.map a.eval) (hi.map a.eval) none).run P w =
    .ok (.slice (if cap=l.toNat then ad else ad.map (·.add (l.toNat * k))) (m.toNat - l.toNat) (cap - l.toNat)) w:=by
   intro ad cap hc hv;rw[hv];unfold Instr.sliceAt Instr.slice;simp only[A0,run_underlying hu,A1,XU h hl hm b0 b1 b2 hc,JD hs,A6]
  obtain⟨h1,h2⟩:=hx
  rcases h2 with ⟨rfl,ad,hv⟩ | ⟨g,cap,hv,h3,h4,h5,h6⟩
  ·have l0:l=0:=by omega
   have m0:m=0:=by omega
   subst l0;subst m0;refine⟨_,by rw[he];exact VD (hrun ad 0 (by simp) hv),by simpa using h1,.inl ⟨by simp,ad,by simp⟩⟩
  ·refine⟨_,by rw[he];exact VD (hrun _ cap h5 hv),by omega,?_⟩;by_cases hcl:cap=l.toNat
   ·rw[if_pos hcl]
    have e1:m.toNat - l.toNat=0:=by omega
    have e2:cap - l.toNat=0:=by omega
    rw[e1,e2];exact .inl ⟨rfl,_,rfl⟩
   ·rw[if_neg hcl];simp only[A8,QN];refine .inr ⟨g,cap - l.toNat,by rw[A9],h3,?_,by omega,by omega⟩;rw[h4]
    congr 1
    omega
 ·
  rename_i st;split at hr
  case h_2=>cases hr
  rename_i hu;split at hr
  case h_2=>cases hr
  rename_i l m hl hm;by_cases hb:0≤l∧l≤m∧m≤st.size
  case neg=>rw[if_neg hb]at hr;cases hr
  rw[if_pos hb]at hr;cases hr;obtain⟨b0,b1,b2⟩:=hb;have hv:=hx.1.str_inv;refine⟨.string (st.extract l.toNat m.toNat),?_,.str _,trivial⟩;rw[he,hv];refine VD ?_;unfold Instr.sliceAt Instr.slice;simp only[A0,run_underlying hu,A1,D4,Bool.false_eq_true,if_false,A6,XU (P:=P) (isSlice:=false) (cap:=st.size) h hl hm b0 b1 b2 (B5 _)]
 ·split at hr
  case h_2=>cases hr
  rename_i q hse;obtain⟨e',k'⟩:=q;obtain⟨hu,hs⟩:=JK hse;split at hr
  case h_2=>cases hr
  rename_i l m hl hm;by_cases hb:l=0∧m=0
  case neg=>rw[if_neg hb]at hr;cases hr
  rw[if_pos hb]at hr;cases hr;obtain⟨rfl,rfl⟩:=hb
  have hv:a.eval x=.slice none 0 0:=by
   have:=hx.1;generalize a.eval x=y at this;cases this;rfl
  refine⟨.slice none 0 0,?_,.nils,trivial⟩;rw[he,hv];refine VD ?_;unfold Instr.sliceAt Instr.slice;simp only[A0,run_underlying hu,A1,XU (P:=P) (len:=0) (cap:=0) h hl hm (Int.le_refl 0) (Int.le_refl 0) (Int.le_refl 0) (B5 0),JD hs,A6];simp
 ·cases hr
theorem qar (h:Inv bs n M O env a w) {o:Oper} {t:TypeId} {x hi mx:Operand} {lo:Option Operand} (ho:o.op=.slice t x lo (some hi) (some mx)) {e k:Nat} {lab:Option Nat} {xs:List AV} {k1 k2:IntKind} {e':Nat} {l m c:Int} (hp:aop env x=some (.lst e k lab xs)) (hse:JB P t=some (e',k))
  (hl:aoptInt env 0 lo=some l) (hh:aop env hi=some (.int k1 m)) (hm:aop env mx=some (.int k2 c)) (hb:0≤l∧l≤m∧m≤c∧c≤xs.length):Simple P O M a w o (.lst e k none ((xs.take m.toNat).drop l.toNat)):=by
 have hx:=qD h hp;have hhv:=(qD h hh).1.int_inv;have hmv:=(qD h hm).1.int_inv
 have he:execOp a.eval o=vS (Instr.sliceAt t (a.eval x) (lo.map a.eval) (some (a.eval hi)) (some (a.eval mx))):=by unfold execOp;rw[ho];rfl
 obtain⟨hu,hs⟩:=JK hse;obtain⟨b0,b1,b2,b3⟩:=hb
 have hrun:∀ (ad:Option Addr) (cap:Nat),xs.length≤cap→a.eval x=.slice ad xs.length cap→(Instr.sliceAt t (a.eval x) (lo.map a.eval) (some (a.eval hi)) (some (a.eval mx))).run P w =
   .ok (.slice (if c.toNat=l.toNat then ad else ad.map (·.add (l.toNat * k))) (m.toNat - l.toNat) (c.toNat - l.toNat)) w:=by
  intro ad cap hc hv;rw[hv];unfold Instr.sliceAt Instr.slice;have hbnd:=NT (P:=P) h (isSlice:=true) (len:=xs.length) (cap:=cap) hl hhv hmv b0 b1 b2 (by omega);simp only[A0,run_underlying hu,A1,hbnd,JD hs,A6]
 rcases hx.1.lst_inv with ⟨rfl,hv | ⟨ad,cap,hv⟩⟩ | ⟨b,off,cap,us,hv,h1,h2,h3,h4,h5⟩
 ·have c0:c=0:=by simp at b3;omega
  have m0:m=0:=by omega
  have l0:l=0:=by omega
  subst l0;subst m0;subst c0;exact⟨_,by rw[he];exact VD (hrun none 0 (by simp) hv),by simp;exact R.lstn e k _,trivial⟩
 ·have c0:c=0:=by simp at b3;omega
  have m0:m=0:=by omega
  have l0:l=0:=by omega
  subst l0;subst m0;subst c0;exact⟨_,by rw[he];exact VD (hrun (some ad) cap (by simp) hv),by simp;exact R.lste e k _ ad 0,trivial⟩
 ·refine⟨_,by rw[he];exact VD (hrun _ cap h1 hv),?_,trivial⟩
  have hlen:((xs.take m.toNat).drop l.toNat).length=m.toNat - l.toNat:=by simp;omega
  have hty:∀ y,y∈xs.take m.toNat→y.cells.length=k:=fun y hy=>h2 y (C7 hy)
  have hflat:∀ (j:Nat) c,(flat ((xs.take m.toNat).drop l.toNat))[j]? = some c→(flat xs)[l.toNat * k+j]? = some c:=by
   intro j c hj;rw[YD _ hty,C8]at hj
   have hsplit:flat xs=flat (xs.take m.toNat)++flat (xs.drop m.toNat):=by
    simp only[flat,← D7,D8]
   rw[hsplit,B6 (List.getElem?_eq_some_iff.1 hj).1];exact hj
  by_cases hcl:c.toNat=l.toNat
  ·rw[if_pos hcl];have hz:(xs.take m.toNat).drop l.toNat=[]:=D9 (by rw[hlen];omega);rw[hz]
   have:m.toNat - l.toNat=([]:List AV).length:=by simp;omega
   rw[this];exact R.lst us (by simp) (by simp) (by simp) (by simp[flat]) (by simp[flat])
  ·rw[if_neg hcl];simp only[A8,QN];rw[← hlen];exact R.lst (fun j=>us (l.toNat * k+j)) (by rw[hlen];omega) (fun y hy=>hty y (D1 hy)) (fun y hy=>h5 y (C7 (D1 hy))) (fun j c hj=>by rw[D0];exact h3 _ _ (hflat j c hj)) (fun j c hj=>h4 _ _ (hflat j c hj))
theorem DX (off:Nat):∀ (l:List Value) (k:Nat) (cs:Array Value),((l.zipIdx k).foldl (fun cs p=>cs.setIfInBounds (off+p.2) p.1) cs).size=cs.size ∧
  ∀ i:Nat,((l.zipIdx k).foldl (fun cs p=>cs.setIfInBounds (off+p.2) p.1) cs)[i]? = if off+k≤i∧i<off+k+l.length∧i<cs.size then l[i - (off+k)]? else cs[i]?
 | [],k,cs=>⟨rfl,fun i=>by rw[if_neg (by simp;omega)];rfl⟩
 | v::l,k,cs=>by
  obtain⟨h1,h2⟩:=DX off l (k+1) (cs.setIfInBounds (off+k) v);simp only[List.zipIdx_cons,List.foldl_cons];refine⟨by rw[h1];simp,fun i=>?_⟩;rw[h2 i];simp only[List.length_cons,Array.size_setIfInBounds,Array.getElem?_setIfInBounds];by_cases c1:off+(k+1)≤i∧i<off+(k+1)+l.length∧i<cs.size
  ·rw[if_pos c1,if_pos (by omega),show i - (off+k)=(i - (off+(k+1)))+1 by omega];simp
  ·rw[if_neg c1];by_cases c2:off+k=i
   ·rw[if_pos c2];by_cases c3:off+k<cs.size
    ·rw[if_pos c3,if_pos (by omega),show i - (off+k)=0 by omega];simp
    ·rw[if_neg c3,if_neg (by omega)];subst c2;simp;omega
   ·rw[if_neg c2,if_neg (by omega)]
def Rows (M:Mem) (cs:List AV) (us:Array Value):Prop :=
 cs.length=us.size∧∀ (j:Nat) c u,cs[j]? = some c→us[j]? = some u→R M c u
theorem UU {place place':Nat→Option (Nat×Nat)} (hp:∀ i q,place i=some q→place' i=some q):∀ (ps:List (Nat×AV)) (qs:List (Nat×Value)) (cs:List AV) (us:Array Value) (r:List AV),
  ps.length=qs.length→(∀ (j:Nat) p q,ps[j]? = some p→qs[j]? = some q→p.1=q.1∧R M p.2 q.2)→Rows M cs us→fillA place cs ps=some r →
  ∃ us',Instr.fill place' us qs=some us'∧Rows M r us'
 | [],[],cs,us,r,_,_,hr,h=>by
  cases h;exact⟨us,rfl,hr⟩
 | [],_::_,_,_,_,hl,_,_,_=>by simp at hl
 | _::_,[],_,_,_,hl,_,_,_=>by simp at hl
 | (i,v)::ps,(i',u)::qs,cs,us,r,hl,hps,hr,h=>by
  obtain⟨e,hv⟩:=hps 0 (i,v) (i',u) rfl rfl;simp only at e hv;subst e;simp only[fillA]at h;split at h
  ·cases h
  ·rename_i off size hpl;split at h
   case h_2=>cases h
   rename_i hb;simp only[A2]at hb;obtain⟨⟨b1,b2⟩,b3⟩:=hb;have b1:=A3 b1;have b2:=A4 b2;obtain⟨k1,k2,k3⟩:=hv.cells b3;obtain⟨l1,l2⟩:=hr
   have hsz:u.cells.toList.length=size:=by simp[k1,b1]
   obtain⟨f1,f2⟩:=DX off u.cells.toList 0 us
   have hfold:(u.cells.zipIdx.foldl (fun cs p=>cs.setIfInBounds (off+p.2) p.1) us)=((u.cells.toList.zipIdx).foldl (fun cs p=>cs.setIfInBounds (off+p.2) p.1) us):=by
    rw[← Array.foldl_toList];simp
   obtain⟨us',h1,h2⟩:=UU hp ps qs (cs.take off++v.cells.map AV.strip++cs.drop (off+size)) ((u.cells.toList.zipIdx).foldl (fun cs p=>cs.setIfInBounds (off+p.2) p.1) us) r
    (by simpa using hl) (fun j p q hp' hq=>hps (j+1) p q (by simpa using hp') (by simpa using hq)) ⟨by
     rw[f1,← l1];simp;omega,by
     intro j c x hc hx;rw[f2 j]at hx;simp only[D2]at hx;by_cases hj:off≤j∧j<off+u.cells.toList.length∧j<us.size
     ·rw[if_pos hj]at hx;rw[B7,C5 (by simp;omega),B6 (by simp;omega),A7]at hc
      have el:(List.take off cs).length=off:=by simp;omega
      rw[el]at hc
      cases hz:v.cells[j - off]? with
      | none=>rw[hz]at hc;cases hc
      | some z =>
       rw[hz]at hc;cases hc;exact (k2 (j - off) z x hz (by simpa using hx)).strip
     ·rw[if_neg hj]at hx;refine l2 j c x ?_ hx;have hxl:=(Array.getElem?_eq_some_iff.1 hx).1;by_cases hjo:j<off
      ·rw[B7,B6 (by simp;omega),E0,if_pos hjo]at hc;exact hc
      ·rw[C5 (by simp;omega)]at hc;simp only[List.length_append,List.length_take,B9,C8]at hc;rw[show off+size+(j - (min off cs.length+v.cells.length))=j by omega]at hc
       exact hc⟩ h
   refine⟨us',?_,h2⟩;simp only[Instr.fill,hp _ _ hpl]
   rw[if_neg (by
    rw[k1,b1,← l1];simp only[ne_eq,not_true_eq_false,decide_false,Bool.false_or,decide_eq_true_eq]
    omega)]
   rw[hfold];exact h1
theorem Xn {t:TypeId} {z:List AV} (h:Yt P t=some z):∃ it zv,P.info? t=some it∧it.zero=some zv∧Rows M z zv.cells∧(∀ c∈z,c.one=true∧c.lab? = none):=by
 unfold Yt at h
 cases hi:P.info? t with
 | none=>rw[hi]at h;cases h
 | some it =>
  rw[hi]at h;simp only[Option.bind_some]at h
  cases hz:it.zero with
  | none=>rw[hz]at h;cases h
  | some zv =>
   rw[hz]at h;simp only at h;have hs:=Jk h
   have hlen:zv.cells.toList.length=z.length:=by simpa using congrArg List.length hs
   refine⟨it,zv,rfl,hz,⟨by simpa using hlen.symm,fun j c u hc hu=>?_⟩,fun c hc=>?_⟩
   ·have hj:=congrArg (fun q=>q[j]?) hs;simp only[A7,hc,A8]at hj
    have hu':zv.cells.toList[j]? = some u:=by simpa using hu
    rw[hu']at hj;exact (Xy (O:=⟨fun _ _=>none,fun _=>0,fun _=>0⟩) (w:=default) (Option.some.inj hj)).1
   ·obtain⟨j,hj⟩:=List.mem_iff_getElem?.1 hc;have hjj:=congrArg (fun q=>q[j]?) hs;simp only[A7,hj,A8]at hjj
    cases hu:zv.cells.toList[j]? with
    | none=>rw[hu]at hjj;cases hjj
    | some u =>
     rw[hu]at hjj;have:=Xy (M:=fun _ _=>none) (O:=⟨fun _ _=>none,fun _=>0,fun _=>0⟩) (w:=default) (Option.some.inj hjj);exact⟨this.2.2.1,this.2.2.2.1⟩
theorem VV (h:Inv bs n M O env a w) {ps:Array (Nat×Operand)} {l:List (Nat×AV)} (hl:parts? env ps=some l) :
  l.length=((ps.map fun (i,x)=>(i,a.eval x)).toList).length∧∀ (j:Nat) p q,l[j]? = some p→((ps.map fun (i,x)=>(i,a.eval x)).toList)[j]? = some q→p.1=q.1∧ValOk O M w p.2 q.2:=by
 unfold parts? at hl;have hs:=Jk hl
 have hlen:ps.toList.length=l.length:=by simpa using congrArg List.length hs
 refine⟨by simp at hlen ⊢;omega,fun j p q hp hq=>?_⟩;have hj:=congrArg (fun q=>q[j]?) hs;simp only[A7,hp,A8]at hj;simp only[Array.toList_map,A7]at hq
 cases hx:ps.toList[j]? with
 | none=>rw[hx]at hq;cases hq
 | some x =>
  rw[hx]at hq hj;simp only[A8,Option.some.injEq]at hq hj;split at hj
  ·rename_i v hv;cases hj;subst hq;exact⟨rfl,qD h hv⟩
  ·cases hj
theorem Zw {x:AV} {M:Mem} {v:Value} (h:ValOk O M w x v) (ho:x.cells.all AV.one=true):R M x v:=by
 refine h.r (fun s=>?_) (fun _ _ e=>by subst e;simp[AV.cells,AV.one]at ho) fun _ e=>by subst e;simp[AV.cells,AV.one]at ho
 cases x <;> first | rfl | (simp[AV.cells,AV.one]at ho)
theorem qbu {place:Nat→Option (Nat×Nat)}:∀ {ps:List (Nat×AV)} {cs r:List AV},fillA place cs ps=some r→∀ p∈ps,p.2.cells.all AV.one=true
 | [],_,_,_,p,hp=>by cases hp
 | (i,v)::ps,cs,r,h,p,hp=>by
  simp only[fillA]at h;split at h
  ·cases h
  ·split at h
   case h_2=>cases h
   rename_i hb;simp only[A2]at hb
   cases hp with
   | head=>exact hb.2
   | tail _ hp=>exact qbu h p hp
theorem qbU (h:Inv bs n M O env a w) {o:Oper} {t:TypeId} {ps:Array (Nat×Operand)} (ho:o.op=.build t ps) {l:List (Nat×AV)} (hl:parts? env ps=some l) {r:AV} (hr:abuild P t l=some r):Simple P O M a w o r:=by
 obtain⟨l1,l2⟩:=VV h hl
 have he:execOp a.eval o=vS (Instr.build t (ps.map fun (i,x)=>(i,a.eval x))):=by unfold execOp;rw[ho];rfl
 have key:∀ (place place':Nat→Option (Nat×Nat)) z zv cs,(∀ i q,place i=some q→place' i=some q)→Rows M z zv→fillA place z l=some cs→∃ us',Instr.fill place' zv (ps.map fun (i,x)=>(i,a.eval x)).toList=some us'∧Rows M cs us':=by
  intro place place' z zv cs hp hz hf;refine UU hp l _ z zv cs l1 (fun j p q hp' hq=>?_) hz hf;obtain⟨e1,e2⟩:=l2 j p q hp' hq;exact⟨e1,Zw e2 (qbu hf p (A5 hp'))⟩
 have fin:∀ cs us,Rows M cs us→P.built t (ps.map fun (i,x)=>(i,a.eval x)).toList=some us→Simple P O M a w o (.agg cs):=by
  intro cs us hR hb;refine⟨.agg us,by rw[he];exact VD (run_build w t _ us hb),?_,trivial⟩
  have:=R.agg (M:=M) (cs:=cs) (vs:=us.toList) (by simpa using hR.1) fun j c v hc hv=>hR.2 j c v hc (by simpa using hv)
  simpa using this
 unfold abuild at hr;split at hr
 ·rename_i fs z hu hz;obtain⟨it,zv,hi,hzz,hzr,_⟩:=Xn (M:=M) hz;split at hr
  case h_2=>cases hr
  rename_i places hpl
  cases hf:fillA (fun i=>places[i]?) z l with
  | none=>rw[hf]at hr;cases hr
  | some cs =>
   rw[hf]at hr;cases hr;obtain⟨us',h1,h2⟩:=key _ (fun i=>places.toArray[i]?) z zv.cells cs (fun i q hq=>by simpa using hq) hzr hf;refine fin cs us' h2 ?_;unfold Program.built;simp only[hi,hu,hzz,hpl];exact h1
 ·rename_i k e z hu hz;obtain⟨it,zv,hi,hzz,hzr,_⟩:=Xn (M:=M) hz;split at hr
  case h_2=>cases hr
  rename_i ie hie
  cases hf:fillA (fun i=>some (i * ie.size,ie.size)) z l with
  | none=>rw[hf]at hr;cases hr
  | some cs =>
   rw[hf]at hr;cases hr;obtain⟨us',h1,h2⟩:=key _ (fun i=>some (i * ie.size,ie.size)) z zv.cells cs (fun i q hq=>hq) hzr hf;refine fin cs us' h2 ?_;unfold Program.built;simp only[hi,hu,hzz,hie];exact h1
 ·cases hr
def CellG (O:Gh) (M:Mem) (w:World) (c:AV) (u:Value):Prop:=CellR O M 0 c u∧OwnV O M w c u∧c≠.slf
def RowsG (O:Gh) (M:Mem) (w:World) (cs:List AV) (us:Array Value):Prop :=
 cs.length=us.size∧∀ (j:Nat) c u,cs[j]? = some c→us[j]? = some u→CellG O M w c u
theorem Uw {c:AV} {u:Value} (h1:c.one=true) (h2:R M c u) (h3:OwnV O M w c u):CellG O M w c u:=by
 refine⟨?_,h3,fun e=>by subst e;cases h1⟩
 cases c <;> first | exact⟨h1,h2⟩ | cases h1
theorem qcu {u:Value} (h:u.oneCell'=true):u.cells=#[u]:=by cases u <;> first | rfl | cases h
theorem partG {v:AV} {u:Value} (h:ValOk O M w v u) (hp:v.gcells.all AV.partOk=true):u.cells.size=v.gcells.length∧∀ (j:Nat) c x,v.gcells[j]? = some c→u.cells[j]? = some x→CellG O M w c x:=by
 have single:∀ {c:AV},CellG O M w c u→u.cells.size=[c].length∧∀ (j:Nat) c' x,[c][j]? = some c'→u.cells[j]? = some x→CellG O M w c' x:=by
  intro c hc;rw[qcu hc.1.one];refine⟨rfl,fun j c' x h1 h2=>?_⟩
  cases j with
  | succ j=>simp at h1
  | zero=>cases h1;cases h2;exact hc
 have plain:v.one=true→R M v u→OwnV O M w v u→v.gcells=[v]→u.cells.size=v.gcells.length∧∀ (j:Nat) c x,v.gcells[j]? = some c→u.cells[j]? = some x→CellG O M w c x:=by
  intro h1 h2 h3 h4;rw[h4];exact single (Uw h1 h2 h3)
 cases v with
 | sb id e k off m=>exact single ⟨h,trivial,fun e=>by cases e⟩
 | mb kd id =>
  cases kd with
  | succ kd=>simp[AV.gcells,AV.partOk,AV.one]at hp
  | zero =>
   obtain⟨g,q1,q2⟩:=h;exact single ⟨⟨rfl,g,q1,q2⟩,trivial,fun e=>by cases e⟩
 | agg cs =>
  have h1:R M (.agg cs) u:=h.1;clear h
  cases h1 with
  | agg hl hr =>
   rename_i vs;refine⟨by simp[Value.cells,AV.gcells,hl],fun j c x hc hx=>?_⟩;simp only[AV.gcells,A7]at hc
   have hx':vs[j]? = some x:=by simpa[Value.cells] using hx
   cases hz:cs[j]? with
   | none=>rw[hz]at hc;cases hc
   | some z =>
    rw[hz]at hc;cases hc;have hR:=hr j z x hz hx'
    have hz1:z.strip1.partOk=true:=by
     rw[C6]at hp;exact hp _ (List.mem_map.2 ⟨z,A5 hz,rfl⟩)
    cases z with
    | lst e k l xs=>exact Uw rfl hR.setLab trivial
    | _=>first | (cases hR;done) | exact Uw hz1 hR trivial
 | box cs=>exact h.elim
 | obj e k xs=>exact h.elim
 | hob kd ks vs=>exact h.elim
 | bxg cs=>exact h.elim
 | slf=>exact h.elim
 | pb s o=>simp[AV.gcells,AV.partOk,AV.one]at hp
 | pe s k j o=>simp[AV.gcells,AV.partOk,AV.one]at hp
 | tpr s e k off m rest=>simp[AV.gcells,AV.partOk,AV.one]at hp
 | clb f caps=>simp[AV.gcells,AV.partOk,AV.one]at hp
 | agr cs=>simp[AV.gcells,AV.partOk,AV.one]at hp
 | top=>simp[AV.gcells,AV.partOk,AV.one]at hp
 | und=>simp[AV.gcells,AV.partOk,AV.one]at hp
 | tup vs=>simp[AV.gcells,AV.partOk,AV.one]at hp
 | ub p=>simp[AV.gcells,AV.partOk,AV.one]at hp
 | _=>exact plain rfl h.1 h.2 rfl
theorem Hw {place place':Nat→Option (Nat×Nat)} (hp:∀ i q,place i=some q→place' i=some q):∀ (ps:List (Nat×AV)) (qs:List (Nat×Value)) (cs:List AV) (us:Array Value) (r:List AV),
  ps.length=qs.length→(∀ (j:Nat) p q,ps[j]? = some p→qs[j]? = some q→p.1=q.1∧ValOk O M w p.2 q.2)→RowsG O M w cs us→fillG place cs ps=some r →
  ∃ us',Instr.fill place' us qs=some us'∧RowsG O M w r us'
 | [],[],cs,us,r,_,_,hr,h=>by
  cases h;exact⟨us,rfl,hr⟩
 | [],_::_,_,_,_,hl,_,_,_=>by simp at hl
 | _::_,[],_,_,_,hl,_,_,_=>by simp at hl
 | (i,v)::ps,(i',u)::qs,cs,us,r,hl,hps,hr,h=>by
  obtain⟨e,hv⟩:=hps 0 (i,v) (i',u) rfl rfl;simp only at e hv;subst e;simp only[fillG]at h;split at h
  ·cases h
  ·rename_i off size hpl;split at h
   case h_2=>cases h
   rename_i hb;simp only[A2]at hb;obtain⟨⟨b1,b2⟩,b3⟩:=hb;have b1:=A3 b1;have b2:=A4 b2;obtain⟨k1,k2⟩:=partG hv b3;obtain⟨l1,l2⟩:=hr
   have hsz:u.cells.toList.length=size:=by simp[k1,b1]
   obtain⟨f1,f2⟩:=DX off u.cells.toList 0 us
   have hfold:(u.cells.zipIdx.foldl (fun cs p=>cs.setIfInBounds (off+p.2) p.1) us)=((u.cells.toList.zipIdx).foldl (fun cs p=>cs.setIfInBounds (off+p.2) p.1) us):=by
    rw[← Array.foldl_toList];simp
   obtain⟨us',h1,h2⟩:=Hw hp ps qs (cs.take off++v.gcells++cs.drop (off+size)) ((u.cells.toList.zipIdx).foldl (fun cs p=>cs.setIfInBounds (off+p.2) p.1) us) r
    (by simpa using hl) (fun j p q hp' hq=>hps (j+1) p q (by simpa using hp') (by simpa using hq)) ⟨by
     rw[f1,← l1];simp;omega,by
     intro j c x hc hx;rw[f2 j]at hx;simp only[D2]at hx;by_cases hj:off≤j∧j<off+u.cells.toList.length∧j<us.size
     ·rw[if_pos hj]at hx;rw[B7,C5 (by simp;omega),B6 (by simp;omega)]at hc
      have el:(List.take off cs).length=off:=by simp;omega
      rw[el]at hc;exact k2 (j - off) c x hc (by simpa using hx)
     ·rw[if_neg hj]at hx;refine l2 j c x ?_ hx;have hxl:=(Array.getElem?_eq_some_iff.1 hx).1;by_cases hjo:j<off
      ·rw[B7,B6 (by simp;omega),E0,if_pos hjo]at hc;exact hc
      ·rw[C5 (by simp;omega)]at hc;simp only[List.length_append,List.length_take,C8]at hc;rw[show off+size+(j - (min off cs.length+v.gcells.length))=j by omega]at hc
       exact hc⟩ h
   refine⟨us',?_,h2⟩;simp only[Instr.fill,hp _ _ hpl]
   rw[if_neg (by
    rw[k1,b1,← l1];simp only[ne_eq,not_true_eq_false,decide_false,Bool.false_or,decide_eq_true_eq]
    omega)]
   rw[hfold];exact h1
theorem UB (h:Inv bs n M O env a w) {o:Oper} {t:TypeId} {ps:Array (Nat×Operand)} (ho:o.op=.build t ps) {l:List (Nat×AV)} (hl:parts? env ps=some l) {r:AV} (hr:abuildG P t l=some r):Simple P O M a w o r:=by
 obtain⟨l1,l2⟩:=VV h hl
 have he:execOp a.eval o=vS (Instr.build t (ps.map fun (i,x)=>(i,a.eval x))):=by unfold execOp;rw[ho];rfl
 unfold abuildG at hr;split at hr
 case h_2=>cases hr
 rename_i fs z hu hz;obtain⟨it,zv,hi,hzz,hzr,hzl⟩:=Xn (M:=M) hz;split at hr
 case h_2=>cases hr
 rename_i places hpl hone
 cases hf:fillG (fun i=>places[i]?) z l with
 | none=>rw[hf]at hr;cases hr
 | some cs =>
  rw[hf]at hr;cases hr
  have hz0:RowsG O M w z zv.cells:=⟨hzr.1,fun j c u hc hu=>by
   have h1:=List.all_eq_true.1 hone c (A5 hc);refine Uw h1 (hzr.2 j c u hc hu) ?_;have:=(hzl c (A5 hc)).2
   cases c with
   | lst e k l xs=>cases l with
    | none=>trivial
    | some c=>cases this
   | _=>trivial⟩
  obtain⟨us',h1,h2⟩:=Hw (place':=fun i=>places.toArray[i]?) (fun i q hq=>by simpa using hq) l _ z zv.cells cs l1 (fun j p q hp' hq=>by
   obtain⟨e1,e2⟩:=l2 j p q hp' hq
   exact⟨e1,e2⟩) hz0 hf
  refine⟨.agg us',by
   rw[he];refine VD (run_build w t _ us' ?_);unfold Program.built;simp only[hi,hu,hzz,hpl]
   exact h1,us'.toList,by simp,by simpa using h2.1,fun j c u hc hu=>h2.2 j c u hc (by simpa using hu)⟩
def addRow (M:Mem) (g:Nat) (us:Array Value):Mem:=fun b o=>if b=g then cellsAt us o else M b o
theorem Xg {M:Mem} {w:World} (h:Cons M w) {g:Nat} (hg:w.heap.size≤g) (o:Nat):M g o=none:=by
 cases hm:M g o with
 | none=>rfl
 | some u =>
  have:=VE (h g o u hm);omega
theorem Zp {M:Mem} {w:World} (h:Cons M w) (us:Array Value):Sub M (addRow M w.heap.size us):=by
 intro b o u hu;unfold addRow;split
 ·rename_i e;subst e;rw[Xg h (B5 _)]at hu;cases hu
 ·exact hu
theorem Ub {M:Mem} {w:World} (h:Cons M w) (us:Array Value) (e:TypeId):Cons (addRow M w.heap.size us) (w.alloc (.cells us e)):=by
 intro b o u hu;unfold addRow at hu;split at hu
 ·rename_i e';subst e';unfold mc;rw[heap_alloc_new];exact hu
 ·have hb:=VE (h b o u hu);rw[Xq (heap_alloc_old w _ hb)];exact h b o u hu
theorem YF {M:Mem} {w:World} (h:Cons M w) (ob:Obj):Cons M (w.alloc ob):=by
 intro b o u hu;have hb:=VE (h b o u hu);rw[Xq (heap_alloc_old w _ hb)];exact h b o u hu
theorem Ny {s:Nat}:∀ (ps:List (Nat×AV)) (i:Nat) (A:List AV),A.length=i * s→inOrder i ps=true→(∀ p∈ps,p.2.cells.length=s∧p.2.cells.all AV.one=true) →
  fillA (fun i=>some (i * s,s)) (A++E7 (ps.length * s) .top) ps=some (A++ps.flatMap fun p=>p.2.cells.map AV.strip)
 | [],i,A,hA,_,_=>by simp[fillA]
 | (j,v)::ps,i,A,hA,ho,hp=>by
  simp only[inOrder,A2]at ho;obtain⟨e,ho⟩:=ho;have e:=A3 e;subst e;obtain⟨h1,h2⟩:=hp (i,v) (D5 ..);simp only at h1 h2
  have ih:=Ny ps (i+1) (A++v.cells.map AV.strip) (by simp[hA,h1,A9]) ho fun p hp'=>hp p (D6 _ hp')
  have hlen:(A++E7 (((i,v)::ps).length * s) AV.top).length=i * s+(ps.length * s+s):=by simp[hA,A9]
  simp only[fillA]
  have hc:(Nat.beq v.cells.length s && Nat.ble (i * s+s) (A++E7 (((i,v)::ps).length * s) AV.top).length && v.cells.all AV.one)=true:=by
   simp only[A2];refine⟨⟨by rw[h1];simp,Nat.ble_eq_true_of_le (by rw[hlen];omega)⟩,h2⟩
  rw[hc];simp only[E8];rw[← B7,← ih]
  congr 1
  rw[List.take_append_of_le_length (by omega),F5 (by omega),List.drop_append];rw[F6 (by omega)];simp only[List.nil_append,List.drop_replicate,B7]
  congr 3
  simp only[List.length_cons,A9,hA];omega
end
end Go.AM
namespace Go.AM
open Go.RowKit
section
variable {bs:Base} {n:Nat} {M:Mem} {O:Gh} {env:Env} {a:Act} {w:World} {P:Program}
def unAgg (p:Nat×AV):AV:=match p.2 with | .agg cs=>.agg (cs.map AV.strip) | x=>x.strip
theorem VM (p:Nat×AV):(unAgg p).cells=p.2.cells.map AV.strip:=by
 obtain⟨i,x⟩:=p;cases x <;> rfl
theorem Xa {x:AV} (h:x.one=true):x.strip.one=true:=by
 cases x <;> first | rfl | cases h
theorem UO (P:Program) (e:TypeId) (x:AV):nilE P e x=x∨x=.nils∧∃ e' k',nilE P e x=.lst e' k' none []:=by
 cases x with
 | nils =>
  simp only[nilE];split
  ·exact .inr ⟨trivial,_,_,rfl⟩
  ·exact .inl rfl
 | _=>exact .inl rfl
theorem qbs (P:Program) (e:TypeId):∀ (xs:List AV),(flat (xs.map (nilE P e))).length=(flat xs).length∧∀ (j:Nat) c,(flat (xs.map (nilE P e)))[j]? = some c→∃ c0,(flat xs)[j]? = some c0∧(c=c0∨c0=.nils∧∃ e' k',c=.lst e' k' none [])
 | []=>⟨rfl,fun j c h=>by simp[flat]at h⟩
 | x::xs=>by
  obtain⟨ih1,ih2⟩:=qbs P e xs;have hx:flat ((x::xs).map (nilE P e))=(nilE P e x).cells++flat (xs.map (nilE P e)):=rfl;have hx2:flat (x::xs)=x.cells++flat xs:=rfl;rw[hx,hx2]
  have hlen:(nilE P e x).cells.length=x.cells.length:=by
   rcases UO P e x with h | ⟨rfl,e',k',h⟩ <;> rw[h] <;> rfl
  refine⟨by simp[hlen,ih1],fun j c hj=>?_⟩;by_cases hl:j<x.cells.length
  ·rw[B6 (by omega)]at hj;rw[B6 hl]
   rcases UO P e x with h | ⟨rfl,e',k',h⟩
   ·rw[h]at hj;exact⟨c,hj,.inl rfl⟩
   ·rw[h]at hj
    obtain rfl:j=0:=by simp[AV.cells]at hl;omega
    cases hj;exact⟨.nils,rfl,.inr ⟨rfl,e',k',rfl⟩⟩
  ·rw[C5 (by omega),hlen]at hj;rw[C5 (by omega)];exact ih2 _ c hj
theorem R.nilsE {M:Mem} {e e' k:Nat} {xs:List AV} {v:Value} (h:R M (.lst e' k none xs) v):R M (.lst e' k none (xs.map (nilE P e))) v:=by
 generalize hx:AV.lst e' k none xs=x at h
 cases h with
 | lstn=>cases hx;exact .lstn _ _ _
 | lste=>cases hx;exact .lste _ _ _ _ _
 | lst us h1 h2 h3 h4 h5 =>
  cases hx;obtain⟨_,hf⟩:=qbs P e xs
  have e1:xs.length=(xs.map (nilE P e)).length:=by rw[B9]
  rw[e1]
  have hm:∀ y,y∈xs.map (nilE P e)→∃ x,x∈xs∧(y=x∨x=.nils∧∃ e' k',y=.lst e' k' none []):=by
   intro y hy;obtain⟨x,hx,rfl⟩:=List.mem_map.1 hy;exact⟨x,hx,UO P e x⟩
  refine .lst us (by rw[← e1];exact h1) (fun y hy=>?_) (fun y hy=>?_) (fun j c hc=>?_) (fun j c hc=>?_)
  ·obtain⟨x,hx,rfl | ⟨rfl,e',k',rfl⟩⟩:=hm y hy
   ·exact h2 _ hx
   ·have:=h2 AV.nils hx;exact this
  ·obtain⟨x,hx,rfl | ⟨rfl,e',k',rfl⟩⟩:=hm y hy
   ·exact h3 _ hx
   ·rfl
  ·obtain⟨c0,q1,q2⟩:=hf j c hc;exact h4 j c0 q1
  ·obtain⟨c0,q1,rfl | ⟨rfl,e',k',rfl⟩⟩:=hf j c hc
   ·exact h5 j _ q1
   ·have:=h5 j _ q1;generalize us j=u at this;cases this;exact .lstn _ _ _
 | _=>cases hx
theorem XK (h:Inv bs n M O env a w) {o:Oper} {t len:Nat} {ps:Array (Nat×Operand)} (ho:o.op=.buildSlice t len ps) {l:List (Nat×AV)} (hl:parts? env ps=some l) {r:AV} (hr:Ug P t len l=some r) :
  ∃ (e k:Nat) (xs:List AV) (us:Array Value),r=.lst e k none xs∧(execOp a.eval o).run P w=.ok (.value (.slice (some ⟨w.heap.size,0,none⟩) xs.length xs.length)) (w.alloc (.cells us e))∧us.size=xs.length * k ∧
   R (addRow M w.heap.size us) (.lst e k none xs) (.slice (some ⟨w.heap.size,0,none⟩) xs.length xs.length)∧xs.length≤16777216:=by
 obtain⟨l1,l2⟩:=VV h hl
 have he:execOp a.eval o=vS (Instr.buildSlice t len (ps.map fun (i,x)=>(i,a.eval x))):=by unfold execOp;rw[ho];rfl
 unfold Ug at hr;split at hr
 case h_2=>cases hr
 rename_i e s hse;obtain⟨hu,hs⟩:=JK hse;split at hr
 case h_2=>cases hr
 rename_i hc;cases hr;simp only[A2]at hc;obtain⟨⟨⟨⟨⟨c1,c2⟩,c3⟩,c4⟩,c5⟩,c6⟩:=hc;have c2:=A3 c2;have c3:=A4 c3;have c5:0<s:=A4 c5;simp only[C6,A2]at c6
 obtain⟨ie,hie,hsz⟩:∃ ie,P.info? e=some ie∧ie.size=s:=by
  unfold tSize at hs
  cases hi:P.info? e with
  | none=>rw[hi]at hs;cases hs
  | some ie=>rw[hi]at hs;exact⟨ie,rfl,Option.some.inj hs⟩
 subst hsz
 obtain⟨z,hz⟩:∃ z,ie.zero=some z:=by
  rw[hie]at c1;simp only[Option.bind_some]at c1
  cases hz:ie.zero with
  | none=>rw[hz]at c1;cases c1
  | some z=>exact⟨z,rfl⟩
 by_cases c7:len=0
 ·subst c7;have hl0:l=[]:=D9 c2;subst hl0;have hps:ps=#[]:=Array.eq_empty_of_size_eq_zero (by simpa using l1.symm);subst hps;refine⟨e,ie.size,[],#[],rfl,?_,by simp,R.lste _ _ _ _ _,by simp⟩;rw[he];refine VD ?_;simp[Instr.buildSlice,run_underlying hu,sizeOf,typeInfo,hie,Instr.fill,newRow,Array.range_zero']
 have c7:0<len:=Nat.pos_of_ne_zero c7;have hfill:=Ny (s:=ie.size) l 0 [] (by simp) c4 (fun p hp=>⟨A3 (c6 p hp).1,(by simpa using (c6 p hp).2)⟩);simp only[List.nil_append]at hfill;obtain⟨us,h1,h2⟩:=UU (M:=M) (place:=fun i=>some (i * ie.size,ie.size)) (place':=fun i=>some (i * ie.size,ie.size)) (fun i q hq=>hq) l _ _
  ((Array.range (len * ie.size)).map (z.cells[· % z.cells.size]!)) _ l1
  (fun j p q hp hq=>by
   obtain⟨e1,e2⟩:=l2 j p q hp hq
   exact⟨e1,Zw e2 (by simpa using (c6 p (A5 hp)).2)⟩)
  ⟨by simp[c2],fun j c u hc hu=>by
   rw[List.getElem?_replicate]at hc;split at hc
   ·cases hc;exact .top u
   ·cases hc⟩ hfill
 have hlen:(l.map unAgg).length=len:=by simp[c2]
 have hflat:flat (l.map unAgg)=l.flatMap fun p=>p.2.cells.map AV.strip:=by
  unfold flat;rw[List.flatMap_map];simp only[VM]
 have hty:∀ x,x∈l.map unAgg→x.cells.length=ie.size:=by
  intro x hx;obtain⟨p,hp,rfl⟩:=List.mem_map.1 hx;rw[VM]
  simpa using A3 (c6 p hp).1
 have hsize:us.size=(l.map unAgg).length * ie.size:=by
  rw[← h2.1,← hflat,Jc hty]
 have hll:((l.map unAgg).map (nilE P e)).length=(l.map unAgg).length:=by rw[B9]
 suffices hmain:(execOp a.eval o).run P w=.ok (.value (.slice (some ⟨w.heap.size,0,none⟩) (l.map unAgg).length (l.map unAgg).length)) (w.alloc (.cells us e)) ∧
   R (addRow M w.heap.size us) (.lst e ie.size none (l.map unAgg)) (.slice (some ⟨w.heap.size,0,none⟩) (l.map unAgg).length (l.map unAgg).length)∧(l.map unAgg).length≤16777216 by
  refine⟨e,ie.size,(l.map unAgg).map (nilE P e),us,rfl,?_,by rw[hll];exact hsize,?_,by rw[hll];exact hmain.2.2⟩
  ·rw[hll];exact hmain.1
  ·rw[hll];exact hmain.2.1.nilsE
 refine⟨?_,?_,?_⟩
 ·rw[he,hlen];refine VD ?_
  exact run_buildSlice w t e len _ us ie z hu hie hz (by omega) (by
   have:=Nat.mul_pos c7 c5
   omega) h1
 ·refine R.lst (fun j=>us.getD j undef) (B5 _) hty (fun x hx=>?_) (fun j c hj=>?_) (fun j c hj=>?_)
  ·obtain⟨p,hp,rfl⟩:=List.mem_map.1 hx;rw[VM];have:=(c6 p hp).2;simp only[List.all_map,C6]at this ⊢;intro y hy;exact Xa (this y hy)
  ·rw[hflat]at hj;have hjl:=(List.getElem?_eq_some_iff.1 hj).1;rw[h2.1]at hjl;unfold addRow;rw[if_pos rfl]
   have hone:c.one=true:=by
    have hmem:=A5 hj;obtain⟨y,hy,hyc⟩:=List.mem_flatMap.1 hmem;obtain⟨z,hz,rfl⟩:=List.mem_map.1 hyc;exact Xa ((by simpa using (c6 y hy).2:∀ x,x∈y.2.cells→x.one=true) z hz)
   have e1:us[0+j]? = some (us.getD j undef):=by simp[hjl]
   exact JQ e1 (XJ ((h2.2 j c _ hj (by simp[hjl])).one hone))
  ·rw[hflat]at hj;have hjl:=(List.getElem?_eq_some_iff.1 hj).1;rw[h2.1]at hjl;refine (h2.2 j c _ hj ?_).mono (Zp h.cons us);simp[hjl]
 ·have:len≤len * ie.size:=Nat.le_mul_of_pos_right _ c5;rw[hlen];omega
def Made (P:Program) (O:Gh) (M:Mem) (a:Act) (w:World) (o:Oper) (x:AV):Prop :=
 ∃ v w' M',(execOp a.eval o).run P w=.ok (.value v) w'∧w.grownBy w' none∧Sub M M'∧Cons M' w'∧(∀ b o,b<w.heap.size→M' b o=M b o)∧ValOk O M' w' x v
theorem qcm (w:World) (row:Option Nat):w.grownBy w row:=⟨rfl,rfl,rfl,B5 _,fun _ _ _=>rfl⟩
theorem Simple.made (h:Inv bs n M O env a w) {o:Oper} {x:AV} (hs:Simple P O M a w o x):Made P O M a w o x:=by
 obtain⟨v,h1,h2⟩:=hs;exact⟨v,w,M,h1,qcm w none,Sub.refl M,h.cons,fun _ _ _=>rfl,h2⟩
theorem VC {M:Mem} {w:World} (us:Array Value):∀ b o,b<w.heap.size→addRow M w.heap.size us b o=M b o:=by
 intro b o hb;unfold addRow;rw[if_neg (by omega)]
theorem DY (s:ByteArray):flat (bytesA s)=bytesA s:=by
 unfold flat bytesA;rw[List.flatMap_map];simp only[AV.cells];exact List.map_eq_flatMap.symm
theorem qdD (h:Inv bs n M O env a w) {o:Oper} {y:Operand} {s d:TypeId} (ho:o.op=.convert s d y) {q:ByteArray} {x:AV} (hp:aop env y=some (.str q)) (hx:ZD P s d (.str q)=some x):Made P O M a w o x:=by
 have hv:=(qD h hp).1.str_inv;simp only[ZD]at hx;split at hx
 case h_2=>cases hx
 rename_i e hs hd;split at hx
 case h_2=>cases hx
 rename_i hb;cases hx
 have he:execOp a.eval o=vS (convert s d (a.eval y)):=by unfold execOp;rw[ho];rfl
 have hrun:=Lib.run_convert_string_bytes (P:=P) w s d e q hs hd (VX hb)
 have hget:∀ j:Nat,(q.data.map fun (b:UInt8)=>Value.int .u8 (b.toNat:Int))[j]? = (q.data.toList[j]?).map fun (b:UInt8)=>Value.int .u8 (b.toNat:Int):=by
  intro j;simp
 refine⟨.slice (some ⟨w.heap.size,0,none⟩) q.size (grownCap w q.size 0 e),Lib.bytesWorld w e q,addRow M w.heap.size (q.data.map fun (b:UInt8)=>Value.int .u8 (b.toNat:Int)),?_,?_,Zp h.cons _,?_,VC _,?_,trivial⟩
 ·rw[he,hv];exact VD hrun
 ·exact⟨rfl,rfl,rfl,by rw[Lib.bytesWorld_size];omega,fun k hk _=>Lib.bytesWorld_at_old w e q k hk⟩
 ·intro b o u hu;unfold addRow at hu;split at hu
  ·rename_i eb;subst eb;obtain⟨hu,htp⟩:=YY hu;rw[hget]at hu
   have hlt:o<q.size:=by
    rcases Nat.lt_or_ge o q.size with k | k
    ·exact k
    ·rw[List.getElem?_eq_none (by rw[C4];exact k)]at hu;cases hu
   refine UP ?_ htp;rw[Lib.bytesWorld_cell w e q o hlt]
   have hlt':o<q.data.toList.length:=by rw[C4];exact hlt
   rw[F7 hlt']at hu;cases hu;simp[List.getD,F7 hlt']
  ·have:=h.cons b o u hu;rw[Xq (Lib.bytesWorld_at_old w e q b (VE this))];exact this
 ·have hlen:(bytesA q).length=q.size:=by unfold bytesA;rw[B9,C4];rfl
  rw[← hlen];refine R.lst (fun j=>(q.data.map fun (b:UInt8)=>Value.int .u8 (b.toNat:Int)).getD j undef) ?_ (fun z hz=>?_) (fun z hz=>?_) (fun j c hc=>?_) (fun j c hc=>?_)
  ·rw[hlen];exact grownCap_ge w _ _ _
  ·unfold bytesA at hz;obtain⟨b,_,rfl⟩:=List.mem_map.1 hz;rfl
  ·unfold bytesA at hz;obtain⟨b,_,rfl⟩:=List.mem_map.1 hz;rfl
  ·rw[DY]at hc;have hj:=(List.getElem?_eq_some_iff.1 hc).1;rw[hlen]at hj;unfold addRow;rw[if_pos rfl,Nat.zero_add]
   have hjl:j<(q.data.map fun (b:UInt8)=>Value.int .u8 (b.toNat:Int)).size:=by rw[Array.size_map];exact hj
   refine JQ (by rw[E9,F8 hjl];rfl) ?_;rw[E9,F8 hjl,Array.getElem_map];rfl
  ·rw[DY]at hc;unfold bytesA at hc;rw[A7]at hc
   cases hb:q.data.toList[j]? with
   | none=>rw[hb]at hc;cases hc
   | some b =>
    rw[hb]at hc;cases hc
    have:(q.data.map fun (b:UInt8)=>Value.int .u8 (b.toNat:Int)).getD j undef=.int .u8 b.toNat:=by
     rw[E9,hget,hb];rfl
    rw[this];exact .int _ _
theorem UL (h:Inv bs n M O env a w) {o:Oper} {x:AV} (hx:apure P o env=some x):Made P O M a w o x:=by
 obtain⟨dst,op,ty,pos,after,guard⟩:=o
 cases op with
 | move y=>exact (Hl h (.inl rfl) hx).made h
 | assign y=>exact (Hl h (.inr rfl) hx).made h
 | pick c p q =>
  simp only[apure]at hx;split at hx
  ·rename_i hb;exact (Hk h rfl hb (by simpa using hx)).made h
  ·rename_i hb;exact (Hk h rfl hb (by simpa using hx)).made h
  ·cases hx
 | binOp op t y z t' =>
  simp only[apure]at hx;split at hx
  ·rename_i p q hp hq;exact (qdX h rfl hp hq hx).made h
  ·cases hx
 | unOp op t y =>
  simp only[apure]at hx;split at hx
  ·rename_i p hp;exact (qfu h rfl hp hx).made h
  ·cases hx
 | convert s t y =>
  simp only[apure]at hx;split at hx
  ·rename_i p hp;by_cases hq:∃ q,p=.str q
   ·obtain⟨q,rfl⟩:=hq;exact qdD (o:=⟨dst,.convert s t y,ty,pos,after,guard⟩) h rfl hp hx
   ·exact (Dz h rfl (fun q e=>hq ⟨q,e⟩) hp hx).made h
  ·cases hx
 | build t ps =>
  simp only[apure]at hx;split at hx
  ·rename_i l hl;split at hx
   ·rename_i v hv;cases hx;exact (qbU h rfl hl hv).made h
   ·rw[Option.map_eq_some_iff]at hx;obtain⟨v,hv,rfl⟩:=hx;obtain⟨u,h1,h2⟩:=UB h (o:=⟨dst,.build t ps,ty,pos,after,guard⟩) rfl hl hv;exact (show Simple P O M a w ⟨dst,.build t ps,ty,pos,after,guard⟩ v.strip from⟨u,h1,Hi h2⟩).made h
  ·cases hx
 | buildSlice t m ps =>
  simp only[apure]at hx;split at hx
  ·rename_i l hl;obtain⟨e,k,xs,us,e1,h1,h2,h3,_⟩:=XK (o:=⟨dst,.buildSlice t m ps,ty,pos,after,guard⟩) h rfl hl hx;subst e1;exact⟨_,_,_,h1,World.grownBy_alloc w _ none,Zp h.cons us,Ub h.cons us e,VC us,h3,trivial⟩
  ·cases hx
 | load t y =>
  simp only[apure]at hx;split at hx
  ·rename_i p hp;exact (qcH h rfl hp hx).made h
  ·cases hx
 | fieldAddr t y f =>
  simp only[apure]at hx;split at hx
  ·rename_i p hp;exact (NS h rfl hp hx).made h
  ·cases hx
 | field t y f =>
  simp only[apure]at hx;split at hx
  ·rename_i cs o' ft sz hp hf;exact (qbS h rfl hp hf hx).made h
  ·rename_i cs o' ft sz hp hf;exact (qat h rfl hp hf hx).made h
  ·cases hx
 | indexAddr t y i =>
  simp only[apure]at hx;split at hx
  ·rename_i p q hp hq;exact (NR h rfl hp hq hx).made h
  ·cases hx
 | index t y i =>
  simp only[apure]at hx;split at hx
  ·rename_i p q hp hq;exact (qbR h rfl hp hq hx).made h
  ·cases hx
 | slice t y lo hi mx =>
  cases mx with
  | some mx =>
   cases hi with
   | none=>simp[apure]at hx
   | some hi =>
    simp only[apure]at hx;split at hx
    case h_2=>cases hx
    rename_i e k lab xs k2 m hp hm;split at hx
    case h_2=>cases hx
    rename_i e' k' hse;split at hx
    case h_2=>cases hx
    rename_i l k1 c hk hl hh;have hk:=A3 hk;subst hk;split at hx
    case isFalse=>cases hx
    rename_i hb;cases hx;exact (qar h rfl hp hse hl hh hm hb).made h
  | none =>
   simp only[apure]at hx;split at hx
   ·rename_i p hp;exact (qbQ h rfl hp hx).made h
   ·cases hx
 | makeFunc fn first caps =>
  cases fn <;> simp only[apure]at hx <;> try (cases hx;done)
  split at hx
  ·rename_i l hf hl;split at hx
   ·rename_i hp;cases hx;exact (HY h rfl (A3 hf) hl hp).made h
   ·split at hx
    ·rename_i hp;cases hx;exact (NQ h rfl (A3 hf) hl hp).made h
    ·cases hx
  ·cases hx
 | lookup t y k c =>
  cases c with
  | true=>simp[apure]at hx
  | false =>
   simp only[apure]at hx;split at hx
   ·rename_i m kk hm hk
    cases hr:alookup P t env m kk with
    | none=>rw[hr]at hx;cases hx
    | some r =>
     rw[hr]at hx;cases hx;exact (qas h rfl hm hk hr).made h
   ·cases hx
 | entry y =>
  simp only[apure]at hx;split at hx
  case h_2=>cases hx
  rename_i id hp;split at hx
  case h_2=>cases hx
  rename_i k ks v vs hl;cases hx;exact (qbT h rfl hp hl).made h
 | extract y i =>
  simp only[apure]at hx;split at hx
  ·rename_i vs hp;exact (Dy h rfl hp hx).made h
  ·rename_i id e k off m rest hp;exact (Da h rfl hp hx).made h
  ·cases hx
 | nilCheck y =>
  simp only[apure]at hx;split at hx
  ·rename_i z hp;cases hx;exact (VF h rfl hp (.inl ⟨z,rfl⟩)).made h
  ·rename_i b z hp
   cases b with
   | false=>cases hx;exact (NP h rfl hp).made h
   | true=>cases hx
  ·rename_i s m hp;cases hx;exact (VF h rfl hp (.inr ⟨s,m,rfl⟩)).made h
  ·cases hx
 | call c =>
  obtain⟨callee,args,ats⟩:=c
  cases callee with
  | value f=>simp[apure]at hx
  | invoke r m=>simp[apure]at hx
  | builtin b =>
   cases b <;> simp only[apure]at hx <;> try (cases hx;done)
   case len =>
    split at hx
    ·rename_i y t ha ht;split at hx
     ·rename_i p hp;exact (qdW h rfl ha ht hp hx).made h
     ·cases hx
    ·cases hx
   case max =>
    split at hx
    ·rename_i y z ha;split at hx
     ·rename_i k p k' q hp hq;cases hx;exact (qdV h rfl ha hp hq).made h
     ·cases hx
    ·cases hx
   case min =>
    split at hx
    ·rename_i y z ha;split at hx
     ·rename_i k p k' q hp hq;cases hx;exact (qdU h rfl ha hp hq).made h
     ·cases hx
    ·cases hx
 | _=>simp[apure]at hx
theorem Yr (h:Inv bs n M O env a w) {d:Option Nat} {x:AV} {v:Value} (hv:ValOk O M w x v) {env':Env} (he:eput n d x env=some env'):Inv bs n M O env' (a.put d v) w:=by
 unfold eput at he;split at he
 ·cases he;exact h
 ·rename_i t;split at he
  ·rename_i hc;cases he;simp only[A2]at hc;exact h.put (A4 hc.1) hv
  ·cases he
def Leads (P:Program) (bs:Base) (n:Nat) (o:Oper) (a:Act) (w:World) (env':Env):Prop :=
 ∃ v w' M' O',((execOp a.eval o).run P w=.ok (.value v) w'∨((execOp a.eval o).run P w=.ok .skip w'∧v=undef))∧Inv bs n M' O' env' (a.put o.dst v) w'
theorem Vr (h:Inv bs n M O env a w) {o:Oper} {x:AV} (hx:apure P o env=some x) {env':Env} (he:eput n o.dst x env=some env'):Leads P bs n o a w env':=by
 obtain⟨v,w',M',h1,h2,h3,h4,h5,h6⟩:=UL h hx;have h':=h.grown (row:=none) (fun g e=>by cases e) h2 h3 h4 (fun b o hb _=>h5 b o hb);exact⟨v,w',M',O,.inl h1,Yr h' h6 he⟩
end
end Go.AM
namespace Go.AM
open Go.RowKit
section
variable {bs:Base} {n:Nat} {M:Mem} {O:Gh} {env:Env} {a:Act} {w:World} {P:Program}
theorem VT {l:Nat} {x:AV}:(x.relab l none).hasLab l=false:=by
 cases x with
 | lst e k o xs =>
  cases o with
  | none=>rfl
  | some c =>
   simp only[AV.relab];split
   ·rfl
   ·rename_i h;exact h
 | _=>rfl
theorem Yn (l:Nat) (env:Env):labIn l (relabE l none env)=false:=by
 unfold labIn relabE;rw[F0,F3]
 rintro⟨t,x⟩ _
 simp only[Function.comp]
 cases x with
 | box cs =>
  simp only[AV.relabB,AV.hasLabB,F0,Bool.not_eq_true,F3];intro z _;simp only[Function.comp,VT]
 | agr cs =>
  simp only[AV.relabB,AV.hasLabB,F0,Bool.not_eq_true,F3];intro z _;simp only[Function.comp,VT]
 | lst e k o xs =>
  have h:=VT (l:=l) (x:=.lst e k o xs);show ¬ ((AV.lst e k o xs).relab l none).hasLabB l=true
  have:∃ o',(AV.lst e k o xs).relab l none=.lst e k o' xs:=by
   cases o with
   | none=>exact⟨_,rfl⟩
   | some c=>simp only[AV.relab];split <;> exact⟨_,rfl⟩
  obtain⟨o',ho'⟩:=this;rw[ho']at h ⊢;rw[show (AV.lst e k o' xs).hasLabB l=(AV.lst e k o' xs).hasLab l from rfl,h]
  exact fun e=>by cases e
 | _=>exact fun e=>by cases e
theorem qfC (O:Gh) (l:Nat) (m:Option Nat) (s:Nat):relO O l m true s=O true s:=by
 cases m <;> simp[relO,setO]
theorem Vb:∀ {env:Env} {s:Nat} {x:AV},look env s=some x→∃ q∈env,q.1=s∧q.2=x
 | [],s,x,h=>by simp[look]at h
 | (s',z)::r,s,x,h=>by
  simp only[look]at h;split at h
  ·rename_i hs;cases h;exact⟨_,D5 ..,A3 hs,rfl⟩
  ·obtain⟨q,hq,h1,h2⟩:=Vb h;exact⟨q,D6 _ hq,h1,h2⟩
theorem JP {t:Nat} {env:Env} (h:clearOf t env=true):(∀ x,look env t≠some x)∧∀ s x,look env s=some x→x.refs t=false:=by
 unfold clearOf at h;rw[C6]at h;refine⟨fun x hx=>?_,fun s x hx=>?_⟩
 ·obtain⟨q,hq,h1,_⟩:=Vb hx;have:=h q hq;simp only[A2,Bool.not_eq_true']at this;rw[h1]at this;simp at this
 ·obtain⟨q,hq,_,h2⟩:=Vb hx;have:=h q hq;simp only[A2,Bool.not_eq_true']at this;rw[h2]at this;exact this.2
theorem jY {O:Gh} {d t:Nat} {v:Option Nat} (h:t≠d):Gh.Eq1 O (setO O true d v) t:=⟨by simp[Jw,h],rfl,rfl⟩
theorem Inv.newEnt (h:Inv bs n M O env a w) {d:Nat} (hd:d<n) (hc:clearOf d env=true) {x:AV} {cur:Array Value} (el:TypeId)
  (hsat:Sat (setO O true d (some w.heap.size)) M (w.alloc (.cells cur el)) d x (.pointer (some ⟨w.heap.size,0,none⟩))) :
  Inv bs n M (setO O true d (some w.heap.size)) (ins d x env) (a.put (some d) (.pointer (some ⟨w.heap.size,0,none⟩))) (w.alloc (.cells cur el)):=by
 obtain⟨c1,c2⟩:=JP hc;have hfresh:=h.fresh (B5 w.heap.size)
 have hsz:(w.alloc (.cells cur el)).heap.size=w.heap.size+1:=by simp
 have hlt:∀ k,bs.D k→k<w.heap.size:=fun k hk=>by have:=h.hB k hk;have:=h.below.size;omega
 refine⟨by simp[Act.put,h.size],h.defers,h.below.step (D':=fun k=>k<w.heap.size) ⟨rfl,rfl,rfl,by simp,fun k hk=>heap_alloc_old w _ hk⟩ hlt,h.hB,YF h.cons _,h.ext,h.old,?_,?_,⟨h.fix.1,fun c k1 k2=>?_⟩,?_⟩
 ·intro i c g hg;rw[Jw]at hg;split at hg
  ·cases hg;exact⟨hfresh,by rw[hsz];omega⟩
  ·obtain⟨k1,k2⟩:=h.own i c g hg;exact⟨k1,by rw[hsz];omega⟩
 ·intro i i' c c' g hg hg';rw[Jw]at hg hg';split at hg <;> split at hg'
  ·rename_i e1 e2;exact⟨e1.1.trans e2.1.symm,e1.2.trans e2.2.symm⟩
  ·cases hg;have:=(h.own i' c' _ hg').2;omega
  ·cases hg';have:=(h.own i c _ hg).2;omega
  ·exact h.inj i i' c c' g hg hg'
 ·obtain⟨e1,e2,e3⟩:=h.fix.2 c k1 k2
  have hne:c≠d:=by have:=h.fix.1;omega
  obtain⟨f1,f2,f3⟩:=jY (O:=O) (v:=some w.heap.size) hne;exact⟨f1.trans e1,f2.trans e2,f3.trans e3⟩
 ·intro t y hx;rw[jq]at hx;rw[DV (by rw[h.size];exact hd)];by_cases htd:t=d
  ·rw[if_pos htd]at hx;cases hx;rw[if_pos htd];subst htd;exact hsat
  ·rw[if_neg htd]at hx;rw[if_neg htd]
   refine (h.slots t y hx).change2 (Sub.refl M) (fun _=>jY htd) (fun s hs=>jY fun e=>?_) (fun g _ hg=>⟨heap_alloc_old w _ (h.own _ _ _ hg).2,fun _ hm=>hm⟩) fun c g hg=>⟨by simp[setO,hg],heap_alloc_old w _ (h.own _ _ _ hg).2,fun _ hm=>hm⟩
   rw[e]at hs;rw[c2 t y hx]at hs;cases hs
theorem Inv.newBox (h:Inv bs n M O env a w) {d:Nat} (hd:d<n) (hc:clearOf d env=true) {cs:List AV} {cur:Array Value} (el:TypeId) (hl:cs.length=cur.size)
  (hcs:∀ (j:Nat) c u,cs[j]? = some c→cur[j]? = some u→c.one=true∧R M c u∧c.lab? = none) :
  Inv bs n M (setO O true d (some w.heap.size)) (ins d (.box cs) env) (a.put (some d) (.pointer (some ⟨w.heap.size,0,none⟩))) (w.alloc (.cells cur el)):=by
 obtain⟨c1,c2⟩:=JP hc;have hfresh:=h.fresh (B5 w.heap.size)
 have hsz:(w.alloc (.cells cur el)).heap.size=w.heap.size+1:=by simp
 have hlt:∀ k,bs.D k→k<w.heap.size:=fun k hk=>by have:=h.hB k hk;have:=h.below.size;omega
 refine⟨by simp[Act.put,h.size],h.defers,h.below.step (D':=fun k=>k<w.heap.size) ⟨rfl,rfl,rfl,by simp,fun k hk=>heap_alloc_old w _ hk⟩ hlt,h.hB,YF h.cons _,h.ext,h.old,?_,?_,⟨h.fix.1,fun c k1 k2=>?_⟩,?_⟩
 ·intro i c g hg;rw[Jw]at hg;split at hg
  ·cases hg;exact⟨hfresh,by rw[hsz];omega⟩
  ·obtain⟨k1,k2⟩:=h.own i c g hg;exact⟨k1,by rw[hsz];omega⟩
 ·intro i i' c c' g hg hg';rw[Jw]at hg hg';split at hg <;> split at hg'
  ·rename_i e1 e2;exact⟨e1.1.trans e2.1.symm,e1.2.trans e2.2.symm⟩
  ·cases hg;have:=(h.own i' c' _ hg').2;omega
  ·cases hg';have:=(h.own i c _ hg).2;omega
  ·exact h.inj i i' c c' g hg hg'
 ·obtain⟨e1,e2,e3⟩:=h.fix.2 c k1 k2
  have hne:c≠d:=by have:=h.fix.1;omega
  obtain⟨f1,f2,f3⟩:=jY (O:=O) (v:=some w.heap.size) hne;exact⟨f1.trans e1,f2.trans e2,f3.trans e3⟩
 ·intro t x hx;rw[jq]at hx;rw[DV (by rw[h.size];exact hd)];by_cases htd:t=d
  ·rw[if_pos htd]at hx;cases hx;rw[if_pos htd];subst htd;refine⟨w.heap.size,cur,el,.inl rfl,by simp[setO],heap_alloc_new w _,hl.symm,fun o=>Xg h.cons (B5 _) o,fun j c u hc' hu=>?_⟩;obtain⟨k1,k2,k3⟩:=hcs j c u hc' hu;refine⟨k1,k2,?_⟩
   cases c with
   | lst e k o xs=>cases o with
    | none=>trivial
    | some _=>cases k3
   | _=>trivial
  ·rw[if_neg htd]at hx;rw[if_neg htd]
   refine (h.slots t x hx).change2 (Sub.refl M) (fun _=>jY htd) (fun s hs=>jY fun e=>?_) (fun g _ hg=>⟨heap_alloc_old w _ (h.own _ _ _ hg).2,fun _ hm=>hm⟩) fun c g hg=>⟨by simp[setO,hg],heap_alloc_old w _ (h.own _ _ _ hg).2,fun _ hm=>hm⟩
   rw[e]at hs;rw[c2 t x hx]at hs;cases hs
theorem ZA {d:Nat} {x:AV} {env env':Env} (he:eput n (some d) x env=some env'):d<n∧env'=ins d x env:=by
 unfold eput at he;simp only at he;split at he
 ·rename_i hc;cases he;simp only[A2]at hc;exact⟨A4 hc.1,rfl⟩
 ·cases he
theorem qdK (h:Inv bs n M O env a w) {o:Oper} {t:TypeId} (ho:o.op=.alloc t) {env':Env} (he:astep P n o env=some env'):Leads P bs n o a w env':=by
 unfold astep at he;rw[ho]at he;simp only at he;split at he
 case h_2=>cases he
 rename_i d hd;split at he
 case h_2=>cases he
 rename_i z hc hz;split at he
 case h_2=>cases he
 rename_i hone;rw[hd]at he;obtain⟨hdn,rfl⟩:=ZA he;obtain⟨it,zv,hi,hzz,hzr,hzo⟩:=Xn (M:=M) hz;refine⟨.pointer (some ⟨w.heap.size,0,none⟩),w.alloc (.cells zv.cells t),M,_,.inl ?_,by rw[hd];exact h.newBox hdn hc t hzr.1 fun j c u hc' hu=>⟨(hzo c (A5 hc')).1,hzr.2 j c u hc' hu,(hzo c (A5 hc')).2⟩⟩
 have hx:execOp a.eval o=vS (Instr.alloc t true (.tuple #[])):=by unfold execOp;rw[ho];rfl
 rw[hx];refine VD ?_;unfold Instr.alloc;simp[zeroValue,typeInfo,hi,hzz,newVar,newRow]
theorem qgk (h:Inv bs n M O env a w) {o:Oper} {t:TypeId} {x:Operand} (ho:o.op=.box t x) {env':Env} (he:astep P n o env=some env'):Leads P bs n o a w env':=by
 unfold astep at he;rw[ho]at he;simp only at he
 have hexec:(execOp a.eval o).run P w=.ok (.value (.pointer (some ⟨w.heap.size,0,none⟩))) (w.alloc (.cells (a.eval x).cells t)):=by
  have hx:execOp a.eval o=vS (Instr.box t (a.eval x)):=by unfold execOp;rw[ho];rfl
  rw[hx];refine VD ?_;unfold Instr.box;simp[newVar,newRow]
 split at he
 case h_3=>cases he
 case h_1 =>
  rename_i d cs hd hv;obtain⟨us,e1,e2,e3⟩:=qD h hv
  have hcells:(a.eval x).cells=us.toArray:=by rw[e1];rfl
  split at he
  ·rename_i hc;simp only[A2]at hc;obtain⟨⟨hc,hone⟩,_⟩:=hc;rw[hd]at he;obtain⟨hdn,rfl⟩:=ZA he
   exact⟨_,_,M,_,.inl hexec,by
    rw[hd];refine h.newEnt hdn hc t ⟨w.heap.size,_,t,.inl rfl,by simp[setO],heap_alloc_new w _,by rw[hcells];simp[e2],fun o=>Xg h.cons (B5 _) o,fun j c u hc' hu=>?_⟩
    have hu':us[j]? = some u:=by rw[hcells]at hu;simpa using hu
    obtain⟨k1,k2,k3⟩:=e3 j c u hc' hu';have h1:=List.all_eq_true.1 hone c (A5 hc');refine⟨h1,?_,k2.change fun c' g' _ hg'=>⟨by simp[setO,hg'],heap_alloc_old w _ (h.own _ _ _ hg').2,fun _ hm=>hm⟩⟩;unfold CellR at k1
    cases c <;> first | exact k1.2 | cases h1⟩
  ·split at he
   case h_2=>cases he
   rename_i hc;simp only[A2]at hc;obtain⟨⟨hc,hok⟩,_⟩:=hc;rw[hd]at he;obtain⟨hdn,rfl⟩:=ZA he;have hnr:=(JP hc).2
   exact⟨_,_,M,_,.inl hexec,by
    rw[hd];refine h.newEnt hdn hc t ⟨w.heap.size,_,t,.inl rfl,by simp[setO],heap_alloc_new w _,by rw[hcells];simp[e2],fun o=>Xg h.cons (B5 _) o,fun j c u hc' hu=>?_⟩
    have hu':us[j]? = some u:=by rw[hcells]at hu;simpa using hu
    rw[A7]at hc'
    cases hz:cs[j]? with
    | none=>rw[hz]at hc';cases hc'
    | some z =>
     rw[hz]at hc';cases hc';obtain⟨k1,k2,k3⟩:=e3 j z u hz hu';have h1:=List.all_eq_true.1 hok z (A5 hz);have hn1:d<1000000:=Nat.lt_of_lt_of_le hdn h.fix.1
     cases z with
     | sb id e' k off m =>
      have:id≠d:=fun e=>by
       have h2:=A4 h1;subst e;exact absurd hn1 (Nat.not_lt_of_le h2)
      exact SbOk.change (show SbOk O id k off m u from k1) (jY this)
     | mb kd id =>
      obtain⟨q1,g,q2,q3⟩:=k1;subst q1
      have:id≠d:=fun e=>by
       have h2:=A4 h1;subst e;exact absurd hn1 (Nat.not_lt_of_le h2)
      exact⟨rfl,g,by rw[(jY (O:=O) this).1];exact q2,q3⟩
     | lst e' k l xs=>exact⟨rfl,k1.2.setLab⟩
     | _=>first | exact k1 | cases h1⟩
 rename_i d v hnag hd hv;split at he
 case h_2=>cases he
 rename_i hc;simp only[A2]at hc;obtain⟨⟨hc,hone⟩,_⟩:=hc;rw[hd]at he;obtain⟨hdn,rfl⟩:=ZA he;have hs:=qD h hv;obtain⟨k1,k2,k3⟩:=(Zw hs hone).cells hone
 have hone':∀ c∈v.cells,c.one=true:=by simpa[C6] using hone
 refine⟨.pointer (some ⟨w.heap.size,0,none⟩),w.alloc (.cells (a.eval x).cells t),M,_,.inl hexec,by
  rw[hd]
  refine h.newBox hdn hc t (by simp[k1]) fun j c u hc' hu=>?_
  rw[A7]at hc'
  cases hz:v.cells[j]? with
  | none=>rw[hz]at hc';cases hc'
  | some z =>
   rw[hz]at hc';cases hc'
   exact⟨Xa (hone' z (A5 hz)),(k2 j z u hz hu).strip,by cases z <;> rfl⟩⟩
theorem Inv.setEnt (h:Inv bs n M O env a w) {s g:Nat} {x x':AV} (hl:look env s=some x) (he:x.ent=true) (he':x'.ent=true) (hO:O true s=some g)
  {w':World} (hw:w.grownBy w' (some g)) (hMg:∀ o,M g o=none) (hsat:Sat O M w' s x' (a.tmps.getD s undef)) :
  Inv bs n M O (ins s x' env) a w':=by
 obtain⟨hgB,hgs⟩:=h.own true s g hO
 have hlt:∀ k,bs.D k→k<w.heap.size:=fun k hk=>by have:=h.hB k hk;have:=h.below.size;omega
 have hother:∀ i c g',O i c=some g'→¬ (i=true∧c=s)→w'.heap[g']? = w.heap[g']?:=by
  intro i c g' hg1 hne
  refine hw.block g' (h.own _ _ _ hg1).2 fun e=>?_
  cases e;exact hne (h.inj _ _ _ _ g hg1 hO)
 refine⟨h.size,h.defers,?_,h.hB,?_,h.ext,h.old,fun i c g' hg1=>⟨(h.own i c g' hg1).1,Nat.lt_of_lt_of_le (h.own i c g' hg1).2 hw.size⟩,h.inj,h.fix,?_⟩
 ·refine⟨hw.os.trans h.below.os,hw.tape.trans h.below.tape,hw.output.trans h.below.output,Nat.le_trans h.below.size hw.size,fun k hk=>?_⟩;exact (hw.block k (hlt k hk) fun e=>by cases e;exact hgB hk).trans (h.below.block k hk)
 ·intro b o u hu;have hb:=VE (h.cons b o u hu)
  have hne:b≠g:=fun e=>by subst e;rw[hMg]at hu;cases hu
  rw[Xq (hw.block b hb (fun e=>hne (Option.some.inj e)))];exact h.cons b o u hu
 ·intro t y hy;rw[jq]at hy;by_cases hts:t=s
  ·subst hts;rw[if_pos rfl]at hy;cases hy;exact hsat
  ·rw[if_neg hts]at hy
   exact (h.slots t y hy).change2 (Sub.refl M) (fun _=>Gh.Eq1.refl O t) (fun c _=>Gh.Eq1.refl O c) (fun g' _ hg1=>⟨hother true t g' hg1 (fun e=>hts e.2),fun _ hm=>hm⟩) fun c g' hg1=>⟨hg1,hother false c g' hg1 (fun e=>by cases e.1),fun _ hm=>hm⟩
theorem Inv.setBox (h:Inv bs n M O env a w) {s g:Nat} {cs cs':List AV} (hl:look env s=some (.box cs)) (hO:O true s=some g) {cur cur':Array Value} {el:Nat} (hg:w.heap[g]? = some (.cells cur el (0,0)))
  {w':World} (hw:w.grownBy w' (some g)) (hg':w'.heap[g]? = some (.cells cur' el (0,0))) (hlen:cur'.size=cs'.length)
  (hcs:∀ (j:Nat) c u,cs'[j]? = some c→cur'[j]? = some u→c.one=true∧R M c u∧OwnV O M w c u) (hMg:∀ o,M g o=none) :
  Inv bs n M O (ins s (.box cs') env) a w':=by
 refine h.setEnt hl rfl rfl hO hw hMg ?_;obtain⟨g1,cur1,el1,e1,e2,_⟩:=h.slots s _ hl
 have:g1=g:=by rw[e2]at hO;exact Option.some.inj hO
 subst this;refine⟨g1,cur',el,e1,e2,hg',hlen,hMg,fun j c u hc hu=>⟨(hcs j c u hc hu).1,(hcs j c u hc hu).2.1,(hcs j c u hc hu).2.2.change fun c' g' _ hg2=>⟨hg2,?_,fun _ hm=>hm⟩⟩⟩
 refine hw.block g' (h.own _ _ _ hg2).2 fun e=>?_
 cases e;cases (h.inj _ _ _ _ g1 hg2 hO).1
theorem ZH {t g off:Nat} {v:Value} {sz el:Nat} {cur:Array Value} (hsz:tSize P t=some sz) (hv:v.cells.size=sz) (hg:w.heap[g]? = some (.cells cur el (0,0))) (hle:off+v.cells.size≤cur.size) (h1:∀ u∈v.cells,u.oneCell'=true) :
  (Instr.storeAt t (.pointer (some ⟨g,off,none⟩)) v).run P w=.ok () (w.setRow g (cur.toList.take off++v.cells.toList++cur.toList.drop (off+v.cells.size)).toArray):=by
 unfold Instr.storeAt;simp only[Instr.sureAddr,A0,A6,A1];unfold storeVar;simp only[A0,JD hsz,A1,hv,ne_eq,not_true_eq_false,if_false];have:=run_storeCells_at (P:=P) g off el v.cells.toList 0 cur w hg (by simpa using hle) (fun u hu=>h1 u (by simpa using hu));simp only[D2,C4,hv]at this;exact this
theorem qcW {s off:Nat} {vs:List AV} {env env':Env} (h:putRow s env off vs=some env'):vs.all AV.one=true∧((∃ cs,look env s=some (.box cs)∧off+vs.length≤cs.length∧env'=ins s (.box (cs.take off++vs.map AV.strip++cs.drop (off+vs.length))) env) ∨
  ∃ ks cs,look env s=some (.hob 3 ks cs)∧off+vs.length≤cs.length∧env'=ins s (.hob 3 ks (cs.take off++vs.map AV.strip++cs.drop (off+vs.length))) env):=by
 unfold putRow at h;split at h
 ·cases h
 ·rename_i ho;split at h
  case h_3=>cases h
  case h_2 =>
   rename_i ks cs hl;split at h
   case h_2=>cases h
   rename_i hle;cases h;exact⟨ho,.inr ⟨ks,cs,hl,A4 hle,rfl⟩⟩
  rename_i cs hl;split at h
  case h_2=>cases h
  rename_i hle;cases h;exact⟨ho,.inl ⟨cs,hl,A4 hle,rfl⟩⟩
theorem XA {α:Type} {cs vs:List α} {off:Nat} (h:off+vs.length≤cs.length) (j:Nat):(cs.take off++vs++cs.drop (off+vs.length))[j]? = if off≤j∧j<off+vs.length then vs[j - off]? else cs[j]?:=by
 by_cases h1:j<off
 ·rw[if_neg (by omega),B7,B6 (by simp;omega),E0,if_pos h1]
 ·by_cases h2:j<off+vs.length
  ·rw[if_pos ⟨by omega,h2⟩,B7,C5 (by simp;omega),B6 (by simp;omega)]
   congr 1
   simp;omega
  ·rw[if_neg (by omega),C5 (by simp;omega),C8]
   congr 1
   simp;omega
theorem Xi (w:World) (g:Nat) (cs:Array Value):w.grownBy (w.setRow g cs) (some g) :=
 ⟨rfl,rfl,rfl,by simp,fun k hk hne=>setRow_other w g k cs (fun e=>hne (by rw[e]))⟩
theorem VU (a:Act) (v:Value):a.put none v=a:=rfl
theorem YC {k:Nat}:∀ {xs:List AV} (i:Nat),(∀ x,x∈xs→x.cells.length=k)→flat (xs.take i)=(flat xs).take (i * k)
 | [],i,_=>by simp[flat]
 | x::xs,0,_=>by simp[flat]
 | x::xs,i+1,h=>by
  have h1:=h x (by simp);have h2:=YC (xs:=xs) i (fun y hy=>h y (by simp[hy]));simp only[flat,List.take_succ_cons,E8]at h2 ⊢;rw[h2,List.take_append,F5 (l:=x.cells) (by rw[h1,A9];omega),h1]
  congr 2
  rw[A9];omega
theorem qhf {k j:Nat} {xs:List AV} {y:AV} (h:∀ x,x∈xs→x.cells.length=k) (hj:j<xs.length):flat (xs.set j y)=(flat xs).take (j * k)++y.cells++(flat xs).drop (j * k+k):=by
 rw[F4,if_pos hj];have e1:=YC (xs:=xs) j h;have e2:=YD (xs:=xs) (j+1) h;simp only[flat,D7,E8]at e1 e2 ⊢;rw[e1,e2,A9,Nat.one_mul,B7]
theorem qcf {y y':AV} {off:Nat} {vs:List AV} (hy:y.cells.all AV.one=true) (h:putElem y off vs=some y') :
  vs.all AV.one=true∧off+vs.length≤y.cells.length∧y'.cells=y.cells.take off++vs.map AV.strip++y.cells.drop (off+vs.length)∧y'.cells.all AV.one=true:=by
 unfold putElem at h;split at h
 ·cases h
 rename_i hc;simp only[A2]at hc;obtain⟨h1,h2⟩:=hc;have h2:=A4 h2
 have hvs:(vs.map AV.strip).all AV.one=true:=by
  simp only[C6,List.mem_map]at h1 ⊢
  rintro x ⟨z,hz,rfl⟩
  exact Xa (h1 z hz)
 have key:y'.cells=y.cells.take off++vs.map AV.strip++y.cells.drop (off+vs.length)→y'.cells.all AV.one=true:=by
  intro e;rw[e];simp only[List.all_append,A2];simp only[C6]at hy hvs ⊢;exact⟨⟨fun x hx=>hy x (C7 hx),hvs⟩,fun x hx=>hy x (D1 hx)⟩
 refine⟨h1,h2,?_⟩;split at h
 ·cases h;exact⟨rfl,key rfl⟩
 ·rename_i hna;split at h
  ·rename_i v _;cases h
   have hv1:v.one=true:=by simpa using h1
   have hlen:y.cells.length=1:=by
    cases y with
    | agg cs=>exact absurd rfl (hna cs)
    | _=>rfl
   have h0:off=0:=by simp at h2;omega
   subst h0
   have e:v.strip.cells=y.cells.take 0++[v].map AV.strip++y.cells.drop (0 + [v].length):=by
    rw[YH (Xa hv1),F6 (by rw[hlen];simp)];simp
   exact⟨e,key e⟩
  ·cases h
theorem Zr (g o:Nat) (t:TypeId) (fz:Nat×Nat):∀ (vs:List Value) (i:Nat) (cur:Array Value) (w:World),w.heap[g]? = some (.cells cur t fz)→cur.size≤fz.1→o+i+vs.length≤cur.size→(∀ v∈vs,v.oneCell'=true) →
  (storeCells ⟨g,o,none⟩ vs i).run P w=.ok () (w.setRow g (cur.toList.take (o+i)++vs++cur.toList.drop (o+i+vs.length)).toArray)
 | [],i,cur,w,hg,_,_,_=>by
  simp only[storeCells,List.append_nil,List.length_nil,D2,D8,Array.toArray_toList];rw[setRow_self w g cur t fz hg];rfl
 | v::rest,i,cur,w,hg,hf,hl,h1=>by
  have hi:o+i<cur.size:=by simp at hl;omega
  have hadd:(⟨g,o,none⟩:Addr).add i=⟨g,o+i,none⟩:=by unfold Addr.add;split <;> simp_all
  have hcell:w.cell? ⟨g,o+i,none⟩=some cur[o+i]:=by simp[World.cell?,hg,hi]
  have hfro:w.frozen? ⟨g,o+i,none⟩=false:=by
   unfold World.frozen?;rw[hg];simp only[Bool.and_eq_false_iff,decide_eq_false_iff_not];exact .inl (by omega)
  have hst:(store ((⟨g,o,none⟩:Addr).add i) v).run P w=.ok () (w.setRow g (cur.setIfInBounds (o+i) v)):=by
   rw[hadd,run_store P w _ v _ (h1 v (by simp)),hcell];simp[hfro,setCell_eq_setRow w g (o+i) cur t fz v hg]
  have ih:=Zr g o t fz rest (i+1) (cur.setIfInBounds (o+i) v) (w.setRow g (cur.setIfInBounds (o+i) v)) (setRow_heap w g cur _ t _ hg) (by simpa using hf) (by simp at hl ⊢;omega) (fun x hx=>h1 x (by simp[hx]));simp only[storeCells,A0,hst,A1,ih,setRow_setRow]
  congr 3
  have e:=list_seg_step cur.toList (o+i) v rest (by simp at hl ⊢;omega)
  simpa[Array.toList_setIfInBounds,D0] using e
theorem qbW {t g off:Nat} {v:Value} {sz e:Nat} {cur:Array Value} (hsz:tSize P t=some sz) (hv:v.cells.size=sz) (hg:RowAt w g cur e) (hle:off+v.cells.size≤cur.size) (h1:∀ u∈v.cells,u.oneCell'=true) :
  (Instr.storeAt t (.pointer (some ⟨g,off,none⟩)) v).run P w=.ok () (w.setRow g (cur.toList.take off++v.cells.toList++cur.toList.drop (off+v.cells.size)).toArray):=by
 obtain⟨el,fz,hg,h2 | h2⟩:=hg
 ·obtain⟨rfl,rfl⟩:=h2;exact ZH hsz hv hg hle h1
 ·unfold Instr.storeAt;simp only[Instr.sureAddr,A0,A6,A1];unfold storeVar;simp only[A0,JD hsz,A1,hv,ne_eq,not_true_eq_false,if_false];have:=Zr (P:=P) g off el fz v.cells.toList 0 cur w hg h2.2 (by simpa using hle) (fun u hu=>h1 u (by simpa using hu));simp only[D2,C4,hv]at this;exact this
theorem RowAt.setRow {g e:Nat} {cur cs:Array Value} (h:RowAt w g cur e) (hs:cs.size=cur.size):RowAt (w.setRow g cs) g cs e:=by
 obtain⟨el,fz,h1,h2⟩:=h;refine⟨el,fz,setRow_heap w g cur cs el fz h1,?_⟩;rw[hs];exact h2
theorem Dt (h:Inv bs n M O env a w) {o:Oper} {t:TypeId} {p x:Operand} (ho:o.op=.store t p x) (hd:o.dst=none) {id k j off sz:Nat} {v:AV} (hp:aop env p=some (.pe id k j off)) (hx:aop env x=some v) (hsz:tSize P t=some sz) (hlen:v.cells.length=sz) {env':Env} (he:putObj id k j env off v.cells=some env'):Leads P bs n o a w env':=by
 obtain⟨g,hpv,hO⟩:=qD h hp;have hxv:=qD h hx;unfold putObj at he;split at he
 case h_2=>cases he
 rename_i e k' xs hl;split at he
 case h_2=>cases he
 rename_i hk;have hk:=A3 hk;subst hk;split at he
 case h_2=>cases he
 rename_i y hy;split at he
 case h_2=>cases he
 rename_i y' hy';cases he;obtain⟨h0,h3,h4,h5⟩:=h.slots id _ hl
 rcases h5 with ⟨rfl,_⟩ | ⟨g',cur,k1,k2,k3,k4,k5,k6⟩
 ·simp at hy
 have:g'=g:=by rw[k1]at hO;exact Option.some.inj hO
 subst this
 have hty:∀ z,z∈xs→z.cells.length=k:=fun z hz=>(h3 z hz).1
 have hym:=A5 hy;obtain⟨p1,p2,p3,p4⟩:=qcf (h3 y hym).2 hy';have hyk:=hty y hym;have hjl:=(List.getElem?_eq_some_iff.1 hy).1;have hR:R M v (a.eval x):=Zw hxv p1;obtain⟨c1,c2,c3⟩:=hR.cells p1;have hjk:(j+1) * k≤xs.length * k:=Nat.mul_le_mul_right k hjl;rw[A9,Nat.one_mul]at hjk
 have hfit:j * k+off+v.cells.length≤cur.size:=by omega
 have hrun:=qbW (P:=P) (t:=t) (g:=g') (off:=j * k+off) (v:=a.eval x) hsz (by rw[c1,hlen]) k2 (by rw[c1];exact hfit) c3
 have hex:(execOp a.eval o).run P w=.ok .skip (w.setRow g' (cur.toList.take (j * k+off)++(a.eval x).cells.toList++cur.toList.drop (j * k+off+(a.eval x).cells.size)).toArray):=by
  have:execOp a.eval o=(do Instr.storeAt t (a.eval p) (a.eval x);pure .skip):=by unfold execOp;rw[ho]
  rw[this,A0,hpv,hrun];rfl
 refine⟨undef,_,M,O,.inr ⟨hex,rfl⟩,?_⟩;rw[hd,VU];refine h.setEnt hl rfl rfl k1 (Xi w g' _) k5 ?_
 have hy'k:y'.cells.length=k:=by rw[p3];simp;omega
 refine⟨h0,fun z hz=>?_,by simpa using h4,.inr ⟨g',_,k1,k2.setRow ?_,?_,?_,k5,fun q c u hc hu=>?_⟩⟩
 ·rcases List.mem_or_eq_of_mem_set hz with hz | rfl
  ·exact h3 z hz
  ·exact⟨hy'k,p4⟩
 ·simp[c1];omega
 ·simp[c1];omega
 ·simp[c1];omega
 ·rw[qhf hty hjl]at hc;have hfl:=Jc hty;have e1:=XA (cs:=flat xs) (vs:=y'.cells) (off:=j * k) (by rw[hy'k,hfl];omega) q;rw[hy'k]at e1;rw[e1]at hc
  have hu':(cur.toList.take (j * k+off)++(a.eval x).cells.toList++cur.toList.drop (j * k+off+(a.eval x).cells.size))[q]? = some u:=by simpa using hu
  have e2:=XA (cs:=cur.toList) (vs:=(a.eval x).cells.toList) (off:=j * k+off) (by simp[c1];omega) q;simp only[C4,c1]at e2;rw[c1,e2]at hu'
  have keep:∀ c,(flat xs)[q]? = some c→¬ (j * k+off≤q∧q<j * k+off+v.cells.length)→R M c u:=by
   intro c hc hne;rw[if_neg hne]at hu';exact k6 q c u hc (by simpa using hu')
  split at hc
  ·rename_i hq;rw[p3]at hc;have e3:=XA (cs:=y.cells) (vs:=v.cells.map AV.strip) (off:=off) (by simpa using p2) (q - j * k);simp only[B9]at e3;rw[e3]at hc;split at hc
   ·rename_i hq2;rw[if_pos (by omega)]at hu';rw[A7]at hc
    have e4:q - j * k - off=q - (j * k+off):=by omega
    rw[e4]at hc
    cases hz:v.cells[q - (j * k+off)]? with
    | none=>rw[hz]at hc;cases hc
    | some z =>
     rw[hz]at hc;cases hc;exact (c2 _ z u hz (by simpa using hu')).strip
   ·rename_i hq2;refine keep c ?_ (by omega);have:=Yq hty hy (q - j * k) (by omega)
    have e5:j * k+(q - j * k)=q:=by omega
    rw[e5]at this;rw[this];exact hc
  ·rename_i hq;exact keep c hc (by omega)
theorem qhq {O:Gh} {M:Mem} {w:World} {t:Nat} {v:AV} {u:Value} (h:ValOk O M w v u) (hc:v.cellOk=true):CellR O M t v.strip u:=by
 cases v with
 | sb id e k off n=>exact h
 | mb kd id =>
  cases kd with
  | zero=>obtain⟨g,h1,h2⟩:=h;exact⟨rfl,g,h1,h2⟩
  | succ kd=>cases hc
 | pb s off=>cases hc
 | pe s k j o=>cases hc
 | tpr s e k off n rest=>cases hc
 | clb f caps=>cases hc
 | box cs=>exact h.elim
 | obj e k xs=>exact h.elim
 | hob kd ks vs=>exact h.elim
 | bxg cs=>exact h.elim
 | slf=>exact h.elim
 | agr cs=>cases hc
 | _=>exact CellR.of_one hc h.1
theorem CellR.cells {O:Gh} {M:Mem} {t:Nat} {c:AV} {u:Value} (h:CellR O M t c u):u.cells=#[u]:=by
 have:=h.one
 cases u <;> first | rfl | cases this
theorem Vl (h:Inv bs n M O env a w) {o:Oper} {t:TypeId} {p x:Operand} (ho:o.op=.store t p x) {s off sz:Nat} {xv:AV} (hd:o.dst=none) (hp:aop env p=some (.pb s off)) (hx:aop env x=some xv) (hsz:tSize P t=some sz) (hlen:xv.cells.length=sz) {env':Env} (he:putG s env off xv=some env'):Leads P bs n o a w env':=by
 unfold putG at he;split at he
 ·cases he
 rename_i hcell
 have hs1:sz=1:=by
  rw[← hlen]
  cases xv <;> first | rfl | cases hcell
 subst hs1;obtain⟨g,hpv,hO⟩:=qD h hp;have hxv:CellR O M s xv.strip (a.eval x):=qhq (qD h hx) hcell
 have hex:∀ w',(Instr.storeAt t (a.eval p) (a.eval x)).run P w=.ok () w'→(execOp a.eval o).run P w=.ok .skip w':=by
  intro w' hr
  have:execOp a.eval o=(do Instr.storeAt t (a.eval p) (a.eval x);pure .skip):=by unfold execOp;rw[ho]
  rw[this,A0,hr];rfl
 obtain⟨y,cs,cur,el,hl,hy,hv,h3,h4,h5,h6,hoff,rfl⟩:∃ (y:AV) (cs:List AV) (cur:Array Value) (el:Nat),look env s=some y∧y.ent=true∧(a.tmps.getD s undef=.pointer (some ⟨g,0,none⟩)∨1000000≤s)∧w.heap[g]? = some (.cells cur el (0,0))∧cur.size=cs.length∧(∀ o,M g o=none) ∧
   (∀ (j:Nat) c u,cs[j]? = some c→cur[j]? = some u→CellR O M s c u)∧off<cs.length∧env'=ins s (.bxg (cs.set off xv.strip)) env:=by
  split at he
  ·rename_i cs hl;split at he
   case h_2=>cases he
   rename_i hc;cases he;obtain⟨g1,cur,el,k1,k2,k3,k4,k5,k6⟩:=h.slots s _ hl
   have:g1=g:=by rw[k2]at hO;exact Option.some.inj hO
   subst this;have hlt:off<cs.length:=A4 hc;refine⟨_,cs.map AV.strip,cur,el,hl,rfl,k1,k3,by simpa using k4,k5,fun j c u hc hu=>?_,by simpa using hlt,rfl⟩;rw[A7]at hc
   cases hz:cs[j]? with
   | none=>rw[hz]at hc;cases hc
   | some z =>
    rw[hz]at hc;cases hc;obtain⟨q1,q2,_⟩:=k6 j z u hz hu;exact CellR.of_one q1 q2
  ·rename_i cs hl;split at he
   case h_2=>cases he
   rename_i hc;cases he;obtain⟨g1,cur,el,k1,k2,k3,k4,k5,k6⟩:=h.slots s _ hl
   have:g1=g:=by rw[k2]at hO;exact Option.some.inj hO
   subst this;have hlt:off<cs.length:=A4 hc;exact⟨_,cs,cur,el,hl,rfl,k1,k3,k4,k5,k6,hlt,rfl⟩
  ·cases he
 have c1:=hxv.cells;have c2:=hxv.one;have hrun:=ZH (P:=P) (t:=t) (g:=g) (off:=off) (v:=a.eval x) hsz (by rw[c1];rfl) h3 (by rw[c1,h4];simp;omega) (by rw[c1];intro u hu;simp at hu;rw[hu];exact c2);refine⟨undef,_,M,O,.inr ⟨hex _ (by rw[hpv];exact hrun),rfl⟩,?_⟩;rw[hd,VU]
 have hsp:∀ j,(cur.toList.take off++(a.eval x).cells.toList++cur.toList.drop (off+(a.eval x).cells.size))[j]? = if j=off then some (a.eval x) else cur[j]?:=by
  intro j;have:=XA (cs:=cur.toList) (vs:=(a.eval x).cells.toList) (off:=off) (by rw[c1];simp;omega) j;simp only[C4]at this;rw[this,c1];by_cases hj:j=off
  ·subst hj;rw[if_pos ⟨B5 _,by simp⟩,if_pos rfl];simp
  ·rw[if_neg hj,if_neg (by simp;omega)];simp
 refine h.setEnt hl hy rfl hO (Xi w g _) h5 ⟨g,_,el,hv,hO,setRow_heap w g cur _ el _ h3,?_,h5,fun j c u hc hu=>?_⟩
 ·simp[c1,h4];omega
 ·have hu':=hsp j
  have hu2:(cur.toList.take off++(a.eval x).cells.toList++cur.toList.drop (off+(a.eval x).cells.size))[j]? = some u:=by simpa using hu
  rw[hu']at hu2;rw[List.getElem?_set]at hc;split at hc
  ·rename_i e1;subst e1;rw[if_pos rfl]at hu2;cases hu2;cases hc;exact hxv
  ·rename_i e1;rw[if_neg (fun e=>e1 e.symm)]at hu2;exact h6 j c u hc hu2
theorem Nb (h:Inv bs n M O env a w) {o:Oper} {t:TypeId} {p x:Operand} (ho:o.op=.store t p x) {s off sz:Nat} {v:AV} (hd:o.dst=none) (hp:aop env p=some (.pb s off)) (hx:R M v (a.eval x)) (hsz:tSize P t=some sz) (hlen:v.cells.length=sz) (hone:v.cells.all AV.one=true)
  {ks cs:List AV} (hl:look env s=some (.hob 3 ks cs)) (hle:off+v.cells.length≤cs.length):Leads P bs n o a w (ins s (.hob 3 ks (cs.take off++v.cells.map AV.strip++cs.drop (off+v.cells.length))) env):=by
 obtain⟨g,hpv,hO⟩:=qD h hp;obtain⟨g',q1,q2,cur,el,q3,q4,q5⟩:=h.slots s _ hl
 have:g'=g:=by rw[q1]at hO;exact Option.some.inj hO
 subst this;obtain⟨k1,k2,k3⟩:=hx.cells hone;have hrun:=ZH (P:=P) (t:=t) (g:=g') (off:=off) (v:=a.eval x) hsz (by rw[k1];exact hlen) q3 (by rw[k1,q4];exact hle) k3
 have hex:(execOp a.eval o).run P w=.ok .skip (w.setRow g' (cur.toList.take off++(a.eval x).cells.toList++cur.toList.drop (off+(a.eval x).cells.size)).toArray):=by
  have:execOp a.eval o=(do Instr.storeAt t (a.eval p) (a.eval x);pure .skip):=by unfold execOp;rw[ho]
  rw[this,A0,hpv,hrun];rfl
 refine⟨undef,_,M,O,.inr ⟨hex,rfl⟩,?_⟩;rw[hd,VU]
 have hcl:(a.eval x).cells.toList.length=(v.cells.map AV.strip).length:=by simp[k1]
 refine h.setEnt hl rfl rfl q1 (Xi w g' _) q2 ⟨g',q1,q2,_,el,setRow_heap w g' cur _ el _ q3,?_,fun j c u hc hu=>?_⟩
 ·simp[k1];omega
 ·have e0:off+v.cells.length=off+(v.cells.map AV.strip).length:=by rw[B9]
  rw[e0,XA (by rw[B9];exact hle)]at hc
  have hu':(cur.toList.take off++(a.eval x).cells.toList++cur.toList.drop (off+(a.eval x).cells.size))[j]? = some u:=by simpa using hu
  have hsp:=XA (cs:=cur.toList) (vs:=(a.eval x).cells.toList) (off:=off) (by rw[hcl];simp[q4];omega) j;simp only[C4]at hsp;rw[hsp]at hu';split at hc
  ·rename_i hj;rw[if_pos (by rw[B9]at hj;omega)]at hu';rw[A7]at hc
   cases hz:v.cells[j - off]? with
   | none=>rw[hz]at hc;cases hc
   | some z =>
    rw[hz]at hc;cases hc;have hz1:z.one=true:=List.all_eq_true.1 hone z (A5 hz);exact⟨Xa hz1,(by cases z <;> rfl),(k2 _ z u hz (by simpa using hu')).strip⟩
  ·rename_i hj;rw[if_neg (by rw[B9]at hj;omega)]at hu';exact q5 j c u hc (by simpa using hu')
theorem qcD (h:Inv bs n M O env a w) {o:Oper} {t:TypeId} {p x:Operand} (ho:o.op=.store t p x) {env':Env} (he:astep P n o env=some env'):Leads P bs n o a w env':=by
 unfold astep at he;rw[ho]at he;simp only at he;split at he
 case h_3=>cases he
 case h_2 =>
  rename_i id k j off v sz hd hp hx hsz;split at he
  case h_2=>cases he
  rename_i hlen;exact Dt h ho hd hp hx hsz (A3 hlen) he
 rename_i s off v sz hd hp hx hsz;split at he
 case h_2=>cases he
 rename_i hlen;have hlen:=A3 hlen;obtain⟨g,hpv,hO⟩:=qD h hp;have hxv:=qD h hx
 have hex:∀ w',(Instr.storeAt t (a.eval p) (a.eval x)).run P w=.ok () w'→(execOp a.eval o).run P w=.ok .skip w':=by
  intro w' hr
  have:execOp a.eval o=(do Instr.storeAt t (a.eval p) (a.eval x);pure .skip):=by unfold execOp;rw[ho]
  rw[this,A0,hr];rfl
 have core:∀ (O1:Gh) (env1:Env) (vs vs':List AV),Inv bs n M O1 env1 a w→(∀ s',O1 true s'=O true s')→v.cells=vs→vs.all AV.one=true→vs'.length=vs.length→R M v (a.eval x) →
   (∀ (j:Nat) c u,vs'[j]? = some c→(a.eval x).cells[j]? = some u→c.one=true∧R M c u∧OwnV O1 M w c u) →
   ∀ cs,look env1 s=some (.box cs)→off+vs.length≤cs.length→Leads P bs n o a w (ins s (.box (cs.take off++vs'++cs.drop (off+vs'.length))) env1):=by
  intro O1 env1 vs vs' h1 hO1 hvs hone hl' hR hcells cs hl hle;obtain⟨k1,k2,k3⟩:=hR.cells (by rw[hvs];exact hone);rw[hvs]at k1 k2
  have hO':O1 true s=some g:=by rw[hO1];exact hO
  obtain⟨cur,el,c1,c2,c3,c4⟩:=Vf h1 hl hO';have hrun:=ZH (P:=P) (t:=t) (g:=g) (off:=off) (v:=a.eval x) hsz (by rw[k1,← hvs];exact hlen) c1 (by rw[k1,c2];exact hle) k3;refine⟨undef,_,M,O1,.inr ⟨hex _ (by rw[hpv];exact hrun),rfl⟩,?_⟩;rw[hd,VU]
  have hcl:(a.eval x).cells.toList.length=vs'.length:=by simp[k1,hl']
  refine h1.setBox hl hO' c1 (Xi w g _) (setRow_heap w g cur _ el _ c1) ?_ ?_ c3
  ·simp[k1];omega
  ·intro j c u hc hu;rw[XA (by rw[hl'];exact hle)]at hc
   have hu':(cur.toList.take off++(a.eval x).cells.toList++cur.toList.drop (off+(a.eval x).cells.size))[j]? = some u:=by simpa using hu
   have hsp:=XA (cs:=cur.toList) (vs:=(a.eval x).cells.toList) (off:=off) (by rw[hcl];simp[c2];omega) j;simp only[C4]at hsp;rw[hsp]at hu';split at hc
   ·rename_i hj;rw[if_pos (by omega)]at hu';exact hcells _ c u hc (by simpa using hu')
   ·rename_i hj;rw[if_neg (by omega)]at hu';obtain⟨d1,d2,d3,d4⟩:=c4 j c hc
    have:cur.getD j undef=u:=by
     have hu2:cur[j]? = some u:=by simpa using hu'
     simp[hu2]
    rw[this]at d3 d4;exact⟨d2,d3,d4⟩
 split at he
 ·
  rename_i cs1 _;obtain⟨hone,⟨cs,hl,hle,rfl⟩ | ⟨ks,cs,hl,hle,rfl⟩⟩:=qcW he
  case h_1.inr=>exact Nb h ho hd hp hxv.1 hsz hlen hone hl hle
  have:=core O env cs1 (cs1.map AV.strip) h (fun _=>rfl) rfl hone (by simp) hxv.1 (fun j c u hc hu=>by
   rw[A7]at hc
   cases hz:cs1[j]? with
   | none=>rw[hz]at hc;cases hc
   | some z =>
    rw[hz]at hc;cases hc;obtain⟨_,k2,_⟩:=hxv.1.cells (show (AV.agg cs1).cells.all AV.one=true from hone)
    have hz1:z.one=true:=by simp only[C6]at hone;exact hone z (A5 hz)
    exact⟨Xa hz1,(k2 j z u hz hu).strip,XY _ _⟩) cs hl hle
  simpa using this
 ·exact Vl h ho hd hp hx hsz hlen he
 ·exact Vl h ho hd hp hx hsz hlen he
 ·
  split at he
  ·exact Vl h ho hd hp hx hsz hlen he
  unfold putCell at he;split at he
  ·cases he
  rename_i hone;have hcs:=YH hone;have hR:R M v (a.eval x):=Zw hxv (by rw[hcs];simp[hone]);split at he
  case h_3=>cases he
  case h_2 =>
   rename_i ks cs hl;split at he
   case h_2=>cases he
   rename_i hlt;cases he;have hlt:off<cs.length:=A4 hlt;have:=Nb h ho hd hp hR hsz hlen (by rw[hcs];simp[hone]) hl (by rw[hcs];simp;omega)
   have e:cs.take off++v.cells.map AV.strip++cs.drop (off+v.cells.length)=cs.set off v.strip:=by
    rw[hcs,F4,if_pos hlt];simp
   rw[e]at this;exact this
  rename_i cs hl;split at he
  case h_2=>cases he
  rename_i hlt;cases he;have hlt:off<cs.length:=A4 hlt
  have hown:OwnV O M w v (a.eval x):=by
   cases v with
   | box cs=>exact hxv.elim
   | obj e k xs=>exact hxv.elim
   | pb s o=>cases hone
   | sb s e k off m=>cases hone
   | tpr s e k off m rest=>cases hone
   | pe s k j o=>cases hone
   | hob kd ks vs=>cases hone
   | mb kd s=>cases hone
   | bxg cs=>cases hone
   | slf=>cases hone
   | agr cs=>cases hone
   | clb f caps=>cases hone
   | _=>exact hxv.2
  have:=core O env [v] [v] h (fun _=>rfl) hcs (by simp[hone]) rfl hR (fun j c u hc hu=>by
   cases j with
   | succ j=>simp at hc
   | zero =>
    simp at hc;subst hc
    have hu':u=a.eval x:=by
     have hone2:=hR.one hone;generalize a.eval x=y at hu hone2
     cases y <;> first | (simp[Value.cells]at hu;exact hu.symm) | cases hone2
    subst hu'
    exact⟨hone,hR,hown⟩) cs hl (by simp;omega)
  have e:cs.take off++[v]++cs.drop (off + [v].length)=cs.set off v:=by
   rw[F4,if_pos hlt];simp
  rw[e]at this;exact this
end
end Go.AM
