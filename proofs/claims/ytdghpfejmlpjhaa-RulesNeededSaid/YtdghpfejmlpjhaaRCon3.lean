/- s -/
import Derived.Test.YtdghpfejmlpjhaaRCon2
set_option maxRecDepth 100000
set_option linter.unusedVariables false
set_option linter.unusedSimpArgs false
namespace Go.Proofs
open Go.RowKit Go.AM
open Go.ChangeMaps (setBlock)
def mapLen (g:Nat) (w:World):Nat:=match w.heap[g]? with
 | some (.map es _)=>es.size
 | _=>0
theorem SetAt.len {w:World} {g:Nat} {out:List (rufact×Bool)} (h:SetAt w g out):mapLen g w=out.length:=by
 obtain⟨es,clock,hb,_,_,h3,_⟩:=h;unfold mapLen;rw[hb]
 simpa using h3.symm
theorem qcm {α:Type}:∀ (l:List α) (j:Nat) (h:j<l.length),l.Perm (l[j]::l.eraseIdx j)
 | [],j,h=>by simp at h
 | a::l,0,h=>by simp
 | a::l,j+1,h=>by
  simp only[List.getElem_cons_succ,List.eraseIdx_cons_succ];exact ((qcm l j (by simpa using h)).cons a).trans (List.Perm.swap _ _ _)
def boolOf:Value→Bool
 | .bool b=>b
 | _=>false
structure I2 (l:List ruRule) (no r:List (rufact×Bool)) (w w3:World) (b:Bool) (wr:World):Prop where
 below:Below w.heap.size w wr
 size:w3.heap.size≤wr.heap.size
 old:∀ k,k<w3.heap.size→k≠w.heap.size→wr.heap[k]? = w3.heap[k]?
 set:∃ outp,SetAt wr w.heap.size outp∧NT outp∧(∀ p,p∈outp→wfF p.1=true)∧(b=true→∃ n outc,consR l no n outc=some r∧outp.Perm outc)∧(b=false→outp.Perm r)
theorem HU (no out:List (rufact×Bool)):∀ (l:List ruRule) (acc fr:List rufact),freshL no out l acc=some fr→acc.length≤900000000→fr.length≤900000000
 | [],acc,fr,h,ha=>by cases h;exact ha
 | r::rs,acc,fr,h,ha=>by
  obtain⟨_,h⟩:=qi (show chk (decide (r.qd.length≤1000)) ((tryP r.qd no (byRelL out) r.qd (List.replicate 8 0)).bind fun d=>chk (decide (acc.length+d.length≤900000000) && headOk r.qc d) (freshL no out rs (acc++headsP out r.qc d)))=some fr from h);obtain⟨d,_,h⟩:=qf h;obtain⟨hc,h⟩:=qi h;rw[Bool.and_eq_true,decide_eq_true_eq]at hc;refine HU no out rs _ _ h ?_;rw[List.length_append];have:=Uk out r.qc d;omega
def qgu (w:World) (r:List (rufact×Bool)) (e:Ending) (w':World):Prop:=e=.returned (.map (some w.heap.size))∧Below w.heap.size w w'∧∃ outp,SetAt w' w.heap.size outp∧NT outp∧outp.Perm r∧∀ p,p∈outp→wfF p.1=true
set_option maxHeartbeats 8000000 in
theorem Try.cons74o {fuel:Nat} {l:List ruRule} {gv no r:List (rufact×Bool)} (h:consP fuel l gv no=some r) {M:Mem} {w:World} (hC:Cons M w) {lv gvv nov:Value} (rl:R M (l54 none l) lv) (rg:R M (mpE qh AV.bool gv) gvv) (rn:R M (mpE qh AV.bool no) nov):Calls Try.prog 74 #[lv,gvv,nov] w (qgu w r):=by
 unfold consP at h;obtain⟨hck,h⟩:=qi h;rw[Bool.and_eq_true,decide_eq_true_eq,List.all_eq_true]at hck;obtain⟨hwg,hll,hgl⟩:=hck;obtain⟨la,lc,rfl,hrules⟩:=qcX rl;obtain⟨mo,rfl⟩:=UG rn;obtain⟨es,fs,hfs,hrange⟩:=qeE rg;have mixed:=mixedP;have t3:=Try.underlying3;have a3:=Try.isAgg3;have z3:=Try.sizeOf3;have v3:=Try.zeroValue3;have u3:=run_underlying Try.underlying3;have t4:=Try.underlying4;have a4:=Try.isAgg4;have z4:=Try.sizeOf4;have v4:=Try.zeroValue4;have u4:=run_underlying Try.underlying4;have t27:=Try.underlying27;have a27:=Try.isAgg27;have z27:=Try.sizeOf27;have v27:=Try.zeroValue27;have u27:=run_underlying Try.underlying27;have t39:=Try.underlying39;have a39:=Try.isAgg39;have z39:=Try.sizeOf39;have v39:=Try.zeroValue39;have u39:=run_underlying Try.underlying39;have t50:=Try.underlying50;have a50:=Try.isAgg50;have z50:=Try.sizeOf50;have v50:=Try.zeroValue50;have u50:=run_underlying Try.underlying50;have t52:=Try.underlying52;have a52:=Try.isAgg52;have z52:=Try.sizeOf52;have v52:=Try.zeroValue52;have u52:=run_underlying Try.underlying52;have t54:=Try.underlying54;have a54:=Try.isAgg54;have z54:=Try.sizeOf54;have v54:=Try.zeroValue54;have u54:=run_underlying Try.underlying54;have t105:=Try.underlying105;have a105:=Try.isAgg105;have z105:=Try.sizeOf105;have v105:=Try.zeroValue105;have u105:=run_underlying Try.underlying105;have t127:=Try.underlying127;have a127:=Try.isAgg127;have z127:=Try.sizeOf127;have v127:=Try.zeroValue127;have u127:=run_underlying Try.underlying127;have t150:=Try.underlying150;have a150:=Try.isAgg150;have z150:=Try.sizeOf150;have v150:=Try.zeroValue150;have u150:=run_underlying Try.underlying150;have t178:=Try.underlying178;have a178:=Try.isAgg178;have z178:=Try.sizeOf178;have v178:=Try.zeroValue178;have u178:=run_underlying Try.underlying178;have t180:=Try.underlying180;have a180:=Try.isAgg180;have z180:=Try.sizeOf180;have v180:=Try.zeroValue180;have u180:=run_underlying Try.underlying180;have hmm:=@run_makeMap Try.prog
 have hmf:∀ (fn:Fn) (first cap:Array Value) (w:World),(Instr.makeFunc fn first cap).run Try.prog w=.ok (.func fn first cap) w:=fun _ _ _ _=>rfl
 obtain⟨w2,ew2⟩:∃ w2,w2=(w.alloc (.map #[] 0)).alloc (.cells #[.map (some w.heap.size)] 105):=⟨_,rfl⟩
 have z2:w2.heap.size=w.heap.size+1+1:=by rw[ew2];simp
 have B2:Below w.heap.size w w2:=by rw[ew2];exact ((Below.refl _ _).alloc (Nat.le_refl _) _).alloc (by simp) _
 have e0:w2.heap[w.heap.size]? = some (.map #[] 0):=by rw[ew2,heap_alloc_old _ _ (by simp)];exact heap_alloc_new _ _
 have e1:w2.heap[w.heap.size+1]? = some (.cells #[.map (some w.heap.size)] 105 (0,0)):=by
  rw[ew2];have:=heap_alloc_new (w.alloc (.map #[] 0)) (.cells #[.map (some w.heap.size)] 105)
  simpa using this
 obtain⟨ob,hrg,hI0⟩:=hrange w2 (hC.below B2);obtain⟨w3,ew3⟩:∃ w3,w3=w2.alloc ob:=⟨_,rfl⟩
 have z3:w3.heap.size=w.heap.size+1+1+1:=by rw[ew3];simp[z2]
 have B3:Below w.heap.size w w3:=by rw[ew3];exact B2.alloc (by omega) _
 have e0:w3.heap[w.heap.size]? = some (.map #[] 0):=by rw[ew3,heap_alloc_old _ _ (by omega)];exact e0
 have e1:w3.heap[w.heap.size+1]? = some (.cells #[.map (some w.heap.size)] 105 (0,0)):=by rw[ew3,heap_alloc_old _ _ (by omega)];exact e1
 rw[← ew3,z2]at hI0;rw[← ew3,z2,ew2]at hrg;clear ew2 ew3 B2 hrange;have S0:SetAt w3 w.heap.size []:=.empty e0
 go_enter Try.func74,Try.ntmps74
 go_wp2
 go_loopw [] (fun wr=>Below w.heap.size w wr∧w3.heap.size≤wr.heap.size∧(∀ k,k<w3.heap.size→k≠w.heap.size→k≠w.heap.size+1+1→wr.heap[k]? = w3.heap[k]?)∧∃ done rem,(done++rem).Perm fs∧IterG M es wr (w.heap.size+1+1) rem∧SetAt wr w.heap.size (addF [] done))
  (fun wr=>itLeft es (w.heap.size+1+1) wr)
 case atStart=>exact⟨B3,Nat.le_refl _,fun _ _ _ _=>rfl,[],fs,List.Perm.refl _,hI0,S0⟩
 case round =>
  obtain⟨hBr,hsz,hold,done,rem,hp,hI,hS⟩:=hrel;have hCr:=hC.below hBr
  rcases hI.next hCr 0 with ⟨rfl,hrun⟩ | ⟨j,f,v,wn,hj,hrun,hgr,hszn,hIn,hent⟩
  ·have hnx:∀ ty,(Instr.next (.pointer (some ⟨w.heap.size+1+1,0,none⟩)) false ty).run Try.prog wr=_:=fun _=>hrun
   have hpf:done.Perm fs:=by simpa using hp
   have N0:NT (addF [] done):=NT.empty.add.1
   have P0:(addF [] done).Perm (addF [] (gv.map Prod.fst)):=NT.perm N0 NT.empty.add.1 fun g=>by
    rw[NT.empty.add.2.1,NT.empty.add.2.1,hpf.mem_iff,← hfs.mem_iff]
   have W0:∀ p,p∈addF [] done→wfF p.1=true:=qbW NT.empty (P:=fun f=>wfF f=true) (fun f hf=>by
    have h1:=hfs.mem_iff.2 (hpf.mem_iff.1 hf);obtain⟨p,hp,rfl⟩:=List.mem_map.1 h1
    exact hwg p hp) (fun p hp=>by simp at hp)
   have J0:I2 l no r w wr true wr:=⟨hBr,Nat.le_refl _,fun _ _ _=>rfl,addF [] done,hS,N0,W0,fun _=>⟨fuel,_,h,P0⟩,fun h=>by cases h⟩;have b1:wr.heap[w.heap.size+1]? = some (.cells #[.map (some w.heap.size)] 105 (0,0)):=(hold _ (by omega) (by omega) (by omega)).trans e1
   have z1:w.heap.size+1<wr.heap.size:=by omega
   clear e0 e1 hI0 hfs S0 hI hrun hS hold h P0 N0 W0 hwg hp hpf hgl B3 hrg
   go_wp2
   clear hnx;obtain⟨w7,rfl⟩:∃ w7,w7=wr:=⟨_,rfl⟩
   go_loopw [9] (fun b wx=>∃ bb:Bool,b=.bool bb∧I2 l no r w w7 bb wx) (fun b wx=>if boolOf b then 200000 - mapLen w.heap.size wx else 0)
   case atStart=>exact⟨true,rfl,J0⟩
   case round =>
    obtain⟨bb,rfl,hJ⟩:=hrel;obtain⟨jb,jz,jo,outp,jS,jN,jW,jt,jf⟩:=hJ;have c1:wr.heap[w.heap.size+1]? = some (.cells #[.map (some w.heap.size)] 105 (0,0)):=(jo _ z1 (by omega)).trans b1
    cases bb with
    | false =>
     have k1:=cell_of_one c1
     go_wp2
     go_ret
     exact⟨rfl,jb,outp,jS,jN,(by first | exact jf rfl | exact jf trivial),jW⟩
    | true =>
     obtain⟨n,outc,hcons,hpo⟩:=jt rfl
     cases n with
     | zero=>cases hcons
     | succ n =>
      obtain⟨hc1,hcons⟩:=qi (show chk (decide (outc.length≤100000)) ((freshL no outc l []).bind fun fr=>bif fr.isEmpty then some outc else consR l no n (addF outc fr))=some r from hcons);obtain⟨fr,hfr,hcons⟩:=qf hcons
      have hlo:outp.length≤100000:=by rw[hpo.length_eq];exact of_decide_eq_true hc1
      obtain⟨w8,ew8⟩:∃ w8,w8=wr.alloc (.cells #[.slice none 0 0] 150):=⟨_,rfl⟩
      have z8:w8.heap.size=wr.heap.size+1:=by rw[ew8];simp
      have B8:Below w.heap.size w w8:=by rw[ew8];exact jb.alloc (by omega) _
      have b8:∀ k,k<wr.heap.size→w8.heap[k]? = wr.heap[k]?:=fun k hk=>by rw[ew8];exact heap_alloc_old _ _ hk
      have n8:w8.heap[wr.heap.size]? = some (.cells #[.slice none 0 0] 150 (0,0)):=by rw[ew8];exact heap_alloc_new _ _
      obtain⟨M1,eM1⟩:∃ M1,M1=mtail M w.heap.size wr:=⟨_,rfl⟩
      have C1:Cons M1 w8:=by rw[eM1,ew8];exact (Uh hC jb).alloc _
      have s1:Sub M M1:=by rw[eM1];exact Nq hC jb (Nat.le_refl _)
      have RS:R M1 (mpE qh AV.bool outp) (.map (some w.heap.size)):=by rw[eM1];exact SetAt.freeze jS (Nat.le_refl _)
      have m1:M1 (w.heap.size+1) 0=some (.map (some w.heap.size)):=by rw[eM1,QA (by omega)];exact HE c1 rfl rfl
      have mo1:∀ b o,b<w.heap.size→M1 b o=M b o:=fun b o hb=>by rw[eM1,Zi hb]
      have mn1:∀ o,M1 wr.heap.size o=none:=fun o=>by
       rw[eM1,QA (by omega)]
       cases hm:mc wr wr.heap.size o with
       | none=>rfl
       | some u=>have:=ZL hm;omega
      have F0:FS M1 w8 wr.heap.size outp ⟨0,[]⟩ [] [] M1 w8:=⟨C1,Sub.refl _,rfl,rfl,rfl,Nat.le_refl _,fun _ _ _=>rfl,mn1,_,n8,by simpa[headsP,factsC] using World.ownsRow_nil w8 w8.heap.size 127 3,fun g hg=>by cases hg⟩;have HW8:=(show Hid (w8=_) from ew8);have HS:=(show Hid _ from jS);have HN:=(show Hid _ from jN);have Hjo:=(show Hid _ from jo);have HB8:=(show Hid _ from B8);have Hm1:=(show Hid _ from mo1);have Hn1:=(show Hid _ from mn1);clear ew8 eM1 jt jf hc1 n8 jS jo mo1 mn1 jb;obtain⟨w6,rfl⟩:∃ w6,w6=wr:=⟨_,rfl⟩
      go_wp2
      rw[← HW8.out]
      go_loopw [27] (fun i wx=>∃ k:Nat,k≤l.length∧i=.int .i64 k∧∃ M' acc' acc,Sub M1 M'∧FS M' w8 w6.heap.size outp ⟨0,[]⟩ acc' [] M' wx∧freshL no outc (l.drop k) acc=some fr∧acc'.Perm acc∧∀ f,f∈acc'→wfF f=true∧mget qp false f outp=false)
       (fun i _=>l.length - (RowKit.intOf i).toNat)
      case atStart=>exact⟨0,Nat.zero_le _,rfl,M1,[],[],Sub.refl _,F0,hfr,List.Perm.refl _,fun f hf=>by simp at hf⟩
      case round =>
       obtain⟨k,hk,rfl,M2,acc2,acc,s2,F2,hfk,hpa,hwa⟩:=hrel
       rcases Nat.lt_or_ge k l.length with hk1 | hk1
       ·obtain⟨b,off,hv,bv,rfl,q0,q1,q2,rhv,rbv⟩:=hrules k _ (List.getElem?_eq_getElem hk1);rw[List.drop_eq_getElem_cons hk1]at hfk;have i0:(0:Int)≤(k:Int):=Int.natCast_nonneg _
        have i1:(k:Int)<(l.length:Int):=by omega
        obtain⟨ha,hac,rfl⟩:=Yt rhv;obtain⟨ba,bac,rfl⟩:=Yt rbv;have f0:=jh F2.cons (s2 _ _ _ (s1 _ _ _ q0)) rfl;have f1:=jh F2.cons (s2 _ _ _ (s1 _ _ _ q1)) rfl;have f2:=jh F2.cons (s2 _ _ _ (s1 _ _ _ q2)) rfl;generalize l[k]=x at hfk q0 q1 q2 rhv rbv f0 f1 f2;obtain⟨⟨hrel,hargs⟩,body⟩:=x;simp only[List.length_map]at q1 q2 rhv rbv f1 f2
        have c4:∀ o,(wr.alloc o).cell? ⟨w.heap.size+1,0,none⟩=some (.map (some w.heap.size)):=fun o=>jh (F2.cons.alloc o) (s2 _ _ _ m1) rfl
        obtain⟨hcb,hfk⟩:=qi (show chk (decide (body.length≤1000)) ((tryP body no (byRelL outc) body (List.replicate 8 0)).bind fun d=>chk (decide (acc.length+d.length≤900000000) && headOk ⟨hrel,hargs⟩ d) (freshL no outc (l.drop (k+1)) (acc++headsP outc ⟨hrel,hargs⟩ d)))=some fr from hfk);obtain⟨dd,hdd,hfk⟩:=qf hfk;obtain⟨hcd,hfk⟩:=qi hfk;rw[Bool.and_eq_true,decide_eq_true_eq]at hcd;obtain⟨w9,ew9⟩:∃ w9,w9=wr.alloc (.cells #[.int .i64 hrel,.slice ha hargs.length hac,.slice ba body.length bac] 54):=⟨_,rfl⟩;obtain⟨M3,eM3⟩:∃ M3,M3=mbox M2 wr.heap.size #[.int .i64 hrel,.slice ha hargs.length hac,.slice ba body.length bac]:=⟨_,rfl⟩
        have s3:Sub M2 M3:=by rw[eM3];exact XZ F2.cons (Nat.le_refl _)
        have s03:Sub M M3:=Sub.trans s1 (Sub.trans s2 s3)
        have t3c:∀ (j:Nat) u,(#[.int .i64 hrel,.slice ha hargs.length hac,.slice ba body.length bac]:Array Value)[j]? = some u→isTup u=false:=fun j u h=>by
         match j,h with
         | 0,h | 1,h | 2,h=>cases h;rfl
        have C3:Cons M3 w9:=by rw[eM3,ew9];exact qab (F2.cons.alloc _) (heap_alloc_new _ _) t3c
        have F3a:FS M2 w8 w6.heap.size outp ⟨0,[]⟩ acc2 [] M3 w9:=F2.grow (by omega) (by rw[ew9];exact (Below.refl _ _).alloc (Nat.le_refl _) _) s3 (fun b o hb=>by rw[eM3,Uj (by omega)]) C3
        have F3:FS M3 w8 w6.heap.size outp ⟨hrel,hargs⟩ acc2 [] M3 w9:=by
         have h1:=F3a.pack (M':=M3) (h2:=⟨hrel,hargs⟩) (Sub.refl _)
         simpa[headsP] using h1
        have g12:∀ j:Nat,M3 wr.heap.size j=(#[.int .i64 hrel,.slice ha hargs.length hac,.slice ba body.length bac]:Array Value)[j]?:=fun j=>by rw[eM3,VA]
        have cbk:=FS.cb (M0:=M3) (wR:=w8) (br:=wr.heap.size) (bo:=w.heap.size+1) (bfr:=w6.heap.size) (out:=outp) (rel:=hrel) (args:=hargs) (L0:=acc2) (by omega) (g12 0) (g12 1) (rhv.mono s03) (mo:=some w.heap.size) (s3 _ _ _ (s2 _ _ _ m1)) (RS.mono (Sub.trans s2 s3));have hpl:acc2.length=acc.length:=hpa.length_eq
        have hcall:=Try.inst116 (okD ⟨hrel,hargs⟩ acc2) 117 _ M3 _ cbk body outp no hrel (.slice ha hargs.length hac) (.slice ba body.length bac) w.heap.size mo [] M3 w9 F3 ⟨rfl,rfl⟩ (rbv.mono s03) (RS.mono (Sub.trans s2 s3)) (rn.mono s03) (fun p hp=>by
         have h1:=jW p hp;unfold wfF at h1;rw[Bool.and_eq_true,Bool.and_eq_true]at h1
         exact h1.1.1) hlo (of_decide_eq_true hcb) (fun bl hbl=>by
         obtain⟨o2,ho2,hp2⟩:=DL (bl:=byRelL outc) (bl':=bl) (fun rel=>by
          rw[NE]
          exact (((hpo.map Prod.fst).symm).filter _).trans (hbl rel).symm) body _ _ hdd
         refine⟨o2,ho2,?_,fun v hv=>HO hcd.2 v (hp2.mem_iff.2 (by simpa using hv))⟩;have h1:=hp2.length_eq;have h2:=hcd.1;rw[List.nil_append]
         omega)
        have HW9:=(show Hid (w9=_) from ew9);have HC:=(show Hid _ from hcall);clear ew9 eM3 hcall cbk F3 F3a g12 C3
        go_wp2_with fail
        rw[← HW9.out];refine Calls.mono HC.out ?_
        rintro e wt ⟨rfl,bl,o2,hbl,ho2,F4⟩
        go_wp2
        go_roundw
        case rel =>
         obtain⟨o3,ho3,hp3⟩:=DL (bl:=byRelL outc) (bl':=bl) (fun rel=>by
          rw[NE]
          exact (((hpo.map Prod.fst).symm).filter _).trans (hbl rel).symm) body _ _ hdd
         rw[ho2]at ho3;cases ho3;have F5:=F4.pack (M':=M3) (h2:=⟨0,[]⟩) (Sub.refl _);rw[List.nil_append]at F5;refine⟨k+1,hk1,by go_num,M3,_,_,Sub.trans s2 s3,F5,hfk,?_,fun f hf=>?_⟩
         ·rw[← qce HN.out hpo];exact hpa.append (qbf hp3.symm)
         ·rcases List.mem_append.1 hf with h1 | h1
          ·exact hwa f h1
          ·refine qeR (d:=o2) ?_ f h1;unfold headOk;rw[List.all_eq_true];intro v hv;exact List.all_eq_true.1 hcd.2 v (hp3.mem_iff.2 hv)
        case measure=>simp[RowKit.intOf];omega
       ·have hkl:k=l.length:=by omega
        subst hkl;rw[List.drop_length]at hfk;have hfk:=Option.some.inj hfk;subst hfk;obtain⟨y1,y2,y3,y4,y5,y6,y7,y8,vc,y9,y10,y11⟩:=F2
        have hnil:acc2++headsP outp ⟨0,[]⟩ []=acc2:=by simp[headsP]
        rw[hnil]at y10;obtain⟨M4,eM4⟩:∃ M4,M4=mtail M (w.heap.size+1) wr:=⟨_,rfl⟩
        have hb5:∀ k,k<w.heap.size→wr.heap[k]? = w.heap[k]?:=fun k hk=>by rw[y7 k (by omega) (by omega)];exact HB8.out.block k hk
        have C4:Cons M4 wr:=fun b o u hu=>by
         rw[eM4]at hu;unfold mtail at hu
         split at hu
         ·have h1:=hC _ _ _ hu;rw[Qp (hb5 b (ZL h1))];exact h1
         ·exact hu
        have m4:∀ o,M4 w.heap.size o=none:=fun o=>by
         rw[eM4,Zi (by omega)]
         cases hm:M w.heap.size o with
         | none=>rfl
         | some u=>have:=ZL (hC _ _ _ hm);omega
        have rv:R M4 (lF acc2) vc:=by rw[eM4];exact qgU y10 (by omega)
        obtain⟨va,vcap,rfl,hvc⟩:=Dc rv
        have cm:∀ wx:World,wx.heap[w.heap.size+1]? = wr.heap[w.heap.size+1]?→wx.cell? ⟨w.heap.size+1,0,none⟩=some (.map (some w.heap.size)):=fun wx hx=>by
         refine cell_of_one (t:=105) ?_;rw[hx,y7 _ (by omega) (by omega),b8 _ (by omega)];exact c1
        have k10:wr.cell? ⟨w6.heap.size,0,none⟩=some (.slice va acc2.length vcap):=cell_of_one y9
        have S5:SetAt wr w.heap.size (addF outp (acc2.take 0)):=by
         have h0:addF outp (acc2.take 0)=outp:=by simp[addF]
         rw[h0];refine MapAt.of HS.out ?_;rw[y7 _ (by omega) (by omega),b8 _ (by omega)]
        have hal2:acc2.length≤900000000:=by rw[hpa.length_eq];exact HU _ _ _ _ _ hfr (by simp)
        clear eM4 y2 y8 y11 rv hnil;obtain⟨w5,rfl⟩:∃ w5,w5=wr:=⟨_,rfl⟩
        go_wp2
        go_loopw [39] (fun i wx=>∃ k:Nat,k≤acc2.length∧i=.int .i64 k∧SetAt wx w.heap.size (addF outp (acc2.take k))∧wx.os=w5.os∧wx.tape=w5.tape∧wx.output=w5.output∧w5.heap.size≤wx.heap.size∧∀ j,j<w5.heap.size→j≠w.heap.size→wx.heap[j]? = w5.heap[j]?)
         (fun i _=>acc2.length - (RowKit.intOf i).toNat)
        case atStart=>exact⟨0,Nat.zero_le _,rfl,S5,rfl,rfl,rfl,Nat.le_refl _,fun _ _ _=>rfl⟩
        case round =>
         obtain⟨k,hk,rfl,hS,g1,g2,g3,g4,g5⟩:=hrel
         have C6:Cons M4 wr:=C4.of_blocks fun b o u hu hb=>g5 b hb fun e=>by rw[e,m4]at hu;cases hu
         rcases Nat.lt_or_ge k acc2.length with hk1 | hk1
         ·obtain⟨fb,fo,rfl,q0,q1,q2⟩:=hvc k _ (List.getElem?_eq_getElem hk1);have i0:(0:Int)≤(k:Int):=Int.natCast_nonneg _
          have i1:(k:Int)<(acc2.length:Int):=by omega
          have f0:=jh C6 q0 rfl;have f1:=jh C6 q1 rfl;have f2:=jh C6 q2 rfl
          have htk:addF outp (acc2.take (k+1))=mset qp acc2[k] true (addF outp (acc2.take k)):=by
           show List.foldl _ outp (acc2.take (k+1))=_;rw[List.take_add_one,List.getElem?_eq_getElem hk1,Option.toList_some,List.foldl_append];rfl
          have hwk:=(hwa _ (List.getElem_mem hk1)).1;have hlk:=Dp (acc2.take k) outp;rw[List.length_take]at hlk;generalize acc2[k]=x at q0 q1 q2 f0 f1 f2 htk hwk;obtain⟨w4,ew4⟩:∃ w4,w4=wr.alloc (.cells #[.int .i64 x.ql,.int .i64 x.f_a,.int .i64 x.f_b] 127):=⟨_,rfl⟩
          have z4:w4.heap.size=wr.heap.size+1:=by rw[ew4];simp
          have b4:∀ k,k<wr.heap.size→w4.heap[k]? = wr.heap[k]?:=fun k hk=>by rw[ew4];exact heap_alloc_old _ _ hk
          have n9:w4.heap[wr.heap.size]? = some (.cells #[.int .i64 x.ql,.int .i64 x.f_a,.int .i64 x.f_b] 127 (0,0)):=by rw[ew4];exact heap_alloc_new _ _
          have k1:=cm w4 ((b4 _ (by omega)).trans (g5 _ (by omega) (by omega)))
          have k2:w4.cell? ⟨wr.heap.size,0,none⟩=some (.int .i64 x.ql):=by simp[World.cell?,n9]
          have k3:w4.cell? ⟨wr.heap.size,1,none⟩=some (.int .i64 x.f_a):=by simp[World.cell?,n9]
          have k4:w4.cell? ⟨wr.heap.size,2,none⟩=some (.int .i64 x.f_b):=by simp[World.cell?,n9]
          have S4:SetAt w4 w.heap.size (addF outp (acc2.take k)):=hS.of (b4 _ (by omega));obtain⟨o',hup,S6⟩:=S4.put hwk (by omega)
          have g0:w4.os=w5.os∧w4.tape=w5.tape∧w4.output=w5.output:=by rw[ew4];exact⟨g1,g2,g3⟩
          have HG:=(show Hid _ from g0);have HT:=(show Hid _ from htk);have HS6:=(show Hid _ from S6);have HW:=(show Hid (w4=_) from ew4);rw[ew4]at k1 k2 k3 k4 hup;clear ew4 S4 S6 n9 g0 hS htk
          go_wp2
          rw[← HW.out]
          go_roundw
          case rel =>
           refine⟨k+1,hk1,by go_num,by rw[HT.out];exact HS6.out,HG.out.1,HG.out.2.1,HG.out.2.2,by rw[setBlock_size];omega,fun j hj hne=>?_⟩;rw[setBlock_other hne,b4 j (by omega),g5 j hj hne]
          case measure=>simp[RowKit.intOf];omega
         ·have hkl:k=acc2.length:=by omega
          subst hkl;rw[List.take_length]at hS;have k11:wr.cell? ⟨w6.heap.size,0,none⟩=some (.slice va acc2.length vcap):=cell_of_one ((g5 _ (by omega) (by omega)).trans y9);have N2:NT outp:=HN.out
          have hJ2:∀ bb:Bool,(bb=true→∃ n outc,consR l no n outc=some r∧(addF outp acc2).Perm outc)→(bb=false→(addF outp acc2).Perm r)→I2 l no r w w7 bb wr:=fun bb h1 h2=>by
           refine⟨⟨?_,?_,?_,?_,fun k hk=>?_⟩,by omega,fun k hk hne=>?_,addF outp acc2,hS,N2.add.1,qbW N2 (P:=fun f=>wfF f=true) (fun f hf=>(hwa f hf).1) (fun p hp=>jW p hp),h1,h2⟩
           ·rw[g1,y3];exact HB8.out.os
           ·rw[g2,y4];exact HB8.out.tape
           ·rw[g3,y5];exact HB8.out.output
           ·omega
           ·rw[g5 k (by omega) (by omega)];exact hb5 k hk
           ·rw[g5 k (by omega) hne,y7 k (by omega) (by omega),b8 k (by omega)];exact Hjo.out k hk hne
          have HJ2:=(show Hid _ from hJ2);have hml:mapLen w.heap.size wr=(addF outp acc2).length:=hS.len;have hml0:mapLen w.heap.size w6=outp.length:=SetAt.len HS.out;clear hJ2 hS
          by_cases h0:acc2=[]
          ·subst h0
           go_wp2
           go_roundw
           case rel =>
            refine⟨false,rfl,HJ2.out false (fun h=>by cases h) fun _=>?_⟩
            have h1:acc=[]:=by have:=hpa.length_eq;exact List.eq_nil_of_length_eq_zero this.symm
            subst h1;have h2:outc=r:=Option.some.inj hcons;rw[← h2];exact hpo
           case measure =>
            simp only[boolOf];rw[hml0]
            simp
            omega
          ·have hpos:(0:Int)<(acc2.length:Int):=by have:=List.length_pos_iff.2 h0;omega
           go_wp2
           go_roundw
           case rel =>
            refine⟨true,by rw[decide_eq_true (List.length_pos_iff.2 h0)],HJ2.out true (fun _=>?_) (fun h=>by cases h)⟩
            have h1:acc.isEmpty=false:=by
             cases acc with
             | nil=>exact absurd (List.eq_nil_of_length_eq_zero hpa.length_eq) h0
             | cons a b=>rfl
            rw[h1]at hcons;have NC:NT outc:=N2.of_perm hpo;refine⟨n,_,hcons,NT.perm N2.add.1 NC.add.1 fun g=>?_⟩;rw[N2.add.2.1,NC.add.2.1,hpa.mem_iff,(hpo.map Prod.fst).mem_iff]
           case measure =>
            have hd:decide (0<acc2.length)=true:=decide_eq_true (List.length_pos_iff.2 h0);simp only[boolOf,hd,if_true];rw[hml0,hml];obtain⟨f,hf⟩:=List.exists_mem_of_ne_nil _ h0
            have h1:=N2.add.2.2.2 f hf (fun h=>by
             have h2:=(NT.mget N2.t f).2 h;rw[(hwa f hf).2]at h2
             cases h2)
            omega
  ·have hnx:∀ ty,(Instr.next (.pointer (some ⟨w.heap.size+1+1,0,none⟩)) false ty).run Try.prog wr=_:=fun _=>hrun
   have Cn:Cons M wn:=hCr.of_blocks fun b o u hu hb=>hgr.block b hb fun e=>by have:=ZL (hC _ _ _ hu);cases e;omega
   have hen:=hent wn rfl Cn;have hfm:f∈fs:=hp.mem_iff.1 (List.mem_append_right _ (List.mem_of_getElem? hj))
   have hwf1:wfF f=true:=by
    have h1:=hfs.mem_iff.2 hfm;obtain⟨p,hp,rfl⟩:=List.mem_map.1 h1;exact hwg p hp
   have hlen:done.length+rem.length≤100000:=by
    have h1:=hp.length_eq;have h2:=hfs.length_eq;rw[List.length_append]at h1;rw[List.length_map]at h2;omega
   have hjl:=(List.getElem?_eq_some_iff.1 hj).1;have hal:=Dp done [];rw[List.length_nil]at hal;obtain⟨w4,ew4⟩:∃ w4,w4=wn.alloc (.cells #[.int .i64 f.ql,.int .i64 f.f_a,.int .i64 f.f_b] 127):=⟨_,rfl⟩
   have z4:w4.heap.size=wr.heap.size+1:=by rw[ew4];simp[hszn]
   have b4:∀ k,k<wr.heap.size→k≠w.heap.size+1+1→w4.heap[k]? = wr.heap[k]?:=fun k hk hne=>by
    rw[ew4,heap_alloc_old _ _ (by omega)];exact hgr.block k hk (fun e=>hne (Option.some.inj e))
   have n9:w4.heap[wr.heap.size]? = some (.cells #[.int .i64 f.ql,.int .i64 f.f_a,.int .i64 f.f_b] 127 (0,0)):=by rw[ew4,← hszn];exact heap_alloc_new _ _
   have n1:w4.heap[w.heap.size+1]? = some (.cells #[.map (some w.heap.size)] 105 (0,0)):=by rw[b4 _ (by omega) (by omega),hold _ (by omega) (by omega) (by omega)];exact e1
   have k1:=cell_of_one n1
   have k2:w4.cell? ⟨wr.heap.size,0,none⟩=some (.int .i64 f.ql):=by simp[World.cell?,n9]
   have k3:w4.cell? ⟨wr.heap.size,1,none⟩=some (.int .i64 f.f_a):=by simp[World.cell?,n9]
   have k4:w4.cell? ⟨wr.heap.size,2,none⟩=some (.int .i64 f.f_b):=by simp[World.cell?,n9]
   have S4:SetAt w4 w.heap.size (addF [] done):=hS.of (b4 _ (by omega) (by omega));obtain⟨o',hup,S5⟩:=S4.put hwf1 (by omega)
   have g0:w4.os=w.os∧w4.tape=w.tape∧w4.output=w.output:=by rw[ew4];exact⟨hgr.os.trans hBr.os,hgr.tape.trans hBr.tape,hgr.output.trans hBr.output⟩
   have hi4:w4.heap[w.heap.size+1+1]? = wn.heap[w.heap.size+1+1]?:=by rw[ew4,heap_alloc_old _ _ (by omega)]
   have HS:=(show Hid _ from S5);have HG:=(show Hid _ from g0);have HW:=(show Hid (w4=_) from ew4);rw[ew4]at k1 k2 k3 k4 hup;clear ew4 S4 S5 n9 n1 g0 hS
   go_wp2
   rw[← HW.out]
   go_roundw
   case rel =>
    have hall:∀ k,k<wr.heap.size→k≠w.heap.size→k≠w.heap.size+1+1→(setBlock w4 w.heap.size o').heap[k]? = wr.heap[k]?:=fun k hk h1 h2=>by rw[setBlock_other h1,b4 k hk h2]
    refine⟨⟨HG.out.1,HG.out.2.1,HG.out.2.2,by rw[setBlock_size];omega,fun k hk=>?_⟩,by rw[setBlock_size];omega,fun k hk h1 h2=>?_,done++[f],rem.eraseIdx j,?_,hIn.of ?_,?_⟩
    ·rw[hall k (by omega) (by omega) (by omega)];exact hBr.block k hk
    ·rw[hall k (by omega) h1 h2];exact hold k hk h1 h2
    ·refine List.Perm.trans ?_ hp;rw[List.append_assoc];refine List.Perm.append_left _ ?_;have h1:=qcm rem j hjl;rw[(List.getElem?_eq_some_iff.1 hj).2]at h1;exact h1.symm
    ·rw[setBlock_other (by omega)];exact hi4
    ·have:addF [] (done++[f])=mset qp f true (addF [] done):=by simp[addF]
     rw[this];exact HS.out
   case measure =>
    have h1:=(hIn.of (w':=setBlock w4 w.heap.size o') (by rw[setBlock_other (by omega)];exact hi4)).left;rw[h1,hI.left,List.length_eraseIdx,if_pos hjl];omega
theorem Try.cons74 {fuel:Nat} {l:List ruRule} {gv no r:List (rufact×Bool)} (h:consP fuel l gv no=some r):CallOk Try.prog 74 [l54 none l,mpE qh AV.bool gv,mpE qh AV.bool no] (mpE qh AV.bool r):=by
 intro M w vs hG hC hl hR
 obtain⟨lv,gvv,nov,rfl⟩:∃ a b c,vs=[a,b,c]:=by
  match vs,hl with
  | [a,b,c],_=>exact⟨a,b,c,rfl⟩
 refine Calls.mono (Try.cons74o h hC (hR 0 _ lv rfl rfl) (hR 1 _ gvv rfl rfl) (hR 2 _ nov rfl rfl)) ?_
 rintro e w' ⟨rfl,hB,outp,hS,_,hp,_⟩
 exact⟨_,mtail M w.heap.size w',rfl,hB,Nq hC hB (Nat.le_refl _),Uh hC hB,fun b o hb=>Zi hb,qfx hp (SetAt.freeze hS (Nat.le_refl _)),trivial⟩
end Go.Proofs
