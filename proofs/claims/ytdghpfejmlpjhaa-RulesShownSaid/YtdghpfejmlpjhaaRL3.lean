import Derived.Test.YtdghpfejmlpjhaaRCon2
import Derived.Ground.SlsfProg
import Derived.Shelf.SlSortCmp.NoneTotal
import Derived.Test.YtdghpfejmlpjhaaProg
set_option linter.all false
set_option maxRecDepth 1000000
open Nat renaming le_refl→A0, lt_or_ge→C7, zero_le→D6, eq_of_beq_eq_true→G7, mod_two_eq_zero_or_one→G8
open List renaming getElem_cons_succ→A1, getElem_toArray→A4, getElem_cons_zero→A5, setIfInBounds_toArray→A6, set_cons_zero→A7, set_cons_succ→A8, length_map→C0, getElem?_eq_getElem→D0, drop_eq_getElem_cons→D1, append_assoc→D2, range→D8, mem_cons_self→E0, mem_append_left→E7, replicate→E8, length_append→E9, nil_append→F7, finRange→F8, take_of_length_le→F9, take_succ_cons→G0, map_cons→G1, eraseIdx_cons_succ→G2, eq_nil_of_length_eq_zero→G3, length_eraseIdx→G4, drop_eq_nil_of_le→G5, length_mergeSort→G6, getD_eq_getElem?_getD→H0, mem_cons_of_mem→H4
open Go.World renaming cell?→A2
open Bool renaming and_eq_true→A3, not_eq_true'→D4
open Option renaming bind_some→A9
open Prod renaming fst→B1
open Array renaming getElem?_eq_getElem→D3, getElem?_modify→G9
open Int renaming toNat→D5, natCast_nonneg→F6
open Go.IntKind renaming i64→D7, wrap→D9
namespace Go.Proofs
open Go.RowKit Go.AM
open Go.ChangeMaps (setBlock)
variable {w:World} {l:LH} {gv no:LB}
def mapLen (g:Nat) (w:World):Nat:=match w.heap[g]? with
 | some (.map es _)=>es.size
 | _=>0
theorem SetAt.len {g:Nat} {out:LB} (h:SetAt w g out):mapLen g w=out.length:=by
 obtain⟨es,clock,hb,_,_,h3,_⟩:=h;unfold mapLen;rw[hb]
 simpa using h3.symm
theorem qaS {α:Type}:∀ (l:List α) (j:Nat) (h:j<l.length),l.Perm (l[j]::l.eraseIdx j)
 | [],j,h=>by simp at h
 | a::l,0,h=>by simp
 | a::l,j+1,h=>by
  simp only[A1,G2];exact ((qaS l j (by simpa using h)).cons a).trans (List.Perm.swap _ _ _)
def boolOf:Value->Bool
 | .bool b=>b
 | _=>false
structure I2 (l:LH) (no r:LB) (w w3:World) (b:Bool) (wr:World):Prop where
 below:Below w.heap.size w wr
 size:w3.heap.size<=wr.heap.size
 old:∀ k,k<w3.heap.size->k≠w.heap.size->wr.heap[k]? = w3.heap[k]?
 set:∃ outp,SetAt wr w.heap.size outp/\NT outp/\(∀ p,p∈outp->wfF p.1=true)/\(b=true->∃ n outc,consR l no n outc=some r/\outp.Perm outc)/\(b=false->outp.Perm r)
theorem qde (no out:LB):∀ (l:LH) (acc fr:LI),freshL no out l acc=some fr->acc.length<=900000000->fr.length<=900000000
 | [],acc,fr,h,ha=>by cases h;exact ha
 | r::rs,acc,fr,h,ha=>by
  obtain⟨_,h⟩:=qm (show chk (decide (r.qe.length<=1000)) ((tryP r.qe no (byRelL out) r.qe (E8 8 0)).bind fun d=>chk (decide (acc.length+d.length<=900000000) && headOk r.qi d) (freshL no out rs (acc++headsP out r.qi d)))=some fr from h);obtain⟨d,_,h⟩:=qb h;obtain⟨hc,h⟩:=qm h;rw[A3,decide_eq_true_eq]at hc;refine qde no out rs _ _ h ?_;rw[E9];have:=qae out r.qi d;omega
def qlE (w:World) (r:LB) (e:Ending) (w':World):Prop:=e=.returned (.map (some w.heap.size))/\Below w.heap.size w w'/\∃ outp,SetAt w' w.heap.size outp/\NT outp/\outp.Perm r/\∀ p,p∈outp->wfF p.1=true
set_option maxHeartbeats 8000000 in
theorem Try.cons74o {fuel:Nat} {r:LB} (h:consP fuel l gv no=some r) {M:Mem} (hC:Cons M w) {lv gvv nov:Value} (rl:R M (l54 none l) lv) (rg:R M (mpE qh AV.bool gv) gvv) (rn:R M (mpE qh AV.bool no) nov):Calls Try.prog 74 #[lv,gvv,nov] w (qlE w r):=by
 unfold consP at h;obtain⟨hck,h⟩:=qm h;rw[A3,decide_eq_true_eq,List.all_eq_true]at hck;obtain⟨hwg,hll,hgl⟩:=hck;obtain⟨la,lc,rfl,hrules⟩:=DT rl;obtain⟨mo,rfl⟩:=Zc rn;obtain⟨es,fs,hfs,hrange⟩:=qen rg;have mixed:=mixedP;have⟨t3,a3,z3,v3,u3⟩:=Tf3;have⟨t4,a4,z4,v4,u4⟩:=Tf4;have⟨t27,a27,z27,v27,u27⟩:=Tf27;have⟨t39,a39,z39,v39,u39⟩:=Tf39;have⟨t50,a50,z50,v50,u50⟩:=Tf50;have⟨t52,a52,z52,v52,u52⟩:=Tf52;have⟨t54,a54,z54,v54,u54⟩:=Tf54;have⟨t105,a105,z105,v105,u105⟩:=Tf105;have⟨t127,a127,z127,v127,u127⟩:=Tf127;have⟨t150,a150,z150,v150,u150⟩:=Tf150;have⟨t178,a178,z178,v178,u178⟩:=Tf178;have⟨t180,a180,z180,v180,u180⟩:=Tf180;have hmm:=@run_makeMap Try.prog
 have hmf:∀ (fn:Fn) (first cap:LO) (w:World),(Instr.makeFunc fn first cap).run Try.prog w=.ok (.func fn first cap) w:=fun _ _ _ _=>rfl
 obtain⟨w2,ew2⟩:∃ w2,w2=(w.alloc (.map #[] 0)).alloc (.cells #[.map (some w.heap.size)] 105):=⟨_,rfl⟩
 have z2:w2.heap.size=w.heap.size+1+1:=by rw[ew2];simp
 have B2:Below w.heap.size w w2:=by rw[ew2];exact ((Below.refl _ _).alloc (A0 _) _).alloc (by simp) _
 have e0:w2.heap[w.heap.size]? = some (.map #[] 0):=by rw[ew2,heap_alloc_old _ _ (by simp)];exact heap_alloc_new _ _
 have e1:w2.heap[w.heap.size+1]? = some (.cells #[.map (some w.heap.size)] 105 (0,0)):=by
  rw[ew2];have:=heap_alloc_new (w.alloc (.map #[] 0)) (.cells #[.map (some w.heap.size)] 105)
  simpa using this
 obtain⟨ob,hrg,hI0⟩:=hrange w2 (hC.below B2);obtain⟨w3,ew3⟩:∃ w3,w3=w2.alloc ob:=⟨_,rfl⟩
 have z3:w3.heap.size=w.heap.size+1+1+1:=by rw[ew3];simp[z2]
 have B3:Below w.heap.size w w3:=by rw[ew3];exact B2.alloc oM _
 have e0:w3.heap[w.heap.size]? = some (.map #[] 0):=by rw[ew3,heap_alloc_old _ _ (by omega)];exact e0
 have e1:w3.heap[w.heap.size+1]? = some (.cells #[.map (some w.heap.size)] 105 (0,0)):=by rw[ew3,heap_alloc_old _ _ (by omega)];exact e1
 rw[<- ew3,z2]at hI0;rw[<- ew3,z2,ew2]at hrg;clear ew2 ew3 B2 hrange;have S0:SetAt w3 w.heap.size []:=.empty e0
 go_enter Try.func74,Try.ntmps74
 go_wp2
 go_loopw [] (fun wr=>Below w.heap.size w wr/\w3.heap.size<=wr.heap.size/\(∀ k,k<w3.heap.size->k≠w.heap.size->k≠w.heap.size+1+1->wr.heap[k]? = w3.heap[k]?)/\∃ done rem,(done++rem).Perm fs/\IterG M es wr (w.heap.size+1+1) rem/\SetAt wr w.heap.size (addF [] done))
  (fun wr=>itLeft es (w.heap.size+1+1) wr)
 case atStart=>exact⟨B3,A0 _,fun _ _ _ _=>rfl,[],fs,List.Perm.refl _,hI0,S0⟩
 case round =>
  obtain⟨hBr,hsz,hold,done,rem,hp,hI,hS⟩:=hrel;have hCr:=hC.below hBr
  rcases hI.next hCr 0 with ⟨rfl,hrun⟩ | ⟨j,f,v,wn,hj,hrun,hgr,hszn,hIn,hent⟩
  .have hnx:∀ ty,(Instr.next (.pointer (some ⟨w.heap.size+1+1,0,none⟩)) false ty).run Try.prog wr=_:=fun _=>hrun
   have hpf:done.Perm fs:=by simpa using hp
   have N0:NT (addF [] done):=NT.empty.add.1
   have P0:(addF [] done).Perm (addF [] (gv.map B1)):=NT.perm N0 NT.empty.add.1 fun g=>by
    rw[NT.empty.add.2.1,NT.empty.add.2.1,hpf.mem_iff,<- hfs.mem_iff]
   have W0:∀ p,p∈addF [] done->wfF p.1=true:=qcS NT.empty (P:=fun f=>wfF f=true) (fun f hf=>by
    have h1:=hfs.mem_iff.2 (hpf.mem_iff.1 hf);obtain⟨p,hp,rfl⟩:=List.mem_map.1 h1
    exact hwg p hp) (fun p hp=>by simp at hp)
   have J0:I2 l no r w wr true wr:=⟨hBr,A0 _,fun _ _ _=>rfl,addF [] done,hS,N0,W0,fun _=>⟨fuel,_,h,P0⟩,fun h=>by cases h⟩;have b1:wr.heap[w.heap.size+1]? = some (.cells #[.map (some w.heap.size)] 105 (0,0)):=(hold _ oM oM oM).trans e1
   have z1:w.heap.size+1<wr.heap.size:=by omega
   clear e0 e1 hI0 hfs S0 hI hrun hS hold h P0 N0 W0 hwg hp hpf hgl B3 hrg
   go_wp2
   clear hnx;obtain⟨w7,rfl⟩:∃ w7,w7=wr:=⟨_,rfl⟩
   go_loopw [9] (fun b wx=>∃ bb:Bool,b=.bool bb/\I2 l no r w w7 bb wx) (fun b wx=>if boolOf b then 200000 - mapLen w.heap.size wx else 0)
   case atStart=>exact⟨true,rfl,J0⟩
   case round =>
    obtain⟨bb,rfl,hJ⟩:=hrel;obtain⟨jb,jz,jo,outp,jS,jN,jW,jt,jf⟩:=hJ;have c1:wr.heap[w.heap.size+1]? = some (.cells #[.map (some w.heap.size)] 105 (0,0)):=(jo _ z1 oM).trans b1
    cases bb with
    | false =>
     have k1:=cell_of_one c1
     go_wp2
     go_ret
     exact⟨rfl,jb,outp,jS,jN,(by first | exact jf rfl | exact jf trivial),jW⟩
    | true =>
     obtain⟨n,outc,hcons,hpo⟩:=jt rfl
     cases n with
     | zero=>cases hcons
     | succ n =>
      obtain⟨hc1,hcons⟩:=qm (show chk (decide (outc.length<=100000)) ((freshL no outc l []).bind fun fr=>bif fr.isEmpty then some outc else consR l no n (addF outc fr))=some r from hcons);obtain⟨fr,hfr,hcons⟩:=qb hcons
      have hlo:outp.length<=100000:=by rw[hpo.length_eq];exact of_decide_eq_true hc1
      obtain⟨w8,ew8⟩:∃ w8,w8=wr.alloc (.cells #[.slice none 0 0] 150):=⟨_,rfl⟩
      have z8:w8.heap.size=wr.heap.size+1:=by rw[ew8];simp
      have B8:Below w.heap.size w w8:=by rw[ew8];exact jb.alloc oM _
      have b8:∀ k,k<wr.heap.size->w8.heap[k]? = wr.heap[k]?:=fun k hk=>by rw[ew8];exact heap_alloc_old _ _ hk
      have n8:w8.heap[wr.heap.size]? = some (.cells #[.slice none 0 0] 150 (0,0)):=by rw[ew8];exact heap_alloc_new _ _
      obtain⟨M1,eM1⟩:∃ M1,M1=mtail M w.heap.size wr:=⟨_,rfl⟩
      have C1:Cons M1 w8:=by rw[eM1,ew8];exact (Zl hC jb).alloc _
      have s1:Sub M M1:=by rw[eM1];exact UL hC jb (A0 _)
      have RS:R M1 (mpE qh AV.bool outp) (.map (some w.heap.size)):=by rw[eM1];exact SetAt.freeze jS (A0 _)
      have m1:M1 (w.heap.size+1) 0=some (.map (some w.heap.size)):=by rw[eM1,JJ (by omega)];exact DI c1 rfl rfl
      have mo1:∀ b o,b<w.heap.size->M1 b o=M b o:=fun b o hb=>by rw[eM1,QY hb]
      have mn1:∀ o,M1 wr.heap.size o=none:=fun o=>by
       rw[eM1,JJ (by omega)]
       cases hm:mc wr wr.heap.size o with
       | none=>rfl
       | some u=>have:=NJ hm;omega
      have F0:FS M1 w8 wr.heap.size outp ⟨0,[]⟩ [] [] M1 w8:=⟨C1,Sub.refl _,rfl,rfl,rfl,A0 _,fun _ _ _=>rfl,mn1,_,n8,by simpa[headsP,factsC] using World.ownsRow_nil w8 w8.heap.size 127 3,fun g hg=>by cases hg⟩;have HW8:=(show Hid (w8=_) from ew8);have HS:=(show Hid _ from jS);have HN:=(show Hid _ from jN);have Hjo:=(show Hid _ from jo);have HB8:=(show Hid _ from B8);have Hm1:=(show Hid _ from mo1);have Hn1:=(show Hid _ from mn1);clear ew8 eM1 jt jf hc1 n8 jS jo mo1 mn1 jb;obtain⟨w6,rfl⟩:∃ w6,w6=wr:=⟨_,rfl⟩
      go_wp2
      rw[<- HW8.out]
      go_loopw [27] (fun i wx=>∃ k:Nat,k<=l.length/\i=.int .i64 k/\∃ M' acc' acc,Sub M1 M'/\FS M' w8 w6.heap.size outp ⟨0,[]⟩ acc' [] M' wx/\freshL no outc (l.drop k) acc=some fr/\acc'.Perm acc/\∀ f,f∈acc'->wfF f=true/\mget qf false f outp=false)
       (fun i _=>l.length - (RowKit.intOf i).toNat)
      case atStart=>exact⟨0,D6 _,rfl,M1,[],[],Sub.refl _,F0,hfr,List.Perm.refl _,fun f hf=>by simp at hf⟩
      case round =>
       obtain⟨k,hk,rfl,M2,acc2,acc,s2,F2,hfk,hpa,hwa⟩:=hrel
       rcases C7 k l.length with hk1 | hk1
       .obtain⟨b,off,hv,bv,rfl,q0,q1,q2,rhv,rbv⟩:=hrules k _ (D0 hk1);rw[D1 hk1]at hfk;have i0:(0:Int)<=(k:Int):=F6 _
        have i1:(k:Int)<(l.length:Int):=by omega
        obtain⟨ha,hac,rfl⟩:=JF rhv;obtain⟨ba,bac,rfl⟩:=JF rbv;have f0:=qG F2.cons (s2 _ _ _ (s1 _ _ _ q0)) rfl;have f1:=qG F2.cons (s2 _ _ _ (s1 _ _ _ q1)) rfl;have f2:=qG F2.cons (s2 _ _ _ (s1 _ _ _ q2)) rfl;generalize l[k]=x at hfk q0 q1 q2 rhv rbv f0 f1 f2;obtain⟨⟨hrel,hargs⟩,body⟩:=x;simp only[C0]at q1 q2 rhv rbv f1 f2
        have c4:∀ o,(wr.alloc o).cell? ⟨w.heap.size+1,0,none⟩=some (.map (some w.heap.size)):=fun o=>qG (F2.cons.alloc o) (s2 _ _ _ m1) rfl
        obtain⟨hcb,hfk⟩:=qm (show chk (decide (body.length<=1000)) ((tryP body no (byRelL outc) body (E8 8 0)).bind fun d=>chk (decide (acc.length+d.length<=900000000) && headOk ⟨hrel,hargs⟩ d) (freshL no outc (l.drop (k+1)) (acc++headsP outc ⟨hrel,hargs⟩ d)))=some fr from hfk);obtain⟨dd,hdd,hfk⟩:=qb hfk;obtain⟨hcd,hfk⟩:=qm hfk;rw[A3,decide_eq_true_eq]at hcd;obtain⟨w9,ew9⟩:∃ w9,w9=wr.alloc (.cells #[.int .i64 hrel,.slice ha hargs.length hac,.slice ba body.length bac] 54):=⟨_,rfl⟩;obtain⟨M3,eM3⟩:∃ M3,M3=mbox M2 wr.heap.size #[.int .i64 hrel,.slice ha hargs.length hac,.slice ba body.length bac]:=⟨_,rfl⟩
        have s3:Sub M2 M3:=by rw[eM3];exact Ys F2.cons (A0 _)
        have s03:Sub M M3:=Sub.trans s1 (Sub.trans s2 s3)
        have t3c:∀ (j:Nat) u,(#[.int .i64 hrel,.slice ha hargs.length hac,.slice ba body.length bac]:LO)[j]? = some u->isTup u=false:=fun j u h=>by
         match j,h with
         | 0,h | 1,h | 2,h=>cases h;rfl
        have C3:Cons M3 w9:=by rw[eM3,ew9];exact Di (F2.cons.alloc _) (heap_alloc_new _ _) t3c
        have F3a:FS M2 w8 w6.heap.size outp ⟨0,[]⟩ acc2 [] M3 w9:=F2.grow oM (by rw[ew9];exact (Below.refl _ _).alloc (A0 _) _) s3 (fun b o hb=>by rw[eM3,Zn (by omega)]) C3
        have F3:FS M3 w8 w6.heap.size outp ⟨hrel,hargs⟩ acc2 [] M3 w9:=by
         have h1:=F3a.pack (M':=M3) (h2:=⟨hrel,hargs⟩) (Sub.refl _)
         simpa[headsP] using h1
        have g12:∀ j:Nat,M3 wr.heap.size j=(#[.int .i64 hrel,.slice ha hargs.length hac,.slice ba body.length bac]:LO)[j]?:=fun j=>by rw[eM3,Ui]
        have cbk:=FS.cb (M0:=M3) (wR:=w8) (br:=wr.heap.size) (bo:=w.heap.size+1) (bfr:=w6.heap.size) (out:=outp) (rel:=hrel) (args:=hargs) (L0:=acc2) oM (g12 0) (g12 1) (rhv.mono s03) (mo:=some w.heap.size) (s3 _ _ _ (s2 _ _ _ m1)) (RS.mono (Sub.trans s2 s3));have hpl:acc2.length=acc.length:=hpa.length_eq
        have hcall:=Try.inst116 (okD ⟨hrel,hargs⟩ acc2) 117 _ M3 _ cbk body outp no hrel (.slice ha hargs.length hac) (.slice ba body.length bac) w.heap.size mo [] M3 w9 F3 ⟨rfl,rfl⟩ (rbv.mono s03) (RS.mono (Sub.trans s2 s3)) (rn.mono s03) (fun p hp=>by
         have h1:=jW p hp;unfold wfF at h1;rw[A3,A3]at h1
         exact h1.1.1) hlo (of_decide_eq_true hcb) (fun bl hbl=>by
         obtain⟨o2,ho2,hp2⟩:=UB (bl:=byRelL outc) (bl':=bl) (fun rel=>by
          rw[ZC]
          exact (((hpo.map B1).symm).filter _).trans (hbl rel).symm) body _ _ hdd
         refine⟨o2,ho2,?_,fun v hv=>qcY hcd.2 v (hp2.mem_iff.2 (by simpa using hv))⟩;have h1:=hp2.length_eq;have h2:=hcd.1;rw[F7]
         omega)
        have HW9:=(show Hid (w9=_) from ew9);have HC:=(show Hid _ from hcall);clear ew9 eM3 hcall cbk F3 F3a g12 C3
        go_wp2_with fail
        rw[<- HW9.out];refine Calls.mono HC.out ?_
        rintro e wt ⟨rfl,bl,o2,hbl,ho2,F4⟩
        go_wp2
        go_roundw
        case rel =>
         obtain⟨o3,ho3,hp3⟩:=UB (bl:=byRelL outc) (bl':=bl) (fun rel=>by
          rw[ZC]
          exact (((hpo.map B1).symm).filter _).trans (hbl rel).symm) body _ _ hdd
         rw[ho2]at ho3;cases ho3;have F5:=F4.pack (M':=M3) (h2:=⟨0,[]⟩) (Sub.refl _);rw[F7]at F5;refine⟨k+1,hk1,by go_num,M3,_,_,Sub.trans s2 s3,F5,hfk,?_,fun f hf=>?_⟩
         .rw[<- qgO HN.out hpo];exact hpa.append (qfB hp3.symm)
         rcases List.mem_append.1 hf with h1 | h1
         .exact hwa f h1
         refine qjW (d:=o2) ?_ f h1;unfold headOk;rw[List.all_eq_true];intro v hv;exact List.all_eq_true.1 hcd.2 v (hp3.mem_iff.2 hv)
        case measure=>simp[RowKit.intOf];omega
       have hkl:k=l.length:=by omega
       subst hkl;rw[List.drop_length]at hfk;have hfk:=Option.some.inj hfk;subst hfk;obtain⟨y1,y2,y3,y4,y5,y6,y7,y8,vc,y9,y10,y11⟩:=F2
       have hnil:acc2++headsP outp ⟨0,[]⟩ []=acc2:=by simp[headsP]
       rw[hnil]at y10;obtain⟨M4,eM4⟩:∃ M4,M4=mtail M (w.heap.size+1) wr:=⟨_,rfl⟩
       have hb5:∀ k,k<w.heap.size->wr.heap[k]? = w.heap[k]?:=fun k hk=>by rw[y7 k (by omega) (by omega)];exact HB8.out.block k hk
       have C4:Cons M4 wr:=fun b o u hu=>by
        rw[eM4]at hu;unfold mtail at hu;split at hu
        .have h1:=hC _ _ _ hu;rw[Qd (hb5 b (NJ h1))];exact h1
        exact hu
       have m4:∀ o,M4 w.heap.size o=none:=fun o=>by
        rw[eM4,QY (by omega)]
        cases hm:M w.heap.size o with
        | none=>rfl
        | some u=>have:=NJ (hC _ _ _ hm);omega
       have rv:R M4 (lF acc2) vc:=by rw[eM4];exact qkG y10 oM
       obtain⟨va,vcap,rfl,hvc⟩:=qdm rv
       have cm:∀ wx:World,wx.heap[w.heap.size+1]? = wr.heap[w.heap.size+1]?->wx.cell? ⟨w.heap.size+1,0,none⟩=some (.map (some w.heap.size)):=fun wx hx=>by
        refine cell_of_one (t:=105) ?_;rw[hx,y7 _ (by omega) (by omega),b8 _ (by omega)];exact c1
       have k10:wr.cell? ⟨w6.heap.size,0,none⟩=some (.slice va acc2.length vcap):=cell_of_one y9
       have S5:SetAt wr w.heap.size (addF outp (acc2.take 0)):=by
        have h0:addF outp (acc2.take 0)=outp:=by simp[addF]
        rw[h0];refine MapAt.of HS.out ?_;rw[y7 _ (by omega) (by omega),b8 _ (by omega)]
       have hal2:acc2.length<=900000000:=by rw[hpa.length_eq];exact qde _ _ _ _ _ hfr (by simp)
       clear eM4 y2 y8 y11 rv hnil;obtain⟨w5,rfl⟩:∃ w5,w5=wr:=⟨_,rfl⟩
       go_wp2
       go_loopw [39] (fun i wx=>∃ k:Nat,k<=acc2.length/\i=.int .i64 k/\SetAt wx w.heap.size (addF outp (acc2.take k))/\wx.os=w5.os/\wx.tape=w5.tape/\wx.output=w5.output/\w5.heap.size<=wx.heap.size/\∀ j,j<w5.heap.size->j≠w.heap.size->wx.heap[j]? = w5.heap[j]?)
        (fun i _=>acc2.length - (RowKit.intOf i).toNat)
       case atStart=>exact⟨0,D6 _,rfl,S5,rfl,rfl,rfl,A0 _,fun _ _ _=>rfl⟩
       case round =>
        obtain⟨k,hk,rfl,hS,g1,g2,g3,g4,g5⟩:=hrel
        have C6:Cons M4 wr:=C4.of_blocks fun b o u hu hb=>g5 b hb fun e=>by rw[e,m4]at hu;cases hu
        rcases C7 k acc2.length with hk1 | hk1
        .obtain⟨fb,fo,rfl,q0,q1,q2⟩:=hvc k _ (D0 hk1);have i0:(0:Int)<=(k:Int):=F6 _
         have i1:(k:Int)<(acc2.length:Int):=by omega
         have f0:=qG C6 q0 rfl;have f1:=qG C6 q1 rfl;have f2:=qG C6 q2 rfl
         have htk:addF outp (acc2.take (k+1))=mset qf acc2[k] true (addF outp (acc2.take k)):=by
          show List.foldl _ outp (acc2.take (k+1))=_;rw[List.take_add_one,D0 hk1,Option.toList_some,List.foldl_append];rfl
         have hwk:=(hwa _ (List.getElem_mem hk1)).1;have hlk:=HI (acc2.take k) outp;rw[List.length_take]at hlk;generalize acc2[k]=x at q0 q1 q2 f0 f1 f2 htk hwk;obtain⟨w4,ew4⟩:∃ w4,w4=wr.alloc (.cells #[.int .i64 x.qn,.int .i64 x.f_a,.int .i64 x.f_b] 127):=⟨_,rfl⟩
         have z4:w4.heap.size=wr.heap.size+1:=by rw[ew4];simp
         have b4:∀ k,k<wr.heap.size->w4.heap[k]? = wr.heap[k]?:=fun k hk=>by rw[ew4];exact heap_alloc_old _ _ hk
         have n9:w4.heap[wr.heap.size]? = some (.cells #[.int .i64 x.qn,.int .i64 x.f_a,.int .i64 x.f_b] 127 (0,0)):=by rw[ew4];exact heap_alloc_new _ _
         have k1:=cm w4 ((b4 _ oM).trans (g5 _ oM oM))
         have k2:w4.cell? ⟨wr.heap.size,0,none⟩=some (.int .i64 x.qn):=by simp[A2,n9]
         have k3:w4.cell? ⟨wr.heap.size,1,none⟩=some (.int .i64 x.f_a):=by simp[A2,n9]
         have k4:w4.cell? ⟨wr.heap.size,2,none⟩=some (.int .i64 x.f_b):=by simp[A2,n9]
         have S4:SetAt w4 w.heap.size (addF outp (acc2.take k)):=hS.of (b4 _ oM);obtain⟨o',hup,S6⟩:=S4.put hwk oM
         have g0:w4.os=w5.os/\w4.tape=w5.tape/\w4.output=w5.output:=by rw[ew4];exact⟨g1,g2,g3⟩
         have HG:=(show Hid _ from g0);have HT:=(show Hid _ from htk);have HS6:=(show Hid _ from S6);have HW:=(show Hid (w4=_) from ew4);rw[ew4]at k1 k2 k3 k4 hup;clear ew4 S4 S6 n9 g0 hS htk
         go_wp2
         rw[<- HW.out]
         go_roundw
         case rel =>
          refine⟨k+1,hk1,by go_num,by rw[HT.out];exact HS6.out,HG.out.1,HG.out.2.1,HG.out.2.2,by rw[setBlock_size];omega,fun j hj hne=>?_⟩;rw[setBlock_other hne,b4 j (by omega),g5 j hj hne]
         case measure=>simp[RowKit.intOf];omega
        have hkl:k=acc2.length:=by omega
        subst hkl;rw[List.take_length]at hS;have k11:wr.cell? ⟨w6.heap.size,0,none⟩=some (.slice va acc2.length vcap):=cell_of_one ((g5 _ oM oM).trans y9);have N2:NT outp:=HN.out
        have hJ2:∀ bb:Bool,(bb=true->∃ n outc,consR l no n outc=some r/\(addF outp acc2).Perm outc)->(bb=false->(addF outp acc2).Perm r)->I2 l no r w w7 bb wr:=fun bb h1 h2=>by
         refine⟨⟨?_,?_,?_,?_,fun k hk=>?_⟩,by omega,fun k hk hne=>?_,addF outp acc2,hS,N2.add.1,qcS N2 (P:=fun f=>wfF f=true) (fun f hf=>(hwa f hf).1) (fun p hp=>jW p hp),h1,h2⟩
         .rw[g1,y3];exact HB8.out.os
         .rw[g2,y4];exact HB8.out.tape
         .rw[g3,y5];exact HB8.out.output
         .omega
         .rw[g5 k (by omega) (by omega)];exact hb5 k hk
         rw[g5 k (by omega) hne,y7 k (by omega) (by omega),b8 k (by omega)];exact Hjo.out k hk hne
        have HJ2:=(show Hid _ from hJ2);have hml:mapLen w.heap.size wr=(addF outp acc2).length:=hS.len;have hml0:mapLen w.heap.size w6=outp.length:=SetAt.len HS.out;clear hJ2 hS;by_cases h0:acc2=[]
        .subst h0
         go_wp2
         go_roundw
         case rel =>
          refine⟨false,rfl,HJ2.out false (fun h=>by cases h) fun _=>?_⟩
          have h1:acc=[]:=by have:=hpa.length_eq;exact G3 this.symm
          subst h1;have h2:outc=r:=Option.some.inj hcons;rw[<- h2];exact hpo
         case measure =>
          simp only[boolOf];rw[hml0];simp;omega
        have hpos:(0:Int)<(acc2.length:Int):=by have:=List.length_pos_iff.2 h0;omega
        go_wp2
        go_roundw
        case rel =>
         refine⟨true,by rw[dT (List.length_pos_iff.2 h0)],HJ2.out true (fun _=>?_) (fun h=>by cases h)⟩
         have h1:acc.isEmpty=false:=by
          cases acc with
          | nil=>exact absurd (G3 hpa.length_eq) h0
          | cons a b=>rfl
         rw[h1]at hcons;have NC:NT outc:=N2.of_perm hpo;refine⟨n,_,hcons,NT.perm N2.add.1 NC.add.1 fun g=>?_⟩;rw[N2.add.2.1,NC.add.2.1,hpa.mem_iff,(hpo.map B1).mem_iff]
        case measure =>
         have hd:decide (0<acc2.length)=true:=dT (List.length_pos_iff.2 h0);simp only[boolOf,hd,if_true];rw[hml0,hml];obtain⟨f,hf⟩:=List.exists_mem_of_ne_nil _ h0
         have h1:=N2.add.2.2.2 f hf (fun h=>by
          have h2:=(NT.mget N2.t f).2 h;rw[(hwa f hf).2]at h2
          cases h2)
         omega
  have hnx:∀ ty,(Instr.next (.pointer (some ⟨w.heap.size+1+1,0,none⟩)) false ty).run Try.prog wr=_:=fun _=>hrun
  have Cn:Cons M wn:=hCr.of_blocks fun b o u hu hb=>hgr.block b hb fun e=>by have:=NJ (hC _ _ _ hu);cases e;omega
  have hen:=hent wn rfl Cn;have hfm:f∈fs:=hp.mem_iff.1 (List.mem_append_right _ (List.mem_of_getElem? hj))
  have hwf1:wfF f=true:=by
   have h1:=hfs.mem_iff.2 hfm;obtain⟨p,hp,rfl⟩:=List.mem_map.1 h1;exact hwg p hp
  have hlen:done.length+rem.length<=100000:=by
   have h1:=hp.length_eq;have h2:=hfs.length_eq;rw[E9]at h1;rw[C0]at h2;omega
  have hjl:=(List.getElem?_eq_some_iff.1 hj).1;have hal:=HI done [];rw[List.length_nil]at hal;obtain⟨w4,ew4⟩:∃ w4,w4=wn.alloc (.cells #[.int .i64 f.qn,.int .i64 f.f_a,.int .i64 f.f_b] 127):=⟨_,rfl⟩
  have z4:w4.heap.size=wr.heap.size+1:=by rw[ew4];simp[hszn]
  have b4:∀ k,k<wr.heap.size->k≠w.heap.size+1+1->w4.heap[k]? = wr.heap[k]?:=fun k hk hne=>by
   rw[ew4,heap_alloc_old _ _ (by omega)];exact hgr.block k hk (fun e=>hne (Option.some.inj e))
  have n9:w4.heap[wr.heap.size]? = some (.cells #[.int .i64 f.qn,.int .i64 f.f_a,.int .i64 f.f_b] 127 (0,0)):=by rw[ew4,<- hszn];exact heap_alloc_new _ _
  have n1:w4.heap[w.heap.size+1]? = some (.cells #[.map (some w.heap.size)] 105 (0,0)):=by rw[b4 _ (by omega) (by omega),hold _ (by omega) (by omega) (by omega)];exact e1
  have k1:=cell_of_one n1
  have k2:w4.cell? ⟨wr.heap.size,0,none⟩=some (.int .i64 f.qn):=by simp[A2,n9]
  have k3:w4.cell? ⟨wr.heap.size,1,none⟩=some (.int .i64 f.f_a):=by simp[A2,n9]
  have k4:w4.cell? ⟨wr.heap.size,2,none⟩=some (.int .i64 f.f_b):=by simp[A2,n9]
  have S4:SetAt w4 w.heap.size (addF [] done):=hS.of (b4 _ oM oM);obtain⟨o',hup,S5⟩:=S4.put hwf1 oM
  have g0:w4.os=w.os/\w4.tape=w.tape/\w4.output=w.output:=by rw[ew4];exact⟨hgr.os.trans hBr.os,hgr.tape.trans hBr.tape,hgr.output.trans hBr.output⟩
  have hi4:w4.heap[w.heap.size+1+1]? = wn.heap[w.heap.size+1+1]?:=by rw[ew4,heap_alloc_old _ _ (by omega)]
  have HS:=(show Hid _ from S5);have HG:=(show Hid _ from g0);have HW:=(show Hid (w4=_) from ew4);rw[ew4]at k1 k2 k3 k4 hup;clear ew4 S4 S5 n9 n1 g0 hS
  go_wp2
  rw[<- HW.out]
  go_roundw
  case rel =>
   have hall:∀ k,k<wr.heap.size->k≠w.heap.size->k≠w.heap.size+1+1->(setBlock w4 w.heap.size o').heap[k]? = wr.heap[k]?:=fun k hk h1 h2=>by rw[setBlock_other h1,b4 k hk h2]
   refine⟨⟨HG.out.1,HG.out.2.1,HG.out.2.2,by rw[setBlock_size];omega,fun k hk=>?_⟩,by rw[setBlock_size];omega,fun k hk h1 h2=>?_,done++[f],rem.eraseIdx j,?_,hIn.of ?_,?_⟩
   .rw[hall k (by omega) (by omega) (by omega)];exact hBr.block k hk
   .rw[hall k (by omega) h1 h2];exact hold k hk h1 h2
   .refine List.Perm.trans ?_ hp;rw[D2];refine List.Perm.append_left _ ?_;have h1:=qaS rem j hjl;rw[(List.getElem?_eq_some_iff.1 hj).2]at h1;exact h1.symm
   .rw[setBlock_other (by omega)];exact hi4
   have:addF [] (done++[f])=mset qf f true (addF [] done):=by simp[addF]
   rw[this];exact HS.out
  case measure =>
   have h1:=(hIn.of (w':=setBlock w4 w.heap.size o') (by rw[setBlock_other (by omega)];exact hi4)).left;rw[h1,hI.left,G4,if_pos hjl];omega
theorem Try.cons74 {fuel:Nat} {r:LB} (h:consP fuel l gv no=some r):CallOk Try.prog 74 [l54 none l,mpE qh AV.bool gv,mpE qh AV.bool no] (mpE qh AV.bool r):=by
 intro M w vs hG hC hl hR
 obtain⟨lv,gvv,nov,rfl⟩:∃ a b c,vs=[a,b,c]:=by
  match vs,hl with
  | [a,b,c],_=>exact⟨a,b,c,rfl⟩
 refine Calls.mono (Try.cons74o h hC (hR 0 _ lv rfl rfl) (hR 1 _ gvv rfl rfl) (hR 2 _ nov rfl rfl)) ?_
 rintro e w' ⟨rfl,hB,outp,hS,_,hp,_⟩
 exact⟨_,mtail M w.heap.size w',rfl,hB,UL hC hB (A0 _),Zl hC hB,fun b o hb=>QY hb,qkB hp (SetAt.freeze hS (A0 _)),trivial⟩
end Go.Proofs
namespace Go.Proofs
open Go.Shelf
def Try.laysSlF06_f109_ren:Go.Shelf.Ren:=⟨fun | 6=>109 | 15=>126 | 14=>125 | 28=>139 | 29=>140 | 20=>131 | 21=>132 | 22=>133 | 23=>134 | 24=>135 | 25=>136 | 26=>137 | 27=>138 | 46=>141 | 47=>142 | 48=>143 | 49=>144 | 50=>145 | 57=>146 | n=>n,fun | 22=>23 | 24=>41 | 25=>176 | 3=>3 | 39=>49 | 0=>0 | 53=>204 | 55=>206 | 4=>4 | 46=>197 | 45=>196 | 50=>201 | 5=>5 | 9=>9 | 66=>207 | 70=>163 | 76=>212 | 77=>81 | n=>n,fun | n=>n⟩
theorem Try.laysSlF06_f109:Go.Proofs.SlLaysF0.n6 Try.prog Try.laysSlF06_f109_ren:={
 mixed:=by kernel_rfl
 f6:=⟨Try.f109.name,by decide,Try.func109.trans (congrArg some (by kernel_rfl))⟩
 f14:=⟨Try.f125.name,by decide,Try.func125.trans (congrArg some (by kernel_rfl))⟩
 f15:=Try.func126.trans (congrArg some (by kernel_rfl))
 f20:=⟨Try.f131.name,by decide,Try.func131.trans (congrArg some (by kernel_rfl))⟩
 f21:=⟨Try.f132.name,by decide,Try.func132.trans (congrArg some (by kernel_rfl))⟩
 f22:=⟨Try.f133.name,by decide,Try.func133.trans (congrArg some (by kernel_rfl))⟩
 f23:=⟨Try.f134.name,by decide,Try.func134.trans (congrArg some (by kernel_rfl))⟩
 f24:=⟨Try.f135.name,by decide,Try.func135.trans (congrArg some (by kernel_rfl))⟩
 f25:=⟨Try.f136.name,by decide,Try.func136.trans (congrArg some (by kernel_rfl))⟩
 f26:=⟨Try.f137.name,by decide,Try.func137.trans (congrArg some (by kernel_rfl))⟩
 f27:=⟨Try.f138.name,by decide,Try.func138.trans (congrArg some (by kernel_rfl))⟩
 f28:=Try.func139.trans (congrArg some (by kernel_rfl))
 f29:=Try.func140.trans (congrArg some (by kernel_rfl))
 f46:=⟨Try.f141.name,by decide,Try.func141.trans (congrArg some (by kernel_rfl))⟩
 f47:=Try.func142.trans (congrArg some (by kernel_rfl))
 f48:=Try.func143.trans (congrArg some (by kernel_rfl))
 f49:=⟨Try.f144.name,by decide,Try.func144.trans (congrArg some (by kernel_rfl))⟩
 f50:=⟨Try.f145.name,by decide,Try.func145.trans (congrArg some (by kernel_rfl))⟩
 f57:=⟨Try.f146.name,by decide,Try.func146.trans (congrArg some (by kernel_rfl))⟩
 t0:=Try.underlying0
 a0:=Try.isAgg0
 z0:=Try.sizeOf0
 v0:=Try.zeroValue0
 t3:=Try.underlying3
 a3:=Try.isAgg3
 z3:=Try.sizeOf3
 v3:=Try.zeroValue3
 t4:=Try.underlying4
 a4:=Try.isAgg4
 z4:=Try.sizeOf4
 v4:=Try.zeroValue4
 t5:=Try.underlying5
 a5:=Try.isAgg5
 z5:=Try.sizeOf5
 v5:=Try.zeroValue5
 t9:=Try.underlying9
 a9:=Try.isAgg9
 z9:=Try.sizeOf9
 v9:=Try.zeroValue9
 t22:=Try.underlying23
 a22:=Try.isAgg23
 z22:=Try.sizeOf23
 v22:=Try.zeroValue23
 t25:=Try.underlying176
 a25:=Try.isAgg176
 z25:=Try.sizeOf176
 v25:=Try.zeroValue176
 t39:=Try.underlying49
 a39:=Try.isAgg49
 z39:=Try.sizeOf49
 v39:=Try.zeroValue49
 t45:=Try.underlying196
 a45:=Try.isAgg196
 z45:=Try.sizeOf196
 v45:=Try.zeroValue196
 t46:=Try.underlying197
 a46:=Try.isAgg197
 z46:=Try.sizeOf197
 v46:=Try.zeroValue197
 t50:=Try.underlying201
 a50:=Try.isAgg201
 z50:=Try.sizeOf201
 v50:=Try.zeroValue201
 t53:=Try.underlying204
 a53:=Try.isAgg204
 z53:=Try.sizeOf204
 v53:=Try.zeroValue204
 t55:=Try.underlying206
 a55:=Try.isAgg206
 z55:=Try.sizeOf206
 v55:=Try.zeroValue206
 t66:=Try.underlying207
 a66:=Try.isAgg207
 z66:=Try.sizeOf207
 v66:=Try.zeroValue207
 t70:=Try.underlying163
 a70:=Try.isAgg163
 z70:=Try.sizeOf163
 v70:=Try.zeroValue163
 t76:=Try.underlying212
 a76:=Try.isAgg212
 z76:=Try.sizeOf212
 v76:=Try.zeroValue212
 t77:=Try.underlying81
 a77:=Try.isAgg81
 z77:=Try.sizeOf81
 v77:=Try.zeroValue81 }
open Go.RowKit Go.Lib Go.Sort in
theorem Try.slices_SortFunc_none {α:Type} [Inhabited α] (p:Option Addr) (cap:Nat) (fv:Value) (w:World) :
  Calls Try.prog 109 #[.slice p 0 cap,fv] w fun e w'=>e=.returned (.tuple #[])/\w'=w:=AnyF.slices_SortFunc_none Try.laysSlF06_f109 p cap fv w
open Go.RowKit Go.Lib Go.Sort in
theorem Try.slices_SortFunc_total {α:Type} [Inhabited α] (k:Nat) (aE:∀ w,(isAgg 41).run Try.prog w=.ok true w) (zE:∀ w,(Go.sizeOf 41).run Try.prog w=.ok k w) (enc:α->LT) (hk:∀ x,(enc x).length=k) (h1:∀ x,∀ v∈enc x,v.oneCell'=true) (cf:α->α->Int) (hO:SWO (ltOf cf)) (g:Nat) (cb:LO) (blk off cap:Nat) (d:Array α) (w:World) (eg:∀ args w,(callFunc g args).run Try.prog w=.ok (.enter g args) w) (hcmp:CmpLays Try.prog g cb enc k cf blk off d.size w) (hH:HoldsK enc k w blk off d) (hblk:blk<w.heap.size) (hsz:d.size<4611686018427387904) (hT:∀ x y,(ltOf cf) x y=false->(ltOf cf) y x=false->x=y) :
  Calls Try.prog 109 #[.slice (some ⟨blk,off,none⟩) d.size cap,.func (.func g) #[] cb] w fun e w' =>
   e=.returned (.tuple #[])/\∃ n os,w'=sortWorldK enc k w blk off n (d.toList.mergeSort fun x y=>!(ltOf cf) y x).toArray os:=AnyQ.slices_SortFunc_total Try.laysSlF06_f109 k aE zE enc hk h1 cf hO g cb blk off cap d w eg hcmp hH hblk hsz hT
end Go.Proofs
namespace Go.Proofs
open Go.RowKit Go.Sort Go.AM Go.Lib
def cmpI (x y:Int):Int:=if x<y then -1 else if y<x then 1 else 0
def orI2 (x y:Int):Int:=if x≠0 then x else y
def cmpL:LA->LA->Int
 | [],[]=>0
 | [],_::_ => -1
 | _::_,[]=>1
 | x::a,y::b=>if cmpI x y≠0 then cmpI x y else cmpL a b
set_option maxHeartbeats 4000000 in
theorem Try.cmp112 (x y:Int) (W:World):Calls Try.prog 112 #[.int .i64 x,.int .i64 y] W fun e w'=>e=.returned (.int .i64 (cmpI x y))/\w'=W:=by
 have⟨t3,a3,z3,v3,u3⟩:=Tf3;have⟨t4,a4,z4,v4,u4⟩:=Tf4;unfold cmpI
 go_enter Try.func112,Try.ntmps112
 by_cases h1:x<y
 .go_wp2
  go_ret
  simp[h1]
 by_cases h2:y<x
 .go_wp2
  go_ret
  simp[h1,h2]
 go_wp2
 go_ret
 simp[h1,h2]
set_option maxHeartbeats 4000000 in
theorem Try.or111 (x y:Int) (g cap:Nat) (W:World) (h0:W.cell? ⟨g,0,none⟩=some (.int .i64 x)) (h1:W.cell? ⟨g,1,none⟩=some (.int .i64 y)):Calls Try.prog 111 #[.slice (some ⟨g,0,none⟩) 2 cap] W fun e w'=>e=.returned (.int .i64 (orI2 x y))/\w'=W:=by
 have⟨t3,a3,z3,v3,u3⟩:=Tf3;have⟨t4,a4,z4,v4,u4⟩:=Tf4;have⟨t39,a39,z39,v39,u39⟩:=Tf39;obtain⟨r,hr⟩:∃ r,r=orI2 x y:=⟨_,rfl⟩;rw[<- hr]
 go_enter Try.func111,Try.ntmps111
 go_wp2
 go_loop [8] (fun i=>∃ k:Nat,k<=2/\i=.int .i64 k/\(1<=k->x=0)/\(2<=k->y=0)) (fun i=>2 - (RowKit.intOf i).toNat)
 case atStart=>exact⟨0,by omega,rfl,fun h=>by omega,fun h=>by omega⟩
 case round =>
  obtain⟨k,hk,rfl,k1,k2⟩:=hrel
  match k,hk with
  | 0,_ =>
   by_cases hx:x=0
   .subst hx
    go_wp2
    go_round
    case rel=>exact⟨1,by omega,rfl,by simp_all,by simp_all⟩
    case measure=>simp[RowKit.intOf]
   go_wp2
   go_ret
   simp[orI2,hx]
  | 1,_ =>
   have hx:=k1 oM;by_cases hy:y=0
   .subst hy
    go_wp2
    go_round
    case rel=>exact⟨2,by omega,rfl,by simp_all,by simp_all⟩
    case measure=>simp[RowKit.intOf]
   go_wp2
   go_ret
   simp[orI2,hx,hy]
  | 2,_ =>
   have hx:=k1 oM;have hy:=k2 oM
   go_wp2
   go_ret
   simp[orI2,hx,hy]
theorem qke {a b:LA} {k:Nat} (ha:k<a.length) (hb:k<b.length):cmpL (a.drop k) (b.drop k)=if cmpI a[k] b[k]≠0 then cmpI a[k] b[k] else cmpL (a.drop (k+1)) (b.drop (k+1)):=by
 rw[D1 ha,D1 hb,cmpL]
theorem NQ {M:Mem} {e k:Nat} {l:LR} {xs:LJ} {v:Value} (h:R M (.lst e k l xs) v):∃ a cap,v=.slice a xs.length cap:=by
 cases h with
 | lstn=>exact⟨none,0,rfl⟩
 | lste _ _ _ ad cap=>exact⟨some ad,cap,rfl⟩
 | lst us h1 h2 h5 h3 h4=>exact⟨_,_,rfl⟩
set_option maxHeartbeats 4000000 in
theorem Try.cmp113 (a b:LA) (va vb:Value) (M:Mem) (W:World) (hC:Cons M W) (ra:R M (l3 none a) va) (rb:R M (l3 none b) vb) (hla:a.length<=1000000):Calls Try.prog 113 #[va,vb] W fun e w'=>e=.returned (.int .i64 (cmpL a b))/\w'=W:=by
 have⟨t3,a3,z3,v3,u3⟩:=Tf3;have⟨t4,a4,z4,v4,u4⟩:=Tf4;have⟨t39,a39,z39,v39,u39⟩:=Tf39;obtain⟨pa,ca,rfl,ha⟩:=qbv (l:=a) ra;obtain⟨pb,cb,rfl,hb⟩:=qbv (l:=b) rb;have hcmp:=Try.cmp112;obtain⟨r,hr⟩:∃ r,r=cmpL a b:=⟨_,rfl⟩;rw[<- hr];have HR:=(show Hid _ from hr);clear hr
 go_enter Try.func113,Try.ntmps113
 go_wp2
 go_loop [11] (fun i=>∃ k:Nat,k<=a.length/\k<=b.length/\i=.int .i64 k/\r=cmpL (a.drop k) (b.drop k)) (fun i=>a.length - (RowKit.intOf i).toNat)
 case atStart=>exact⟨0,D6 _,D6 _,rfl,HR.out⟩
 case round =>
  obtain⟨k,hk,hkb,rfl,hrk⟩:=hrel
  rcases C7 k a.length with h1 | h1
  .obtain⟨ga,oa,rfl,hMa⟩:=ha k h1;have fa:=JS (hC _ _ _ hMa) rfl;have i0:(0:Int)<=(k:Int):=F6 _
   have i1:(k:Int)<(a.length:Int):=by omega
   rcases C7 k b.length with h2 | h2
   .obtain⟨gb,ob,rfl,hMb⟩:=hb k h2;have fb:=JS (hC _ _ _ hMb) rfl
    have i2:(k:Int)<(b.length:Int):=by omega
    have n1:¬ (b.length:Int)<=(k:Int):=by omega
    have hst:=qke h1 h2;rw[<- hrk]at hst;generalize a[k]=x at fa hst;generalize b[k]=y at fb hst;have hc:=hcmp x y W;generalize cmpI x y=c at hst hc;clear ha hb hcmp hrk;by_cases h0:c=0
    .subst h0
     go_wp2_with fail
     refine hc.mono ?_
     rintro e w5 ⟨rfl,rfl⟩
     go_wp2
     go_round
     case rel=>exact⟨k+1,h1,h2,by go_num,by simpa using hst⟩
     case measure=>simp[RowKit.intOf];omega
    rw[if_pos h0]at hst
    go_wp2_with fail
    refine hc.mono ?_
    rintro e w5 ⟨rfl,rfl⟩
    go_wp2
    go_ret
    (first | exact⟨rfl,rfl⟩ | (refine⟨?_,rfl⟩;rw[hst];done) | (refine⟨?_,rfl⟩;rw[hst];rfl))
   have n1:(b.length:Int)<=(k:Int):=by omega
   have hst:r=1:=by
    rw[hrk,G5 h2,D1 h1];rfl
   clear ha hb hcmp hrk;generalize a[k]=x at fa
   go_wp2
   go_ret
   (first | exact⟨rfl,rfl⟩ | (refine⟨?_,rfl⟩;rw[hst];done) | (refine⟨?_,rfl⟩;rw[hst];rfl))
  have hkl:k=a.length:=by omega
  subst hkl;rw[List.drop_length]at hrk
  rcases C7 a.length b.length with h2 | h2
  .have hst:r = -1:=by
    rw[hrk,D1 h2];rfl
   have n1:(a.length:Int)<(b.length:Int):=by omega
   clear hrk
   go_wp2
   go_ret
   (first | exact⟨rfl,rfl⟩ | (refine⟨?_,rfl⟩;rw[hst];done) | (refine⟨?_,rfl⟩;rw[hst];rfl))
  have hst:r=0:=by
   rw[hrk,G5 h2];rfl
  have n1:¬ (a.length:Int)<(b.length:Int):=by omega
  clear hrk
  go_wp2
  go_ret
  (first | exact⟨rfl,rfl⟩ | (refine⟨?_,rfl⟩;rw[hst];done) | (refine⟨?_,rfl⟩;rw[hst];rfl))
set_option maxHeartbeats 8000000 in
theorem Try.cmp110 (ra rb:Int) (a b:LA) (va vb:Value) (M:Mem) (W:World) (hC:Cons M W) (hva:R M (l3 none a) va) (hvb:R M (l3 none b) vb) (hla:a.length<=1000000) :
  Calls Try.prog 110 #[.agg #[.int .i64 ra,va],.agg #[.int .i64 rb,vb]] W fun e w'=>e=.returned (.int .i64 (orI2 (cmpI ra rb) (cmpL a b)))/\∃ q os,w'=grow (W.drewN q) os:=by
 have mixed:=mixedP;have⟨t3,a3,z3,v3,u3⟩:=Tf3;have⟨t4,a4,z4,v4,u4⟩:=Tf4;have⟨t39,a39,z39,v39,u39⟩:=Tf39;have⟨t41,a41,z41,v41,u41⟩:=Tf41;obtain⟨pa,ca,eva⟩:=NQ hva;obtain⟨pb,cb,evb⟩:=NQ hvb;obtain⟨c0,hc0⟩:∃ c,c=cmpI ra rb:=⟨_,rfl⟩;obtain⟨c1,hc1⟩:∃ c,c=cmpL a b:=⟨_,rfl⟩
 have k0:∀ w,Calls Try.prog 112 #[.int .i64 ra,.int .i64 rb] w fun e w'=>e=.returned (.int .i64 c0)/\w'=w:=fun w=>by rw[hc0];exact Try.cmp112 ra rb w
 have k1:∀ w,Cons M w->Calls Try.prog 113 #[va,vb] w fun e w'=>e=.returned (.int .i64 c1)/\w'=w:=fun w hw=>by rw[hc1];exact Try.cmp113 a b va vb M w hw hva hvb hla
 rw[<- hc0,<- hc1];clear hc0 hc1;obtain⟨r,hr⟩:∃ r,r=orI2 c0 c1:=⟨_,rfl⟩;rw[<- hr];subst eva evb;generalize hna:(List.map (AV.int .i64) a).length=na at *;generalize hnb:(List.map (AV.int .i64) b).length=nb at *;clear hna hnb
 go_enter Try.func110,Try.ntmps110
 go_wp2_with fail
 obtain⟨W2,hW2⟩:∃ W2,W2=(W.alloc (.cells #[.int .i64 ra,.slice pa na ca] 41)).alloc (.cells #[.int .i64 rb,.slice pb nb cb] 41):=⟨_,rfl⟩
 have hea:W2.heap[W.heap.size]? = some (.cells #[.int .i64 ra,.slice pa na ca] 41 (0,0)):=by
  rw[hW2,heap_alloc_old _ _ (by simp)];exact heap_alloc_new _ _
 have heb:W2.heap[W.heap.size+1]? = some (.cells #[.int .i64 rb,.slice pb nb cb] 41 (0,0)):=by
  have:=heap_alloc_new (W.alloc (.cells #[.int .i64 ra,.slice pa na ca] 41)) (.cells #[.int .i64 rb,.slice pb nb cb] 41);rw[hW2]
  simpa using this
 have hg:∃ os,W2=grow W os:=⟨_,by rw[hW2,alloc_eq_grow,alloc_eq_grow,grow_grow]⟩
 have hCW:Cons M W2.drew:=by rw[hW2];exact (hC.alloc _).alloc _
 rw[<- hW2];clear hW2
 have K0:W2.cell? ⟨W.heap.size,0,none⟩=some (.int .i64 ra)/\W2.cell? ⟨W.heap.size,1,none⟩=some (.slice pa na ca)/\W2.cell? ⟨W.heap.size+1,0,none⟩=some (.int .i64 rb)/\W2.cell? ⟨W.heap.size+1,1,none⟩=some (.slice pb nb cb):=by
  refine⟨?_,?_,?_,?_⟩ <;> simp[A2,hea,heb]
 refine wp_region_held_drew (S:=(fun w'=>w'.cell? ⟨W.heap.size,0,none⟩=some (.int .i64 ra)/\w'.cell? ⟨W.heap.size,1,none⟩=some (.slice pa na ca)/\w'.cell? ⟨W.heap.size+1,0,none⟩=some (.int .i64 rb)/\w'.cell? ⟨W.heap.size+1,1,none⟩=some (.slice pb nb cb))) kR K0 (fun hHeld=>?_);refine tkH (i:=0) (v:=.pointer (some ⟨W.heap.size,0,none⟩)) rfl (Or.inl ⟨by kernel_rfl,fun w' hw'=>?_⟩) hHeld ?_
 .obtain⟨q0,q1,q2,q3⟩:=hw';go_simp
 simp only[Act.put,A4,A1,A5,A6,A7,A8];refine tkH (i:=1) (v:=.int .i64 ra) rfl (Or.inl ⟨by kernel_rfl,fun w' hw'=>?_⟩) hHeld ?_
 .obtain⟨q0,q1,q2,q3⟩:=hw';go_simp
 simp only[Act.put,A4,A1,A5,A6,A7,A8];refine tkH (i:=2) (v:=.pointer (some ⟨W.heap.size+1,0,none⟩)) rfl (Or.inl ⟨by kernel_rfl,fun w' hw'=>?_⟩) hHeld ?_
 .obtain⟨q0,q1,q2,q3⟩:=hw';go_simp
 simp only[Act.put,A4,A1,A5,A6,A7,A8];refine tkH (i:=3) (v:=.int .i64 rb) rfl (Or.inl ⟨by kernel_rfl,fun w' hw'=>?_⟩) hHeld ?_
 .obtain⟨q0,q1,q2,q3⟩:=hw';go_simp
 simp only[Act.put,A4,A1,A5,A6,A7,A8];refine tkH (i:=5) (v:=.pointer (some ⟨W.heap.size,1,none⟩)) rfl (Or.inl ⟨by kernel_rfl,fun w' hw'=>?_⟩) hHeld ?_
 .obtain⟨q0,q1,q2,q3⟩:=hw';go_simp
 simp only[Act.put,A4,A1,A5,A6,A7,A8];refine tkH (i:=6) (v:=.slice pa na ca) rfl (Or.inl ⟨by kernel_rfl,fun w' hw'=>?_⟩) hHeld ?_
 .obtain⟨q0,q1,q2,q3⟩:=hw';go_simp
 simp only[Act.put,A4,A1,A5,A6,A7,A8];refine tkH (i:=7) (v:=.pointer (some ⟨W.heap.size+1,1,none⟩)) rfl (Or.inl ⟨by kernel_rfl,fun w' hw'=>?_⟩) hHeld ?_
 .obtain⟨q0,q1,q2,q3⟩:=hw';go_simp
 simp only[Act.put,A4,A1,A5,A6,A7,A8];refine tkH (i:=8) (v:=.slice pb nb cb) rfl (Or.inl ⟨by kernel_rfl,fun w' hw'=>?_⟩) hHeld ?_
 .obtain⟨q0,q1,q2,q3⟩:=hw';go_simp
 simp only[Act.put,A4,A1,A5,A6,A7,A8];refine wpAnyH_ready (rs:=[4]) kR (by simp) (AllReadyH.cons rfl (fun K hK=>?_) AllReadyH.nil);rw[if_pos (by kernel_rfl)];go_simp
 go_at_call 112
 refine (k0 _).mono ?_
 rintro e w5 ⟨rfl,rfl⟩
 go_wp2_with fail
 refine hK.out _ _ hHeld (fun hHeld=>?_);clear hK K;refine wpAnyH_ready (rs:=[9]) kR (by simp) (AllReadyH.cons rfl (fun K hK=>?_) AllReadyH.nil);rw[if_pos (by kernel_rfl)];go_simp
 go_at_call 113
 refine (k1 _ hCW).mono ?_
 rintro e w5 ⟨rfl,rfl⟩
 go_wp2_with fail
 refine hK.out _ _ hHeld (fun hHeld=>?_);clear hK K;refine wpAnyH_ready (rs:=[10]) kR (by simp) (AllReadyH.cons rfl (fun K hK=>?_) AllReadyH.nil);rw[if_pos (by kernel_rfl)];go_simp;obtain⟨W3,hW3⟩:∃ W3,W3=(W2.alloc (Obj.cells #[Value.int D7 c0,Value.int D7 c1] 3)).drew:=⟨_,rfl⟩
 have g0:W3.heap[W.heap.size]? = some (.cells #[.int .i64 ra,.slice pa na ca] 41 (0,0)):=by
  rw[hW3];exact (heap_alloc_old _ _ (lt_of_block hea)).trans hea
 have g1:W3.heap[W.heap.size+1]? = some (.cells #[.int .i64 rb,.slice pb nb cb] 41 (0,0)):=by
  rw[hW3];exact (heap_alloc_old _ _ (lt_of_block heb)).trans heb
 have g2:W3.heap[W2.heap.size]? = some (.cells #[.int .i64 c0,.int .i64 c1] 3 (0,0)):=by
  rw[hW3];exact heap_alloc_new _ _
 have hg3:∃ q os,W3=grow (W.drewN q) os:=by
  obtain⟨os,rfl⟩:=hg;refine⟨1,os++#[Obj.cells #[Value.int D7 c0,Value.int D7 c1] 3],?_⟩;rw[hW3,alloc_eq_grow,grow_grow,drew_grow];rfl
 have f0:W3.cell? ⟨W2.heap.size,0,none⟩=some (.int .i64 c0):=by simp[A2,g2]
 have f1:W3.cell? ⟨W2.heap.size,1,none⟩=some (.int .i64 c1):=by simp[A2,g2]
 have K3:W3.cell? ⟨W.heap.size,0,none⟩=some (.int .i64 ra)/\W3.cell? ⟨W.heap.size,1,none⟩=some (.slice pa na ca)/\W3.cell? ⟨W.heap.size+1,0,none⟩=some (.int .i64 rb)/\W3.cell? ⟨W.heap.size+1,1,none⟩=some (.slice pb nb cb):=by
  refine⟨?_,?_,?_,?_⟩ <;> simp[A2,g0,g1]
 rw[<- hW3];clear hW3 hea heb;refine hK.out _ _ K3 (fun _=>?_);clear hK K;have kk:=Try.or111 c0 c1 W2.heap.size 2 W3 f0 f1;rw[<- hr]at kk;refine wpAnyH_ready (rs:=[11]) kR (by simp) (AllReadyH.cons rfl (fun K hK=>?_) AllReadyH.nil);rw[if_pos (by kernel_rfl)];go_simp
 go_at_call 111
 refine kk.mono ?_
 rintro e w5 ⟨rfl,rfl⟩
 go_wp2_with fail
 refine hK.out _ _ K3 (fun _=>?_);clear hK K;refine tkH (i:=12) (v:=.int .i64 r) rfl (Or.inl ⟨by kernel_rfl,fun w' hw'=>?_⟩) K3 ?_
 .go_simp
 simp only[Act.put,A4,A1,A5,A6,A7,A8];refine wpAnyH_done kR ?_ _
 go_wp2
 go_ret
 exact⟨rfl,hg3⟩
end Go.Proofs
namespace Go.AM
open Go.RowKit Go.Sort Go.Proofs Go.Lib
variable {j:Nat} {l:LG}
def cfF (x y:apiFact):Int:=orI2 (cmpI x.qc y.qc) (cmpL x.qa y.qa)
def sortF (l:LG):LG:=l.mergeSort fun x y=>!ltOf cfF y x
theorem Vo (l:LG):(sortF l).length=l.length:=by unfold sortF;exact G6 l
theorem qhe (x y:Int):cmpI y x = - cmpI x y:=by
 unfold cmpI;by_cases h1:x<y
 .have:¬ y<x:=by omega
  simp[h1,this]
 by_cases h2:y<x <;> simp[h1,h2]
theorem YN (x y:Int):cmpI x y=0↔x=y:=by
 unfold cmpI;by_cases h1:x<y
 .simp[h1];omega
 by_cases h2:y<x
 .simp[h1,h2];omega
 simp[h1,h2];omega
theorem Ul (x y:Int):cmpI x y<0↔x<y:=by
 unfold cmpI;by_cases h1:x<y
 .simp[h1]
 by_cases h2:y<x <;> simp[h1,h2]
theorem qhd:∀ a b:LA,cmpL b a = - cmpL a b
 | [],[]=>rfl
 | [],_::_=>rfl
 | _::_,[]=>rfl
 | x::a,y::b=>by
  simp only[cmpL];rw[qhd a b,qhe x y];by_cases h:cmpI x y=0 <;> simp[h]
theorem qeW:∀ a b:LA,cmpL a b=0↔a=b
 | [],[]=>by simp[cmpL]
 | [],_::_=>by simp[cmpL]
 | _::_,[]=>by simp[cmpL]
 | x::a,y::b=>by
  simp only[cmpL];by_cases h:cmpI x y=0
  .rw[if_neg (by simpa using h),qeW a b,(YN x y).1 h];simp
  rw[if_pos h]
  have:x≠y:=fun e=>h ((YN x y).2 e)
  simp[h,this]
theorem qds:∀ a b c:LA,cmpL a b<0->cmpL b c<0->cmpL a c<0
 | [],_,[],h1,h2=>by
  rename_i b
  cases b with
  | nil=>simp[cmpL]at h1
  | cons y b=>simp[cmpL]at h2
 | [],_,_::_,_,_=>by simp[cmpL]
 | x::a,[],_,h1,_=>by simp[cmpL]at h1
 | x::a,y::b,[],_,h2=>by simp[cmpL]at h2
 | x::a,y::b,z::c,h1,h2=>by
  simp only[cmpL]at h1 h2 ⊢;by_cases k1:cmpI x y=0
  .have e1:=(YN x y).1 k1;subst e1;rw[if_neg (by simpa using k1)]at h1;by_cases k2:cmpI x z=0
   .rw[if_neg (by simpa using k2)]at h2 ⊢;exact qds a b c h1 h2
   rw[if_pos k2]at h2 ⊢;exact h2
  rw[if_pos k1,Ul]at h1;by_cases k2:cmpI y z=0
  .have e2:=(YN y z).1 k2;subst e2;rw[if_pos k1,Ul];exact h1
  rw[if_pos k2,Ul]at h2;have h3:cmpI x z<0:=(Ul x z).2 oM;rw[if_pos (by omega)];exact h3
theorem qaW (x y:apiFact):cfF y x = - cfF x y:=by
 unfold cfF orI2;rw[qhe x.qc y.qc,qhd x.qa y.qa];by_cases h:cmpI x.qc y.qc=0 <;> simp[h]
theorem qaV (x y:apiFact):cfF x y=0↔x=y:=by
 unfold cfF orI2;obtain⟨a,b⟩:=x;obtain⟨c,d⟩:=y;by_cases h:cmpI a c=0
 .simp only[h,ne_eq,not_true_eq_false,if_false,qeW];rw[(YN a c).1 h];simp
 have:a≠c:=fun e=>h ((YN a c).2 e)
 simp[h,this]
theorem qeY (x y z:apiFact) (h1:cfF x y<0) (h2:cfF y z<0):cfF x z<0:=by
 obtain⟨a,b⟩:=x;obtain⟨c,d⟩:=y;obtain⟨e,f⟩:=z;unfold cfF orI2 at *;simp only at *;by_cases k1:cmpI a c=0
 .have e1:=(YN a c).1 k1;subst e1;rw[if_neg (by simpa using k1)]at h1;by_cases k2:cmpI a e=0
  .rw[if_neg (by simpa using k2)]at h2 ⊢;exact qds _ _ _ h1 h2
  rw[if_pos k2]at h2 ⊢;exact h2
 rw[if_pos k1,Ul]at h1;by_cases k2:cmpI c e=0
 .have e2:=(YN c e).1 k2;subst e2;rw[if_pos k1,Ul];exact h1
 rw[if_pos k2,Ul]at h2;have h3:cmpI a e<0:=(Ul a e).2 oM;rw[if_pos (by omega)];exact h3
theorem ltF (a b:apiFact):ltOf cfF a b=true↔cfF a b<0:=by
 have e:ltOf cfF a b=decide (cfF a b<0):=rfl;rw[e,decide_eq_true_eq]
theorem ltFf (a b:apiFact):ltOf cfF a b=false↔¬ cfF a b<0:=by
 rw[<- ltF,Bool.not_eq_true]
theorem swoF:SWO (ltOf cfF) where
 irrefl x:=by rw[ltFf,(qaV x x).2 rfl];omega
 trans x y z h1 h2:=by rw[ltF]at *;exact qeY x y z h1 h2
 ntrans x y z h1 h2:=by
  rw[ltFf]at *;intro h3;have n1:=qaW x y;have n2:=qaW y z;by_cases k1:cfF x y=0
  .rw[(qaV x y).1 k1]at h3;exact h2 h3
  by_cases k2:cfF y z=0
  .rw[<- (qaV y z).1 k2]at h3;exact h1 h3
  have h4:=qeY z y x oM oM;have n3:=qaW x z;omega
theorem totF (x y:apiFact) (h1:ltOf cfF x y=false) (h2:ltOf cfF y x=false):x=y:=by
 rw[ltFf]at h1 h2;have:=qaW x y;exact (qaV x y).1 oM
theorem cells2 (l:LG):∀ x,x∈l.map qH->x.cells.length=2:=by
 intro x hx;obtain⟨y,_,rfl⟩:=List.mem_map.1 hx;rfl
theorem flat2 (l:LG) (hj:j<l.length * 2):(flat (l.map qH))[j]? = (qH (l[j / 2]'(by omega))).cells[j % 2]?:=by
 have hd:j / 2<l.length:=by omega
 have h2:=Yu (k:=2) (xs:=l.map qH) (i:=j / 2) (x:=qH l[j / 2]) (cells2 l) (by simp[hd]) (j % 2) oM;rw[show j / 2 * 2+j % 2=j by omega]at h2;exact h2
theorem qkz {n:Nat} (l:LG) (hn:l.length=n) (s:List (Fin n)) (hs:s=(F8 n).mergeSort fun x y=>!ltOf (fun i j:Fin n=>cfF (l[i.1]'(by omega)) (l[j.1]'(by omega))) y x):sortF l=s.map fun i=>l[i.1]'(by omega):=by
 subst hn
 have e:l=(F8 l.length).map fun i=>l[i.1]:=by
  refine List.ext_getElem (by simp) fun i h1 h2=>?_
  simp
 subst hs;unfold sortF
 conv=>lhs;rw[e]
 rw[List.map_mergeSort];intro a _ b _;rfl
theorem sort109 (hl:l.length<4611686018427387904) (hnd:l.Nodup) (hla:∀ f,f∈l->f.qa.length<=1000000) :
  CallMOk Try.prog 109 [.sb 2000000 41 2 0 l.length,.clo 110 []] [(2000000,.obj 41 2 (l.map qH))] (.tup []) [(2000000,.obj 41 2 ((sortF l).map qH))]:=by
 intro M O w vs hG hC hlen hO hOi hR hH
 obtain⟨v,fv,rfl⟩:∃ v fv,vs=[v,fv]:=by
  match vs,hlen with
  | [v,fv],_=>exact⟨v,fv,rfl⟩
 have hv:=hR 0 _ v rfl rfl;have hf:=(hR 1 _ fv rfl rfl).1;have ho:=hH 2000000 (.obj 41 2 (l.map qH)) rfl;obtain⟨q1,q2⟩:=hv;obtain⟨k0,k1,k2,k3⟩:=ho
 obtain rfl:fv=.func (.func 110) #[] #[]:=by
  generalize hx:AV.clo 110 []=x at hf
  have hx':x.strip=x:=by rw[<- hx];rfl
  rw[hx']at hf
  cases hf with
  | clo e1 e2 =>
   rename_i vs;cases hx
   match vs,e1 with
   | [],_=>rfl
  | _=>cases hx
 have aE:∀ w,(isAgg 41).run Try.prog w=.ok true w:=Try.isAgg41;have zE:∀ w,(Go.sizeOf 41).run Try.prog w=.ok 2 w:=Try.sizeOf41;by_cases hne:l=[]
 .subst hne
  have q2':∃ p cap,v=.slice p 0 cap:=by
   rcases q2 with ⟨_,ad,rfl⟩ | ⟨g,cap,rfl,_⟩
   .exact⟨_,_,rfl⟩
   exact⟨_,_,rfl⟩
  obtain⟨p,cap,rfl⟩:=q2';refine (Try.slices_SortFunc_none (α:=Nat) p cap _ w).mono ?_
  rintro ed w' ⟨rfl,rfl⟩
  have es:sortF []=[]:=by simp[sortF]
  refine⟨_,M,O,rfl,BelowD.refl _ _,Sub.refl M,hC,fun _ _ _ _=>rfl,fun i c g hh=>?_,fun i i' c c' g hh hh'=>?_,fun c _ _=>Gh.Eq1.refl O c,⟨.tup (vs:=[]) rfl (fun j c v hc=>by simp at hc),trivial⟩,fun id x hx=>?_⟩
  .obtain⟨rfl,h2⟩:=hO i c g hh;exact⟨h2,.inr ⟨c,hh⟩⟩
  .obtain⟨rfl,_⟩:=hO i c g hh;obtain⟨rfl,_⟩:=hO i' c' g hh';exact⟨rfl,hOi c c' g hh hh'⟩
  simp only[look]at hx;split at hx
  .rename_i hb;cases hx;obtain rfl:=(G7 hb).symm;rw[es];exact⟨k0,k1,k2,k3⟩
  cases hx
 have hpos:0<l.length:=List.length_pos_iff.2 hne
 rcases q2 with ⟨h0,_⟩ | ⟨g,cap,rfl,p1,p2,p3,p4⟩
 .omega
 rcases k3 with ⟨h0,_⟩ | ⟨g',cur,r1,r2,r3,r4,r5,r6⟩
 .exact absurd (List.map_eq_nil_iff.1 h0) hne
 have hgg:g'=g:=by rw[p1]at r1;exact (Option.some.inj r1).symm
 subst hgg
 have r4':l.length * 2<=cur.size:=by simpa using r4
 have hb:=r2.plain oM;have hgs:g'<w.heap.size:=(hO _ _ _ p1).2;obtain⟨n,hn⟩:∃ n,n=l.length:=⟨_,rfl⟩
 haveI:Inhabited (Fin n):=⟨⟨0,by omega⟩⟩
 let enc:Fin n->LT:=fun i=>[.int .i64 (l[i.1]'(by omega)).qc,cur[i.1 * 2+1]'(by omega)]
 let cf:Fin n->Fin n->Int:=fun i j=>cfF (l[i.1]'(by omega)) (l[j.1]'(by omega))
 have hrel:∀ i (hi:i<l.length),cur[i * 2]? = some (.int .i64 l[i].qc):=fun i hi=>by
  have h1:=r6 (i * 2) (.int .i64 l[i].qc) (cur[i * 2]'(by omega)) (by
   rw[flat2 l (by omega)]
   have e1:i * 2 / 2=i:=by omega
   have e2:i * 2 % 2=0:=by omega
   simp only[e1,e2]
   rfl) (by rw[D3])
  rw[D3 (by omega),h1.int_inv]
 have harg:∀ i (hi:i<l.length),R M (l3 none l[i].qa) (cur[i * 2+1]'(by omega)):=fun i hi=>by
  refine r6 (i * 2+1) (l3 none l[i].qa) (cur[i * 2+1]'(by omega)) ?_ (by rw[D3]);rw[flat2 l (by omega)]
  have e1:(i * 2+1) / 2=i:=by omega
  have e2:(i * 2+1) % 2=1:=by omega
  simp only[e1,e2];rfl
 have hone:∀ (x:Fin n) v,v∈enc x->v.oneCell'=true:=fun x v hv=>by
  rcases List.mem_cons.1 hv with rfl | hv
  .rfl
  obtain rfl:=List.mem_singleton.1 hv;obtain⟨a,c,e⟩:=NQ (harg x.1 oM);rw[e];rfl
 obtain⟨d,hd⟩:∃ d:Array (Fin n),d=(F8 n).toArray:=⟨_,rfl⟩
 have hds:d.size=l.length:=by rw[hd];simp[hn]
 have hdat:∀ i (hi:i<n),d[i]! = ⟨i,hi⟩:=fun i hi=>by
  rw[hd];simp[hi]
 have hflat:∀ (s:Array (Fin n)) (j:Nat),j<s.size * 2->(flatK enc 2 s)[j]! = (enc s[j / 2]!)[j % 2]!:=fun s j hj=>get_flatK _ _ _ j hj
 have hHd:HoldsK enc 2 w g' 0 d:=by
  intro j hj
  have hj':j<l.length * 2:=by simpa[hds] using hj
  constructor
  .simp only[A2,hb,Nat.zero_add,Option.isSome_none,Bool.false_eq_true,if_false];have e0:=hflat d j oM;rw[hdat _ (by omega)]at e0;show cur[j]? = some (flatK enc 2 d)[j]!;rw[e0]
   rcases G8 j with h0 | h0
   .have:=hrel (j / 2) oM;rw[show j / 2 * 2=j by omega]at this;rw[this,h0];rfl
   rw[h0]
   have e1:j / 2 * 2+1=j:=by omega
   show cur[j]? = some (cur[j / 2 * 2+1]'(by omega));simp only[e1];rw[D3 (by omega)]
  simp[World.frozen?,hb]
 have eg:∀ args w,(callFunc 110 args).run Try.prog w=.ok (.enter 110 args) w:=enters_of Try.func110 kR rfl
 have hbk0:∀ (m:Nat) (os:Array Obj) (dk:Array (Fin n)),∀ q,q<w.heap.size->q≠g'->(sortWorldK enc 2 w g' 0 m dk os).heap[q]? = w.heap[q]?:=by
  intro m os dk q hq hne2;show (grow (Go.Sort.putRow id (Sort.ahead w m) g' 0 (flatK enc 2 dk)) os).heap[q]? = _;rw[heap_grow_old _ _ (by simpa using hq)]
  have:g'≠q:=fun e=>hne2 e.symm
  simp[Go.Sort.putRow,mapBlock,Sort.ahead,G9,this]
 have hCk:∀ (m:Nat) (os:Array Obj) (dk:Array (Fin n)),Cons M (sortWorldK enc 2 w g' 0 m dk os):=fun m os dk b o u hu=>by
  have h1:=hC b o u hu
  have hne2:b≠g':=fun e1=>by rw[e1,r5]at hu;cases hu
  rw[Qd (hbk0 m os dk b (NJ h1) hne2)];exact h1
 have hcmp:CmpLays Try.prog 110 #[] enc 2 cf g' 0 d.size w:=by
  intro m os dk hs x y;exact Try.cmp110 _ _ _ _ _ _ M _ (hCk m os dk) (harg x.1 oM) (harg y.1 oM) (hla _ (List.getElem_mem _))
 have hswo:SWO (ltOf cf):=⟨fun x=>swoF.irrefl _,fun x y z h1 h2=>swoF.trans _ _ _ h1 h2,fun x y z h1 h2=>swoF.ntrans _ _ _ h1 h2⟩
 have htot:∀ x y:Fin n,ltOf cf x y=false->ltOf cf y x=false->x=y:=fun x y h1 h2=>by
  have:=totF _ _ h1 h2;exact Fin.ext ((List.getElem_inj hnd).1 this)
 have hcon:=Try.slices_SortFunc_total (α:=Fin n) 2 aE zE enc (fun _=>rfl) hone cf hswo 110 #[] g' 0 cap d w eg hcmp hHd hgs (by rw[hds];exact hl) htot;rw[hds]at hcon;refine hcon.mono ?_
 rintro ed w' ⟨rfl,m,os,hw⟩
 obtain⟨s,hs⟩:∃ s,s=(d.toList.mergeSort fun x y=>!(ltOf cf) y x):=⟨_,rfl⟩;rw[<- hs]at hw
 have hsl:s.length=l.length:=by rw[hs,G6,Array.length_toList,hds]
 have hsort:sortF l=s.map fun i=>l[i.1]'(by omega):=by
  refine qkz l hn.symm s ?_;rw[hs,hd]
 have hw2:w'=grow (Go.Sort.putRow id (Sort.ahead w m) g' 0 (flatK enc 2 s.toArray)) os:=hw
 have hb':w'.heap[g']? = some (.cells (putCells id 0 (flatK enc 2 s.toArray) cur) 41 (0,0)):=by
  subst hw2;rw[heap_grow_old _ _ (by simpa using hgs)];simp[Go.Sort.putRow,mapBlock,Sort.ahead,G9,hb,onCells]
 have hbk:∀ q,q<w.heap.size->q≠g'->w'.heap[q]? = w.heap[q]?:=fun q hq hne2=>by rw[hw];exact hbk0 m os _ q hq hne2
 have hszw:w.heap.size<=w'.heap.size:=by subst hw2;simp[grow]
 have hps:(putCells id 0 (flatK enc 2 s.toArray) cur).size=cur.size:=by simp[putCells]
 refine⟨_,M,O,rfl,⟨by subst hw2;rfl,by subst hw2;rfl,by subst hw2;rfl,hszw,fun q hq=>hbk q hq.1 fun e1=>hq.2 2000000 (by rw[e1];exact p1)⟩,Sub.refl M,?_,fun _ _ _ _=>rfl,fun i c g hh=>?_,fun i i' c c' g hh hh'=>?_,fun c _ _=>Gh.Eq1.refl O c,⟨.tup (vs:=[]) rfl (fun j c v hc=>by simp at hc),trivial⟩,fun id x hx=>?_⟩
 .rw[hw];exact hCk m os _
 .obtain⟨rfl,h2⟩:=hO i c g hh;exact⟨Nat.lt_of_lt_of_le h2 hszw,.inr ⟨c,hh⟩⟩
 .obtain⟨rfl,_⟩:=hO i c g hh;obtain⟨rfl,_⟩:=hO i' c' g hh';exact⟨rfl,hOi c c' g hh hh'⟩
 simp only[look]at hx;split at hx
 .rename_i hbq;cases hx;obtain rfl:=(G7 hbq).symm;refine⟨k0,fun y hy=>?_,by simpa[Vo] using k2,.inr ⟨g',_,p1,RowAt.of hb',by rw[hps];exact r3,by rw[hps];simpa[Vo] using r4,r5,fun j c u hc hu=>?_⟩⟩
  .obtain⟨z,_,rfl⟩:=List.mem_map.1 hy;exact⟨rfl,rfl⟩
  have hjl:j<(sortF l).length * 2:=by
   have h1:=(List.getElem?_eq_some_iff.1 hc).1;rw[jh (cells2 _)]at h1
   simpa using h1
  rw[flat2 _ hjl]at hc;rw[Vo]at hjl
  have hjc:j<cur.size:=by omega
  have hput:(putCells id 0 (flatK enc 2 s.toArray) cur)[j]? = some ((flatK enc 2 s.toArray)[j]!):=by
   have hz:(flatK enc 2 s.toArray).size=l.length * 2:=by simp[hsl]
   simp only[putCells,Array.getElem?_mapIdx,D3 hjc,Option.map_some,hz];rw[if_pos (by omega)];simp
  rw[hput,hflat _ _ (by simpa[hsl] using hjl)]at hu
  have hsj:j / 2<s.length:=by omega
  have e1:s.toArray[j / 2]! = s[j / 2]:=by simp[hsj]
  have e2:(sortF l)[j / 2]'(by rw[Vo];omega)=l[(s[j / 2]).1]'(by omega):=by
   simp only[hsort,List.getElem_map]
  rw[e1]at hu;rw[e2]at hc;have hu:=Option.some.inj hu;subst hu
  rcases G8 j with h0 | h0
  .rw[h0]at hc ⊢;cases hc;exact .int _ _
  rw[h0]at hc ⊢;cases hc;exact harg _ oM
 cases hx
def apiF (f:rufact):apiFact:=if f.f_b=0 then ⟨f.qn,[f.f_a]⟩ else ⟨f.qn,[f.f_a,f.f_b]⟩
theorem qjk (f:rufact):ZM f=some (apiF f):=by
 obtain⟨a,b,c⟩:=f;unfold ZM apiF;by_cases h:c=0
 .subst h;rfl
 have:(c == 0)=false:=by simp[h]
 simp[this,h]
theorem qlz {f g:rufact} (h:apiF f=apiF g):f=g:=by
 obtain⟨a,b,c⟩:=f;obtain⟨d,e,i⟩:=g;unfold apiF at h;by_cases h1:c=0 <;> by_cases h2:i=0 <;> simp_all
abbrev fK (l:LB):LJ:=l.map fun p=>qh p.1
abbrev fV (l:LB):LJ:=l.map fun p=>AV.bool p.2
abbrev aL (l:LG):LJ:=l.map qH
abbrev apis (l:LB):LG:=l.map fun p=>apiF p.1
theorem qai {α β:Type} (f:α->β):∀ (l:List α) (j:Nat),(l.map f).eraseIdx j=(l.eraseIdx j).map f
 | [],j=>by simp
 | a::l,0=>by simp
 | a::l,j+1=>by simp[qai f l j]
theorem qia (rem:LB) (h:j<rem.length):nextEnt (fK rem) (fV rem) j=.hob 2 (qh rem[j].1::fK (rem.eraseIdx j)) (AV.bool rem[j].2::fV (rem.eraseIdx j)):=by
 unfold nextEnt fK fV;rw[qai,qai]
 have e1:(rem.map fun p=>qh p.1).getD j .und=qh rem[j].1:=by
  rw[H0,List.getElem?_map,D0 h];rfl
 have e2:(rem.map fun p=>AV.bool p.2).getD j .und=AV.bool rem[j].2:=by
  rw[H0,List.getElem?_map,D0 h];rfl
 rw[e1,e2]
theorem qbS {α:Type}:∀ (l:List α) (j:Nat) (h:j<l.length),l.Perm (l[j]::l.eraseIdx j)
 | [],j,h=>by simp at h
 | a::l,0,h=>by simp
 | a::l,j+1,h=>by
  have ih:=qbS l j (by simpa using h);simp only[A1,G2];exact (ih.cons a).trans (List.Perm.swap _ _ _)
theorem qhz {m:LG} (h:l.Perm m):sortF l=sortF m:=by
 have h1:∀ l:LG,(sortF l).Pairwise fun a b=>(!ltOf cfF b a)=true:=fun l=>List.pairwise_mergeSort (le:=fun a b=>!ltOf cfF b a) (by
  intro a b c h1 h2;simp only[D4]at *
  exact swoF.ntrans _ _ _ h2 h1) (by
  intro a b;simp only[Bool.or_eq_true,D4]
  cases hh:ltOf cfF b a with
  | false=>exact .inl rfl
  | true =>
   right;rw[ltF]at hh;rw[ltFf];have:=qaW a b
   omega) l
 refine List.Perm.eq_of_pairwise (le:=fun a b=>(!ltOf cfF b a)=true) (fun a b _ _ x y=>?_) (h1 l) (h1 m) ?_
 .simp only[D4]at x y;exact totF a b y x
 exact ((List.mergeSort_perm l _).trans h).trans (List.mergeSort_perm m _).symm
def nodupF:LI->Bool
 | []=>true
 | f::r=>!(r.any (qf f)) && nodupF r
theorem qbN:∀ {l:LI},nodupF l=true->l.Nodup
 | [],_=>by simp
 | f::r,h=>by
  simp only[nodupF,A3,D4,List.any_eq_false]at h;rw[List.nodup_cons];exact⟨fun hm=>h.1 f hm (XP.2 rfl),qbN h.2⟩
theorem qew:∀ {l:LI},l.Nodup->nodupF l=true
 | [],_=>rfl
 | f::r,h=>by
  rw[List.nodup_cons]at h;simp only[nodupF,A3,D4,List.any_eq_false];exact⟨fun g hg hk=>h.1 (by rw[XP.1 hk];exact hg),qew h.2⟩
def ListI (l:LB) (k:Nat) (e:Env):Prop:=∃ (acc:LG) (rem:LB) (y:AV),rem.length=k/\leftE y=some (fK rem,fV rem)/\(acc++apis rem).Perm (apis l) /\
 Goes 19 e [(3,.sb 1500003 41 2 0 acc.length),(6,.mb 1 1000006),(1000006,y),(1500003,.obj 41 2 (aL acc))]
theorem list58 {l:LB} (hl:l.length<=1000) (hnd:(l.map B1).Nodup):CallOk Try.prog 58 [mpE qh AV.bool l] (.lst 41 2 none (aL (sortF (apis l)))):=by
 have hnd2:(apis l).Nodup:=by
  have e:apis l=(l.map B1).map apiF:=by simp[apis,List.map_map,Function.comp_def]
  rw[e];exact List.Pairwise.map apiF (fun a b h e=>h (qlz e)) hnd
 refine qbY Try.func58 rfl kR (fun e k q xs hh=>by cases hh) ?_;refine CodeP.seq (CodeP.reg mixedP (e2:=[(0,mpE qh AV.bool l),(2,.nils)]) ?_);refine CodeP.wk (env':=[(0,mpE qh AV.bool l)])<|CodeP.seq (CodeP.reg mixedP (e2:=[(0,mpE qh AV.bool l),(3,.nils)]) ?_);refine CodeP.mv [.nil 3 41 2 1500003] (env':=[(0,mpE qh AV.bool l),(3,.sb 1500003 41 2 0 0),(1500003,.obj 41 2 [])])<|CodeP.seq (CodeP.seq (CodeP.reg mixedP (e2:=[(0,mpE qh AV.bool l),(3,.sb 1500003 41 2 0 0),(5,mpE qh AV.bool l),(6,.mb 1 1000006),(1000006,.hob 1 (fK l) (fV l)),(1500003,.obj 41 2 [])]) ?_));refine CodeP.wk (env':=[(3,.sb 1500003 41 2 0 0),(6,.mb 1 1000006),(1000006,.hob 1 (fK l) (fV l)),(1500003,.obj 41 2 [])])<|CodeP.block (CodeP.loop (I:=ListI l) ?_ l.length ⟨[],l,.hob 1 (fK l) (fV l),rfl,rfl,List.Perm.refl _,Goes.refl _⟩)
 rintro k e ⟨acc,rem,y,hk,hy,hp,hg⟩
 have hlen:acc.length+rem.length<=1000:=by
  have:=hp.length_eq;simp only[E9,C0]at this;omega
 refine CodeP.goes hg<|CodeP.seq<|CodeP.next mixedP rfl rfl kR (it:=1000006) (y:=y) (ks:=fK rem) (vs:=fV rem) rfl rfl hy (envF:=[(3,.sb 1500003 41 2 0 acc.length),(6,.mb 1 1000006),(7,.tup [.bool false]),(1000006,y),(1500003,.obj 41 2 (aL acc))]) kR
  (envT:=fun j=>[(3,.sb 1500003 41 2 0 acc.length),(6,.mb 1 1000006),(7,.tup [.bool true,.top,.top]),(1000006,nextEnt (fK rem) (fV rem) j),(1500003,.obj 41 2 (aL acc))]) (fun j _=>by kernel_rfl) (fun h0 _=>?_) (fun j hj _=>?_)
 .
  refine WO.end0 (e2:=[(3,.sb 1500003 41 2 0 acc.length),(6,.mb 1 1000006),(7,.tup [.bool false]),(8,.bool false),(1000006,y),(1500003,.obj 41 2 (aL acc))]) kR ?_
  have hr0:rem=[]:=by simpa[fK] using h0
  subst hr0
  have hpa:acc.Perm (apis l):=by simpa using hp
  have hnda:acc.Nodup:=hpa.nodup_iff.2 hnd2
  have hca:∀ f,f∈acc->f.qa.length<=1000000:=fun f hf=>by
   obtain⟨p,_,rfl⟩:=List.mem_map.1 (hpa.mem_iff.1 hf);unfold apiF;split <;> simp
  refine CodeP.seq (CodeP.cond false kR (fun h=>Bool.noConfusion h) (fun _=>CodeP.of mixedP (W.exit ?_)));refine CodeP.wk (env':=[(3,.sb 1500003 41 2 0 acc.length),(1500003,.obj 41 2 (aL acc))])<|CodeP.of mixedP<|W.seq<|W.region kR ?_;have hsort:Run Try.prog (.callM 109 [.sb 2000000 41 2 0 acc.length,.clo 110 []] [(2000000,.obj 41 2 (aL acc))] (.tup []) [(2000000,.obj 41 2 (aL (sortF acc)))]):=.extM (sort109 (by have:=hlen;simp at this;omega) hnda hca) (fun id x hx=>by simp only[look]at hx;split at hx <;> cases hx;rfl);refine WO.callMK 1 [(1500003,2000000)] [] (F:=109) (args:=[.sb 2000000 41 2 0 acc.length,.clo 110 []]) (hp:=[(2000000,.obj 41 2 (aL acc))]) (hp2:=[(2000000,.obj 41 2 (aL (sortF acc)))]) (r:=.tup []) kR hsort (e1:=[(3,.sb 1500003 41 2 0 acc.length),(16,.sb 1500003 41 2 0 acc.length),(17,.tup []),(1500003,.obj 41 2 (aL (sortF acc)))]) kR<|WO.fin [3,1500003] [] [] [] (e2:=[(3,.sb 1500003 41 2 0 acc.length),(1500003,.obj 41 2 (aL (sortF acc)))]) kR (fun _ h=>h) ?_;refine W.seq<|W.regT [2,1500003] [] [] [] (e2:=[(2,.sb 1500003 41 2 0 acc.length),(1500003,.obj 41 2 (aL (sortF acc)))]) kR kR (fun _ h=>h) ?_;have hsl:(sortF acc).length=acc.length:=Vo acc
  have hsn:snapA 0 acc.length (aL (sortF acc))=aL (sortF (apis l)):=by
   rw[qhz hpa]at hsl ⊢;unfold snapA aL;rw[List.drop_zero,F9 (by rw[C0,hsl];exact A0 _)]
  refine W.mv [.frz 1500003] (env':=[(2,.lst 41 2 none (aL (sortF (apis l))))]) ((by kernel_rfl:mvAll [(2,.sb 1500003 41 2 0 acc.length),(1500003,.obj 41 2 (aL (sortF acc)))] [.frz 1500003]=[(2,.lst 41 2 none (snapA 0 acc.length (aL (sortF acc))))]).trans (by rw[hsn])) ?_
  have hr:jX Try.prog Try.f58 [(2,.lst 41 2 none (aL (sortF (apis l))))]=some (.lst 41 2 none (aL (sortF (apis l)))):=by kernel_rfl
  exact W.ret hr
 
 have hj:j<rem.length:=by simpa[fK] using hj
 show WO Try.prog _ false _ _ _ [(3,.sb 1500003 41 2 0 acc.length),(6,.mb 1 1000006),(7,.tup [.bool true,.top,.top]),(1000006,nextEnt (fK rem) (fV rem) j),(1500003,.obj 41 2 (aL acc))];rw[qia rem hj]
 have hpt:(acc++[apiF rem[j].1]++apis (rem.eraseIdx j)).Perm (apis l):=by
  refine List.Perm.trans ?_ hp;rw[D2];refine List.Perm.append_left _ ?_;exact ((qbS rem j hj).map fun p=>apiF p.1).symm
 have hel:(rem.eraseIdx j).length=rem.length - 1:=by rw[G4,if_pos hj]
 generalize hp1:rem[j].1=pk at hpt ⊢;generalize hp2:rem[j].2=pv at hpt ⊢;generalize rem.eraseIdx j=rem2 at hpt hel ⊢;refine WO.end0 (e2:=[(3,.sb 1500003 41 2 0 acc.length),(6,.mb 1 1000006),(7,.tup [.bool true,.top,.top]),(8,.bool true),(1000006,.hob 2 (qh pk::fK rem2) (.bool pv::fV rem2)),(1500003,.obj 41 2 (aL acc))]) kR<|CodeP.seq (CodeP.cond true kR (fun _=>CodeP.of mixedP (W.skip ?_)) (fun h=>Bool.noConfusion h));refine CodeP.wk (env':=[(3,.sb 1500003 41 2 0 acc.length),(6,.mb 1 1000006),(1000006,.hob 2 (qh pk::fK rem2) (.bool pv::fV rem2)),(1500003,.obj 41 2 (aL acc))])<|CodeP.block (CodeP.seq (CodeP.reg mixedP (e2:=[(3,.sb 1500003 41 2 0 acc.length),(4,.box [.int .i64 pk.qn,.int .i64 pk.f_a,.int .i64 pk.f_b]),(6,.mb 1 1000006),(9,.tup [qh pk,.bool pv]),(10,qh pk),(1000006,.hob 2 (qh pk::fK rem2) (.bool pv::fV rem2)),(1500003,.obj 41 2 (aL acc))]) ?_));refine CodeP.wk (env':=[(3,.sb 1500003 41 2 0 acc.length),(4,.box [.int .i64 pk.qn,.int .i64 pk.f_a,.int .i64 pk.f_b]),(6,.mb 1 1000006),(1000006,.hob 2 (qh pk::fK rem2) (.bool pv::fV rem2)),(1500003,.obj 41 2 (aL acc))])<|CodeP.of mixedP (W.region kR ?_);refine WO.callK 2 (F:=108) (l:=[qh pk]) (C:=[]) (r:=qH (apiF pk)) kR kR (NL pk _ (qjk pk)) (e1:=[(3,.sb 1500003 41 2 0 acc.length),(4,.box [.int .i64 pk.qn,.int .i64 pk.f_a,.int .i64 pk.f_b]),(6,.mb 1 1000006),(11,.sb 1500003 41 2 0 acc.length),(12,qh pk),(13,qH (apiF pk)),(1000006,.hob 2 (qh pk::fK rem2) (.bool pv::fV rem2)),(1500003,.obj 41 2 (aL acc))]) kR<|WO.appendOK 1 (d:=15) (e:=41) (s:=2) (bytes:=32) (m:=acc.length) (n2:=(acc++[apiF pk]).length) (xs:=aL acc) (ys:=aL [apiF pk]) (zs:=aL (acc++[apiF pk])) (env1:=[(3,.top),(4,.box [.int .i64 pk.qn,.int .i64 pk.f_a,.int .i64 pk.f_b]),(6,.mb 1 1000006),(11,.top),(12,qh pk),(13,qH (apiF pk)),(14,.lst 41 2 (some 14) (aL [apiF pk])),(1000006,.hob 2 (qh pk::fK rem2) (.bool pv::fV rem2))]) kR ?_ ?_ (C0 _) (e1:=[(3,.top),(4,.box [.int .i64 pk.qn,.int .i64 pk.f_a,.int .i64 pk.f_b]),(6,.mb 1 1000006),(11,.top),(12,qh pk),(13,qH (apiF pk)),(14,.lst 41 2 (some 14) (aL [apiF pk])),(15,.sb 1000015 41 2 0 (acc++[apiF pk]).length),(1000006,.hob 2 (qh pk::fK rem2) (.bool pv::fV rem2)),(1000015,.obj 41 2 (aL (acc++[apiF pk])))]) kR ?_
 .have:(aL [apiF pk]).length=1:=rfl;rw[this];simp only[capOk,A3,Nat.ble_eq];omega
 .unfold snapA aL;rw[List.drop_zero,List.map_append,F9 (by rw[C0];exact A0 _)]
 refine WO.end0 (e2:=[(3,.sb 1000015 41 2 0 (acc++[apiF pk]).length),(4,.box [.int .i64 pk.qn,.int .i64 pk.f_a,.int .i64 pk.f_b]),(6,.mb 1 1000006),(11,.top),(12,qh pk),(13,qH (apiF pk)),(14,.lst 41 2 (some 14) (aL [apiF pk])),(15,.sb 1000015 41 2 0 (acc++[apiF pk]).length),(1000006,.hob 2 (qh pk::fK rem2) (.bool pv::fV rem2)),(1000015,.obj 41 2 (aL (acc++[apiF pk])))]) kR ?_;exact⟨rem.length - 1,by omega,acc++[apiF pk],rem2,.hob 2 (qh pk::fK rem2) (.bool pv::fV rem2),hel,rfl,hpt,Goes.wk (e1:=[(3,.sb 1000015 41 2 0 (acc++[apiF pk]).length),(6,.mb 1 1000006),(1000006,.hob 2 (qh pk::fK rem2) (.bool pv::fV rem2)),(1000015,.obj 41 2 (aL (acc++[apiF pk])))]) (Goes.mv [.ren 1000015 1500003] (Goes.refl _))⟩
end Go.AM
namespace Go.AM
open Go.Proofs
variable {α:Type} {l:LA}
def Yw (fuel:Nat) (a1:LH) (a2:LB) (a3:LB):Option LB:=consP fuel a1 a2 a3
theorem Dy (fuel:Nat) (a1:LH) (a2:LB) (a3:LB) (r:LB) (h:Yw fuel a1 a2 a3=some r):Run Try.prog (.call 74 [l54 none a1,mpE qh AV.bool a2,mpE qh AV.bool a3] (mpE qh AV.bool r)):=.ext0 (Try.cons74 h)
def Qg (v29:LB):Lm :=
 (some (v29,true))
def Xl (fuel:Nat) (v14:LB) (N1:(LB->Lm)) (v27:LH):Lm :=
 ((Yw fuel v27 v14 v14).bind fun w28=>(N1 w28))
def YS (N2:(LH->Lm)) (v26:LH):Lm :=
 (N2 v26)
def Qk (k1:Nat) (w5:(LA×Bool)) (K18:(LH->Lm)):LH->Nat->LH->Lm
 | [],k2,v20=>(K18 v20)
 | x2::r2,k2,v20=>((idx w5.1 x2.qi.qc).bind fun e24=>(bif (e24 == (k1:Int)) then (chk (capOk 56 ((v20++[x2])).length) ((YS (Qk k1 w5 K18 r2 (k2+1))) (v20++[x2]))) else ((YS (Qk k1 w5 K18 r2 (k2+1))) v20)))
def jQ (fuel:Nat) (a1:LH) (w5:(LA×Bool)) (K11:(LB->Lm)):LP->Nat->LB->Lm
 | [],k1,v14=>(K11 v14)
 | x1::r1,k1,v14=>(chk (lenOk a1) (Qk k1 w5 (Xl fuel v14 (jQ fuel a1 w5 K11 r1 (k1+1))) a1 0 ([]:LH)))
def Qc (fuel:Nat) (a1:LH) (a2:LG):Lm :=
 ((XU fuel a1).bind fun w5=>(bif (!w5.2) then (some (([]:LB),false)) else ((QS a2).bind fun w10=>((JW fuel w5.1).bind fun w13=>(chk (lenOk (D8 (D5 (D9 .i64 (w13+1))))) (jQ fuel a1 w5 (Qg) (D8 (D5 (D9 .i64 (w13+1)))) 0 w10))))))
theorem Nc (fuel:Nat) (a1:LH) (a2:LG) (r:(LB×Bool)) (h:Qc fuel a1 a2=some r):Run Try.prog (.call 57 [l54 none a1,l41 none a2] (.tup [mpE qh AV.bool r.1,.bool r.2])):=by
 refine cW Try.func57 rfl (env0:=[(0,l54 none a1),(1,l41 none a2)]) ?_;unfold Qc at h;refine W.seq ?_;let z0:=fun t=>EN ((0,l54 none a1)::t);let z1:=fun t=>z0 ((1,l41 none a2)::t);refine W.rt (e2:=z1 []) ?_;refine W.sr ?_;obtain⟨w5,hw5,h⟩:=qb h;refine WO.ck 1 (F:=85) (l:=[l54 none a1]) (C:=[]) (r:=.tup [l3 none w5.1,.bool w5.2]) (qdH fuel a1 w5 hw5) ?_;let z2:=fun t=>z1 ((6,l3 none w5.1)::t);refine WO.fn (e2:=z2 [(7,.bool w5.2)]) ?_;refine W.seq<|W.seq<|W.rt (e2:=z2 [(19,.bool (!w5.2))]) ?_;refine W.ch (!w5.2) h (fun h=>?_) (fun h=>?_)
 .refine W.seq ?_;let z3:=fun t=>EN ((4,mpE qh AV.bool ([]:LB))::(5,.bool false)::t);refine W.rt (e2:=z3 []) ?_;refine W.wk (e:=z3 []) ?_;cases h;exact W.rr
 refine W.sw (e:=z2 []) ?_;refine W.sr ?_;obtain⟨w10,hw10,h⟩:=qb h;refine WO.ck 1 (F:=73) (l:=[l41 none a2]) (C:=[]) (r:=mpE qh AV.bool w10) (Nf a2 w10 hw10) ?_;let z4:=fun t=>z0 ((6,l3 none w5.1)::t);let z5:=fun t=>z4 ((8,mpE qh AV.bool w10)::t);refine WO.fn (e2:=z5 []) ?_;refine W.seq<|W.join (σ:=(LB)) (fun s=>[(8,mpE qh AV.bool s)]) (fun s=>(Qg) s=some r) (fun v29 h=>?_) (fun hK11=>?_)
 .unfold Qg at h;refine W.seq ?_;let z6:=fun t=>EN ((4,mpE qh AV.bool v29)::(5,.bool true)::t);refine W.rt (e2:=z6 []) ?_;refine W.wk (e:=z6 []) ?_;cases h;exact W.rr
 refine W.sr ?_;obtain⟨w13,hw13,h⟩:=qb h;refine WO.ck 1 (F:=107) (l:=[l3 none w5.1]) (C:=[]) (r:=I6 w13) (YP fuel w5.1 w13 hw13)<|WO.fn (e2:=z5 [(24,I6 (W6 (w13+1))),(25,.int .i64 0)]) ?_;refine W.block ?_;obtain⟨hl1,h⟩:=qm h;refine W.wk<|W.range (σ:=(LB)) (D8 (D5 (W6 (w13+1)))) (fun k1 s=>z4 [(8,mpE qh AV.bool s),(24,I6 (W6 (w13+1))),(25,I6 (k1:Int))]) (fun r0 k0 s=>jQ fuel a1 w5 (Qg) r0 k0 s=some r) (fun v14 h=>?_) (fun x1 r1 k1 s hx1 hk1 h hN1=>?_) w10 h
 .rw[jQ.eq_1]at h;refine W.sr<|WO.pq 0 (jB (qjT (n:=(W6 (w13+1)))))<|WO.fn (e2:=z4 [(8,mpE qh AV.bool v14),(24,I6 (W6 (w13+1))),(25,I6 (((D8 (D5 (W6 (w13+1))))).length:Int)),(26,.bool false)]) ?_;exact W.seq<|W.cF<|W.exit<|W.wk (hK11 v14 h)
 obtain⟨v14,rfl⟩:∃ x,x=s:=⟨s,rfl⟩;rw[jQ.eq_2]at h;refine W.sr<|WO.pq 0 (jB (qkZ hk1)) ?_;let z7:=fun t=>z4 ((8,mpE qh AV.bool v14)::t);refine WO.fn (e2:=z7 [(24,I6 (W6 (w13+1))),(25,I6 (k1:Int)),(26,.bool true)]) ?_;refine W.seq<|W.cT ?_;let y0:Env:=[(24,I6 (W6 (w13+1))),(25,I6 (k1:Int))];refine W.sw (e:=z7 y0) ?_;refine W.seq<|W.block<|W.seq ?_;let z8:=fun t=>z7 ((9,I6 (k1:Int))::t);refine W.rt (e2:=z8 y0) ?_;refine W.seq<|W.rt (e2:=z8 ((10,.nils)::y0)) ?_;refine W.seq<|W.join (σ:=(LH)) (fun s=>z7 ((10,l54 (some 11000) s)::y0)) (fun s=>(Xl fuel v14 (jQ fuel a1 w5 (Qg) r1 (k1+1))) s=some r) (fun v27 h=>?_) (fun hK18=>?_)
 .unfold Xl at h;refine W.rg ?_;obtain⟨w28,hw28,h⟩:=qb h;refine WO.ck 3 (F:=74) (l:=[l54 none v27,mpE qh AV.bool v14,mpE qh AV.bool v14]) (C:=[]) (r:=mpE qh AV.bool w28) (Dy fuel v27 v14 v14 w28 hw28)<|WO.fn (e2:=z4 ((8,mpE qh AV.bool w28)::y0)) ?_;exact W.rg<|WO.pq 0 (jI (qN hl1 hk1))<|WO.fn (hN1 w28 h)
 refine W.sr<|WO.pq 1 (jM Xa a1)<|WO.fn (e2:=z8 [(10,.nils),(24,I6 (W6 (w13+1))),(25,I6 (k1:Int)),(28,l54 none a1),(29,I6 (a1.length:Int)),(30,.int .i64 0)]) ?_;refine W.block ?_;obtain⟨hl2,h⟩:=qm h;refine W.weak [0,6,8,9,10,24,25,28,29,30] [] [(10,0,54,3,11000)] [] (env':=z8 [(10,l54 (some 11000) ([]:LH)),(24,I6 (W6 (w13+1))),(25,I6 (k1:Int)),(28,l54 none a1),(29,I6 (a1.length:Int)),(30,I6 ((0:Nat):Int))]) kR<|W.range (σ:=(LH)) a1 (fun k2 s=>z8 [(10,l54 (some 11000) s),(24,I6 (W6 (w13+1))),(25,I6 (k1:Int)),(28,l54 none a1),(29,I6 (a1.length:Int)),(30,I6 (k2:Int))]) (fun r0 k0 s=>Qk k1 w5 (Xl fuel v14 (jQ fuel a1 w5 (Qg) r1 (k1+1))) r0 k0 s=some r) (fun v20 h=>?_) (fun x2 r2 k2 s hx2 hk2 h hN2=>?_) ([]:LH) h
 .rw[Qk.eq_1]at h;refine W.sr<|WO.pq 0 (jB (ja (l:=a1)))<|WO.fn (e2:=z8 [(10,l54 (some 11000) v20),(24,I6 (W6 (w13+1))),(25,I6 (k1:Int)),(28,l54 none a1),(29,I6 (a1.length:Int)),(30,I6 ((a1).length:Int)),(31,.bool false)]) ?_;exact W.seq<|W.cF<|W.exit<|W.wk (hK18 v20 h)
 obtain⟨v20,rfl⟩:∃ x,x=s:=⟨s,rfl⟩;rw[Qk.eq_2]at h;refine W.sr<|WO.pq 0 (jB (jy hk2)) ?_;let z9:=fun t=>z8 ((10,l54 (some 11000) v20)::t);refine WO.fn (e2:=z9 [(24,I6 (W6 (w13+1))),(25,I6 (k1:Int)),(28,l54 none a1),(29,I6 (a1.length:Int)),(30,I6 (k2:Int)),(31,.bool true)]) ?_;refine W.seq<|W.cT ?_;let y1:Env:=[(24,I6 (W6 (w13+1))),(25,I6 (k1:Int)),(28,l54 none a1),(29,I6 (a1.length:Int)),(30,I6 (k2:Int))];refine W.sw (e:=z9 y1) ?_;refine W.seq<|W.join (σ:=(LH)) (fun s=>z8 ((10,l54 (some 11000) s)::y1)) (fun s=>(YS (Qk k1 w5 (Xl fuel v14 (jQ fuel a1 w5 (Qg) r1 (k1+1))) r2 (k2+1))) s=some r) (fun v26 h=>?_) (fun hK21=>?_)
 .unfold YS at h;exact W.rg<|WO.pq 0 (jI (qN hl2 hk2))<|WO.fn (hN2 v26 h)
 refine W.block<|W.sr<|WO.pq 0 (jA (f:=Xa) hx2) ?_;let z10:=fun t=>z9 ((12,.ptr (.agg [I6 x2.qi.qc,l3 none x2.qi.qa,l56 none x2.qe]))::t);refine WO.fi [0,6,8,9,10,12,24,25,28,29,30] [12] (e2:=z10 y1) ?_;refine W.sr ?_;obtain⟨e24,he24,h⟩:=qb h;refine WO.pq 4 (ZX (f:=(AV.int .i64)) he24)<|WO.fn (e2:=z10 [(24,I6 (W6 (w13+1))),(25,I6 (k1:Int)),(28,l54 none a1),(29,I6 (a1.length:Int)),(30,I6 (k2:Int)),(41,.bool (e24 == (k1:Int)))]) ?_;refine W.ch (e24 == (k1:Int)) h (fun h=>?_) (fun h=>?_)
 .refine W.rg ?_;obtain⟨hc25,h⟩:=qm h;refine WO.ak 3 45 54 3 Xa v20 [x2] hc25<|WO.fin [0,6,8,9,10,24,25,28,29,30] [] [] [(45,some 11000)] (e2:=z8 ((10,l54 (some 11000) (v20++[x2]))::y1)) kR (fun _ h=>h) ?_;exact hK21 (v20++[x2]) h
 exact W.sw (hK21 v20 h)
def XG (a1:LB):Option LG:=chk (decide (a1.length<=1000) && nodupF (a1.map B1)) (some (sortF (apis a1)))
theorem qcf (a1:LB) (r:LG) (h:XG a1=some r):Run Try.prog (.call 58 [mpE qh AV.bool a1] (l41 none r)):=by
 unfold XG at h;obtain⟨hc,h⟩:=qm h;cases h;rw[A3,decide_eq_true_eq]at hc;exact .ext0 (list58 hc.1 (qbN hc.2))
def XH (fuel:Nat) (a1:LH) (a2:LG):Option (LG×Int) :=
 ((Xp fuel a1 a2).bind fun w6=>(bif (!w6) then (some (([]:LG),2)) else ((Qc fuel a1 a2).bind fun w9=>(bif (!w9.2) then (some (([]:LG),8)) else ((XG w9.1).bind fun w14=>(some (w14,0)))))))
theorem qau (fuel:Nat) (a1:LH) (a2:LG) (r:(LG×Int)) (h:XH fuel a1 a2=some r):Run Try.prog (.call 17 [l54 none a1,l41 none a2] (.tup [l41 none r.1,I6 r.2])):=by
 refine cW Try.func17 rfl (env0:=[(0,l54 none a1),(1,l41 none a2)]) ?_;unfold XH at h;refine W.seq ?_;let z0:=fun t=>EN ((0,l54 none a1)::(1,l41 none a2)::t);refine W.rt (e2:=z0 []) ?_;refine W.seq<|W.sr ?_;obtain⟨w6,hw6,h⟩:=qb h;refine WO.ck 2 (F:=56) (l:=[l54 none a1,l41 none a2]) (C:=[]) (r:=.bool w6) (Nb fuel a1 a2 w6 hw6)<|WO.fn (e2:=z0 [(11,.bool (!w6))]) ?_;refine W.ch (!w6) h (fun h=>?_) (fun h=>?_)
 .refine W.seq<|W.rt (e2:=[(4,.nils),(5,.int .i64 2)]) ?_;refine W.weak [4,5] [] [(4,0,41,2,70004)] [] (env':=[(4,l41 (some 70004) ([]:LG)),(5,.int .i64 2)]) kR ?_;cases h;exact W.rr
 refine W.sw (e:=z0 []) ?_;refine W.sr ?_;obtain⟨w9,hw9,h⟩:=qb h;refine WO.ck 2 (F:=57) (l:=[l54 none a1,l41 none a2]) (C:=[]) (r:=.tup [mpE qh AV.bool w9.1,.bool w9.2]) (Nc fuel a1 a2 w9 hw9) ?_;let z1:=fun t=>EN ((6,mpE qh AV.bool w9.1)::t);refine WO.fn (e2:=z1 [(7,.bool w9.2)]) ?_;refine W.seq<|W.seq<|W.rt (e2:=z1 [(19,.bool (!w9.2))]) ?_;refine W.ch (!w9.2) h (fun h=>?_) (fun h=>?_)
 .refine W.seq<|W.rt (e2:=[(4,.nils),(5,.int .i64 8)]) ?_;refine W.weak [4,5] [] [(4,0,41,2,70004)] [] (env':=[(4,l41 (some 70004) ([]:LG)),(5,.int .i64 8)]) kR ?_;cases h;exact W.rr
 refine W.sw (e:=z1 []) ?_;refine W.sr ?_;obtain⟨w14,hw14,h⟩:=qb h;refine WO.ck 1 (F:=58) (l:=[mpE qh AV.bool w9.1]) (C:=[]) (r:=l41 none w14) (qcf w9.1 w14 hw14)<|WO.fn (e2:=[(4,l41 none w14),(5,.int .i64 0)]) ?_;refine W.wk (e:=[(4,l41 none w14),(5,.int .i64 0)]) ?_;cases h;exact W.rr
def Vk (v6:Bool):LD :=
 (some v6)
def QZ (fuel:Nat):LD :=
 ((XH fuel [(ruRule.mk (qo.mk 1 [0]) [(ruLit.mk false (qo.mk 0 [0]))])] [(apiFact.mk 0 [3])]).bind fun w3=>(bif (w3.2 == 0) then ((Hj w3.1 [(apiFact.mk 0 [3]),(apiFact.mk 1 [3])]).bind fun w5=>((Vk) w5)) else ((Vk) false)))
theorem QN (fuel:Nat)  (r:Bool) (h:QZ fuel=some r):Run Try.prog (.call 21 [] (.bool r)):=by
 refine cW Try.func21 rfl (env0:=[]) ?_;unfold QZ at h;refine W.seq<|W.rt (e2:=[]) ?_;refine W.sr ?_;obtain⟨w3,hw3,h⟩:=qb h;refine WO.ck 11 (F:=17) (l:=[l54 none [(ruRule.mk (qo.mk 1 [0]) [(ruLit.mk false (qo.mk 0 [0]))])],l41 none [(apiFact.mk 0 [3])]]) (C:=[]) (r:=.tup [l41 none w3.1,I6 w3.2]) (qau fuel [(ruRule.mk (qo.mk 1 [0]) [(ruLit.mk false (qo.mk 0 [0]))])] [(apiFact.mk 0 [3])] w3 hw3)<|WO.fn (e2:=[(1,l41 none w3.1),(2,I6 w3.2)]) ?_;refine W.seq<|W.join (σ:=(Bool)) (fun s=>[(0,.bool s)]) (fun s=>(Vk) s=some r) (fun v6 h=>?_) (fun hK4=>?_)
 .unfold Vk at h;refine W.wk (e:=[(0,.bool v6)]) ?_;cases h;exact W.rr
 refine W.rg<|WO.bh 3 (fun b=>[(1,l41 none w3.1),(2,I6 w3.2),(18,I6 w3.2),(19,.bool b),(20,.bool b)]) (w3.2 == 0) h (fun h=>?_) (fun h=>?_)
 .obtain⟨w5,hw5,h⟩:=qb h;exact WO.ck 6 (F:=23) (l:=[l41 none w3.1,l41 none [(apiFact.mk 0 [3]),(apiFact.mk 1 [3])]]) (C:=[]) (r:=.bool w5) (qfq w3.1 [(apiFact.mk 0 [3]),(apiFact.mk 1 [3])] w5 hw5)<|WO.fn (hK4 w5 h)
 exact WO.fn (hK4 false h)
theorem qy {l:List α} (h:l.length<=9223372036854775807):lenOk l=true:=Nat.ble_eq_true_of_le oM
theorem Xc {b n:Nat} (hb:b<=64) (h:n<=1000000000):capOk b n=true:=by
 simp only[capOk,A3,Nat.ble_eq];refine⟨?_,by omega⟩;exact Nat.le_trans (Nat.mul_le_mul h hb) oM
theorem NH {b:Bool} {o:Option α} (h:b=true):chk b o=o:=by rw[h];rfl
theorem wrap64 {n:Int} (h1 : -9223372036854775808<=n) (h2:n<=9223372036854775807):D9 .i64 n=n:=by
 simp[D9,IntKind.signed,IntKind.bits];omega
def cvA (a:rf2Atom):qo:=⟨a.qc,a.qa.take 5⟩
def cvL (x:rf3Lit):ruLit:=⟨x.qw,cvA x.qg⟩
def cvR (r:rf3Rule):ruRule:=⟨cvA r.qi,(r.qe.take 5).map cvL⟩
def cvF (f:apiFact):apiFact:=⟨f.qc,f.qa.take 9⟩
theorem qcw (n:Nat):sub l 0 (if (n:Int)<(l.length:Int) then (n:Int) else (l.length:Int))=some (l.take n):=by
 unfold sub;split
 .rw[if_pos ⟨by omega,by omega,by omega⟩];simp
 rw[if_pos ⟨by omega,by omega,by omega⟩];simp[F9 (show l.length<=n by omega)]
theorem qbA (h:l.length<=1000):Qe l=some l:=by
 unfold Qe;rw[NH (Xc (by omega) (by omega))]
theorem qhl (a:rf2Atom):UN a=some (cvA a):=by
 unfold UN;have:=qcw (l:=a.qa) 5;rw[show ((5:Nat):Int)=5 from rfl]at this;rw[this];show (Qe (a.qa.take 5)).bind _=_;rw[qbA (by simp;omega)];rfl
theorem qlY (l:LA):qaE l=some (l.take 9):=by
 unfold qaE;have:=qcw (l:=l) 9;rw[show ((9:Nat):Int)=9 from rfl]at this;rw[this];show (Qe (l.take 9)).bind _=_;rw[qbA (by simp;omega)];rfl
theorem qkT (K:ruRule->Option LH):∀ (body:Lq) (k:Nat) (rel:Int) (args:LA) (acc:LQ),acc.length<=k->acc.length<=5->Qz K body k rel args acc=K ⟨⟨rel,args⟩,acc++(body.take (5 - k)).map cvL⟩
 | [],k,rel,args,acc,_,_=>by simp[Qz]
 | x::r,k,rel,args,acc,h1,h2=>by
  rw[Qz];by_cases hk:k<5
  .rw[dT (by omega:(k:Int)<5),cT,qhl];show chk _ _=_;rw[NH (Xc (by omega) (by simp;omega))];unfold Zp;rw[qkT K r (k+1) rel args _ (by simp;omega) (by simp;omega)];obtain⟨m,hm⟩:∃ m,5 - k=m+1:=⟨5 - k - 1,by omega⟩;rw[hm,show 5 - (k+1)=m by omega,G0,G1,D2];rfl
  rw[dF (by omega:¬ (k:Int)<5),cN];unfold Zp;rw[qkT K r (k+1) rel args acc (by omega) h2,show 5 - (k+1)=0 by omega,show 5 - k=0 by omega];simp
theorem qmh (K:LH->Option LH):∀ (l:LN) (k:Nat) (acc:LH),(∀ r,r∈l->lenOk r.qe=true)->acc.length<=k->acc.length<=12->Qp K l k acc=K (acc++(l.take (12 - k)).map cvR)
 | [],k,acc,_,_,_=>by simp[Qp]
 | x::r,k,acc,hb,h1,h2=>by
  rw[Qp];by_cases hk:k > 11
  .rw[dT (by omega:(k:Int) > 11),cT,show 12 - k=0 by omega];simp
  rw[dF (by omega:¬ (k:Int) > 11),cN,qhl];show chk (lenOk x.qe) _=_;rw[NH (hb x (E0 ..)),qkT _ _ _ _ _ _ (by simp) (by simp)];show chk _ _=_;rw[NH (Xc (by omega) (by simp;omega)),qmh K r (k+1) _ (fun q hq=>hb q (H4 _ hq)) (by simp;omega) (by simp;omega)];obtain⟨m,hm⟩:∃ m,12 - k=m+1:=⟨12 - k - 1,by omega⟩;rw[hm,show 12 - (k+1)=m by omega,G0,G1,D2];rfl
theorem qmk {l:LN} (hl:lenOk l=true) (hb:∀ r,r∈l->lenOk r.qe=true):Ns l=some ((l.take 12).map cvR):=by
 unfold Ns;rw[NH hl,qmh _ _ _ _ hb (by simp) (by simp)];rfl
theorem qgW (K:LG->Option LG):∀ (l:LG) (k:Nat) (acc:LG),acc.length<=k->acc.length<=26->QJ K l k acc=K (acc++(l.take (26 - k)).map cvF)
 | [],k,acc,_,_=>by simp[QJ]
 | x::r,k,acc,h1,h2=>by
  rw[QJ];by_cases hk:k > 25
  .rw[dT (by omega:(k:Int) > 25),cT,show 26 - k=0 by omega];simp
  rw[dF (by omega:¬ (k:Int) > 25),cN,qlY];show chk _ _=_;rw[NH (Xc (by omega) (by simp;omega)),qgW K r (k+1) _ (by simp;omega) (by simp;omega)];obtain⟨m,hm⟩:∃ m,26 - k=m+1:=⟨26 - k - 1,by omega⟩;rw[hm,show 26 - (k+1)=m by omega,G0,G1,D2];rfl
theorem qkc {l:LG} (hl:lenOk l=true):Yg l=some ((l.take 26).map cvF):=by
 unfold Yg;rw[NH hl,qgW _ _ _ _ (by simp) (by simp)];rfl
def groundP (f:apiFact):Prop:=(0<=f.qc/\f.qc<=5)/\(1<=f.qa.length/\f.qa.length<=2)/\∀ x,x∈f.qa->1<=x/\x<=6
def fitP (rel:Int) (args:LA):Prop:=(0<=rel/\rel<=5)/\(1<=args.length/\args.length<=2)/\∀ x,x∈args -> -6<=x/\x<=7
instance (f:apiFact):Decidable (groundP f):=by unfold groundP;infer_instance
instance (rel:Int) (args:LA):Decidable (fitP rel args):=by unfold fitP;infer_instance
theorem qeG (K:LD):∀ (args:LA) (k:Nat),Xv K args k=if ∀ x,x∈args->1<=x/\x<=6 then K else some false
 | [],k=>by simp[Xv]
 | x::r,k=>by
  rw[Xv];unfold Uw;rw[qeG K r (k+1)];by_cases h1:x<1
  .rw[dT h1,cT,cT,if_neg (fun h=>by have:=h x (E0 ..);omega)]
  rw[dF h1,cN];by_cases h2:x > 6
  .rw[dT h2,cT,if_neg (fun h=>by have:=h x (E0 ..);omega)]
  rw[dF h2,cN]
  have:(∀ y,y∈x::r->1<=y/\y<=6)↔∀ y,y∈r->1<=y/\y<=6:=by
   simp only[List.mem_cons,forall_eq_or_imp];exact⟨fun h=>h.2,fun h=>⟨by omega,h⟩⟩
  simp only[this]
theorem qih {f:apiFact} (hl:lenOk f.qa=true):DW f=some (decide (groundP f)):=by
 unfold DW;rw[NH hl,qeG];unfold DG XI;by_cases h:∀ x,x∈f.qa->1<=x/\x<=6
 .rw[if_pos h];by_cases h1:f.qc >= 0
  .rw[dT h1,cT];by_cases h2:f.qc<=5
   .rw[dT h2,cT];by_cases h3:(f.qa.length:Int) >= 1
    .rw[dT h3,cT]
     congr 1
     rw[decide_eq_decide];unfold groundP;constructor
     .intro h4;exact⟨⟨h1,h2⟩,⟨by omega,by omega⟩,h⟩
     intro h4;have:=h4.2.1.2;omega
    rw[dF h3,cN,dF (fun h4:groundP f=>by have:=h4.2.1.1;omega)]
   rw[dF h2,cN,dF (fun h4:groundP f=>h2 h4.1.2)]
  rw[dF h1,cN,dF (fun h4:groundP f=>h1 h4.1.1)]
 rw[if_neg h,dF (fun h4:groundP f=>h h4.2.2)]
open Classical
def szF (f:apiFact):Jz:=⟨f.qc,(f.qa.length:Int)⟩
def szA (a:rf2Atom):Jz:=⟨a.qc,(a.qa.length:Int)⟩
def sizesR (r:rf3Rule):List Jz:=szA r.qi::r.qe.map fun b=>szA b.qg
def conP (S:List Jz):Prop:=∀ x,x∈S->∀ y,y∈S->x.f_0=y.f_0->x.f_1=y.f_1
def safeR (r:rf3Rule):Prop:=∀ i:Nat,i<8->(((i:Int)∈r.qi.qa\/∃ b,b∈r.qe/\(i:Int)∈b.qg.qa)↔∃ b,b∈r.qe/\b.qw=false/\(i:Int)∈b.qg.qa)
def okR (r:rf3Rule):Prop:=fitP r.qi.qc r.qi.qa/\r.qe.length<=3/\(∀ b,b∈r.qe->fitP b.qg.qc b.qg.qa)/\safeR r
def VR (l:LN) (facts:LG):Prop:=l.length<=10/\facts.length<=20/\(∀ f,f∈facts->groundP f)/\(∀ r,r∈l->okR r)/\conP (facts.map szF++l.flatMap sizesR)
def okArgs (l:LA):Prop:=lenOk l=true/\∀ x,x∈l->wfI .i64 x=true
def okAtom (a:rf2Atom):Prop:=wfI .i64 a.qc=true/\okArgs a.qa
def okRule (r:rf3Rule):Prop:=okAtom r.qi/\lenOk r.qe=true/\∀ b,b∈r.qe->okAtom b.qg
def okRules (l:LN):Prop:=lenOk l=true/\∀ r,r∈l->okRule r
def okFact (f:apiFact):Prop:=wfI .i64 f.qc=true/\okArgs f.qa
def okFacts (l:LG):Prop:=lenOk l=true/\∀ f,f∈l->okFact f
end Go.AM
namespace Go.AM
open Go.Proofs
open Classical
variable {l n:LA} {S:List Jz}
theorem qiR {fuel:Nat} (hf:4<=fuel) (h1:1<=l.length) (h2:l.length<=2):∃ m,XD fuel l=some m/\m∈l/\∀ x,x∈l->m<=x:=by
 obtain⟨f,rfl⟩:∃ f,fuel=f+4:=⟨fuel - 4,by omega⟩
 match l,h1,h2 with
 | [a],_,_ =>
  refine⟨a,?_,by simp,by simp⟩;simp[XD,JO,Qi,idx]
 | [a,b],_,_ =>
  have e:XD (f+4) [a,b]=some (if b<a then b else a):=by
   simp[XD,JO,Qi,idx,wrap64]
  rw[e];by_cases h:b<a
  .rw[if_pos h];exact⟨b,rfl,by simp,by simp;omega⟩
  rw[if_neg h];exact⟨a,rfl,by simp,by simp;omega⟩
theorem qiV {fuel:Nat} (hf:4<=fuel) (h1:1<=l.length) (h2:l.length<=2):∃ m,JW fuel l=some m/\m∈l/\∀ x,x∈l->x<=m:=by
 obtain⟨f,rfl⟩:∃ f,fuel=f+4:=⟨fuel - 4,by omega⟩
 match l,h1,h2 with
 | [a],_,_ =>
  refine⟨a,?_,by simp,by simp⟩;simp[JW,jF,JP,idx]
 | [a,b],_,_ =>
  have e:JW (f+4) [a,b]=some (if b > a then b else a):=by
   simp[JW,jF,JP,idx,wrap64]
  rw[e];by_cases h:b > a
  .rw[if_pos h];exact⟨b,rfl,by simp,by simp;omega⟩
  rw[if_neg h];exact⟨a,rfl,by simp,by simp;omega⟩
def rangeP (s:Jz):Prop:=(0<=s.f_0/\s.f_0<=5)/\1<=s.f_1/\s.f_1<=2
def Tab (n:LA) (S:List Jz):Prop:=n.length=6/\(∀ s,s∈S->rangeP s)/\∀ i:Nat,i<6->(n[i]? = some 0/\∀ s,s∈S->s.f_0≠i)\/∃ k,n[i]? = some k/\k≠0/\(⟨i,k⟩:Jz)∈S/\∀ s,s∈S->s.f_0=i->s.f_1=k
theorem Tab.zero:Tab (E8 6 0) []:=⟨by simp,fun s hs=>by simp at hs,fun i hi=>.inl ⟨by rw[List.getElem?_replicate,if_pos hi],fun s hs=>by simp at hs⟩⟩
theorem Tab.con (h:Tab n S):conP S:=by
 intro x hx y hy hxy;obtain⟨⟨r1,r2⟩,_⟩:=h.2.1 x hx
 rcases h.2.2 x.f_0.toNat oM with ⟨_,q⟩ | ⟨k,_,_,_,q⟩
 .exact absurd (show x.f_0=(x.f_0.toNat:Int) by omega) (q x hx)
 rw[q x hx (by omega),q y hy (by omega)]
theorem Tab.add (h:Tab n S) (rel k:Int) :
  ((rangeP ⟨rel,k⟩/\conP (S++[⟨rel,k⟩]))/\∃ n',JU n rel k=some (true,n')/\Tab n' (S++[⟨rel,k⟩]))\/(¬ (rangeP ⟨rel,k⟩/\conP (S++[⟨rel,k⟩]))/\JU n rel k=some (false,n)):=by
 unfold JU jx;by_cases h1:rel<0
 .rw[dT h1,cT,cT];exact .inr ⟨fun h2=>by have:=h2.1.1.1;simp only at this;omega,rfl⟩
 rw[dF h1,cN];by_cases h2:rel >= 6
 .rw[dT h2,cT,cT];exact .inr ⟨fun h2=>by have:=h2.1.1.2;simp only at this;omega,rfl⟩
 rw[dF h2,cN];by_cases h3:k<1
 .rw[dT h3,cT,cT];exact .inr ⟨fun h2=>by have:=h2.1.2.1;simp only at this;omega,rfl⟩
 rw[dF h3,cN];by_cases h4:k > 2
 .rw[dT h4,cT,cT];exact .inr ⟨fun h2=>by have:=h2.1.2.2;simp only at this;omega,rfl⟩
 rw[dF h4,cN];have hr:rangeP ⟨rel,k⟩:=⟨⟨by simp only;omega,by simp only;omega⟩,by simp only;omega,by simp only;omega⟩;obtain⟨i,rfl⟩:∃ i:Nat,rel=i:=⟨rel.toNat,by omega⟩
 have hi:i<6:=by omega
 have e0:(0+D5 (i:Int) * 1)=i:=by omega
 rw[NH (dT (by omega)),e0]
 have hset:∀ m:Int,n[i]? = some m->(m=0\/m=k)->conP (S++[⟨i,k⟩])/\Tab (n.set i k) (S++[⟨i,k⟩]):=by
  intro m hm hmk
  have hq:∀ s,s∈S->s.f_0=i->s.f_1=k:=by
   rcases h.2.2 i hi with ⟨q1,q2⟩ | ⟨k',q1,q2,q3,q4⟩
   .exact fun s hs e=>absurd e (q2 s hs)
   rw[hm]at q1;cases q1;intro s hs e;rw[q4 s hs e]
   rcases hmk with h5 | h5
   .exact absurd h5 q2
   exact h5
  have hTab:Tab (n.set i k) (S++[⟨i,k⟩]):=by
   refine⟨by simp[h.1],fun s hs=>?_,fun j hj=>?_⟩
   .rcases List.mem_append.1 hs with hs | hs
    .exact h.2.1 s hs
    rw[List.mem_singleton.1 hs];exact hr
   by_cases hij:j=i
   .subst hij;refine .inr ⟨k,by rw[List.getElem?_set_self (by rw[h.1];omega)],by omega,by simp,fun s hs e=>?_⟩
    rcases List.mem_append.1 hs with hs | hs
    .exact hq s hs e
    rw[List.mem_singleton.1 hs]
   rw[List.getElem?_set_ne (fun e=>hij e.symm)]
   rcases h.2.2 j hj with ⟨q1,q2⟩ | ⟨k',q1,q2,q3,q4⟩
   .refine .inl ⟨q1,fun s hs=>?_⟩
    rcases List.mem_append.1 hs with hs | hs
    .exact q2 s hs
    rw[List.mem_singleton.1 hs];simp only;omega
   refine .inr ⟨k',q1,q2,E7 _ q3,fun s hs e=>?_⟩
   rcases List.mem_append.1 hs with hs | hs
   .exact q4 s hs e
   rw[List.mem_singleton.1 hs]at e;simp only at e;omega
  exact⟨hTab.con,hTab⟩
 have hlen:i<n.length:=by rw[h.1];exact hi
 rcases h.2.2 i hi with ⟨q1,q2⟩ | ⟨k',q1,q2,q3,q4⟩
 .rw[q1];simp only[A9,bne_self_eq_false,cN];rw[NH (dT (by omega)),NH (dT hlen)];obtain⟨c1,c2⟩:=hset 0 q1 (.inl rfl);exact .inl ⟨⟨hr,c1⟩,_,rfl,c2⟩
 rw[q1];simp only[A9]
 have:(k' != 0)=true:=by simp[q2]
 rw[this,cT];by_cases hk:k'=k
 .have e1:(k' != k)=false:=by simp[hk]
  rw[e1,cN,NH (dT (by omega)),NH (dT (by omega)),NH (dT hlen)];obtain⟨c1,c2⟩:=hset k' q1 (.inr hk);exact .inl ⟨⟨hr,c1⟩,_,rfl,c2⟩
 have e1:(k' != k)=true:=by simp[hk]
 rw[e1,cT,NH (dT (by omega))];exact .inr ⟨fun h2=>hk (h2.2 ⟨i,k'⟩ (E7 _ q3) ⟨i,k⟩ (by simp) rfl),rfl⟩
theorem VP {fuel:Nat} (hf:4<=fuel) (f:apiFact):XW fuel f=some (decide (groundP f)):=by
 unfold XW XV
 rcases Tab.zero.add f.qc (f.qa.length:Int) with ⟨⟨h1,_⟩,n',h2,_⟩ | ⟨h1,h2⟩
 .rw[h2];simp only[A9,cT];obtain⟨⟨r1,r2⟩,r3,r4⟩:=h1;simp only at r1 r2 r3 r4;obtain⟨m,e1,e2,e3⟩:=qiR hf (l:=f.qa) oM oM;rw[e1];simp only[A9];by_cases hm:m >= 1
  .rw[dT hm,cT];obtain⟨M,g1,g2,g3⟩:=qiV hf (l:=f.qa) oM oM;rw[g1];simp only[A9]
   congr 1
   rw[decide_eq_decide];constructor
   .intro h;exact⟨⟨r1,r2⟩,⟨by omega,by omega⟩,fun x hx=>⟨by have:=e3 x hx;omega,by have:=g3 x hx;omega⟩⟩
   intro h;exact (h.2.2 M g2).2
  rw[dF hm,cN,dF (fun h:groundP f=>by have:=(h.2.2 m e2).1;omega)]
 rw[h2];simp only[A9,cN];rw[dF];intro h;refine h1 ⟨⟨h.1,by simp only;have:=h.2.1.1;omega,by simp only;have:=h.2.1.2;omega⟩,?_⟩;intro x hx y hy _;rw[F7]at hx hy;rw[List.mem_singleton.1 hx,List.mem_singleton.1 hy]
theorem qaU {T:List Jz} (h:conP (S++T)):conP S:=fun x hx y hy e=>h x (E7 _ hx) y (E7 _ hy) e
theorem qeq {fuel:Nat} (hf:4<=fuel) (K:LA->LD):∀ (l:LG) (k:Nat) (n:LA) (S:List Jz),Tab n S ->
  (((∀ f,f∈l->groundP f)/\conP (S++l.map szF))/\∃ n',JE fuel K l k n=K n'/\Tab n' (S++l.map szF))\/(¬ ((∀ f,f∈l->groundP f)/\conP (S++l.map szF))/\JE fuel K l k n=some false)
 | [],k,n,S,h=>.inl ⟨⟨fun f hf=>by simp at hf,by simpa using h.con⟩,n,by rw[JE],by simpa using h⟩
 | x::r,k,n,S,h=>by
  rw[JE,VP hf];simp only[A9];unfold XT;by_cases hx:groundP x
  .rw[dT hx];simp only[Bool.not_true,cN]
   have e:S++(x::r).map szF=S++[szF x]++r.map szF:=by simp
   rcases h.add x.qc (x.qa.length:Int) with ⟨⟨q1,q2⟩,n',q3,q4⟩ | ⟨q1,q2⟩
   .rw[q3];simp only[A9,Bool.not_true,cN]
    rcases qeq hf K r (k+1) n' _ q4 with ⟨⟨p1,p2⟩,n2,p3,p4⟩ | ⟨p1,p2⟩
    .rw[e];refine .inl ⟨⟨fun f hf=>?_,p2⟩,n2,p3,p4⟩
     rcases List.mem_cons.1 hf with rfl | hf
     .exact hx
     exact p1 f hf
    rw[e];exact .inr ⟨fun h2=>p1 ⟨fun f hf=>h2.1 f (H4 _ hf),h2.2⟩,p2⟩
   rw[q2];simp only[A9,Bool.not_false,cT];refine .inr ⟨fun h2=>q1 ⟨⟨hx.1,?_,?_⟩,?_⟩,by first | rfl | trivial⟩
   .have:=hx.2.1.1;simp only;omega
   .have:=hx.2.1.2;simp only;omega
   rw[e]at h2;exact qaU h2.2
  rw[dF hx];simp only[Bool.not_false,cT];exact .inr ⟨fun h2=>hx (h2.1 x (E0 ..)),by first | rfl | trivial⟩
end Go.AM
