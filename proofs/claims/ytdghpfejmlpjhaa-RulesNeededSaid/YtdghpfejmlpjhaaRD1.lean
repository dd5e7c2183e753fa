/- s -/
import Derived.Test.YtdghpfejmlpjhaaRDT
set_option maxRecDepth 100000
set_option linter.unusedVariables false
set_option linter.unusedSimpArgs false
namespace Go.AM
open Go.Proofs
def Xi (a1:(List (rufact×Bool))):Option (List apiFact):=chk (decide (a1.length≤1000) && nodupF (a1.map Prod.fst)) (some (sortF (apis a1)))
theorem VK (a1:(List (rufact×Bool))) (r:(List apiFact)) (h:Xi a1=some r):Run Try.prog (.callM 58 [mpE qh AV.bool a1] [] (.sb 1900000 41 2 0 r.length) [(1900000,.obj 41 2 (List.map qg r))]):=by
 unfold Xi at h;obtain⟨hc,h⟩:=qi h;cases h;rw[Bool.and_eq_true,decide_eq_true_eq]at hc;exact .extM (list58o hc.1 (Vj hc.2)) (fun id x hx=>by simp only[look]at hx;split at hx <;> cases hx;rfl)
def jv (fuel:Nat) (a1:(List ruRule)) (a2:(List apiFact)):Option ((List apiFact)×Int) :=
 ((Qo fuel a1 a2).bind fun w6=>(bif (!w6) then (some (([]:(List apiFact)),2)) else ((Xy fuel a1 a2).bind fun w9=>(bif (!w9.2) then (some (([]:(List apiFact)),8)) else ((Xi w9.1).bind fun w14=>(some (w14,0)))))))
theorem Zc (fuel:Nat) (a1:(List ruRule)) (a2:(List apiFact)) (r:((List apiFact)×Int)) (h:jv fuel a1 a2=some r):Run Try.prog (.callM 17 [l54 none a1,l41 none a2] [] (.tpr 1900000 41 2 0 ((r.1).length) [I6 r.2]) [(1900000,.obj 41 2 (List.map qg r.1))]):=by
 refine cM Try.func17 rfl (env0:=[(0,l54 none a1),(1,l41 none a2)]) ?_;unfold jv at h;refine W.seq ?_
 let z0:=fun t=>EN ((0,l54 none a1)::(1,l41 none a2)::t)
 refine W.rt (e2:=z0 []) ?_;refine W.seq ?_;refine W.seq ?_;refine W.rg ?_;obtain⟨w6,hw6,h⟩:=qf h;refine WO.ck 2 (F:=56) (l:=[l54 none a1,l41 none a2]) (C:=[]) (r:=.bool w6) (Zx fuel a1 a2 w6 hw6) (e1:=z0 [(8,l54 none a1),(9,l41 none a2),(10,.bool w6)]) ?_;refine WO.fn (e2:=z0 [(11,.bool (!w6))]) ?_;refine W.cb (!w6) (fun hb=>?_) (fun hb=>?_)
 ·replace h:=qv hb h;refine W.seq ?_;refine W.rt (e2:=[(4,.nils),(5,.int .i64 2)]) ?_
  let z1:=fun t=>EN ((4,.sb 1900000 41 2 0 (([]:(List apiFact)).length))::(5,.int .i64 2)::(1900000,.obj 41 2 (List.map qg ([]:(List apiFact))))::t)
  refine W.mv [.nil 4 41 2 1900000] (env':=z1 []) (by kernel_rfl) ?_;refine W.wk (env':=z1 []) ?_;have hr:PostM Try.prog Try.f17 (.tpr 1900000 41 2 0 (([]:(List apiFact)).length) [.int .i64 2]) [(1900000,.obj 41 2 (List.map qg ([]:(List apiFact))))] .ret [(4,.sb 1900000 41 2 0 (([]:(List apiFact)).length)),(5,.int .i64 2),(1900000,.obj 41 2 (List.map qg ([]:(List apiFact))))]:=⟨by kernel_rfl,by kernel_rfl⟩;cases h;exact W.ret hr
 replace h:=qw hb h;refine W.skip ?_;refine W.wk (env':=z0 []) ?_;refine W.seq ?_;refine W.rg ?_;obtain⟨w9,hw9,h⟩:=qf h;refine WO.ck 2 (F:=57) (l:=[l54 none a1,l41 none a2]) (C:=[]) (r:=.tup [mpE qh AV.bool w9.1,.bool w9.2]) (Ux fuel a1 a2 w9 hw9) (e1:=z0 [(13,l54 none a1),(14,l41 none a2),(15,.tup [mpE qh AV.bool w9.1,.bool w9.2])]) ?_
 let z2:=fun t=>EN ((6,mpE qh AV.bool w9.1)::t)
 refine WO.fn (e2:=z2 [(7,.bool w9.2)]) ?_;refine W.seq ?_;refine W.seq ?_;refine W.rt (e2:=z2 [(19,.bool (!w9.2))]) ?_;refine W.cb (!w9.2) (fun hb=>?_) (fun hb=>?_)
 ·replace h:=qv hb h;refine W.seq ?_;refine W.rt (e2:=[(4,.nils),(5,.int .i64 8)]) ?_
  let z3:=fun t=>EN ((4,.sb 1900000 41 2 0 (([]:(List apiFact)).length))::(5,.int .i64 8)::(1900000,.obj 41 2 (List.map qg ([]:(List apiFact))))::t)
  refine W.mv [.nil 4 41 2 1900000] (env':=z3 []) (by kernel_rfl) ?_;refine W.wk (env':=z3 []) ?_;have hr:PostM Try.prog Try.f17 (.tpr 1900000 41 2 0 (([]:(List apiFact)).length) [.int .i64 8]) [(1900000,.obj 41 2 (List.map qg ([]:(List apiFact))))] .ret [(4,.sb 1900000 41 2 0 (([]:(List apiFact)).length)),(5,.int .i64 8),(1900000,.obj 41 2 (List.map qg ([]:(List apiFact))))]:=⟨by kernel_rfl,by kernel_rfl⟩;cases h;exact W.ret hr
 replace h:=qw hb h;refine W.skip ?_;refine W.wk (env':=z2 []) ?_;refine W.seq ?_;refine W.rg ?_;obtain⟨w14,hw14,h⟩:=qf h;refine WO.cm 1 [] [(1000021,1900000)] (F:=58) (args:=[mpE qh AV.bool w9.1]) (hp:=[]) (hp2:=[(1900000,.obj 41 2 (List.map qg w14))]) (r:=.sb 1900000 41 2 0 ((w14).length)) (VK w9.1 w14 hw14) (e1:=z2 [(20,mpE qh AV.bool w9.1),(21,.sb 1000021 41 2 0 ((w14).length)),(1000021,.obj 41 2 (List.map qg w14))]) ?_;refine WO.fn (e2:=[(4,.sb 1000021 41 2 0 ((w14).length)),(5,.int .i64 0),(1000021,.obj 41 2 (List.map qg w14))]) ?_
 let z4:=fun t=>EN ((4,.sb 1900000 41 2 0 ((w14).length))::(5,.int .i64 0)::(1900000,.obj 41 2 (List.map qg w14))::t)
 refine W.mv [.ren 1000021 1900000] (env':=z4 []) (by kernel_rfl) ?_;refine W.wk (env':=z4 []) ?_;have hr:PostM Try.prog Try.f17 (.tpr 1900000 41 2 0 ((w14).length) [.int .i64 0]) [(1900000,.obj 41 2 (List.map qg w14))] .ret [(4,.sb 1900000 41 2 0 ((w14).length)),(5,.int .i64 0),(1900000,.obj 41 2 (List.map qg w14))]:=⟨by kernel_rfl,by kernel_rfl⟩;cases h;exact W.ret hr
def qz (n2:Nat) (v29:(List apiFact)) (v30:Int):Option (Nat×(List apiFact)) :=
 (chk (decide ((0:Int)≤v30∧v30≤((n2:Nat):Int)∧((n2:Nat):Int)≤((n2:Nat):Int))) (chk (decide ((0:Int)≤0∧0≤v30∧v30≤((n2:Nat):Int))) (some ((Int.toNat v30 - Int.toNat 0),(v29.take (0+Int.toNat v30)++List.replicate (Int.toNat ((n2:Nat):Int) - Int.toNat v30) (apiFact.mk 0 ([]:(List Int)))++v29.drop ((0+Int.toNat v30)+(Int.toNat ((n2:Nat):Int) - Int.toNat v30)))))))
def jj (v14:Int) (N1:((List apiFact)→Int→Int→Option (Nat×(List apiFact)))) (v27:(List apiFact)) (v28:Int):Option (Nat×(List apiFact)) :=
 (N1 v27 v28 (IntKind.wrap .i64 (v14+1)))
def qt (n2:Nat) (g3:(apiFact→Option Bool)) (K10:((List apiFact)→Int→Option (Nat×(List apiFact)))):Nat→(List apiFact)→Int→Int→Option (Nat×(List apiFact))
 | 0,_,_,_=>none
 | m1+1,v12,v13,v14=>(bif (decide (v14<((n2:Nat):Int))) then (chk (decide ((0:Int)≤v14∧v14<((n2:Nat):Int))) ((v12[(0+Int.toNat v14)]?).bind fun e20=>((g3 e20).bind fun w22=>(bif (!w22) then (chk (decide ((0:Int)≤v13∧v13<((n2:Nat):Int))) ((upd v12 (0+Int.toNat v13) e20).bind fun u25=>((jj v14 (qt n2 g3 K10 m1)) u25 (IntKind.wrap .i64 (v13+1))))) else ((jj v14 (qt n2 g3 K10 m1)) v12 v13))))) else (K10 v12 v13))
def jJ (fuel:Nat) (a1:(List apiFact)) (n2:Nat) (g3:(apiFact→Option Bool)):Option (Nat×(List apiFact)) :=
 ((Jw (snap 0 n2 a1) g3).bind fun w6=>(bif (w6 == (-1)) then (some (n2,a1)) else (qt n2 g3 (qz n2) fuel a1 w6 (IntKind.wrap .i64 (w6+1)))))
theorem QU (fuel:Nat) (a1:(List apiFact)) (n2:Nat) (g3:(apiFact→Option Bool)) (F_g3:Nat) (C_g3:List AV) (hok_g3:okFn Try.prog F_g3=true) (hrun_g3:∀ (x0:apiFact) r,g3 x0=some r→Run Try.prog (.call F_g3 ([.agg [I6 x0.qb,l3 none x0.qa]]++C_g3) (.bool r))) (r:(Nat×(List apiFact))) (h:jJ fuel a1 n2 g3=some r):Run Try.prog (.callM 45 [.sb 2000000 41 2 0 n2,.clo F_g3 C_g3] [(2000000,.obj 41 2 (List.map qg a1))] (.sb 2000000 41 2 0 r.1) [(2000000,.obj 41 2 (List.map qg r.2))]):=by
 refine cM Try.func45 rfl (env0:=[(0,.sb 2000000 41 2 0 n2),(1,.clo F_g3 C_g3),(2000000,.obj 41 2 (List.map qg a1))]) ?_;unfold jJ at h;refine W.seq ?_;refine W.rg ?_
 let z0:=fun t=>EN ((0,.sb 2000000 41 2 0 n2)::(1,.clo F_g3 C_g3)::t)
 refine WO.steps 1 (e1:=z0 [(4,.nils),(2000000,.obj 41 2 (List.map qg a1))]) (by kernel_rfl) ?_;refine WO.mv [.nil 4 41 2 1200004] (env':=z0 [(4,.sb 1200004 41 2 0 (([]:(List apiFact)).length)),(1200004,.obj 41 2 (List.map qg ([]:(List apiFact)))),(2000000,.obj 41 2 (List.map qg a1))]) (by kernel_rfl) ?_;refine WO.fn (e2:=z0 [(2000000,.obj 41 2 (List.map qg a1))]) ?_;refine W.seq ?_;refine W.rg ?_;obtain⟨w6,hw6,h⟩:=qf h;refine WO.callRK 2 (F:=92) (l:=[.lst 41 2 none (snapA 0 n2 (List.map qg a1)),.clo F_g3 C_g3]) (C:=[]) (args:=[l41 none (snap 0 n2 a1),.clo F_g3 C_g3]) (r:=I6 w6) (by kernel_rfl) (by first | (simp only[QW,Qs,QV,List.cons_append,List.nil_append];done) | (simp only[QW,Qs,QV,List.cons_append,List.nil_append];kernel_rfl)) (by kernel_rfl) (by kernel_rfl) (YR (snap 0 n2 a1) g3 F_g3 C_g3 hok_g3 hrun_g3 w6 hw6) (e1:=z0 [(8,.sb 2000000 41 2 0 n2),(9,.clo F_g3 C_g3),(10,I6 w6),(2000000,.obj 41 2 (List.map qg a1))]) (by kernel_rfl) ?_
 let z1:=fun t=>z0 ((5,I6 w6)::(2000000,.obj 41 2 (List.map qg a1))::t)
 refine WO.fn (e2:=z1 []) ?_;refine W.seq ?_;refine W.seq ?_
 let z2:=fun t=>z0 ((5,I6 w6)::t)
 refine W.rt (e2:=z2 [(12,.bool (w6 == (-1))),(2000000,.obj 41 2 (List.map qg a1))]) ?_;refine W.cb (w6 == (-1)) (fun hb=>?_) (fun hb=>?_)
 ·replace h:=qv hb h;refine W.seq ?_
  let z3:=fun t=>EN ((4,.sb 2000000 41 2 0 n2)::(2000000,.obj 41 2 (List.map qg a1))::t)
  refine W.rt (e2:=z3 []) ?_;refine W.wk (env':=z3 []) ?_;have hr:PostM Try.prog Try.f45 (.sb 2000000 41 2 0 n2) [(2000000,.obj 41 2 (List.map qg a1))] .ret [(4,.sb 2000000 41 2 0 n2),(2000000,.obj 41 2 (List.map qg a1))]:=⟨by kernel_rfl,by kernel_rfl⟩;cases h;exact W.ret hr
 replace h:=qw hb h;refine W.skip ?_;refine W.wk (env':=z1 []) ?_;refine W.seq ?_
 let z4:=fun t=>EN ((0,.sb 2000000 41 2 0 n2)::t)
 refine W.join (σ:=((List apiFact)×Int)) (fun s=>z4 [(5,I6 s.2),(2000000,.obj 41 2 (List.map qg s.1))]) (fun s=>(qz n2) s.1 s.2=some r) (fun s h=>?_) (fun hK10=>?_)
 ·obtain⟨v29,v30⟩:=s;have h:(qz n2) v29 v30=some r:=h;unfold qz at h;refine W.seq ?_;refine W.rg ?_;obtain⟨hc32,h⟩:=qi h
  let z5:=fun t=>z4 ((5,I6 v30)::(36,.sb 2000000 41 2 0 n2)::(37,I6 v30)::(38,.sb 2000000 41 2 (0+Int.toNat v30) (Int.toNat ((n2:Nat):Int) - Int.toNat v30))::t)
  refine WO.pi 2 (v:=.sb 2000000 41 2 (0+Int.toNat v30) (Int.toNat ((n2:Nat):Int) - Int.toNat v30)) hc32 (e1:=z5 [(2000000,.obj 41 2 (List.map qg v29))]) ?_;refine WO.clearK 0 (qg (apiFact.mk 0 ([]:(List Int)))) (e1:=z5 [(2000000,.obj 41 2 ((List.map qg v29).take (0+Int.toNat v30)++List.replicate (Int.toNat ((n2:Nat):Int) - Int.toNat v30) (qg (apiFact.mk 0 ([]:(List Int))))++(List.map qg v29).drop ((0+Int.toNat v30)+(Int.toNat ((n2:Nat):Int) - Int.toNat v30))))]) (by kernel_rfl) ?_;rw[qeZ (F:=qg)];refine WO.fn (e2:=z4 [(5,I6 v30),(2000000,.obj 41 2 (List.map qg (v29.take (0+Int.toNat v30)++List.replicate (Int.toNat ((n2:Nat):Int) - Int.toNat v30) (apiFact.mk 0 ([]:(List Int)))++v29.drop ((0+Int.toNat v30)+(Int.toNat ((n2:Nat):Int) - Int.toNat v30)))))]) ?_;refine W.seq ?_;refine W.rg ?_;obtain⟨hc34,h⟩:=qi h;refine WO.pi 2 (v:=.sb 2000000 41 2 (0+Int.toNat 0) (Int.toNat v30 - Int.toNat 0)) hc34 (e1:=z4 [(5,I6 v30),(39,.sb 2000000 41 2 0 n2),(40,I6 v30),(41,.sb 2000000 41 2 (0+Int.toNat 0) (Int.toNat v30 - Int.toNat 0)),(2000000,.obj 41 2 (List.map qg (v29.take (0+Int.toNat v30)++List.replicate (Int.toNat ((n2:Nat):Int) - Int.toNat v30) (apiFact.mk 0 ([]:(List Int)))++v29.drop ((0+Int.toNat v30)+(Int.toNat ((n2:Nat):Int) - Int.toNat v30)))))]) ?_
  let z6:=fun t=>EN ((4,.sb 2000000 41 2 (0+Int.toNat 0) (Int.toNat v30 - Int.toNat 0))::(2000000,.obj 41 2 (List.map qg (v29.take (0+Int.toNat v30)++List.replicate (Int.toNat ((n2:Nat):Int) - Int.toNat v30) (apiFact.mk 0 ([]:(List Int)))++v29.drop ((0+Int.toNat v30)+(Int.toNat ((n2:Nat):Int) - Int.toNat v30)))))::t)
  refine WO.fn (e2:=z6 []) ?_;refine W.wk (env':=z6 []) ?_;have hr:PostM Try.prog Try.f45 (.sb 2000000 41 2 0 (Int.toNat v30 - Int.toNat 0)) [(2000000,.obj 41 2 (List.map qg (v29.take (0+Int.toNat v30)++List.replicate (Int.toNat ((n2:Nat):Int) - Int.toNat v30) (apiFact.mk 0 ([]:(List Int)))++v29.drop ((0+Int.toNat v30)+(Int.toNat ((n2:Nat):Int) - Int.toNat v30)))))] .ret [(4,.sb 2000000 41 2 (0+Int.toNat 0) (Int.toNat v30 - Int.toNat 0)),(2000000,.obj 41 2 (List.map qg (v29.take (0+Int.toNat v30)++List.replicate (Int.toNat ((n2:Nat):Int) - Int.toNat v30) (apiFact.mk 0 ([]:(List Int)))++v29.drop ((0+Int.toNat v30)+(Int.toNat ((n2:Nat):Int) - Int.toNat v30)))))]:=⟨by kernel_rfl,by kernel_rfl⟩;cases h;exact W.ret hr
 refine W.seq ?_
 let z7:=fun t=>z2 ((6,I6 (W6 (w6+1)))::(2000000,.obj 41 2 (List.map qg a1))::t)
 refine W.rt (e2:=z7 []) ?_;refine W.block ?_;refine W.wk (env':=z7 []) ?_;refine W.fuel (σ:=((List apiFact)×Int×Int)) (fun s=>z0 [(5,I6 s.2.1),(6,I6 s.2.2),(2000000,.obj 41 2 (List.map qg s.1))]) (fun m0 s=>qt n2 g3 (qz n2) m0 s.1 s.2.1 s.2.2=some r) (fun s h=>?_) (fun m1 s h hN1=>?_) fuel (a1,w6,(W6 (w6+1))) h
 ·obtain⟨v12,v13,v14⟩:=s;have h:qt n2 g3 (qz n2) 0 v12 v13 v14=some r:=h;rw[qt.eq_1]at h;cases h
 ·obtain⟨v12,v13,v14⟩:=s;have h:qt n2 g3 (qz n2) (m1+1) v12 v13 v14=some r:=h;rw[qt.eq_2]at h;refine W.seq ?_;refine W.seq ?_
  let z8:=fun t=>z0 ((5,I6 v13)::(6,I6 v14)::t)
  refine W.rt (e2:=z8 [(19,.bool (decide (v14<((n2:Nat):Int)))),(2000000,.obj 41 2 (List.map qg v12))]) ?_;refine W.cb (decide (v14<((n2:Nat):Int))) (fun hb=>?_) (fun hb=>?_)
  ·replace h:=qv hb h;refine W.skip ?_
   let z9:=fun t=>z8 ((2000000,.obj 41 2 (List.map qg v12))::t)
   refine W.wk (env':=z9 []) ?_;refine W.seq ?_;refine W.join (σ:=((List apiFact)×Int)) (fun s=>z0 [(5,I6 s.2),(6,I6 v14),(2000000,.obj 41 2 (List.map qg s.1))]) (fun s=>(jj v14 (qt n2 g3 (qz n2) m1)) s.1 s.2=some r) (fun s h=>?_) (fun hK17=>?_)
   ·obtain⟨v27,v28⟩:=s;have h:(jj v14 (qt n2 g3 (qz n2) m1)) v27 v28=some r:=h;unfold jj at h;refine W.rt (e2:=z0 [(5,I6 v28),(6,I6 (W6 (v14+1))),(2000000,.obj 41 2 (List.map qg v27))]) ?_;exact hN1 (v27,v28,(W6 (v14+1))) h
   refine W.block ?_;refine W.seq ?_;refine W.rg ?_;obtain⟨hc19,h⟩:=qi h
   let z10:=fun t=>z8 ((22,.sb 2000000 41 2 0 n2)::(23,I6 v14)::(24,.pe 2000000 2 (0+Int.toNat v14) 0)::t)
   refine WO.pi 2 (v:=.pe 2000000 2 (0+Int.toNat v14) 0) hc19 (e1:=z10 [(2000000,.obj 41 2 (List.map qg v12))]) ?_;obtain⟨e20,he20,h⟩:=qf h;refine WO.pl 0 (v:=.agg [I6 e20.qb,l3 none e20.qa]) qg 41 0 he20 (e1:=z10 [(25,.agg [I6 e20.qb,l3 none e20.qa]),(2000000,.obj 41 2 (List.map qg v12))]) ?_
   let z11:=fun t=>z8 ((7,.ptr (.agg [I6 e20.qb,l3 none e20.qa]))::t)
   refine WO.fin [0,1,5,6,7,2000000] [7] [] [] (e2:=z11 [(2000000,.obj 41 2 (List.map qg v12))]) (by kernel_rfl) (fun _ h=>h) ?_;refine W.seq ?_;refine W.rg ?_;obtain⟨w22,hw22,h⟩:=qf h;refine WO.callK 2 (F:=F_g3) (l:=[.agg [I6 e20.qb,l3 none e20.qa]]) (C:=C_g3) (r:=.bool w22) (by kernel_rfl) hok_g3 (hrun_g3 e20 w22 hw22) (e1:=z11 [(26,.clo F_g3 C_g3),(27,.agg [I6 e20.qb,l3 none e20.qa]),(28,.bool w22),(2000000,.obj 41 2 (List.map qg v12))]) (by kernel_rfl) ?_
   let z12:=fun t=>z11 ((29,.bool (!w22))::t)
   refine WO.fn (e2:=z12 [(2000000,.obj 41 2 (List.map qg v12))]) ?_;refine W.cb (!w22) (fun hb=>?_) (fun hb=>?_)
   ·replace h:=qv hb h;refine W.seq ?_;refine W.rg ?_;obtain⟨hc24,h⟩:=qi h
    let z13:=fun t=>z12 ((30,.sb 2000000 41 2 0 n2)::(31,I6 v13)::(32,.agg [I6 e20.qb,l3 none e20.qa])::(33,.pe 2000000 2 (0+Int.toNat v13) 0)::t)
    refine WO.pi 3 (v:=.pe 2000000 2 (0+Int.toNat v13) 0) hc24 (e1:=z13 [(2000000,.obj 41 2 (List.map qg v12))]) ?_;obtain⟨u25,hu25,h⟩:=qf h;obtain⟨y26,hyy26,hzy26⟩:=qbu hu25;refine WO.sk 0 (id:=2000000) (e:=41) (s:=2) (off:=0) (vs:=[I6 e20.qb,l3 none e20.qa]) (qg) hyy26 hzy26 (e1:=z13 [(2000000,.obj 41 2 (List.map qg u25))]) ?_;refine WO.fn (e2:=z8 [(2000000,.obj 41 2 (List.map qg u25))]) ?_;refine W.rt (e2:=z0 [(5,I6 (W6 (v13+1))),(6,I6 v14),(2000000,.obj 41 2 (List.map qg u25))]) ?_;exact hK17 (u25,(W6 (v13+1))) h
   replace h:=qw hb h;refine W.skip ?_;refine W.wk (env':=z9 []) ?_;exact hK17 (v12,v13) h
  replace h:=qw hb h;refine W.exit ?_;refine W.wk (env':=z4 [(5,I6 v13),(2000000,.obj 41 2 (List.map qg v12))]) ?_;exact hK10 (v12,v13) h
def jI (a1:apiFact) (c2:Int):Option Bool :=
 (some (a1.qb != c2))
theorem XJ (a1:apiFact) (c2:Int) (r:Bool) (h:jI a1 c2=some r):Run Try.prog (.call 44 [.agg [I6 a1.qb,l3 none a1.qa],.ptr (I6 c2)] (.bool r)):=by
 refine cW Try.func44 rfl (env0:=[(0,.agg [I6 a1.qb,l3 none a1.qa]),(1,.ptr (I6 c2))]) ?_;unfold jI at h;refine W.seq ?_;refine W.regT [1,2] [2] [] [] (e2:=[(1,.ptr (I6 c2)),(2,.ptr (.agg [I6 a1.qb,l3 none a1.qa]))]) (by kernel_rfl) (by kernel_rfl) (fun _ h=>h) ?_;refine W.seq ?_;refine W.rt (e2:=[(3,.bool (a1.qb != c2))]) ?_;refine W.wk (env':=[(3,.bool (a1.qb != c2))]) ?_;cases h;exact W.ret (show qq _ _ _=some _ by kernel_rfl)
def jF (v23:Bool):Option Bool :=
 (some v23)
def JF (v34:Bool):Option Bool :=
 (some v34)
def Jf (fuel:Nat) (a3:Int) (w12:((List apiFact)×Int)) (w15:((List apiFact)×Int)) (v26:Bool):Option Bool :=
 (bif v26 then (some false) else ((jJ fuel w12.1 ((w12.1).length) (fun y0=>jI y0 (IntKind.wrap .i64 (((IntKind.wrap .u64 a3)).tmod 6)))).bind fun w30=>((jJ fuel w15.1 ((w15.1).length) (fun y0=>jI y0 (IntKind.wrap .i64 (((IntKind.wrap .u64 a3)).tmod 6)))).bind fun w31=>((Zl (snap 0 w30.1 w30.2) (snap 0 w31.1 w31.2)).bind fun w32=>(bif w32 then ((Xs fuel).bind fun w33=>((JF) w33)) else ((JF) false))))))
def js (fuel:Nat) (a1:(List rf3Rule)) (a3:Int) (w8:((List ruRule)×Int)) (w12:((List apiFact)×Int)) (w15:((List apiFact)×Int)) (v18:Bool):Option Bool :=
 (bif v18 then (bif (w8.2 == 2) then ((Xs fuel).bind fun w20=>((jF) w20)) else (bif (w12.2 == 2) then ((Xs fuel).bind fun w21=>((jF) w21)) else (bif (w12.2 == 8) then ((Xs fuel).bind fun w22=>((jF) w22)) else ((jF) false)))) else (bif (w15.2 != 0) then ((Jf fuel a3 w12 w15) true) else ((Jf fuel a3 w12 w15) (decide ((w8.1.length:Int) > (a1.length:Int))))))
def Xj (fuel:Nat) (a1:(List rf3Rule)) (a2:(List apiFact)) (a3:Int):Option Bool :=
 ((Ns a1).bind fun w7=>((XL fuel w7 (IntKind.wrap .i64 (((IntKind.wrap .u64 a3)).tmod 6))).bind fun w8=>((Ns a1).bind fun w10=>((Yl a2).bind fun w11=>((jv fuel w10 w11).bind fun w12=>((Yl a2).bind fun w14=>((jv fuel w8.1 w14).bind fun w15=>(bif (w8.2 != 0) then ((js fuel a1 a3 w8 w12 w15) true) else ((js fuel a1 a3 w8 w12 w15) (w12.2 != 0))))))))))
theorem VM (fuel:Nat) (a1:(List rf3Rule)) (a2:(List apiFact)) (a3:Int) (r:Bool) (h:Xj fuel a1 a2 a3=some r):Run Try.prog (.call 12 [l94 none a1,l41 none a2,I6 a3] (.bool r)):=by
 refine cW Try.func12 rfl (env0:=[(0,l94 none a1),(1,l41 none a2),(2,I6 a3)]) ?_;unfold Xj at h;refine W.seq ?_
 let z0:=fun t=>EN ((0,l94 none a1)::t)
 let z1:=fun t=>z0 ((1,l41 none a2)::t)
 refine W.rt (e2:=z1 [(5,.box [I6 a3])]) ?_;refine W.seq ?_
 let z2:=fun t=>z1 ((5,.ptr (I6 (W6 (((IntKind.wrap .u64 a3)).tmod 6))))::t)
 refine W.regT [0,1,5] [5] [] [] (e2:=z2 []) (by kernel_rfl) (by kernel_rfl) (fun _ h=>h) ?_;refine W.seq ?_;refine W.rg ?_;obtain⟨w7,hw7,h⟩:=qf h
 let z3:=fun t=>z2 ((19,l94 none a1)::(20,l54 none w7)::t)
 refine WO.ck 1 (F:=18) (l:=[l94 none a1]) (C:=[]) (r:=l54 (some 1) w7) (Hs a1 w7 hw7) (e1:=z3 []) ?_;obtain⟨w8,hw8,h⟩:=qf h;refine WO.ck 1 (F:=39) (l:=[l54 none w7,I6 (W6 (((IntKind.wrap .u64 a3)).tmod 6))]) (C:=[]) (r:=.tup [l54 none w8.1,I6 w8.2]) (Dw fuel w7 (W6 (((IntKind.wrap .u64 a3)).tmod 6)) w8 hw8) (e1:=z3 [(21,I6 (W6 (((IntKind.wrap .u64 a3)).tmod 6))),(22,.tup [l54 none w8.1,I6 w8.2])]) ?_
 let z4:=fun t=>z2 ((7,l54 none w8.1)::(8,I6 w8.2)::t)
 refine WO.fn (e2:=z4 []) ?_;refine W.seq ?_;refine W.rg ?_;obtain⟨w10,hw10,h⟩:=qf h
 let z5:=fun t=>z4 ((26,l94 none a1)::(27,l54 (some 27) w10)::t)
 refine WO.ck 1 (F:=18) (l:=[l94 none a1]) (C:=[]) (r:=l54 (some 1) w10) (Hs a1 w10 hw10) (e1:=z5 []) ?_;obtain⟨w11,hw11,h⟩:=qf h
 let z6:=fun t=>z5 ((28,l41 none a2)::(29,l41 (some 29) w11)::t)
 refine WO.ck 1 (F:=19) (l:=[l41 none a2]) (C:=[]) (r:=l41 (some 1) w11) (VP a2 w11 hw11) (e1:=z6 []) ?_;obtain⟨w12,hw12,h⟩:=qf h;refine WO.cm 0 [] [(1000030,1900000)] (F:=17) (args:=[l54 none w10,l41 none w11]) (hp:=[]) (hp2:=[(1900000,.obj 41 2 (List.map qg w12.1))]) (r:=.tpr 1900000 41 2 0 ((w12.1).length) [I6 w12.2]) (Zc fuel w10 w11 w12 hw12) (e1:=z6 [(30,.tpr 1000030 41 2 0 ((w12.1).length) [I6 w12.2]),(1000030,.obj 41 2 (List.map qg w12.1))]) ?_
 let z7:=fun t=>z4 ((9,.sb 1000030 41 2 0 ((w12.1).length))::(10,I6 w12.2)::t)
 refine WO.fn (e2:=z7 [(1000030,.obj 41 2 (List.map qg w12.1))]) ?_;refine W.seq ?_;refine W.rg ?_;obtain⟨w14,hw14,h⟩:=qf h
 let z8:=fun t=>z7 ((34,l54 none w8.1)::(35,l41 none a2)::(36,l41 (some 36) w14)::t)
 refine WO.ck 2 (F:=19) (l:=[l41 none a2]) (C:=[]) (r:=l41 (some 1) w14) (VP a2 w14 hw14) (e1:=z8 [(1000030,.obj 41 2 (List.map qg w12.1))]) ?_;obtain⟨w15,hw15,h⟩:=qf h;refine WO.cm 0 [] [(1000037,1900000)] (F:=17) (args:=[l54 none w8.1,l41 none w14]) (hp:=[]) (hp2:=[(1900000,.obj 41 2 (List.map qg w15.1))]) (r:=.tpr 1900000 41 2 0 ((w15.1).length) [I6 w15.2]) (Zc fuel w8.1 w14 w15 hw15) (e1:=z8 [(37,.tpr 1000037 41 2 0 ((w15.1).length) [I6 w15.2]),(1000030,.obj 41 2 (List.map qg w12.1)),(1000037,.obj 41 2 (List.map qg w15.1))]) ?_
 let z9:=fun t=>z0 ((5,.ptr (I6 (W6 (((IntKind.wrap .u64 a3)).tmod 6))))::(7,l54 none w8.1)::(8,I6 w8.2)::(9,.sb 1000030 41 2 0 ((w12.1).length))::(10,I6 w12.2)::(11,.sb 1000037 41 2 0 ((w15.1).length))::(12,I6 w15.2)::t)
 refine WO.fn (e2:=z9 [(1000030,.obj 41 2 (List.map qg w12.1)),(1000037,.obj 41 2 (List.map qg w15.1))]) ?_;refine W.seq ?_;refine W.seq ?_;refine W.join (σ:=(Bool)) (fun s=>z9 [(45,.bool s),(1000030,.obj 41 2 (List.map qg w12.1)),(1000037,.obj 41 2 (List.map qg w15.1))]) (fun s=>(js fuel a1 a3 w8 w12 w15) s=some r) (fun v18 h=>?_) (fun hK17=>?_)
 ·have h:(js fuel a1 a3 w8 w12 w15) v18=some r:=h;unfold js at h;refine W.cb v18 (fun hb=>?_) (fun hb=>?_)
  ·replace h:=qv hb h;refine W.seq ?_;refine W.join (σ:=(Bool)) (fun s=>[(6,.bool s)]) (fun s=>(jF) s=some r) (fun v23 h=>?_) (fun hK19=>?_)
   ·have h:(jF) v23=some r:=h;unfold jF at h;refine W.wk (env':=[(6,.bool v23)]) ?_;cases h;exact W.ret (show qq _ _ _=some _ by kernel_rfl)
   refine W.rg ?_
   let z10:=fun t=>z9 ((45,.bool v18)::(46,I6 w8.2)::t)
   refine WO.bk 3 (fun b=>z10 [(47,.bool b),(48,.bool b),(1000030,.obj 41 2 (List.map qg w12.1)),(1000037,.obj 41 2 (List.map qg w15.1))]) (w8.2 == 2) (fun hb=>?_) (fun hb=>?_)
   ·replace h:=qv hb h;obtain⟨w20,hw20,h⟩:=qf h;refine WO.ck 8 (F:=21) (l:=[]) (C:=[]) (r:=.bool w20) (XU fuel w20 hw20) (e1:=z10 [(47,.bool true),(48,.bool true),(49,.und),(50,.und),(51,.bool true),(52,.bool true),(53,.und),(54,.und),(55,.bool true),(56,.bool true),(57,.bool w20),(1000030,.obj 41 2 (List.map qg w12.1)),(1000037,.obj 41 2 (List.map qg w15.1))]) ?_;refine WO.fn (e2:=[(6,.bool w20)]) ?_;exact hK19 w20 h
   replace h:=qw hb h
   let z11:=fun t=>z10 ((47,.bool false)::(48,.bool false)::(49,I6 w12.2)::t)
   refine WO.bk 4 (fun b=>z11 [(50,.bool b),(51,.bool b),(52,.bool b),(1000030,.obj 41 2 (List.map qg w12.1)),(1000037,.obj 41 2 (List.map qg w15.1))]) (w12.2 == 2) (fun hb=>?_) (fun hb=>?_)
   ·replace h:=qv hb h;obtain⟨w21,hw21,h⟩:=qf h;refine WO.ck 4 (F:=21) (l:=[]) (C:=[]) (r:=.bool w21) (XU fuel w21 hw21) (e1:=z11 [(50,.bool true),(51,.bool true),(52,.bool true),(53,.und),(54,.und),(55,.bool true),(56,.bool true),(57,.bool w21),(1000030,.obj 41 2 (List.map qg w12.1)),(1000037,.obj 41 2 (List.map qg w15.1))]) ?_;refine WO.fn (e2:=[(6,.bool w21)]) ?_;exact hK19 w21 h
   replace h:=qw hb h
   let z12:=fun t=>z11 ((50,.bool false)::(51,.bool false)::(52,.bool false)::(53,I6 w12.2)::t)
   refine WO.bk 4 (fun b=>z12 [(54,.bool b),(55,.bool b),(56,.bool b),(1000030,.obj 41 2 (List.map qg w12.1)),(1000037,.obj 41 2 (List.map qg w15.1))]) (w12.2 == 8) (fun hb=>?_) (fun hb=>?_)
   ·replace h:=qv hb h;obtain⟨w22,hw22,h⟩:=qf h;refine WO.ck 0 (F:=21) (l:=[]) (C:=[]) (r:=.bool w22) (XU fuel w22 hw22) (e1:=z12 [(54,.bool true),(55,.bool true),(56,.bool true),(57,.bool w22),(1000030,.obj 41 2 (List.map qg w12.1)),(1000037,.obj 41 2 (List.map qg w15.1))]) ?_;refine WO.fn (e2:=[(6,.bool w22)]) ?_;exact hK19 w22 h
   replace h:=qw hb h;refine WO.fn (e2:=[(6,.bool false)]) ?_;exact hK19 false h
  replace h:=qw hb h;refine W.skip ?_
  let z13:=fun t=>z0 ((5,.ptr (I6 (W6 (((IntKind.wrap .u64 a3)).tmod 6))))::(7,l54 none w8.1)::(9,.sb 1000030 41 2 0 ((w12.1).length))::(11,.sb 1000037 41 2 0 ((w15.1).length))::(12,I6 w15.2)::t)
  refine W.wk (env':=z13 [(1000030,.obj 41 2 (List.map qg w12.1)),(1000037,.obj 41 2 (List.map qg w15.1))]) ?_;refine W.seq ?_;refine W.seq ?_
  let z14:=fun t=>EN ((5,.ptr (I6 (W6 (((IntKind.wrap .u64 a3)).tmod 6))))::(9,.sb 1000030 41 2 0 ((w12.1).length))::(11,.sb 1000037 41 2 0 ((w15.1).length))::t)
  refine W.join (σ:=(Bool)) (fun s=>z14 [(67,.bool s),(1000030,.obj 41 2 (List.map qg w12.1)),(1000037,.obj 41 2 (List.map qg w15.1))]) (fun s=>(Jf fuel a3 w12 w15) s=some r) (fun v26 h=>?_) (fun hK25=>?_)
  ·have h:(Jf fuel a3 w12 w15) v26=some r:=h;unfold Jf at h;refine W.cb v26 (fun hb=>?_) (fun hb=>?_)
   ·replace h:=qv hb h;refine W.seq ?_;refine W.rt (e2:=[(6,.bool false)]) ?_;refine W.wk (env':=[(6,.bool false)]) ?_;cases h;exact W.ret (show qq _ _ _=some _ by kernel_rfl)
   replace h:=qw hb h;refine W.skip ?_;refine W.wk (env':=z14 [(1000030,.obj 41 2 (List.map qg w12.1)),(1000037,.obj 41 2 (List.map qg w15.1))]) ?_;refine W.seq ?_
   let z15:=fun t=>EN ((9,.sb 1000030 41 2 0 ((w12.1).length))::(11,.sb 1000037 41 2 0 ((w15.1).length))::(13,.clo 44 [.ptr (I6 (W6 (((IntKind.wrap .u64 a3)).tmod 6)))])::t)
   refine W.rt (e2:=z15 [(1000030,.obj 41 2 (List.map qg w12.1)),(1000037,.obj 41 2 (List.map qg w15.1))]) ?_;refine W.seq ?_;refine W.join (σ:=(Bool)) (fun s=>[(6,.bool s)]) (fun s=>(JF) s=some r) (fun v34 h=>?_) (fun hK29=>?_)
   ·have h:(JF) v34=some r:=h;unfold JF at h;refine W.wk (env':=[(6,.bool v34)]) ?_;cases h;exact W.ret (show qq _ _ _=some _ by kernel_rfl)
   refine W.rg ?_;obtain⟨w30,hw30,h⟩:=qf h
   let z16:=fun t=>z15 ((69,.sb 1000030 41 2 0 ((w12.1).length))::(70,.clo 44 [.ptr (I6 (W6 (((IntKind.wrap .u64 a3)).tmod 6)))])::(71,.sb 1000030 41 2 0 w30.1)::t)
   refine WO.cm 2 [(1000030,2000000)] [] (F:=45) (args:=[.sb 2000000 41 2 0 ((w12.1).length),.clo 44 [.ptr (I6 (W6 (((IntKind.wrap .u64 a3)).tmod 6)))]]) (hp:=[(2000000,.obj 41 2 (List.map qg w12.1))]) (hp2:=[(2000000,.obj 41 2 (List.map qg w30.2))]) (r:=.sb 2000000 41 2 0 w30.1) (QU fuel w12.1 ((w12.1).length) (fun y0=>jI y0 (W6 (((IntKind.wrap .u64 a3)).tmod 6))) 44 [.ptr (I6 (W6 (((IntKind.wrap .u64 a3)).tmod 6)))] (by kernel_rfl) (fun y0 r h=>XJ y0 (W6 (((IntKind.wrap .u64 a3)).tmod 6)) r h) w30 hw30) (e1:=z16 [(1000030,.obj 41 2 (List.map qg w30.2)),(1000037,.obj 41 2 (List.map qg w15.1))]) ?_;obtain⟨w31,hw31,h⟩:=qf h
   let z17:=fun t=>z16 ((72,.sb 1000037 41 2 0 ((w15.1).length))::(73,.clo 44 [.ptr (I6 (W6 (((IntKind.wrap .u64 a3)).tmod 6)))])::(74,.sb 1000037 41 2 0 w31.1)::t)
   refine WO.cm 2 [(1000037,2000000)] [] (F:=45) (args:=[.sb 2000000 41 2 0 ((w15.1).length),.clo 44 [.ptr (I6 (W6 (((IntKind.wrap .u64 a3)).tmod 6)))]]) (hp:=[(2000000,.obj 41 2 (List.map qg w15.1))]) (hp2:=[(2000000,.obj 41 2 (List.map qg w31.2))]) (r:=.sb 2000000 41 2 0 w31.1) (QU fuel w15.1 ((w15.1).length) (fun y0=>jI y0 (W6 (((IntKind.wrap .u64 a3)).tmod 6))) 44 [.ptr (I6 (W6 (((IntKind.wrap .u64 a3)).tmod 6)))] (by kernel_rfl) (fun y0 r h=>XJ y0 (W6 (((IntKind.wrap .u64 a3)).tmod 6)) r h) w31 hw31) (e1:=z17 [(1000030,.obj 41 2 (List.map qg w30.2)),(1000037,.obj 41 2 (List.map qg w31.2))]) ?_;obtain⟨w32,hw32,h⟩:=qf h;refine WO.callRK 0 (F:=23) (l:=[.lst 41 2 none (snapA 0 w30.1 (List.map qg w30.2)),.lst 41 2 none (snapA 0 w31.1 (List.map qg w31.2))]) (C:=[]) (args:=[l41 none (snap 0 w30.1 w30.2),l41 none (snap 0 w31.1 w31.2)]) (r:=.bool w32) (by kernel_rfl) (by first | (simp only[QW,Qs,QV,List.cons_append,List.nil_append];done) | (simp only[QW,Qs,QV,List.cons_append,List.nil_append];kernel_rfl)) (by kernel_rfl) (by kernel_rfl) (UA (snap 0 w30.1 w30.2) (snap 0 w31.1 w31.2) w32 hw32) (e1:=z17 [(75,.bool w32),(1000030,.obj 41 2 (List.map qg w30.2)),(1000037,.obj 41 2 (List.map qg w31.2))]) (by kernel_rfl) ?_;refine WO.bk 1 (fun b=>z17 [(75,.bool b),(76,.bool b),(1000030,.obj 41 2 (List.map qg w30.2)),(1000037,.obj 41 2 (List.map qg w31.2))]) w32 (fun hb=>?_) (fun hb=>?_)
   ·replace h:=qv hb h;obtain⟨w33,hw33,h⟩:=qf h;refine WO.ck 0 (F:=21) (l:=[]) (C:=[]) (r:=.bool w33) (XU fuel w33 hw33) (e1:=z17 [(75,.bool true),(76,.bool true),(77,.bool w33),(1000030,.obj 41 2 (List.map qg w30.2)),(1000037,.obj 41 2 (List.map qg w31.2))]) ?_;refine WO.fn (e2:=[(6,.bool w33)]) ?_;exact hK29 w33 h
   replace h:=qw hb h;refine WO.fn (e2:=[(6,.bool false)]) ?_;exact hK29 false h
  refine W.rg ?_;refine WO.bk 3 (fun b=>z13 [(59,I6 w15.2),(60,.bool b),(61,.bool b),(1000030,.obj 41 2 (List.map qg w12.1)),(1000037,.obj 41 2 (List.map qg w15.1))]) (w15.2 != 0) (fun hb=>?_) (fun hb=>?_)
  ·replace h:=qv hb h;refine WO.fn (e2:=z14 [(67,.bool true),(1000030,.obj 41 2 (List.map qg w12.1)),(1000037,.obj 41 2 (List.map qg w15.1))]) ?_;exact hK25 true h
  replace h:=qw hb h
  let z18:=fun t=>z13 ((59,I6 w15.2)::(60,.bool false)::(61,.bool false)::(62,l54 none w8.1)::(63,I6 (w8.1.length:Int))::t)
  refine WO.pk 1 (some (I6 ((List.map ja w8.1).length:Int))) (v:=I6 (w8.1.length:Int)) (by rw[List.length_map]) (e1:=z18 [(1000030,.obj 41 2 (List.map qg w12.1)),(1000037,.obj 41 2 (List.map qg w15.1))]) ?_;refine WO.pk 1 (some (I6 ((List.map XR a1).length:Int))) (v:=I6 (a1.length:Int)) (by rw[List.length_map]) (e1:=z18 [(64,l94 none a1),(65,I6 (a1.length:Int)),(1000030,.obj 41 2 (List.map qg w12.1)),(1000037,.obj 41 2 (List.map qg w15.1))]) ?_;refine WO.fn (e2:=z14 [(67,.bool (decide ((w8.1.length:Int) > (a1.length:Int)))),(1000030,.obj 41 2 (List.map qg w12.1)),(1000037,.obj 41 2 (List.map qg w15.1))]) ?_;exact hK25 (decide ((w8.1.length:Int) > (a1.length:Int))) h
 refine W.rg ?_;refine WO.bk 3 (fun b=>z9 [(40,I6 w8.2),(41,.bool b),(42,.bool b),(1000030,.obj 41 2 (List.map qg w12.1)),(1000037,.obj 41 2 (List.map qg w15.1))]) (w8.2 != 0) (fun hb=>?_) (fun hb=>?_)
 ·replace h:=qv hb h;refine WO.fn (e2:=z9 [(45,.bool true),(1000030,.obj 41 2 (List.map qg w12.1)),(1000037,.obj 41 2 (List.map qg w15.1))]) ?_;exact hK17 true h
 replace h:=qw hb h;refine WO.fn (e2:=z9 [(45,.bool (w12.2 != 0)),(1000030,.obj 41 2 (List.map qg w12.1)),(1000037,.obj 41 2 (List.map qg w15.1))]) ?_;exact hK17 (w12.2 != 0) h
end Go.AM
