/- s -/
import Derived.Test.YtdghpfejmlpjhaaRQT
set_option maxRecDepth 100000
set_option linter.unusedVariables false
set_option linter.unusedSimpArgs false
namespace Go.AM
open Go.Proofs
def Jj (v14:ruRule):Option ruRule :=
 (some v14)
def jq (K5:(ruRule→Option ruRule)):List ruLit→Nat→Int→(List Int)→(List ruLit)→Option ruRule
 | [],k1,v7,v8,v9=>(K5 (ruRule.mk (qj.mk v7 v8) v9))
 | x1::r1,k1,v7,v8,v9=>((Jq x1.qe.qa).bind fun w12=>(chk (capOk 40 ((v9++[(ruLit.mk x1.qn (qj.mk x1.qe.qb w12))])).length) ((jq K5 r1 (k1+1)) v7 v8 (v9++[(ruLit.mk x1.qn (qj.mk x1.qe.qb w12))]))))
def QX (a1:ruRule):Option ruRule :=
 ((Jq a1.qc.qa).bind fun w4=>(chk (lenOk a1.qd) (jq (Jj) a1.qd 0 a1.qc.qb w4 ([]:(List ruLit)))))
theorem Uy (a1:ruRule) (r:ruRule) (h:QX a1=some r):Run Try.prog (.call 86 [.agg [I6 a1.qc.qb,l3 none a1.qc.qa,l56 none a1.qd]] (.agg [I6 r.qc.qb,l3 none r.qc.qa,l56 none r.qd])):=by
 refine cW Try.func86 rfl (env0:=[(0,.agg [I6 a1.qc.qb,l3 none a1.qc.qa,l56 none a1.qd])]) ?_;unfold QX at h;refine W.seq ?_
 let z0:=fun t=>EN ((1,.ptr (.agg [I6 a1.qc.qb,l3 none a1.qc.qa,l56 none a1.qd]))::(2,.box [.int .i64 0,.nils,.nils])::t)
 refine W.regT [1,2] [1] [] [] (e2:=z0 []) (by kernel_rfl) (by kernel_rfl) (fun _ h=>h) ?_;refine W.seq ?_;obtain⟨w4,hw4,h⟩:=qf h
 let z1:=fun t=>z0 ((3,.box [I6 a1.qc.qb,l3 none w4,.nils])::t)
 refine W.regionA (e1:=z1 [(6,.ptr (.agg [I6 a1.qc.qb,l3 none a1.qc.qa])),(7,.ptr (I6 a1.qc.qb)),(8,I6 a1.qc.qb),(9,.ptr (.agg [I6 a1.qc.qb,l3 none a1.qc.qa])),(10,.ptr (l3 none a1.qc.qa)),(11,l3 none a1.qc.qa),(12,l3 (some 12) w4),(13,.agg [I6 a1.qc.qb,l3 none w4]),(14,.agg [I6 a1.qc.qb,l3 none w4,.nils])]) (by kernel_rfl) ?_ ?_
 ·generalize hall:Array.toList _=all;let y0:Nat×AV:=(1,.ptr (.agg [I6 a1.qc.qb,l3 none a1.qc.qa,l56 none a1.qd]));let y1:Nat×AV:=(2,.box [.int .i64 0,.nils,.nils]);let y2:Nat×AV:=(9,.ptr (.agg [I6 a1.qc.qb,l3 none a1.qc.qa]));let y3:Nat×AV:=(6,.ptr (.agg [I6 a1.qc.qb,l3 none a1.qc.qa]));let y4:Nat×AV:=(10,.ptr (l3 none a1.qc.qa));let y5:Nat×AV:=(7,.ptr (I6 a1.qc.qb));let y6:Nat×AV:=(11,l3 none a1.qc.qa);let y7:Nat×AV:=(3,.box [.int .i64 0,.nils,.nils]);let y8:Nat×AV:=(8,I6 a1.qc.qb);let y9:Nat×AV:=(12,l3 (some 12) w4);let y10:Nat×AV:=(13,.agg [I6 a1.qc.qb,l3 none w4]);let y11:Nat×AV:=(14,.agg [I6 a1.qc.qb,l3 none w4,.nils]);let y12:Nat×AV:=(3,.box [I6 a1.qc.qb,l3 none w4,.nils]);have s_:Run Try.prog (.any 40 all [] ([y0,y1,y12,y3,y5,y8,y2,y4,y6,y9,y10,y11]) ([y0,y1,y12,y3,y5,y8,y2,y4,y6,y9,y10,y11])):=.anyNil
  have s_10:Run Try.prog (.any 40 all [10] ([y0,y1,y7,y3,y5,y8,y2,y4,y6,y9,y10,y11]) ([y0,y1,y12,y3,y5,y8,y2,y4,y6,y9,y10,y11])):=by
   subst hall;refine Run.anyC [(10,[y0,y1,y12,y3,y5,y8,y2,y4,y6,y9,y10,y11])] (by kernel_rfl) (by kernel_rfl) ?_ (.cons s_ .nil);refine .cons ?_ (.nil)
   ·refine⟨_,rfl,?_⟩;refine WO.steps 1 (e1:=[y0,y1,y12,y3,y5,y8,y2,y4,y6,y9,y10,y11]) (by kernel_rfl) ?_;exact WO.nil rfl
  have s_9_10:Run Try.prog (.any 40 all [9,10] ([y0,y1,y3,y5,y8,y2,y4,y6,y9,y10,y11]) ([y0,y1,y12,y3,y5,y8,y2,y4,y6,y9,y10,y11])):=by
   subst hall;refine Run.anyC [(9,[y0,y1,y7,y3,y5,y8,y2,y4,y6,y9,y10,y11])] (by kernel_rfl) (by kernel_rfl) ?_ (.cons s_10 .nil);refine .cons ?_ (.nil)
   ·refine⟨_,rfl,?_⟩;refine WO.steps 1 (e1:=[y0,y1,y7,y3,y5,y8,y2,y4,y6,y9,y10,y11]) (by kernel_rfl) ?_;exact WO.nil rfl
  have s_8_10:Run Try.prog (.any 40 all [8,10] ([y0,y1,y7,y3,y5,y8,y2,y4,y6,y9,y10]) ([y0,y1,y12,y3,y5,y8,y2,y4,y6,y9,y10,y11])):=by
   subst hall;refine Run.anyC [(8,[y0,y1,y7,y3,y5,y8,y2,y4,y6,y9,y10,y11])] (by kernel_rfl) (by kernel_rfl) ?_ (.cons s_10 .nil);refine .cons ?_ (.nil)
   ·refine⟨_,rfl,?_⟩;refine WO.steps 1 (e1:=[y0,y1,y7,y3,y5,y8,y2,y4,y6,y9,y10,y11]) (by kernel_rfl) ?_;exact WO.nil rfl
  have s_8_9_10:Run Try.prog (.any 40 all [8,9,10] ([y0,y1,y3,y5,y8,y2,y4,y6,y9,y10]) ([y0,y1,y12,y3,y5,y8,y2,y4,y6,y9,y10,y11])):=by
   subst hall;refine Run.anyC [(8,[y0,y1,y3,y5,y8,y2,y4,y6,y9,y10,y11]),(9,[y0,y1,y7,y3,y5,y8,y2,y4,y6,y9,y10])] (by kernel_rfl) (by kernel_rfl) ?_ (.cons s_9_10 (.cons s_8_10 .nil));refine .cons ?_ (.cons ?_ (.nil))
   ·refine⟨_,rfl,?_⟩;refine WO.steps 1 (e1:=[y0,y1,y3,y5,y8,y2,y4,y6,y9,y10,y11]) (by kernel_rfl) ?_;exact WO.nil rfl
   ·refine⟨_,rfl,?_⟩;refine WO.steps 1 (e1:=[y0,y1,y7,y3,y5,y8,y2,y4,y6,y9,y10]) (by kernel_rfl) ?_;exact WO.nil rfl
  have s_7_8_10:Run Try.prog (.any 40 all [7,8,10] ([y0,y1,y7,y3,y5,y8,y2,y4,y6,y9]) ([y0,y1,y12,y3,y5,y8,y2,y4,y6,y9,y10,y11])):=by
   subst hall;refine Run.anyC [(7,[y0,y1,y7,y3,y5,y8,y2,y4,y6,y9,y10])] (by kernel_rfl) (by kernel_rfl) ?_ (.cons s_8_10 .nil);refine .cons ?_ (.nil)
   ·refine⟨_,rfl,?_⟩;refine WO.steps 1 (e1:=[y0,y1,y7,y3,y5,y8,y2,y4,y6,y9,y10]) (by kernel_rfl) ?_;exact WO.nil rfl
  have s_7_8_9_10:Run Try.prog (.any 40 all [7,8,9,10] ([y0,y1,y3,y5,y8,y2,y4,y6,y9]) ([y0,y1,y12,y3,y5,y8,y2,y4,y6,y9,y10,y11])):=by
   subst hall;refine Run.anyC [(7,[y0,y1,y3,y5,y8,y2,y4,y6,y9,y10]),(9,[y0,y1,y7,y3,y5,y8,y2,y4,y6,y9])] (by kernel_rfl) (by kernel_rfl) ?_ (.cons s_8_9_10 (.cons s_7_8_10 .nil));refine .cons ?_ (.cons ?_ (.nil))
   ·refine⟨_,rfl,?_⟩;refine WO.steps 1 (e1:=[y0,y1,y3,y5,y8,y2,y4,y6,y9,y10]) (by kernel_rfl) ?_;exact WO.nil rfl
   ·refine⟨_,rfl,?_⟩;refine WO.steps 1 (e1:=[y0,y1,y7,y3,y5,y8,y2,y4,y6,y9]) (by kernel_rfl) ?_;exact WO.nil rfl
  have s_6_7_8_10:Run Try.prog (.any 40 all [6,7,8,10] ([y0,y1,y7,y3,y5,y8,y2,y4,y6]) ([y0,y1,y12,y3,y5,y8,y2,y4,y6,y9,y10,y11])):=by
   subst hall;refine Run.anyC [(6,[y0,y1,y7,y3,y5,y8,y2,y4,y6,y9])] (by kernel_rfl) (by kernel_rfl) ?_ (.cons s_7_8_10 .nil);refine .cons ?_ (.nil)
   ·refine⟨_,rfl,?_⟩;refine WO.ck 0 (F:=70) (l:=[l3 none a1.qc.qa]) (C:=[]) (r:=l3 (some 1) w4) (je a1.qc.qa w4 hw4) (e1:=[y0,y1,y7,y3,y5,y8,y2,y4,y6,y9]) ?_;exact WO.nil rfl
  have s_2_7_8_10:Run Try.prog (.any 40 all [2,7,8,10] ([y0,y1,y7,y3,y5,y2,y4,y6,y9]) ([y0,y1,y12,y3,y5,y8,y2,y4,y6,y9,y10,y11])):=by
   subst hall;refine Run.anyC [(2,[y0,y1,y7,y3,y5,y8,y2,y4,y6,y9])] (by kernel_rfl) (by kernel_rfl) ?_ (.cons s_7_8_10 .nil);refine .cons ?_ (.nil)
   ·refine⟨_,rfl,?_⟩;refine WO.steps 1 (e1:=[y0,y1,y7,y3,y5,y8,y2,y4,y6,y9]) (by kernel_rfl) ?_;exact WO.nil rfl
  have s_6_7_8_9_10:Run Try.prog (.any 40 all [6,7,8,9,10] ([y0,y1,y3,y5,y8,y2,y4,y6]) ([y0,y1,y12,y3,y5,y8,y2,y4,y6,y9,y10,y11])):=by
   subst hall;refine Run.anyC [(6,[y0,y1,y3,y5,y8,y2,y4,y6,y9]),(9,[y0,y1,y7,y3,y5,y8,y2,y4,y6])] (by kernel_rfl) (by kernel_rfl) ?_ (.cons s_7_8_9_10 (.cons s_6_7_8_10 .nil));refine .cons ?_ (.cons ?_ (.nil))
   ·refine⟨_,rfl,?_⟩;refine WO.ck 0 (F:=70) (l:=[l3 none a1.qc.qa]) (C:=[]) (r:=l3 (some 1) w4) (je a1.qc.qa w4 hw4) (e1:=[y0,y1,y3,y5,y8,y2,y4,y6,y9]) ?_;exact WO.nil rfl
   ·refine⟨_,rfl,?_⟩;refine WO.steps 1 (e1:=[y0,y1,y7,y3,y5,y8,y2,y4,y6]) (by kernel_rfl) ?_;exact WO.nil rfl
  have s_5_6_7_8_10:Run Try.prog (.any 40 all [5,6,7,8,10] ([y0,y1,y7,y3,y5,y8,y2,y4]) ([y0,y1,y12,y3,y5,y8,y2,y4,y6,y9,y10,y11])):=by
   subst hall;refine Run.anyC [(5,[y0,y1,y7,y3,y5,y8,y2,y4,y6])] (by kernel_rfl) (by kernel_rfl) ?_ (.cons s_6_7_8_10 .nil);refine .cons ?_ (.nil)
   ·refine⟨_,rfl,?_⟩;refine WO.steps 1 (e1:=[y0,y1,y7,y3,y5,y8,y2,y4,y6]) (by kernel_rfl) ?_;exact WO.nil rfl
  have s_2_7_8_9_10:Run Try.prog (.any 40 all [2,7,8,9,10] ([y0,y1,y3,y5,y2,y4,y6,y9]) ([y0,y1,y12,y3,y5,y8,y2,y4,y6,y9,y10,y11])):=by
   subst hall;refine Run.anyC [(2,[y0,y1,y3,y5,y8,y2,y4,y6,y9]),(9,[y0,y1,y7,y3,y5,y2,y4,y6,y9])] (by kernel_rfl) (by kernel_rfl) ?_ (.cons s_7_8_9_10 (.cons s_2_7_8_10 .nil));refine .cons ?_ (.cons ?_ (.nil))
   ·refine⟨_,rfl,?_⟩;refine WO.steps 1 (e1:=[y0,y1,y3,y5,y8,y2,y4,y6,y9]) (by kernel_rfl) ?_;exact WO.nil rfl
   ·refine⟨_,rfl,?_⟩;refine WO.steps 1 (e1:=[y0,y1,y7,y3,y5,y2,y4,y6,y9]) (by kernel_rfl) ?_;exact WO.nil rfl
  have s_2_6_7_8_10:Run Try.prog (.any 40 all [2,6,7,8,10] ([y0,y1,y7,y3,y5,y2,y4,y6]) ([y0,y1,y12,y3,y5,y8,y2,y4,y6,y9,y10,y11])):=by
   subst hall;refine Run.anyC [(2,[y0,y1,y7,y3,y5,y8,y2,y4,y6]),(6,[y0,y1,y7,y3,y5,y2,y4,y6,y9])] (by kernel_rfl) (by kernel_rfl) ?_ (.cons s_6_7_8_10 (.cons s_2_7_8_10 .nil));refine .cons ?_ (.cons ?_ (.nil))
   ·refine⟨_,rfl,?_⟩;refine WO.steps 1 (e1:=[y0,y1,y7,y3,y5,y8,y2,y4,y6]) (by kernel_rfl) ?_;exact WO.nil rfl
   ·refine⟨_,rfl,?_⟩;refine WO.ck 0 (F:=70) (l:=[l3 none a1.qc.qa]) (C:=[]) (r:=l3 (some 1) w4) (je a1.qc.qa w4 hw4) (e1:=[y0,y1,y7,y3,y5,y2,y4,y6,y9]) ?_;exact WO.nil rfl
  have s_1_2_7_8_10:Run Try.prog (.any 40 all [1,2,7,8,10] ([y0,y1,y7,y3,y2,y4,y6,y9]) ([y0,y1,y12,y3,y5,y8,y2,y4,y6,y9,y10,y11])):=by
   subst hall;refine Run.anyC [(1,[y0,y1,y7,y3,y5,y2,y4,y6,y9])] (by kernel_rfl) (by kernel_rfl) ?_ (.cons s_2_7_8_10 .nil);refine .cons ?_ (.nil)
   ·refine⟨_,rfl,?_⟩;refine WO.steps 1 (e1:=[y0,y1,y7,y3,y5,y2,y4,y6,y9]) (by kernel_rfl) ?_;exact WO.nil rfl
  have s_5_6_7_8_9_10:Run Try.prog (.any 40 all [5,6,7,8,9,10] ([y0,y1,y3,y5,y8,y2,y4]) ([y0,y1,y12,y3,y5,y8,y2,y4,y6,y9,y10,y11])):=by
   subst hall;refine Run.anyC [(5,[y0,y1,y3,y5,y8,y2,y4,y6]),(9,[y0,y1,y7,y3,y5,y8,y2,y4])] (by kernel_rfl) (by kernel_rfl) ?_ (.cons s_6_7_8_9_10 (.cons s_5_6_7_8_10 .nil));refine .cons ?_ (.cons ?_ (.nil))
   ·refine⟨_,rfl,?_⟩;refine WO.steps 1 (e1:=[y0,y1,y3,y5,y8,y2,y4,y6]) (by kernel_rfl) ?_;exact WO.nil rfl
   ·refine⟨_,rfl,?_⟩;refine WO.steps 1 (e1:=[y0,y1,y7,y3,y5,y8,y2,y4]) (by kernel_rfl) ?_;exact WO.nil rfl
  have s_4_5_6_7_8_10:Run Try.prog (.any 40 all [4,5,6,7,8,10] ([y0,y1,y7,y3,y5,y8,y2]) ([y0,y1,y12,y3,y5,y8,y2,y4,y6,y9,y10,y11])):=by
   subst hall;refine Run.anyC [(4,[y0,y1,y7,y3,y5,y8,y2,y4])] (by kernel_rfl) (by kernel_rfl) ?_ (.cons s_5_6_7_8_10 .nil);refine .cons ?_ (.nil)
   ·refine⟨_,rfl,?_⟩;refine WO.steps 1 (e1:=[y0,y1,y7,y3,y5,y8,y2,y4]) (by kernel_rfl) ?_;exact WO.nil rfl
  have s_2_6_7_8_9_10:Run Try.prog (.any 40 all [2,6,7,8,9,10] ([y0,y1,y3,y5,y2,y4,y6]) ([y0,y1,y12,y3,y5,y8,y2,y4,y6,y9,y10,y11])):=by
   subst hall;refine Run.anyC [(2,[y0,y1,y3,y5,y8,y2,y4,y6]),(6,[y0,y1,y3,y5,y2,y4,y6,y9]),(9,[y0,y1,y7,y3,y5,y2,y4,y6])] (by kernel_rfl) (by kernel_rfl) ?_ (.cons s_6_7_8_9_10 (.cons s_2_7_8_9_10 (.cons s_2_6_7_8_10 .nil)));refine .cons ?_ (.cons ?_ (.cons ?_ (.nil)))
   ·refine⟨_,rfl,?_⟩;refine WO.steps 1 (e1:=[y0,y1,y3,y5,y8,y2,y4,y6]) (by kernel_rfl) ?_;exact WO.nil rfl
   ·refine⟨_,rfl,?_⟩;refine WO.ck 0 (F:=70) (l:=[l3 none a1.qc.qa]) (C:=[]) (r:=l3 (some 1) w4) (je a1.qc.qa w4 hw4) (e1:=[y0,y1,y3,y5,y2,y4,y6,y9]) ?_;exact WO.nil rfl
   ·refine⟨_,rfl,?_⟩;refine WO.steps 1 (e1:=[y0,y1,y7,y3,y5,y2,y4,y6]) (by kernel_rfl) ?_;exact WO.nil rfl
  have s_2_5_6_7_8_10:Run Try.prog (.any 40 all [2,5,6,7,8,10] ([y0,y1,y7,y3,y5,y2,y4]) ([y0,y1,y12,y3,y5,y8,y2,y4,y6,y9,y10,y11])):=by
   subst hall;refine Run.anyC [(2,[y0,y1,y7,y3,y5,y8,y2,y4]),(5,[y0,y1,y7,y3,y5,y2,y4,y6])] (by kernel_rfl) (by kernel_rfl) ?_ (.cons s_5_6_7_8_10 (.cons s_2_6_7_8_10 .nil));refine .cons ?_ (.cons ?_ (.nil))
   ·refine⟨_,rfl,?_⟩;refine WO.steps 1 (e1:=[y0,y1,y7,y3,y5,y8,y2,y4]) (by kernel_rfl) ?_;exact WO.nil rfl
   ·refine⟨_,rfl,?_⟩;refine WO.steps 1 (e1:=[y0,y1,y7,y3,y5,y2,y4,y6]) (by kernel_rfl) ?_;exact WO.nil rfl
  have s_1_2_7_8_9_10:Run Try.prog (.any 40 all [1,2,7,8,9,10] ([y0,y1,y3,y2,y4,y6,y9]) ([y0,y1,y12,y3,y5,y8,y2,y4,y6,y9,y10,y11])):=by
   subst hall;refine Run.anyC [(1,[y0,y1,y3,y5,y2,y4,y6,y9]),(9,[y0,y1,y7,y3,y2,y4,y6,y9])] (by kernel_rfl) (by kernel_rfl) ?_ (.cons s_2_7_8_9_10 (.cons s_1_2_7_8_10 .nil));refine .cons ?_ (.cons ?_ (.nil))
   ·refine⟨_,rfl,?_⟩;refine WO.steps 1 (e1:=[y0,y1,y3,y5,y2,y4,y6,y9]) (by kernel_rfl) ?_;exact WO.nil rfl
   ·refine⟨_,rfl,?_⟩;refine WO.steps 1 (e1:=[y0,y1,y7,y3,y2,y4,y6,y9]) (by kernel_rfl) ?_;exact WO.nil rfl
  have s_1_2_6_7_8_10:Run Try.prog (.any 40 all [1,2,6,7,8,10] ([y0,y1,y7,y3,y2,y4,y6]) ([y0,y1,y12,y3,y5,y8,y2,y4,y6,y9,y10,y11])):=by
   subst hall;refine Run.anyC [(1,[y0,y1,y7,y3,y5,y2,y4,y6]),(6,[y0,y1,y7,y3,y2,y4,y6,y9])] (by kernel_rfl) (by kernel_rfl) ?_ (.cons s_2_6_7_8_10 (.cons s_1_2_7_8_10 .nil));refine .cons ?_ (.cons ?_ (.nil))
   ·refine⟨_,rfl,?_⟩;refine WO.steps 1 (e1:=[y0,y1,y7,y3,y5,y2,y4,y6]) (by kernel_rfl) ?_;exact WO.nil rfl
   ·refine⟨_,rfl,?_⟩;refine WO.ck 0 (F:=70) (l:=[l3 none a1.qc.qa]) (C:=[]) (r:=l3 (some 1) w4) (je a1.qc.qa w4 hw4) (e1:=[y0,y1,y7,y3,y2,y4,y6,y9]) ?_;exact WO.nil rfl
  have s_0_1_2_7_8_10:Run Try.prog (.any 40 all [0,1,2,7,8,10] ([y0,y1,y7,y2,y4,y6,y9]) ([y0,y1,y12,y3,y5,y8,y2,y4,y6,y9,y10,y11])):=by
   subst hall;refine Run.anyC [(0,[y0,y1,y7,y3,y2,y4,y6,y9])] (by kernel_rfl) (by kernel_rfl) ?_ (.cons s_1_2_7_8_10 .nil);refine .cons ?_ (.nil)
   ·refine⟨_,rfl,?_⟩;refine WO.steps 1 (e1:=[y0,y1,y7,y3,y2,y4,y6,y9]) (by kernel_rfl) ?_;exact WO.nil rfl
  have s_4_5_6_7_8_9_10:Run Try.prog (.any 40 all [4,5,6,7,8,9,10] ([y0,y1,y3,y5,y8,y2]) ([y0,y1,y12,y3,y5,y8,y2,y4,y6,y9,y10,y11])):=by
   subst hall;refine Run.anyC [(4,[y0,y1,y3,y5,y8,y2,y4]),(9,[y0,y1,y7,y3,y5,y8,y2])] (by kernel_rfl) (by kernel_rfl) ?_ (.cons s_5_6_7_8_9_10 (.cons s_4_5_6_7_8_10 .nil));refine .cons ?_ (.cons ?_ (.nil))
   ·refine⟨_,rfl,?_⟩;refine WO.steps 1 (e1:=[y0,y1,y3,y5,y8,y2,y4]) (by kernel_rfl) ?_;exact WO.nil rfl
   ·refine⟨_,rfl,?_⟩;refine WO.steps 1 (e1:=[y0,y1,y7,y3,y5,y8,y2]) (by kernel_rfl) ?_;exact WO.nil rfl
  have s_3_4_5_6_7_8_10:Run Try.prog (.any 40 all [3,4,5,6,7,8,10] ([y0,y1,y7,y3,y5,y8]) ([y0,y1,y12,y3,y5,y8,y2,y4,y6,y9,y10,y11])):=by
   subst hall;refine Run.anyC [(3,[y0,y1,y7,y3,y5,y8,y2])] (by kernel_rfl) (by kernel_rfl) ?_ (.cons s_4_5_6_7_8_10 .nil);refine .cons ?_ (.nil)
   ·refine⟨_,rfl,?_⟩;refine WO.steps 1 (e1:=[y0,y1,y7,y3,y5,y8,y2]) (by kernel_rfl) ?_;exact WO.nil rfl
  have s_2_5_6_7_8_9_10:Run Try.prog (.any 40 all [2,5,6,7,8,9,10] ([y0,y1,y3,y5,y2,y4]) ([y0,y1,y12,y3,y5,y8,y2,y4,y6,y9,y10,y11])):=by
   subst hall;refine Run.anyC [(2,[y0,y1,y3,y5,y8,y2,y4]),(5,[y0,y1,y3,y5,y2,y4,y6]),(9,[y0,y1,y7,y3,y5,y2,y4])] (by kernel_rfl) (by kernel_rfl) ?_ (.cons s_5_6_7_8_9_10 (.cons s_2_6_7_8_9_10 (.cons s_2_5_6_7_8_10 .nil)));refine .cons ?_ (.cons ?_ (.cons ?_ (.nil)))
   ·refine⟨_,rfl,?_⟩;refine WO.steps 1 (e1:=[y0,y1,y3,y5,y8,y2,y4]) (by kernel_rfl) ?_;exact WO.nil rfl
   ·refine⟨_,rfl,?_⟩;refine WO.steps 1 (e1:=[y0,y1,y3,y5,y2,y4,y6]) (by kernel_rfl) ?_;exact WO.nil rfl
   ·refine⟨_,rfl,?_⟩;refine WO.steps 1 (e1:=[y0,y1,y7,y3,y5,y2,y4]) (by kernel_rfl) ?_;exact WO.nil rfl
  have s_2_4_5_6_7_8_10:Run Try.prog (.any 40 all [2,4,5,6,7,8,10] ([y0,y1,y7,y3,y5,y2]) ([y0,y1,y12,y3,y5,y8,y2,y4,y6,y9,y10,y11])):=by
   subst hall;refine Run.anyC [(2,[y0,y1,y7,y3,y5,y8,y2]),(4,[y0,y1,y7,y3,y5,y2,y4])] (by kernel_rfl) (by kernel_rfl) ?_ (.cons s_4_5_6_7_8_10 (.cons s_2_5_6_7_8_10 .nil));refine .cons ?_ (.cons ?_ (.nil))
   ·refine⟨_,rfl,?_⟩;refine WO.steps 1 (e1:=[y0,y1,y7,y3,y5,y8,y2]) (by kernel_rfl) ?_;exact WO.nil rfl
   ·refine⟨_,rfl,?_⟩;refine WO.steps 1 (e1:=[y0,y1,y7,y3,y5,y2,y4]) (by kernel_rfl) ?_;exact WO.nil rfl
  have s_1_2_6_7_8_9_10:Run Try.prog (.any 40 all [1,2,6,7,8,9,10] ([y0,y1,y3,y2,y4,y6]) ([y0,y1,y12,y3,y5,y8,y2,y4,y6,y9,y10,y11])):=by
   subst hall;refine Run.anyC [(1,[y0,y1,y3,y5,y2,y4,y6]),(6,[y0,y1,y3,y2,y4,y6,y9]),(9,[y0,y1,y7,y3,y2,y4,y6])] (by kernel_rfl) (by kernel_rfl) ?_ (.cons s_2_6_7_8_9_10 (.cons s_1_2_7_8_9_10 (.cons s_1_2_6_7_8_10 .nil)));refine .cons ?_ (.cons ?_ (.cons ?_ (.nil)))
   ·refine⟨_,rfl,?_⟩;refine WO.steps 1 (e1:=[y0,y1,y3,y5,y2,y4,y6]) (by kernel_rfl) ?_;exact WO.nil rfl
   ·refine⟨_,rfl,?_⟩;refine WO.ck 0 (F:=70) (l:=[l3 none a1.qc.qa]) (C:=[]) (r:=l3 (some 1) w4) (je a1.qc.qa w4 hw4) (e1:=[y0,y1,y3,y2,y4,y6,y9]) ?_;exact WO.nil rfl
   ·refine⟨_,rfl,?_⟩;refine WO.steps 1 (e1:=[y0,y1,y7,y3,y2,y4,y6]) (by kernel_rfl) ?_;exact WO.nil rfl
  have s_1_2_5_6_7_8_10:Run Try.prog (.any 40 all [1,2,5,6,7,8,10] ([y0,y1,y7,y3,y2,y4]) ([y0,y1,y12,y3,y5,y8,y2,y4,y6,y9,y10,y11])):=by
   subst hall;refine Run.anyC [(1,[y0,y1,y7,y3,y5,y2,y4]),(5,[y0,y1,y7,y3,y2,y4,y6])] (by kernel_rfl) (by kernel_rfl) ?_ (.cons s_2_5_6_7_8_10 (.cons s_1_2_6_7_8_10 .nil));refine .cons ?_ (.cons ?_ (.nil))
   ·refine⟨_,rfl,?_⟩;refine WO.steps 1 (e1:=[y0,y1,y7,y3,y5,y2,y4]) (by kernel_rfl) ?_;exact WO.nil rfl
   ·refine⟨_,rfl,?_⟩;refine WO.steps 1 (e1:=[y0,y1,y7,y3,y2,y4,y6]) (by kernel_rfl) ?_;exact WO.nil rfl
  have s_0_1_2_7_8_9_10:Run Try.prog (.any 40 all [0,1,2,7,8,9,10] ([y0,y1,y2,y4,y6,y9]) ([y0,y1,y12,y3,y5,y8,y2,y4,y6,y9,y10,y11])):=by
   subst hall;refine Run.anyC [(0,[y0,y1,y3,y2,y4,y6,y9]),(9,[y0,y1,y7,y2,y4,y6,y9])] (by kernel_rfl) (by kernel_rfl) ?_ (.cons s_1_2_7_8_9_10 (.cons s_0_1_2_7_8_10 .nil));refine .cons ?_ (.cons ?_ (.nil))
   ·refine⟨_,rfl,?_⟩;refine WO.steps 1 (e1:=[y0,y1,y3,y2,y4,y6,y9]) (by kernel_rfl) ?_;exact WO.nil rfl
   ·refine⟨_,rfl,?_⟩;refine WO.steps 1 (e1:=[y0,y1,y7,y2,y4,y6,y9]) (by kernel_rfl) ?_;exact WO.nil rfl
  have s_0_1_2_6_7_8_10:Run Try.prog (.any 40 all [0,1,2,6,7,8,10] ([y0,y1,y7,y2,y4,y6]) ([y0,y1,y12,y3,y5,y8,y2,y4,y6,y9,y10,y11])):=by
   subst hall;refine Run.anyC [(0,[y0,y1,y7,y3,y2,y4,y6]),(6,[y0,y1,y7,y2,y4,y6,y9])] (by kernel_rfl) (by kernel_rfl) ?_ (.cons s_1_2_6_7_8_10 (.cons s_0_1_2_7_8_10 .nil));refine .cons ?_ (.cons ?_ (.nil))
   ·refine⟨_,rfl,?_⟩;refine WO.steps 1 (e1:=[y0,y1,y7,y3,y2,y4,y6]) (by kernel_rfl) ?_;exact WO.nil rfl
   ·refine⟨_,rfl,?_⟩;refine WO.ck 0 (F:=70) (l:=[l3 none a1.qc.qa]) (C:=[]) (r:=l3 (some 1) w4) (je a1.qc.qa w4 hw4) (e1:=[y0,y1,y7,y2,y4,y6,y9]) ?_;exact WO.nil rfl
  have s_3_4_5_6_7_8_9_10:Run Try.prog (.any 40 all [3,4,5,6,7,8,9,10] ([y0,y1,y3,y5,y8]) ([y0,y1,y12,y3,y5,y8,y2,y4,y6,y9,y10,y11])):=by
   subst hall;refine Run.anyC [(3,[y0,y1,y3,y5,y8,y2]),(9,[y0,y1,y7,y3,y5,y8])] (by kernel_rfl) (by kernel_rfl) ?_ (.cons s_4_5_6_7_8_9_10 (.cons s_3_4_5_6_7_8_10 .nil));refine .cons ?_ (.cons ?_ (.nil))
   ·refine⟨_,rfl,?_⟩;refine WO.steps 1 (e1:=[y0,y1,y3,y5,y8,y2]) (by kernel_rfl) ?_;exact WO.nil rfl
   ·refine⟨_,rfl,?_⟩;refine WO.steps 1 (e1:=[y0,y1,y7,y3,y5,y8]) (by kernel_rfl) ?_;exact WO.nil rfl
  have s_2_4_5_6_7_8_9_10:Run Try.prog (.any 40 all [2,4,5,6,7,8,9,10] ([y0,y1,y3,y5,y2]) ([y0,y1,y12,y3,y5,y8,y2,y4,y6,y9,y10,y11])):=by
   subst hall;refine Run.anyC [(2,[y0,y1,y3,y5,y8,y2]),(4,[y0,y1,y3,y5,y2,y4]),(9,[y0,y1,y7,y3,y5,y2])] (by kernel_rfl) (by kernel_rfl) ?_ (.cons s_4_5_6_7_8_9_10 (.cons s_2_5_6_7_8_9_10 (.cons s_2_4_5_6_7_8_10 .nil)));refine .cons ?_ (.cons ?_ (.cons ?_ (.nil)))
   ·refine⟨_,rfl,?_⟩;refine WO.steps 1 (e1:=[y0,y1,y3,y5,y8,y2]) (by kernel_rfl) ?_;exact WO.nil rfl
   ·refine⟨_,rfl,?_⟩;refine WO.steps 1 (e1:=[y0,y1,y3,y5,y2,y4]) (by kernel_rfl) ?_;exact WO.nil rfl
   ·refine⟨_,rfl,?_⟩;refine WO.steps 1 (e1:=[y0,y1,y7,y3,y5,y2]) (by kernel_rfl) ?_;exact WO.nil rfl
  have s_2_3_4_5_6_7_8_10:Run Try.prog (.any 40 all [2,3,4,5,6,7,8,10] ([y0,y1,y7,y3,y5]) ([y0,y1,y12,y3,y5,y8,y2,y4,y6,y9,y10,y11])):=by
   subst hall;refine Run.anyC [(2,[y0,y1,y7,y3,y5,y8]),(3,[y0,y1,y7,y3,y5,y2])] (by kernel_rfl) (by kernel_rfl) ?_ (.cons s_3_4_5_6_7_8_10 (.cons s_2_4_5_6_7_8_10 .nil));refine .cons ?_ (.cons ?_ (.nil))
   ·refine⟨_,rfl,?_⟩;refine WO.steps 1 (e1:=[y0,y1,y7,y3,y5,y8]) (by kernel_rfl) ?_;exact WO.nil rfl
   ·refine⟨_,rfl,?_⟩;refine WO.steps 1 (e1:=[y0,y1,y7,y3,y5,y2]) (by kernel_rfl) ?_;exact WO.nil rfl
  have s_1_2_5_6_7_8_9_10:Run Try.prog (.any 40 all [1,2,5,6,7,8,9,10] ([y0,y1,y3,y2,y4]) ([y0,y1,y12,y3,y5,y8,y2,y4,y6,y9,y10,y11])):=by
   subst hall;refine Run.anyC [(1,[y0,y1,y3,y5,y2,y4]),(5,[y0,y1,y3,y2,y4,y6]),(9,[y0,y1,y7,y3,y2,y4])] (by kernel_rfl) (by kernel_rfl) ?_ (.cons s_2_5_6_7_8_9_10 (.cons s_1_2_6_7_8_9_10 (.cons s_1_2_5_6_7_8_10 .nil)));refine .cons ?_ (.cons ?_ (.cons ?_ (.nil)))
   ·refine⟨_,rfl,?_⟩;refine WO.steps 1 (e1:=[y0,y1,y3,y5,y2,y4]) (by kernel_rfl) ?_;exact WO.nil rfl
   ·refine⟨_,rfl,?_⟩;refine WO.steps 1 (e1:=[y0,y1,y3,y2,y4,y6]) (by kernel_rfl) ?_;exact WO.nil rfl
   ·refine⟨_,rfl,?_⟩;refine WO.steps 1 (e1:=[y0,y1,y7,y3,y2,y4]) (by kernel_rfl) ?_;exact WO.nil rfl
  have s_1_2_4_5_6_7_8_10:Run Try.prog (.any 40 all [1,2,4,5,6,7,8,10] ([y0,y1,y7,y3,y2]) ([y0,y1,y12,y3,y5,y8,y2,y4,y6,y9,y10,y11])):=by
   subst hall;refine Run.anyC [(1,[y0,y1,y7,y3,y5,y2]),(4,[y0,y1,y7,y3,y2,y4])] (by kernel_rfl) (by kernel_rfl) ?_ (.cons s_2_4_5_6_7_8_10 (.cons s_1_2_5_6_7_8_10 .nil));refine .cons ?_ (.cons ?_ (.nil))
   ·refine⟨_,rfl,?_⟩;refine WO.steps 1 (e1:=[y0,y1,y7,y3,y5,y2]) (by kernel_rfl) ?_;exact WO.nil rfl
   ·refine⟨_,rfl,?_⟩;refine WO.steps 1 (e1:=[y0,y1,y7,y3,y2,y4]) (by kernel_rfl) ?_;exact WO.nil rfl
  have s_0_1_2_6_7_8_9_10:Run Try.prog (.any 40 all [0,1,2,6,7,8,9,10] ([y0,y1,y2,y4,y6]) ([y0,y1,y12,y3,y5,y8,y2,y4,y6,y9,y10,y11])):=by
   subst hall;refine Run.anyC [(0,[y0,y1,y3,y2,y4,y6]),(6,[y0,y1,y2,y4,y6,y9]),(9,[y0,y1,y7,y2,y4,y6])] (by kernel_rfl) (by kernel_rfl) ?_ (.cons s_1_2_6_7_8_9_10 (.cons s_0_1_2_7_8_9_10 (.cons s_0_1_2_6_7_8_10 .nil)));refine .cons ?_ (.cons ?_ (.cons ?_ (.nil)))
   ·refine⟨_,rfl,?_⟩;refine WO.steps 1 (e1:=[y0,y1,y3,y2,y4,y6]) (by kernel_rfl) ?_;exact WO.nil rfl
   ·refine⟨_,rfl,?_⟩;refine WO.ck 0 (F:=70) (l:=[l3 none a1.qc.qa]) (C:=[]) (r:=l3 (some 1) w4) (je a1.qc.qa w4 hw4) (e1:=[y0,y1,y2,y4,y6,y9]) ?_;exact WO.nil rfl
   ·refine⟨_,rfl,?_⟩;refine WO.steps 1 (e1:=[y0,y1,y7,y2,y4,y6]) (by kernel_rfl) ?_;exact WO.nil rfl
  have s_0_1_2_5_6_7_8_10:Run Try.prog (.any 40 all [0,1,2,5,6,7,8,10] ([y0,y1,y7,y2,y4]) ([y0,y1,y12,y3,y5,y8,y2,y4,y6,y9,y10,y11])):=by
   subst hall;refine Run.anyC [(0,[y0,y1,y7,y3,y2,y4]),(5,[y0,y1,y7,y2,y4,y6])] (by kernel_rfl) (by kernel_rfl) ?_ (.cons s_1_2_5_6_7_8_10 (.cons s_0_1_2_6_7_8_10 .nil));refine .cons ?_ (.cons ?_ (.nil))
   ·refine⟨_,rfl,?_⟩;refine WO.steps 1 (e1:=[y0,y1,y7,y3,y2,y4]) (by kernel_rfl) ?_;exact WO.nil rfl
   ·refine⟨_,rfl,?_⟩;refine WO.steps 1 (e1:=[y0,y1,y7,y2,y4,y6]) (by kernel_rfl) ?_;exact WO.nil rfl
  have s_2_3_4_5_6_7_8_9_10:Run Try.prog (.any 40 all [2,3,4,5,6,7,8,9,10] ([y0,y1,y3,y5]) ([y0,y1,y12,y3,y5,y8,y2,y4,y6,y9,y10,y11])):=by
   subst hall;refine Run.anyC [(2,[y0,y1,y3,y5,y8]),(3,[y0,y1,y3,y5,y2]),(9,[y0,y1,y7,y3,y5])] (by kernel_rfl) (by kernel_rfl) ?_ (.cons s_3_4_5_6_7_8_9_10 (.cons s_2_4_5_6_7_8_9_10 (.cons s_2_3_4_5_6_7_8_10 .nil)));refine .cons ?_ (.cons ?_ (.cons ?_ (.nil)))
   ·refine⟨_,rfl,?_⟩;refine WO.steps 1 (e1:=[y0,y1,y3,y5,y8]) (by kernel_rfl) ?_;exact WO.nil rfl
   ·refine⟨_,rfl,?_⟩;refine WO.steps 1 (e1:=[y0,y1,y3,y5,y2]) (by kernel_rfl) ?_;exact WO.nil rfl
   ·refine⟨_,rfl,?_⟩;refine WO.steps 1 (e1:=[y0,y1,y7,y3,y5]) (by kernel_rfl) ?_;exact WO.nil rfl
  have s_1_2_4_5_6_7_8_9_10:Run Try.prog (.any 40 all [1,2,4,5,6,7,8,9,10] ([y0,y1,y3,y2]) ([y0,y1,y12,y3,y5,y8,y2,y4,y6,y9,y10,y11])):=by
   subst hall;refine Run.anyC [(1,[y0,y1,y3,y5,y2]),(4,[y0,y1,y3,y2,y4]),(9,[y0,y1,y7,y3,y2])] (by kernel_rfl) (by kernel_rfl) ?_ (.cons s_2_4_5_6_7_8_9_10 (.cons s_1_2_5_6_7_8_9_10 (.cons s_1_2_4_5_6_7_8_10 .nil)));refine .cons ?_ (.cons ?_ (.cons ?_ (.nil)))
   ·refine⟨_,rfl,?_⟩;refine WO.steps 1 (e1:=[y0,y1,y3,y5,y2]) (by kernel_rfl) ?_;exact WO.nil rfl
   ·refine⟨_,rfl,?_⟩;refine WO.steps 1 (e1:=[y0,y1,y3,y2,y4]) (by kernel_rfl) ?_;exact WO.nil rfl
   ·refine⟨_,rfl,?_⟩;refine WO.steps 1 (e1:=[y0,y1,y7,y3,y2]) (by kernel_rfl) ?_;exact WO.nil rfl
  have s_1_2_3_4_5_6_7_8_10:Run Try.prog (.any 40 all [1,2,3,4,5,6,7,8,10] ([y0,y1,y7,y3]) ([y0,y1,y12,y3,y5,y8,y2,y4,y6,y9,y10,y11])):=by
   subst hall;refine Run.anyC [(1,[y0,y1,y7,y3,y5]),(3,[y0,y1,y7,y3,y2])] (by kernel_rfl) (by kernel_rfl) ?_ (.cons s_2_3_4_5_6_7_8_10 (.cons s_1_2_4_5_6_7_8_10 .nil));refine .cons ?_ (.cons ?_ (.nil))
   ·refine⟨_,rfl,?_⟩;refine WO.steps 1 (e1:=[y0,y1,y7,y3,y5]) (by kernel_rfl) ?_;exact WO.nil rfl
   ·refine⟨_,rfl,?_⟩;refine WO.steps 1 (e1:=[y0,y1,y7,y3,y2]) (by kernel_rfl) ?_;exact WO.nil rfl
  have s_0_1_2_5_6_7_8_9_10:Run Try.prog (.any 40 all [0,1,2,5,6,7,8,9,10] ([y0,y1,y2,y4]) ([y0,y1,y12,y3,y5,y8,y2,y4,y6,y9,y10,y11])):=by
   subst hall;refine Run.anyC [(0,[y0,y1,y3,y2,y4]),(5,[y0,y1,y2,y4,y6]),(9,[y0,y1,y7,y2,y4])] (by kernel_rfl) (by kernel_rfl) ?_ (.cons s_1_2_5_6_7_8_9_10 (.cons s_0_1_2_6_7_8_9_10 (.cons s_0_1_2_5_6_7_8_10 .nil)));refine .cons ?_ (.cons ?_ (.cons ?_ (.nil)))
   ·refine⟨_,rfl,?_⟩;refine WO.steps 1 (e1:=[y0,y1,y3,y2,y4]) (by kernel_rfl) ?_;exact WO.nil rfl
   ·refine⟨_,rfl,?_⟩;refine WO.steps 1 (e1:=[y0,y1,y2,y4,y6]) (by kernel_rfl) ?_;exact WO.nil rfl
   ·refine⟨_,rfl,?_⟩;refine WO.steps 1 (e1:=[y0,y1,y7,y2,y4]) (by kernel_rfl) ?_;exact WO.nil rfl
  have s_0_1_2_4_5_6_7_8_10:Run Try.prog (.any 40 all [0,1,2,4,5,6,7,8,10] ([y0,y1,y7,y2]) ([y0,y1,y12,y3,y5,y8,y2,y4,y6,y9,y10,y11])):=by
   subst hall;refine Run.anyC [(0,[y0,y1,y7,y3,y2]),(4,[y0,y1,y7,y2,y4])] (by kernel_rfl) (by kernel_rfl) ?_ (.cons s_1_2_4_5_6_7_8_10 (.cons s_0_1_2_5_6_7_8_10 .nil));refine .cons ?_ (.cons ?_ (.nil))
   ·refine⟨_,rfl,?_⟩;refine WO.steps 1 (e1:=[y0,y1,y7,y3,y2]) (by kernel_rfl) ?_;exact WO.nil rfl
   ·refine⟨_,rfl,?_⟩;refine WO.steps 1 (e1:=[y0,y1,y7,y2,y4]) (by kernel_rfl) ?_;exact WO.nil rfl
  have s_1_2_3_4_5_6_7_8_9_10:Run Try.prog (.any 40 all [1,2,3,4,5,6,7,8,9,10] ([y0,y1,y3]) ([y0,y1,y12,y3,y5,y8,y2,y4,y6,y9,y10,y11])):=by
   subst hall;refine Run.anyC [(1,[y0,y1,y3,y5]),(3,[y0,y1,y3,y2]),(9,[y0,y1,y7,y3])] (by kernel_rfl) (by kernel_rfl) ?_ (.cons s_2_3_4_5_6_7_8_9_10 (.cons s_1_2_4_5_6_7_8_9_10 (.cons s_1_2_3_4_5_6_7_8_10 .nil)));refine .cons ?_ (.cons ?_ (.cons ?_ (.nil)))
   ·refine⟨_,rfl,?_⟩;refine WO.steps 1 (e1:=[y0,y1,y3,y5]) (by kernel_rfl) ?_;exact WO.nil rfl
   ·refine⟨_,rfl,?_⟩;refine WO.steps 1 (e1:=[y0,y1,y3,y2]) (by kernel_rfl) ?_;exact WO.nil rfl
   ·refine⟨_,rfl,?_⟩;refine WO.steps 1 (e1:=[y0,y1,y7,y3]) (by kernel_rfl) ?_;exact WO.nil rfl
  have s_0_1_2_4_5_6_7_8_9_10:Run Try.prog (.any 40 all [0,1,2,4,5,6,7,8,9,10] ([y0,y1,y2]) ([y0,y1,y12,y3,y5,y8,y2,y4,y6,y9,y10,y11])):=by
   subst hall;refine Run.anyC [(0,[y0,y1,y3,y2]),(4,[y0,y1,y2,y4]),(9,[y0,y1,y7,y2])] (by kernel_rfl) (by kernel_rfl) ?_ (.cons s_1_2_4_5_6_7_8_9_10 (.cons s_0_1_2_5_6_7_8_9_10 (.cons s_0_1_2_4_5_6_7_8_10 .nil)));refine .cons ?_ (.cons ?_ (.cons ?_ (.nil)))
   ·refine⟨_,rfl,?_⟩;refine WO.steps 1 (e1:=[y0,y1,y3,y2]) (by kernel_rfl) ?_;exact WO.nil rfl
   ·refine⟨_,rfl,?_⟩;refine WO.steps 1 (e1:=[y0,y1,y2,y4]) (by kernel_rfl) ?_;exact WO.nil rfl
   ·refine⟨_,rfl,?_⟩;refine WO.steps 1 (e1:=[y0,y1,y7,y2]) (by kernel_rfl) ?_;exact WO.nil rfl
  have s_0_1_2_3_4_5_6_7_8_10:Run Try.prog (.any 40 all [0,1,2,3,4,5,6,7,8,10] ([y0,y1,y7]) ([y0,y1,y12,y3,y5,y8,y2,y4,y6,y9,y10,y11])):=by
   subst hall;refine Run.anyC [(0,[y0,y1,y7,y3]),(3,[y0,y1,y7,y2])] (by kernel_rfl) (by kernel_rfl) ?_ (.cons s_1_2_3_4_5_6_7_8_10 (.cons s_0_1_2_4_5_6_7_8_10 .nil));refine .cons ?_ (.cons ?_ (.nil))
   ·refine⟨_,rfl,?_⟩;refine WO.steps 1 (e1:=[y0,y1,y7,y3]) (by kernel_rfl) ?_;exact WO.nil rfl
   ·refine⟨_,rfl,?_⟩;refine WO.steps 1 (e1:=[y0,y1,y7,y2]) (by kernel_rfl) ?_;exact WO.nil rfl
  have s_0_1_2_3_4_5_6_7_8_9_10:Run Try.prog (.any 40 all [0,1,2,3,4,5,6,7,8,9,10] ([y0,y1]) ([y0,y1,y12,y3,y5,y8,y2,y4,y6,y9,y10,y11])):=by
   subst hall;refine Run.anyC [(0,[y0,y1,y3]),(3,[y0,y1,y2]),(9,[y0,y1,y7])] (by kernel_rfl) (by kernel_rfl) ?_ (.cons s_1_2_3_4_5_6_7_8_9_10 (.cons s_0_1_2_4_5_6_7_8_9_10 (.cons s_0_1_2_3_4_5_6_7_8_10 .nil)));refine .cons ?_ (.cons ?_ (.cons ?_ (.nil)))
   ·refine⟨_,rfl,?_⟩;refine WO.steps 1 (e1:=[y0,y1,y3]) (by kernel_rfl) ?_;exact WO.nil rfl
   ·refine⟨_,rfl,?_⟩;refine WO.steps 1 (e1:=[y0,y1,y2]) (by kernel_rfl) ?_;exact WO.nil rfl
   ·refine⟨_,rfl,?_⟩;refine WO.steps 1 (e1:=[y0,y1,y7]) (by kernel_rfl) ?_;exact WO.nil rfl
  exact s_0_1_2_3_4_5_6_7_8_9_10
 refine WO.fn (e2:=z1 []) ?_;refine W.seq ?_
 let z2:=fun t=>EN ((2,.box [.int .i64 0,.nils,.nils])::t)
 refine W.join (σ:=(ruRule)) (fun s=>z2 [(3,.ptr (.agg [I6 s.qc.qb,l3 none s.qc.qa,l56 none s.qd]))]) (fun s=>(Jj) s=some r) (fun v14 h=>?_) (fun hK5=>?_)
 ·have h:(Jj) v14=some r:=h;unfold Jj at h;refine W.seq ?_
  let z3:=fun t=>EN ((2,.box [I6 v14.qc.qb,l3 none v14.qc.qa,l56 none v14.qd])::t)
  refine W.rt (e2:=z3 []) ?_;refine W.wk (env':=z3 []) ?_;cases h;exact W.ret (show qq _ _ _=some _ by kernel_rfl)
 refine W.seq ?_;refine W.rg ?_;refine WO.pk 2 (some (I6 ((List.map jV a1.qd).length:Int))) (v:=I6 (a1.qd.length:Int)) (by rw[List.length_map]) (e1:=z1 [(15,.ptr (l56 none a1.qd)),(16,l56 none a1.qd),(17,I6 (a1.qd.length:Int))]) ?_;refine WO.fn (e2:=z2 [(3,.box [I6 a1.qc.qb,l3 none w4,.nils]),(16,l56 none a1.qd),(17,I6 (a1.qd.length:Int)),(18,.int .i64 0)]) ?_;refine W.block ?_;obtain⟨hl1,h⟩:=qi h;refine W.weak [2,3,16,17,18] [] [(3,2,56,3,10302)] [] (env':=z2 [(3,.box [I6 a1.qc.qb,l3 none w4,l56 (some 10302) ([]:(List ruLit))]),(16,l56 none a1.qd),(17,I6 (a1.qd.length:Int)),(18,I6 ((0:Nat):Int))]) (by kernel_rfl) ?_;refine W.range (σ:=(Int×(List Int)×(List ruLit))) a1.qd (fun k1 s=>z2 [(3,.box [I6 s.1,l3 none s.2.1,l56 (some 10302) s.2.2]),(16,l56 none a1.qd),(17,I6 (a1.qd.length:Int)),(18,I6 (k1:Int))]) (fun r0 k0 s=>jq (Jj) r0 k0 s.1 s.2.1 s.2.2=some r) (fun s h=>?_) (fun x1 r1 k1 s hx1 hk1 h hN1=>?_) (a1.qc.qb,w4,([]:(List ruLit))) h
 ·obtain⟨v7,v8,v9⟩:=s;have h:jq (Jj) [] (a1.qd).length v7 v8 v9=some r:=h;rw[jq.eq_1]at h;refine W.seq ?_;refine W.rg ?_
  let z4:=fun t=>z2 ((3,.box [I6 v7,l3 none v8,l56 (some 10302) v9])::(16,l56 none a1.qd)::(17,I6 (a1.qd.length:Int))::(18,I6 ((a1.qd).length:Int))::(19,.bool false)::t)
  refine WO.pk 0 (some (.bool (decide (((a1.qd).length:Int)<(a1.qd.length:Int))))) (v:=.bool false) (by rw[jw (l:=a1.qd)]) (e1:=z4 []) ?_;refine WO.fn (e2:=z4 []) ?_;refine W.seq ?_;refine W.cb false (fun h=>Bool.noConfusion h) (fun _=>?_);refine W.exit ?_;refine W.weak [2,3] [3] [] [] (env':=z2 [(3,.ptr (.agg [I6 (ruRule.mk (qj.mk v7 v8) v9).qc.qb,l3 none (ruRule.mk (qj.mk v7 v8) v9).qc.qa,l56 none (ruRule.mk (qj.mk v7 v8) v9).qd]))]) (by kernel_rfl) ?_;exact hK5 (ruRule.mk (qj.mk v7 v8) v9) h
 ·obtain⟨v7,v8,v9⟩:=s;have h:jq (Jj) (x1::r1) k1 v7 v8 v9=some r:=h;rw[jq.eq_2]at h;refine W.seq ?_;refine W.rg ?_
  let z5:=fun t=>z2 ((3,.box [I6 v7,l3 none v8,l56 (some 10302) v9])::(16,l56 none a1.qd)::(17,I6 (a1.qd.length:Int))::(18,I6 (k1:Int))::t)
  refine WO.pk 0 (some (.bool (decide ((k1:Int)<(a1.qd.length:Int))))) (v:=.bool true) (by rw[jT hk1]) (e1:=z5 [(19,.bool true)]) ?_;refine WO.fn (e2:=z5 [(19,.bool true)]) ?_;refine W.seq ?_;refine W.cb true (fun _=>?_) (fun h=>Bool.noConfusion h);refine W.skip ?_;refine W.wk (env':=z5 []) ?_;refine W.seq ?_;refine W.block ?_;refine W.seq ?_;refine W.rg ?_;refine WO.pk 0 (if (0:Int)≤(k1:Int) then ((List.map jV a1.qd)[Int.toNat (k1:Int)]?).map AV.ptr else none) (v:=.ptr (.agg [.bool x1.qn,I6 x1.qe.qb,l3 none x1.qe.qa])) (jU (f:=jV) hx1) (e1:=z5 [(20,.ptr (.agg [.bool x1.qn,I6 x1.qe.qb,l3 none x1.qe.qa]))]) ?_
  let z6:=fun t=>z2 ((3,.box [I6 v7,l3 none v8,l56 (some 10302) v9])::(5,.ptr (.agg [.bool x1.qn,I6 x1.qe.qb,l3 none x1.qe.qa]))::(16,l56 none a1.qd)::(17,I6 (a1.qd.length:Int))::(18,I6 (k1:Int))::t)
  refine WO.fin [2,3,5,16,17,18] [5] [] [] (e2:=z6 []) (by kernel_rfl) (fun _ h=>h) ?_;refine W.rg ?_;obtain⟨w12,hw12,h⟩:=qf h;refine WO.ck 10 (F:=70) (l:=[l3 none x1.qe.qa]) (C:=[]) (r:=l3 (some 1) w12) (je x1.qe.qa w12 hw12) (e1:=z6 [(22,.pb 3 2),(23,l56 (some 10302) v9),(24,.ptr (.bool x1.qn)),(25,.bool x1.qn),(26,.ptr (.agg [I6 x1.qe.qb,l3 none x1.qe.qa])),(27,.ptr (I6 x1.qe.qb)),(28,I6 x1.qe.qb),(29,.ptr (.agg [I6 x1.qe.qb,l3 none x1.qe.qa])),(30,.ptr (l3 none x1.qe.qa)),(31,l3 none x1.qe.qa),(32,l3 none w12)]) ?_;obtain⟨hc13,h⟩:=qi h;refine WO.appendK 3 (d:=36) (e:=56) (s:=3) (bytes:=40) (xs:=(List.map jV v9)) (ys:=(List.map jV [(ruLit.mk x1.qn (qj.mk x1.qe.qb w12))])) (zs:=(List.map jV (v9++[(ruLit.mk x1.qn (qj.mk x1.qe.qb w12))]))) (env1:=[(2,.box [.int .i64 0,.nils,.nils]),(3,.box [I6 v7,l3 none v8,l56 none v9]),(5,.ptr (.agg [.bool x1.qn,I6 x1.qe.qb,l3 none x1.qe.qa])),(16,l56 none a1.qd),(17,I6 (a1.qd.length:Int)),(18,I6 (k1:Int)),(22,.pb 3 2),(23,l56 none v9),(24,.ptr (.bool x1.qn)),(25,.bool x1.qn),(26,.ptr (.agg [I6 x1.qe.qb,l3 none x1.qe.qa])),(27,.ptr (I6 x1.qe.qb)),(28,I6 x1.qe.qb),(29,.ptr (.agg [I6 x1.qe.qb,l3 none x1.qe.qa])),(30,.ptr (l3 none x1.qe.qa)),(31,l3 none x1.qe.qa),(32,l3 none w12),(33,.agg [I6 x1.qe.qb,l3 none w12]),(34,.agg [.bool x1.qn,I6 x1.qe.qb,l3 none w12]),(35,l56 none [(ruLit.mk x1.qn (qj.mk x1.qe.qb w12))])]) (by kernel_rfl) (List.map_append.symm) (by rw[List.length_map];exact hc13) (e1:=z2 [(3,.box [I6 v7,l3 none v8,l56 none v9]),(5,.ptr (.agg [.bool x1.qn,I6 x1.qe.qb,l3 none x1.qe.qa])),(16,l56 none a1.qd),(17,I6 (a1.qd.length:Int)),(18,I6 (k1:Int)),(22,.pb 3 2),(23,l56 none v9),(24,.ptr (.bool x1.qn)),(25,.bool x1.qn),(26,.ptr (.agg [I6 x1.qe.qb,l3 none x1.qe.qa])),(27,.ptr (I6 x1.qe.qb)),(28,I6 x1.qe.qb),(29,.ptr (.agg [I6 x1.qe.qb,l3 none x1.qe.qa])),(30,.ptr (l3 none x1.qe.qa)),(31,l3 none x1.qe.qa),(32,l3 none w12),(33,.agg [I6 x1.qe.qb,l3 none w12]),(34,.agg [.bool x1.qn,I6 x1.qe.qb,l3 none w12]),(35,l56 none [(ruLit.mk x1.qn (qj.mk x1.qe.qb w12))]),(36,l56 (some 36) (v9++[(ruLit.mk x1.qn (qj.mk x1.qe.qb w12))]))]) (by kernel_rfl) ?_
  let z7:=fun t=>z2 ((3,.box [I6 v7,l3 none v8,l56 (some 36) (v9++[(ruLit.mk x1.qn (qj.mk x1.qe.qb w12))])])::(16,l56 none a1.qd)::(17,I6 (a1.qd.length:Int))::(18,I6 (k1:Int))::t)
  refine WO.fn (e2:=z7 []) ?_;refine W.rg ?_;refine WO.pk 0 (some (I6 (IntKind.wrap .i64 ((k1:Int)+1)))) (v:=I6 ((k1+1:Nat):Int)) (by rw[qX hl1 hk1]) (e1:=z7 [(38,I6 ((k1+1:Nat):Int))]) ?_;refine WO.fin [2,3,16,17,18] [] [] [(36,some 10302)] (e2:=z2 [(3,.box [I6 v7,l3 none v8,l56 (some 10302) (v9++[(ruLit.mk x1.qn (qj.mk x1.qe.qb w12))])]),(16,l56 none a1.qd),(17,I6 (a1.qd.length:Int)),(18,I6 ((k1+1:Nat):Int))]) (by kernel_rfl) (fun _ h=>h) ?_;exact hN1 (v7,v8,(v9++[(ruLit.mk x1.qn (qj.mk x1.qe.qb w12))])) h
def Jt (v51:(List ruRule)):Option ((List ruRule)×Int) :=
 (some (v51,0))
def Qu (N4:((List ruRule)→Option ((List ruRule)×Int))) (v50:(List ruRule)):Option ((List ruRule)×Int) :=
 (N4 v50)
def jC (v39:Int) (K41:((List ruRule)→Option ((List ruRule)×Int))):List ruRule→Nat→(List ruRule)→Option ((List ruRule)×Int)
 | [],k4,v43=>(K41 v43)
 | x4::r4,k4,v43=>(chk (decide (0≤x4.qc.qb)) (bif ((iAnd .i64 (iShr .i64 v39 x4.qc.qb) 1) == 1) then ((QX x4).bind fun w48=>(chk (capOk 56 ((v43++[w48])).length) ((Qu (jC v39 K41 r4 (k4+1))) (v43++[w48])))) else ((Qu (jC v39 K41 r4 (k4+1))) v43)))
def qJ (a1:(List ruRule)) (v39:Int):Option ((List ruRule)×Int) :=
 (chk (lenOk a1) (jC v39 (Jt) a1 0 ([]:(List ruRule))))
def jM (N2:(Int→Bool→Option ((List ruRule)×Int))) (v37:Int) (v38:Bool):Option ((List ruRule)×Int) :=
 (N2 v37 v38)
def Qv (N3:(Int→Bool→Option ((List ruRule)×Int))) (v35:Int) (v36:Bool):Option ((List ruRule)×Int) :=
 (N3 v35 v36)
def jD (K21:(Int→Bool→Option ((List ruRule)×Int))):List ruLit→Nat→Int→Bool→Option ((List ruRule)×Int)
 | [],k3,v27,v28=>(K21 v27 v28)
 | x3::r3,k3,v27,v28=>(chk (decide (0≤x3.qe.qb)) (bif ((iAnd .i64 (iShr .i64 v27 x3.qe.qb) 1) == 0) then (chk (decide (0≤x3.qe.qb)) ((Qv (jD K21 r3 (k3+1))) (iOr .i64 v27 (iShl .i64 1 x3.qe.qb)) true)) else ((Qv (jD K21 r3 (k3+1))) v27 v28)))
def qO (N1:(Int→Bool→Option ((List ruRule)×Int))):List ruRule→Nat→Int→Bool→Option ((List ruRule)×Int)
 | [],k2,v19,v20=>(N1 v19 v20)
 | x2::r2,k2,v19,v20=>(chk (decide (0≤x2.qc.qb)) (bif ((iAnd .i64 (iShr .i64 v19 x2.qc.qb) 1) == 0) then ((jM (qO N1 r2 (k2+1))) v19 v20) else (chk (lenOk x2.qd) (jD (jM (qO N1 r2 (k2+1))) x2.qd 0 v19 v20))))
def qL (a1:(List ruRule)) (K11:(Int→Option ((List ruRule)×Int))):Nat→Int→Bool→Option ((List ruRule)×Int)
 | 0,_,_=>none
 | m1+1,v13,v14=>(bif v14 then (chk (lenOk a1) (qO (qL a1 K11 m1) a1 0 v13 false)) else (K11 v13))
def Ql (fuel:Nat) (a1:(List ruRule)) (a2:Int) (v7:Bool):Option ((List ruRule)×Int) :=
 (bif v7 then (some (([]:(List ruRule)),2)) else (chk (decide (0≤a2)) (qL a1 (qJ a1) fuel (iShl .i64 1 a2) true)))
def XL (fuel:Nat) (a1:(List ruRule)) (a2:Int):Option ((List ruRule)×Int) :=
 ((Qo fuel a1 ([]:(List apiFact))).bind fun w6=>(bif (!w6) then ((Ql fuel a1 a2) true) else (bif (decide (a2<0)) then ((Ql fuel a1 a2) true) else ((Ql fuel a1 a2) (decide (a2 ≥ 6))))))
theorem Dw (fuel:Nat) (a1:(List ruRule)) (a2:Int) (r:((List ruRule)×Int)) (h:XL fuel a1 a2=some r):Run Try.prog (.call 39 [l54 none a1,I6 a2] (.tup [l54 none r.1,I6 r.2])):=by
 refine cW Try.func39 rfl (env0:=[(0,l54 none a1),(1,I6 a2)]) ?_;unfold XL at h;refine W.seq ?_
 let z0:=fun t=>EN ((0,l54 none a1)::t)
 let z1:=fun t=>z0 ((1,I6 a2)::t)
 refine W.rt (e2:=z1 []) ?_;refine W.seq ?_;refine W.seq ?_;refine W.join (σ:=(Bool)) (fun s=>z1 [(25,.bool s)]) (fun s=>(Ql fuel a1 a2) s=some r) (fun v7 h=>?_) (fun hK5=>?_)
 ·have h:(Ql fuel a1 a2) v7=some r:=h;unfold Ql at h;refine W.cb v7 (fun hb=>?_) (fun hb=>?_)
  ·replace h:=qv hb h;refine W.seq ?_;refine W.rt (e2:=[(4,.nils),(5,.int .i64 2)]) ?_;refine W.weak [4,5] [] [(4,0,54,3,70004)] [] (env':=[(4,l54 (some 70004) ([]:(List ruRule))),(5,.int .i64 2)]) (by kernel_rfl) ?_;cases h;exact W.ret (show qq _ _ _=some _ by kernel_rfl)
  replace h:=qw hb h;refine W.skip ?_;refine W.wk (env':=z1 []) ?_;refine W.seq ?_;refine W.rg ?_;obtain⟨hc10,h⟩:=qi h;refine WO.pk 1 (if a2<0 then none else some (I6 (iShl .i64 1 a2))) (v:=I6 (iShl .i64 1 a2)) (if_neg (Xb hc10)) (e1:=z1 [(26,I6 a2),(27,I6 (iShl .i64 1 a2))]) ?_
  let z2:=fun t=>z0 ((6,I6 (iShl .i64 1 a2))::t)
  refine WO.fn (e2:=z2 []) ?_;refine W.seq ?_;refine W.join (σ:=(Int)) (fun s=>z0 [(6,I6 s)]) (fun s=>(qJ a1) s=some r) (fun v39 h=>?_) (fun hK11=>?_)
  ·have h:(qJ a1) v39=some r:=h;unfold qJ at h;refine W.seq ?_;refine W.rt (e2:=z0 [(6,I6 v39),(12,.nils)]) ?_;refine W.seq ?_;refine W.join (σ:=((List ruRule))) (fun s=>[(12,l54 (some 11200) s)]) (fun s=>(Jt) s=some r) (fun v51 h=>?_) (fun hK41=>?_)
   ·have h:(Jt) v51=some r:=h;unfold Jt at h;refine W.seq ?_;refine W.rt (e2:=[(4,l54 (some 11200) v51),(5,.int .i64 0)]) ?_;refine W.wk (env':=[(4,l54 (some 11200) v51),(5,.int .i64 0)]) ?_;cases h;exact W.ret (show qq _ _ _=some _ by kernel_rfl)
   refine W.seq ?_;refine W.rg ?_;refine WO.pk 1 (some (I6 ((List.map ja a1).length:Int))) (v:=I6 (a1.length:Int)) (by rw[List.length_map]) (e1:=z0 [(6,I6 v39),(12,.nils),(64,l54 none a1),(65,I6 (a1.length:Int))]) ?_
   let z3:=fun t=>EN ((6,I6 v39)::t)
   refine WO.fn (e2:=z3 [(12,.nils),(64,l54 none a1),(65,I6 (a1.length:Int)),(66,.int .i64 0)]) ?_;refine W.block ?_;obtain⟨hl4,h⟩:=qi h;refine W.weak [6,12,64,65,66] [] [(12,0,54,3,11200)] [] (env':=z3 [(12,l54 (some 11200) ([]:(List ruRule))),(64,l54 none a1),(65,I6 (a1.length:Int)),(66,I6 ((0:Nat):Int))]) (by kernel_rfl) ?_;refine W.range (σ:=((List ruRule))) a1 (fun k4 s=>z3 [(12,l54 (some 11200) s),(64,l54 none a1),(65,I6 (a1.length:Int)),(66,I6 (k4:Int))]) (fun r0 k0 s=>jC v39 (Jt) r0 k0 s=some r) (fun v43 h=>?_) (fun x4 r4 k4 s hx4 hk4 h hN4=>?_) ([]:(List ruRule)) h
   ·have h:jC v39 (Jt) [] (a1).length v43=some r:=h;rw[jC.eq_1]at h;refine W.seq ?_;refine W.rg ?_
    let z4:=fun t=>z3 ((12,l54 (some 11200) v43)::(64,l54 none a1)::(65,I6 (a1.length:Int))::(66,I6 ((a1).length:Int))::(67,.bool false)::t)
    refine WO.pk 0 (some (.bool (decide (((a1).length:Int)<(a1.length:Int))))) (v:=.bool false) (by rw[jw (l:=a1)]) (e1:=z4 []) ?_;refine WO.fn (e2:=z4 []) ?_;refine W.seq ?_;refine W.cb false (fun h=>Bool.noConfusion h) (fun _=>?_);refine W.exit ?_;refine W.wk (env':=[(12,l54 (some 11200) v43)]) ?_;exact hK41 v43 h
   ·obtain⟨v43,rfl⟩:∃ x,x=s:=⟨s,rfl⟩;have h:jC v39 (Jt) (x4::r4) k4 v43=some r:=h;rw[jC.eq_2]at h;refine W.seq ?_;refine W.rg ?_
    let z5:=fun t=>z3 ((12,l54 (some 11200) v43)::(64,l54 none a1)::(65,I6 (a1.length:Int))::(66,I6 (k4:Int))::t)
    refine WO.pk 0 (some (.bool (decide ((k4:Int)<(a1.length:Int))))) (v:=.bool true) (by rw[jT hk4]) (e1:=z5 [(67,.bool true)]) ?_;refine WO.fn (e2:=z5 [(67,.bool true)]) ?_;refine W.seq ?_;refine W.cb true (fun _=>?_) (fun h=>Bool.noConfusion h);refine W.skip ?_;refine W.wk (env':=z5 []) ?_;refine W.seq ?_;refine W.join (σ:=((List ruRule))) (fun s=>z3 [(12,l54 (some 11200) s),(64,l54 none a1),(65,I6 (a1.length:Int)),(66,I6 (k4:Int))]) (fun s=>(Qu (jC v39 (Jt) r4 (k4+1))) s=some r) (fun v50 h=>?_) (fun hK44=>?_)
    ·have h:(Qu (jC v39 (Jt) r4 (k4+1))) v50=some r:=h;unfold Qu at h;refine W.rg ?_
     let z6:=fun t=>z3 ((12,l54 (some 11200) v50)::(64,l54 none a1)::(65,I6 (a1.length:Int))::t)
     refine WO.pk 0 (some (I6 (IntKind.wrap .i64 ((k4:Int)+1)))) (v:=I6 ((k4+1:Nat):Int)) (by rw[qX hl4 hk4]) (e1:=z6 [(66,I6 (k4:Int)),(82,I6 ((k4+1:Nat):Int))]) ?_;refine WO.fn (e2:=z6 [(66,I6 ((k4+1:Nat):Int))]) ?_;exact hN4 v50 h
    refine W.block ?_;refine W.seq ?_;refine W.rg ?_;refine WO.pk 0 (if (0:Int)≤(k4:Int) then ((List.map ja a1)[Int.toNat (k4:Int)]?).map AV.ptr else none) (v:=.ptr (.agg [I6 x4.qc.qb,l3 none x4.qc.qa,l56 none x4.qd])) (jU (f:=ja) hx4) (e1:=z5 [(68,.ptr (.agg [I6 x4.qc.qb,l3 none x4.qc.qa,l56 none x4.qd]))]) ?_
    let z7:=fun t=>z3 ((12,l54 (some 11200) v43)::(14,.ptr (.agg [I6 x4.qc.qb,l3 none x4.qc.qa,l56 none x4.qd]))::(64,l54 none a1)::(65,I6 (a1.length:Int))::(66,I6 (k4:Int))::t)
    refine WO.fin [6,12,14,64,65,66] [14] [] [] (e2:=z7 []) (by kernel_rfl) (fun _ h=>h) ?_;refine W.seq ?_;refine W.rg ?_;obtain⟨hc47,h⟩:=qi h;refine WO.pk 4 (if x4.qc.qb<0 then none else some (I6 (iShr .i64 v39 x4.qc.qb))) (v:=I6 (iShr .i64 v39 x4.qc.qb)) (if_neg (Xb hc47)) (e1:=z7 [(70,I6 v39),(71,.ptr (.agg [I6 x4.qc.qb,l3 none x4.qc.qa])),(72,.ptr (I6 x4.qc.qb)),(73,I6 x4.qc.qb),(74,I6 (iShr .i64 v39 x4.qc.qb))]) ?_
    let z8:=fun t=>z7 ((76,.bool ((iAnd .i64 (iShr .i64 v39 x4.qc.qb) 1) == 1))::t)
    refine WO.fn (e2:=z8 []) ?_;refine W.cb ((iAnd .i64 (iShr .i64 v39 x4.qc.qb) 1) == 1) (fun hb=>?_) (fun hb=>?_)
    ·replace h:=qv hb h;refine W.rg ?_;obtain⟨w48,hw48,h⟩:=qf h;refine WO.ck 2 (F:=86) (l:=[.agg [I6 x4.qc.qb,l3 none x4.qc.qa,l56 none x4.qd]]) (C:=[]) (r:=.agg [I6 w48.qc.qb,l3 none w48.qc.qa,l56 none w48.qd]) (Uy x4 w48 hw48) (e1:=z8 [(77,l54 (some 11200) v43),(78,.agg [I6 x4.qc.qb,l3 none x4.qc.qa,l56 none x4.qd]),(79,.agg [I6 w48.qc.qb,l3 none w48.qc.qa,l56 none w48.qd])]) ?_;obtain⟨hc49,h⟩:=qi h;refine WO.appendK 1 (d:=81) (e:=54) (s:=3) (bytes:=56) (xs:=(List.map ja v43)) (ys:=(List.map ja [w48])) (zs:=(List.map ja (v43++[w48]))) (env1:=[(6,I6 v39),(12,l54 none v43),(14,.ptr (.agg [I6 x4.qc.qb,l3 none x4.qc.qa,l56 none x4.qd])),(64,l54 none a1),(65,I6 (a1.length:Int)),(66,I6 (k4:Int)),(76,.bool ((iAnd .i64 (iShr .i64 v39 x4.qc.qb) 1) == 1)),(77,l54 none v43),(78,.agg [I6 x4.qc.qb,l3 none x4.qc.qa,l56 none x4.qd]),(79,.agg [I6 w48.qc.qb,l3 none w48.qc.qa,l56 none w48.qd]),(80,l54 (some 80) [w48])]) (by kernel_rfl) (List.map_append.symm) (by rw[List.length_map];exact hc49) (e1:=z3 [(12,l54 none v43),(14,.ptr (.agg [I6 x4.qc.qb,l3 none x4.qc.qa,l56 none x4.qd])),(64,l54 none a1),(65,I6 (a1.length:Int)),(66,I6 (k4:Int)),(76,.bool ((iAnd .i64 (iShr .i64 v39 x4.qc.qb) 1) == 1)),(77,l54 none v43),(78,.agg [I6 x4.qc.qb,l3 none x4.qc.qa,l56 none x4.qd]),(79,.agg [I6 w48.qc.qb,l3 none w48.qc.qa,l56 none w48.qd]),(80,l54 (some 80) [w48]),(81,l54 (some 81) (v43++[w48]))]) (by kernel_rfl) ?_;refine WO.fin [6,12,64,65,66] [] [] [(81,some 11200)] (e2:=z3 [(12,l54 (some 11200) (v43++[w48])),(64,l54 none a1),(65,I6 (a1.length:Int)),(66,I6 (k4:Int))]) (by kernel_rfl) (fun _ h=>h) ?_;exact hK44 (v43++[w48]) h
    replace h:=qw hb h;refine W.skip ?_;refine W.wk (env':=z5 []) ?_;exact hK44 v43 h
  refine W.seq ?_;refine W.rt (e2:=z2 [(7,.bool true)]) ?_;refine W.block ?_;refine W.wk (env':=z2 [(7,.bool true)]) ?_;refine W.fuel (σ:=(Int×Bool)) (fun s=>z0 [(6,I6 s.1),(7,.bool s.2)]) (fun m0 s=>qL a1 (qJ a1) m0 s.1 s.2=some r) (fun s h=>?_) (fun m1 s h hN1=>?_) fuel ((iShl .i64 1 a2),true) h
  ·obtain⟨v13,v14⟩:=s;have h:qL a1 (qJ a1) 0 v13 v14=some r:=h;rw[qL.eq_1]at h;cases h
  ·obtain⟨v13,v14⟩:=s;have h:qL a1 (qJ a1) (m1+1) v13 v14=some r:=h;rw[qL.eq_2]at h;refine W.seq ?_;refine W.seq ?_
   let z9:=fun t=>z0 ((6,I6 v13)::t)
   refine W.rt (e2:=z9 [(28,.bool v14)]) ?_;refine W.cb v14 (fun hb=>?_) (fun hb=>?_)
   ·replace h:=qv hb h;refine W.skip ?_;refine W.wk (env':=z9 []) ?_;refine W.block ?_;refine W.seq ?_
    let z10:=fun t=>z9 ((7,.bool false)::t)
    refine W.rt (e2:=z10 []) ?_;refine W.seq ?_;refine W.rg ?_
    let z11:=fun t=>z10 ((29,l54 none a1)::(30,I6 (a1.length:Int))::t)
    refine WO.pk 1 (some (I6 ((List.map ja a1).length:Int))) (v:=I6 (a1.length:Int)) (by rw[List.length_map]) (e1:=z11 []) ?_;refine WO.fn (e2:=z11 [(31,.int .i64 0)]) ?_;refine W.block ?_;obtain⟨hl2,h⟩:=qi h;refine W.wk (env':=z11 [(31,I6 ((0:Nat):Int))]) ?_;refine W.range (σ:=(Int×Bool)) a1 (fun k2 s=>z0 [(6,I6 s.1),(7,.bool s.2),(29,l54 none a1),(30,I6 (a1.length:Int)),(31,I6 (k2:Int))]) (fun r0 k0 s=>qO (qL a1 (qJ a1) m1) r0 k0 s.1 s.2=some r) (fun s h=>?_) (fun x2 r2 k2 s hx2 hk2 h hN2=>?_) (v13,false) h
    ·obtain⟨v19,v20⟩:=s;have h:qO (qL a1 (qJ a1) m1) [] (a1).length v19 v20=some r:=h;rw[qO.eq_1]at h;refine W.seq ?_;refine W.rg ?_
     let z12:=fun t=>z0 ((6,I6 v19)::(7,.bool v20)::(29,l54 none a1)::(30,I6 (a1.length:Int))::(31,I6 ((a1).length:Int))::(32,.bool false)::t)
     refine WO.pk 0 (some (.bool (decide (((a1).length:Int)<(a1.length:Int))))) (v:=.bool false) (by rw[jw (l:=a1)]) (e1:=z12 []) ?_;refine WO.fn (e2:=z12 []) ?_;refine W.seq ?_;refine W.cb false (fun h=>Bool.noConfusion h) (fun _=>?_);refine W.exit ?_;refine W.wk (env':=z0 [(6,I6 v19),(7,.bool v20)]) ?_;exact hN1 (v19,v20) h
    ·obtain⟨v19,v20⟩:=s;have h:qO (qL a1 (qJ a1) m1) (x2::r2) k2 v19 v20=some r:=h;rw[qO.eq_2]at h;refine W.seq ?_;refine W.rg ?_
     let z13:=fun t=>z0 ((6,I6 v19)::(7,.bool v20)::(29,l54 none a1)::(30,I6 (a1.length:Int))::(31,I6 (k2:Int))::t)
     refine WO.pk 0 (some (.bool (decide ((k2:Int)<(a1.length:Int))))) (v:=.bool true) (by rw[jT hk2]) (e1:=z13 [(32,.bool true)]) ?_;refine WO.fn (e2:=z13 [(32,.bool true)]) ?_;refine W.seq ?_;refine W.cb true (fun _=>?_) (fun h=>Bool.noConfusion h);refine W.skip ?_;refine W.wk (env':=z13 []) ?_;refine W.seq ?_;refine W.join (σ:=(Int×Bool)) (fun s=>z0 [(6,I6 s.1),(7,.bool s.2),(29,l54 none a1),(30,I6 (a1.length:Int)),(31,I6 (k2:Int))]) (fun s=>(jM (qO (qL a1 (qJ a1) m1) r2 (k2+1))) s.1 s.2=some r) (fun s h=>?_) (fun hK21=>?_)
     ·obtain⟨v37,v38⟩:=s;have h:(jM (qO (qL a1 (qJ a1) m1) r2 (k2+1))) v37 v38=some r:=h;unfold jM at h;refine W.rg ?_
      let z14:=fun t=>z0 ((6,I6 v37)::(7,.bool v38)::(29,l54 none a1)::(30,I6 (a1.length:Int))::t)
      refine WO.pk 0 (some (I6 (IntKind.wrap .i64 ((k2:Int)+1)))) (v:=I6 ((k2+1:Nat):Int)) (by rw[qX hl2 hk2]) (e1:=z14 [(31,I6 (k2:Int)),(63,I6 ((k2+1:Nat):Int))]) ?_;refine WO.fn (e2:=z14 [(31,I6 ((k2+1:Nat):Int))]) ?_;exact hN2 (v37,v38) h
     refine W.block ?_;refine W.seq ?_;refine W.rg ?_;refine WO.pk 0 (if (0:Int)≤(k2:Int) then ((List.map ja a1)[Int.toNat (k2:Int)]?).map AV.ptr else none) (v:=.ptr (.agg [I6 x2.qc.qb,l3 none x2.qc.qa,l56 none x2.qd])) (jU (f:=ja) hx2) (e1:=z13 [(33,.ptr (.agg [I6 x2.qc.qb,l3 none x2.qc.qa,l56 none x2.qd]))]) ?_
     let z15:=fun t=>z0 ((6,I6 v19)::(7,.bool v20)::(9,.ptr (.agg [I6 x2.qc.qb,l3 none x2.qc.qa,l56 none x2.qd]))::(29,l54 none a1)::(30,I6 (a1.length:Int))::(31,I6 (k2:Int))::t)
     refine WO.fin [0,6,7,9,29,30,31] [9] [] [] (e2:=z15 []) (by kernel_rfl) (fun _ h=>h) ?_;refine W.seq ?_;refine W.seq ?_;refine W.rg ?_;obtain⟨hc25,h⟩:=qi h;refine WO.pk 4 (if x2.qc.qb<0 then none else some (I6 (iShr .i64 v19 x2.qc.qb))) (v:=I6 (iShr .i64 v19 x2.qc.qb)) (if_neg (Xb hc25)) (e1:=z15 [(35,I6 v19),(36,.ptr (.agg [I6 x2.qc.qb,l3 none x2.qc.qa])),(37,.ptr (I6 x2.qc.qb)),(38,I6 x2.qc.qb),(39,I6 (iShr .i64 v19 x2.qc.qb))]) ?_;refine WO.fn (e2:=z15 [(41,.bool ((iAnd .i64 (iShr .i64 v19 x2.qc.qb) 1) == 0))]) ?_;refine W.cb ((iAnd .i64 (iShr .i64 v19 x2.qc.qb) 1) == 0) (fun hb=>?_) (fun hb=>?_)
     ·replace h:=qv hb h;refine W.exit ?_;refine W.wk (env':=z13 []) ?_;exact hK21 (v19,v20) h
     replace h:=qw hb h;refine W.skip ?_;refine W.wk (env':=z15 []) ?_;refine W.seq ?_;refine W.rg ?_;refine WO.pk 2 (some (I6 ((List.map jV x2.qd).length:Int))) (v:=I6 (x2.qd.length:Int)) (by rw[List.length_map]) (e1:=z15 [(42,.ptr (l56 none x2.qd)),(43,l56 none x2.qd),(44,I6 (x2.qd.length:Int))]) ?_
     let z16:=fun t=>z13 ((43,l56 none x2.qd)::(44,I6 (x2.qd.length:Int))::t)
     refine WO.fn (e2:=z16 [(45,.int .i64 0)]) ?_;refine W.block ?_;obtain⟨hl3,h⟩:=qi h;refine W.wk (env':=z16 [(45,I6 ((0:Nat):Int))]) ?_;refine W.range (σ:=(Int×Bool)) x2.qd (fun k3 s=>z0 [(6,I6 s.1),(7,.bool s.2),(29,l54 none a1),(30,I6 (a1.length:Int)),(31,I6 (k2:Int)),(43,l56 none x2.qd),(44,I6 (x2.qd.length:Int)),(45,I6 (k3:Int))]) (fun r0 k0 s=>jD (jM (qO (qL a1 (qJ a1) m1) r2 (k2+1))) r0 k0 s.1 s.2=some r) (fun s h=>?_) (fun x3 r3 k3 s hx3 hk3 h hN3=>?_) (v19,v20) h
     ·obtain⟨v27,v28⟩:=s;have h:jD (jM (qO (qL a1 (qJ a1) m1) r2 (k2+1))) [] (x2.qd).length v27 v28=some r:=h;rw[jD.eq_1]at h;refine W.seq ?_;refine W.rg ?_
      let z17:=fun t=>z0 ((6,I6 v27)::(7,.bool v28)::(29,l54 none a1)::(30,I6 (a1.length:Int))::(31,I6 (k2:Int))::(43,l56 none x2.qd)::(44,I6 (x2.qd.length:Int))::(45,I6 ((x2.qd).length:Int))::(46,.bool false)::t)
      refine WO.pk 0 (some (.bool (decide (((x2.qd).length:Int)<(x2.qd.length:Int))))) (v:=.bool false) (by rw[jw (l:=x2.qd)]) (e1:=z17 []) ?_;refine WO.fn (e2:=z17 []) ?_;refine W.seq ?_;refine W.cb false (fun h=>Bool.noConfusion h) (fun _=>?_);refine W.exit ?_;refine W.wk (env':=z0 [(6,I6 v27),(7,.bool v28),(29,l54 none a1),(30,I6 (a1.length:Int)),(31,I6 (k2:Int))]) ?_;exact hK21 (v27,v28) h
     ·obtain⟨v27,v28⟩:=s;have h:jD (jM (qO (qL a1 (qJ a1) m1) r2 (k2+1))) (x3::r3) k3 v27 v28=some r:=h;rw[jD.eq_2]at h;refine W.seq ?_;refine W.rg ?_
      let z18:=fun t=>z0 ((6,I6 v27)::(7,.bool v28)::(29,l54 none a1)::(30,I6 (a1.length:Int))::(31,I6 (k2:Int))::(43,l56 none x2.qd)::(44,I6 (x2.qd.length:Int))::(45,I6 (k3:Int))::t)
      refine WO.pk 0 (some (.bool (decide ((k3:Int)<(x2.qd.length:Int))))) (v:=.bool true) (by rw[jT hk3]) (e1:=z18 [(46,.bool true)]) ?_;refine WO.fn (e2:=z18 [(46,.bool true)]) ?_;refine W.seq ?_;refine W.cb true (fun _=>?_) (fun h=>Bool.noConfusion h);refine W.skip ?_;refine W.wk (env':=z18 []) ?_;refine W.seq ?_;refine W.join (σ:=(Int×Bool)) (fun s=>z0 [(6,I6 s.1),(7,.bool s.2),(29,l54 none a1),(30,I6 (a1.length:Int)),(31,I6 (k2:Int)),(43,l56 none x2.qd),(44,I6 (x2.qd.length:Int)),(45,I6 (k3:Int))]) (fun s=>(Qv (jD (jM (qO (qL a1 (qJ a1) m1) r2 (k2+1))) r3 (k3+1))) s.1 s.2=some r) (fun s h=>?_) (fun hK29=>?_)
      ·obtain⟨v35,v36⟩:=s;have h:(Qv (jD (jM (qO (qL a1 (qJ a1) m1) r2 (k2+1))) r3 (k3+1))) v35 v36=some r:=h;unfold Qv at h;refine W.rg ?_
       let z19:=fun t=>z0 ((6,I6 v35)::(7,.bool v36)::(29,l54 none a1)::(30,I6 (a1.length:Int))::(31,I6 (k2:Int))::(43,l56 none x2.qd)::(44,I6 (x2.qd.length:Int))::t)
       refine WO.pk 0 (some (I6 (IntKind.wrap .i64 ((k3:Int)+1)))) (v:=I6 ((k3+1:Nat):Int)) (by rw[qX hl3 hk3]) (e1:=z19 [(45,I6 (k3:Int)),(62,I6 ((k3+1:Nat):Int))]) ?_;refine WO.fn (e2:=z19 [(45,I6 ((k3+1:Nat):Int))]) ?_;exact hN3 (v35,v36) h
      refine W.block ?_;refine W.seq ?_;refine W.rg ?_;refine WO.pk 0 (if (0:Int)≤(k3:Int) then ((List.map jV x2.qd)[Int.toNat (k3:Int)]?).map AV.ptr else none) (v:=.ptr (.agg [.bool x3.qn,I6 x3.qe.qb,l3 none x3.qe.qa])) (jU (f:=jV) hx3) (e1:=z18 [(47,.ptr (.agg [.bool x3.qn,I6 x3.qe.qb,l3 none x3.qe.qa]))]) ?_
      let z20:=fun t=>z0 ((6,I6 v27)::(7,.bool v28)::(11,.ptr (.agg [.bool x3.qn,I6 x3.qe.qb,l3 none x3.qe.qa]))::(29,l54 none a1)::(30,I6 (a1.length:Int))::(31,I6 (k2:Int))::(43,l56 none x2.qd)::(44,I6 (x2.qd.length:Int))::(45,I6 (k3:Int))::t)
      refine WO.fin [0,6,7,11,29,30,31,43,44,45] [11] [] [] (e2:=z20 []) (by kernel_rfl) (fun _ h=>h) ?_;refine W.seq ?_;refine W.rg ?_;obtain⟨hc32,h⟩:=qi h;refine WO.pk 4 (if x3.qe.qb<0 then none else some (I6 (iShr .i64 v27 x3.qe.qb))) (v:=I6 (iShr .i64 v27 x3.qe.qb)) (if_neg (Xb hc32)) (e1:=z20 [(49,I6 v27),(50,.ptr (.agg [I6 x3.qe.qb,l3 none x3.qe.qa])),(51,.ptr (I6 x3.qe.qb)),(52,I6 x3.qe.qb),(53,I6 (iShr .i64 v27 x3.qe.qb))]) ?_
      let z21:=fun t=>z20 ((55,.bool ((iAnd .i64 (iShr .i64 v27 x3.qe.qb) 1) == 0))::t)
      refine WO.fn (e2:=z21 []) ?_;refine W.cb ((iAnd .i64 (iShr .i64 v27 x3.qe.qb) 1) == 0) (fun hb=>?_) (fun hb=>?_)
      ·replace h:=qv hb h;refine W.seq ?_;refine W.rg ?_;obtain⟨hc34,h⟩:=qi h;refine WO.pk 4 (if x3.qe.qb<0 then none else some (I6 (iShl .i64 1 x3.qe.qb))) (v:=I6 (iShl .i64 1 x3.qe.qb)) (if_neg (Xb hc34)) (e1:=z21 [(56,I6 v27),(57,.ptr (.agg [I6 x3.qe.qb,l3 none x3.qe.qa])),(58,.ptr (I6 x3.qe.qb)),(59,I6 x3.qe.qb),(60,I6 (iShl .i64 1 x3.qe.qb))]) ?_
       let z22:=fun t=>z0 ((6,I6 (iOr .i64 v27 (iShl .i64 1 x3.qe.qb)))::t)
       refine WO.fn (e2:=z22 [(29,l54 none a1),(30,I6 (a1.length:Int)),(31,I6 (k2:Int)),(43,l56 none x2.qd),(44,I6 (x2.qd.length:Int)),(45,I6 (k3:Int))]) ?_;refine W.rt (e2:=z22 [(7,.bool true),(29,l54 none a1),(30,I6 (a1.length:Int)),(31,I6 (k2:Int)),(43,l56 none x2.qd),(44,I6 (x2.qd.length:Int)),(45,I6 (k3:Int))]) ?_;exact hK29 ((iOr .i64 v27 (iShl .i64 1 x3.qe.qb)),true) h
      replace h:=qw hb h;refine W.skip ?_;refine W.wk (env':=z18 []) ?_;exact hK29 (v27,v28) h
   replace h:=qw hb h;refine W.exit ?_;refine W.wk (env':=z9 []) ?_;exact hK11 v13 h
 refine W.rg ?_;obtain⟨w6,hw6,h⟩:=qf h
 let z23:=fun t=>z1 ((15,l54 none a1)::(16,.bool w6)::t)
 refine WO.ck 1 (F:=56) (l:=[l54 none a1,.nils]) (C:=[]) (r:=.bool w6) (qfB (by kernel_rfl) 1 (by kernel_rfl) (Zx fuel a1 ([]:(List apiFact)) w6 hw6)) (e1:=z23 []) ?_;refine WO.bk 2 (fun b=>z23 [(17,.bool b),(18,.bool b)]) (!w6) (fun hb=>?_) (fun hb=>?_)
 ·replace h:=qv hb h;refine WO.fn (e2:=z1 [(25,.bool true)]) ?_;exact hK5 true h
 replace h:=qw hb h;refine WO.bk 4 (fun b=>z23 [(17,.bool false),(18,.bool false),(19,I6 a2),(20,.bool b),(21,.bool b),(22,.bool b)]) (decide (a2<0)) (fun hb=>?_) (fun hb=>?_)
 ·replace h:=qv hb h;refine WO.fn (e2:=z1 [(25,.bool true)]) ?_;exact hK5 true h
 replace h:=qw hb h;refine WO.fn (e2:=z1 [(25,.bool (decide (a2 ≥ 6)))]) ?_;exact hK5 (decide (a2 ≥ 6)) h
end Go.AM
