/- PRINTED by gen.py: the types of the program. No statement of the seat is proved here. -/
import Derived.Test.YtombfedoinhafaaAWp
import Derived.Test.YtombfedoinhafaaChecked
set_option linter.unusedVariables false
namespace Go.AM
open Go.Proofs

structure rf1Dep where
  f_From : Int
  f_To : Int
def l3 (c : Option Nat) (l : List Int) : AV := .lst 3 1 c (List.map (AV.int .i64) l)
def l35 (c : Option Nat) (l : List (List Int)) : AV := .lst 35 1 c (List.map (encL 3 1 (AV.int .i64)) l)
def e_rf1Dep (x : rf1Dep) : AV := .agg [.int .i64 x.f_From, .int .i64 x.f_To]

structure dpDep where
  f_From : Int
  f_To : Int
def l40 (c : Option Nat) (l : List rf1Dep) : AV := .lst 40 2 c (List.map e_rf1Dep l)
def e_dpDep (x : dpDep) : AV := .agg [.int .i64 x.f_From, .int .i64 x.f_To]

structure rf1Step where
  f_Rule : Int
  f_I : Int
  f_J : Int
  f_Dep : rf1Dep
def l33 (c : Option Nat) (l : List dpDep) : AV := .lst 33 2 c (List.map e_dpDep l)
def e_rf1Step (x : rf1Step) : AV := .agg [.int .i64 x.f_Rule, .int .i64 x.f_I, .int .i64 x.f_J, .int .i64 x.f_Dep.f_From, .int .i64 x.f_Dep.f_To]

structure dpStep where
  f_Rule : Int
  f_I : Int
  f_J : Int
  f_Dep : dpDep
def l98 (c : Option Nat) (l : List rf1Step) : AV := .lst 98 5 c (List.map e_rf1Step l)
def e_dpStep (x : dpStep) : AV := .agg [.int .i64 x.f_Rule, .int .i64 x.f_I, .int .i64 x.f_J, .int .i64 x.f_Dep.f_From, .int .i64 x.f_Dep.f_To]

def l58 (c : Option Nat) (l : List dpStep) : AV := .lst 58 5 c (List.map e_dpStep l)
end Go.AM
