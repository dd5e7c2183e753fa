/- s -/
import Derived.Test.YtoiejpkfpjingaaASimP
import Derived.Test.YtoiejpkfpjingaaCSort
import Derived.Test.YtoiejpkfpjingaaKA1
set_option linter.unusedVariables false
set_option linter.unusedSimpArgs false
set_option maxRecDepth 100000
namespace Go.AM
open Go.Proofs
theorem mixedP : Try.prog.follows .mixedOrders = true := by kernel_rfl
abbrev cI (x : Int) : AV := .int .i64 x
abbrev cK (l : List (Int × Int)) : List AV := l.map fun p => AV.int .i64 p.1
abbrev cV (l : List (Int × Int)) : List AV := l.map fun p => AV.int .i64 p.2
abbrev cL (l : List Int) : List AV := l.map (AV.int .i64)
def comm (l : List (Int × Int)) : List Int := (l.filter fun p => decide (p.2 ≥ 0)).map Prod.fst
theorem sortI_perm {l m : List Int} (h : l.Perm m) : sortI l = sortI m := by
 have h1 : ∀ l : List Int, (sortI l).Pairwise fun a b => decide (a ≤ b) = true := fun l => List.pairwise_mergeSort (by intro a b c; simp; omega) (by intro a b; simp; omega) l
 refine List.Perm.eq_of_pairwise (le := fun a b => decide (a ≤ b) = true) (fun a b _ _ x y => by simp at x y; omega) (h1 l) (h1 m) ?_
 exact ((List.mergeSort_perm l _).trans h).trans (List.mergeSort_perm m _).symm
theorem erase_map {α β : Type} (f : α → β) : ∀ (l : List α) (j : Nat), (l.map f).eraseIdx j = (l.eraseIdx j).map f
 | [], j => by simp
 | a :: l, 0 => by simp
 | a :: l, j + 1 => by simp [erase_map f l j]
theorem erase_perm {α : Type} : ∀ (l : List α) (j : Nat) (h : j < l.length), l.Perm (l[j] :: l.eraseIdx j)
 | [], j, h => by simp at h
 | a :: l, 0, h => by simp
 | a :: l, j + 1, h => by
  have ih := erase_perm l j (by simpa using h)
  simp only [List.getElem_cons_succ, List.eraseIdx_cons_succ]
  exact (ih.cons a).trans (List.Perm.swap _ _ _)
theorem next_pairs (rem : List (Int × Int)) {j : Nat} (h : j < rem.length) : nextEnt (cK rem) (cV rem) j = .hob 2 (cI rem[j].1 :: cK (rem.eraseIdx j)) (cI rem[j].2 :: cV (rem.eraseIdx j)) := by
 unfold nextEnt cK cV
 rw [erase_map, erase_map]
 have e1 : (rem.map fun p => AV.int .i64 p.1).getD j .und = cI rem[j].1 := by
  rw [List.getD_eq_getElem?_getD, List.getElem?_map, List.getElem?_eq_getElem h]; rfl
 have e2 : (rem.map fun p => AV.int .i64 p.2).getD j .und = cI rem[j].2 := by
  rw [List.getD_eq_getElem?_getD, List.getElem?_map, List.getElem?_eq_getElem h]; rfl
 rw [e1, e2]
theorem comm_take {rem : List (Int × Int)} {j : Nat} (h : j < rem.length) {acc T : List Int} (hp : (acc ++ comm rem).Perm T) :
  ((if rem[j].2 ≥ 0 then acc ++ [rem[j].1] else acc) ++ comm (rem.eraseIdx j)).Perm T := by
 refine List.Perm.trans ?_ hp
 have h1 : (comm rem).Perm (comm (rem[j] :: rem.eraseIdx j)) := ((erase_perm rem j h).filter _).map _
 refine List.Perm.trans ?_ (h1.append_left acc).symm
 unfold comm
 rw [List.filter_cons]
 by_cases hc : rem[j].2 ≥ 0
 ·rw [if_pos hc, decide_eq_true hc]
  simp
 ·rw [if_neg hc, decide_eq_false hc]
  simp
def CommI (T : List Int) (k : Nat) (e : Env) : Prop := ∃ (acc : List Int) (rem : List (Int × Int)) (y : AV), rem.length = k ∧ leftE y = some (cK rem, cV rem) ∧ acc.length + rem.length ≤ 1000 ∧ (acc ++ comm rem).Perm T ∧
 Goes 23 e [(3, .sb 1500003 3 1 0 acc.length), (8, .mb 1 1000008), (1000008, y), (1500003, .obj 3 1 (cL acc))]
theorem run_sort {acc : List Int} (h : acc.length ≤ 1000) : Run Try.prog (.callM 92 [.sb 2000000 3 1 0 acc.length] [(2000000, .obj 3 1 (cL acc))] (.tup []) [(2000000, .obj 3 1 (cL (sortI acc)))]) := by
 by_cases h2 : acc = []
 ·subst h2
  have e : sortI [] = [] := by simp [sortI]
  rw [e]
  exact .extM sortNone92 (fun id x hx => by simp only [look] at hx; split at hx <;> cases hx; rfl)
 ·exact .extSort rfl h2 (by omega) knownSort92
theorem committed_ok {fuel : Nat} {h : List hsOp} {l : List (Int × Int)} (he : hs_History_ending fuel h 2 = some l) (hl : l.length ≤ 1000) : CallOk Try.prog 51 [l44 none h] (.lst 3 1 none (cL (sortI (comm l)))) := by
 refine callOk_of_P Try.func51 rfl (by kernel_rfl) (fun e k q xs hh => by cases hh) ?_
 refine CodeP.seq (CodeP.reg mixedP (e2 := [(0, l44 none h), (2, .nils)]) ?_)
 refine CodeP.wk (env' := [(0, l44 none h)]) ?_
 refine CodeP.seq (CodeP.reg mixedP (e2 := [(0, l44 none h), (3, .nils)]) ?_)
 refine CodeP.mv [.nil 3 3 1 1500003] (env' := [(0, l44 none h), (3, .sb 1500003 3 1 0 0), (1500003, .obj 3 1 [])]) ?_
 refine CodeP.seq (CodeP.seq (CodeP.of mixedP (W.region (by kernel_rfl) ?_)))
 refine WO.callK 1 (F := 62) (l := [l44 none h, .int .i64 2]) (C := []) (r := mpE (AV.int .i64) (AV.int .i64) l) (by kernel_rfl) (by kernel_rfl) (run_hs_History_ending fuel h 2 l he) (e1 := [(0, l44 none h), (3, .sb 1500003 3 1 0 0), (6, l44 none h), (7, mpE (AV.int .i64) (AV.int .i64) l), (1500003, .obj 3 1 [])]) (by kernel_rfl) ?_
 refine WO.end0 (e2 := [(0, l44 none h), (3, .sb 1500003 3 1 0 0), (6, l44 none h), (7, mpE (AV.int .i64) (AV.int .i64) l), (8, .mb 1 1000008), (1000008, .hob 1 (cK l) (cV l)), (1500003, .obj 3 1 [])]) (by kernel_rfl) ?_
 refine CodeP.wk (env' := [(3, .sb 1500003 3 1 0 0), (8, .mb 1 1000008), (1000008, .hob 1 (cK l) (cV l)), (1500003, .obj 3 1 [])]) ?_
 refine CodeP.block (CodeP.loop (I := CommI (comm l)) ?_ l.length ⟨[], l, .hob 1 (cK l) (cV l), rfl, rfl, by simpa using hl, List.Perm.refl _, Goes.refl _⟩)
 rintro k e ⟨acc, rem, y, hk, hy, hlen, hp, hg⟩
 refine CodeP.goes hg ?_
 refine CodeP.seq ?_
 refine CodeP.next mixedP rfl rfl (by kernel_rfl) (it := 1000008) (y := y) (ks := cK rem) (vs := cV rem) rfl rfl hy (envF := [(3, .sb 1500003 3 1 0 acc.length), (8, .mb 1 1000008), (9, .tup [.bool false]), (1000008, y), (1500003, .obj 3 1 (cL acc))]) (by kernel_rfl)
  (envT := fun j => [(3, .sb 1500003 3 1 0 acc.length), (8, .mb 1 1000008), (9, .tup [.bool true, .top, .top]), (1000008, nextEnt (cK rem) (cV rem) j), (1500003, .obj 3 1 (cL acc))]) (fun j _ => by kernel_rfl) (fun h0 _ => ?_) (fun j hj _ => ?_)
 ·
  refine WO.end0 (e2 := [(3, .sb 1500003 3 1 0 acc.length), (8, .mb 1 1000008), (9, .tup [.bool false]), (10, .bool false), (1000008, y), (1500003, .obj 3 1 (cL acc))]) (by kernel_rfl) ?_
  have hr0 : rem = [] := by simpa [cK] using h0
  subst hr0
  have hpa : acc.Perm (comm l) := by simpa [comm] using hp
  refine CodeP.seq (CodeP.cond false (by kernel_rfl) (fun h => Bool.noConfusion h) (fun _ => CodeP.of mixedP (W.exit ?_)))
  refine CodeP.wk (env' := [(3, .sb 1500003 3 1 0 acc.length), (1500003, .obj 3 1 (cL acc))]) ?_
  refine CodeP.of mixedP ?_
  refine W.seq ?_
  refine W.region (by kernel_rfl) ?_
  refine WO.callMK 1 [(1500003, 2000000)] [] (F := 92) (args := [.sb 2000000 3 1 0 acc.length]) (hp := [(2000000, .obj 3 1 (cL acc))]) (hp2 := [(2000000, .obj 3 1 (cL (sortI acc)))]) (r := .tup []) (by kernel_rfl) (run_sort (by simpa using hlen)) (e1 := [(3, .sb 1500003 3 1 0 acc.length), (20, .sb 1500003 3 1 0 acc.length), (21, .tup []), (1500003, .obj 3 1 (cL (sortI acc)))]) (by kernel_rfl) ?_
  refine WO.fin [3, 1500003] [] [] [] (e2 := [(3, .sb 1500003 3 1 0 acc.length), (1500003, .obj 3 1 (cL (sortI acc)))]) (by kernel_rfl) (fun _ h => h) ?_
  refine W.seq ?_
  refine W.regT [2, 1500003] [] [] [] (e2 := [(2, .sb 1500003 3 1 0 acc.length), (1500003, .obj 3 1 (cL (sortI acc)))]) (by kernel_rfl) (by kernel_rfl) (fun _ h => h) ?_
  have hsl : (sortI acc).length = acc.length := by unfold sortI; exact List.length_mergeSort acc
  have hsn : snapA 0 acc.length (cL (sortI acc)) = cL (sortI (comm l)) := by
   rw [sortI_perm hpa] at hsl ⊢
   unfold snapA cL
   rw [List.drop_zero, List.take_of_length_le (by rw [List.length_map, hsl]; exact Nat.le_refl _)]
  refine W.mv [.frz 1500003] (env' := [(2, .lst 3 1 none (cL (sortI (comm l))))]) ((by kernel_rfl : mvAll [(2, .sb 1500003 3 1 0 acc.length), (1500003, .obj 3 1 (cL (sortI acc)))] [.frz 1500003] = [(2, .lst 3 1 none (snapA 0 acc.length (cL (sortI acc))))]).trans (by rw [hsn])) ?_
  have hr : aresults Try.prog Try.f51 [(2, .lst 3 1 none (cL (sortI (comm l))))] = some (.lst 3 1 none (cL (sortI (comm l)))) := by kernel_rfl
  exact W.ret hr
 ·
  have hj : j < rem.length := by simpa [cK] using hj
  show WO Try.prog _ false _ _ _ [(3, .sb 1500003 3 1 0 acc.length), (8, .mb 1 1000008), (9, .tup [.bool true, .top, .top]), (1000008, nextEnt (cK rem) (cV rem) j), (1500003, .obj 3 1 (cL acc))]
  rw [next_pairs rem hj]
  have hpt := comm_take hj hp
  have hel : (rem.eraseIdx j).length = rem.length - 1 := by rw [List.length_eraseIdx, if_pos hj]
  generalize hp1 : rem[j].1 = pk at hpt ⊢
  generalize hp2 : rem[j].2 = pv at hpt ⊢
  generalize rem.eraseIdx j = rem2 at hpt hel ⊢
  refine WO.end0 (e2 := [(3, .sb 1500003 3 1 0 acc.length), (8, .mb 1 1000008), (9, .tup [.bool true, .top, .top]), (10, .bool true), (1000008, .hob 2 (cI pk :: cK rem2) (cI pv :: cV rem2)), (1500003, .obj 3 1 (cL acc))]) (by kernel_rfl) ?_
  refine CodeP.seq (CodeP.cond true (by kernel_rfl) (fun _ => CodeP.of mixedP (W.skip ?_)) (fun h => Bool.noConfusion h))
  refine CodeP.wk (env' := [(3, .sb 1500003 3 1 0 acc.length), (8, .mb 1 1000008), (1000008, .hob 2 (cI pk :: cK rem2) (cI pv :: cV rem2)), (1500003, .obj 3 1 (cL acc))]) ?_
  refine CodeP.block (CodeP.seq (CodeP.reg mixedP (e2 := [(3, .sb 1500003 3 1 0 acc.length), (4, cI pk), (5, cI pv), (8, .mb 1 1000008), (11, .tup [cI pk, cI pv]), (12, cI pk), (13, cI pv), (1000008, .hob 2 (cI pk :: cK rem2) (cI pv :: cV rem2)), (1500003, .obj 3 1 (cL acc))]) ?_))
  refine CodeP.wk (env' := [(3, .sb 1500003 3 1 0 acc.length), (4, cI pk), (5, cI pv), (8, .mb 1 1000008), (1000008, .hob 2 (cI pk :: cK rem2) (cI pv :: cV rem2)), (1500003, .obj 3 1 (cL acc))]) ?_
  refine CodeP.seq (CodeP.reg mixedP (e2 := [(3, .sb 1500003 3 1 0 acc.length), (4, cI pk), (5, cI pv), (8, .mb 1 1000008), (14, cI pv), (15, .bool (decide (pv ≥ 0))), (1000008, .hob 2 (cI pk :: cK rem2) (cI pv :: cV rem2)), (1500003, .obj 3 1 (cL acc))]) ?_)
  refine CodeP.cond (decide (pv ≥ 0)) (by kernel_rfl) (fun hc => ?_) (fun hc => ?_)
  ·have hc := of_decide_eq_true hc
   rw [if_pos hc] at hpt
   refine CodeP.wk (env' := [(3, .sb 1500003 3 1 0 acc.length), (4, cI pk), (8, .mb 1 1000008), (1000008, .hob 2 (cI pk :: cK rem2) (cI pv :: cV rem2)), (1500003, .obj 3 1 (cL acc))]) ?_
   refine CodeP.of mixedP (W.region (by kernel_rfl) ?_)
   refine WO.appendOK 3 (d := 19) (e := 3) (s := 1) (bytes := 8) (m := acc.length) (n2 := (acc ++ [pk]).length) (xs := cL acc) (ys := cL [pk]) (zs := cL (acc ++ [pk])) (env1 := [(3, .top), (4, cI pk), (8, .mb 1 1000008), (16, .top), (17, cI pk), (18, .lst 3 1 (some 18) (cL [pk])), (1000008, .hob 2 (cI pk :: cK rem2) (cI pv :: cV rem2))]) (by kernel_rfl) ?_ ?_ (List.length_map _) (e1 := [(3, .top), (4, cI pk), (8, .mb 1 1000008), (16, .top), (17, cI pk), (18, .lst 3 1 (some 18) (cL [pk])), (19, .sb 1000019 3 1 0 (acc ++ [pk]).length), (1000008, .hob 2 (cI pk :: cK rem2) (cI pv :: cV rem2)), (1000019, .obj 3 1 (cL (acc ++ [pk])))]) (by kernel_rfl) ?_
   ·have : (cL [pk]).length = 1 := rfl
    rw [this]
    have : (acc.length + 1) * 8 ≤ 1001 * 8 := by omega
    simp only [capOk, Bool.and_eq_true, Nat.ble_eq]
    omega
   ·unfold snapA cL
    rw [List.drop_zero, List.map_append, List.take_of_length_le (by rw [List.length_map]; exact Nat.le_refl _)]
   ·refine WO.end0 (e2 := [(3, .sb 1000019 3 1 0 (acc ++ [pk]).length), (4, cI pk), (8, .mb 1 1000008), (16, .top), (17, cI pk), (18, .lst 3 1 (some 18) (cL [pk])), (19, .sb 1000019 3 1 0 (acc ++ [pk]).length), (1000008, .hob 2 (cI pk :: cK rem2) (cI pv :: cV rem2)), (1000019, .obj 3 1 (cL (acc ++ [pk])))]) (by kernel_rfl) ?_
    exact ⟨rem.length - 1, by omega, acc ++ [pk], rem2, .hob 2 (cI pk :: cK rem2) (cI pv :: cV rem2), hel, rfl, by simp; omega, hpt, Goes.wk (e1 := [(3, .sb 1000019 3 1 0 (acc ++ [pk]).length), (8, .mb 1 1000008), (1000008, .hob 2 (cI pk :: cK rem2) (cI pv :: cV rem2)), (1000019, .obj 3 1 (cL (acc ++ [pk])))]) (Goes.mv [.ren 1000019 1500003] (Goes.refl _))⟩
  ·have hc := of_decide_eq_false hc
   rw [if_neg hc] at hpt
   refine CodeP.of mixedP (W.skip ?_)
   exact ⟨rem.length - 1, by omega, acc, rem2, .hob 2 (cI pk :: cK rem2) (cI pv :: cV rem2), hel, rfl, by omega, hpt, Goes.wk (e1 := [(3, .sb 1500003 3 1 0 acc.length), (8, .mb 1 1000008), (1000008, .hob 2 (cI pk :: cK rem2) (cI pv :: cV rem2)), (1500003, .obj 3 1 (cL acc))]) (Goes.refl _)⟩
end Go.AM
