/-
  CHAPTER 1, PLAIN: DependShown's function returns true. No statement of the seat is proved here.
-/
import Derived.Test.YtombfedoinhafaaALaw4
import Derived.Test.YtombfedoinhafaaG3
set_option linter.unusedVariables false
set_option linter.unusedSimpArgs false
namespace Go.AM

/-- two rows agree in the attributes of f only if in those of t -/
def good (f t x y : Int) : Bool := !(has f x && has f y) || (has t x && has t y)

theorem idx_row {n : Nat} {x i : Int} {a : Nat} (h : a < n) : idx (rowF n x i) (a : Int) = some (if bit x a then 0 else i) := by
  unfold idx
  rw [if_pos (Int.natCast_nonneg a), Int.toNat_natCast]
  simp [rowF, h]

theorem bit0 {x : Int} (hx : wf64 x) {k : Nat} (hk : k < 64) : (iAnd .i64 (iShr .i64 x (k : Int)) 1 == 0) = !bit x k := by
  rw [bit_eq hx k hk]
  cases bit x k <;> rfl

/-- the rows i and j of the sets x and y, j before i -/
theorem agree_eq {x y : Int} {i j a : Nat} (hij : j < i) (h0 : j = 0 → bit y a = true) :
    ((if bit x a then (0 : Int) else (i : Int)) == (if bit y a then (0 : Int) else (j : Int))) = (bit x a && bit y a) := by
  have hi : ((i : Int) == 0) = false := by simp; omega
  have hij' : ((i : Int) == (j : Int)) = false := by simp; omega
  cases hx : bit x a with
  | true =>
    cases hy : bit y a with
    | true => simp
    | false =>
      have : j ≠ 0 := fun e => by rw [h0 e] at hy; cases hy
      have hj : ((0 : Int) == (j : Int)) = false := by simp; omega
      simpa using hj
  | false =>
    cases hy : bit y a with
    | true => simpa using hi
    | false => simpa using hij'

theorem shown_l3 {n : Nat} (hn : n ≤ 8) {x y : Int} {i j : Nat} (hij : j < i) (h0 : j = 0 → ∀ a, a < n → bit y a = true) {d : rf1Dep} (hf : wf64 d.f_From) (ht : wf64 d.f_To) (K : Bool → Bool → Option Bool) :
    ∀ (r : List Nat) (k : Nat) (u v : Bool), k + r.length = n →
    lw1_DependShown_l3 (rowF n x (i : Int)) (rowF n y (j : Int)) d K r k u v =
      K (u && (List.range' k r.length).all fun a => !bit d.f_From a || (bit x a && bit y a)) (v && (List.range' k r.length).all fun a => !bit d.f_To a || (bit x a && bit y a))
  | [], k, u, v, _ => by rw [lw1_DependShown_l3.eq_1]; simp
  | z :: r, k, u, v, hk => by
    simp only [List.length_cons] at hk
    have hk0 : decide (0 ≤ (k : Int)) = true := by simp
    have hkn : k < n := by omega
    have hag := agree_eq (x := x) (y := y) (a := k) hij (fun e => h0 e k hkn)
    rw [lw1_DependShown_l3.eq_2]
    unfold lw1_DependShown_j40 lw1_DependShown_j38
    simp only [hk0, chk, cond_true, bit0 hf (show k < 64 by omega), bit0 ht (show k < 64 by omega), idx_row hkn, Option.bind_some, hag]
    have ih := fun u' v' => shown_l3 hn (x := x) hij h0 hf ht K r (k + 1) u' v' (by omega)
    simp only [ih, List.length_cons, List.range'_succ, List.all_cons]
    cases u <;> cases v <;> cases hb1 : bit d.f_From k <;> cases hb2 : bit d.f_To k <;> simp

theorem all_bits {n : Nat} (hn : n ≤ 62) {f x y : Int} (hf : wf64 f) (hs : Bits f ((2 ^ n - 1 : Nat) : Int)) : ((List.range' 0 n).all fun a => !bit f a || (bit x a && bit y a)) = (has f x && has f y) := by
  rw [Bool.eq_iff_iff, List.all_eq_true, Bool.and_eq_true, has_iff, has_iff]
  constructor
  · intro h
    have key : ∀ a, bit f a = true → bit x a = true ∧ bit y a = true := by
      intro a ha
      have hlt : a < n := by
        have h2 := hs a ha
        have hV : V ((2 ^ n - 1 : Nat) : Int) = BitVec.ofNat 64 (2 ^ n - 1) := by unfold V; exact BitVec.ofInt_natCast _ _
        rw [hV, BitVec.getLsbD_ofNat] at h2
        simp only [Bool.and_eq_true, Nat.testBit_two_pow_sub_one, decide_eq_true_eq] at h2
        exact h2.2
      have := h a (by simp [List.mem_range']; exact hlt)
      rw [ha] at this
      simpa using this
    exact ⟨fun a ha => (key a ha).1, fun a ha => (key a ha).2⟩
  · rintro ⟨h1, h2⟩ a _
    cases hb : bit f a with
    | false => rfl
    | true =>
      have e1 : bit x a = true := h1 a hb
      have e2 : bit y a = true := h2 a hb
      rw [e1, e2]; rfl

def tabFrom (n : Nat) : Nat → List Int → List (List Int)
  | _, [] => []
  | j, x :: S => rowF n x (j : Int) :: tabFrom n (j + 1) S

theorem tab_from (n : Nat) : ∀ (S : List Int) (j : Nat), S.mapIdx (fun i x => rowF n x ((i + j : Nat) : Int)) = tabFrom n j S
  | [], j => rfl
  | x :: S, j => by
    rw [List.mapIdx_cons]
    unfold tabFrom
    rw [← tab_from n S (j + 1)]
    simp [Nat.add_assoc, Nat.add_comm 1 j]

theorem tab_eq (n : Nat) (S : List Int) : tab n S = tabFrom n 0 S := by rw [← tab_from]; rfl

theorem tabFrom_take (n : Nat) : ∀ (S : List Int) (j k : Nat), (tabFrom n j S).take k = tabFrom n j (S.take k)
  | [], j, k => by simp [tabFrom]
  | x :: S, j, 0 => by simp [tabFrom]
  | x :: S, j, k + 1 => by simp [tabFrom, tabFrom_take n S]

theorem tabFrom_length (n : Nat) : ∀ (S : List Int) (j : Nat), (tabFrom n j S).length = S.length
  | [], j => rfl
  | x :: S, j => by simp [tabFrom, tabFrom_length n S]

theorem full_bit {n : Int} (h1 : 1 ≤ n) (h2 : n ≤ 8) {a : Nat} (ha : a < n.toNat) : bit (full n) a = true := by
  unfold bit full
  have hV : V ((2 ^ n.toNat - 1 : Nat) : Int) = BitVec.ofNat 64 (2 ^ n.toNat - 1) := by unfold V; exact BitVec.ofInt_natCast _ _
  rw [hV, BitVec.getLsbD_ofNat]
  have : a < 64 := by omega
  simp [this, ha]

theorem shown_l2 {n : Int} (h1 : 1 ≤ n) (h2 : n ≤ 8) {x : Int} {i : Nat} {d : rf1Dep} (hf : wf64 d.f_From) (ht : wf64 d.f_To) (sf : isSet n d.f_From = true) (st : isSet n d.f_To = true) (K : Bool → Option Bool) :
    ∀ (S : List Int) (j k : Nat) (b : Bool), j + S.length ≤ i → (j = 0 → ∀ y, S[0]? = some y → y = full n) →
    lw1_DependShown_l2 n (rowF n.toNat x (i : Int)) d K (tabFrom n.toNat j S) k b = K (b && S.all fun y => good d.f_From d.f_To x y)
  | [], j, k, b, _, _ => by unfold tabFrom; rw [lw1_DependShown_l2.eq_1]; simp
  | y :: S, j, k, b, hj, h0 => by
    simp only [List.length_cons] at hj
    unfold tabFrom
    rw [lw1_DependShown_l2.eq_2]
    have hl : ∀ z w : Int, (((rowF n.toNat z w).length : Int) != n) = false := by
      intro z w; simp [rowF]; omega
    simp only [hl, cond_false]
    unfold lw1_DependShown_j30 lw1_DependShown_j27
    have hr : lenOk (List.range n.toNat) = true := lenOk_of (by simp; omega)
    simp only [cond_false, hr, chk, cond_true]
    rw [shown_l3 (n := n.toNat) (by omega) (by omega) (fun e a ha => by rw [h0 e y rfl]; exact full_bit h1 h2 ha) hf ht _ _ _ _ _ (by simp)]
    simp only [List.length_range, Bool.true_and]
    rw [all_bits (by omega) hf ((isSet_iff h1 h2 hf).1 sf), all_bits (by omega) ht ((isSet_iff h1 h2 ht).1 st)]
    unfold lw1_DependShown_j34
    have ih := fun b' => shown_l2 h1 h2 (x := x) (i := i) hf ht sf st K S (j + 1) (k + 1) b' (by omega) (fun e => by omega)
    simp only [ih, List.all_cons, good]
    cases b <;> cases (has d.f_From x && has d.f_From y) <;> cases (has d.f_To x && has d.f_To y) <;> simp

def pairsOk (f t : Int) : List Int → List Int → Bool
  | _, [] => true
  | pre, x :: r => (pre.all fun y => good f t x y) && pairsOk f t (pre ++ [x]) r

theorem shown_l1 {n : Int} (h1 : 1 ≤ n) (h2 : n ≤ 8) {d : rf1Dep} (hf : wf64 d.f_From) (ht : wf64 d.f_To) (sf : isSet n d.f_From = true) (st : isSet n d.f_To = true) (K : Bool → Option Bool) {S : List Int} (h0 : S[0]? = some (full n)) (hS : S.length ≤ 256) {e : Int} :
    ∀ (r pre : List Int) (b : Bool), pre ++ r = S →
    lw1_DependShown_l1 n d (tab n.toNat S, e) K (tabFrom n.toNat pre.length r) pre.length b = K (b && pairsOk d.f_From d.f_To pre r)
  | [], pre, b, _ => by unfold tabFrom pairsOk; rw [lw1_DependShown_l1.eq_1]; simp
  | x :: r, pre, b, hp => by
    unfold tabFrom
    rw [lw1_DependShown_l1.eq_2]
    have hlen : (tab n.toNat S).length = S.length := by simp [tab]
    have hpl : pre.length < S.length := by rw [← hp]; simp
    have hsub : sub (tab n.toNat S, e).1 0 (pre.length : Int) = some ((tab n.toNat S).take pre.length) := by
      unfold sub
      rw [if_pos ⟨Int.le_refl 0, Int.natCast_nonneg _, by show (pre.length : Int) ≤ ((tab n.toNat S).length : Int); rw [hlen]; omega⟩]
      simp
    have htake : (tab n.toNat S).take pre.length = tabFrom n.toNat 0 pre := by
      rw [tab_eq, tabFrom_take, ← hp]; simp
    rw [hsub, htake]
    have hl : lenOk (tabFrom n.toNat 0 pre) = true := lenOk_of (by rw [tabFrom_length]; omega)
    simp only [Option.bind_some, hl, chk, cond_true]
    have hfirst : ∀ y, pre[0]? = some y → y = full n := by
      intro y hy
      have hp0 : 0 < pre.length := (List.getElem?_eq_some_iff.1 hy).1
      have : S[0]? = some y := by rw [← hp, List.getElem?_append_left hp0]; exact hy
      rw [h0] at this
      exact (Option.some.inj this).symm
    rw [shown_l2 h1 h2 hf ht sf st _ pre 0 0 b (by omega) (fun _ => hfirst)]
    unfold lw1_DependShown_j22
    have ih := shown_l1 h1 h2 hf ht sf st K h0 hS (e := e) r (pre ++ [x]) (b && pre.all fun y => good d.f_From d.f_To x y) (by simpa using hp)
    simp only [List.length_append, List.length_singleton] at ih
    rw [ih, show pairsOk d.f_From d.f_To pre (x :: r) = ((pre.all fun y => good d.f_From d.f_To x y) && pairsOk d.f_From d.f_To (pre ++ [x]) r) from rfl, Bool.and_assoc]

theorem pairsOk_of {f t : Int} : ∀ (r pre : List Int), (∀ x, x ∈ pre ++ r → ∀ y, y ∈ pre ++ r → good f t x y = true) → pairsOk f t pre r = true
  | [], pre, _ => rfl
  | x :: r, pre, h => by
    unfold pairsOk
    rw [Bool.and_eq_true, List.all_eq_true]
    exact ⟨fun y hy => h x (by simp) y (by simp [hy]), pairsOk_of r (pre ++ [x]) (by simpa using h)⟩

theorem pairsOk_mem {f t : Int} : ∀ (r pre : List Int), pairsOk f t pre r = true → ∀ x, x ∈ r → ∀ y, y ∈ pre → good f t x y = true
  | [], pre, _, x, hx, _, _ => by cases hx
  | z :: r, pre, h, x, hx, y, hy => by
    unfold pairsOk at h
    rw [Bool.and_eq_true, List.all_eq_true] at h
    rcases List.mem_cons.1 hx with rfl | hx
    · exact h.1 y hy
    · exact pairsOk_mem r _ h.2 x hx y (by simp [hy])

theorem shown_key {n : Int} {ds : List dpDep} (hl : lenOk ds = true) (ho : okArgs n ds = true) (hwf : ∀ d, d ∈ ds → wf64 d.f_From ∧ wf64 d.f_To) {f t : Int} (hf : wf64 f) (ht : wf64 t) (sf : isSet n f = true) (st : isSet n t = true) :
    pairsOk f t [] (armSets n ds) = has t (cl ds f) := by
  obtain ⟨h1, h2, h3⟩ := ok_parts ho
  have hp := pow_le h1 h2
  have cf := cl_spec hl hf
  have hsf := closure_isSet ho (fun d hd => (hwf d hd).2) hf sf cf
  have hfull : wf64 (full n) := by unfold wf64 full; omega
  have hmem : ∀ x, x ∈ armSets n ds → Shut ds x ∧ Bits x (full n) := by
    intro x hx
    rcases (armGo_mem _ _ _ _).1 hx with h | ⟨j, _, hj, rfl, hc⟩
    · simp at h; subst h
      exact ⟨fun d hd _ => (isSet_iff h1 h2 (hwf d hd).2).1 (h3 d hd).2, Bits.refl _⟩
    · simp at hj
      have hw : wf64 (j : Int) := by unfold wf64; omega
      refine ⟨?_, (isSet_iff h1 h2 hw).1 ((isSet_range h1 h2).2 ⟨by omega, by omega⟩)⟩
      have := (cl_spec hl hw).closed
      rwa [hc] at this
  rw [Bool.eq_iff_iff]
  constructor
  · intro h
    rw [has_iff]
    by_cases e : cl ds f = full n
    · rw [e]; exact (isSet_iff h1 h2 ht).1 st
    · obtain ⟨c0, c1⟩ := (isSet_range h1 h2).1 hsf
      obtain ⟨m, hm⟩ := Int.eq_ofNat_of_zero_le c0
      have hne : (m : Int) ≠ full n := by rw [← hm]; exact e
      have hcc : cl ds (cl ds f) = cl ds f := (cl_spec hl cf.wf).unique ⟨cf.wf, Bits.refl _, cf.closed, fun c _ h => h⟩
      have hin : cl ds f ∈ armSets n ds := by
        refine (armGo_mem _ _ _ _).2 (.inr ⟨m, by omega, ?_, hm, hcc⟩)
        simp
        unfold full at hne
        rw [hm] at c1
        have hp0 : 0 < 2 ^ n.toNat := Nat.two_pow_pos _
        omega
      obtain ⟨S', hS'⟩ : ∃ S', armSets n ds = full n :: S' := by
        have hh := armGo_head (ds := ds) (List.range (2 ^ n.toNat - 1)) 0 [full n] (by simp)
        unfold armSets
        cases hA : armGo ds (List.range (2 ^ n.toNat - 1)) 0 [full n] with
        | nil => rw [hA] at hh; simp at hh
        | cons a S' => rw [hA] at hh; simp at hh; subst hh; exact ⟨S', rfl⟩
      rw [hS'] at h hin
      unfold pairsOk at h
      rw [Bool.and_eq_true] at h
      have hin' : cl ds f ∈ S' := by
        rcases List.mem_cons.1 hin with h | h
        · exact absurd h e
        · exact h
      have hg := pairsOk_mem _ _ h.2 _ hin' (full n) (by simp)
      unfold good at hg
      rw [has_iff.2 cf.sup, has_iff.2 ((isSet_iff h1 h2 hf).1 sf)] at hg
      simp at hg
      exact has_iff.1 hg.1
  · intro h
    refine pairsOk_of _ _ fun x hx y hy => ?_
    simp only [List.nil_append] at hx hy
    unfold good
    cases hxy : has f x && has f y with
    | false => rfl
    | true =>
      rw [Bool.and_eq_true, has_iff, has_iff] at hxy
      rw [has_iff] at h
      rw [has_iff.2 (h.trans (cf.least x (hmem x hx).1 hxy.1)), has_iff.2 (h.trans (cf.least y (hmem y hy).1 hxy.2))]
      rfl

theorem dependShown_true {n : Int} {l : List rf1Dep} {d : rf1Dep} (hl : lenOk l = true) (hd : ∀ d, d ∈ l → wf64 d.f_From ∧ wf64 d.f_To) (hf : wf64 d.f_From) (ht : wf64 d.f_To) {fuel : Nat} (hb : bigFuel ≤ fuel) :
    lw1_DependShown fuel n l d = some true := by
  obtain ⟨ds, hds⟩ : ∃ ds, (l.take 14).map toDep = ds := ⟨_, rfl⟩
  have hlen : lenOk ds = true := hds ▸ lenOk_take
  have hwf : ∀ d, d ∈ ds → wf64 d.f_From ∧ wf64 d.f_To := hds ▸ wf_take hd
  unfold lw1_DependShown
  rw [deps_eq hl, hds]
  simp only [Option.bind_some, lw1_dep]
  rw [Armstrong_val hlen hb, Follows_val hlen (d := dpDep.mk d.f_From d.f_To) hf hb]
  cases ho : okArgs n ds with
  | false => simp [lw1_DependShown_j13, awake_eq hb, lw1_DependShown_j15]
  | true =>
    cases hs : isSet n d.f_From && isSet n d.f_To with
    | false => simp [hs, lw1_DependShown_j13, awake_eq hb, lw1_DependShown_j15]
    | true =>
      simp only [hs, Bool.and_self, cond_true, Option.bind_some, bne_self_eq_false, cond_false]
      obtain ⟨h1, h2, _⟩ := ok_parts ho
      rw [Bool.and_eq_true] at hs
      have hp := pow_le h1 h2
      unfold lw1_DependShown_j13
      have hSl : (armSets n ds).length ≤ 256 := by
        have := armSets_length (ds := ds) (List.range (2 ^ n.toNat - 1)) 0 [full n]
        simp at this
        unfold armSets
        omega
      have htl : lenOk (tab n.toNat (armSets n ds)) = true := lenOk_of (by simp [tab]; omega)
      simp only [cond_false, htl, chk, cond_true]
      have e : tab n.toNat (armSets n ds) = tabFrom n.toNat ([] : List Int).length (armSets n ds) := tab_eq _ _
      have hh := shown_l1 h1 h2 hf ht hs.1 hs.2 (lw1_DependShown_j19 fuel (has d.f_To (cl ds d.f_From), 0)) (S := armSets n ds) (by
        unfold armSets; rw [armGo_head _ _ _ (by simp)]; rfl) hSl (e := 0) (armSets n ds) [] true rfl
      rw [← e] at hh
      simp only [List.length_nil] at hh
      rw [hh, shown_key hlen ho hwf hf ht hs.1 hs.2]
      simp [lw1_DependShown_j19, awake_eq hb, lw1_DependShown_j55]

end Go.AM
