/-
  CHAPTER 4, PLAIN: the longest string that repeats. No statement of the seat is proved here.
-/
import Derived.Test.YtmfdgonjnckdhaaCLawDist
set_option linter.unusedVariables false
set_option linter.unusedSimpArgs false
namespace Go.AM
open Go.Sort

/-! ### candidates, and which is better -/

/-- what two strings have in common at the front -/
def cand (x y : List UInt8) : List UInt8 := x.take (lcp x y)

theorem cand_len (x y : List UInt8) : (cand x y).length = lcp x y := by
  unfold cand
  rw [List.length_take]
  have := (lcp_le x y).1
  omega

theorem cand_comm : ∀ (x y : List UInt8), cand x y = cand y x
  | [], y => by unfold cand; rw [lcp_comm y [], show lcp [] y = 0 from rfl]; simp
  | a :: x, [] => by unfold cand; rw [lcp_nil, show lcp [] (a :: x) = 0 from rfl]; simp
  | a :: x, b :: y => by
    have ih := cand_comm x y
    unfold cand at ih ⊢
    rw [lcp_cons, lcp_cons]
    by_cases h : a = b
    · subst h
      simp only [if_true, List.take_succ_cons, ih]
    · rw [if_neg h, if_neg (fun e => h e.symm)]
      simp

/-- longer, or as long and before it -/
def better (c b : List UInt8) : Bool := decide (b.length < c.length) || (decide (c.length = b.length) && ltStr c b)

theorem better_false {c b : List UInt8} : better c b = false ↔ c.length ≤ b.length ∧ (c.length = b.length → ltStr c b = false) := by
  unfold better
  cases h : ltStr c b with
  | true => simp <;> omega
  | false => simp

theorem nbetter_trans {x y z : List UInt8} (h1 : better x y = false) (h2 : better y z = false) : better x z = false := by
  rw [better_false] at h1 h2 ⊢
  refine ⟨by omega, fun e => swo_ltStr.ntrans _ _ _ (h1.2 (by omega)) (h2.2 (by omega))⟩

theorem better_asym {x y : List UInt8} (h : better x y = true) : better y x = false := by
  unfold better at h
  rw [better_false]
  simp only [Bool.or_eq_true, Bool.and_eq_true, decide_eq_true_eq] at h
  rcases h with h | ⟨h1, h2⟩
  · exact ⟨by omega, fun e => by omega⟩
  · exact ⟨by omega, fun _ => swo_ltStr.asymmA h2⟩

theorem better_refl (x : List UInt8) : better x x = false := by
  rw [better_false]
  exact ⟨Nat.le_refl _, fun _ => swo_ltStr.irrefl x⟩

theorem better_same {x y : List UInt8} (h1 : better x y = false) (h2 : better y x = false) : x = y := by
  rw [better_false] at h1 h2
  have e : x.length = y.length := by omega
  have k1 := h1.2 e
  have k2 := h2.2 e.symm
  unfold ltStr at k1 k2
  simp only [decide_eq_false_iff_not, List.not_lt] at k1 k2
  exact List.le_antisymm k2 k1

theorem take_mono : ∀ (n : Nat) (x z : List UInt8), ltStr x z = false → ltStr (x.take n) (z.take n) = false
  | 0, x, z, _ => by simp [ltStr]
  | n + 1, x, [], _ => by simp [ltStr]
  | n + 1, [], c :: z, h => by simp [ltStr] at h
  | n + 1, a :: x, c :: z, h => by
    unfold ltStr at h ⊢
    simp only [List.take_succ_cons, decide_eq_false_iff_not, List.cons_lt_cons_iff, not_or, not_and] at h ⊢
    refine ⟨h.1, fun e => ?_⟩
    have := take_mono n x z (by unfold ltStr; simpa using h.2 e)
    unfold ltStr at this
    simpa using this

/-! ### the program's choice: the first of the longest among neighbours -/

def pickP (t : ByteArray) (b : List UInt8) : List Int → List UInt8
  | x :: y :: r => pickP t (if b.length < lcp (suf t x) (suf t y) then cand (suf t x) (suf t y) else b) (y :: r)
  | _ => b

/-- no two neighbours have something better -/
def NbNot (t : ByteArray) (b : List UInt8) : List Int → Prop
  | x :: y :: r => better (cand (suf t x) (suf t y)) b = false ∧ NbNot t b (y :: r)
  | _ => True

theorem pickP_spec {t : ByteArray} : ∀ (r : List Int) (x : Int) (b : List UInt8), Sorted (ltS t) (x :: r) → (∃ z, b = z.take b.length ∧ ltStr (suf t x) z = false) →
    (pickP t b (x :: r) = b ∨ (b.length < (pickP t b (x :: r)).length ∧ ∃ p y z q, x :: r = p ++ y :: z :: q ∧ pickP t b (x :: r) = cand (suf t y) (suf t z))) ∧ NbNot t (pickP t b (x :: r)) (x :: r)
  | [], x, b, _, _ => ⟨.inl rfl, trivial⟩
  | y :: r, x, b, hs, hz => by
    have hxy : ltStr (suf t y) (suf t x) = false := (List.pairwise_cons.1 hs).1 y (List.mem_cons_self ..)
    have hs' : Sorted (ltS t) (y :: r) := (List.pairwise_cons.1 hs).2
    have hl := cand_len (suf t x) (suf t y)
    unfold pickP
    by_cases hn : b.length < lcp (suf t x) (suf t y)
    · rw [if_pos hn]
      obtain ⟨h1, h2⟩ := pickP_spec r y (cand (suf t x) (suf t y)) hs' ⟨suf t x, by rw [hl]; rfl, hxy⟩
      refine ⟨.inr ?_, ?_, h2⟩
      · rcases h1 with h1 | ⟨h1, p, u, v, q, e1, e2⟩
        · rw [h1]
          exact ⟨by omega, [], x, y, r, rfl, rfl⟩
        · exact ⟨by omega, x :: p, u, v, q, by rw [e1]; rfl, e2⟩
      · rcases h1 with h1 | ⟨h1, _⟩
        · rw [h1]; exact better_refl _
        · rw [better_false]; exact ⟨by omega, fun e => by omega⟩
    · rw [if_neg hn]
      obtain ⟨z, z1, z2⟩ := hz
      obtain ⟨h1, h2⟩ := pickP_spec r y b hs' ⟨z, z1, swo_ltStr.ntrans _ _ _ hxy z2⟩
      refine ⟨?_, ?_, h2⟩
      · rcases h1 with h1 | ⟨h1, p, u, v, q, e1, e2⟩
        · exact .inl h1
        · exact .inr ⟨h1, x :: p, u, v, q, by rw [e1]; rfl, e2⟩
      · rw [better_false, hl]
        rcases h1 with h1 | ⟨h1, _⟩
        · rw [h1]
          refine ⟨by omega, fun e => ?_⟩
          rw [z1, ← e]
          exact take_mono _ _ _ z2
        · exact ⟨by omega, fun e => by omega⟩

/-- what two strings have in common is no better than what neighbours have -/
theorem pairs_not {t : ByteArray} {b : List UInt8} : ∀ (l : List Int), Sorted (ltS t) l → NbNot t b l → l.Pairwise fun x z => better (cand (suf t x) (suf t z)) b = false
  | [], _, _ => .nil
  | [x], _, _ => List.pairwise_singleton _ _
  | x :: y :: r, hs, hn => by
    have hs' : Sorted (ltS t) (y :: r) := (List.pairwise_cons.1 hs).2
    have ih := pairs_not (y :: r) hs' hn.2
    refine List.pairwise_cons.2 ⟨fun z hz => ?_, ih⟩
    have hxy : ltStr (suf t y) (suf t x) = false := (List.pairwise_cons.1 hs).1 y (List.mem_cons_self ..)
    rcases List.mem_cons.1 hz with rfl | hz
    · exact hn.1
    · have hyz : ltStr (suf t z) (suf t y) = false := (List.pairwise_cons.1 hs').1 z hz
      have h1 := (lcp_mid (suf t x) (suf t y) (suf t z) hxy hyz).1
      have h2 := hn.1
      refine nbetter_trans ?_ h2
      rw [better_false, cand_len, cand_len]
      refine ⟨h1, fun e => ?_⟩
      unfold cand
      rw [e]
      exact swo_ltStr.irrefl _

theorem ba_ext {a b : ByteArray} (h : a.data.toList = b.data.toList) : a = b := by
  cases a with
  | mk a =>
    cases b with
    | mk b =>
      have : a = b := Array.ext' h
      rw [this]

theorem long_l1 {t : ByteArray} (hs : t.size ≤ 999) {w : List Int} (hw : ∀ x, x ∈ w → 0 ≤ x ∧ x ≤ (t.size : Int)) (K : ByteArray → Option (ByteArray × Int)) : ∀ (r p : List Int) (x : Int) (v : ByteArray), w = p ++ x :: r →
    ∃ v', ix_Longest_l1 t w K (coms t (x :: r)) p.length v = K v' ∧ v'.data.toList = pickP t v.data.toList (x :: r)
  | [], p, x, v, hwp => ⟨v, by rw [coms, ix_Longest_l1.eq_1]; intros; simp_all, rfl⟩
  | y :: r, p, x, v, hwp => by
    have hx := hw x (by rw [hwp]; simp)
    have hi : idx w ((p.length : Nat) : Int) = some x := by rw [hwp]; exact idx_at rfl
    have e0 : w = (p ++ [x]) ++ y :: r := by rw [hwp]; simp
    have hlen : (p ++ [x]).length = p.length + 1 := by simp
    unfold coms pickP
    rw [ix_Longest_l1.eq_2]
    unfold ix_Longest_j13
    by_cases hc : v.size < lcp (suf t x) (suf t y)
    · obtain ⟨e, e1, e2⟩ := ssub_to hx.1 hx.2
      have hle := (lcp_le (suf t x) (suf t y)).1
      rw [← e2, size_list] at hle
      rw [e2] at hle
      obtain ⟨f, f1, f2⟩ := ssub_val (t := e) (i := 0) (j := ((lcp (suf t x) (suf t y) : Nat) : Int)) (Int.le_refl _) (by omega) (by omega)
      rw [decide_eq_true (by omega), hi]
      simp only [cond_true, Option.bind_some, e1, f1]
      obtain ⟨v', h1, h2⟩ := long_l1 hs hw K r (p ++ [x]) y f e0
      rw [hlen] at h1
      refine ⟨v', h1, ?_⟩
      rw [h2, size_list, if_pos hc, f2, e2]
      rfl
    · rw [decide_eq_false (by omega)]
      obtain ⟨v', h1, h2⟩ := long_l1 hs hw K r (p ++ [x]) y v e0
      rw [hlen] at h1
      refine ⟨v', h1, ?_⟩
      rw [h2, size_list, if_neg hc]

/-! ### the reference's choice: the best of all -/

def pickR (b : List UInt8) : List (List UInt8) → List UInt8
  | [] => b
  | c :: l => pickR (if better c b then c else b) l

theorem pickR_append (b : List UInt8) : ∀ (l m : List (List UInt8)), pickR b (l ++ m) = pickR (pickR b l) m := by
  intro l
  induction l generalizing b with
  | nil => intro m; rfl
  | cons c l ih => intro m; exact ih _ m

theorem pickR_spec : ∀ (l : List (List UInt8)) (b : List UInt8), (pickR b l = b ∨ pickR b l ∈ l) ∧ better b (pickR b l) = false ∧ ∀ c, c ∈ l → better c (pickR b l) = false
  | [], b => ⟨.inl rfl, better_refl b, fun c hc => by cases hc⟩
  | c :: l, b => by
    unfold pickR
    obtain ⟨h1, h2, h3⟩ := pickR_spec l (if better c b then c else b)
    cases hb : better c b with
    | true =>
      rw [hb] at h1 h2 h3
      simp only [if_true] at h1 h2 h3 ⊢
      refine ⟨.inr ?_, nbetter_trans (better_asym hb) h2, fun d hd => ?_⟩
      · rcases h1 with h1 | h1
        · rw [h1]; exact List.mem_cons_self ..
        · exact List.mem_cons_of_mem _ h1
      · rcases List.mem_cons.1 hd with rfl | hd
        · exact h2
        · exact h3 d hd
    | false =>
      rw [hb] at h1 h2 h3
      simp only [Bool.false_eq_true, if_false] at h1 h2 h3 ⊢
      refine ⟨h1.imp id (List.mem_cons_of_mem _), h2, fun d hd => ?_⟩
      rcases List.mem_cons.1 hd with rfl | hd
      · exact nbetter_trans hb h2
      · exact h3 d hd

theorem rlong_l2 {t : ByteArray} (hs : t.size ≤ 999) {i : Nat} (hi : i ≤ t.size) (K : ByteArray → Option (ByteArray × Int)) : ∀ (r : List Nat) (k : Nat) (v : ByteArray), k + r.length = i →
    ∃ v', rf4_Longest_l2 bigFuel t i K r k v = K v' ∧ v'.data.toList = pickR v.data.toList ((r.zipIdx k).map fun p => cand (suf t (i : Int)) (suf t ((p.2 : Nat) : Int)))
  | [], k, v, h => ⟨v, by rw [rf4_Longest_l2.eq_1], rfl⟩
  | x :: r, k, v, h => by
    simp at h
    obtain ⟨e, e1, e2⟩ := ssub_to (t := t) (i := (i : Int)) (by omega) (by omega)
    obtain ⟨f, f1, f2⟩ := ssub_to (t := t) (i := ((k : Nat) : Int)) (by omega) (by omega)
    have hes : e.size ≤ 1000 := by rw [← size_list, e2, suf_len]; omega
    have hle := (lcp_le (suf t (i : Int)) (suf t ((k : Nat) : Int))).1
    rw [suf_len] at hle
    have hwr : IntKind.wrap .i64 ((i : Int) + ((lcp (suf t (i : Int)) (suf t ((k : Nat) : Int)) : Nat) : Int)) = ((i + lcp (suf t (i : Int)) (suf t ((k : Nat) : Int)) : Nat) : Int) := by
      rw [wrap_id (by omega) (by omega)]; simp
    obtain ⟨g, g1, g2⟩ := ssub_val (t := t) (i := (i : Int)) (j := ((i + lcp (suf t (i : Int)) (suf t ((k : Nat) : Int)) : Nat) : Int)) (by omega) (by omega) (by omega)
    have g3 : g.data.toList = cand (suf t (i : Int)) (suf t ((k : Nat) : Int)) := by
      rw [g2, Int.toNat_natCast, Int.toNat_natCast, List.drop_take]
      unfold cand suf
      rw [Int.toNat_natCast]
      congr 1
      omega
    have gs : g.size = (cand (suf t (i : Int)) (suf t ((k : Nat) : Int))).length := by rw [← size_list, g3]
    rw [rf4_Longest_l2.eq_2, e1, f1]
    simp only [Option.bind_some, (agree_val (a := e) (b := f) hes).2, e2, f2]
    rw [hwr, g1]
    simp only [Option.bind_some, List.zipIdx_cons, List.map_cons, pickR]
    rw [bl_eq g3 rfl]
    unfold rf4_Longest_j22 rf4_Longest_j15
    have hbs : better (cand (suf t (i : Int)) (suf t ((k : Nat) : Int))) v.data.toList = true ∨ better (cand (suf t (i : Int)) (suf t ((k : Nat) : Int))) v.data.toList = false := by
      cases better (cand (suf t (i : Int)) (suf t ((k : Nat) : Int))) v.data.toList <;> simp
    have hgo : ∀ b : Bool, better (cand (suf t (i : Int)) (suf t ((k : Nat) : Int))) v.data.toList = b → (bif decide ((g.size : Int) > (v.size : Int)) then true else bif (g.size : Int) == (v.size : Int) then ltStr (cand (suf t (i : Int)) (suf t ((k : Nat) : Int))) v.data.toList else false) = b := by
      intro b hb
      rw [← hb]
      unfold better
      rw [← gs, size_list]
      by_cases h1 : v.size < g.size
      · rw [decide_eq_true (by omega), decide_eq_true h1]; rfl
      · rw [decide_eq_false (by omega), decide_eq_false h1]
        by_cases h2 : g.size = v.size
        · rw [decide_eq_true h2]
          have : ((g.size : Int) == (v.size : Int)) = true := by simp [h2]
          rw [this]; simp
        · rw [decide_eq_false h2]
          have : ((g.size : Int) == (v.size : Int)) = false := by simp; omega
          rw [this]; simp
    have hcond : ∀ (A B : Option (ByteArray × Int)) (a b c : Bool), (bif a then (bif true then A else B) else bif b then (bif c then A else B) else (bif false then A else B)) = bif (bif a then true else bif b then c else false) then A else B := by
      intro A B a b c
      cases a <;> cases b <;> cases c <;> rfl
    rw [hcond]
    rcases hbs with hb | hb
    · rw [hgo true hb, hb]
      obtain ⟨v', h1, h2⟩ := rlong_l2 hs hi K r (k + 1) g (by omega)
      exact ⟨v', h1, by rw [h2, g3]; rfl⟩
    · rw [hgo false hb, hb]
      obtain ⟨v', h1, h2⟩ := rlong_l2 hs hi K r (k + 1) v (by omega)
      exact ⟨v', h1, by rw [h2]; rfl⟩

/-- the candidates with place i and a place before it -/
def candsAt (t : ByteArray) (i : Nat) : List (List UInt8) := (List.range i).map fun (j : Nat) => cand (suf t (i : Int)) (suf t (j : Int))

theorem zip_cands (t : ByteArray) (i : Nat) : ((List.range i).zipIdx 0).map (fun p => cand (suf t (i : Int)) (suf t ((p.2 : Nat) : Int))) = candsAt t i := by
  unfold candsAt
  refine List.ext_getElem (by simp) fun a h1 h2 => ?_
  simp

theorem rlong_l1 {t : ByteArray} (hs : t.size ≤ 999) (K : ByteArray → Option (ByteArray × Int)) : ∀ (r : List Nat) (k : Nat) (v : ByteArray), k + r.length = t.size →
    ∃ v', rf4_Longest_l1 bigFuel t K r k v = K v' ∧ v'.data.toList = pickR v.data.toList ((r.zipIdx k).flatMap fun p => candsAt t p.2)
  | [], k, v, h => ⟨v, by rw [rf4_Longest_l1.eq_1], rfl⟩
  | x :: r, k, v, h => by
    simp at h
    obtain ⟨v1, h1, h2⟩ := rlong_l2 hs (i := k) (by omega) (rf4_Longest_j11 (rf4_Longest_l1 bigFuel t K r (k + 1))) (List.range (Int.toNat (k : Int))) 0 v (by simp)
    obtain ⟨v2, h3, h4⟩ := rlong_l1 hs K r (k + 1) v1 (by omega)
    rw [rf4_Longest_l1.eq_2, lenOk_of (by simp; omega)]
    simp only [chk, cond_true]
    rw [h1]
    refine ⟨v2, h3, ?_⟩
    rw [h4, h2, Int.toNat_natCast, zip_cands]
    simp only [List.zipIdx_cons, List.flatMap_cons]
    rw [pickR_append]

theorem longest_same {t : ByteArray} (hs : t.size ≤ 300) : ∃ r, ix_Longest bigFuel t = some r ∧ rf4_Longest bigFuel t = some r := by
  obtain ⟨l, h1, h2, h3, h4⟩ := sorts_same (t := t) (by omega)
  obtain ⟨c1, _⟩ := commons_val (by omega) h1 h2 h3
  have hl : l.length = t.size + 1 := by rw [h3.length_eq, seqI_len]
  have hb : ∀ x, x ∈ l → 0 ≤ x ∧ x ≤ (t.size : Int) := fun x hx => by
    have := mem_seqI.1 (h3.mem_iff.1 hx)
    omega
  unfold ix_Longest rf4_Longest
  rw [valid_val (by omega), label_val (by omega)]
  simp only [Option.bind_some]
  cases lab t with
  | false => exact ⟨_, rfl, rfl⟩
  | true =>
    simp only [Bool.not_true, cond_false, h1, c1, Option.bind_some]
    rw [lenOk_of (by rw [coms_len]; omega), lenOk_of (by simp; omega)]
    simp only [chk, cond_true]
    obtain ⟨x, r, rfl⟩ : ∃ x r, l = x :: r := by
      cases l with
      | nil => simp at hl
      | cons x r => exact ⟨x, r, rfl⟩
    obtain ⟨v, k1, k2⟩ := long_l1 (t := t) (by omega) hb (ix_Longest_j9) r [] x (ByteArray.mk #[]) rfl
    obtain ⟨u, m1, m2⟩ := rlong_l1 (t := t) (by omega) (rf4_Longest_j8) (List.range (Int.toNat (t.size : Int))) 0 (ByteArray.mk #[]) (by simp)
    have k1' : ix_Longest_l1 t (x :: r) (ix_Longest_j9) (coms t (x :: r)) 0 (ByteArray.mk #[]) = ix_Longest_j9 v := k1
    rw [k1', m1]
    have huv : v = u := by
      refine ba_ext ?_
      rw [k2, m2]
      obtain ⟨p1, p2⟩ := pickP_spec (t := t) r x [] h4 ⟨suf t x, by simp, swo_ltStr.irrefl _⟩
      have hpw := pairs_not _ h4 p2
      obtain ⟨q1, q2, q3⟩ := pickR_spec (((List.range (Int.toNat (t.size : Int))).zipIdx 0).flatMap fun p => candsAt t p.2) []
      -- all pairs of places
      have hall : (seqI (t.size + 1)).Pairwise fun a z => better (cand (suf t a) (suf t z)) (pickP t [] (x :: r)) = false :=
        (h3.pairwise_iff (fun {a b} hab => by rw [cand_comm]; exact hab)).1 hpw
      rw [List.pairwise_iff_getElem] at hall
      have hpair : ∀ i j : Nat, j < i → i < t.size → better (cand (suf t (i : Int)) (suf t (j : Int))) (pickP t [] (x :: r)) = false := by
        intro i j hji hi
        have := hall j i (by rw [seqI_len]; omega) (by rw [seqI_len]; omega) hji
        simp only [seqI, List.getElem_map, List.getElem_range] at this
        rw [cand_comm]
        exact this
      have hmem : ∀ c, c ∈ (((List.range (Int.toNat (t.size : Int))).zipIdx 0).flatMap fun p => candsAt t p.2) ↔ ∃ i j : Nat, j < i ∧ i < t.size ∧ c = cand (suf t (i : Int)) (suf t (j : Int)) := by
        intro c
        rw [List.mem_flatMap]
        constructor
        · rintro ⟨p, hp, hc⟩
          obtain ⟨e1, e2⟩ := List.mem_zipIdx' hp
          simp at e1
          unfold candsAt at hc
          obtain ⟨j, hj, rfl⟩ := List.mem_map.1 hc
          exact ⟨p.2, j, List.mem_range.1 hj, e1, rfl⟩
        · rintro ⟨i, j, hji, hi, rfl⟩
          refine ⟨(i, i), ?_, List.mem_map.2 ⟨j, List.mem_range.2 hji, rfl⟩⟩
          rw [List.mem_iff_getElem?]
          exact ⟨i, by simp [List.getElem?_zipIdx, hi]⟩
      refine better_same ?_ ?_
      · -- the program's choice is among the reference's
        rcases p1 with p1 | ⟨_, p, y, z, q, e1, e2⟩
        · have e3 : pickP t (ByteArray.mk #[]).data.toList (x :: r) = [] := p1
          rw [e3]; exact q2
        · have e3 : pickP t (ByteArray.mk #[]).data.toList (x :: r) = cand (suf t y) (suf t z) := e2
          rw [e3]
          have hnd : (x :: r).Nodup := by
            have : (seqI (t.size + 1)).Nodup := by
              unfold seqI
              rw [List.Nodup, List.pairwise_map]
              exact List.nodup_range.imp fun hab e => hab (by omega)
            exact h3.nodup_iff.2 this
          have hyz : y ≠ z := by
            rw [e1] at hnd
            have := (List.nodup_append.1 hnd).2.1
            exact fun e => (List.nodup_cons.1 this).1 (by rw [e]; simp)
          have by1 := hb y (by rw [e1]; simp)
          have bz1 := hb z (by rw [e1]; simp)
          have key : ∀ i j : Int, 0 ≤ j → j < i → i ≤ t.size → better (cand (suf t i) (suf t j)) (pickR [] (((List.range (Int.toNat (t.size : Int))).zipIdx 0).flatMap fun p => candsAt t p.2)) = false := by
            intro i j h0 hji hi
            by_cases hie : i = t.size
            · have : suf t i = [] := by rw [hie]; exact List.eq_nil_of_length_eq_zero (by rw [suf_len]; omega)
              have : cand (suf t i) (suf t j) = [] := by rw [this]; rfl
              rw [this]; exact q2
            · refine q3 _ ((hmem _).2 ⟨i.toNat, j.toNat, by omega, by omega, ?_⟩)
              rw [Int.toNat_of_nonneg (by omega), Int.toNat_of_nonneg h0]
          rcases Int.lt_or_lt_of_ne hyz with h | h
          · rw [cand_comm]
            exact key z y by1.1 h bz1.2
          · exact key y z bz1.1 h by1.2
      · rcases q1 with q1 | q1
        · have e3 : pickR (ByteArray.mk #[]).data.toList (((List.range (Int.toNat (t.size : Int))).zipIdx 0).flatMap fun p => candsAt t p.2) = [] := q1
          rw [e3, better_false]
          refine ⟨Nat.zero_le _, fun e => ?_⟩
          have : pickP t (ByteArray.mk #[]).data.toList (x :: r) = [] := List.eq_nil_of_length_eq_zero e.symm
          rw [this]
          exact swo_ltStr.irrefl _
        · obtain ⟨i, j, hji, hi, e⟩ := (hmem _).1 q1
          have e3 : pickR (ByteArray.mk #[]).data.toList (((List.range (Int.toNat (t.size : Int))).zipIdx 0).flatMap fun p => candsAt t p.2) = cand (suf t (i : Int)) (suf t (j : Int)) := e
          rw [e3]
          exact hpair i j hji hi
    subst huv
    unfold ix_Longest_j9 rf4_Longest_j8
    cases (v.toList == (ByteArray.mk #[]).toList) with
    | true => exact ⟨_, rfl, rfl⟩
    | false => exact ⟨_, rfl, rfl⟩
end Go.AM
