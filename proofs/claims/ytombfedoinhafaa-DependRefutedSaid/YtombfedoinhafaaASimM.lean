/-
  THE ABSTRACT MACHINE AND THE MODEL: a region whose order is drawn: the theorem. No statement of the seat is proved here.
-/
import Derived.Test.YtombfedoinhafaaASimL
set_option linter.unusedVariables false
set_option linter.unusedSimpArgs false
namespace Go.AM
open Go.RowKit

section
variable {n : Nat} {P : Program} {all : List Oper} {es : Nat → Env}

theorem match_start {S : Nat → Prop} (hes : ∀ i o, all[i]? = some o → StepOk P n true all o (es i) (es (i + 1))) (hS : ∀ i, i < all.length → ¬ S i) : Match all es S (es 0) := by
  intro t j hj h1 h2 y hy
  rw [← stable hes (i := 0) j (Nat.zero_le _) hj (fun k _ hk hw => hS k (by omega) (h1 k hk hw))]
  exact hy

theorem wr_lt {i t : Nat} (h : Wr all i t) : i < all.length := by
  obtain ⟨o, ho, _⟩ := h
  exact (List.getElem?_eq_some_iff.1 ho).1

theorem countP_lt {α : Type} {p q : α → Bool} : ∀ {l : List α} {x : α}, (∀ y, y ∈ l → q y = true → p y = true) → x ∈ l → p x = true → q x = false → l.countP q < l.countP p
  | [], x, _, hx, _, _ => by cases hx
  | z :: l, x, h, hx, hp, hq => by
    have hle : l.countP q ≤ l.countP p := List.countP_mono_left fun y hy => h y (List.mem_cons_of_mem _ hy)
    rw [List.countP_cons, List.countP_cons]
    cases hx with
    | head => rw [if_pos hp, if_neg (by rw [hq]; exact Bool.false_ne_true)]; omega
    | tail _ hx =>
      have := countP_lt (fun y hy => h y (List.mem_cons_of_mem _ hy)) hx hp hq
      by_cases hz : q z = true
      · rw [if_pos hz, if_pos (h z (List.mem_cons_self ..) hz)]; omega
      · rw [if_neg hz]; split <;> omega

def unlisted (N : Nat) (listed : Array Bool) : Nat := (List.range N).countP fun i => !listed.getD i true

theorem getD_both {listed : Array Bool} {i : Nat} (h : i < listed.size) : listed.getD i true = listed.getD i false := by
  simp [h]

theorem mem_names {all : List Oper} {o : Oper} {d : Nat} (h : o.dst = some d) : d ∈ namesOf all.toArray o := by
  unfold namesOf
  rw [h]
  simp

theorem any_sound {B : Nat} {M0 : Mem} {w0 : World} {Q : Exit → Act → World → Prop} (hes : ∀ i o, all[i]? = some o → StepOk P n true all o (es i) (es (i + 1))) (hord : orderOk all.toArray = true) (hback : edgesBack all.toArray = true)
    (hQ : ∀ a' w' M' O', Inv B M0 w0 n M' O' (es all.length) a' w' → Q .normal a' w') :
    ∀ (fuel : Nat) (listed : Array Bool) (a : Act) (w : World) (M : Mem) (O : Bool → Nat → Option Nat) (E : Env), listed.size = all.length → Closed all (fun i => listed.getD i false = true) → Match all es (fun i => listed.getD i false = true) E →
      unlisted all.length listed ≤ fuel → Inv B M0 w0 n M O E a w → wpAny P .any all.toArray Q fuel listed a w := by
  -- with nothing ready, all is done
  have done : ∀ (listed : Array Bool) (a : Act) (w : World) (M : Mem) (O : Bool → Nat → Option Nat) (E : Env), listed.size = all.length → Match all es (fun i => listed.getD i false = true) E → Inv B M0 w0 n M O E a w →
      Region.ready .any all.toArray listed = [] → Q .normal a w := by
    intro listed a w M O E hsz hm h hr
    have hall : ∀ i, i < all.length → listed.getD i false = true := by
      intro i
      induction i using Nat.strongRecOn with
      | _ i ih =>
        intro hi
        cases hv : listed.getD i false with
        | true => rfl
        | false =>
          exfalso
          have ho : all[i]? = some all[i] := List.getElem?_eq_getElem hi
          have : i ∈ Region.ready .any all.toArray listed := by
            rw [mem_ready]
            refine ⟨by rw [getD_both (by omega)]; exact hv, all[i], by simp, fun e he hb => ?_⟩
            have hlt : e.on < i := by
              unfold edgesBack at hback
              rw [List.all_eq_true] at hback
              have hmem : (all[i], i) ∈ all.toArray.toList.zipIdx := by
                rw [List.mem_iff_getElem?]
                exact ⟨i, by simp [List.getElem?_zipIdx, ho]⟩
              have := hback _ hmem
              rw [Array.all_eq_true_iff_forall_mem] at this
              have := this e he
              simp only [Bool.or_eq_true, Bool.not_eq_true'] at this
              rcases this with h1 | h1
              · rw [hb] at h1; cases h1
              · exact Nat.le_of_ble_eq_true h1
            exact ih e.on hlt (by omega)
          rw [hr] at this
          cases this
    refine hQ a w M O (h.sub fun t y hy => .inl (hm t all.length (Nat.le_refl _) (fun i hi _ => hall i hi) (fun i hi hw => by have := wr_lt hw; omega) y hy))
  intro fuel
  induction fuel with
  | zero =>
    intro listed a w M O E hsz hc hm hu h
    have hr : Region.ready .any all.toArray listed = [] := by
      cases hr : Region.ready .any all.toArray listed with
      | nil => rfl
      | cons i rs =>
        exfalso
        have hi : i ∈ Region.ready .any all.toArray listed := by rw [hr]; exact List.mem_cons_self ..
        rw [mem_ready] at hi
        obtain ⟨h0, o, ho, _⟩ := hi
        have hil : i < all.length := by
          have := (Array.getElem?_eq_some_iff.1 ho).1
          simpa using this
        have : 0 < unlisted all.length listed := by
          unfold unlisted
          rw [List.countP_pos_iff]
          exact ⟨i, List.mem_range.2 hil, by rw [h0]; rfl⟩
        omega
    exact ⟨hr, done listed a w M O E hsz hm h hr⟩
  | succ fuel ih =>
    intro listed a w M O E hsz hc hm hu h
    refine ⟨fun hr => done listed a w M O E hsz hm h hr, fun k hk => ?_⟩
    rw [mem_ready] at hk
    obtain ⟨hk0, ok, hok, hkall⟩ := hk
    have hok' : all[k]? = some ok := by simpa using hok
    have hkl : k < all.length := (List.getElem?_eq_some_iff.1 hok').1
    have hkf : listed.getD k false = false := by rw [← getD_both (by omega)]; exact hk0
    -- what k waits for is done
    have hdeps : ∀ i, ((Region.before all.toArray).getD k 0).testBit i = true → listed.getD i false = true :=
      before_closed hc k ok hok' (fun e he hb => hkall e (by simpa using he) hb)
    -- what is done does not wait for k
    have hnot : ∀ i, listed.getD i false = true → i < all.length → ((Region.before all.toArray).getD i 0).testBit k = false := by
      intro i hi hil
      cases hb : ((Region.before all.toArray).getD i 0).testBit k with
      | false => rfl
      | true =>
        have := before_closed hc i _ (List.getElem?_eq_getElem hil) (fun e he hb => hc i _ (List.getElem?_eq_getElem hil) hi e he hb) k hb
        simp only [hkf] at this
        cases this
    -- the set behind k
    have hsz' : (listed.setIfInBounds k true).size = all.length := by simp [hsz]
    have hset : ∀ i, (listed.setIfInBounds k true).getD i false = true ↔ (i = k ∨ listed.getD i false = true) := by
      intro i
      by_cases hik : i = k
      · subst hik
        have hkk : i < listed.size := by omega
        simp [hkk]
      · rw [getD_set_ne false (fun e => hik e.symm)]
        simp [hik]
    have hc' : Closed all (fun i => (listed.setIfInBounds k true).getD i false = true) := by
      intro j o ho hj e he hb
      rw [hset] at hj ⊢
      rcases hj with rfl | hj
      · rw [hok'] at ho
        cases ho
        exact .inr (hkall e (by simpa using he) hb)
      · exact .inr (hc j o ho hj e he hb)
    have hu' : unlisted all.length (listed.setIfInBounds k true) ≤ fuel := by
      have : unlisted all.length (listed.setIfInBounds k true) < unlisted all.length listed := by
        unfold unlisted
        refine countP_lt (x := k) (fun i hi hq => ?_) (List.mem_range.2 hkl) (by rw [hk0]; rfl) ?_
        · have hil := List.mem_range.1 hi
          simp only [Bool.not_eq_true'] at hq ⊢
          rw [getD_both (by omega)] at hq ⊢
          cases hv : listed.getD i false with
          | false => rfl
          | true =>
            have := (hset i).2 (.inr hv)
            rw [this] at hq
            cases hq
        · have hkk : k < listed.size := by omega
          simp [hkk]
      omega
    obtain ⟨hsem, hpure⟩ := hes k ok hok'
    have hwp : ∀ (K : Act → World → Prop), (if Region.wanted ok (yielded all.toArray a.tmps) then ok.wp P a w K Q else K (a.put ok.dst undef) w) → wpOp P all.toArray Q k K a w := by
      intro K hK
      unfold wpOp
      rw [hok]
      simp only
      split
      · rename_i hw; rw [if_pos hw] at hK; exact .inl hK
      · rename_i hw; rw [if_neg hw] at hK; exact hK
    refine hwp _ ?_
    by_cases heff : isEff ok.op = true
    · -- it does more than make its result: all before it is done, and nothing behind it
      have hbefore : ∀ i, i < k → listed.getD i false = true := by
        intro i hi
        rcases orderOk_spec hord hi (List.getElem?_eq_getElem (by omega)) hok' with h1 | ⟨_, h2, _⟩
        · exact hdeps i h1
        · rw [heff] at h2; cases h2
      have hafter : ∀ i, k < i → i < all.length → ¬ listed.getD i false = true := by
        intro i hi hil hli
        rcases orderOk_spec hord hi hok' (List.getElem?_eq_getElem hil) with h1 | ⟨h2, _⟩
        · rw [hnot i hli hil] at h1; cases h1
        · rw [heff] at h2; cases h2
      have hE : Inv B M0 w0 n M O (es k) a w := h.sub fun t y hy => .inl (hm t k (by omega) (fun i hi _ => hbefore i hi) (fun i hi hw hl => by
        rcases Nat.lt_or_ge k i with h1 | h1
        · exact hafter i h1 (wr_lt hw) hl
        · have : i = k := by omega
          subst this
          simp only [hkf] at hl
          cases hl) y hy)
      refine hsem B M0 w0 M O a w hE _ Q fun a' w' M' O' h' => ih _ a' w' M' O' (es (k + 1)) hsz' hc' ?_ hu' h'
      intro t j hj h1 h2 y hy
      have hkj : k < j := by
        refine Nat.lt_of_not_le fun hle => ?_
        exact h2 k hle ⟨ok, hok', .inl heff⟩ ((hset k).2 (.inl rfl))
      have hst := stable hes (t := t) (i := k + 1) j hkj hj (fun i hi1 hi2 hw => by
        have := (hset i).1 (h1 i hi2 hw)
        rcases this with e | e
        · omega
        · exact hafter i (by omega) (by omega) e)
      rw [hst] at hy
      exact hy
    · -- it makes its result alone
      have hpeff : isEff ok.op = false := by simpa using heff
      rcases hpure rfl with he | ⟨x, hx, hnb, hstep⟩
      · rw [hpeff] at he; cases he
      obtain ⟨hes1, hdn, hdbox⟩ := eput_insO hx
      -- the slots that it names are as in the text's order
      have hnames : ∀ t, t ∈ namesOf all.toArray ok → ∀ y, look (es k) t = some y → look E t = some y := by
        intro t ht y hy
        refine hm t k (by omega) (fun i hi hw => ?_) (fun i hi hw hl => ?_) y hy
        · obtain ⟨oi, hoi, hwi⟩ := hw
          rcases orderOk_spec hord hi hoi hok' with h1 | ⟨h2, _, h3, _⟩
          · exact hdeps i h1
          · rcases hwi with hwi | hwi
            · rw [h2] at hwi; cases hwi
            · exact absurd ht (h3 t hwi)
        · obtain ⟨oi, hoi, hwi⟩ := hw
          rcases Nat.lt_or_ge k i with hki | hki
          · rcases orderOk_spec hord hki hok' hoi with h1 | ⟨_, h2, _, h3⟩
            · rw [hnot i hl (wr_lt ⟨oi, hoi, hwi⟩)] at h1; cases h1
            · rcases hwi with hwi | hwi
              · rw [h2] at hwi; cases hwi
              · exact absurd ht (h3 t hwi)
          · have : i = k := by omega
            subst this
            simp only [hkf] at hl
            cases hl
      -- no operation that does more stands, undone, ahead of it, nor, done, behind it
      have heff1 : ∀ i oi, all[i]? = some oi → isEff oi.op = true → i < k → listed.getD i false = true := by
        intro i oi hoi hei hik
        rcases orderOk_spec hord hik hoi hok' with h1 | ⟨h2, _⟩
        · exact hdeps i h1
        · rw [hei] at h2; cases h2
      have heff2 : ∀ i oi, all[i]? = some oi → isEff oi.op = true → k < i → ¬ listed.getD i false = true := by
        intro i oi hoi hei hik hl
        rcases orderOk_spec hord hik hok' hoi with h1 | ⟨_, h2, _⟩
        · rw [hnot i hl (List.getElem?_eq_some_iff.1 hoi).1] at h1; cases h1
        · rw [hei] at h2; cases h2
      have hboxes : ∀ s cs, look (es k) s = some (.box cs) → look E s = some (.box cs) := by
        intro s cs hs
        refine hm s k (by omega) (fun i hi hw => ?_) (fun i hi hw hl => ?_) _ hs
        · -- a writer ahead of k
          cases hv : listed.getD i false with
          | true => exact hv
          | false =>
            exfalso
            obtain ⟨oi, hoi, hwi⟩ := hw
            have hpi : isEff oi.op = false := by
              cases he : isEff oi.op with
              | false => rfl
              | true => rw [heff1 i oi hoi he hi] at hv; cases hv
            -- from i on to k nothing that does more
            have hno : ∀ j oj, all[j]? = some oj → i ≤ j → j < k → isEff oj.op = false := by
              intro j oj hoj h1 h2
              cases he : isEff oj.op with
              | false => rfl
              | true =>
                exfalso
                have hj := heff1 j oj hoj he h2
                by_cases hij : i = j
                · subst hij; rw [hj] at hv; cases hv
                · rcases orderOk_spec hord (show i < j by omega) hoi hoj with g1 | ⟨_, g2, _⟩
                  · have := before_closed hc j oj hoj (fun e he hb => hc j oj hoj hj e he hb) i g1
                    rw [this] at hv; cases hv
                  · rw [he] at g2; cases g2
            -- so slot s holds no box from i + 1 to k
            have key : ∀ j, i + 1 ≤ j → j ≤ k → ∀ cs, look (es j) s ≠ some (.box cs) := by
              intro j
              induction j with
              | zero => intro h1; omega
              | succ j ihj =>
                intro h1 h2 cs hl
                have hjl : j < all.length := by omega
                have hoj : all[j]? = some all[j] := List.getElem?_eq_getElem hjl
                have hpj := hno j _ hoj (by omega) (by omega)
                rcases (hes j _ hoj).2 rfl with he | ⟨xj, hxj, hnbj, _⟩
                · rw [hpj] at he; cases he
                obtain ⟨ej, _, _⟩ := eput_insO hxj
                rw [ej] at hl
                by_cases hdj : all[j].dst = some s
                · rw [hdj] at hl
                  simp only [insO] at hl
                  rw [look_ins, if_pos rfl] at hl
                  cases hl
                  exact hnbj cs rfl
                · rw [look_insO hdj] at hl
                  by_cases hji : j = i
                  · subst hji
                    rw [hoi] at hoj
                    cases hoj
                    rcases hwi with hwi | hwi
                    · rw [hpi] at hwi; cases hwi
                    · exact hdj hwi
                  · exact ihj (by omega) (by omega) cs hl
            exact key k (by omega) (Nat.le_refl _) cs hs
        · -- a writer behind k that is done
          obtain ⟨oi, hoi, hwi⟩ := hw
          have hil := (List.getElem?_eq_some_iff.1 hoi).1
          rcases Nat.lt_or_ge k i with hki | hki
          · have hpi : isEff oi.op = false := by
              cases he : isEff oi.op with
              | false => rfl
              | true => exact absurd hl (heff2 i oi hoi he hki)
            have hno : ∀ j oj, all[j]? = some oj → k ≤ j → j < i → isEff oj.op = false := by
              intro j oj hoj h1 h2
              cases he : isEff oj.op with
              | false => rfl
              | true =>
                exfalso
                rcases orderOk_spec hord h2 hoj hoi with g1 | ⟨g2, _⟩
                · have hj := before_closed hc i oi hoi (fun e he hb => hc i oi hoi hl e he hb) j g1
                  by_cases hkj : k = j
                  · subst hkj; rw [hkf] at hj; cases hj
                  · exact heff2 j oj hoj he (by omega) hj
                · rw [he] at g2; cases g2
            -- slot s still holds the box at i: nothing that makes its result alone writes over a box
            have key : ∀ j, k ≤ j → j ≤ i → look (es j) s = some (.box cs) := by
              intro j
              induction j with
              | zero => intro h1 _; have : k = 0 := by omega
                        rw [← this]; exact hs
              | succ j ihj =>
                intro h1 h2
                by_cases hkj : k = j + 1
                · rw [← hkj]; exact hs
                · have hjl : j < all.length := by omega
                  have hoj : all[j]? = some all[j] := List.getElem?_eq_getElem hjl
                  have hpj := hno j _ hoj (by omega) (by omega)
                  rcases (hes j _ hoj).2 rfl with he | ⟨xj, hxj, _, _⟩
                  · rw [hpj] at he; cases he
                  obtain ⟨ej, _, hbj⟩ := eput_insO hxj
                  have hprev := ihj (by omega) (by omega)
                  rw [ej]
                  by_cases hdj : all[j].dst = some s
                  · exact absurd hprev (hbj s hdj cs)
                  · rw [look_insO hdj]; exact hprev
            rcases (hes i oi hoi).2 rfl with he | ⟨xi, hxi, _, _⟩
            · rw [hpi] at he; cases he
            obtain ⟨_, _, hbi⟩ := eput_insO hxi
            rcases hwi with hwi | hwi
            · rw [hpi] at hwi; cases hwi
            · exact hbi s hwi cs (key i (by omega) (Nat.le_refl _))
          · have : i = k := by omega
            subst this
            simp only [hkf] at hl
            cases hl
      refine hstep E hnames hboxes B M0 w0 M O a w h _ Q fun a' w' M' O' h' => ih _ a' w' M' O' _ hsz' hc' ?_ hu' h'
      intro t j hj h1 h2 y hy
      by_cases hdt : ok.dst = some t
      · have hkw : Wr all k t := ⟨ok, hok', .inr hdt⟩
        have hkj : k < j := by
          refine Nat.lt_of_not_le fun hle => ?_
          exact h2 k hle hkw ((hset k).2 (.inl rfl))
        have hst := stable hes (t := t) (i := k + 1) j hkj hj (fun i hi1 hi2 hw => by
          rcases (hset i).1 (h1 i hi2 hw) with e | e
          · omega
          · obtain ⟨oi, hoi, hwi⟩ := hw
            have hil := (List.getElem?_eq_some_iff.1 hoi).1
            rcases orderOk_spec hord (show k < i by omega) hok' hoi with g1 | ⟨_, g2, _, g3⟩
            · rw [hnot i e hil] at g1; cases g1
            · rcases hwi with hwi | hwi
              · rw [g2] at hwi; cases hwi
              · exact g3 t hwi (mem_names hdt))
        rw [hst, hes1, hdt] at hy
        simp only [insO] at hy
        rw [look_ins, if_pos rfl] at hy
        rw [hdt]
        simp only [insO]
        rw [look_ins, if_pos rfl]
        exact hy
      · rw [look_insO hdt]
        have hkw : ¬ Wr all k t := by
          rintro ⟨o', ho', hw'⟩
          rw [hok'] at ho'
          cases ho'
          rcases hw' with hw' | hw'
          · rw [hpeff] at hw'; cases hw'
          · exact hdt hw'
        refine hm t j hj (fun i hi hw => ?_) (fun i hi hw hl => h2 i hi hw ((hset i).2 (.inr hl))) y hy
        rcases (hset i).1 (h1 i hi hw) with e | e
        · subst e; exact absurd hw hkw
        · exact e

/-- a region whose order is drawn -/
theorem region_draw {B : Nat} {M0 : Mem} {w0 : World} {M : Mem} {O : Bool → Nat → Option Nat} {a : Act} {w : World} {id : Nat} {ops : Array Oper} {e e' : Env} (hmix : P.follows .mixedOrders = true) (hord : orderOk ops = true) (hback : edgesBack ops = true)
    (hc : Chain P n true ops.toList ops.toList e e') (h : Inv B M0 w0 n M O e a w) {Q : Exit → Act → World → Prop} (hQ : ∀ a' w' M' O', Inv B M0 w0 n M' O' e' a' w' → Q .normal a' w') : (Code.region id ops true).wp P Q a w := by
  obtain ⟨es, h1, h2, h3⟩ := chain_envs hc rfl
  have ea : ops.toList.toArray = ops := Array.toArray_toList
  refine wp_region_any hmix ?_
  have hdr : Inv B M0 w0 n M O e a { w with drawn := w.drawn + 1 } := h.grown (row := none) (fun g e => by cases e) ⟨rfl, rfl, rfl, Nat.le_refl _, fun _ _ _ => rfl⟩ (Sub.refl M) (fun b o u hu => h.cons b o u hu) (fun _ _ _ _ => rfl)
  have := any_sound (P := P) (n := n) (all := ops.toList) (es := es) (B := B) (M0 := M0) (w0 := w0) (Q := Q) h3 (by rw [ea]; exact hord) (by rw [ea]; exact hback) (fun a' w' M' O' h' => hQ a' w' M' O' (by rw [← h2]; exact h')) ops.size (Array.replicate ops.size false) a { w with drawn := w.drawn + 1 } M O e (by simp)
    (fun j o ho hj => by simp [Array.getElem?_replicate] at hj; split at hj <;> simp at hj)
    (by
      rw [← h1]
      exact match_start h3 (fun i hi hS => by
        have : i < ops.size := by simpa using hi
        simp [this] at hS))
    (by
      unfold unlisted
      have := List.countP_le_length (p := fun i => !(Array.replicate ops.size false).getD i true) (l := List.range ops.toList.length)
      simpa using this) hdr
  rw [ea] at this
  exact this
end
end Go.AM
