/-
  THE ABSTRACT MACHINE AND THE MODEL: assignments, variables with an address, stores. No statement of the seat is proved here.
-/
import Derived.Test.YtombfedoinhafaaASimF
set_option linter.unusedVariables false
set_option linter.unusedSimpArgs false
namespace Go.AM
open Go.RowKit

section
variable {B : Nat} {M0 : Mem} {w0 : World} {n : Nat} {M : Mem} {O : Bool → Nat → Option Nat} {env : Env} {a : Act} {w : World} {P : Program}

theorem relab_noLab {l : Nat} {x : AV} : (x.relab l none).hasLab l = false := by
  cases x with
  | lst e k o xs =>
    cases o with
    | none => rfl
    | some c =>
      simp only [AV.relab]
      split
      · rfl
      · rename_i h
        exact h
  | _ => rfl

theorem labIn_demote (l : Nat) (env : Env) : labIn l (relabE l none env) = false := by
  unfold labIn relabE
  rw [List.any_map, List.any_eq_false]
  rintro ⟨t, x⟩ _
  simp only [Function.comp]
  cases x with
  | box cs =>
    simp only [AV.relabB, AV.hasLabB, List.any_map, Bool.not_eq_true, List.any_eq_false]
    intro z _
    simp only [Function.comp, relab_noLab]
  | lst e k o xs =>
    have h := relab_noLab (l := l) (x := .lst e k o xs)
    show ¬ ((AV.lst e k o xs).relab l none).hasLabB l = true
    have : ∃ o', (AV.lst e k o xs).relab l none = .lst e k o' xs := by
      cases o with
      | none => exact ⟨_, rfl⟩
      | some c => simp only [AV.relab]; split <;> exact ⟨_, rfl⟩
    obtain ⟨o', ho'⟩ := this
    rw [ho'] at h ⊢
    rw [show (AV.lst e k o' xs).hasLabB l = (AV.lst e k o' xs).hasLab l from rfl, h]
    exact fun e => by cases e
  | _ => exact fun e => by cases e

theorem relO_true (O : Bool → Nat → Option Nat) (l : Nat) (m : Option Nat) (s : Nat) : relO O l m true s = O true s := by
  cases m <;> simp [relO, setO]

theorem clearOf_spec {t : Nat} {env : Env} (h : clearOf t env = true) : (∀ x, look env t ≠ some x) ∧ ∀ s o, look env s ≠ some (.pb t o) := by
  unfold clearOf at h
  rw [List.all_eq_true] at h
  have mem : ∀ s x, look env s = some x → ∃ q ∈ env, q.1 = s ∧ q.2 = x := by
    intro s x hx
    clear h
    induction env with
    | nil => simp [look] at hx
    | cons p r ih =>
      obtain ⟨s', z⟩ := p
      simp only [look] at hx
      split at hx
      · rename_i hs
        cases hx
        exact ⟨_, List.mem_cons_self .., Nat.eq_of_beq_eq_true hs, rfl⟩
      · obtain ⟨q, hq, h1, h2⟩ := ih hx
        exact ⟨q, List.mem_cons_of_mem _ hq, h1, h2⟩
  refine ⟨fun x hx => ?_, fun s o hx => ?_⟩
  · obtain ⟨q, hq, h1, _⟩ := mem t x hx
    have := h q hq
    simp only [Bool.and_eq_true, Bool.not_eq_true'] at this
    rw [h1] at this
    simp at this
  · obtain ⟨q, hq, _, h2⟩ := mem s _ hx
    have := h q hq
    simp only [Bool.and_eq_true, Bool.not_eq_true'] at this
    rw [h2] at this
    simp at this

/-- a new variable with an address -/
theorem Inv.newBox (h : Inv B M0 w0 n M O env a w) {d : Nat} (hd : d < n) (hc : clearOf d env = true) {cs : List AV} {cur : Array Value} (el : TypeId) (hl : cs.length = cur.size)
    (hcs : ∀ (j : Nat) c u, cs[j]? = some c → cur[j]? = some u → c.one = true ∧ R M c u ∧ c.lab? = none) :
    Inv B M0 w0 n M (setO O true d (some w.heap.size)) (ins d (.box cs) env) (a.put (some d) (.pointer (some ⟨w.heap.size, 0, none⟩))) (w.alloc (.cells cur el)) := by
  obtain ⟨c1, c2⟩ := clearOf_spec hc
  have hBle : B ≤ w.heap.size := by rw [h.hB]; exact h.below.size
  have hsz : (w.alloc (.cells cur el)).heap.size = w.heap.size + 1 := by simp
  refine ⟨by simp [Act.put, h.size], h.defers, h.below.alloc hBle _, h.hB, cons_alloc h.cons _, h.ext, h.old, ?_, ?_, ?_⟩
  · intro i c g hg
    unfold setO at hg
    split at hg
    · cases hg
      exact ⟨hBle, by rw [hsz]; omega⟩
    · obtain ⟨k1, k2⟩ := h.own i c g hg
      exact ⟨k1, by rw [hsz]; omega⟩
  · intro i i' c c' g hg hg'
    unfold setO at hg hg'
    split at hg <;> split at hg'
    · rename_i e1 e2
      exact ⟨e1.1.trans e2.1.symm, e1.2.trans e2.2.symm⟩
    · cases hg
      have := (h.own i' c' _ hg').2
      omega
    · cases hg'
      have := (h.own i c _ hg).2
      omega
    · exact h.inj i i' c c' g hg hg'
  · intro t x hx
    rw [look_ins] at hx
    rw [getD_put (by rw [h.size]; exact hd)]
    by_cases htd : t = d
    · rw [if_pos htd] at hx
      cases hx
      rw [if_pos htd]
      subst htd
      refine ⟨w.heap.size, cur, el, rfl, by simp [setO], heap_alloc_new w _, hl.symm, fun o => cons_none h.cons (Nat.le_refl _) o, fun j c u hc' hu => ?_⟩
      obtain ⟨k1, k2, k3⟩ := hcs j c u hc' hu
      refine ⟨k1, k2, ?_⟩
      cases c with
      | lst e k o xs => cases o with
        | none => trivial
        | some _ => cases k3
      | _ => trivial
    · rw [if_neg htd] at hx
      rw [if_neg htd]
      have hs := h.slots t x hx
      have hfalse : ∀ c g, O false c = some g → setO O true d (some w.heap.size) false c = some g ∧ (w.alloc (.cells cur el)).heap[g]? = w.heap[g]? ∧ ∀ o, M g o = none → M g o = none := by
        intro c g hg
        exact ⟨by simp [setO, hg], heap_alloc_old w _ (h.own _ _ _ hg).2, fun _ hm => hm⟩
      cases x with
      | box cs' =>
        refine BoxOk.change hs (Sub.refl M) (fun g hg => ⟨by simp [setO, htd, hg], heap_alloc_old w _ (h.own _ _ _ hg).2, fun _ hm => hm⟩) fun c g x _ _ hg => hfalse c g hg
      | pb s off =>
        obtain ⟨g, h1, h2⟩ := hs
        have : s ≠ d := fun e => c2 t off (by rw [← e]; exact hx)
        exact ⟨g, h1, by simp [setO, this, h2]⟩
      | _ => exact sat_of_val ((val_of_sat (fun cs e => by cases e) hs).change (Sub.refl M) (fun s off g e _ => by cases e) fun c g _ hg => hfalse c g hg)

theorem eput_box {d : Nat} {x : AV} {env env' : Env} (he : eput n (some d) x env = some env') : d < n ∧ env' = ins d x env := by
  unfold eput at he
  simp only at he
  split at he
  · rename_i hc
    cases he
    simp only [Bool.and_eq_true] at hc
    exact ⟨Nat.le_of_ble_eq_true hc.1, rfl⟩
  · cases he

theorem alloc_leads (h : Inv B M0 w0 n M O env a w) {o : Oper} {t : TypeId} (ho : o.op = .alloc t) {env' : Env} (he : astep P n o env = some env') : Leads P B M0 w0 n o a w env' := by
  unfold astep at he
  rw [ho] at he
  simp only at he
  split at he
  case h_2 => cases he
  rename_i d hd
  split at he
  case h_2 => cases he
  rename_i z hc hz
  split at he
  case h_2 => cases he
  rename_i hone
  rw [hd] at he
  obtain ⟨hdn, rfl⟩ := eput_box he
  obtain ⟨it, zv, hi, hzz, hzr, hzo⟩ := zeroCellsA_spec (M := M) hz
  refine ⟨.pointer (some ⟨w.heap.size, 0, none⟩), w.alloc (.cells zv.cells t), M, _, .inl ?_, by rw [hd]; exact h.newBox hdn hc t hzr.1 fun j c u hc' hu => ⟨(hzo c (List.mem_of_getElem? hc')).1, hzr.2 j c u hc' hu, (hzo c (List.mem_of_getElem? hc')).2⟩⟩
  have hx : execOp a.eval o = vS (Instr.alloc t true (.tuple #[])) := by unfold execOp; rw [ho]; rfl
  rw [hx]
  refine run_v ?_
  unfold Instr.alloc
  simp [zeroValue, typeInfo, hi, hzz, newVar, newRow]

theorem box_leads (h : Inv B M0 w0 n M O env a w) {o : Oper} {t : TypeId} {x : Operand} (ho : o.op = .box t x) {env' : Env} (he : astep P n o env = some env') : Leads P B M0 w0 n o a w env' := by
  unfold astep at he
  rw [ho] at he
  simp only at he
  split at he
  case h_2 => cases he
  rename_i d v hd hv
  split at he
  case h_2 => cases he
  rename_i hc
  simp only [Bool.and_eq_true] at hc
  obtain ⟨⟨hc, hone⟩, _⟩ := hc
  rw [hd] at he
  obtain ⟨hdn, rfl⟩ := eput_box he
  have hs := aop_sound h hv
  obtain ⟨k1, k2, k3⟩ := (one_not_pb hs hone).cells hone
  have hone' : ∀ c ∈ v.cells, c.one = true := by simpa [List.all_eq_true] using hone
  refine ⟨.pointer (some ⟨w.heap.size, 0, none⟩), w.alloc (.cells (a.eval x).cells t), M, _, .inl ?_, by
    rw [hd]
    refine h.newBox hdn hc t (by simp [k1]) fun j c u hc' hu => ?_
    rw [List.getElem?_map] at hc'
    cases hz : v.cells[j]? with
    | none => rw [hz] at hc'; cases hc'
    | some z =>
      rw [hz] at hc'
      cases hc'
      exact ⟨strip_one (hone' z (List.mem_of_getElem? hz)), (k2 j z u hz hu).strip, by cases z <;> rfl⟩⟩
  have hx : execOp a.eval o = vS (Instr.box t (a.eval x)) := by unfold execOp; rw [ho]; rfl
  rw [hx]
  refine run_v ?_
  unfold Instr.box
  simp [newVar, newRow]

/-- one block that only a box stands on is written -/
theorem Inv.setBox (h : Inv B M0 w0 n M O env a w) {s g : Nat} {cs cs' : List AV} (hl : look env s = some (.box cs)) (hO : O true s = some g) {cur cur' : Array Value} {el : Nat} (hg : w.heap[g]? = some (.cells cur el (0, 0)))
    {w' : World} (hw : w.grownBy w' (some g)) (hg' : w'.heap[g]? = some (.cells cur' el (0, 0))) (hlen : cur'.size = cs'.length)
    (hcs : ∀ (j : Nat) c u, cs'[j]? = some c → cur'[j]? = some u → c.one = true ∧ R M c u ∧ OwnV O M w c u) (hMg : ∀ o, M g o = none) :
    Inv B M0 w0 n M O (ins s (.box cs') env) a w' := by
  obtain ⟨hgB, hgs⟩ := h.own true s g hO
  have hBle : B ≤ w.heap.size := by rw [h.hB]; exact h.below.size
  have hother : ∀ i c g', O i c = some g' → ¬ (i = true ∧ c = s) → w'.heap[g']? = w.heap[g']? := by
    intro i c g' hg1 hne
    refine hw.block g' (h.own _ _ _ hg1).2 fun e => ?_
    cases e
    exact hne (h.inj _ _ _ _ g hg1 hO)
  have hown : ∀ (c : AV) u, OwnV O M w c u → OwnV O M w' c u := by
    intro c u hc
    exact hc.change fun c' g' _ hg1 => ⟨hg1, hother false c' g' hg1 (fun e => by cases e.1), fun _ hm => hm⟩
  refine ⟨h.size, h.defers, h.below.grown hw hBle (fun k hk => by cases hk; exact hgB), h.hB, ?_, h.ext, h.old, fun i c g' hg1 => ⟨(h.own i c g' hg1).1, Nat.lt_of_lt_of_le (h.own i c g' hg1).2 hw.size⟩, h.inj, ?_⟩
  · intro b o u hu
    have hb := World.block_lt_of_cell? w _ (h.cons b o u hu)
    have hne : b ≠ g := fun e => by subst e; rw [hMg] at hu; cases hu
    unfold World.cell?
    rw [hw.block b hb (fun e => hne (Option.some.inj e))]
    exact h.cons b o u hu
  · intro t x hx
    rw [look_ins] at hx
    by_cases hts : t = s
    · subst hts
      rw [if_pos rfl] at hx
      cases hx
      obtain ⟨g1, cur1, el1, e1, e2, _⟩ := h.slots t _ hl
      have : g1 = g := by rw [e2] at hO; exact Option.some.inj hO
      subst this
      exact ⟨g1, cur', el, e1, e2, hg', hlen, hMg, fun j c u hc hu => ⟨(hcs j c u hc hu).1, (hcs j c u hc hu).2.1, hown c u (hcs j c u hc hu).2.2⟩⟩
    · rw [if_neg hts] at hx
      have hs := h.slots t x hx
      cases x with
      | box cs1 =>
        exact BoxOk.change hs (Sub.refl M) (fun g' hg1 => ⟨hg1, hother true t g' hg1 (fun e => hts e.2), fun _ hm => hm⟩) fun c g' x _ _ hg1 => ⟨hg1, hother false c g' hg1 (fun e => by cases e.1), fun _ hm => hm⟩
      | pb s' off => exact hs
      | _ => exact sat_of_val ((val_of_sat (fun cs e => by cases e) hs).change (Sub.refl M) (fun s off g e _ => by cases e) fun c g' _ hg1 => ⟨hg1, hother false c g' hg1 (fun e => by cases e.1), fun _ hm => hm⟩)

theorem run_storeAt {t g off : Nat} {v : Value} {sz el : Nat} {cur : Array Value} (hsz : tSize P t = some sz) (hv : v.cells.size = sz) (hg : w.heap[g]? = some (.cells cur el (0, 0))) (hle : off + v.cells.size ≤ cur.size) (h1 : ∀ u ∈ v.cells, u.oneCell' = true) :
    (Instr.storeAt t (.pointer (some ⟨g, off, none⟩)) v).run P w = .ok () (w.setRow g (cur.toList.take off ++ v.cells.toList ++ cur.toList.drop (off + v.cells.size)).toArray) := by
  unfold Instr.storeAt
  simp only [Instr.sureAddr, Sem.run_bind, Sem.run_pure, Result.andThen_ok]
  unfold storeVar
  simp only [Sem.run_bind, run_sizeOf' hsz, Result.andThen_ok, hv, ne_eq, not_true_eq_false, if_false]
  have := run_storeCells_at (P := P) g off el v.cells.toList 0 cur w hg (by simpa using hle) (fun u hu => h1 u (by simpa using hu))
  simp only [Nat.add_zero, Array.length_toList, hv] at this
  exact this

theorem putRow_spec {s off : Nat} {vs : List AV} {env env' : Env} (h : putRow s env off vs = some env') : vs.all AV.one = true ∧ ∃ cs, look env s = some (.box cs) ∧ off + vs.length ≤ cs.length ∧ env' = ins s (.box (cs.take off ++ vs.map AV.strip ++ cs.drop (off + vs.length))) env := by
  unfold putRow at h
  split at h
  · cases h
  · rename_i ho
    split at h
    case h_2 => cases h
    rename_i cs hl
    split at h
    case h_2 => cases h
    rename_i hle
    cases h
    exact ⟨ho, cs, hl, Nat.le_of_ble_eq_true hle, rfl⟩

/-- cells off .. of a row replaced -/
theorem splice_get {α : Type} {cs vs : List α} {off : Nat} (h : off + vs.length ≤ cs.length) (j : Nat) : (cs.take off ++ vs ++ cs.drop (off + vs.length))[j]? = if off ≤ j ∧ j < off + vs.length then vs[j - off]? else cs[j]? := by
  by_cases h1 : j < off
  · rw [if_neg (by omega), List.append_assoc, List.getElem?_append_left (by simp; omega), List.getElem?_take, if_pos h1]
  · by_cases h2 : j < off + vs.length
    · rw [if_pos ⟨by omega, h2⟩, List.append_assoc, List.getElem?_append_right (by simp; omega), List.getElem?_append_left (by simp; omega)]
      congr 1
      simp; omega
    · rw [if_neg (by omega), List.getElem?_append_right (by simp; omega), List.getElem?_drop]
      congr 1
      simp; omega

theorem setRow_grown (w : World) (g : Nat) (cs : Array Value) : w.grownBy (w.setRow g cs) (some g) :=
  ⟨rfl, rfl, rfl, by simp, fun k hk hne => setRow_other w g k cs (fun e => hne (by rw [e]))⟩

theorem put_none (a : Act) (v : Value) : a.put none v = a := rfl

theorem store_leads (h : Inv B M0 w0 n M O env a w) {o : Oper} {t : TypeId} {p x : Operand} (ho : o.op = .store t p x) {env' : Env} (he : astep P n o env = some env') : Leads P B M0 w0 n o a w env' := by
  unfold astep at he
  rw [ho] at he
  simp only at he
  split at he
  case h_2 => cases he
  rename_i s off v sz hd hp hx hsz
  split at he
  case h_2 => cases he
  rename_i hlen
  have hlen := Nat.eq_of_beq_eq_true hlen
  obtain ⟨g, hpv, hO⟩ := aop_sound h hp
  have hxv := aop_sound h hx
  have hex : ∀ w', (Instr.storeAt t (a.eval p) (a.eval x)).run P w = .ok () w' → (execOp a.eval o).run P w = .ok .skip w' := by
    intro w' hr
    have : execOp a.eval o = (do Instr.storeAt t (a.eval p) (a.eval x); pure .skip) := by unfold execOp; rw [ho]
    rw [this, Sem.run_bind, hr]; rfl
  -- the raw store of cells, marks apart
  have core : ∀ (O1 : Bool → Nat → Option Nat) (env1 : Env) (vs vs' : List AV), Inv B M0 w0 n M O1 env1 a w → (∀ s', O1 true s' = O true s') → v.cells = vs → vs.all AV.one = true → vs'.length = vs.length → R M v (a.eval x) →
      (∀ (j : Nat) c u, vs'[j]? = some c → (a.eval x).cells[j]? = some u → c.one = true ∧ R M c u ∧ OwnV O1 M w c u) →
      ∀ cs, look env1 s = some (.box cs) → off + vs.length ≤ cs.length → Leads P B M0 w0 n o a w (ins s (.box (cs.take off ++ vs' ++ cs.drop (off + vs'.length))) env1) := by
    intro O1 env1 vs vs' h1 hO1 hvs hone hl' hR hcells cs hl hle
    obtain ⟨k1, k2, k3⟩ := hR.cells (by rw [hvs]; exact hone)
    rw [hvs] at k1 k2
    have hO' : O1 true s = some g := by rw [hO1]; exact hO
    obtain ⟨cur, el, c1, c2, c3, c4⟩ := box_cells h1 hl hO'
    have hrun := run_storeAt (P := P) (t := t) (g := g) (off := off) (v := a.eval x) hsz (by rw [k1, ← hvs]; exact hlen) c1 (by rw [k1, c2]; exact hle) k3
    refine ⟨undef, _, M, O1, .inr ⟨hex _ (by rw [hpv]; exact hrun), rfl⟩, ?_⟩
    rw [hd, put_none]
    have hcl : (a.eval x).cells.toList.length = vs'.length := by simp [k1, hl']
    refine h1.setBox hl hO' c1 (setRow_grown w g _) (setRow_heap w g cur _ el _ c1) ?_ ?_ c3
    · simp [k1]; omega
    · intro j c u hc hu
      rw [splice_get (by rw [hl']; exact hle)] at hc
      have hu' : (cur.toList.take off ++ (a.eval x).cells.toList ++ cur.toList.drop (off + (a.eval x).cells.size))[j]? = some u := by simpa using hu
      have hsp := splice_get (cs := cur.toList) (vs := (a.eval x).cells.toList) (off := off) (by rw [hcl]; simp [c2]; omega) j
      simp only [Array.length_toList] at hsp
      rw [hsp] at hu'
      split at hc
      · rename_i hj
        rw [if_pos (by omega)] at hu'
        exact hcells _ c u hc (by simpa using hu')
      · rename_i hj
        rw [if_neg (by omega)] at hu'
        obtain ⟨d1, d2, d3, d4⟩ := c4 j c hc
        have : cur.getD j undef = u := by
          have hu2 : cur[j]? = some u := by simpa using hu'
          simp [hu2]
        rw [this] at d3 d4
        exact ⟨d2, d3, d4⟩
  split at he
  · -- a struct
    rename_i cs1 _
    obtain ⟨hone, cs, hl, hle, rfl⟩ := putRow_spec he
    have := core O env cs1 (cs1.map AV.strip) h (fun _ => rfl) rfl hone (by simp) hxv.1 (fun j c u hc hu => by
      rw [List.getElem?_map] at hc
      cases hz : cs1[j]? with
      | none => rw [hz] at hc; cases hc
      | some z =>
        rw [hz] at hc
        cases hc
        obtain ⟨_, k2, _⟩ := hxv.1.cells (show (AV.agg cs1).cells.all AV.one = true from hone)
        have hz1 : z.one = true := by simp only [List.all_eq_true] at hone; exact hone z (List.mem_of_getElem? hz)
        exact ⟨strip_one hz1, (k2 j z u hz hu).strip, ownV_strip _ _⟩) cs hl hle
    simpa using this
  · -- one cell
    unfold putCell at he
    split at he
    · cases he
    rename_i hone
    have hcs := cells_one hone
    have hR : R M v (a.eval x) := one_not_pb hxv (by rw [hcs]; simp [hone])
    split at he
    case h_2 => cases he
    rename_i cs hl
    split at he
    case h_2 => cases he
    rename_i hlt
    cases he
    have hlt : off < cs.length := Nat.le_of_ble_eq_true hlt
    have hown : OwnV O M w v (a.eval x) := by
      cases v with
      | box cs => exact hxv.elim
      | pb s o => cases hone
      | _ => exact hxv.2
    have := core O env [v] [v] h (fun _ => rfl) hcs (by simp [hone]) rfl hR (fun j c u hc hu => by
      cases j with
      | succ j => simp at hc
      | zero =>
        simp at hc
        subst hc
        have hu' : u = a.eval x := by
          have hone2 := hR.one hone
          generalize a.eval x = y at hu hone2
          cases y <;> first | (simp [Value.cells] at hu; exact hu.symm) | cases hone2
        subst hu'
        exact ⟨hone, hR, hown⟩) cs hl (by simp; omega)
    have e : cs.take off ++ [v] ++ cs.drop (off + [v].length) = cs.set off v := by
      rw [List.set_eq_take_append_cons_drop, if_pos hlt]
      simp
    rw [e] at this
    exact this
end
end Go.AM
