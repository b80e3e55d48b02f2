/- An evaluator of the loaded code over a heap of its own, and the proof that what it reckons is what the machine does. Part 4 of 4. -/
import Derived.Test.YtmkpkmijbpnjjaaGreatDoorEv2
import Derived.LoopN
import Derived.Scope
import Derived.KernelRfl
set_option linter.unusedVariables false
set_option linter.unusedSimpArgs false

namespace Go.Ev
open Go.RowKit
variable {P : Program} {ρ : Rho} {N : Bs} {h : Hp} {w : World} {a : A} {act : Act}

/-- What a reckoned call says of the machine's. -/
def CallerOk (P : Program) (C : Caller) : Prop :=
  ∀ f args h v h1, C f args h = some (v, h1) → (∃ fn c, P.funcs[f]? = some fn ∧ fn.body = some c ∧ (fn.name == "runtime.NumGoroutine") = false) ∧
    ∀ (ρ : Rho) (N : Bs) (w : World) (args' : List Value), HR P ρ N h w → VRs ρ args args' →
      Calls P f args'.toArray w fun e w1 => ∃ ρ1 v', e = .returned v' ∧ ρ.le ρ1 ∧ HR P ρ1 N h1 w1 ∧ VR ρ1 v v' ∧ Below N w w1

theorem oper_wp (W : WfP P) {C : Caller} (HC : CallerOk P C) (H : HR P ρ N h w) (A : ActR ρ a act) (o : Oper) {v : Value} {h1 : Hp} (hv : oper' P C h a o.op = some (v, h1))
    {next : Act → World → Prop} {Q : Exit → Act → World → Prop} (K : ∀ ρ1 w1 v', ρ.le ρ1 → VR ρ1 v v' → HR P ρ1 N h1 w1 → Below N w w1 → next (act.put o.dst v') w1) : o.wp P act w next Q := by
  unfold oper' at hv
  split at hv
  · rename_i hr
    cases hrd : reader' P h a o.op with
    | none => rw [hrd] at hv; cases hv
    | some u =>
      rw [hrd] at hv
      injection hv with hv
      injection hv with hv1 hv2
      subst hv1; subst hv2
      obtain ⟨v', e1, e2⟩ := reader_run W H A o hr hrd
      unfold Oper.wp
      rw [e1]
      exact K ρ w v' (Rho.le_refl ρ) e2 H (Below.refl _ _)
  · split at hv
    · rename_i f args hcal
      obtain ⟨⟨fn, c, hf, hb, hname⟩, hcall⟩ := HC f args h v h1 hv
      obtain ⟨dst, op, ty, pos, after, guard⟩ := o
      simp only at hcal
      unfold callee' at hcal
      split at hcal
      · rename_i cc _
        split at hcal
        · rename_i fo hco
          split at hcal
          · rename_i g first captured l hfo hl
            injection hcal with hcal
            injection hcal with hc1 hc2
            subst hc1; subst hc2
            have hfr := A.ev hfo
            generalize hcv : act.eval fo = cv at hfr
            cases hfr with
            | @func _ _ _ f' c' hfi hca =>
            have hargs : VRs ρ l (cc.args.map act.eval).toList := by simpa using A.evList hl
            have hall : VRs ρ (first.toList ++ l ++ captured.toList) (f' ++ cc.args.map act.eval ++ c').toList := by
              simp only [Array.toList_append]
              exact (hfi.append hargs).append hca
            have hrun : (execOp act.eval { dst := dst, op := .call cc, type := ty, pos := pos, after := after, guard := guard }).run P w = .ok (.enter g (f' ++ cc.args.map act.eval ++ c')) w := by
              have hname' : ¬ fn.name = "runtime.NumGoroutine" := by simpa using hname
              simp [execOp, resolve, hco, hcv, Deferred.ofValue, invoke, callFunc, hf, hname', hb]
            unfold Oper.wp
            rw [hrun, Oper.upon_enter]
            refine (hcall ρ N w _ H hall).mono ?_
            rintro e w1 ⟨ρ1, v', rfl, r1, r2, r3, r4⟩
            exact K ρ1 w1 v' r1 r3 r2 r4
          · cases hcal
        · cases hcal
      · cases hcal
    · obtain ⟨ρ1, w1, nx, v', r1, r2, r3, r4, r5, r6⟩ := writer_run W H A o hv
      unfold Oper.wp
      rw [r2]
      rcases r3 with rfl | ⟨rfl, rfl⟩
      · exact K ρ1 w1 v' r1 r4 r5 r6
      · exact K ρ1 w1 undef r1 r4 r5 r6

theorem wanted_eq (A : ActR ρ a act) (ops : Array Oper) (o : Oper) : wanted' ops.toList a o = Region.wanted o (yielded ops act.tmps) := by
  cases hg : o.guard with
  | none => simp [wanted', Region.wanted, hg]
  | some jw =>
    obtain ⟨j, want⟩ := jw
    simp only [wanted', Region.wanted, hg, yielded, Array.getElem?_toList]
    cases hj : ops[j]? with
    | none => simp
    | some p =>
      cases hd : p.dst with
      | none => simp [hd]
      | some d =>
        have hr := A.get d
        simp only [hd, Option.bind_some]
        by_cases hlt : d < act.tmps.size
        · have he : act.tmps[d]? = some (act.tmps.getD d undef) := by
            simp [Array.getElem?_eq_getElem hlt, Array.getD, hlt]
          rw [he]
          generalize act.tmps.getD d undef = v' at hr
          generalize a.get d = v at hr
          cases hr <;> simp
        · have he : act.tmps[d]? = none := Array.getElem?_eq_none (Nat.le_of_not_lt hlt)
          have hu : act.tmps.getD d undef = undef := by simp [Array.getD, hlt]
          rw [he]
          rw [hu] at hr
          generalize a.get d = v at hr
          unfold undef at hr
          cases hr
          simp

theorem step_wp (W : WfP P) {C : Caller} (HC : CallerOk P C) (H : HR P ρ N h w) (A : ActR ρ a act) {ops : Array Oper} {i : Nat} {o : Oper} (ho : ops[i]? = some o) {a1 : Ev.A} {h1 : Hp} (hs : step' P C ops.toList o a h = some (a1, h1))
    {K : Act → World → Prop} {Q : Exit → Act → World → Prop} (hK : ∀ ρ1 w1 act1, ρ.le ρ1 → ActR ρ1 a1 act1 → HR P ρ1 N h1 w1 → Below N w w1 → K act1 w1) : wpOp P ops Q i K act w := by
  unfold wpOp
  rw [ho]
  simp only []
  unfold step' at hs
  rw [wanted_eq A ops o] at hs
  split at hs
  · rename_i hw
    rw [if_pos hw]
    split at hs
    · rename_i v h2 hv
      split at hs
      · rename_i a2 ha
        injection hs with hs
        injection hs with hs1 hs2
        subst hs1; subst hs2
        refine .inl (oper_wp W HC H A o hv (fun ρ1 w1 v' r1 r2 r3 r4 => hK ρ1 w1 _ r1 ((A.mono r1).put r2 ha) r3 r4))
      · cases hs
    · cases hs
  · rename_i hw
    rw [if_neg (by rw [hw]; simp)]
    split at hs
    · rename_i a2 ha
      injection hs with hs
      injection hs with hs1 hs2
      subst hs1; subst hs2
      exact hK ρ w _ (Rho.le_refl ρ) (A.put (v' := undef) (.tuple .nil) ha) H (Below.refl _ _)
    · cases hs

/-- A region in the text's order. -/
theorem ops_wp (W : WfP P) {C : Caller} (HC : CallerOk P C) {ops : Array Oper} {Q : Exit → Act → World → Prop} : ∀ (r pre : List Oper), ops.toList = pre ++ r → ∀ {ρ : Rho} {h : Hp} {w : World} {a : Ev.A} {act : Act} {a1 : Ev.A} {h1 : Hp},
    HR P ρ N h w → ActR ρ a act → ops' P C ops.toList r a h = some (a1, h1) →
    (∀ ρ1 w1 act1, ρ.le ρ1 → ActR ρ1 a1 act1 → HR P ρ1 N h1 w1 → Below N w w1 → Q .normal act1 w1) → wpOps P ops Q (List.range' pre.length r.length) act w := by
  intro r
  induction r with
  | nil =>
    intro pre hp ρ h w a act a1 h1 H A hs hQ
    simp only [ops', Option.some.injEq, Prod.mk.injEq] at hs
    obtain ⟨rfl, rfl⟩ := hs
    simp only [List.length_nil, List.range'_zero, wpOps]
    exact hQ ρ w act (Rho.le_refl ρ) A H (Below.refl _ _)
  | cons o r ih =>
    intro pre hp ρ h w a act a1 h1 H A hs hQ
    simp only [ops'] at hs
    split at hs
    · rename_i a2 h2 hst
      have ho : ops[pre.length]? = some o := by
        rw [← Array.getElem?_toList, hp]
        simp
      simp only [List.length_cons, List.range'_succ]
      rw [wpOps_cons]
      refine step_wp W HC H A ho hst (fun ρ1 w1 act1 r1 r2 r3 r4 => ?_)
      have := ih (pre ++ [o]) (by rw [hp]; simp) r3 r2 hs (fun ρ2 w2 act2 s1 s2 s3 s4 => hQ ρ2 w2 act2 (Rho.le_trans r1 s1) s2 s3 (r4.trans s4))
      simpa using this
    · cases hs

end Go.Ev

namespace Go.Ev
open Go.RowKit
variable {P : Program} {ρ : Rho} {N : Bs} {h : Hp} {w : World} {a : A} {act : Act} {mk : Bool}

theorem has_mem {l : List Nat} {i : Nat} : has l i = true ↔ i ∈ l := by
  unfold has
  rw [List.any_eq_true]
  constructor
  · rintro ⟨x, hx, he⟩
    have := nbeq_true he
    subst this
    exact hx
  · intro hx
    exact ⟨i, hx, by simp⟩

/-! ### who waits for whom -/
theorem predsGo_old : ∀ (r : List Oper) (acc : List (List Nat)) (i : Nat), i < acc.length → (predsGo acc r)[i]? = acc[i]?
  | [], _, _, _ => rfl
  | o :: r, acc, i, hi => by
    simp only [predsGo]
    rw [predsGo_old r _ i (by simp; omega), List.getElem?_append_left hi]

theorem predsGo_new : ∀ (r : List Oper) (acc : List (List Nat)) (k : Nat) (o : Oper), r[k]? = some o →
    ∃ acc', acc'.length = acc.length + k ∧ (predsGo acc r)[acc.length + k]? = some (predsRow acc' o.after.toList) ∧ ∀ i, i < acc'.length → acc'[i]? = (predsGo acc r)[i]?
  | [], _, _, _, h => by simp at h
  | o :: r, acc, 0, o', h => by
    simp at h
    subst h
    refine ⟨acc, rfl, ?_, fun i hi => ?_⟩
    · simp only [predsGo, Nat.add_zero]
      rw [predsGo_old r _ _ (by simp)]
      simp
    · simp only [predsGo]
      rw [predsGo_old r _ _ (by simp; omega), List.getElem?_append_left hi]
  | o :: r, acc, k + 1, o', h => by
    simp at h
    obtain ⟨acc', h1, h2, h3⟩ := predsGo_new r (acc ++ [predsRow acc o.after.toList]) k o' h
    simp only [List.length_append, List.length_singleton] at h1 h2
    refine ⟨acc', by omega, ?_, ?_⟩
    · simp only [predsGo]
      rw [← h2]
      congr 1
      omega
    · simpa only [predsGo] using h3

theorem predsRow_mem {acc : List (List Nat)} {j : Nat} : ∀ {l : List Edge}, j ∈ predsRow acc l → ∃ e ∈ l, Region.binds .any e = true ∧ (j = e.on ∨ j ∈ (acc[e.on]?).getD [])
  | [], h => by simp [predsRow] at h
  | e :: l, h => by
    simp only [predsRow] at h
    split at h
    · rename_i hb
      simp only [List.cons_append, List.mem_cons, List.mem_append] at h
      rcases h with rfl | h | h
      · exact ⟨e, by simp, hb, .inl rfl⟩
      · exact ⟨e, by simp, hb, .inr h⟩
      · obtain ⟨e', h1, h2⟩ := predsRow_mem h
        exact ⟨e', by simp [h1], h2⟩
    · obtain ⟨e', h1, h2⟩ := predsRow_mem h
      exact ⟨e', by simp [h1], h2⟩

theorem edgesOk_spec {i : Nat} : ∀ {l : List Edge}, edgesOk i l = true → ∀ e ∈ l, Region.binds .any e = true → e.on < i
  | [], _, _, h, _ => by cases h
  | e :: l, h, e', he, hb => by
    simp only [edgesOk] at h
    split at h
    · split at h
      · rename_i hlt
        rcases List.mem_cons.1 he with rfl | he
        · simpa [Nat.blt_eq] using hlt
        · exact edgesOk_spec h e' he hb
      · cases h
    · rename_i hf
      rcases List.mem_cons.1 he with rfl | he
      · rw [hb] at hf; cases hf
      · exact edgesOk_spec h e' he hb

theorem pairOk_spec {arr : Array Oper} {ps : List Nat} {y : Oper} : ∀ {l : List Oper} {k : Nat}, pairOk mk arr ps y k l = true → ∀ i x, l[i]? = some x → has ps (k + i) = true ∨ ((isReader2 mk x.op || isReader2 mk y.op) = true ∧ x.apart arr y = true ∧ y.apart arr x = true)
  | [], _, _, _, _, h => by simp at h
  | x :: l, k, h, i, x', hx => by
    simp only [pairOk] at h
    split at h
    · rename_i hh
      cases i with
      | zero => exact .inl hh
      | succ i =>
        have := pairOk_spec h i x' (by simpa using hx)
        rwa [show k + 1 + i = k + (i + 1) by omega] at this
    · split at h
      · rename_i h1 h2 h3
        cases i with
        | zero =>
          simp at hx
          subst hx
          exact .inr ⟨h1, h2, h3⟩
        | succ i =>
          have := pairOk_spec h i x' (by simpa using hx)
          rwa [show k + 1 + i = k + (i + 1) by omega] at this
      · cases h

theorem orderGo_spec {ops : List Oper} {arr : Array Oper} {ps : List (List Nat)} : ∀ {r : List Oper} {j : Nat}, orderGo mk ops arr ps j r = true → ∀ i y, r[i]? = some y →
    edgesOk (j + i) y.after.toList = true ∧ pairOk mk arr (predsOf ps (j + i)) y 0 (ops.take (j + i)) = true
  | [], _, _, _, _, h => by simp at h
  | y :: r, j, h, i, y', hy => by
    simp only [orderGo] at h
    split at h
    · rename_i h1 h2
      cases i with
      | zero =>
        simp at hy
        subst hy
        exact ⟨h1, h2⟩
      | succ i =>
        have := orderGo_spec h i y' (by simpa using hy)
        rwa [show j + 1 + i = j + (i + 1) by omega] at this
    · cases h

structure Ordered (mk : Bool) (ops : Array Oper) : Prop where
  edge : ∀ i o, ops[i]? = some o → ∀ e ∈ o.after, Region.binds .any e = true → e.on < i
  pair : ∀ i j x y, i < j → ops[i]? = some x → ops[j]? = some y → i ∈ predsOf (preds ops.toList) j ∨ ((isReader2 mk x.op || isReader2 mk y.op) = true ∧ x.apart ops y = true ∧ y.apart ops x = true)

theorem ordered_of {ops : Array Oper} (h : orderOk mk ops.toList = true) : Ordered mk ops := by
  unfold orderOk at h
  constructor
  · intro i o ho e he hb
    have := (orderGo_spec h i o (by simpa using ho)).1
    rw [Nat.zero_add] at this
    exact edgesOk_spec this e (by simpa using he) hb
  · intro i j x y hij hx hy
    have := (orderGo_spec h j y (by simpa using hy)).2
    rw [Nat.zero_add] at this
    have h2 := pairOk_spec this i x (by rw [List.getElem?_take, if_pos hij]; simpa using hx)
    rw [Nat.zero_add, has_mem] at h2
    simpa using h2

/-- A set of operations that holds whom its members wait for. -/
def Shut (ops : Array Oper) (O : Nat → Prop) : Prop := ∀ i o, ops[i]? = some o → O i → ∀ e ∈ o.after, Region.binds .any e = true → O e.on

theorem preds_in {ops : Array Oper} (K : Ordered mk ops) {O : Nat → Prop} (hO : Shut ops O) : ∀ (i : Nat) (o : Oper), ops[i]? = some o → (∀ e ∈ o.after, Region.binds .any e = true → O e.on) → ∀ j, j ∈ predsOf (preds ops.toList) i → O j := by
  intro i
  induction i using Nat.strongRecOn with
  | _ i ih =>
    intro o ho hd j hj
    obtain ⟨acc, h1, h2, h3⟩ := predsGo_new ops.toList [] i o (by simpa using ho)
    simp only [List.length_nil, Nat.zero_add] at h1 h2
    unfold predsOf preds at hj
    rw [h2] at hj
    simp only [Option.getD_some] at hj
    obtain ⟨e, he, hb, hje⟩ := predsRow_mem hj
    have he' : e ∈ o.after := by simpa using he
    have hlt := K.edge i o ho e he' hb
    have hOe := hd e he' hb
    rcases hje with rfl | hje
    · exact hOe
    · have hlen : e.on < ops.size := by
        have := (Array.getElem?_eq_some_iff.1 ho).1
        omega
      obtain ⟨p, hp⟩ : ∃ p, ops[e.on]? = some p := ⟨ops[e.on], Array.getElem?_eq_getElem hlen⟩
      rw [h3 e.on (by omega)] at hje
      exact ih e.on hlt p hp (fun e2 he2 hb2 => hO e.on p hp hOe e2 he2 hb2) j hje

theorem sameV_eq : ∀ (n : Nat) (v u : Value), sameV n v u = true → v = u := by
  intro n
  induction n with
  | zero =>
    intro v u h
    unfold sameV at h
    split at h <;> first
      | (have := eq_of_beq h; subst this; rfl)
      | rfl
      | skip
    · simp only [Bool.and_eq_true, intEq_beq] at h
      have h1 := kindEq_eq h.1
      have h2 := eq_of_beq h.2
      subst h1; subst h2; rfl
    · rw [bytesEq_beq] at h
      have := eq_of_beq h
      rename_i a b
      obtain ⟨a⟩ := a
      obtain ⟨b⟩ := b
      have h2 : a = b := Array.ext' this
      rw [h2]
    · simp only [Bool.and_eq_true] at h
      rename_i a b
      obtain ⟨a1, a2, a3⟩ := a
      obtain ⟨b1, b2, b3⟩ := b
      obtain ⟨⟨⟨h1, h2⟩, h3⟩, h4⟩ := h
      have e1 := nbeq_true h1
      have e2 := nbeq_true h2
      simp only at e1 e2
      subst e1; subst e2
      cases a3 <;> cases b3 <;> simp_all
    · simp only [Bool.and_eq_true] at h
      have e1 := nbeq_true h.1
      have e2 := nbeq_true h.2
      subst e1; subst e2; rfl
    · simp only [Bool.and_eq_true] at h
      rename_i a n c b m d
      obtain ⟨a1, a2, a3⟩ := a
      obtain ⟨b1, b2, b3⟩ := b
      obtain ⟨⟨⟨⟨⟨h1, h2⟩, h3⟩, h4⟩, h5⟩, h6⟩ := h
      have e1 := nbeq_true h1
      have e2 := nbeq_true h2
      have e3 := nbeq_true h5
      have e4 := nbeq_true h6
      simp only at e1 e2
      subst e1; subst e2; subst e3; subst e4
      cases a3 <;> cases b3 <;> simp_all
    · have e1 := nbeq_true h
      subst e1; rfl
    · rename_i e; cases e
    · rename_i e; cases e
    · rename_i e; cases e
    · rename_i e; cases e
    · cases h
  | succ n ih =>
    have all : ∀ {l m : List Value}, l.length = m.length → ((l.zip m).all fun (x, y) => sameV n x y) = true → l = m := by
      intro l
      induction l with
      | nil => intro m hl _; cases m <;> simp at hl; rfl
      | cons x l ihl =>
        intro m hl h
        cases m with
        | nil => simp at hl
        | cons y m =>
          simp only [List.zip_cons_cons, List.all_cons, Bool.and_eq_true] at h
          rw [ih _ _ h.1, ihl (by simpa using hl) h.2]
    intro v u h
    unfold sameV at h
    split at h <;> first
      | (have := eq_of_beq h; subst this; rfl)
      | rfl
      | skip
    · simp only [Bool.and_eq_true, intEq_beq] at h
      have h1 := kindEq_eq h.1
      have h2 := eq_of_beq h.2
      subst h1; subst h2; rfl
    · rw [bytesEq_beq] at h
      have := eq_of_beq h
      rename_i a b
      obtain ⟨a⟩ := a
      obtain ⟨b⟩ := b
      have h2 : a = b := Array.ext' this
      rw [h2]
    · simp only [Bool.and_eq_true] at h
      rename_i a b
      obtain ⟨a1, a2, a3⟩ := a
      obtain ⟨b1, b2, b3⟩ := b
      obtain ⟨⟨⟨h1, h2⟩, h3⟩, h4⟩ := h
      have e1 := nbeq_true h1
      have e2 := nbeq_true h2
      simp only at e1 e2
      subst e1; subst e2
      cases a3 <;> cases b3 <;> simp_all
    · simp only [Bool.and_eq_true] at h
      have e1 := nbeq_true h.1
      have e2 := nbeq_true h.2
      subst e1; subst e2; rfl
    · simp only [Bool.and_eq_true] at h
      rename_i a n c b m d
      obtain ⟨a1, a2, a3⟩ := a
      obtain ⟨b1, b2, b3⟩ := b
      obtain ⟨⟨⟨⟨⟨h1, h2⟩, h3⟩, h4⟩, h5⟩, h6⟩ := h
      have e1 := nbeq_true h1
      have e2 := nbeq_true h2
      have e3 := nbeq_true h5
      have e4 := nbeq_true h6
      simp only at e1 e2
      subst e1; subst e2; subst e3; subst e4
      cases a3 <;> cases b3 <;> simp_all
    · have e1 := nbeq_true h
      subst e1; rfl
    · rename_i e
      injection e with e
      subst e
      simp only [Bool.and_eq_true] at h
      obtain ⟨⟨⟨⟨h1, h2⟩, h3⟩, h4⟩, h5⟩ := h
      have e1 := nbeq_true h1
      subst e1
      have e2 := all (nbeq_true h2) h4
      have e3 := all (nbeq_true h3) h5
      rw [Array.ext' e2, Array.ext' e3]
    · rename_i e
      injection e with e
      subst e
      simp only [Bool.and_eq_true] at h
      have e1 := nbeq_true h.1
      subst e1
      rw [ih _ _ h.2]
    · rename_i e
      injection e with e
      subst e
      simp only [Bool.and_eq_true] at h
      rw [Array.ext' (all (nbeq_true h.1) h.2)]
    · rename_i e
      injection e with e
      subst e
      simp only [Bool.and_eq_true] at h
      rw [Array.ext' (all (nbeq_true h.1) h.2)]
    · cases h

/-! ### what an operation reads of its frame -/
theorem evList_congr {a b : A} : ∀ {xs : List Operand}, (∀ x ∈ xs, a.ev x = b.ev x) → evList a xs = evList b xs
  | [], _ => rfl
  | x :: xs, h => by
    have h2 : evList a xs = evList b xs := evList_congr fun y hy => h y (List.mem_cons_of_mem _ hy)
    simp only [evList, h x (by simp), h2]
theorem evPairs_congr {a b : A} : ∀ {xs : List (Nat × Operand)}, (∀ x ∈ xs, a.ev x.2 = b.ev x.2) → evPairs a xs = evPairs b xs
  | [], _ => rfl
  | (i, x) :: xs, h => by
    have h2 : evPairs a xs = evPairs b xs := evPairs_congr fun y hy => h y (List.mem_cons_of_mem _ hy)
    have h3 : a.ev x = b.ev x := h (i, x) (by simp)
    simp only [evPairs, h3, h2]

theorem oper_congr {a b : A} {C : Caller} {op : Op} (hab : ∀ x ∈ op.operands, a.ev x = b.ev x) :
    reader' P h a op = reader' P h b op ∧ oper' P C h a op = oper' P C h b op ∧ maker' P a op = maker' P b op := by
  have key : reader' P h a op = reader' P h b op ∧ writer' P h a op = writer' P h b op ∧ callee' a op = callee' b op ∧ maker' P a op = maker' P b op := by
    cases op <;> simp only [Op.operands] at hab
    case build t ps =>
      have : evPairs a ps.toList = evPairs b ps.toList := evPairs_congr fun x hx => hab x.2 (by
        simp only [List.mem_toArray, List.mem_map]
        exact ⟨x, hx, rfl⟩)
      exact ⟨by simp only [reader', this], rfl, rfl, rfl⟩
    case buildSlice t n ps =>
      have : evPairs a ps.toList = evPairs b ps.toList := evPairs_congr fun x hx => hab x.2 (by
        simp only [List.mem_toArray, List.mem_map]
        exact ⟨x, hx, rfl⟩)
      exact ⟨rfl, by simp only [writer', maker', this], rfl, by simp only [maker', this]⟩
    case makeFunc fn first captured =>
      have h1 : evList a first.toList = evList b first.toList := evList_congr fun x hx => hab x (by simp at hx ⊢; exact .inl hx)
      have h2 : evList a captured.toList = evList b captured.toList := evList_congr fun x hx => hab x (by simp at hx ⊢; exact .inr hx)
      exact ⟨by simp only [reader', h1, h2], rfl, rfl, rfl⟩
    case makeMap t r =>
      cases r with
      | none => exact ⟨rfl, rfl, rfl, rfl⟩
      | some x => exact ⟨rfl, by simp only [writer', maker', hab x (by simp)], rfl, by simp only [maker', hab x (by simp)]⟩
    case slice t x lo hi mx =>
      have h0 := hab x (by simp)
      have hl : ∀ y, lo = some y → a.ev y = b.ev y := fun y hy => hab y (by subst hy; simp)
      have hh : ∀ y, hi = some y → a.ev y = b.ev y := fun y hy => hab y (by subst hy; simp)
      have hm : ∀ y, mx = some y → a.ev y = b.ev y := fun y hy => hab y (by subst hy; simp)
      have hlist : evList a (lo.toList ++ hi.toList ++ mx.toList) = evList b (lo.toList ++ hi.toList ++ mx.toList) := evList_congr fun y hy => by
        simp at hy
        rcases hy with hy | hy | hy
        · exact hl y hy
        · exact hh y hy
        · exact hm y hy
      have bl : lo.bind a.ev = lo.bind b.ev := by cases lo with
        | none => rfl
        | some y => exact hl y rfl
      have bh : hi.bind a.ev = hi.bind b.ev := by cases hi with
        | none => rfl
        | some y => exact hh y rfl
      have bm : mx.bind a.ev = mx.bind b.ev := by cases mx with
        | none => rfl
        | some y => exact hm y rfl
      exact ⟨by simp only [reader', h0, hlist, bl, bh, bm], rfl, rfl, rfl⟩
    case call c =>
      obtain ⟨cal, args, ats⟩ := c
      have hargs : evList a args.toList = evList b args.toList := evList_congr fun x hx => hab x (by simp [Call.operands]; right; simpa using hx)
      cases cal with
      | value f =>
        have hf := hab f (by simp [Call.operands])
        exact ⟨rfl, rfl, by simp only [callee', hf, hargs], rfl⟩
      | invoke r m => exact ⟨rfl, rfl, rfl, rfl⟩
      | builtin bb =>
        refine ⟨?_, by simp only [writer', hargs], rfl, rfl⟩
        cases bb <;> first | rfl | simp only [reader', hargs]
    all_goals
      refine ⟨?_, ?_, rfl, ?_⟩ <;> first
        | rfl
        | (simp only [reader']; done)
        | (simp only [writer']; done)
        | (simp_all [reader']; done)
        | (simp_all [writer', maker']; done)
        | (simp_all [maker']; done)
  refine ⟨key.1, ?_, key.2.2.2⟩
  unfold oper'
  rw [key.1, key.2.1, key.2.2.1]

end Go.Ev

namespace Go.Ev
open Go.RowKit
variable {P : Program} {ρ : Rho} {N : Bs} {h : Hp} {w : World} {a : A} {act : Act} {C : Caller} {mk : Bool} {base g : Nat}

theorem A.get_put {a b : A} {d : Option Nat} {v : Value} (hn : a.n < most) (h : a.put d v = some b) : b.n = a.n ∧ ∀ t, b.get t = if d = some t then v else a.get t := by
  cases d with
  | none => simp only [A.put, Option.some.injEq] at h; subst h; simp
  | some d =>
    simp only [A.put] at h
    split at h
    · rename_i hlt
      injection h with h
      subst h
      have hlt' : d < a.n := by simpa [Nat.blt_eq] using hlt
      refine ⟨rfl, fun t => ?_⟩
      simp only [A.get]
      rw [Tr.get_set' _ _ _ _ (by omega)]
      by_cases e : t = d
      · subst e; simp
      · have : ¬ d = t := fun h => e h.symm
        simp [e, this]
    · cases h

theorem A.put_same {a b a1 : A} {d : Option Nat} {v : Value} (hn : b.n = a.n) (h : a.put d v = some a1) : ∃ b1, b.put d v = some b1 := by
  cases d with
  | none => exact ⟨b, rfl⟩
  | some d =>
    simp only [A.put] at h ⊢
    rw [hn]
    split at h
    · rename_i hlt
      exact ⟨_, rfl⟩
    · cases h

/-- What one step of the text does. -/
structure Turned (P : Program) (C : Caller) (mk : Bool) (g : Nat) (ops : List Oper) (o : Oper) (a : A) (h : Hp) (a1 : A) (h1 : Hp) (v : Value) : Prop where
  put : a.put o.dst v = some a1
  val : (wanted' ops a o = true ∧ oper2' P C mk g h a o.op = some (v, h1)) ∨ (wanted' ops a o = false ∧ v = undef' ∧ h1 = h)

theorem turned {ops : List Oper} {o : Oper} {a1 : A} {h1 : Hp} (h0 : step2' P C mk ops g o a h = some (a1, h1)) : ∃ v, Turned P C mk g ops o a h a1 h1 v := by
  unfold step2' at h0
  split at h0
  · rename_i hw
    split at h0
    · rename_i v h2 hv
      split at h0
      · rename_i a2 ha
        injection h0 with h0
        injection h0 with e1 e2
        subst e1; subst e2
        exact ⟨v, ha, .inl ⟨hw, hv⟩⟩
      · cases h0
    · cases h0
  · rename_i hw
    split at h0
    · rename_i a2 ha
      injection h0 with h0
      injection h0 with e1 e2
      subst e1; subst e2
      exact ⟨undef', ha, .inr ⟨hw, rfl, rfl⟩⟩
    · cases h0

theorem Turned.step {ops : List Oper} {o : Oper} {a1 : A} {h1 : Hp} {v : Value} (t : Turned P C mk g ops o a h a1 h1 v) : step2' P C mk ops g o a h = some (a1, h1) := by
  unfold step2'
  rcases t.val with ⟨hw, hv⟩ | ⟨hw, rfl, rfl⟩
  · rw [hw, hv]
    simp only [t.put]
  · rw [hw]
    simp only [t.put]

theorem oper_reader {op : Op} {v : Value} {h1 : Hp} (hr : isReader2 mk op = true) (h0 : oper2' P C mk g h a op = some (v, h1)) : reader2' P g h a op = some v ∧ h1 = h := by
  unfold oper2' at h0
  rw [hr] at h0
  simp only [withH] at h0
  split at h0
  · injection h0 with h0
    injection h0 with e1 e2
    subst e1; subst e2
    exact ⟨by assumption, rfl⟩
  · cases h0

theorem Turned.heap {ops : List Oper} {o : Oper} {a1 : A} {h1 : Hp} {v : Value} (t : Turned P C mk g ops o a h a1 h1 v) (hr : isReader2 mk o.op = true) : h1 = h := by
  rcases t.val with ⟨_, hv⟩ | ⟨_, _, e⟩
  · exact (oper_reader hr hv).2
  · exact e

theorem wanted_congr {ops : Array Oper} {o : Oper} {a b : A} (h : ∀ t ∈ o.looksAt ops, b.get t = a.get t) : wanted' ops.toList b o = wanted' ops.toList a o := by
  unfold wanted'
  split
  · rfl
  · rename_i j want hg
    split
    · rfl
    · rename_i p hp
      split
      · rfl
      · rename_i d hd
        rw [h d]
        unfold Oper.looksAt
        rw [List.mem_append]
        refine .inr ?_
        have hp' : ops[j]? = some p := by simpa using hp
        simp [hg, hp', hd]

theorem ev_congr {ops : Array Oper} {o : Oper} {a b : A} (h : ∀ t ∈ o.looksAt ops, b.get t = a.get t) : ∀ x ∈ o.op.operands, b.ev x = a.ev x := by
  intro x hx
  cases x with
  | tmp t =>
    simp only [A.ev]
    rw [h t]
    unfold Oper.looksAt
    rw [List.mem_append]
    refine .inl ?_
    rw [List.mem_filterMap]
    exact ⟨.tmp t, by simpa using hx, rfl⟩
  | const v => rfl
  | global g => rfl
  | func f => rfl

theorem oper2_congr {a b : A} {C : Caller} {op : Op} (hab : ∀ x ∈ op.operands, a.ev x = b.ev x) :
    reader2' P g h a op = reader2' P g h b op ∧ oper2' P C mk g h a op = oper2' P C mk g h b op := by
  have k := oper_congr (P := P) (h := h) (C := C) hab
  have kr : reader2' P g h a op = reader2' P g h b op := by
    unfold reader2'
    rw [k.1, k.2.2]
  refine ⟨kr, ?_⟩
  unfold oper2'
  rw [kr, k.2.1]

/-! ### the text's states -/
theorem check_spec {ops : List Oper} {ps : List (List Nat)} {gs : List (Nat × Hp)} : ∀ (r : List Oper) (i : Nat) (a : A) (h : Hp) (a1 : A) (h1 : Hp), check P C mk base ops ps gs i r a h = some (a1, h1) →
    ∃ st : Nat → A × Hp, st 0 = (a, h) ∧ st r.length = (a1, h1) ∧ ∀ k o, r[k]? = some o → step2' P C mk ops (base + (i + k)) o (st k).1 (st k).2 = some (st (k + 1)) ∧
      (isReader2 mk o.op = true → wanted' ops (st k).1 o = true → ∃ v, reader2' P (base + (i + k)) (st k).2 (st k).1 o.op = some v ∧ stable P (base + (i + k)) (st k).1 o.op v (i + k) ps gs = true)
  | [], i, a, h, a1, h1, hc => by
    simp only [check, Option.some.injEq, Prod.mk.injEq] at hc
    obtain ⟨rfl, rfl⟩ := hc
    exact ⟨fun _ => (a, h), rfl, rfl, fun k o ho => by simp at ho⟩
  | o :: r, i, a, h, a1, h1, hc => by
    simp only [check] at hc
    split at hc
    · cases hc
    · rename_i a2 h2 hs
      have step : ∀ (hrest : check P C mk base ops ps gs (i + 1) r a2 h2 = some (a1, h1)) (hst : isReader2 mk o.op = true → wanted' ops a o = true → ∃ v, reader2' P (base + i) h a o.op = some v ∧ stable P (base + i) a o.op v i ps gs = true),
          ∃ st : Nat → A × Hp, st 0 = (a, h) ∧ st (o :: r).length = (a1, h1) ∧ ∀ k o', (o :: r)[k]? = some o' → step2' P C mk ops (base + (i + k)) o' (st k).1 (st k).2 = some (st (k + 1)) ∧
            (isReader2 mk o'.op = true → wanted' ops (st k).1 o' = true → ∃ v, reader2' P (base + (i + k)) (st k).2 (st k).1 o'.op = some v ∧ stable P (base + (i + k)) (st k).1 o'.op v (i + k) ps gs = true) := by
        intro hrest hst
        obtain ⟨st, s0, s1, s2⟩ := check_spec r (i + 1) a2 h2 a1 h1 hrest
        refine ⟨fun k => match k with | 0 => (a, h) | k + 1 => st k, rfl, s1, ?_⟩
        intro k o' ho'
        cases k with
        | zero =>
          simp at ho'
          subst ho'
          refine ⟨by simpa [s0] using hs, hst⟩
        | succ k =>
          simp at ho'
          have := s2 k o' ho'
          rw [show i + 1 + k = i + (k + 1) by omega] at this
          exact this
      split at hc
      · rename_i hr hw
        split at hc
        · rename_i v hv
          split at hc
          · rename_i hst
            exact step hc fun _ _ => ⟨v, hv, hst⟩
          · cases hc
        · cases hc
      · rename_i hne
        exact step hc fun e1 e2 => absurd e2 (by
          intro e2
          exact hne e1 e2)

theorem heaps_spec {ops : List Oper} : ∀ (r : List Oper) (i : Nat) (st : Nat → A × Hp) (gs : List (Nat × Hp)),
    (∀ k o, r[k]? = some o → step2' P C mk ops (base + (i + k)) o (st k).1 (st k).2 = some (st (k + 1))) → heaps P C mk base ops i r (st 0).1 (st 0).2 = some gs →
    ∀ m, m ≤ r.length → (m = r.length ∨ ∃ o, r[m]? = some o ∧ isReader2 mk o.op = false) →
      ∃ l1 l2, gs = l1 ++ (i + m, (st m).2) :: l2 ∧ ∀ e ∈ l1, ∃ j o, e.1 = i + j ∧ j < m ∧ r[j]? = some o ∧ isReader2 mk o.op = false
  | [], i, st, gs, hst, hh, m, hm, _ => by
    simp only [heaps, Option.some.injEq] at hh
    simp at hm
    subst hm
    exact ⟨[], [], by simp [← hh], by simp⟩
  | o :: r, i, st, gs, hst, hh, m, hm, hk => by
    simp only [heaps] at hh
    have h0 := hst 0 o (by simp)
    rw [Nat.add_zero] at h0
    rw [h0] at hh
    simp only at hh
    split at hh
    · rename_i l hl
      have rec' := heaps_spec r (i + 1) (fun k => st (k + 1)) l (fun k o' ho' => by
        have := hst (k + 1) o' (by simpa using ho')
        rwa [show i + (k + 1) = i + 1 + k by omega] at this) hl
      cases m with
      | zero =>
        rcases hk with hk | ⟨o', ho', hr⟩
        · simp at hk
        · simp at ho'
          subst ho'
          rw [hr] at hh
          simp only [Option.some.injEq] at hh
          exact ⟨[], l, by simp [← hh], by simp⟩
      | succ m =>
        obtain ⟨l1, l2, e1, e2⟩ := rec' m (by simpa using hm) (by simpa using hk)
        rw [show i + 1 + m = i + (m + 1) by omega] at e1
        have lift : ∀ e ∈ l1, ∃ j o', e.1 = i + j ∧ j < m + 1 ∧ (o :: r)[j]? = some o' ∧ isReader2 mk o'.op = false := by
          intro e he
          obtain ⟨j, o', f1, f2, f3, f4⟩ := e2 e he
          exact ⟨j + 1, o', by omega, by omega, by simpa using f3, f4⟩
        split at hh
        · injection hh with hh
          subst hh
          exact ⟨l1, l2, e1, lift⟩
        · rename_i hr
          injection hh with hh
          subst hh
          refine ⟨(i, (st 0).2) :: l1, l2, by simp [e1], ?_⟩
          intro e he
          rcases List.mem_cons.1 he with rfl | he
          · exact ⟨0, o, rfl, by omega, by simp, hr⟩
          · exact lift e he
    · cases hh

theorem stable_spec {op : Op} {v : Value} {i : Nat} {ps : List (List Nat)} : ∀ {gs l1 : List (Nat × Hp)} {m : Nat} {hm : Hp} {l2 : List (Nat × Hp)}, stable P g a op v i ps gs = true → gs = l1 ++ (m, hm) :: l2 →
    (∀ e ∈ l1, i ∉ predsOf ps e.1) → m ∉ predsOf ps i → reader2' P g hm a op = some v := by
  intro gs l1
  induction l1 generalizing gs with
  | nil =>
    intro m hm l2 hs hg _ hp
    subst hg
    simp only [List.nil_append, stable] at hs
    split at hs
    · rename_i hh
      exact absurd (has_mem.1 hh) hp
    · split at hs
      · rename_i u hu
        split at hs
        · rename_i hv
          rw [hu, sameV_eq _ _ _ hv]
        · cases hs
      · cases hs
  | cons e l1 ih =>
    intro m hm l2 hs hg hl hp
    subst hg
    obtain ⟨e, he⟩ := e
    simp only [List.cons_append, stable] at hs
    split at hs
    · exact ih hs rfl (fun e he => hl e (List.mem_cons_of_mem _ he)) hp
    · split at hs
      · split at hs
        · split at hs
          · rename_i hh
            exact absurd (has_mem.1 hh) (hl (e, he) (by simp))
          · exact ih hs rfl (fun e he => hl e (List.mem_cons_of_mem _ he)) hp
        · cases hs
      · cases hs

/-! ### how many are listed -/
def cnt (f : Nat → Bool) : Nat → Nat
  | 0 => 0
  | n + 1 => cnt f n + (if f n = true then 1 else 0)
theorem cnt_le (f : Nat → Bool) : ∀ n, cnt f n ≤ n
  | 0 => Nat.le_refl 0
  | n + 1 => by
    have := cnt_le f n
    simp only [cnt]
    split <;> omega
theorem cnt_all {f : Nat → Bool} : ∀ {n : Nat}, cnt f n = n → ∀ i, i < n → f i = true
  | 0, _, i, hi => by omega
  | n + 1, h, i, hi => by
    have := cnt_le f n
    simp only [cnt] at h
    split at h
    · rename_i hn
      by_cases e : i = n
      · subst e; exact hn
      · exact cnt_all (n := n) (by omega) i (by omega)
    · omega
theorem cnt_same {f g : Nat → Bool} : ∀ {n : Nat}, (∀ j, j < n → g j = f j) → cnt g n = cnt f n
  | 0, _ => rfl
  | n + 1, h => by simp only [cnt, h n (by omega), cnt_same (fun j hj => h j (Nat.lt_succ_of_lt hj))]
theorem cnt_set {f g : Nat → Bool} {i : Nat} (h0 : f i = false) (h1 : g i = true) (h2 : ∀ j, j ≠ i → g j = f j) : ∀ {n : Nat}, i < n → cnt g n = cnt f n + 1
  | 0, h => by omega
  | n + 1, h => by
    simp only [cnt]
    by_cases e : i = n
    · subst e
      rw [h0, h1, cnt_same (fun j hj => h2 j (by omega))]
      simp
    · rw [h2 n (fun h => e h.symm), cnt_set h0 h1 h2 (by omega)]
      omega

/-! ### the law -/
/-- The text's states, and what 'draw'' checks of them. -/
structure Course (P : Program) (C : Caller) (mk : Bool) (base : Nat) (ops : Array Oper) (st : Nat → A × Hp) (gs : List (Nat × Hp)) : Prop where
  ordered : Ordered mk ops
  go : ∀ k o, ops[k]? = some o → step2' P C mk ops.toList (base + k) o (st k).1 (st k).2 = some (st (k + 1)) ∧
      (isReader2 mk o.op = true → wanted' ops.toList (st k).1 o = true → ∃ v, reader2' P (base + k) (st k).2 (st k).1 o.op = some v ∧ stable P (base + k) (st k).1 o.op v k (preds ops.toList) gs = true)
  heaps : ∀ m, m ≤ ops.size → (m = ops.size ∨ ∃ o, ops[m]? = some o ∧ isReader2 mk o.op = false) →
      ∃ l1 l2, gs = l1 ++ (m, (st m).2) :: l2 ∧ ∀ e ∈ l1, ∃ o, e.1 < m ∧ ops[e.1]? = some o ∧ isReader2 mk o.op = false
  small : (st 0).1.n < most

theorem course_of {ops : Array Oper} {a1 : A} {h1 : Hp} (hn : a.n < most) (hord : orderOk mk ops.toList = true) (h0 : drawn P C mk base ops.toList a h = some (a1, h1)) :
    ∃ st gs, Course P C mk base ops st gs ∧ st 0 = (a, h) ∧ st ops.size = (a1, h1) := by
  unfold drawn at h0
  split at h0
  · rename_i gs hgs
    obtain ⟨st, s0, s1, s2⟩ := check_spec _ _ _ _ _ _ h0
    refine ⟨st, gs, ⟨ordered_of hord, ?_, ?_, by rw [s0]; exact hn⟩, s0, by simpa using s1⟩
    · intro k o ho
      have := s2 k o (by simpa using ho)
      rwa [Nat.zero_add] at this
    · intro m hm hk
      obtain ⟨l1, l2, e1, e2⟩ := heaps_spec ops.toList 0 st gs (fun k o ho => (s2 k o ho).1) (by rw [s0]; exact hgs) m (by simpa using hm) (by simpa using hk)
      rw [Nat.zero_add] at e1
      refine ⟨l1, l2, e1, fun e he => ?_⟩
      obtain ⟨j, o, f1, f2, f3, f4⟩ := e2 e he
      rw [Nat.zero_add] at f1
      subst f1
      exact ⟨o, f2, by simpa using f3, f4⟩
  · cases h0

namespace Course
variable {ops : Array Oper} {st : Nat → A × Hp} {gs : List (Nat × Hp)}

theorem n_same (c : Course P C mk base ops st gs) : ∀ k, k ≤ ops.size → (st k).1.n = (st 0).1.n
  | 0, _ => rfl
  | k + 1, hk => by
    have ih := n_same c k (by omega)
    obtain ⟨o, ho⟩ : ∃ o, ops[k]? = some o := ⟨ops[k], Array.getElem?_eq_getElem (by omega)⟩
    obtain ⟨v, t⟩ := turned (c.go k o ho).1
    have := c.small
    rw [(A.get_put (by omega) t.put).1, ih]

theorem get_same (c : Course P C mk base ops st gs) {t : Nat} {k : Nat} : ∀ d, k + d ≤ ops.size → (∀ j o, k ≤ j → j < k + d → ops[j]? = some o → o.dst ≠ some t) → (st (k + d)).1.get t = (st k).1.get t
  | 0, _, _ => rfl
  | d + 1, hd, hno => by
    have ih := get_same c (t := t) (k := k) d (by omega) (fun j o h1 h2 => hno j o h1 (by omega))
    obtain ⟨o, ho⟩ : ∃ o, ops[k + d]? = some o := ⟨ops[k + d], Array.getElem?_eq_getElem (by omega)⟩
    obtain ⟨v, tt⟩ := turned (c.go (k + d) o ho).1
    have := c.small
    have hns := c.n_same (k + d) (by omega)
    have e := (A.get_put (by omega) tt.put).2 t
    rw [if_neg (hno _ o (by omega) (by omega) ho)] at e
    rw [← ih, ← e]
    rfl

theorem heap_same (c : Course P C mk base ops st gs) {k : Nat} : ∀ d, k + d ≤ ops.size → (∀ j o, k ≤ j → j < k + d → ops[j]? = some o → isReader2 mk o.op = true) → (st (k + d)).2 = (st k).2
  | 0, _, _ => rfl
  | d + 1, hd, hno => by
    have ih := heap_same c (k := k) d (by omega) (fun j o h1 h2 => hno j o h1 (by omega))
    obtain ⟨o, ho⟩ : ∃ o, ops[k + d]? = some o := ⟨ops[k + d], Array.getElem?_eq_getElem (by omega)⟩
    obtain ⟨v, tt⟩ := turned (c.go (k + d) o ho).1
    have e := tt.heap (hno _ o (by omega) (by omega) ho)
    rw [← ih, ← e]
    rfl

/-- The effect that comes next, or the end. -/
theorem next_effect (_c : Course P C mk base ops st gs) {k : Nat} : ∀ d, k + d = ops.size → ∃ m, k ≤ m ∧ m ≤ ops.size ∧ (m = ops.size ∨ ∃ o, ops[m]? = some o ∧ isReader2 mk o.op = false) ∧
    ∀ j o, k ≤ j → j < m → ops[j]? = some o → isReader2 mk o.op = true
  | 0, hd => ⟨k, Nat.le_refl k, by omega, .inl (by omega), fun j o h1 h2 => by omega⟩
  | d + 1, hd => by
    obtain ⟨o, ho⟩ : ∃ o, ops[k]? = some o := ⟨ops[k], Array.getElem?_eq_getElem (by omega)⟩
    cases hr : isReader2 mk o.op with
    | false => exact ⟨k, Nat.le_refl k, by omega, .inr ⟨o, ho, hr⟩, fun j o h1 h2 => by omega⟩
    | true =>
      obtain ⟨m, m1, m2, m3, m4⟩ := next_effect _c (k := k + 1) d (by omega)
      refine ⟨m, by omega, m2, m3, fun j o' h1 h2 h3 => ?_⟩
      by_cases e : j = k
      · subst e
        rw [ho] at h3
        injection h3 with h3
        subst h3
        exact hr
      · exact m4 j o' (by omega) h2 h3

end Course

/-- Where a region stands whose listed operations are O. -/
structure Stands (mk : Bool) (ops : Array Oper) (st : Nat → A × Hp) (O : Nat → Prop) (b : A) (hp : Hp) : Prop where
  shut : Shut ops O
  inside : ∀ i, O i → i < ops.size
  n : b.n = (st 0).1.n
  get : ∀ t k, k ≤ ops.size → (∀ j o, ops[j]? = some o → o.dst = some t → (j < k ↔ O j)) → b.get t = (st k).1.get t
  heap : ∃ k, k ≤ ops.size ∧ (∀ j o, ops[j]? = some o → isReader2 mk o.op = false → (j < k ↔ O j)) ∧ hp = (st k).2

theorem stands_ready {ops : Array Oper} {st : Nat → A × Hp} {gs : List (Nat × Hp)} (c : Course P C mk base ops st gs) {O O' : Nat → Prop} {b : A} {hp : Hp} (S : Stands mk ops st O b hp) {i : Nat} {o : Oper}
    (ho : ops[i]? = some o) (hi : ¬ O i) (hd : ∀ e ∈ o.after, Region.binds .any e = true → O e.on) (hO : ∀ j, O' j ↔ (j = i ∨ O j)) :
    ∃ b' hp', step2' P C mk ops.toList (base + i) o b hp = some (b', hp') ∧ Stands mk ops st O' b' hp' := by
  have hlt : i < ops.size := (Array.getElem?_eq_some_iff.1 ho).1
  have hpre := preds_in c.ordered S.shut i o ho hd
  have hanti : ∀ j p, ops[j]? = some p → O j → i ∉ predsOf (preds ops.toList) j := by
    intro j p hp hj hc
    exact hi (preds_in c.ordered S.shut j p hp (fun e he hb => S.shut j p hp hj e he hb) i hc)
  -- two that touch one place
  have before : ∀ j p, ops[j]? = some p → (∃ d, p.dst = some d ∧ (d ∈ o.looksAt ops ∨ o.dst = some d)) → j ≠ i → (j < i ↔ O j) := by
    intro j p hp ⟨d, hpd, hdd⟩ hne
    constructor
    · intro hji
      rcases c.ordered.pair j i p o hji hp ho with h1 | ⟨_, h1, h2⟩
      · exact hpre j h1
      · have s := Oper.apart_spec h1
        rcases hdd with h3 | h3
        · exact absurd h3 (s.1 d hpd)
        · exact absurd h3 (s.2.1 d hpd)
    · intro hj
      rcases Nat.lt_or_ge j i with h0 | h0
      · exact h0
      · exfalso
        rcases c.ordered.pair i j o p (by omega) ho hp with h1 | ⟨_, h1, h2⟩
        · exact hanti j p hp hj h1
        · have s := Oper.apart_spec h2
          rcases hdd with h3 | h3
          · exact s.1 d hpd h3
          · exact s.2.1 d hpd h3
  have looks : ∀ t ∈ o.looksAt ops, b.get t = (st i).1.get t := by
    intro t ht
    refine S.get t i (by omega) (fun j p hp hpd => ?_)
    by_cases e : j = i
    · subst e
      simp [hi]
    · exact before j p hp ⟨t, hpd, .inl ht⟩ e
  obtain ⟨hstep, hstab⟩ := c.go i o ho
  obtain ⟨v, T⟩ := turned hstep
  have hsmall := c.small
  have hni := c.n_same i (by omega)
  obtain ⟨b', hb'⟩ := A.put_same (b := b) (by rw [S.n, hni]) T.put
  have hbn := A.get_put (by rw [S.n]; exact hsmall) hb'
  have hw : wanted' ops.toList b o = wanted' ops.toList (st i).1 o := wanted_congr looks
  have hev := oper2_congr (P := P) (h := (st i).2) (C := C) (mk := mk) (g := base + i) (ev_congr looks)
  -- the frame, behind
  have frame : ∀ t k, k ≤ ops.size → (∀ j p, ops[j]? = some p → p.dst = some t → (j < k ↔ O' j)) → b'.get t = (st k).1.get t := by
    intro t k hk hall
    rw [hbn.2 t]
    by_cases e : o.dst = some t
    · rw [if_pos e]
      have hik : i < k := (hall i o ho e).2 ((hO i).2 (.inl rfl))
      have h1 : (st (i + 1)).1.get t = v := by
        rw [(A.get_put (by omega) T.put).2 t, if_pos e]
      have h2 := c.get_same (t := t) (k := i + 1) (k - (i + 1)) (by omega) (fun j p hj1 hj2 hp hpd => by
        have h3 : O' j := (hall j p hp hpd).1 (by omega)
        have h4 : O j := by
          rcases (hO j).1 h3 with h5 | h5
          · omega
          · exact h5
        have := (before j p hp ⟨t, hpd, .inr e⟩ (by omega)).2 h4
        omega)
      rw [show i + 1 + (k - (i + 1)) = k by omega] at h2
      rw [h2, h1]
    · rw [if_neg e]
      refine S.get t k hk (fun j p hp hpd => ?_)
      have hji : j ≠ i := by
        intro h0
        subst h0
        rw [ho] at hp
        injection hp with hp
        subst hp
        exact e hpd
      rw [hall j p hp hpd, hO]
      simp [hji]
  have shut' : Shut ops O' := by
    intro j p hp hj e he hb
    rw [hO]
    rcases (hO j).1 hj with h1 | h1
    · subst h1
      rw [ho] at hp
      injection hp with hp
      subst hp
      exact .inr (hd e he hb)
    · exact .inr (S.shut j p hp h1 e he hb)
  have inside' : ∀ j, O' j → j < ops.size := by
    intro j hj
    rcases (hO j).1 hj with h1 | h1
    · omega
    · exact S.inside j h1
  obtain ⟨k, hk, heff, hhp⟩ := S.heap
  cases hr : isReader2 mk o.op with
  | true =>
    -- it leaves the heap alone
    refine ⟨b', hp, ?_, shut', inside', by rw [hbn.1, S.n], frame, k, hk, ?_, hhp⟩
    · refine Turned.step (v := v) ⟨hb', ?_⟩
      rw [hw]
      rcases T.val with ⟨h1, h2⟩ | ⟨h1, h2, h3⟩
      · refine .inl ⟨h1, ?_⟩
        obtain ⟨u, hu, hst⟩ := hstab hr h1
        have hv := (oper_reader hr h2).1
        rw [hu] at hv
        injection hv with hv
        subst hv
        obtain ⟨m, m1, m2, m3, m4⟩ := c.next_effect (k := k) (ops.size - k) (by omega)
        have hsame := c.heap_same (k := k) (m - k) (by omega) (fun j p hj1 hj2 hp => m4 j p hj1 (by omega) hp)
        rw [show k + (m - k) = m by omega] at hsame
        obtain ⟨l1, l2, e1, e2⟩ := c.heaps m m2 m3
        have hm := stable_spec hst e1 (fun e he => by
            obtain ⟨p, f1, f2, f3⟩ := e2 e he
            have : e.1 < k := by
              rcases Nat.lt_or_ge e.1 k with h0 | h0
              · exact h0
              · have := m4 e.1 p h0 f1 f2
                rw [f3] at this
                cases this
            exact hanti e.1 p f2 ((heff e.1 p f2 f3).1 this))
          (fun hc => by
            have h5 := hpre m hc
            rcases m3 with rfl | ⟨p, hp, hpr⟩
            · exact absurd (S.inside _ h5) (by omega)
            · have := (heff m p hp hpr).2 h5
              omega)
        rw [hhp, ← hsame]
        have hcr := (oper2_congr (P := P) (h := (st m).2) (C := C) (mk := mk) (g := base + i) (ev_congr looks)).1
        unfold oper2'
        rw [hr]
        simp only
        rw [hcr, hm]
        rfl
      · exact .inr ⟨h1, h2, rfl⟩
    · intro j p hp hpr
      rw [heff j p hp hpr, hO]
      constructor
      · exact .inr
      · rintro (h1 | h1)
        · subst h1
          rw [ho] at hp
          injection hp with hp
          subst hp
          rw [hr] at hpr
          cases hpr
        · exact h1
  | false =>
    have hge : k ≤ i := by
      rcases Nat.lt_or_ge i k with h0 | h0
      · exact absurd ((heff i o ho hr).1 h0) hi
      · exact h0
    have hprev : ∀ j p, ops[j]? = some p → isReader2 mk p.op = false → j < i → O j := by
      intro j p hp hpr hji
      rcases c.ordered.pair j i p o hji hp ho with h1 | ⟨h1, _⟩
      · exact hpre j h1
      · rw [hpr, hr] at h1
        cases h1
    have hsame := c.heap_same (k := k) (i - k) (by omega) (fun j p hj1 hj2 hp => by
      cases hpr : isReader2 mk p.op with
      | true => rfl
      | false =>
        have := (heff j p hp hpr).2 (hprev j p hp hpr (by omega))
        omega)
    rw [show k + (i - k) = i by omega] at hsame
    have hhi : hp = (st i).2 := by rw [hhp, hsame]
    refine ⟨b', (st (i + 1)).2, ?_, shut', inside', by rw [hbn.1, S.n], frame, i + 1, by omega, ?_, rfl⟩
    · refine Turned.step (v := v) ⟨hb', ?_⟩
      rw [hw, hhi, hev.2]
      exact T.val
    · intro j p hp hpr
      rw [hO]
      constructor
      · intro h1
        by_cases e : j = i
        · exact .inl e
        · exact .inr (hprev j p hp hpr (by omega))
      · rintro (h1 | h1)
        · omega
        · have := (heff j p hp hpr).2 h1
          omega

/-- Which places are laid ahead and not made. -/
def Wait (N : Bs) (mk : Bool) (base : Nat) (ops : Array Oper) (listed : Array Bool) (b : Nat) : Prop :=
  N.g b ∨ (mk = true ∧ ∃ i o, b = base + i ∧ ops[i]? = some o ∧ isMaker o.op = true ∧ listed.getD i false = false)

theorem step2_plain {ops : List Oper} {o : Oper} (ho : isReader o.op = true ∨ isReader2 mk o.op = false) : step2' P C mk ops g o a h = step' P C ops o a h := by
  have : oper2' P C mk g h a o.op = oper' P C h a o.op := by
    unfold oper2' oper'
    rcases ho with h1 | h1
    · have h2 : isReader2 mk o.op = true := by unfold isReader2; rw [h1]
      rw [h2, h1]
      simp only
      unfold reader2'
      rw [h1]
    · rw [h1]
  unfold step2' step'
  rw [this]

theorem laidAs_eq {o o' : CObj} (h : laidAs o o' = true) : o = o' := by
  have vs : ∀ {l m : List Value}, sameVs l m = true → l = m := by
    intro l
    induction l with
    | nil => intro m h; cases m <;> simp [sameVs] at h; rfl
    | cons x l ih =>
      intro m h
      cases m with
      | nil => simp [sameVs] at h
      | cons y m =>
        simp only [sameVs] at h
        split at h
        · rename_i hx
          rw [sameV_eq _ _ _ hx, ih h]
        · cases h
  unfold laidAs at h
  split at h
  · split at h
    · rename_i he
      have := nbeq_true he
      subst this
      rw [vs h]
    · cases h
  · rfl
  · cases h

/-- A maker whose memory is laid ahead. -/
theorem ghost_wp (W : WfP P) {n : Nat} {G G' : Nat → Prop} (H : HR P ρ ⟨n, G⟩ h w) (A : ActR ρ a act) {ops : Array Oper} {i : Nat} {o : Oper} (ho : ops[i]? = some o) (hr : isReader o.op = false) (hr2 : isReader2 mk o.op = true)
    (hg : G g) (hG : ∀ b, G' b → G b ∧ b ≠ g) {a1 : Ev.A} {h1 : Hp} (hs : step2' P C mk ops.toList g o a h = some (a1, h1))
    {K : Act → World → Prop} {Q : Exit → Act → World → Prop} (hK : ∀ ρ1 w1 act1, ρ.le ρ1 → ActR ρ1 a1 act1 → HR P ρ1 ⟨n, G'⟩ h1 w1 → Below n w w1 → K act1 w1) : wpOp P ops Q i K act w := by
  unfold wpOp
  rw [ho]
  simp only []
  unfold step2' at hs
  rw [wanted_eq A ops o] at hs
  split at hs
  · rename_i hw
    rw [if_pos hw]
    split at hs
    · rename_i v h2 hv
      split at hs
      · rename_i a2 ha
        injection hs with hs
        injection hs with hs1 hs2
        subst hs1; subst hs2
        obtain ⟨hv1, rfl⟩ := oper_reader hr2 hv
        unfold reader2' at hv1
        rw [hr] at hv1
        simp only at hv1
        split at hv1
        · rename_i ob f hm
          split at hv1
          · rename_i ob' hget
            split at hv1
            · rename_i hla
              have := laidAs_eq hla
              subst this
              injection hv1 with hv1
              subst hv1
              obtain ⟨s, e1, o', m, f', r1, r2, r3, r4⟩ := maker_run A o hm
              obtain ⟨k1, k2, k3⟩ := H.ghost hg hget (famFree_eq r4) (o' := o') ⟨w.heap.size, 0, m, 0, true⟩ rfl (fun hle => r2 _ _ hle) hG
              refine .inl ?_
              have hrun : (execOp act.eval o).run P w = .ok (.value (f' w.heap.size)) (w.alloc o') := by
                rw [e1]
                simp [r1]
              unfold Oper.wp
              rw [hrun]
              exact hK _ _ _ k1 ((A.mono k1).put (r3 _ _ _ (by simp [Rho.put])) ha) k2 k3
            · cases hv1
          · cases hv1
        · cases hv1
      · cases hs
    · cases hs
  · rename_i hw
    rw [if_neg (by rw [hw]; simp)]
    split at hs
    · rename_i a2 ha
      injection hs with hs
      injection hs with hs1 hs2
      subst hs1; subst hs2
      exact hK ρ w _ (Rho.le_refl ρ) (A.put (v' := undef) (.tuple .nil) ha) (H.less (fun b hb => (hG b hb).1)) (Below.refl _ _)
    · cases hs

theorem any_wp (W : WfP P) (HC : CallerOk P C) {ops : Array Oper} {st : Nat → A × Hp} {gs : List (Nat × Hp)} (c : Course P C mk base ops st gs) (hN : mk = true → ∀ b, N.g b → b < base) {Q : Exit → Act → World → Prop} :
    ∀ (fuel : Nat) (listed : Array Bool) (b : A) (hp : Hp) (ρ : Rho) (w : World) (act : Act), listed.size = ops.size → cnt (fun i => listed.getD i false) ops.size + fuel = ops.size →
    Stands mk ops st (fun i => listed.getD i false = true) b hp → HR P ρ ⟨N.n, Wait N mk base ops listed⟩ hp w → ActR ρ b act →
    (∀ ρ1 w1 act1, ρ.le ρ1 → ActR ρ1 (st ops.size).1 act1 → HR P ρ1 N (st ops.size).2 w1 → Below N w w1 → Q .normal act1 w1) → wpAny P .any ops Q fuel listed act w := by
  intro fuel
  have fin : ∀ (listed : Array Bool) (b : A) (hp : Hp) (ρ : Rho) (w : World) (act : Act), (∀ i, i < ops.size → listed.getD i false = true) →
      Stands mk ops st (fun i => listed.getD i false = true) b hp → HR P ρ ⟨N.n, Wait N mk base ops listed⟩ hp w → ActR ρ b act →
      (∀ ρ1 w1 act1, ρ.le ρ1 → ActR ρ1 (st ops.size).1 act1 → HR P ρ1 N (st ops.size).2 w1 → Below N w w1 → Q .normal act1 w1) → Q .normal act w := by
    intro listed b hp ρ w act hall S H A hQ
    refine hQ ρ w act (Rho.le_refl ρ) ?_ ?_ (Below.refl _ _)
    · have hsz := c.n_same ops.size (Nat.le_refl _)
      refine ⟨fun t => ?_, ?_, A.defers, ?_⟩
      · rw [← S.get t ops.size (Nat.le_refl _) (fun j o ho _ => ⟨fun h => hall j h, fun h => S.inside j h⟩)]
        exact A.get t
      · rw [A.size, S.n, hsz]
      · rw [hsz]; exact c.small
    · obtain ⟨k, hk, heff, hhp⟩ := S.heap
      have := c.heap_same (k := k) (ops.size - k) (by omega) (fun j p hj1 hj2 hp => by
        cases hpr : isReader2 mk p.op with
        | true => rfl
        | false =>
          have := (heff j p hp hpr).2 (hall j (by omega))
          omega)
      rw [show k + (ops.size - k) = ops.size by omega] at this
      rw [this, ← hhp]
      exact H.less (n := N.n) (g' := N.g) (fun b hb => .inl hb)
  have none_ready : ∀ (listed : Array Bool), listed.size = ops.size → Region.ready .any ops listed = [] → ∀ i, i < ops.size → listed.getD i false = true := by
    intro listed hsz hr i
    induction i using Nat.strongRecOn with
    | _ i ih =>
      intro hi
      cases hl : listed.getD i false with
      | true => rfl
      | false =>
        exfalso
        obtain ⟨o, ho⟩ : ∃ o, ops[i]? = some o := ⟨ops[i], Array.getElem?_eq_getElem hi⟩
        have : i ∈ Region.ready .any ops listed := by
          rw [mem_ready]
          refine ⟨?_, o, ho, fun e he hb => ?_⟩
          · have : i < listed.size := by omega
            simpa [Array.getD, this] using hl
          · have hlt := c.ordered.edge i o ho e he hb
            exact ih e.on hlt (by omega)
        rw [hr] at this
        cases this
  induction fuel with
  | zero =>
    intro listed b hp ρ w act hsz hcnt S H A hQ
    have hall := cnt_all (f := fun i => listed.getD i false) (n := ops.size) (by omega)
    refine ⟨?_, fin listed b hp ρ w act hall S H A hQ⟩
    cases hr : Region.ready .any ops listed with
    | nil => rfl
    | cons i r =>
      have : i ∈ Region.ready .any ops listed := by rw [hr]; simp
      obtain ⟨h1, o, ho, _⟩ := mem_ready.1 this
      have hlt : i < ops.size := (Array.getElem?_eq_some_iff.1 ho).1
      have h2 := hall i hlt
      have : i < listed.size := by omega
      simp [Array.getD, this] at h1 h2
      rw [h1] at h2
      cases h2
  | succ fuel ih =>
    intro listed b hp ρ w act hsz hcnt S H A hQ
    refine ⟨fun hr => fin listed b hp ρ w act (none_ready listed hsz hr) S H A hQ, fun i hi => ?_⟩
    obtain ⟨h1, o, ho, hd⟩ := mem_ready.1 hi
    have hlt : i < ops.size := (Array.getElem?_eq_some_iff.1 ho).1
    have hli : i < listed.size := by omega
    have hOi : listed.getD i false = false := by simpa [Array.getD, hli] using h1
    have hset : ∀ j, (listed.setIfInBounds i true).getD j false = false → listed.getD j false = false ∧ j ≠ i := by
      intro j hj
      by_cases e : i = j
      · subst e
        simp [hli] at hj
      · rw [getD_set_ne false e] at hj
        exact ⟨hj, fun h => e h.symm⟩
    have hless : ∀ d, Wait N mk base ops (listed.setIfInBounds i true) d → Wait N mk base ops listed d := by
      rintro d (hd | ⟨hm, j, p, e1, e2, e3, e4⟩)
      · exact .inl hd
      · exact .inr ⟨hm, j, p, e1, e2, e3, (hset j e4).1⟩
    obtain ⟨b', hp', hstep, S'⟩ := stands_ready c S (O' := fun j => (listed.setIfInBounds i true).getD j false = true) ho (by simp [hOi]) hd (fun j => by
      by_cases e : i = j
      · subst e
        simp [hli]
      · rw [getD_set_ne false e]
        simp [show ¬ j = i from fun h => e h.symm])
    have go : ∀ ρ1 w1 act1, ρ.le ρ1 → ActR ρ1 b' act1 → HR P ρ1 ⟨N.n, Wait N mk base ops (listed.setIfInBounds i true)⟩ hp' w1 → Below N.n w w1 → wpAny P .any ops Q fuel (listed.setIfInBounds i true) act1 w1 := by
      intro ρ1 w1 act1 r1 r2 r3 r4
      refine ih _ b' hp' ρ1 w1 act1 (by simp [hsz]) ?_ S' r3 r2 (fun ρ2 w2 act2 s1 s2 s3 s4 => hQ ρ2 w2 act2 (Rho.le_trans r1 s1) s2 s3 (r4.trans s4))
      rw [cnt_set (f := fun i => listed.getD i false) (i := i) hOi (by simp [hli]) (fun j hj => getD_set_ne false (Ne.symm hj)) hlt]
      omega
    by_cases hpl : isReader o.op = true ∨ isReader2 mk o.op = false
    · rw [step2_plain hpl] at hstep
      exact step_wp W HC H A ho hstep (fun ρ1 w1 act1 r1 r2 r3 r4 => go ρ1 w1 act1 r1 r2 (r3.less hless) r4)
    · rw [not_or] at hpl
      have hr : isReader o.op = false := by simpa using hpl.1
      have hr2 : isReader2 mk o.op = true := by simpa using hpl.2
      have hmk : mk = true ∧ isMaker o.op = true := by
        unfold isReader2 at hr2
        rw [hr] at hr2
        cases mk
        · cases hr2
        · exact ⟨rfl, hr2⟩
      refine ghost_wp W H A ho hr hr2 (.inr ⟨hmk.1, i, o, rfl, ho, hmk.2, hOi⟩) (fun d hd => ⟨hless d hd, fun e => ?_⟩) hstep (fun ρ1 w1 act1 r1 r2 r3 r4 => go ρ1 w1 act1 r1 r2 r3 r4)
      subst e
      rcases hd with hd | ⟨_, j, p, e1, e2, e3, e4⟩
      · have := hN hmk.1 _ hd
        omega
      · exact (hset j e4).2 (by omega)

theorem drawn_wp (W : WfP P) (HC : CallerOk P C) {ops : Array Oper} {id : Nat} {a1 : A} {h1 : Hp} (hord : orderOk mk ops.toList = true) (hN : mk = true → ∀ b, N.g b → b < base)
    (H : HR P ρ ⟨N.n, Wait N mk base ops (Array.replicate ops.size false)⟩ h w) (A : ActR ρ a act) (h0 : drawn P C mk base ops.toList a h = some (a1, h1)) {Q : Exit → Act → World → Prop}
    (hQ : ∀ ρ1 w1 act1, ρ.le ρ1 → ActR ρ1 a1 act1 → HR P ρ1 N h1 w1 → Below N w w1 → Q .normal act1 w1) : (Code.region id ops true).wp P Q act w := by
  obtain ⟨st, gs, c, s0, s1⟩ := course_of A.n hord h0
  refine wp_region_any W.mixed ?_
  refine any_wp (N := N) W HC c hN ops.size _ a h ρ _ act (by simp) ?_ ?_ (H.drewn _) A (fun ρ1 w1 act1 r1 r2 r3 r4 => hQ ρ1 w1 act1 r1 (by rw [s1] at r2; exact r2) (by rw [s1] at r3; exact r3) ((Below.refl N.n w).drew.trans r4))
  · have : cnt (fun i => (Array.replicate ops.size false).getD i false) ops.size = cnt (fun _ => false) ops.size := cnt_same (fun j hj => by simp [hj])
    rw [this]
    have h0 : ∀ n, cnt (fun _ => false) n = 0 := by
      intro n
      induction n with
      | zero => rfl
      | succ n ih => simp [cnt, ih]
    rw [h0]
    omega
  · have nope : ∀ j, ¬ (Array.replicate ops.size false).getD j false = true := by
      intro j
      by_cases hj : j < ops.size <;> simp [Array.getD, hj]
    refine ⟨fun i o _ hi => absurd hi (nope i), fun i hi => absurd hi (nope i), by rw [s0], fun t k hk hall => ?_, 0, by omega, fun j o _ _ => ⟨fun h => by omega, fun h => absurd h (nope j)⟩, by rw [s0]⟩
    have := c.get_same (t := t) (k := 0) k (by omega) (fun j o _ hj ho hod => nope j ((hall j o ho hod).1 (by omega)))
    rw [Nat.zero_add, s0] at this
    exact this.symm

theorem draw_wp (W : WfP P) (HC : CallerOk P C) {ops : Array Oper} {id : Nat} {a1 : A} {h1 : Hp} (H : HR P ρ N h w) (A : ActR ρ a act) (h0 : draw' P C ops.toList a h = some (a1, h1)) {Q : Exit → Act → World → Prop}
    (hQ : ∀ ρ1 w1 act1, ρ.le ρ1 → ActR ρ1 a1 act1 → HR P ρ1 N h1 w1 → Below N w w1 → Q .normal act1 w1) : (Code.region id ops true).wp P Q act w := by
  unfold draw' at h0
  split at h0
  · rename_i hord
    refine drawn_wp (mk := false) (N := N) W HC hord (fun e => by cases e) (H.less (n := N.n) (g := N.g) (fun b hb => ?_)) A h0 hQ
    rcases hb with hb | ⟨e, _⟩
    · exact hb
    · cases e
  · split at h0
    · rename_i hord hble
      have hk : h.next + ops.size ≤ most := by simpa using hble
      have H1 := HR.room (n := N.n) (g := N.g) H ops.size hk
      have H2 := layAll_HR (base := h.next) (k := ops.size) (fun i hi => .inr ⟨by omega, by omega⟩) (guess P C (makersWait ops.toList (preds ops.toList)) h.next ops.toList 0 ops.toList a { h with next := h.next + ops.size }) _ H1 hk (fun i hi r hr => by
        have := H.cover _ _ hr
        omega)
      refine drawn_wp (mk := true) (base := h.next) (N := N) W HC hord (fun _ b hb => (H.gho b hb).2) (H2.less (fun b hb => ?_)) A (by simpa using h0) hQ
      rcases hb with hb | ⟨_, i, o, e1, e2, _, _⟩
      · exact .inl hb
      · have : i < ops.size := (Array.getElem?_eq_some_iff.1 e2).1
        exact .inr ⟨by omega, by omega⟩
    · cases h0

end Go.Ev

namespace Go.Ev
open Go.RowKit
variable {P : Program} {ρ : Rho} {N : Bs} {h : Hp} {w : World} {a : A} {act : Act} {C : Caller}

def Ex.to : Ex → Exit
  | .normal => .normal
  | .exit id => .exit id
  | .ret => .ret

theorem code_both (W : WfP P) (HC : CallerOk P C) : ∀ (n : Nat),
    (∀ (c : Code) (ρ : Rho) (h : Hp) (w : World) (a : Ev.A) (act : Act) (e : Ex) (a1 : Ev.A) (h1 : Hp), HR P ρ N h w → ActR ρ a act → code' P C n c a h = some (e, a1, h1) →
      ∀ Q : Exit → Act → World → Prop, (∀ ρ1 w1 act1, ρ.le ρ1 → ActR ρ1 a1 act1 → HR P ρ1 N h1 w1 → Below N w w1 → Q e.to act1 w1) → c.wp P Q act w) ∧
    (∀ (c : Code) (ρ : Rho) (h : Hp) (w : World) (a : Ev.A) (act : Act) (e : Ex) (a1 : Ev.A) (h1 : Hp), HR P ρ N h w → ActR ρ a act → code' P C n (.loop c) a h = some (e, a1, h1) →
      ∀ Q : Exit → Act → World → Prop, (∀ ρ1 w1 act1, ρ.le ρ1 → ActR ρ1 a1 act1 → HR P ρ1 N h1 w1 → Below N w w1 → Q e.to act1 w1) → Code.rounds P c Q n act w) := by
  intro n
  induction n with
  | zero =>
    refine ⟨?_, ?_⟩ <;> intro c ρ h w a act e a1 h1 H A hc <;> simp [code'] at hc
  | succ n ih =>
    have L : ∀ (c : Code) (ρ : Rho) (h : Hp) (w : World) (a : Ev.A) (act : Act) (e : Ex) (a1 : Ev.A) (h1 : Hp), HR P ρ N h w → ActR ρ a act → code' P C (n + 1) (.loop c) a h = some (e, a1, h1) →
        ∀ Q : Exit → Act → World → Prop, (∀ ρ1 w1 act1, ρ.le ρ1 → ActR ρ1 a1 act1 → HR P ρ1 N h1 w1 → Below N w w1 → Q e.to act1 w1) → Code.rounds P c Q (n + 1) act w := by
      intro c ρ h w a act e a1 h1 H A hc Q hQ
      rw [rounds_succ]
      simp only [code'] at hc
      split at hc
      · rename_i a2 h2 hb
        refine ih.1 c ρ h w a act .normal a2 h2 H A hb _ (fun ρ1 w1 act1 r1 r2 r3 r4 => ?_)
        exact ih.2 c ρ1 h2 w1 a2 act1 e a1 h1 r3 r2 hc Q (fun ρ2 w2 act2 s1 s2 s3 s4 => hQ ρ2 w2 act2 (Rho.le_trans r1 s1) s2 s3 (r4.trans s4))
      · rename_i hne
        refine ih.1 c ρ h w a act e a1 h1 H A hc _ (fun ρ1 w1 act1 r1 r2 r3 r4 => ?_)
        cases e with
        | normal => exact absurd hc (hne a1 h1)
        | exit id => exact hQ ρ1 w1 act1 r1 r2 r3 r4
        | ret => exact hQ ρ1 w1 act1 r1 r2 r3 r4
    refine ⟨?_, L⟩
    intro c ρ h w a act e a1 h1 H A hc Q hQ
    cases c with
    | skip =>
      simp only [code', Option.some.injEq, Prod.mk.injEq] at hc
      obtain ⟨rfl, rfl, rfl⟩ := hc
      exact wp_skip (hQ ρ w act (Rho.le_refl ρ) A H (Below.refl _ _))
    | label l =>
      simp only [code', Option.some.injEq, Prod.mk.injEq] at hc
      obtain ⟨rfl, rfl, rfl⟩ := hc
      exact wp_label (hQ ρ w act (Rho.le_refl ρ) A H (Below.refl _ _))
    | region id ops d =>
      cases d with
      | false =>
        simp only [code'] at hc
        split at hc
        · rename_i a2 h2 hs
          simp only [Option.some.injEq, Prod.mk.injEq] at hc
          obtain ⟨rfl, rfl, rfl⟩ := hc
          refine wp_region ?_
          have := ops_wp (N := N) W HC (ops := ops) (Q := Q) ops.toList [] (by simp) H A hs (fun ρ1 w1 act1 r1 r2 r3 r4 => hQ ρ1 w1 act1 r1 r2 r3 r4)
          simpa [List.range_eq_range'] using this
        · cases hc
      | true =>
        simp only [code'] at hc
        split at hc
        · rename_i a2 h2 hs
          simp only [Option.some.injEq, Prod.mk.injEq] at hc
          obtain ⟨rfl, rfl, rfl⟩ := hc
          exact draw_wp W HC H A hs (fun ρ1 w1 act1 r1 r2 r3 r4 => hQ ρ1 w1 act1 r1 r2 r3 r4)
        · cases hc
    | seq x y =>
      simp only [code'] at hc
      refine wp_seq ?_
      split at hc
      · rename_i a2 h2 hb
        refine ih.1 x ρ h w a act .normal a2 h2 H A hb _ (fun ρ1 w1 act1 r1 r2 r3 r4 => ?_)
        exact ih.1 y ρ1 h2 w1 a2 act1 e a1 h1 r3 r2 hc Q (fun ρ2 w2 act2 s1 s2 s3 s4 => hQ ρ2 w2 act2 (Rho.le_trans r1 s1) s2 s3 (r4.trans s4))
      · rename_i hne
        refine ih.1 x ρ h w a act e a1 h1 H A hc _ (fun ρ1 w1 act1 r1 r2 r3 r4 => ?_)
        cases e with
        | normal => exact absurd hc (hne a1 h1)
        | exit id => exact hQ ρ1 w1 act1 r1 r2 r3 r4
        | ret => exact hQ ρ1 w1 act1 r1 r2 r3 r4
    | cond x t f =>
      simp only [code'] at hc
      split at hc
      · rename_i hx
        have hv := A.ev hx
        generalize hcv : act.eval x = cv at hv
        cases hv with
        | bool b => exact wp_cond_true hcv (ih.1 t ρ h w a act e a1 h1 H A hc Q hQ)
      · rename_i hx
        have hv := A.ev hx
        generalize hcv : act.eval x = cv at hv
        cases hv with
        | bool b => exact wp_cond_false hcv (ih.1 f ρ h w a act e a1 h1 H A hc Q hQ)
      · cases hc
    | block id b =>
      simp only [code'] at hc
      refine wp_block ?_
      split at hc
      · rename_i j a2 h2 hb
        refine ih.1 b ρ h w a act (.exit j) a2 h2 H A hb _ (fun ρ1 w1 act1 r1 r2 r3 r4 => ?_)
        split at hc
        · rename_i hj
          have hj := nbeq_true hj
          simp only [Option.some.injEq, Prod.mk.injEq] at hc
          obtain ⟨rfl, rfl, rfl⟩ := hc
          simp only [Ex.to, Exit.inBlock, hj, if_true]
          exact hQ ρ1 w1 act1 r1 r2 r3 r4
        · rename_i hj
          have hj' : j ≠ id := by
            intro e
            subst e
            simp at hj
          simp only [Option.some.injEq, Prod.mk.injEq] at hc
          obtain ⟨rfl, rfl, rfl⟩ := hc
          simp only [Ex.to, Exit.inBlock, hj', if_false]
          exact hQ ρ1 w1 act1 r1 r2 r3 r4
      · rename_i hne
        refine ih.1 b ρ h w a act e a1 h1 H A hc _ (fun ρ1 w1 act1 r1 r2 r3 r4 => ?_)
        cases e with
        | normal => exact hQ ρ1 w1 act1 r1 r2 r3 r4
        | exit id => exact absurd hc (hne id a1 h1)
        | ret => exact hQ ρ1 w1 act1 r1 r2 r3 r4
    | loop b => exact wp_loop_rounds (n + 1) (L b ρ h w a act e a1 h1 H A hc Q hQ)
    | scope b =>
      simp only [code'] at hc
      refine wp_scope_straight ?_
      refine ih.1 b ρ h w a act e a1 h1 H A hc _ (fun ρ1 w1 act1 r1 r2 r3 r4 => ?_)
      cases e with
      | normal => exact hQ ρ1 w1 act1 r1 r2 r3 r4
      | exit id => exact hQ ρ1 w1 act1 r1 r2 r3 r4
      | ret => exact hQ ρ1 w1 act1 r1 r2 r3 r4
    | exit id =>
      simp only [code', Option.some.injEq, Prod.mk.injEq] at hc
      obtain ⟨rfl, rfl, rfl⟩ := hc
      exact wp_exit (hQ ρ w act (Rho.le_refl ρ) A H (Below.refl _ _))
    | ret =>
      simp only [code', Option.some.injEq, Prod.mk.injEq] at hc
      obtain ⟨rfl, rfl, rfl⟩ := hc
      exact wp_ret (hQ ρ w act (Rho.le_refl ρ) A H (Below.refl _ _))
    | _ => simp [code'] at hc

/-! ### a call -/
theorem argsOf_get {ρ : Rho} : ∀ {l l' : List Value} (i : Nat) (t : Tr Value), VRs ρ l l' → i + l.length < most → ∀ k,
    (i ≤ k → k < i + l.length → ∃ v v', (argsOf l i t).get k = some v ∧ l'[k - i]? = some v' ∧ VR ρ v v') ∧ (k < i ∨ i + l.length ≤ k → (argsOf l i t).get k = t.get k)
  | [], _, i, t, .nil, hi, k => by
    refine ⟨fun h1 h2 => by simp at h2; omega, fun _ => rfl⟩
  | v :: l, _, i, t, .cons (v' := v') (l' := l') hv hl, hi, k => by
    simp only [List.length_cons] at hi
    have rec' := argsOf_get (i + 1) (Tr.set depth t i v) hl (by omega) k
    simp only [argsOf]
    constructor
    · intro h1 h2
      simp only [List.length_cons] at h2
      by_cases e : k = i
      · subst e
        rw [rec'.2 (.inl (by omega)), Tr.get_set' _ _ _ _ (by omega)]
        exact ⟨v, v', by simp, by simp, hv⟩
      · obtain ⟨u, u', r1, r2, r3⟩ := rec'.1 (by omega) (by omega)
        refine ⟨u, u', r1, ?_, r3⟩
        rw [show k - i = (k - (i + 1)) + 1 by omega, List.getElem?_cons_succ]
        exact r2
    · intro h0
      simp only [List.length_cons] at h0
      rw [rec'.2 (by omega), Tr.get_set' _ _ _ _ (by omega), if_neg (by omega)]

theorem act_enter {ρ : Rho} {args args' : List Value} {n : Nat} (hA : VRs ρ args args') (h1 : args.length ≤ n) (h2 : n < most) :
    ActR ρ ⟨argsOf args 0 .lf, n⟩ { tmps := args'.toArray ++ Array.replicate (n - args'.toArray.size) undef, defers := [] } := by
  have hl := hA.length
  refine ⟨fun t => ?_, by simp; omega, rfl, h2⟩
  have := argsOf_get 0 (.lf : Tr Value) hA (by omega) t
  simp only [A.get, Nat.zero_add] at this ⊢
  by_cases ht : t < args.length
  · obtain ⟨v, v', r1, r2, r3⟩ := this.1 (by omega) ht
    rw [r1]
    simp only [Nat.sub_zero] at r2
    have ht' : t < args'.length := by omega
    have : (args'.toArray ++ Array.replicate (n - args'.toArray.size) undef).getD t undef = v' := by
      rw [Array.getD_eq_getD_getElem?, Array.getElem?_append_left (by simpa using ht')]
      simp [r2]
    rw [this]
    exact r3
  · rw [this.2 (.inr (by omega)), Tr.get_lf]
    have : (args'.toArray ++ Array.replicate (n - args'.toArray.size) undef).getD t undef = undef := by
      rw [Array.getD_eq_getD_getElem?, Array.getElem?_append_right (by simp; omega)]
      rw [Array.getElem?_replicate]
      split <;> rfl
    rw [this]
    exact .tuple .nil

theorem result_run (H : HR P ρ N h w) (A : ActR ρ a act) {r : ResultVar} {v : Value} (hv : result' P h a r = some v) :
    ∃ v', ((match r with | .tmp t => pure (act.tmps.getD t undef) | .cell a t => do loadVar t (← asAddr (act.tmps.getD a undef)) : Sem Value)).run P w = .ok v' w ∧ VR ρ v v' := by
  cases r with
  | tmp t =>
    simp only [result', Option.some.injEq] at hv
    subst hv
    exact ⟨_, by simp, A.get t⟩
  | cell t ty =>
    simp only [result'] at hv
    split at hv
    · rename_i p hp
      have := A.get t
      rw [hp] at this
      generalize hcv : act.tmps.getD t undef = cv at this
      cases this with
      | ptr ha =>
        obtain ⟨v', h1, h2⟩ := loadVar_run H ha hv
        refine ⟨v', ?_, h2⟩
        simp only [hcv]
        simp [asAddr, h1]
    · cases hv

theorem results_run (H : HR P ρ N h w) (A : ActR ρ a act) : ∀ {l : List ResultVar} {vs : List Value}, results' P h a l = some vs →
    ∃ vs', (l.mapM (fun | .tmp t => pure (act.tmps.getD t undef) | .cell a t => do loadVar t (← asAddr (act.tmps.getD a undef)) : ResultVar → Sem Value)).run P w = .ok vs' w ∧ VRs ρ vs vs'
  | [], vs, hv => by
    simp only [results', Option.some.injEq] at hv
    subst hv
    exact ⟨[], by simp, .nil⟩
  | r :: l, vs, hv => by
    simp only [results'] at hv
    split at hv
    · rename_i v r' hv1 hr
      injection hv with hv
      subst hv
      obtain ⟨v', e1, e2⟩ := result_run H A hv1
      obtain ⟨vs', f1, f2⟩ := results_run H A hr
      refine ⟨v' :: vs', ?_, .cons e2 f2⟩
      rw [List.mapM_cons]
      simp only [Sem.run_bind]
      erw [e1]
      simp only [Result.andThen_ok]
      erw [f1]
      simp
    · cases hv

theorem call_ok (W : WfP P) : ∀ n, CallerOk P (call' P n)
  | 0 => by intro f args h v h1 hv; simp [call'] at hv
  | n + 1 => by
    intro f args h v h1 hv
    simp only [call'] at hv
    split at hv
    · cases hv
    · rename_i fn hf
      split at hv
      · cases hv
      · rename_i c hb
        split at hv
        · rename_i hlen hmost hname
          refine ⟨⟨fn, c, hf, hb, hname⟩, ?_⟩
          intro ρ N w args' H hA
          have h1' : args.length ≤ fn.ntmps := by simpa using hlen
          have h2' : fn.ntmps < most := by simpa [Nat.blt_eq] using hmost
          have A := act_enter hA h1' h2'
          refine calls_of_wp hf hb ?_
          have fin : ∀ (e : Ex) (a1 : Ev.A) (h2 : Hp), code' P (call' P n) 20000 c ⟨argsOf args 0 .lf, fn.ntmps⟩ h = some (e, a1, h2) → (e.to = .normal ∨ e.to = .ret) →
              (match results' P h2 a1 fn.results.toList with | some [v] => some (v, h2) | some vs => some (.tuple vs.toArray, h2) | none => none) = some (v, h1) →
              c.wp P (bodyPost P fn fun e w1 => ∃ ρ1 v', e = .returned v' ∧ ρ.le ρ1 ∧ HR P ρ1 N h1 w1 ∧ VR ρ1 v v' ∧ Below N w w1) { tmps := args'.toArray ++ Array.replicate (fn.ntmps - args'.toArray.size) undef, defers := [] } w := by
            intro e a1 h2 hc he hr
            refine (code_both (N := N) W (call_ok W n) 20000).1 c ρ h w _ _ e a1 h2 H A hc _ (fun ρ1 w1 act1 r1 r2 r3 r4 => ?_)
            have key : act1.defers = [] ∧ ∃ v', (results fn act1.tmps).run P w1 = .ok v' w1 ∧ ∃ ρ1 v'', Ending.returned v' = .returned v'' ∧ ρ.le ρ1 ∧ HR P ρ1 N h1 w1 ∧ VR ρ1 v v'' ∧ Below N w w1 := by
              refine ⟨r2.defers, ?_⟩
              cases hrs : results' P h2 a1 fn.results.toList with
              | none => rw [hrs] at hr; cases hr
              | some vs =>
                rw [hrs] at hr
                obtain ⟨vs', f1, f2⟩ := results_run r3 r2 hrs
                have hl := f2.length
                have harr : ((fn.results.mapM (fun | .tmp t => pure (act1.tmps.getD t undef) | .cell a t => do loadVar t (← asAddr (act1.tmps.getD a undef)) : ResultVar → Sem Value))).run P w1 = .ok vs'.toArray w1 := by
                  rw [Array.mapM_eq_mapM_toList, Sem.run_map]
                  erw [f1]
                  rfl
                unfold results
                simp only [Sem.run_bind]
                erw [harr]
                simp only [Result.andThen_ok]
                cases f2 with
                | nil =>
                  simp only [Option.some.injEq, Prod.mk.injEq] at hr
                  obtain ⟨rfl, rfl⟩ := hr
                  exact ⟨_, by simp, ρ1, _, rfl, r1, r3, .tuple .nil, r4⟩
                | @cons u u' l l' hu hl2 =>
                  cases hl2 with
                  | nil =>
                    simp only [Option.some.injEq, Prod.mk.injEq] at hr
                    obtain ⟨rfl, rfl⟩ := hr
                    exact ⟨_, by simp, ρ1, _, rfl, r1, r3, hu, r4⟩
                  | @cons u2 u2' l2 l2' hu2 hl3 =>
                    simp only [Option.some.injEq, Prod.mk.injEq] at hr
                    obtain ⟨rfl, rfl⟩ := hr
                    exact ⟨.tuple (u' :: u2' :: l2').toArray, by simp, ρ1, _, rfl, r1, r3, .tuple (.cons hu (.cons hu2 hl3)), r4⟩
            rcases he with he | he <;> rw [he] <;> exact key
          split at hv
          · cases hv
          · rename_i e a1 h2 hne hc
            cases e with
            | normal => exact fin .normal a1 h2 hc (.inl rfl) hv
            | exit id => first | exact absurd rfl (hne id) | exact (hne id rfl).elim
            | ret => exact fin .ret a1 h2 hc (.inr rfl) hv
          · cases hv
        · cases hv

theorem HR.start (P : Program) (w : World) : HR P (fun _ => none) ⟨w.heap.size, fun _ => False⟩ Hp.nil w := by
  refine ⟨?_, ?_, ?_, ?_, ?_, ?_, ?_, ?_, ?_, ?_, Nat.le_refl _, fun _ hb => hb.elim⟩ <;> simp [Hp.nil, Tr.get_lf, most]

/-- A closed call. -/
theorem closed_call (W : WfP P) {n : Nat} {f : FuncId} {b : Bool} {h1 : Hp} (hc : call' P n f [] Hp.nil = some (.bool b, h1)) (w : World) :
    Calls P f #[] w fun e w1 => e = .returned (.bool b) ∧ Below w.heap.size w w1 := by
  refine ((call_ok W n f [] Hp.nil _ h1 hc).2 (fun _ => none) ⟨w.heap.size, fun _ => False⟩ w [] (HR.start P w) .nil).mono ?_
  rintro e w1 ⟨ρ1, v', rfl, _, _, r3, r4⟩
  cases r3
  exact ⟨rfl, r4⟩

/-- Said as a Boolean, for the kernel. -/
def truly (P : Program) (n : Nat) (f : FuncId) : Bool := match call' P n f [] Hp.nil with
  | some (.bool true, _) => true
  | _ => false

theorem closed_true (W : WfP P) {n : Nat} {f : FuncId} (hc : truly P n f = true) (w : World) :
    Calls P f #[] w fun e w1 => e = .returned (.bool true) ∧ Below w.heap.size w w1 := by
  unfold truly at hc
  split at hc
  · rename_i h1 hh
    exact closed_call W hh w
  · cases hc

end Go.Ev

namespace Go.Ev

theorem wfp_of {P : Program} (h0 : P.follows .mixedOrders = true) : WfP P := ⟨h0⟩

end Go.Ev
