/- An evaluator of the loaded code over a heap of its own, and the proof that what it reckons is what the machine does. Part 2 of 4. -/
import Derived.Test.YtmkpkmijbpnjjaaGreatDoorEv0
set_option linter.unusedVariables false
set_option linter.unusedSimpArgs false

namespace Go.Ev
open Go.RowKit
variable {P : Program} {ρ : Rho} {N : Bs} {h : Hp} {w : World} {a : A} {act : Act}

structure ActR (ρ : Rho) (a : A) (act : Act) : Prop where
  get : ∀ t, VR ρ (a.get t) (act.tmps.getD t undef)
  size : act.tmps.size = a.n
  defers : act.defers = []
  n : a.n < most

theorem ActR.mono {ρ' : Rho} (hr : ρ.le ρ') (h : ActR ρ a act) : ActR ρ' a act := ⟨fun t => (h.get t).mono hr, h.size, h.defers, h.n⟩

theorem ActR.ev (h : ActR ρ a act) {x : Operand} {v : Value} (hv : a.ev x = some v) : VR ρ v (act.eval x) := by
  cases x with
  | tmp t => simp only [A.ev, Option.some.injEq] at hv; subst hv; exact h.get t
  | const u =>
    simp only [A.ev] at hv
    split at hv
    · rename_i hp
      injection hv with hv
      subst hv
      exact plain_VR _ _ hp
    · cases hv
  | global g => simp [A.ev] at hv
  | func f => simp only [A.ev, Option.some.injEq] at hv; subst hv; exact .func .nil .nil

theorem ActR.put (h : ActR ρ a act) {d : Option Nat} {v v' : Value} (hv : VR ρ v v') {a1 : A} (ha : a.put d v = some a1) : ActR ρ a1 (act.put d v') := by
  cases d with
  | none => simp only [A.put, Option.some.injEq] at ha; subst ha; exact h
  | some d =>
    simp only [A.put] at ha
    split at ha
    · rename_i hlt
      injection ha with ha
      subst ha
      have hlt' : d < a.n := by simpa [Nat.blt_eq] using hlt
      refine ⟨fun t => ?_, by simp [Act.put, h.size], h.defers, h.n⟩
      have hset := Tr.get_set' a.tmps d v t (by have := h.n; omega)
      unfold A.get
      simp only [hset]
      by_cases e : t = d
      · subst e
        have : t < act.tmps.size := by rw [h.size]; exact hlt'
        simpa [Act.put, Array.getD_eq_getD_getElem?, Array.getElem?_setIfInBounds_self_of_lt this] using hv
      · rw [if_neg e]
        have := h.get t
        unfold A.get at this
        simpa [Act.put, Array.getD_eq_getD_getElem?, Array.getElem?_setIfInBounds_ne (Ne.symm e)] using this
    · cases ha

theorem ActR.evList (h : ActR ρ a act) : ∀ {xs : List Operand} {l : List Value}, evList a xs = some l → VRs ρ l (xs.map act.eval)
  | [], l, hl => by simp only [Go.Ev.evList, Option.some.injEq] at hl; subst hl; exact .nil
  | x :: xs, l, hl => by
    simp only [Go.Ev.evList] at hl
    split at hl
    · rename_i v r hv hr
      injection hl with hl
      subst hl
      exact .cons (h.ev hv) (h.evList hr)
    · cases hl

inductive PRs (ρ : Rho) : List (Nat × Value) → List (Nat × Value) → Prop
  | nil : PRs ρ [] []
  | cons {i : Nat} {v v' : Value} {l l' : List (Nat × Value)} (h : VR ρ v v') (k : PRs ρ l l') : PRs ρ ((i, v) :: l) ((i, v') :: l')

theorem ActR.evPairs (h : ActR ρ a act) : ∀ {xs : List (Nat × Operand)} {l : List (Nat × Value)}, evPairs a xs = some l → PRs ρ l (xs.map fun p => (p.1, act.eval p.2))
  | [], l, hl => by simp only [Go.Ev.evPairs, Option.some.injEq] at hl; subst hl; exact .nil
  | (i, x) :: xs, l, hl => by
    simp only [Go.Ev.evPairs] at hl
    split at hl
    · rename_i v r hv hr
      injection hl with hl
      subst hl
      exact .cons (h.ev hv) (h.evPairs hr)
    · cases hl

/-! ### build -/
theorem foldl_over (off : Nat) : ∀ (vs : List Value) (k : Nat) (cs : Array Value),
    (vs.zipIdx k).foldl (fun cs (x : Value × Nat) => cs.setIfInBounds (off + x.2) x.1) cs = over cs (off + k) vs
  | [], _, _ => rfl
  | v :: vs, k, cs => by
    simp only [List.zipIdx_cons, List.foldl_cons, over]
    rw [foldl_over off vs (k + 1)]
    rfl

theorem over_VRs {c c' vs vs' : List Value} (hc : VRs ρ c c') (hv : VRs ρ vs vs') {off : Nat} {c1 : List Value} (hs : splice c off vs = some c1) :
    off + vs'.length ≤ c'.length ∧ VRs ρ c1 (over c'.toArray off vs').toList := by
  obtain ⟨h1, h2, h3⟩ := splice_spec _ _ _ _ hs
  have l1 := hc.length
  have l2 := hv.length
  refine ⟨by omega, VRs.of_get (by rw [Array.length_toList, over_size]; simp; omega) fun k v hk => ?_⟩
  rw [h3] at hk
  have hg := over_get vs' c'.toArray off (by simp; omega) k
  by_cases hr : off ≤ k ∧ k < off + vs.length
  · rw [if_pos hr] at hk
    rw [if_pos (by omega)] at hg
    obtain ⟨v', e1, e2⟩ := hv.get hk
    exact ⟨v', by simpa [e1] using hg, e2⟩
  · rw [if_neg hr] at hk
    rw [if_neg (by omega)] at hg
    obtain ⟨v', e1, e2⟩ := hc.get hk
    exact ⟨v', by simpa [e1] using hg, e2⟩

theorem fill_run {place place' : Nat → Option (Nat × Nat)} (hp : ∀ i p, place i = some p → place' i = some p) : ∀ {ps ps' : List (Nat × Value)}, PRs ρ ps ps' → ∀ {c c1 : List Value} {c' : Array Value}, fill' place c ps = some c1 → VRs ρ c c'.toList →
    ∃ c1', Instr.fill place' c' ps' = some c1' ∧ VRs ρ c1 c1'.toList := by
  intro ps ps' hps
  induction hps with
  | nil =>
    intro c c1 c' hf hc
    simp only [fill', Option.some.injEq] at hf
    subst hf
    exact ⟨c', rfl, hc⟩
  | @cons i v v' l l' hv hl ih =>
    intro c c1 c' hf hc
    simp only [fill'] at hf
    split at hf
    · cases hf
    · rename_i off size hpl
      split at hf
      · cases hf
      · rename_i hsz
        split at hf
        · rename_i c2 hs
          have hcl := hv.cells.length
          obtain ⟨h1, h2⟩ := over_VRs hc hv.cells hs
          obtain ⟨c1', h3, h4⟩ := ih hf (by simpa using h2)
          refine ⟨c1', ?_, h4⟩
          have hsz' : v'.cells.size = size := by
            rw [← Array.length_toList, hcl]
            exact nbeq_true hsz
          have hle : ¬ (off + v'.cells.size > c'.size) := by
            rw [← Array.length_toList (xs := c'), ← Array.length_toList (xs := v'.cells)]
            omega
          simp only [Instr.fill, hp _ _ hpl]
          rw [if_neg (by simp [hsz']; rw [hsz'] at hle; omega)]
          have hfold : v'.cells.zipIdx.foldl (fun cs (x : Value × Nat) => cs.setIfInBounds (off + x.2) x.1) c' = over c' off v'.cells.toList := by
            rw [← Array.foldl_toList, Array.toList_zipIdx]
            have := foldl_over off v'.cells.toList 0 c'
            simpa using this
          have hfold' : v'.cells.zipIdx.foldl (fun cs (c, j) => cs.setIfInBounds (off + j) c) c' = over c' off v'.cells.toList := hfold
          rw [hfold']
          simpa using h3
        · cases hf

theorem places_run (W : WfP P) {fs : Array Field} (hf : ∀ f ∈ fs.toList, ∃ i, P.info? f.type = some i) :
    (fs.mapM fun f => do pure (f.offset, ← sizeOf f.type) : Sem (Array (Nat × Nat))).run P w = .ok (fs.map fun f => (f.offset, P.cellsOf f.type)) w := by
  rw [Array.mapM_eq_mapM_toList]
  have aux : ∀ l : List Field, (∀ f ∈ l, ∃ i, P.info? f.type = some i) → (l.mapM fun f => do pure (f.offset, ← sizeOf f.type) : Sem (List (Nat × Nat))).run P w = .ok (l.map fun f => (f.offset, P.cellsOf f.type)) w := by
    intro l
    induction l with
    | nil => intro _; simp
    | cons f l ih =>
      intro hl
      obtain ⟨i, hi⟩ := hl f (by simp)
      have h1 : (sizeOf f.type).run P w = .ok (P.cellsOf f.type) w := run_sizeOf w hi
      simp only [List.mapM_cons, Sem.run_bind, h1, Result.andThen_ok, Sem.run_pure]
      rw [ih (fun f hf => hl f (by simp [hf]))]
      simp
  rw [Sem.run_map, aux _ hf]
  simp only [Result.andThen_ok, List.map_toArray]
  congr 1
  apply Array.ext'
  simp

theorem build_run (W : WfP P) {t : TypeId} {ps : List (Nat × Value)} {ps' : Array (Nat × Value)} (hps : PRs ρ ps ps'.toList) {v : Value} (hv : build' P t ps = some v) :
    ∃ v', (Instr.build t ps').run P w = .ok v' w ∧ VR ρ v v' := by
  unfold build' at hv
  split at hv
  · cases hv
  · rename_i z hz
    obtain ⟨hzr, hzv⟩ := zero_run (w := w) (ρ := ρ) hz
    split at hv
    · rename_i fields hu
      split at hv
      case h_2 => cases hv
      rename_i hall
      rw [List.all_eq_true] at hall
      split at hv
      · rename_i c hc
        injection hv with hv
        subst hv
        obtain ⟨c', h1, h2⟩ := fill_run (place' := fun i => (fields.map fun f => (f.offset, P.cellsOf f.type))[i]?) (fun i p hp => by
          split at hp
          · rename_i f hf
            split at hp
            · rename_i s hs
              have := (size_some (w := w) hs).2
              injection hp with hp
              subst hp
              have hf' : fields[i]? = some f := by simpa using hf
              simp [hf', this]
            · cases hp
          · cases hp) hps hc hzv.cells
        refine ⟨.agg c', ?_, .agg h2⟩
        simp only [Instr.build, Sem.run_bind, hzr, Result.andThen_ok, run_und hu, places_run W (fun f hf => Option.isSome_iff_exists.1 (hall f hf))]
        rw [h1]
        simp
      · cases hv
    · rename_i n e hu
      split at hv
      · rename_i s hs
        split at hv
        · rename_i c hc
          injection hv with hv
          subst hv
          obtain ⟨c', h1, h2⟩ := fill_run (place' := fun i => some (i * s, s)) (fun i p hp => hp) hps hc hzv.cells
          refine ⟨.agg c', ?_, .agg h2⟩
          simp only [Instr.build, Sem.run_bind, hzr, Result.andThen_ok, run_und hu, (size_some (w := w) hs).1]
          rw [h1]
          simp
        · cases hv
      · cases hv
    · cases hv

/-! ### load -/
theorem loadVar_run (H : HR P ρ N h w) {t : TypeId} {p p' : Addr} {i : Img} (hp : AR ρ p p' i) {v : Value} (hv : loadVar' P h t p = some v) :
    ∃ v', (loadVar t p').run P w = .ok v' w ∧ VR ρ v v' := by
  unfold loadVar' at hv
  cases hu : P.underlying t with
  | none => rw [hu] at hv; cases hv
  | some d =>
    have agg : ∀ j, P.info? t = some j → (∀ w, (isAgg t).run P w = .ok true w) → ∀ l, h.loads p j.size = some l → v = Value.agg l.toArray → ∃ v', (loadVar t p').run P w = .ok v' w ∧ VR ρ v v' := by
      intro j hj ha l hl e
      subst e
      obtain ⟨l', h1, h2, _⟩ := H.loads (.inr ⟨i, hp⟩) hl
      exact ⟨.agg l', by simp [loadVar, ha, run_size hj, h1], .agg (by simpa using h2)⟩
    have cell : (∀ w, (isAgg t).run P w = .ok false w) → h.load p = some v → ∃ v', (loadVar t p').run P w = .ok v' w ∧ VR ρ v v' := by
      intro ha e
      obtain ⟨v', h1, h2⟩ := H.load hp e
      exact ⟨v', by simp only [loadVar, Sem.run_bind, ha, Result.andThen_ok, Bool.false_eq_true, if_false, run_load_cell h1], h2⟩
    rw [hu] at hv
    cases d <;> simp only [] at hv <;> first
      | exact cell (fun w => by simp [isAgg, run_und hu]) hv
      | (split at hv
         · rename_i j hj
           split at hv
           · rename_i l hl
             injection hv with hv
             exact agg j hj (fun w => by simp [isAgg, run_und hu]) l hl hv.symm
           · cases hv
         · cases hv)

end Go.Ev

namespace Go.Ev
open Go.RowKit
variable {P : Program} {ρ : Rho} {N : Bs} {h : Hp} {w : World} {a : A} {act : Act}

theorem natOf_VR {x x' : Value} (hx : VR ρ x x') {n : Nat} (hn : natOf x = some n) : ∃ k, x' = .int k n := by
  unfold natOf at hn
  split at hn
  · injection hn with hn
    subst hn
    cases hx
    exact ⟨_, rfl⟩
  · cases hn

/-- An index that may be left out. -/
inductive OVR (ρ : Rho) : Option Value → Option Value → Prop
  | none : OVR ρ none none
  | some {v v' : Value} (h : VR ρ v v') : OVR ρ (some v) (some v')

theorem bound_run {v v' : Value} (hv : VR ρ v v') {d top n : Nat} (hb : bound' (some v) d top = some n) (top' : Nat) (ht : top ≤ top') (code : BoundsCode) :
    (Instr.sliceBound v' top' code).run P w = .ok n w ∧ n ≤ top := by
  unfold bound' at hb
  split at hb
  · rename_i e; cases e
  · rename_i k m e
    injection e with e
    subst e
    cases hv
    split at hb
    · rename_i hle
      injection hb with hb
      subst hb
      have : m ≤ top := by simpa using hle
      refine ⟨?_, this⟩
      have hc : (0 : Int) ≤ (m : Int) ∧ (m : Int) ≤ (top' : Int) := by omega
      simp only [Instr.sliceBound, asIntOf, Sem.run_bind, Sem.run_pure, Result.andThen_ok, Sem.run_ite]
      rw [if_pos (by exact hc)]
      simp
    · cases hb
  · cases hb

theorem size_data (s : ByteArray) : s.size = s.data.toList.length := by rw [Array.length_toList]; rfl

theorem extract_eq (s : ByteArray) (l hh : Nat) : s.extract l hh = ⟨((s.data.toList.take hh).drop l).toArray⟩ := by
  rw [ByteArray.ext_iff, ByteArray.data_extract]
  apply Array.ext'
  rw [Array.toList_extract, List.extract_eq_take_drop]
  simp [List.drop_take]

/-- Low and high, as the machine asks them. -/
theorem bounds_run {isS : Bool} {len cap cap' : Nat} {lo hi lo' hi' : Option Value} (hlo : OVR ρ lo lo') (hhi : OVR ρ hi hi')
    (hc : cap ≤ cap') (hlen : len ≤ cap) {hh l : Nat} (h1 : bound' hi len cap = some hh) (h2 : bound' lo 0 hh = some l) :
    (Instr.sliceBounds isS len cap' lo' hi' none).run P w = .ok (l, hh, cap') w ∧ l ≤ hh ∧ hh ≤ cap := by
  cases hhi with
  | none =>
    simp only [bound', Option.some.injEq] at h1
    subst h1
    cases hlo with
    | none =>
      simp only [bound', Option.some.injEq] at h2
      subst h2
      exact ⟨by simp [Instr.sliceBounds], by omega, hlen⟩
    | some hl =>
      have r := bound_run (P := P) (w := w) hl h2 len (Nat.le_refl _) .sliceB
      exact ⟨by simp [Instr.sliceBounds, r.1], r.2, hlen⟩
  | some hhv =>
    have q := fun code => bound_run (P := P) (w := w) hhv h1 cap' hc code
    cases hlo with
    | none =>
      simp only [bound', Option.some.injEq] at h2
      subst h2
      exact ⟨by simp [Instr.sliceBounds, (q _).1], by omega, (q .sliceB).2⟩
    | some hl =>
      have r := bound_run (P := P) (w := w) hl h2 hh (Nat.le_refl _) .sliceB
      exact ⟨by simp [Instr.sliceBounds, (q _).1, r.1], r.2, (q .sliceB).2⟩

theorem AR.add_zero {p p' : Addr} {i : Img} (hp : AR ρ p p' i) : AR ρ (p.add 0) p' i := by simpa [Addr.add] using hp

/-- What a cut of a slice is, here and there. -/
theorem cut_VR {p p' : Addr} {i : Img} (hp : AR ρ p p' i) {c c' l hh sz : Nat} (hc : CapOk i p.off c c') (h1 : l ≤ hh) (h2 : hh ≤ c) (hz : c' ≠ c → i.z = sz) :
    VR ρ (.slice (some (p.add (l * sz))) (hh - l) (c - l)) (.slice (if c' = l then some p' else some (p'.add (l * sz))) (hh - l) (c' - l)) := by
  by_cases hl : c' = l
  · have hcc : c ≤ c' := by rcases hc with h | h <;> omega
    have e1 : hh - l = 0 := by omega
    have e2 : c - l = 0 := by omega
    have e3 : c' - l = 0 := by omega
    rw [if_pos hl, e1, e2, e3]
    exact .slZero _ _ (i := i) (show ρ (Addr.add p _).block = some i by rw [add_block]; exact hp.2.1)
  · rw [if_neg hl]
    refine .sl (hp.add _) ?_
    rcases hc with rfl | ⟨he, hcc, hm⟩
    · exact .inl rfl
    · by_cases hcc' : c' = c
      · exact .inl (by rw [hcc'])
      · have hz' := hz hcc'
        subst hz'
        refine .inr ⟨he, by omega, ?_⟩
        rw [add_off]
        have : l * i.z + (c' - l) * i.z = c' * i.z := by rw [← Nat.add_mul]; congr 1; omega
        omega

theorem slice_run (H : HR P ρ N h w) {t : TypeId} {x x' : Value} {lo hi mx lo' hi' mx' : Option Value} (hx : VR ρ x x')
    (hlo : OVR ρ lo lo') (hhi : OVR ρ hi hi') (hmx : OVR ρ mx mx') {v : Value} (hv : slice' P h t x lo hi mx = some v) :
    ∃ v', (Instr.sliceAt t x' lo' hi' mx').run P w = .ok v' w ∧ VR ρ v v' := by
  unfold slice' at hv
  split at hv
  · -- a string
    rename_i s hu
    cases hx
    split at hv
    · cases hv
    · cases hmx
      split at hv
      · rename_i hh h1
        split at hv
        · rename_i l h2
          injection hv with hv
          subst hv
          obtain ⟨hb, _, _⟩ := bounds_run (P := P) (w := w) (isS := false) (cap' := s.data.toList.length) hlo hhi (Nat.le_refl _) (Nat.le_refl _) h1 h2
          refine ⟨.string (s.extract l hh), ?_, by rw [extract_eq]; exact .string _⟩
          rw [← size_data] at hb
          simp [Instr.sliceAt, run_und hu, Instr.slice, hb]
        · cases hv
      · cases hv
  · -- a slice
    rename_i e b len cap hu
    split at hv
    · cases hv
    · rename_i sz hsz
      obtain ⟨hszr, hszc⟩ := size_some (w := w) hsz
      simp only [] at hv
      split at hv
      · cases hv
      · cases hv
      · rename_i hok hle0
        have hle : len ≤ cap := by simpa using hle0
        split at hv
        · -- with a third index
          rename_i mv
          cases hmx with
          | @some _ mv' hmv =>
          split at hv
          · rename_i m h0
            split at hv
            · cases hv
            · rename_i hiv
              cases hhi with
              | @some _ hv' hhv =>
              split at hv
              · rename_i hh h1
                split at hv
                · rename_i l h2
                  injection hv with hv
                  subst hv
                  -- the machine's capacity is no smaller
                  have base : ∀ b' c', x' = .slice b' len c' → cap ≤ c' →
                      VR ρ (.slice (b.map (·.add (l * sz))) (hh - l) (m - l)) (.slice (if m = l then b' else b'.map (·.add (l * sz))) (hh - l) (m - l)) →
                      ∃ v', (Instr.sliceAt t x' lo' (some hv') (some mv')).run P w = .ok v' w ∧ VR ρ (.slice (b.map (·.add (l * sz))) (hh - l) (m - l)) v' := by
                    intro b' c' ex hcc hvr
                    subst ex
                    refine ⟨_, ?_, hvr⟩
                    have r0 := bound_run (P := P) (w := w) hmv h0 c' hcc .slice3Acap
                    have r1 := bound_run (P := P) (w := w) hhv h1 m (Nat.le_refl _) .slice3B
                    cases hlo with
                    | none =>
                      simp only [bound', Option.some.injEq] at h2
                      subst h2
                      simp [Instr.sliceAt, run_und hu, Instr.slice, Instr.sliceBounds, r0.1, r1.1, hszr]
                    | some hlv =>
                      have r2 := bound_run (P := P) (w := w) hlv h2 hh (Nat.le_refl _) .slice3C
                      simp [Instr.sliceAt, run_und hu, Instr.slice, Instr.sliceBounds, r0.1, r1.1, r2.1, hszr]
                  have hm1 : m ≤ cap := (bound_run (P := P) (w := w) hmv h0 cap (Nat.le_refl _) .sliceB).2
                  have hh1 : hh ≤ m := (bound_run (P := P) (w := w) hhv h1 m (Nat.le_refl _) .sliceB).2
                  have hl1 : l ≤ hh := by
                    cases hlo with
                    | none => simp only [bound', Option.some.injEq] at h2; omega
                    | some hlv =>
                      exact (bound_run (P := P) (w := w) hlv h2 hh (Nat.le_refl _) .sliceB).2
                  cases hx with
                  | slNil =>
                    refine base none 0 rfl (Nat.le_refl _) ?_
                    have e1 : hh - l = 0 := by omega
                    have e2 : m - l = 0 := by omega
                    rw [e1, e2]
                    simpa using VR.slNil
                  | sl hp hc =>
                    refine base (some _) _ rfl (by rcases hc with h | h <;> omega) ?_
                    have := cut_VR (c := m) (c' := m) (l := l) (hh := hh) (sz := sz) hp (.inl rfl) hl1 hh1 (fun e => absurd rfl e)
                    simpa using this
                  | slZero p p' hz =>
                    refine base (some _) _ rfl (Nat.le_refl _) ?_
                    have e1 : hh - l = 0 := by omega
                    have e2 : m - l = 0 := by omega
                    have e3 : m = l := by omega
                    rw [e1, e2, if_pos e3]
                    exact .slZero _ _ (show ρ (Addr.add p _).block = some _ by rw [add_block]; exact hz)
                · cases hv
              · cases hv
          · cases hv
        · cases hmx
          split at hv
          · rename_i hh h1
            split at hv
            · rename_i l h2
              injection hv with hv
              subst hv
              have base : ∀ b' c', x' = .slice b' len c' → cap ≤ c' → (l ≤ hh → hh ≤ cap →
                  VR ρ (.slice (b.map (·.add (l * sz))) (hh - l) (cap - l)) (.slice (if c' = l then b' else b'.map (·.add (l * sz))) (hh - l) (c' - l))) →
                  ∃ v', (Instr.sliceAt t x' lo' hi' none).run P w = .ok v' w ∧ VR ρ (.slice (b.map (·.add (l * sz))) (hh - l) (cap - l)) v' := by
                intro b' c' ex hcc hvr
                subst ex
                obtain ⟨hb, g1, g2⟩ := bounds_run (P := P) (w := w) (isS := true) (cap' := c') hlo hhi hcc hle h1 h2
                exact ⟨_, by simp [Instr.sliceAt, run_und hu, Instr.slice, hb, hszr], hvr g1 g2⟩
              cases hx with
              | slNil =>
                refine base none 0 rfl (Nat.le_refl _) (fun g1 g2 => ?_)
                have e1 : hh - l = 0 := by omega
                have e2 : 0 - l = 0 := by omega
                rw [e1, e2]
                simpa using VR.slNil
              | @sl p p' i n c c' hp hc =>
                refine base (some _) _ rfl (by rcases hc with h | h <;> omega) (fun g1 g2 => ?_)
                refine cut_VR hp hc g1 g2 (fun hne => ?_)
                rcases hc with h | ⟨hex, _, _⟩
                · exact absurd h hne
                · simp only [] at hok
                  split at hok
                  · rename_i r hsp hr
                    obtain ⟨arr, e0, fr, hw, hR, _⟩ := H.row hr hp.2.1
                    split at hok
                    · split at hok
                      · rename_i z0 hz0
                        have h5 := (size_some (w := w) hz0).2
                        have h6 := hR.2.2.2.2.2.2 hex
                        have h7 : z0 = sz := nbeq_true (by simpa using hok)
                        omega
                      · cases hok
                    · rename_i hgr
                      have := (hR.2.2.2.2.2.1 hgr).1
                      rw [this] at hex
                      cases hex
                  · cases hok
              | slZero p p' hz =>
                refine base (some _) _ rfl (Nat.le_refl _) (fun g1 g2 => ?_)
                have e1 : hh - l = 0 := by omega
                have e2 : 0 - l = 0 := by omega
                have e3 : 0 = l := by omega
                rw [e1, e2, if_pos e3]
                exact .slZero _ _ (show ρ (Addr.add p _).block = some _ by rw [add_block]; exact hz)
            · cases hv
          · cases hv
  · -- an array behind a pointer
    rename_i n e p hu
    cases hx with
    | ptr hp =>
      split at hv
      · rename_i sz r hsz hsp hr
        obtain ⟨hszr, _⟩ := size_some (w := w) hsz
        split at hv
        · rename_i hgr
          cases hmx
          split at hv
          · rename_i hh h1
            split at hv
            · rename_i l h2
              injection hv with hv
              subst hv
              obtain ⟨hb, g1, g2⟩ := bounds_run (P := P) (w := w) (isS := false) (cap' := n) hlo hhi (Nat.le_refl _) (Nat.le_refl _) h1 h2
              have := cut_VR (c := n) (c' := n) (l := l) (hh := hh) (sz := sz) hp (.inl rfl) g1 g2 (fun e => absurd rfl e)
              refine ⟨_, ?_, this⟩
              simp only [Instr.sliceAt, Sem.run_bind, run_und hu, Result.andThen_ok, Instr.sureAddr, Sem.run_pure, hb, hszr]
              by_cases hnl : n = l <;> simp [hnl]
            · cases hv
          · cases hv
        · cases hv
      · cases hv
  · cases hv

theorem fieldAddr_run (H : HR P ρ N h w) {t : TypeId} {x x' : Value} {f : Nat} (hx : VR ρ x x') {v : Value} (hv : fieldAddr' P t x f = some v) :
    ∃ v', (Instr.fieldAt t x' f).run P w = .ok v' w ∧ VR ρ v v' := by
  unfold fieldAddr' at hv
  split at hv
  · rename_i fields p hu
    cases hx with
    | ptr hp =>
      split at hv
      · rename_i fd hf hsp
        split at hv
        · rename_i s hs
          injection hv with hv
          subst hv
          obtain ⟨hsr, _⟩ := size_some (w := w) hs
          have hf' : fields[f]? = some fd := by simpa using hf
          refine ⟨_, ?_, .ptr (hp.add fd.offset)⟩
          simp [Instr.fieldAt, run_und hu, hf', Instr.sureAddr, fieldPlace, hsr]
        · cases hv
      · cases hv
  · cases hv

theorem indexAddr_run (H : HR P ρ N h w) {t : TypeId} {x x' y y' : Value} (hx : VR ρ x x') (hy : VR ρ y y') {v : Value} (hv : indexAddr' P t x y = some v) :
    ∃ v', (Instr.indexAt t x' y').run P w = .ok v' w ∧ VR ρ v v' := by
  unfold indexAddr' at hv
  split at hv
  · rename_i e p len c k hu hk
    obtain ⟨kk, rfl⟩ := natOf_VR hy hk
    have one : ∀ p' c', x' = .slice (some p') len c' → k < len → ∀ s, sizeOf' P e = some s → ∀ i, AR ρ p p' i → ∃ v', (Instr.indexAt t x' (.int kk k)).run P w = .ok v' w ∧ VR ρ (.pointer (some (p.add (k * s)))) v' := by
      intro p' c' ex hlt s hs i hp
      subst ex
      obtain ⟨hsr, _⟩ := size_some (w := w) hs
      refine ⟨_, ?_, .ptr (hp.add (k * s))⟩
      have hc : (0 : Int) ≤ (k : Int) ∧ (k : Int) < (len : Int) := by omega
      simp [Instr.indexAt, asIntOf, run_und hu, hsr, hlt]
    split at hv
    · rename_i s hlt hs hsp
      injection hv with hv
      subst hv
      have hlt' : k < len := by simpa [Nat.blt_eq] using hlt
      cases hx with
      | sl hp hc => exact one _ _ rfl hlt' s hs _ hp
      | slZero => omega
    · cases hv
  · rename_i len e p k hu hk
    obtain ⟨kk, rfl⟩ := natOf_VR hy hk
    split at hv
    · rename_i s hlt hs hsp
      injection hv with hv
      subst hv
      have hlt' : k < len := by simpa [Nat.blt_eq] using hlt
      cases hx with
      | ptr hp =>
        obtain ⟨hsr, _⟩ := size_some (w := w) hs
        refine ⟨_, ?_, .ptr (hp.add (k * s))⟩
        simp [Instr.indexAt, asIntOf, run_und hu, hsr, hlt', Instr.sureAddr]
    · cases hv
  · cases hv

theorem index_run {t : TypeId} {x x' y y' : Value} (hx : VR ρ x x') (hy : VR ρ y y') {v : Value} (hv : index' P t x y = some v) :
    ∃ v', (Instr.index t x' y').run P w = .ok v' w ∧ VR ρ v v' := by
  unfold index' at hv
  split at hv
  · rename_i len e cs k hu hk
    obtain ⟨kk, rfl⟩ := natOf_VR hy hk
    split at hv
    · rename_i s hlt hs
      have hlt' : k < len := by simpa [Nat.blt_eq] using hlt
      cases hx with
      | agg hc =>
        obtain ⟨hsr, _⟩ := size_some (w := w) hs
        obtain ⟨v', h1, h2⟩ := part_run (w := w) hv hc
        refine ⟨v', ?_, h2⟩
        simp [Instr.index, asIntOf, run_und hu, hsr, hlt', h1]
    · cases hv
  · rename_i s k hu hk
    obtain ⟨kk, rfl⟩ := natOf_VR hy hk
    split at hv
    · rename_i b hb
      injection hv with hv
      subst hv
      cases hx
      refine ⟨_, ?_, .int _ _⟩
      have hb' : s[k]? = some b := by
        have hb2 : s.data[k]? = some b := by simpa using hb
        rw [← hb2]
        rfl
      have h0 : (0 : Int) ≤ (k : Int) := by omega
      simp [Instr.index, asIntOf, run_und hu, hb']
    · cases hv
  · cases hv

end Go.Ev

namespace Go.Ev
open Go.RowKit
variable {P : Program} {ρ : Rho} {N : Bs} {h : Hp} {w : World} {a : A} {act : Act}

/-! ### maps, looked into -/
theorem checkKey_run (W : WfP P) : ∀ (d : Nat) (t : TypeId) (v v' : Value), keyOk P d t v = true → VR ρ v v' → ∀ D, d ≤ D → ∀ em, (Instr.checkKey em D t v').run P w = .ok () w := by
  intro d
  induction d with
  | zero => intro t v v' hk; simp [keyOk] at hk
  | succ d ih =>
    intro t v v' hk hv D hD em
    obtain ⟨D, rfl⟩ : ∃ k, D = k + 1 := ⟨D - 1, by omega⟩
    cases hu : P.underlying t with
    | none => simp only [keyOk, hu] at hk; cases hk
    | some q =>
    cases q
    case interface ms =>
      simp only [keyOk, hu] at hk
      cases hv <;> simp only [] at hk <;> first
        | (cases hk; done)
        | (simp [Instr.checkKey, run_und hu]; done)
        | skip
      rename_i hx
      split at hk
      · rename_i i hi
        split at hk
        · rename_i hc
          have := ih _ _ _ hk hx D (by omega) em
          simp [Instr.checkKey, run_und hu, run_info hi, hc, this]
        · cases hk
      · cases hk
    case array n e =>
      simp only [keyOk, hu] at hk
      cases hv <;> cases hk
    case struct fields =>
      simp only [keyOk, hu] at hk
      cases hv <;> simp only [] at hk <;> first
        | (cases hk; done)
        | skip
      rename_i cs cs' hc
      simp only [Instr.checkKey, Sem.run_bind, run_und hu, Result.andThen_ok]
      rw [← Array.forIn_toList]
      have aux : ∀ fs : List Field, (fs.all fun f => match f.name == "_" with
          | true => true
          | false => match part P f.type cs.toList f.offset with
            | some p => keyOk P d f.type p
            | none => false) = true →
          (forIn fs PUnit.unit fun f r => (do
            if f.name ≠ "_" then do
              Instr.checkKey em D f.type (← Go.part f.type cs' f.offset)
              pure PUnit.unit
              pure (ForInStep.yield PUnit.unit)
            else do
              pure PUnit.unit
              pure (ForInStep.yield PUnit.unit) : Sem (ForInStep PUnit))).run P w = .ok PUnit.unit w := by
        intro fs
        induction fs with
        | nil => intro _; simp
        | cons f fs ihf =>
          intro hall
          simp only [List.all_cons, Bool.and_eq_true] at hall
          obtain ⟨h1, h2⟩ := hall
          simp only [List.forIn_cons]
          by_cases hn : f.name = "_"
          · simp only [hn, ne_eq, not_true, if_false, Sem.run_bind, Sem.run_pure, Result.andThen_ok]
            exact ihf h2
          · have hb : (f.name == "_") = false := by simpa using hn
            rw [hb] at h1
            simp only [] at h1
            split at h1
            · rename_i p hp
              obtain ⟨p', e1, e2⟩ := part_run (w := w) hp hc
              have := ih _ _ _ h1 e2 D (by omega) em
              simp only [ne_eq, hn, not_false_eq_true, if_true, Sem.run_bind, e1, Result.andThen_ok, this, Sem.run_pure]
              exact ihf h2
            · cases h1
      have := aux fields.toList hk
      simp at this ⊢
      rw [this]
      rfl
    all_goals simp [Instr.checkKey, run_und hu]

end Go.Ev

namespace Go.Ev
open Go.RowKit
variable {P : Program} {ρ : Rho} {N : Bs} {h : Hp} {w : World} {a : A} {act : Act}

theorem MRs.length : ∀ {l l' : List MapEntry}, MRs ρ l l' → l'.length = l.length
  | _, _, .nil => rfl
  | _, _, .cons _ _ _ k => by simp [MRs.length k]
theorem MRs.get : ∀ {l l' : List MapEntry}, MRs ρ l l' → ∀ {k : Nat} {e : MapEntry}, l[k]? = some e → ∃ e', l'[k]? = some e' ∧ VR ρ e.key e'.key ∧ VR ρ e.val e'.val ∧ e'.born = e.born
  | _, _, .nil, k, e, h => by simp at h
  | _, _, .cons (e' := e') hk hv hb _, 0, e, h => by simp at h; subst h; exact ⟨e', rfl, hk, hv, hb⟩
  | _, _, .cons _ _ _ r, k + 1, e, h => by simp at h; simpa using MRs.get r h

theorem sameNow_eqv {t : TypeId} {kind : TypeDesc} (hu : P.underlying t = some kind) {k k' y y' : Value} (hk : VR ρ k k') (hy : VR ρ y y') {r b : Bool} {d : Nat} (hr : eqv P h (d + 1) t k y = some r) (hb : Instr.sameNow kind k' y' = some b) : b = r := by
  unfold Instr.sameNow at hb
  split at hb
  · cases hk; cases hy
    simp only [eqv, hu] at hr
    split at hr
    · injection hr with hr
      split at hb
      · injection hb with hb
        rw [← hb, ← hr, intEq_beq]
      · cases hb
    · cases hr
  · cases hk; cases hy
    simp only [eqv, hu] at hr
    injection hr with hr
    injection hb with hb
    rw [← hb, ← hr, bytesEq_beq, beq_toListBytes, ByteArray.toList_eq, ByteArray.toList_eq]
  · cases hk; cases hy
    simp only [eqv, hu] at hr
    injection hr with hr
    injection hb with hb
    rw [← hb, ← hr]
  · cases hb

inductive FR (ρ : Rho) : Option (Nat × Value) → Option (Nat × Value) → Prop
  | none : FR ρ none none
  | some {i : Nat} {v v' : Value} (h : VR ρ v v') : FR ρ (some (i, v)) (some (i, v'))

theorem find_run (H : HR P ρ N h w) {t : TypeId} {kind : TypeDesc} (hu : P.underlying t = some kind) {k k' : Value} (hk : VR ρ k k') : ∀ {es es' : List MapEntry}, MRs ρ es es' → ∀ {i : Nat} {res : Option (Nat × Value)}, find' P h t k es i = some res →
    ∃ res', (Instr.findNow kind k' es' i = none ∨ Instr.findNow kind k' es' i = some res') ∧ (Instr.findAsking t k' es' i).run P w = .ok res' w ∧ FR ρ res res' := by
  intro es es' hes
  induction hes with
  | nil =>
    intro i res hf
    simp only [find', Option.some.injEq] at hf
    subst hf
    exact ⟨none, .inr rfl, by simp [Instr.findAsking], .none⟩
  | @cons e e' l l' hke hve hbe hl ih =>
    intro i res hf
    simp only [find'] at hf
    split at hf
    · rename_i he
      injection hf with hf
      subst hf
      refine ⟨some (i, e'.val), ?_, ?_, .some hve⟩
      · simp only [Instr.findNow]
        cases hs : Instr.sameNow kind k' e'.key with
        | none => exact .inl rfl
        | some b =>
          have := sameNow_eqv hu hk hke he hs
          subst this
          exact .inr rfl
      · simp [Instr.findAsking, equal_run H he hk hke]
    · rename_i he
      obtain ⟨res', h1, h2, h3⟩ := ih hf
      refine ⟨res', ?_, ?_, h3⟩
      · simp only [Instr.findNow]
        cases hs : Instr.sameNow kind k' e'.key with
        | none => exact .inl rfl
        | some b =>
          have := sameNow_eqv hu hk hke he hs
          subst this
          exact h1
      · simp [Instr.findAsking, equal_run H he hk hke, h2]
    · cases hf

theorem findKey_run (H : HR P ρ N h w) {t : TypeId} {k k' : Value} (hk : VR ρ k k') {es es' : List MapEntry} (hes : MRs ρ es es') {res : Option (Nat × Value)} (hf : find' P h t k es 0 = some res) {kind : TypeDesc} (hu : P.underlying t = some kind) :
    ∃ res', (Instr.findKey t k' es').run P w = .ok res' w ∧ FR ρ res res' := by
  obtain ⟨res', h1, h2, h3⟩ := find_run H hu hk hes hf
  refine ⟨res', ?_, h3⟩
  simp only [Instr.findKey, Sem.run_bind, run_und hu, Result.andThen_ok]
  rcases h1 with h1 | h1 <;> rw [h1]
  · exact h2
  · simp

theorem run_getMap {r : Nat} {es : Array MapEntry} {k : Nat} (hw : w.heap[r]? = some (.map es k)) : (getObj r).run P w = .ok (.map es k) w := by
  simp [getObj, Sem.run, hw]

theorem entries_run (H : HR P ρ N h w) {x x' : Value} (hx : VR ρ x x') {es : List MapEntry} (he : entriesOf h x = some es) :
    (x' = .map none ∧ es = []) ∨ ∃ (r : Nat) (es' : Array MapEntry) (k : Nat), x' = .map (some r) ∧ (getObj r).run P w = .ok (.map es' k) w ∧ MRs ρ es es'.toList := by
  unfold entriesOf at he
  split at he
  · cases hx
    injection he with he
    subst he
    exact .inl ⟨rfl, rfl⟩
  · rename_i r
    cases hx with
    | map hi =>
      split at he
      · rename_i es1 k hm
        injection he with he
        subst he
        obtain ⟨es', hw, hR, _⟩ := H.map? hm hi
        exact .inr ⟨_, es', k, rfl, run_getMap hw, hR⟩
      · cases he
  · cases he

theorem und_of_keyOk {d : Nat} {t : TypeId} {v : Value} (hk : keyOk P d t v = true) : ∃ kind, P.underlying t = some kind := by
  cases d with
  | zero => simp [keyOk] at hk
  | succ d =>
    cases hu : P.underlying t with
    | none => simp [keyOk, hu] at hk
    | some q => exact ⟨q, rfl⟩

theorem lookup_run (W : WfP P) (H : HR P ρ N h w) {t : TypeId} {x x' k k' : Value} (hx : VR ρ x x') (hk : VR ρ k k') {ok : Bool} {v : Value} (hv : lookup' P h t x k ok = some v) :
    ∃ v', (Instr.lookup t x' k' ok).run P w = .ok v' w ∧ VR ρ v v' := by
  unfold lookup' at hv
  split at hv
  · rename_i kt et hu
    split at hv
    · rename_i es hes hko
      obtain ⟨kind, hkd⟩ := und_of_keyOk hko
      have fin : ∀ (v v' : Value) (b : Bool), VR ρ v v' → VR ρ (if ok then .tuple #[v, .bool b] else v) (if ok then .tuple #[v', .bool b] else v') := by
        intro v v' b hvv
        cases ok
        · simpa using hvv
        · simpa using VR.tuple (c := #[v, .bool b]) (c' := #[v', .bool b]) (.cons hvv (.cons (.bool b) .nil))
      have hck := fun em => checkKey_run (w := w) W 40 kt k k' hko hk 10000 (by omega) em
      have main : ∀ (es' : List MapEntry), MRs ρ es es' → ∃ res', (Instr.findKey kt k' es').run P w = .ok res' w ∧
          ((∃ j u', res' = some (j, u') ∧ VR ρ v (if ok then .tuple #[u', .bool true] else u')) ∨ (res' = none ∧ ∃ z, (zeroValue et).run P w = .ok z w ∧ VR ρ v (if ok then .tuple #[z, .bool false] else z))) := by
        intro es' hR
        split at hv
        · rename_i j u hf
          injection hv with hv
          subst hv
          obtain ⟨res', h1, h2⟩ := findKey_run H hk hR hf hkd
          cases h2 with
          | some hu2 => exact ⟨_, h1, .inl ⟨_, _, rfl, fin _ _ true hu2⟩⟩
        · rename_i hf
          obtain ⟨res', h1, h2⟩ := findKey_run H hk hR hf hkd
          split at hv
          · rename_i z hz
            injection hv with hv
            subst hv
            obtain ⟨hzr, hzv⟩ := zero_run (w := w) (ρ := ρ) hz
            cases h2 with
            | none => exact ⟨_, h1, .inr ⟨rfl, _, hzr, fin _ _ false hzv⟩⟩
          · cases hv
        · cases hv
      rcases entries_run H hx hes with ⟨rfl, rfl⟩ | ⟨r, es', kk, rfl, hg, hR⟩
      · obtain ⟨res', e1, e2⟩ := main [] .nil
        rcases e2 with ⟨j, u', rfl, e2⟩ | ⟨rfl, z, e3, e2⟩
        · exact ⟨_, by simp [Instr.lookup, run_und hu, hck, e1], e2⟩
        · exact ⟨_, by simp [Instr.lookup, run_und hu, hck, e1, e3], e2⟩
      · obtain ⟨res', e1, e2⟩ := main es'.toList hR
        rcases e2 with ⟨j, u', rfl, e2⟩ | ⟨rfl, z, e3, e2⟩
        · exact ⟨_, by simp [Instr.lookup, run_und hu, hck, hg, e1], e2⟩
        · exact ⟨_, by simp [Instr.lookup, run_und hu, hck, hg, e1, e3], e2⟩
    · cases hv
  · cases hv

theorem least_some {l : List String} (h : l ≠ []) : ∃ s, Instr.least l = some s := by
  cases l with
  | nil => exact absurd rfl h
  | cons x r => exact ⟨_, rfl⟩

theorem least_either (dotted : String → Bool) (g : String → String) (l : List String) (hl : l ≠ []) :
    ∃ s, (Instr.least (l.filter (not ∘ dotted)) <|> Instr.least ((l.filter dotted).map g)) = some s := by
  cases l with
  | nil => exact absurd rfl hl
  | cons x r =>
    by_cases hx : dotted x = true
    · have h1 : (x :: r).filter dotted ≠ [] := by
        rw [List.filter_cons_of_pos hx]; simp
      cases hl : Instr.least ((x :: r).filter (not ∘ dotted)) with
      | some s => exact ⟨s, rfl⟩
      | none =>
        obtain ⟨s, hs⟩ := least_some (l := ((x :: r).filter dotted).map g) (by simpa using h1)
        exact ⟨s, by rw [hs]; rfl⟩
    · have h1 : (x :: r).filter (not ∘ dotted) ≠ [] := by
        rw [List.filter_cons_of_pos (by simpa using hx)]; simp
      obtain ⟨s, hs⟩ := least_some h1
      exact ⟨s, by rw [hs]; rfl⟩

theorem missing_iff (want : Array (String × TypeId)) (got : Array Method) :
    ((want.toList.all fun (n, s) => got.toList.any fun m => m.name == n && Nat.beq m.sig s) = true → Instr.missingMethod want got = none) ∧
    ((want.toList.all fun (n, s) => got.toList.any fun m => m.name == n && Nat.beq m.sig s) = false → ∃ s, Instr.missingMethod want got = some s) := by
  have hany : ∀ (n : String) (s : TypeId), (got.any fun m => m.name == n && m.sig == s) = (got.toList.any fun m => m.name == n && Nat.beq m.sig s) := by
    intro n s
    rw [← Array.any_toList]
    congr 1
    funext m
    congr 1
    rw [Bool.eq_iff_iff]
    simp
  constructor
  · intro hall
    have : (want.toList.filter fun (x : String × TypeId) => !got.any fun m => m.name == x.1 && m.sig == x.2) = [] := by
      rw [List.filter_eq_nil_iff]
      intro x hx
      rw [List.all_eq_true] at hall
      have := hall x hx
      simp only [hany]
      simpa using this
    simp only [Instr.missingMethod]
    have h2 : (want.toList.filter fun x => match x with
      | (name, sig) => !got.any fun m => m.name == name && m.sig == sig) = [] := this
    rw [h2]
    rfl
  · intro hall
    have hne : (want.toList.filter fun (x : String × TypeId) => !got.any fun m => m.name == x.1 && m.sig == x.2) ≠ [] := by
      intro e
      rw [List.filter_eq_nil_iff] at e
      have : (want.toList.all fun (n, s) => got.toList.any fun m => m.name == n && Nat.beq m.sig s) = true := by
        rw [List.all_eq_true]
        intro x hx
        have := e x hx
        simp only [hany] at this
        simpa using this
      rw [this] at hall
      cases hall
    simp only [Instr.missingMethod]
    generalize hL : (want.toList.filter fun x => match x with
      | (name, sig) => !got.any fun m => m.name == name && m.sig == sig) = L
    have hL' : L ≠ [] := by rw [← hL]; exact hne
    simp only [List.partition_eq_filter_filter]
    exact least_either _ _ _ (by simpa using hL')

end Go.Ev

namespace Go.Ev
open Go.RowKit
variable {P : Program} {ρ : Rho} {N : Bs} {h : Hp} {w : World} {a : A} {act : Act}

theorem typeAssert_run {x x' : Value} (hx : VR ρ x x') {xt t : TypeId} {ok : Bool} {v : Value} (hv : typeAssert' P x t ok = some v) :
    ∃ v', (Instr.typeAssert x' xt t ok).run P w = .ok v' w ∧ VR ρ v v' := by
  have fails : ∀ {z : Value}, zero' P t = some z → (zeroValue t).run P w = .ok z w ∧ VR ρ (.tuple #[z, .bool false]) (.tuple #[z, .bool false]) := by
    intro z hz
    obtain ⟨h1, h2⟩ := zero_run (w := w) (ρ := ρ) hz
    exact ⟨h1, .tuple (c := #[z, .bool false]) (c' := #[z, .bool false]) (.cons h2 (.cons (.bool false) .nil))⟩
  have holds : ∀ {u u' : Value}, VR ρ u u' → VR ρ (if ok then .tuple #[u, .bool true] else u) (if ok then .tuple #[u', .bool true] else u') := by
    intro u u' hu
    cases ok
    · simpa using hu
    · simpa using VR.tuple (c := #[u, .bool true]) (c' := #[u', .bool true]) (.cons hu (.cons (.bool true) .nil))
  unfold typeAssert' at hv
  split at hv
  · rename_i want ti u hu
    have hx0 := hx
    cases hx with
    | @iface _ _ u' hxu =>
    split at hv
    · rename_i i hi
      split at hv
      · rename_i hall
        injection hv with hv
        subst hv
        have := (missing_iff want i.methods).1 hall
        exact ⟨_, by simp [Instr.typeAssert, run_und hu, run_info hi, this], holds hx0⟩
      · rename_i hall
        split at hv
        · rename_i z hz
          injection hv with hv
          subst hv
          obtain ⟨s, hs⟩ := (missing_iff want i.methods).2 hall
          exact ⟨_, by simp [Instr.typeAssert, run_und hu, run_info hi, hs, (fails hz).1], (fails hz).2⟩
        · cases hv
    · cases hv
  · rename_i q hu
    cases hx
    split at hv
    · rename_i z hz
      injection hv with hv
      subst hv
      refine ⟨_, ?_, (fails hz).2⟩
      cases q <;> simp [Instr.typeAssert, run_und hu, (fails hz).1]
    · cases hv
  · cases hv
  · rename_i q ti u hni hu
    cases hx with
    | iface hxu =>
    split at hv
    · rename_i he
      injection hv with hv
      subst hv
      have : ti = t := nbeq_true he
      subst this
      refine ⟨_, ?_, holds hxu⟩
      cases q <;> first | (simp [Instr.typeAssert, run_und hu]; done) | (exact absurd rfl (hni _)) | (simp_all; done)
    · rename_i he
      have hne : ti ≠ t := nbeq_false he
      split at hv
      · rename_i z hz
        injection hv with hv
        subst hv
        refine ⟨_, ?_, (fails hz).2⟩
        cases q <;> first | (simp [Instr.typeAssert, run_und hu, hne, (fails hz).1]; done) | (exact absurd rfl (hni _)) | (simp_all; done)
      · cases hv
  · cases hv

theorem bornAt_spec {b : Nat} : ∀ {l l' : List MapEntry}, MRs ρ l l' → ∀ {k j : Nat}, bornAt b l k = some j →
    k ≤ j ∧ ∃ e e', l[j - k]? = some e ∧ l'[j - k]? = some e' ∧ l'.find? (fun e => e.born == b) = some e' ∧ l'.findIdx? (fun e => e.born == b) = some (j - k) ∧ VR ρ e.key e'.key ∧ VR ρ e.val e'.val ∧ e'.born = b ∧ e.born = b := by
  intro l l' hl
  induction hl with
  | nil => intro k j hb; simp [bornAt] at hb
  | @cons e e' l l' hk hv he hl ih =>
    intro k j hb
    simp only [bornAt] at hb
    split at hb
    · rename_i hbe
      injection hb with hb
      subst hb
      have := nbeq_true hbe
      have hbb : (e'.born == b) = true := by simp [he, this]
      exact ⟨Nat.le_refl _, e, e', by simp, by simp, by simp [List.find?, hbb], by simp [List.findIdx?_cons, hbb], hk, hv, by omega, this⟩
    · rename_i hbe
      have hne := nbeq_false hbe
      obtain ⟨h1, e1, e1', h2, h3, h4, h5, h6⟩ := ih hb
      have hbb : (e'.born == b) = false := by simp [he, hne]
      have hj : j - k = (j - (k + 1)) + 1 := by omega
      refine ⟨by omega, e1, e1', by rw [hj]; simpa using h2, by rw [hj]; simpa using h3, by simpa [List.find?, hbb] using h4, by simp [List.findIdx?_cons, hbb, h5]; omega, h6⟩

theorem entry_run (H : HR P ρ N h w) {x x' : Value} (hx : VR ρ x x') {v : Value} (hv : entry' h x = some v) : ∃ v', (Instr.entry x').run P w = .ok v' w ∧ VR ρ v v' := by
  unfold entry' at hv
  split at hv
  · rename_i p
    cases hx with
    | @ptr _ p' i hp =>
    split at hv
    · rename_i m since seen st hoff hobj
      obtain ⟨o', ho, hR⟩ := H.obj p.block _ i hobj (fun r hr => by rw [hobj] at hr; cases hr) hp.2.1
      cases o' <;> simp only [ObjR] at hR
      rename_i m' since' seen' st'
      obtain ⟨hm, rfl, hseen, rfl, hs0⟩ := hR
      cases m' with
      | none => simp at hm
      | some m' =>
      obtain ⟨j, hj, rfl⟩ := hm
      split at hv
      · rename_i b es clock hb hmap
        obtain ⟨es', hw, hMR, _⟩ := H.map? hmap hj
        split at hv
        · rename_i k hc hk
          obtain ⟨h0, e, e', g1, g2, g3, g4, g5, g6, g7, g8⟩ := bornAt_spec hMR hk
          rw [Nat.sub_zero] at g1
          rw [g1] at hv
          injection hv with hv
          subst hv
          have hclock := nbeq_true hc
          have hback : seen'.back? = some b := by rw [← hseen] at hb; simpa using hb
          have hfind : es'.find? (fun e => e.born == b) = some e' := by rw [← Array.find?_toList]; exact g3
          refine ⟨_, ?_, .tuple (c := #[e.key, e.val]) (c' := #[e'.key, e'.val]) (.cons g5 (.cons g6 .nil))⟩
          rw [hp.fn]
          have hz : i.s + p.off = 0 := by omega
          rw [hz]
          simp [Instr.entry, getObj, Sem.run, ho, hback, hw, hclock, hfind]
        · cases hv
      · cases hv
    · cases hv
  · cases hv

theorem minmax_run (big : Bool) : ∀ (l : List Value) (x v : Value) (x' : Value) (l' : List Value), minmax' big x l = some v → VR ρ x x' → VRs ρ l l' →
    (l'.foldlM (if big then Builtin.max2 else Builtin.min2) x').run P w = .ok v w ∧ VR ρ v v ∨ (l = [] ∧ v = x)
  | [], x, v, x', l', hv, hx, hl => by
    cases hl
    simp only [minmax', Option.some.injEq] at hv
    exact .inr ⟨rfl, hv.symm⟩
  | y :: l, x, v, x', l', hv, hx, hl => by
    cases hl with
    | cons hy hl =>
    unfold minmax' at hv
    split at hv
    · rename_i e; cases e
    · rename_i k n k2 m r e
      injection e with e1 e2
      subst e1
      subst e2
      cases hx
      cases hy
      have step : ((if big then Builtin.max2 else Builtin.min2) (.int k n) (.int k2 m)).run P w = .ok (.int k (mm big n m)) w := by
        cases big
        · simp only [mm, intLt_lt, Bool.false_eq_true, if_false, Builtin.min2, Sem.run_pure]
          by_cases hlt : m < n <;> simp [hlt]
        · simp only [mm, intLt_lt, if_true, Builtin.max2, Sem.run_pure]
          by_cases hlt : n < m
          · simp [hlt]
          · simp [hlt]
      rcases minmax_run big l _ v _ _ hv (.int k _) hl with h1 | ⟨rfl, rfl⟩
      · left
        refine ⟨?_, h1.2⟩
        rw [List.foldlM_cons, Sem.run_bind, step]
        exact h1.1
      · cases hl
        left
        refine ⟨?_, .int _ _⟩
        rw [List.foldlM_cons, Sem.run_bind, step]
        simp
    · cases hv

theorem VRs.cons_inv {x : Value} {l m : List Value} (h : VRs ρ (x :: l) m) : ∃ x' l', m = x' :: l' ∧ VR ρ x x' ∧ VRs ρ l l' := by
  cases h with
  | cons h k => exact ⟨_, _, rfl, h, k⟩

theorem lenOf_run {x x' : Value} (hx : VR ρ x x') {n : Nat} (hn : lenOf' x = some n) : (Builtin.lenOf x').run P w = .ok n w := by
  unfold lenOf' at hn
  split at hn
  · injection hn with hn
    subst hn
    cases hx <;> simp [Builtin.lenOf]
  · cases hx
    injection hn with hn
    subst hn
    simp only [Builtin.lenOf, Sem.run_pure, size_data]
  · cases hn

theorem len_run (H : HR P ρ N h w) {ts : Array TypeId} {l : List Value} {l' : Array Value} (hl : VRs ρ l l'.toList) {ty : TypeId} {v : Value} (hv : len' P h ts.toList l = some v) :
    ∃ v', (Builtin.len_ ts ty l').run P w = .ok v' w ∧ VR ρ v v' := by
  unfold len' at hv
  split at hv
  · rename_i t tr x xr ht
    have h0 : ts[0]? = some t := by rw [← Array.getElem?_toList, ht]; rfl
    obtain ⟨x', l2, hl3, hxv, hl2⟩ := hl.cons_inv
    have h1 : l'[0]? = some x' := by rw [← Array.getElem?_toList, hl3]; rfl
    split at hv
    · rename_i s hu
      cases hxv
      injection hv with hv
      subst hv
      exact ⟨.int .i64 s.data.toList.length, by rw [← size_data]; simp [Builtin.len_, h0, h1, run_und hu, goInt], .int _ _⟩
    · rename_i n e hu
      injection hv with hv
      subst hv
      (refine ⟨_, ?_, .int _ _⟩; simp [Builtin.len_, h0, h1, run_und hu, goInt])
    · rename_i e b n c hu
      injection hv with hv
      subst hv
      cases hxv <;> (refine ⟨_, ?_, .int _ _⟩; simp [Builtin.len_, h0, h1, run_und hu, goInt])
    · rename_i k e hu
      cases hxv
      injection hv with hv
      subst hv
      (refine ⟨_, ?_, .int _ _⟩; simp [Builtin.len_, h0, h1, run_und hu, goInt])
    · rename_i k e r hu
      cases hxv with
      | map hi =>
      split at hv
      · rename_i es kk hm
        injection hv with hv
        subst hv
        obtain ⟨es', hw, hMR, _⟩ := H.map? hm hi
        have : es'.size = es.length := by rw [← Array.length_toList]; exact hMR.length
        refine ⟨_, ?_, .int _ _⟩
        simp [Builtin.len_, h0, h1, run_und hu, run_getMap hw, this, goInt]
      · cases hv
    · cases hv
  · cases hv

theorem cap_run (H : HR P ρ N h w) {ts : Array TypeId} {l : List Value} {l' : Array Value} (hl : VRs ρ l l'.toList) {ty : TypeId} {v : Value} (hv : cap' P h ts.toList l = some v) :
    ∃ v', (Builtin.cap_ ts ty l').run P w = .ok v' w ∧ VR ρ v v' := by
  unfold cap' at hv
  split at hv
  · rename_i t tr x xr ht
    have h0 : ts[0]? = some t := by rw [← Array.getElem?_toList, ht]; rfl
    obtain ⟨x', l2, hl3, hxv, hl2⟩ := hl.cons_inv
    have h1 : l'[0]? = some x' := by rw [← Array.getElem?_toList, hl3]; rfl
    split at hv
    · rename_i e m n hu
      injection hv with hv
      subst hv
      cases hxv
      (refine ⟨_, ?_, .int _ _⟩; simp [Builtin.cap_, h0, h1, run_und hu, goInt])
    · rename_i e p m n hu
      split at hv
      · rename_i r hr
        split at hv
        · rename_i hg
          injection hv with hv
          subst hv
          cases hxv with
          | sl hp hc =>
            obtain ⟨arr, e0, fr, hw, hR, _⟩ := H.row hr hp.2.1
            have hex := (hR.2.2.2.2.2.1 hg).1
            rcases hc with rfl | ⟨hx, _⟩
            · (refine ⟨_, ?_, .int _ _⟩; simp [Builtin.cap_, h0, h1, run_und hu, goInt])
            · rw [hex] at hx; cases hx
          | slZero => (refine ⟨_, ?_, .int _ _⟩; simp [Builtin.cap_, h0, h1, run_und hu, goInt])
        · cases hv
      · cases hv
    · cases hv
  · cases hv

end Go.Ev

namespace Go.Ev
open Go.RowKit
variable {P : Program} {ρ : Rho} {N : Bs} {h : Hp} {w : World} {a : A} {act : Act}

theorem ovr_of (A : ActR ρ a act) {x : Option Operand} (hx : ∀ o, x = some o → ∃ v, a.ev o = some v) : OVR ρ (x.bind a.ev) (x.map act.eval) := by
  cases x with
  | none => exact .none
  | some o =>
    obtain ⟨v, hv⟩ := hx o rfl
    have : (some o).bind a.ev = some v := hv
    rw [this]
    exact .some (A.ev hv)

theorem evList_mem {xs : List Operand} {l : List Value} (h : evList a xs = some l) {o : Operand} (ho : o ∈ xs) : ∃ v, a.ev o = some v := by
  induction xs generalizing l with
  | nil => cases ho
  | cons x xs ih =>
    simp only [evList] at h
    split at h
    · rename_i v r hv hr
      rcases List.mem_cons.1 ho with rfl | ho
      · exact ⟨v, hv⟩
      · exact ih hr ho
    · cases h

/-- An operation that leaves the heap alone: the machine's world stays, the value is alike. -/
theorem reader_run (W : WfP P) (H : HR P ρ N h w) (A : ActR ρ a act) (o : Oper) (hr : isReader o.op = true) {v : Value} (hv : reader' P h a o.op = some v) :
    ∃ v', (execOp act.eval o).run P w = .ok (.value v') w ∧ VR ρ v v' := by
  obtain ⟨dst, op, ty, pos, after, guard⟩ := o
  simp only at hr hv
  have fin : ∀ {s : Sem Value} {v' : Value}, s.run P w = .ok v' w → (do pure (.value (← s)) : Sem Next).run P w = .ok (.value v') w := by
    intro s v' hs
    simp [hs]
  cases op <;> simp only [isReader] at hr <;> try (cases hr; done)
  case move x =>
    simp only [reader'] at hv
    exact ⟨_, by simp [execOp], A.ev hv⟩
  case assign x =>
    simp only [reader'] at hv
    exact ⟨_, by simp [execOp], A.ev hv⟩
  case pick c x y =>
    simp only [reader'] at hv
    split at hv
    · rename_i hc
      have := A.ev hc
      generalize hcv : act.eval c = cv at this
      cases this
      exact ⟨_, by simp [execOp, hcv, asBool], A.ev hv⟩
    · rename_i hc
      have := A.ev hc
      generalize hcv : act.eval c = cv at this
      cases this
      exact ⟨_, by simp [execOp, hcv, asBool], A.ev hv⟩
    · cases hv
  case build t parts =>
    simp only [reader'] at hv
    split at hv
    · rename_i l hl
      obtain ⟨v', h1, h2⟩ := build_run (ps' := parts.map fun (i, x) => (i, act.eval x)) (w := w) W (by simpa using A.evPairs hl) hv
      exact ⟨v', fin h1, h2⟩
    · cases hv
  case load t x =>
    simp only [reader'] at hv
    split at hv
    · rename_i p hp
      have := A.ev hp
      generalize hcv : act.eval x = cv at this
      cases this with
      | ptr ha =>
        obtain ⟨v', h1, h2⟩ := loadVar_run H ha hv
        refine ⟨v', ?_, h2⟩
        simp [execOp, hcv, Instr.loadAt, Instr.sureAddr, h1]
    · cases hv
  case nilCheck x =>
    simp only [reader'] at hv
    split at hv
    · rename_i p hp
      injection hv with hv
      subst hv
      have := A.ev hp
      have h0 := this
      generalize hcv : act.eval x = cv at this h0
      cases this with
      | ptr ha => exact ⟨_, by simp [execOp, hcv], h0⟩
    · rename_i f l r hp
      injection hv with hv
      subst hv
      have := A.ev hp
      have h0 := this
      generalize hcv : act.eval x = cv at this h0
      cases this with
      | func ha hb => exact ⟨_, by simp [execOp, hcv], h0⟩
    · rename_i t u hp
      injection hv with hv
      subst hv
      have := A.ev hp
      have h0 := this
      generalize hcv : act.eval x = cv at this h0
      cases this with
      | iface ha => exact ⟨_, by simp [execOp, hcv], h0⟩
    · cases hv
  case binOp bop t x y t2 =>
    simp only [reader'] at hv
    split at hv
    · rename_i u1 u2 h1 h2
      obtain ⟨h3, h4⟩ := binOp_run H hv (A.ev h1) (A.ev h2)
      exact ⟨v, fin h3, h4⟩
    · cases hv
  case unOp uop t x =>
    simp only [reader'] at hv
    split at hv
    · rename_i u hu
      have := A.ev hu
      generalize hcv : act.eval x = cv at this
      unfold unOp' at hv
      split at hv
      · cases this
        injection hv with hv
        subst hv
        exact ⟨_, by simp [execOp, hcv, Op.unary, Op.intArith], .int _ _⟩
      · cases this
        injection hv with hv
        subst hv
        exact ⟨_, by simp [execOp, hcv, Op.unary], .bool _⟩
      · cases hv
    · cases hv
  case makeInterface t x =>
    simp only [reader'] at hv
    split at hv
    · cases hv
    · rename_i u q hni hu hq
      injection hv with hv
      subst hv
      refine ⟨.iface t (act.eval x), ?_, .iface (A.ev hu)⟩
      cases q <;> first
        | (simp [execOp, Instr.makeInterface, run_und hq]; done)
        | (exfalso; exact hni _ rfl)
        | (simp_all; done)
    · cases hv
  case makeFunc fn first captured =>
    simp only [reader'] at hv
    split at hv
    · rename_i l r hl hr2
      injection hv with hv
      subst hv
      refine ⟨.func fn (first.map act.eval) (captured.map act.eval), by simp [execOp, Instr.makeFunc], .func (by simpa using A.evList hl) (by simpa using A.evList hr2)⟩
    · cases hv
  case slice t x lo hi mx =>
    simp only [reader'] at hv
    split at hv
    · rename_i u l hu hl
      have hm : ∀ (y : Option Operand), (∀ o, y = some o → o ∈ lo.toList ++ hi.toList ++ mx.toList) → OVR ρ (y.bind a.ev) (y.map act.eval) :=
        fun y hy => ovr_of A fun o ho => evList_mem hl (hy o ho)
      obtain ⟨v', h1, h2⟩ := slice_run H (A.ev hu) (hm lo (by intro o ho; subst ho; simp)) (hm hi (by intro o ho; subst ho; simp)) (hm mx (by intro o ho; subst ho; simp)) hv
      exact ⟨v', fin h1, h2⟩
    · cases hv
  case fieldAddr t x f =>
    simp only [reader'] at hv
    split at hv
    · rename_i u hu
      obtain ⟨v', h1, h2⟩ := fieldAddr_run H (A.ev hu) hv
      exact ⟨v', fin h1, h2⟩
    · cases hv
  case field t x f =>
    simp only [reader'] at hv
    split at hv
    · rename_i cs fields hu ht
      split at hv
      · rename_i fd hf
        have := A.ev hu
        generalize hcv : act.eval x = cv at this
        cases this with
        | agg hc =>
          obtain ⟨v', h1, h2⟩ := part_run (w := w) hv hc
          have hf' : fields[f]? = some fd := by simpa using hf
          refine ⟨v', ?_, h2⟩
          simp [execOp, hcv, Instr.field, run_und ht, hf', asAgg, h1]
      · cases hv
    · cases hv
  case indexAddr t x i =>
    simp only [reader'] at hv
    split at hv
    · rename_i u1 u2 h1 h2
      obtain ⟨v', h3, h4⟩ := indexAddr_run H (A.ev h1) (A.ev h2) hv
      exact ⟨v', fin h3, h4⟩
    · cases hv
  case index t x i =>
    simp only [reader'] at hv
    split at hv
    · rename_i u1 u2 h1 h2
      obtain ⟨v', h3, h4⟩ := index_run (w := w) (A.ev h1) (A.ev h2) hv
      exact ⟨v', fin h3, h4⟩
    · cases hv
  case lookup t x i ok =>
    simp only [reader'] at hv
    split at hv
    · rename_i u1 u2 h1 h2
      obtain ⟨v', h3, h4⟩ := lookup_run W H (A.ev h1) (A.ev h2) hv
      exact ⟨v', fin h3, h4⟩
    · cases hv
  case typeAssert x t1 t2 ok =>
    simp only [reader'] at hv
    split at hv
    · rename_i u hu
      obtain ⟨v', h3, h4⟩ := typeAssert_run (w := w) (xt := t1) (A.ev hu) hv
      exact ⟨v', fin h3, h4⟩
    · cases hv
  case extract x i =>
    simp only [reader'] at hv
    split at hv
    · rename_i vs hu
      have := A.ev hu
      generalize hcv : act.eval x = cv at this
      cases this with
      | tuple hc =>
        rename_i vs'
        obtain ⟨v', h1, h2⟩ := hc.get hv
        have h1' : vs'[i]? = some v' := by simpa using h1
        refine ⟨v', ?_, h2⟩
        simp [execOp, hcv, Instr.extract, h1']
    · cases hv
  case entry x =>
    simp only [reader'] at hv
    split at hv
    · rename_i u hu
      obtain ⟨v', h3, h4⟩ := entry_run H (A.ev hu) hv
      exact ⟨v', fin h3, h4⟩
    · cases hv
  case call c =>
    obtain ⟨cal, args, ats⟩ := c
    cases cal with
    | value f => cases hr
    | invoke r m => cases hr
    | builtin b =>
      have hargs : ∀ {l : List Value}, evList a args.toList = some l → VRs ρ l (args.map act.eval).toList := fun hl => by simpa using A.evList hl
      cases b <;> simp only at hr <;> try (cases hr; done)
      · -- cap
        simp only [reader'] at hv
        split at hv
        · rename_i l hl
          obtain ⟨v', h1, h2⟩ := cap_run (ty := ty) H (hargs hl) hv
          exact ⟨v', by simp [execOp, resolve, invoke, builtin, h1], h2⟩
        · cases hv
      · -- len
        simp only [reader'] at hv
        split at hv
        · rename_i l hl
          obtain ⟨v', h1, h2⟩ := len_run (ty := ty) H (hargs hl) hv
          exact ⟨v', by simp [execOp, resolve, invoke, builtin, h1], h2⟩
        · cases hv
      · -- max
        simp only [reader'] at hv
        split at hv
        · rename_i x r hl
          obtain ⟨x', r', e, hx, hr'⟩ := (hargs hl).cons_inv
          have hrun : ∀ s, (r'.foldlM Builtin.max2 x').run P w = .ok s w → (Builtin.max_ ats ty (args.map act.eval)).run P w = .ok s w := by
            intro s hs
            simp only [Builtin.max_, e]
            exact hs
          rcases minmax_run (P := P) (w := w) true r x v x' r' hv hx hr' with h1 | ⟨rfl, rfl⟩
          · exact ⟨v, by simp [execOp, resolve, invoke, builtin, hrun _ h1.1], h1.2⟩
          · cases hr'
            exact ⟨x', by simp [execOp, resolve, invoke, builtin, hrun x' (by simp)], hx⟩
        · cases hv
      · -- min
        simp only [reader'] at hv
        split at hv
        · rename_i x r hl
          obtain ⟨x', r', e, hx, hr'⟩ := (hargs hl).cons_inv
          have hrun : ∀ s, (r'.foldlM Builtin.min2 x').run P w = .ok s w → (Builtin.min_ ats ty (args.map act.eval)).run P w = .ok s w := by
            intro s hs
            simp only [Builtin.min_, e]
            exact hs
          rcases minmax_run (P := P) (w := w) false r x v x' r' hv hx hr' with h1 | ⟨rfl, rfl⟩
          · exact ⟨v, by simp [execOp, resolve, invoke, builtin, hrun _ h1.1], h1.2⟩
          · cases hr'
            exact ⟨x', by simp [execOp, resolve, invoke, builtin, hrun x' (by simp)], hx⟩
        · cases hv

end Go.Ev
