/- For every grammar, Text tells what the document's answer tells, and Read of a told Text is the grammar (no condition on the grammar): part 2 of 6. -/
import Derived.Test.YtcnllhnhinmokaaGT0
import Derived.Laws.BytesArg
import Derived.LoopN
import Derived.Scope
import Derived.KernelRfl
import Derived.Test.YtcnllhnhinmokaaProg
import Derived.Below
import Derived.Deep.Draws
import Derived.Deep.AppendLies
import Derived.Maps.AppendAt
import Derived.OwnWalk
import Derived.Laws.MakeOwn
import Derived.Laws.OwnMore
import Derived.Deep.OwnRows
import Derived.Tactics
import Derived.Lib.ConvBytes
import Derived.Laws.Slices
import Derived.WalkKit
import Derived.RowKit3
import Derived.Deep.LoopGhost
import Derived.Deep.QuietTactic
import Derived.BigQuiet
import Derived.WideLaws
import Derived.Deep.DeepCutAuto
import Derived.Deep.CutBlock
import Derived.Deep.RegionHeld3
import Derived.Laws.Rows
import Derived.Lib.AppendStr
import Derived.ArgAppend
import Derived.Laws.IdiomCopy
import Derived.OrdersHeld
import Derived.Laws.BitsLemmas
import Derived.RowKit
section
set_option linter.unusedVariables false
set_option linter.unusedSimpArgs false
namespace Go.Ev
open Go.RowKit
variable {P : Program} {ρ : Rho} {N : Bs} {h : Hp} {w : World} {a : A} {act : Act}
structure ActR (ρ : Rho) (a : A) (act : Act) : Prop where
 get : ∀ t, VR ρ (a.get t) (act.tmps.getD t undef)
 size : act.tmps.size = a.n
 defers : act.defers = []
 n : a.n < most
theorem ActR.mono {ρ' : Rho} (hr : ρ.le ρ') (h : ActR ρ a act) : ActR ρ' a act := ⟨fun t => (h.get t).mono hr, h.size, h.defers, h.n⟩
theorem ActR.ev (h : ActR ρ a act) {x : Operand} {v : Value} (hv : a.ev x = some v) : VR ρ v (act.eval x) := by
 cases x with
 | tmp t => simp only [A.ev, Option.some.injEq] at hv; subst hv; exact h.get t
 | const u =>
   simp only [A.ev] at hv
   split at hv
   · rename_i hp
     injection hv with hv
     subst hv
     exact plain_VR _ _ hp
   · cases hv
 | global g => simp [A.ev] at hv
 | func f => simp only [A.ev, Option.some.injEq] at hv; subst hv; exact .func .nil .nil
theorem ActR.put (h : ActR ρ a act) {d : Option Nat} {v v' : Value} (hv : VR ρ v v') {a1 : A} (ha : a.put d v = some a1) : ActR ρ a1 (act.put d v') := by
 cases d with
 | none => simp only [A.put, Option.some.injEq] at ha; subst ha; exact h
 | some d =>
   simp only [A.put] at ha
   split at ha
   · rename_i hlt
     injection ha with ha
     subst ha
     have hlt' : d < a.n := by simpa [Nat.blt_eq] using hlt
     refine ⟨fun t => ?_, by simp [Act.put, h.size], h.defers, h.n⟩
     have hset := Tr.get_set' a.tmps d v t (by have := h.n; omega)
     unfold A.get
     simp only [hset]
     by_cases e : t = d
     · subst e
       have : t < act.tmps.size := by rw [h.size]; exact hlt'
       simpa [Act.put, Array.getD_eq_getD_getElem?, Array.getElem?_setIfInBounds_self_of_lt this] using hv
     · rw [if_neg e]
       have := h.get t
       unfold A.get at this
       simpa [Act.put, Array.getD_eq_getD_getElem?, Array.getElem?_setIfInBounds_ne (Ne.symm e)] using this
   · cases ha
theorem ActR.evList (h : ActR ρ a act) : ∀ {xs : List Operand} {l : List Value}, evList a xs = some l → VRs ρ l (xs.map act.eval)
 | [], l, hl => by simp only [Go.Ev.evList, Option.some.injEq] at hl; subst hl; exact .nil
 | x :: xs, l, hl => by
   simp only [Go.Ev.evList] at hl
   split at hl
   · rename_i v r hv hr
     injection hl with hl
     subst hl
     exact .cons (h.ev hv) (h.evList hr)
   · cases hl
inductive PRs (ρ : Rho) : List (Nat × Value) → List (Nat × Value) → Prop
 | nil : PRs ρ [] []
 | cons {i : Nat} {v v' : Value} {l l' : List (Nat × Value)} (h : VR ρ v v') (k : PRs ρ l l') : PRs ρ ((i, v) :: l) ((i, v') :: l')
theorem ActR.evPairs (h : ActR ρ a act) : ∀ {xs : List (Nat × Operand)} {l : List (Nat × Value)}, evPairs a xs = some l → PRs ρ l (xs.map fun p => (p.1, act.eval p.2))
 | [], l, hl => by simp only [Go.Ev.evPairs, Option.some.injEq] at hl; subst hl; exact .nil
 | (i, x) :: xs, l, hl => by
   simp only [Go.Ev.evPairs] at hl
   split at hl
   · rename_i v r hv hr
     injection hl with hl
     subst hl
     exact .cons (h.ev hv) (h.evPairs hr)
   · cases hl
theorem foldl_over (off : Nat) : ∀ (vs : List Value) (k : Nat) (cs : Array Value),
  (vs.zipIdx k).foldl (fun cs (x : Value × Nat) => cs.setIfInBounds (off + x.2) x.1) cs = over cs (off + k) vs
 | [], _, _ => rfl
 | v :: vs, k, cs => by
   simp only [List.zipIdx_cons, List.foldl_cons, over]
   rw [foldl_over off vs (k + 1)]
   rfl
theorem over_VRs {c c' vs vs' : List Value} (hc : VRs ρ c c') (hv : VRs ρ vs vs') {off : Nat} {c1 : List Value} (hs : splice c off vs = some c1) :
  off + vs'.length ≤ c'.length ∧ VRs ρ c1 (over c'.toArray off vs').toList := by
 obtain ⟨h1, h2, h3⟩ := splice_spec _ _ _ _ hs
 have l1 := hc.length
 have l2 := hv.length
 refine ⟨by omega, VRs.of_get (by rw [Array.length_toList, over_size]; simp; omega) fun k v hk => ?_⟩
 rw [h3] at hk
 have hg := over_get vs' c'.toArray off (by simp; omega) k
 by_cases hr : off ≤ k ∧ k < off + vs.length
 · rw [if_pos hr] at hk
   rw [if_pos (by omega)] at hg
   obtain ⟨v', e1, e2⟩ := hv.get hk
   exact ⟨v', by simpa [e1] using hg, e2⟩
 · rw [if_neg hr] at hk
   rw [if_neg (by omega)] at hg
   obtain ⟨v', e1, e2⟩ := hc.get hk
   exact ⟨v', by simpa [e1] using hg, e2⟩
theorem fill_run {place place' : Nat → Option (Nat × Nat)} (hp : ∀ i p, place i = some p → place' i = some p) : ∀ {ps ps' : List (Nat × Value)}, PRs ρ ps ps' → ∀ {c c1 : List Value} {c' : Array Value}, fill' place c ps = some c1 → VRs ρ c c'.toList →
  ∃ c1', Instr.fill place' c' ps' = some c1' ∧ VRs ρ c1 c1'.toList := by
 intro ps ps' hps
 induction hps with
 | nil =>
   intro c c1 c' hf hc
   simp only [fill', Option.some.injEq] at hf
   subst hf
   exact ⟨c', rfl, hc⟩
 | @cons i v v' l l' hv hl ih =>
   intro c c1 c' hf hc
   simp only [fill'] at hf
   split at hf
   · cases hf
   · rename_i off size hpl
     split at hf
     · cases hf
     · rename_i hsz
       split at hf
       · rename_i c2 hs
         have hcl := hv.cells.length
         obtain ⟨h1, h2⟩ := over_VRs hc hv.cells hs
         obtain ⟨c1', h3, h4⟩ := ih hf (by simpa using h2)
         refine ⟨c1', ?_, h4⟩
         have hsz' : v'.cells.size = size := by
          rw [← Array.length_toList, hcl]
          exact nbeq_true hsz
         have hle : ¬ (off + v'.cells.size > c'.size) := by
          rw [← Array.length_toList (xs := c'), ← Array.length_toList (xs := v'.cells)]
          omega
         simp only [Instr.fill, hp _ _ hpl]
         rw [if_neg (by simp [hsz']; rw [hsz'] at hle; omega)]
         have hfold : v'.cells.zipIdx.foldl (fun cs (x : Value × Nat) => cs.setIfInBounds (off + x.2) x.1) c' = over c' off v'.cells.toList := by
          rw [← Array.foldl_toList, Array.toList_zipIdx]
          have := foldl_over off v'.cells.toList 0 c'
          simpa using this
         have hfold' : v'.cells.zipIdx.foldl (fun cs (c, j) => cs.setIfInBounds (off + j) c) c' = over c' off v'.cells.toList := hfold
         rw [hfold']
         simpa using h3
       · cases hf
theorem places_run (W : WfP P) {fs : Array Field} (hf : ∀ f ∈ fs.toList, ∃ i, P.info? f.type = some i) :
  (fs.mapM fun f => do pure (f.offset, ← sizeOf f.type) : Sem (Array (Nat × Nat))).run P w = .ok (fs.map fun f => (f.offset, P.cellsOf f.type)) w := by
 rw [Array.mapM_eq_mapM_toList]
 have aux : ∀ l : List Field, (∀ f ∈ l, ∃ i, P.info? f.type = some i) → (l.mapM fun f => do pure (f.offset, ← sizeOf f.type) : Sem (List (Nat × Nat))).run P w = .ok (l.map fun f => (f.offset, P.cellsOf f.type)) w := by
  intro l
  induction l with
  | nil => intro _; simp
  | cons f l ih =>
    intro hl
    obtain ⟨i, hi⟩ := hl f (by simp)
    have h1 : (sizeOf f.type).run P w = .ok (P.cellsOf f.type) w := run_sizeOf w hi
    simp only [List.mapM_cons, Sem.run_bind, h1, Result.andThen_ok, Sem.run_pure]
    rw [ih (fun f hf => hl f (by simp [hf]))]
    simp
 rw [Sem.run_map, aux _ hf]
 simp only [Result.andThen_ok, List.map_toArray]
 congr 1
 apply Array.ext'
 simp
theorem build_run (W : WfP P) {t : TypeId} {ps : List (Nat × Value)} {ps' : Array (Nat × Value)} (hps : PRs ρ ps ps'.toList) {v : Value} (hv : build' P t ps = some v) :
  ∃ v', (Instr.build t ps').run P w = .ok v' w ∧ VR ρ v v' := by
 unfold build' at hv
 split at hv
 · cases hv
 · rename_i z hz
   obtain ⟨hzr, hzv⟩ := zero_run (w := w) (ρ := ρ) hz
   split at hv
   · rename_i fields hu
     split at hv
     case h_2 => cases hv
     rename_i hall
     rw [List.all_eq_true] at hall
     split at hv
     · rename_i c hc
       injection hv with hv
       subst hv
       obtain ⟨c', h1, h2⟩ := fill_run (place' := fun i => (fields.map fun f => (f.offset, P.cellsOf f.type))[i]?) (fun i p hp => by
        split at hp
        · rename_i f hf
          split at hp
          · rename_i s hs
            have := (size_some (w := w) hs).2
            injection hp with hp
            subst hp
            have hf' : fields[i]? = some f := by simpa using hf
            simp [hf', this]
          · cases hp
        · cases hp) hps hc hzv.cells
       refine ⟨.agg c', ?_, .agg h2⟩
       simp only [Instr.build, Sem.run_bind, hzr, Result.andThen_ok, run_und hu, places_run W (fun f hf => Option.isSome_iff_exists.1 (hall f hf))]
       rw [h1]
       simp
     · cases hv
   · rename_i n e hu
     split at hv
     · rename_i s hs
       split at hv
       · rename_i c hc
         injection hv with hv
         subst hv
         obtain ⟨c', h1, h2⟩ := fill_run (place' := fun i => some (i * s, s)) (fun i p hp => hp) hps hc hzv.cells
         refine ⟨.agg c', ?_, .agg h2⟩
         simp only [Instr.build, Sem.run_bind, hzr, Result.andThen_ok, run_und hu, (size_some (w := w) hs).1]
         rw [h1]
         simp
       · cases hv
     · cases hv
   · cases hv
theorem loadVar_run (H : HR P ρ N h w) {t : TypeId} {p p' : Addr} {i : Img} (hp : AR ρ p p' i) {v : Value} (hv : loadVar' P h t p = some v) :
  ∃ v', (loadVar t p').run P w = .ok v' w ∧ VR ρ v v' := by
 unfold loadVar' at hv
 cases hu : P.underlying t with
 | none => rw [hu] at hv; cases hv
 | some d =>
   have agg : ∀ j, P.info? t = some j → (∀ w, (isAgg t).run P w = .ok true w) → ∀ l, h.loads p j.size = some l → v = Value.agg l.toArray → ∃ v', (loadVar t p').run P w = .ok v' w ∧ VR ρ v v' := by
    intro j hj ha l hl e
    subst e
    obtain ⟨l', h1, h2, _⟩ := H.loads (.inr ⟨i, hp⟩) hl
    exact ⟨.agg l', by simp [loadVar, ha, run_size hj, h1], .agg (by simpa using h2)⟩
   have cell : (∀ w, (isAgg t).run P w = .ok false w) → h.load p = some v → ∃ v', (loadVar t p').run P w = .ok v' w ∧ VR ρ v v' := by
    intro ha e
    obtain ⟨v', h1, h2⟩ := H.load hp e
    exact ⟨v', by simp only [loadVar, Sem.run_bind, ha, Result.andThen_ok, Bool.false_eq_true, if_false, run_load_cell h1], h2⟩
   rw [hu] at hv
   cases d <;> simp only [] at hv <;> first
    | exact cell (fun w => by simp [isAgg, run_und hu]) hv
    | (split at hv
       · rename_i j hj
         split at hv
         · rename_i l hl
           injection hv with hv
           exact agg j hj (fun w => by simp [isAgg, run_und hu]) l hl hv.symm
         · cases hv
       · cases hv)
end Go.Ev
namespace Go.Ev
open Go.RowKit
variable {P : Program} {ρ : Rho} {N : Bs} {h : Hp} {w : World} {a : A} {act : Act}
theorem natOf_VR {x x' : Value} (hx : VR ρ x x') {n : Nat} (hn : natOf x = some n) : ∃ k, x' = .int k n := by
 unfold natOf at hn
 split at hn
 · injection hn with hn
   subst hn
   cases hx
   exact ⟨_, rfl⟩
 · cases hn
inductive OVR (ρ : Rho) : Option Value → Option Value → Prop
 | none : OVR ρ none none
 | some {v v' : Value} (h : VR ρ v v') : OVR ρ (some v) (some v')
theorem bound_run {v v' : Value} (hv : VR ρ v v') {d top n : Nat} (hb : bound' (some v) d top = some n) (top' : Nat) (ht : top ≤ top') (code : BoundsCode) :
  (Instr.sliceBound v' top' code).run P w = .ok n w ∧ n ≤ top := by
 unfold bound' at hb
 split at hb
 · rename_i e; cases e
 · rename_i k m e
   injection e with e
   subst e
   cases hv
   split at hb
   · rename_i hle
     injection hb with hb
     subst hb
     have : m ≤ top := by simpa using hle
     refine ⟨?_, this⟩
     have hc : (0 : Int) ≤ (m : Int) ∧ (m : Int) ≤ (top' : Int) := by omega
     simp only [Instr.sliceBound, asIntOf, Sem.run_bind, Sem.run_pure, Result.andThen_ok, Sem.run_ite]
     rw [if_pos (by exact hc)]
     simp
   · cases hb
 · cases hb
theorem size_data (s : ByteArray) : s.size = s.data.toList.length := by rw [Array.length_toList]; rfl
theorem extract_eq (s : ByteArray) (l hh : Nat) : s.extract l hh = ⟨((s.data.toList.take hh).drop l).toArray⟩ := by
 rw [ByteArray.ext_iff, ByteArray.data_extract]
 apply Array.ext'
 rw [Array.toList_extract, List.extract_eq_take_drop]
 simp [List.drop_take]
theorem bounds_run {isS : Bool} {len cap cap' : Nat} {lo hi lo' hi' : Option Value} (hlo : OVR ρ lo lo') (hhi : OVR ρ hi hi')
  (hc : cap ≤ cap') (hlen : len ≤ cap) {hh l : Nat} (h1 : bound' hi len cap = some hh) (h2 : bound' lo 0 hh = some l) :
  (Instr.sliceBounds isS len cap' lo' hi' none).run P w = .ok (l, hh, cap') w ∧ l ≤ hh ∧ hh ≤ cap := by
 cases hhi with
 | none =>
   simp only [bound', Option.some.injEq] at h1
   subst h1
   cases hlo with
   | none =>
     simp only [bound', Option.some.injEq] at h2
     subst h2
     exact ⟨by simp [Instr.sliceBounds], by omega, hlen⟩
   | some hl =>
     have r := bound_run (P := P) (w := w) hl h2 len (Nat.le_refl _) .sliceB
     exact ⟨by simp [Instr.sliceBounds, r.1], r.2, hlen⟩
 | some hhv =>
   have q := fun code => bound_run (P := P) (w := w) hhv h1 cap' hc code
   cases hlo with
   | none =>
     simp only [bound', Option.some.injEq] at h2
     subst h2
     exact ⟨by simp [Instr.sliceBounds, (q _).1], by omega, (q .sliceB).2⟩
   | some hl =>
     have r := bound_run (P := P) (w := w) hl h2 hh (Nat.le_refl _) .sliceB
     exact ⟨by simp [Instr.sliceBounds, (q _).1, r.1], r.2, (q .sliceB).2⟩
theorem AR.add_zero {p p' : Addr} {i : Img} (hp : AR ρ p p' i) : AR ρ (p.add 0) p' i := by simpa [Addr.add] using hp
theorem cut_VR {p p' : Addr} {i : Img} (hp : AR ρ p p' i) {c c' l hh sz : Nat} (hc : CapOk i p.off c c') (h1 : l ≤ hh) (h2 : hh ≤ c) (hz : c' ≠ c → i.z = sz) :
  VR ρ (.slice (some (p.add (l * sz))) (hh - l) (c - l)) (.slice (if c' = l then some p' else some (p'.add (l * sz))) (hh - l) (c' - l)) := by
 by_cases hl : c' = l
 · have hcc : c ≤ c' := by rcases hc with h | h <;> omega
   have e1 : hh - l = 0 := by omega
   have e2 : c - l = 0 := by omega
   have e3 : c' - l = 0 := by omega
   rw [if_pos hl, e1, e2, e3]
   exact .slZero _ _ (i := i) (show ρ (Addr.add p _).block = some i by rw [add_block]; exact hp.2.1)
 · rw [if_neg hl]
   refine .sl (hp.add _) ?_
   rcases hc with rfl | ⟨he, hcc, hm⟩
   · exact .inl rfl
   · by_cases hcc' : c' = c
     · exact .inl (by rw [hcc'])
     · have hz' := hz hcc'
       subst hz'
       refine .inr ⟨he, by omega, ?_⟩
       rw [add_off]
       have : l * i.z + (c' - l) * i.z = c' * i.z := by rw [← Nat.add_mul]; congr 1; omega
       omega
theorem slice_run (H : HR P ρ N h w) {t : TypeId} {x x' : Value} {lo hi mx lo' hi' mx' : Option Value} (hx : VR ρ x x')
  (hlo : OVR ρ lo lo') (hhi : OVR ρ hi hi') (hmx : OVR ρ mx mx') {v : Value} (hv : slice' P h t x lo hi mx = some v) :
  ∃ v', (Instr.sliceAt t x' lo' hi' mx').run P w = .ok v' w ∧ VR ρ v v' := by
 unfold slice' at hv
 split at hv
 ·
   rename_i s hu
   cases hx
   split at hv
   · cases hv
   · cases hmx
     split at hv
     · rename_i hh h1
       split at hv
       · rename_i l h2
         injection hv with hv
         subst hv
         obtain ⟨hb, _, _⟩ := bounds_run (P := P) (w := w) (isS := false) (cap' := s.data.toList.length) hlo hhi (Nat.le_refl _) (Nat.le_refl _) h1 h2
         refine ⟨.string (s.extract l hh), ?_, by rw [extract_eq]; exact .string _⟩
         rw [← size_data] at hb
         simp [Instr.sliceAt, run_und hu, Instr.slice, hb]
       · cases hv
     · cases hv
 ·
   rename_i e b len cap hu
   split at hv
   · cases hv
   · rename_i sz hsz
     obtain ⟨hszr, hszc⟩ := size_some (w := w) hsz
     simp only [] at hv
     split at hv
     · cases hv
     · cases hv
     · rename_i hok hle0
       have hle : len ≤ cap := by simpa using hle0
       split at hv
       ·
         rename_i mv
         cases hmx with
         | @some _ mv' hmv =>
         split at hv
         · rename_i m h0
           split at hv
           · cases hv
           · rename_i hiv
             cases hhi with
             | @some _ hv' hhv =>
             split at hv
             · rename_i hh h1
               split at hv
               · rename_i l h2
                 injection hv with hv
                 subst hv
                 have base : ∀ b' c', x' = .slice b' len c' → cap ≤ c' →
                   VR ρ (.slice (b.map (·.add (l * sz))) (hh - l) (m - l)) (.slice (if m = l then b' else b'.map (·.add (l * sz))) (hh - l) (m - l)) →
                   ∃ v', (Instr.sliceAt t x' lo' (some hv') (some mv')).run P w = .ok v' w ∧ VR ρ (.slice (b.map (·.add (l * sz))) (hh - l) (m - l)) v' := by
                  intro b' c' ex hcc hvr
                  subst ex
                  refine ⟨_, ?_, hvr⟩
                  have r0 := bound_run (P := P) (w := w) hmv h0 c' hcc .slice3Acap
                  have r1 := bound_run (P := P) (w := w) hhv h1 m (Nat.le_refl _) .slice3B
                  cases hlo with
                  | none =>
                    simp only [bound', Option.some.injEq] at h2
                    subst h2
                    simp [Instr.sliceAt, run_und hu, Instr.slice, Instr.sliceBounds, r0.1, r1.1, hszr]
                  | some hlv =>
                    have r2 := bound_run (P := P) (w := w) hlv h2 hh (Nat.le_refl _) .slice3C
                    simp [Instr.sliceAt, run_und hu, Instr.slice, Instr.sliceBounds, r0.1, r1.1, r2.1, hszr]
                 have hm1 : m ≤ cap := (bound_run (P := P) (w := w) hmv h0 cap (Nat.le_refl _) .sliceB).2
                 have hh1 : hh ≤ m := (bound_run (P := P) (w := w) hhv h1 m (Nat.le_refl _) .sliceB).2
                 have hl1 : l ≤ hh := by
                  cases hlo with
                  | none => simp only [bound', Option.some.injEq] at h2; omega
                  | some hlv =>
                    exact (bound_run (P := P) (w := w) hlv h2 hh (Nat.le_refl _) .sliceB).2
                 cases hx with
                 | slNil =>
                   refine base none 0 rfl (Nat.le_refl _) ?_
                   have e1 : hh - l = 0 := by omega
                   have e2 : m - l = 0 := by omega
                   rw [e1, e2]
                   simpa using VR.slNil
                 | sl hp hc =>
                   refine base (some _) _ rfl (by rcases hc with h | h <;> omega) ?_
                   have := cut_VR (c := m) (c' := m) (l := l) (hh := hh) (sz := sz) hp (.inl rfl) hl1 hh1 (fun e => absurd rfl e)
                   simpa using this
                 | slZero p p' hz =>
                   refine base (some _) _ rfl (Nat.le_refl _) ?_
                   have e1 : hh - l = 0 := by omega
                   have e2 : m - l = 0 := by omega
                   have e3 : m = l := by omega
                   rw [e1, e2, if_pos e3]
                   exact .slZero _ _ (show ρ (Addr.add p _).block = some _ by rw [add_block]; exact hz)
               · cases hv
             · cases hv
         · cases hv
       · cases hmx
         split at hv
         · rename_i hh h1
           split at hv
           · rename_i l h2
             injection hv with hv
             subst hv
             have base : ∀ b' c', x' = .slice b' len c' → cap ≤ c' → (l ≤ hh → hh ≤ cap →
               VR ρ (.slice (b.map (·.add (l * sz))) (hh - l) (cap - l)) (.slice (if c' = l then b' else b'.map (·.add (l * sz))) (hh - l) (c' - l))) →
               ∃ v', (Instr.sliceAt t x' lo' hi' none).run P w = .ok v' w ∧ VR ρ (.slice (b.map (·.add (l * sz))) (hh - l) (cap - l)) v' := by
              intro b' c' ex hcc hvr
              subst ex
              obtain ⟨hb, g1, g2⟩ := bounds_run (P := P) (w := w) (isS := true) (cap' := c') hlo hhi hcc hle h1 h2
              exact ⟨_, by simp [Instr.sliceAt, run_und hu, Instr.slice, hb, hszr], hvr g1 g2⟩
             cases hx with
             | slNil =>
               refine base none 0 rfl (Nat.le_refl _) (fun g1 g2 => ?_)
               have e1 : hh - l = 0 := by omega
               have e2 : 0 - l = 0 := by omega
               rw [e1, e2]
               simpa using VR.slNil
             | @sl p p' i n c c' hp hc =>
               refine base (some _) _ rfl (by rcases hc with h | h <;> omega) (fun g1 g2 => ?_)
               refine cut_VR hp hc g1 g2 (fun hne => ?_)
               rcases hc with h | ⟨hex, _, _⟩
               · exact absurd h hne
               · simp only [] at hok
                 split at hok
                 · rename_i r hsp hr
                   obtain ⟨arr, e0, fr, hw, hR, _⟩ := H.row hr hp.2.1
                   split at hok
                   · split at hok
                     · rename_i z0 hz0
                       have h5 := (size_some (w := w) hz0).2
                       have h6 := hR.2.2.2.2.2.2 hex
                       have h7 : z0 = sz := nbeq_true (by simpa using hok)
                       omega
                     · cases hok
                   · rename_i hgr
                     have := (hR.2.2.2.2.2.1 hgr).1
                     rw [this] at hex
                     cases hex
                 · cases hok
             | slZero p p' hz =>
               refine base (some _) _ rfl (Nat.le_refl _) (fun g1 g2 => ?_)
               have e1 : hh - l = 0 := by omega
               have e2 : 0 - l = 0 := by omega
               have e3 : 0 = l := by omega
               rw [e1, e2, if_pos e3]
               exact .slZero _ _ (show ρ (Addr.add p _).block = some _ by rw [add_block]; exact hz)
           · cases hv
         · cases hv
 ·
   rename_i n e p hu
   cases hx with
   | ptr hp =>
     split at hv
     · rename_i sz r hsz hsp hr
       obtain ⟨hszr, _⟩ := size_some (w := w) hsz
       split at hv
       · rename_i hgr
         cases hmx
         split at hv
         · rename_i hh h1
           split at hv
           · rename_i l h2
             injection hv with hv
             subst hv
             obtain ⟨hb, g1, g2⟩ := bounds_run (P := P) (w := w) (isS := false) (cap' := n) hlo hhi (Nat.le_refl _) (Nat.le_refl _) h1 h2
             have := cut_VR (c := n) (c' := n) (l := l) (hh := hh) (sz := sz) hp (.inl rfl) g1 g2 (fun e => absurd rfl e)
             refine ⟨_, ?_, this⟩
             simp only [Instr.sliceAt, Sem.run_bind, run_und hu, Result.andThen_ok, Instr.sureAddr, Sem.run_pure, hb, hszr]
             by_cases hnl : n = l <;> simp [hnl]
           · cases hv
         · cases hv
       · cases hv
     · cases hv
 · cases hv
theorem fieldAddr_run (H : HR P ρ N h w) {t : TypeId} {x x' : Value} {f : Nat} (hx : VR ρ x x') {v : Value} (hv : fieldAddr' P t x f = some v) :
  ∃ v', (Instr.fieldAt t x' f).run P w = .ok v' w ∧ VR ρ v v' := by
 unfold fieldAddr' at hv
 split at hv
 · rename_i fields p hu
   cases hx with
   | ptr hp =>
     split at hv
     · rename_i fd hf hsp
       split at hv
       · rename_i s hs
         injection hv with hv
         subst hv
         obtain ⟨hsr, _⟩ := size_some (w := w) hs
         have hf' : fields[f]? = some fd := by simpa using hf
         refine ⟨_, ?_, .ptr (hp.add fd.offset)⟩
         simp [Instr.fieldAt, run_und hu, hf', Instr.sureAddr, fieldPlace, hsr]
       · cases hv
     · cases hv
 · cases hv
theorem indexAddr_run (H : HR P ρ N h w) {t : TypeId} {x x' y y' : Value} (hx : VR ρ x x') (hy : VR ρ y y') {v : Value} (hv : indexAddr' P t x y = some v) :
  ∃ v', (Instr.indexAt t x' y').run P w = .ok v' w ∧ VR ρ v v' := by
 unfold indexAddr' at hv
 split at hv
 · rename_i e p len c k hu hk
   obtain ⟨kk, rfl⟩ := natOf_VR hy hk
   have one : ∀ p' c', x' = .slice (some p') len c' → k < len → ∀ s, sizeOf' P e = some s → ∀ i, AR ρ p p' i → ∃ v', (Instr.indexAt t x' (.int kk k)).run P w = .ok v' w ∧ VR ρ (.pointer (some (p.add (k * s)))) v' := by
    intro p' c' ex hlt s hs i hp
    subst ex
    obtain ⟨hsr, _⟩ := size_some (w := w) hs
    refine ⟨_, ?_, .ptr (hp.add (k * s))⟩
    have hc : (0 : Int) ≤ (k : Int) ∧ (k : Int) < (len : Int) := by omega
    simp [Instr.indexAt, asIntOf, run_und hu, hsr, hlt]
   split at hv
   · rename_i s hlt hs hsp
     injection hv with hv
     subst hv
     have hlt' : k < len := by simpa [Nat.blt_eq] using hlt
     cases hx with
     | sl hp hc => exact one _ _ rfl hlt' s hs _ hp
     | slZero => omega
   · cases hv
 · rename_i len e p k hu hk
   obtain ⟨kk, rfl⟩ := natOf_VR hy hk
   split at hv
   · rename_i s hlt hs hsp
     injection hv with hv
     subst hv
     have hlt' : k < len := by simpa [Nat.blt_eq] using hlt
     cases hx with
     | ptr hp =>
       obtain ⟨hsr, _⟩ := size_some (w := w) hs
       refine ⟨_, ?_, .ptr (hp.add (k * s))⟩
       simp [Instr.indexAt, asIntOf, run_und hu, hsr, hlt', Instr.sureAddr]
   · cases hv
 · cases hv
theorem index_run {t : TypeId} {x x' y y' : Value} (hx : VR ρ x x') (hy : VR ρ y y') {v : Value} (hv : index' P t x y = some v) :
  ∃ v', (Instr.index t x' y').run P w = .ok v' w ∧ VR ρ v v' := by
 unfold index' at hv
 split at hv
 · rename_i len e cs k hu hk
   obtain ⟨kk, rfl⟩ := natOf_VR hy hk
   split at hv
   · rename_i s hlt hs
     have hlt' : k < len := by simpa [Nat.blt_eq] using hlt
     cases hx with
     | agg hc =>
       obtain ⟨hsr, _⟩ := size_some (w := w) hs
       obtain ⟨v', h1, h2⟩ := part_run (w := w) hv hc
       refine ⟨v', ?_, h2⟩
       simp [Instr.index, asIntOf, run_und hu, hsr, hlt', h1]
   · cases hv
 · rename_i s k hu hk
   obtain ⟨kk, rfl⟩ := natOf_VR hy hk
   split at hv
   · rename_i b hb
     injection hv with hv
     subst hv
     cases hx
     refine ⟨_, ?_, .int _ _⟩
     have hb' : s[k]? = some b := by
      have hb2 : s.data[k]? = some b := by simpa using hb
      rw [← hb2]
      rfl
     have h0 : (0 : Int) ≤ (k : Int) := by omega
     simp [Instr.index, asIntOf, run_und hu, hb']
   · cases hv
 · cases hv
end Go.Ev
namespace Go.Ev
open Go.RowKit
variable {P : Program} {ρ : Rho} {N : Bs} {h : Hp} {w : World} {a : A} {act : Act}
theorem checkKey_run (W : WfP P) : ∀ (d : Nat) (t : TypeId) (v v' : Value), keyOk P d t v = true → VR ρ v v' → ∀ D, d ≤ D → ∀ em, (Instr.checkKey em D t v').run P w = .ok () w := by
 intro d
 induction d with
 | zero => intro t v v' hk; simp [keyOk] at hk
 | succ d ih =>
   intro t v v' hk hv D hD em
   obtain ⟨D, rfl⟩ : ∃ k, D = k + 1 := ⟨D - 1, by omega⟩
   cases hu : P.underlying t with
   | none => simp only [keyOk, hu] at hk; cases hk
   | some q =>
   cases q
   case interface ms =>
    simp only [keyOk, hu] at hk
    cases hv <;> simp only [] at hk <;> first
     | (cases hk; done)
     | (simp [Instr.checkKey, run_und hu]; done)
     | skip
    rename_i hx
    split at hk
    · rename_i i hi
      split at hk
      · rename_i hc
        have := ih _ _ _ hk hx D (by omega) em
        simp [Instr.checkKey, run_und hu, run_info hi, hc, this]
      · cases hk
    · cases hk
   case array n e =>
    simp only [keyOk, hu] at hk
    cases hv <;> cases hk
   case struct fields =>
    simp only [keyOk, hu] at hk
    cases hv <;> simp only [] at hk <;> first
     | (cases hk; done)
     | skip
    rename_i cs cs' hc
    simp only [Instr.checkKey, Sem.run_bind, run_und hu, Result.andThen_ok]
    rw [← Array.forIn_toList]
    have aux : ∀ fs : List Field, (fs.all fun f => match f.name == "_" with
      | true => true
      | false => match part P f.type cs.toList f.offset with
        | some p => keyOk P d f.type p
        | none => false) = true →
      (forIn fs PUnit.unit fun f r => (do
       if f.name ≠ "_" then do
        Instr.checkKey em D f.type (← Go.part f.type cs' f.offset)
        pure PUnit.unit
        pure (ForInStep.yield PUnit.unit)
       else do
        pure PUnit.unit
        pure (ForInStep.yield PUnit.unit) : Sem (ForInStep PUnit))).run P w = .ok PUnit.unit w := by
     intro fs
     induction fs with
     | nil => intro _; simp
     | cons f fs ihf =>
       intro hall
       simp only [List.all_cons, Bool.and_eq_true] at hall
       obtain ⟨h1, h2⟩ := hall
       simp only [List.forIn_cons]
       by_cases hn : f.name = "_"
       · simp only [hn, ne_eq, not_true, if_false, Sem.run_bind, Sem.run_pure, Result.andThen_ok]
         exact ihf h2
       · have hb : (f.name == "_") = false := by simpa using hn
         rw [hb] at h1
         simp only [] at h1
         split at h1
         · rename_i p hp
           obtain ⟨p', e1, e2⟩ := part_run (w := w) hp hc
           have := ih _ _ _ h1 e2 D (by omega) em
           simp only [ne_eq, hn, not_false_eq_true, if_true, Sem.run_bind, e1, Result.andThen_ok, this, Sem.run_pure]
           exact ihf h2
         · cases h1
    have := aux fields.toList hk
    simp at this ⊢
    rw [this]
    rfl
   all_goals simp [Instr.checkKey, run_und hu]
end Go.Ev
namespace Go.Ev
open Go.RowKit
variable {P : Program} {ρ : Rho} {N : Bs} {h : Hp} {w : World} {a : A} {act : Act}
theorem MRs.length : ∀ {l l' : List MapEntry}, MRs ρ l l' → l'.length = l.length
 | _, _, .nil => rfl
 | _, _, .cons _ _ _ k => by simp [MRs.length k]
theorem MRs.get : ∀ {l l' : List MapEntry}, MRs ρ l l' → ∀ {k : Nat} {e : MapEntry}, l[k]? = some e → ∃ e', l'[k]? = some e' ∧ VR ρ e.key e'.key ∧ VR ρ e.val e'.val ∧ e'.born = e.born
 | _, _, .nil, k, e, h => by simp at h
 | _, _, .cons (e' := e') hk hv hb _, 0, e, h => by simp at h; subst h; exact ⟨e', rfl, hk, hv, hb⟩
 | _, _, .cons _ _ _ r, k + 1, e, h => by simp at h; simpa using MRs.get r h
theorem sameNow_eqv {t : TypeId} {kind : TypeDesc} (hu : P.underlying t = some kind) {k k' y y' : Value} (hk : VR ρ k k') (hy : VR ρ y y') {r b : Bool} {d : Nat} (hr : eqv P h (d + 1) t k y = some r) (hb : Instr.sameNow kind k' y' = some b) : b = r := by
 unfold Instr.sameNow at hb
 split at hb
 · cases hk; cases hy
   simp only [eqv, hu] at hr
   split at hr
   · injection hr with hr
     split at hb
     · injection hb with hb
       rw [← hb, ← hr, intEq_beq]
     · cases hb
   · cases hr
 · cases hk; cases hy
   simp only [eqv, hu] at hr
   injection hr with hr
   injection hb with hb
   rw [← hb, ← hr, bytesEq_beq, beq_toListBytes, ByteArray.toList_eq, ByteArray.toList_eq]
 · cases hk; cases hy
   simp only [eqv, hu] at hr
   injection hr with hr
   injection hb with hb
   rw [← hb, ← hr]
 · cases hb
inductive FR (ρ : Rho) : Option (Nat × Value) → Option (Nat × Value) → Prop
 | none : FR ρ none none
 | some {i : Nat} {v v' : Value} (h : VR ρ v v') : FR ρ (some (i, v)) (some (i, v'))
theorem find_run (H : HR P ρ N h w) {t : TypeId} {kind : TypeDesc} (hu : P.underlying t = some kind) {k k' : Value} (hk : VR ρ k k') : ∀ {es es' : List MapEntry}, MRs ρ es es' → ∀ {i : Nat} {res : Option (Nat × Value)}, find' P h t k es i = some res →
  ∃ res', (Instr.findNow kind k' es' i = none ∨ Instr.findNow kind k' es' i = some res') ∧ (Instr.findAsking t k' es' i).run P w = .ok res' w ∧ FR ρ res res' := by
 intro es es' hes
 induction hes with
 | nil =>
   intro i res hf
   simp only [find', Option.some.injEq] at hf
   subst hf
   exact ⟨none, .inr rfl, by simp [Instr.findAsking], .none⟩
 | @cons e e' l l' hke hve hbe hl ih =>
   intro i res hf
   simp only [find'] at hf
   split at hf
   · rename_i he
     injection hf with hf
     subst hf
     refine ⟨some (i, e'.val), ?_, ?_, .some hve⟩
     · simp only [Instr.findNow]
       cases hs : Instr.sameNow kind k' e'.key with
       | none => exact .inl rfl
       | some b =>
         have := sameNow_eqv hu hk hke he hs
         subst this
         exact .inr rfl
     · simp [Instr.findAsking, equal_run H he hk hke]
   · rename_i he
     obtain ⟨res', h1, h2, h3⟩ := ih hf
     refine ⟨res', ?_, ?_, h3⟩
     · simp only [Instr.findNow]
       cases hs : Instr.sameNow kind k' e'.key with
       | none => exact .inl rfl
       | some b =>
         have := sameNow_eqv hu hk hke he hs
         subst this
         exact h1
     · simp [Instr.findAsking, equal_run H he hk hke, h2]
   · cases hf
theorem findKey_run (H : HR P ρ N h w) {t : TypeId} {k k' : Value} (hk : VR ρ k k') {es es' : List MapEntry} (hes : MRs ρ es es') {res : Option (Nat × Value)} (hf : find' P h t k es 0 = some res) {kind : TypeDesc} (hu : P.underlying t = some kind) :
  ∃ res', (Instr.findKey t k' es').run P w = .ok res' w ∧ FR ρ res res' := by
 obtain ⟨res', h1, h2, h3⟩ := find_run H hu hk hes hf
 refine ⟨res', ?_, h3⟩
 simp only [Instr.findKey, Sem.run_bind, run_und hu, Result.andThen_ok]
 rcases h1 with h1 | h1 <;> rw [h1]
 · exact h2
 · simp
theorem run_getMap {r : Nat} {es : Array MapEntry} {k : Nat} (hw : w.heap[r]? = some (.map es k)) : (getObj r).run P w = .ok (.map es k) w := by
 simp [getObj, Sem.run, hw]
theorem entries_run (H : HR P ρ N h w) {x x' : Value} (hx : VR ρ x x') {es : List MapEntry} (he : entriesOf h x = some es) :
  (x' = .map none ∧ es = []) ∨ ∃ (r : Nat) (es' : Array MapEntry) (k : Nat), x' = .map (some r) ∧ (getObj r).run P w = .ok (.map es' k) w ∧ MRs ρ es es'.toList := by
 unfold entriesOf at he
 split at he
 · cases hx
   injection he with he
   subst he
   exact .inl ⟨rfl, rfl⟩
 · rename_i r
   cases hx with
   | map hi =>
     split at he
     · rename_i es1 k hm
       injection he with he
       subst he
       obtain ⟨es', hw, hR, _⟩ := H.map? hm hi
       exact .inr ⟨_, es', k, rfl, run_getMap hw, hR⟩
     · cases he
 · cases he
theorem und_of_keyOk {d : Nat} {t : TypeId} {v : Value} (hk : keyOk P d t v = true) : ∃ kind, P.underlying t = some kind := by
 cases d with
 | zero => simp [keyOk] at hk
 | succ d =>
   cases hu : P.underlying t with
   | none => simp [keyOk, hu] at hk
   | some q => exact ⟨q, rfl⟩
theorem lookup_run (W : WfP P) (H : HR P ρ N h w) {t : TypeId} {x x' k k' : Value} (hx : VR ρ x x') (hk : VR ρ k k') {ok : Bool} {v : Value} (hv : lookup' P h t x k ok = some v) :
  ∃ v', (Instr.lookup t x' k' ok).run P w = .ok v' w ∧ VR ρ v v' := by
 unfold lookup' at hv
 split at hv
 · rename_i kt et hu
   split at hv
   · rename_i es hes hko
     obtain ⟨kind, hkd⟩ := und_of_keyOk hko
     have fin : ∀ (v v' : Value) (b : Bool), VR ρ v v' → VR ρ (if ok then .tuple #[v, .bool b] else v) (if ok then .tuple #[v', .bool b] else v') := by
      intro v v' b hvv
      cases ok
      · simpa using hvv
      · simpa using VR.tuple (c := #[v, .bool b]) (c' := #[v', .bool b]) (.cons hvv (.cons (.bool b) .nil))
     have hck := fun em => checkKey_run (w := w) W 40 kt k k' hko hk 10000 (by omega) em
     have main : ∀ (es' : List MapEntry), MRs ρ es es' → ∃ res', (Instr.findKey kt k' es').run P w = .ok res' w ∧
       ((∃ j u', res' = some (j, u') ∧ VR ρ v (if ok then .tuple #[u', .bool true] else u')) ∨ (res' = none ∧ ∃ z, (zeroValue et).run P w = .ok z w ∧ VR ρ v (if ok then .tuple #[z, .bool false] else z))) := by
      intro es' hR
      split at hv
      · rename_i j u hf
        injection hv with hv
        subst hv
        obtain ⟨res', h1, h2⟩ := findKey_run H hk hR hf hkd
        cases h2 with
        | some hu2 => exact ⟨_, h1, .inl ⟨_, _, rfl, fin _ _ true hu2⟩⟩
      · rename_i hf
        obtain ⟨res', h1, h2⟩ := findKey_run H hk hR hf hkd
        split at hv
        · rename_i z hz
          injection hv with hv
          subst hv
          obtain ⟨hzr, hzv⟩ := zero_run (w := w) (ρ := ρ) hz
          cases h2 with
          | none => exact ⟨_, h1, .inr ⟨rfl, _, hzr, fin _ _ false hzv⟩⟩
        · cases hv
      · cases hv
     rcases entries_run H hx hes with ⟨rfl, rfl⟩ | ⟨r, es', kk, rfl, hg, hR⟩
     · obtain ⟨res', e1, e2⟩ := main [] .nil
       rcases e2 with ⟨j, u', rfl, e2⟩ | ⟨rfl, z, e3, e2⟩
       · exact ⟨_, by simp [Instr.lookup, run_und hu, hck, e1], e2⟩
       · exact ⟨_, by simp [Instr.lookup, run_und hu, hck, e1, e3], e2⟩
     · obtain ⟨res', e1, e2⟩ := main es'.toList hR
       rcases e2 with ⟨j, u', rfl, e2⟩ | ⟨rfl, z, e3, e2⟩
       · exact ⟨_, by simp [Instr.lookup, run_und hu, hck, hg, e1], e2⟩
       · exact ⟨_, by simp [Instr.lookup, run_und hu, hck, hg, e1, e3], e2⟩
   · cases hv
 · cases hv
theorem least_some {l : List String} (h : l ≠ []) : ∃ s, Instr.least l = some s := by
 cases l with
 | nil => exact absurd rfl h
 | cons x r => exact ⟨_, rfl⟩
theorem least_either (dotted : String → Bool) (g : String → String) (l : List String) (hl : l ≠ []) :
  ∃ s, (Instr.least (l.filter (not ∘ dotted)) <|> Instr.least ((l.filter dotted).map g)) = some s := by
 cases l with
 | nil => exact absurd rfl hl
 | cons x r =>
   by_cases hx : dotted x = true
   · have h1 : (x :: r).filter dotted ≠ [] := by
      rw [List.filter_cons_of_pos hx]; simp
     cases hl : Instr.least ((x :: r).filter (not ∘ dotted)) with
     | some s => exact ⟨s, rfl⟩
     | none =>
       obtain ⟨s, hs⟩ := least_some (l := ((x :: r).filter dotted).map g) (by simpa using h1)
       exact ⟨s, by rw [hs]; rfl⟩
   · have h1 : (x :: r).filter (not ∘ dotted) ≠ [] := by
      rw [List.filter_cons_of_pos (by simpa using hx)]; simp
     obtain ⟨s, hs⟩ := least_some h1
     exact ⟨s, by rw [hs]; rfl⟩
theorem missing_iff (want : Array (String × TypeId)) (got : Array Method) :
  ((want.toList.all fun (n, s) => got.toList.any fun m => m.name == n && Nat.beq m.sig s) = true → Instr.missingMethod want got = none) ∧
  ((want.toList.all fun (n, s) => got.toList.any fun m => m.name == n && Nat.beq m.sig s) = false → ∃ s, Instr.missingMethod want got = some s) := by
 have hany : ∀ (n : String) (s : TypeId), (got.any fun m => m.name == n && m.sig == s) = (got.toList.any fun m => m.name == n && Nat.beq m.sig s) := by
  intro n s
  rw [← Array.any_toList]
  congr 1
  funext m
  congr 1
  rw [Bool.eq_iff_iff]
  simp
 constructor
 · intro hall
   have : (want.toList.filter fun (x : String × TypeId) => !got.any fun m => m.name == x.1 && m.sig == x.2) = [] := by
    rw [List.filter_eq_nil_iff]
    intro x hx
    rw [List.all_eq_true] at hall
    have := hall x hx
    simp only [hany]
    simpa using this
   simp only [Instr.missingMethod]
   have h2 : (want.toList.filter fun x => match x with
    | (name, sig) => !got.any fun m => m.name == name && m.sig == sig) = [] := this
   rw [h2]
   rfl
 · intro hall
   have hne : (want.toList.filter fun (x : String × TypeId) => !got.any fun m => m.name == x.1 && m.sig == x.2) ≠ [] := by
    intro e
    rw [List.filter_eq_nil_iff] at e
    have : (want.toList.all fun (n, s) => got.toList.any fun m => m.name == n && Nat.beq m.sig s) = true := by
     rw [List.all_eq_true]
     intro x hx
     have := e x hx
     simp only [hany] at this
     simpa using this
    rw [this] at hall
    cases hall
   simp only [Instr.missingMethod]
   generalize hL : (want.toList.filter fun x => match x with
    | (name, sig) => !got.any fun m => m.name == name && m.sig == sig) = L
   have hL' : L ≠ [] := by rw [← hL]; exact hne
   simp only [List.partition_eq_filter_filter]
   exact least_either _ _ _ (by simpa using hL')
end Go.Ev
namespace Go.Ev
open Go.RowKit
variable {P : Program} {ρ : Rho} {N : Bs} {h : Hp} {w : World} {a : A} {act : Act}
theorem typeAssert_run {x x' : Value} (hx : VR ρ x x') {xt t : TypeId} {ok : Bool} {v : Value} (hv : typeAssert' P x t ok = some v) :
  ∃ v', (Instr.typeAssert x' xt t ok).run P w = .ok v' w ∧ VR ρ v v' := by
 have fails : ∀ {z : Value}, zero' P t = some z → (zeroValue t).run P w = .ok z w ∧ VR ρ (.tuple #[z, .bool false]) (.tuple #[z, .bool false]) := by
  intro z hz
  obtain ⟨h1, h2⟩ := zero_run (w := w) (ρ := ρ) hz
  exact ⟨h1, .tuple (c := #[z, .bool false]) (c' := #[z, .bool false]) (.cons h2 (.cons (.bool false) .nil))⟩
 have holds : ∀ {u u' : Value}, VR ρ u u' → VR ρ (if ok then .tuple #[u, .bool true] else u) (if ok then .tuple #[u', .bool true] else u') := by
  intro u u' hu
  cases ok
  · simpa using hu
  · simpa using VR.tuple (c := #[u, .bool true]) (c' := #[u', .bool true]) (.cons hu (.cons (.bool true) .nil))
 unfold typeAssert' at hv
 split at hv
 · rename_i want ti u hu
   have hx0 := hx
   cases hx with
   | @iface _ _ u' hxu =>
   split at hv
   · rename_i i hi
     split at hv
     · rename_i hall
       injection hv with hv
       subst hv
       have := (missing_iff want i.methods).1 hall
       exact ⟨_, by simp [Instr.typeAssert, run_und hu, run_info hi, this], holds hx0⟩
     · rename_i hall
       split at hv
       · rename_i z hz
         injection hv with hv
         subst hv
         obtain ⟨s, hs⟩ := (missing_iff want i.methods).2 hall
         exact ⟨_, by simp [Instr.typeAssert, run_und hu, run_info hi, hs, (fails hz).1], (fails hz).2⟩
       · cases hv
   · cases hv
 · rename_i q hu
   cases hx
   split at hv
   · rename_i z hz
     injection hv with hv
     subst hv
     refine ⟨_, ?_, (fails hz).2⟩
     cases q <;> simp [Instr.typeAssert, run_und hu, (fails hz).1]
   · cases hv
 · cases hv
 · rename_i q ti u hni hu
   cases hx with
   | iface hxu =>
   split at hv
   · rename_i he
     injection hv with hv
     subst hv
     have : ti = t := nbeq_true he
     subst this
     refine ⟨_, ?_, holds hxu⟩
     cases q <;> first | (simp [Instr.typeAssert, run_und hu]; done) | (exact absurd rfl (hni _)) | (simp_all; done)
   · rename_i he
     have hne : ti ≠ t := nbeq_false he
     split at hv
     · rename_i z hz
       injection hv with hv
       subst hv
       refine ⟨_, ?_, (fails hz).2⟩
       cases q <;> first | (simp [Instr.typeAssert, run_und hu, hne, (fails hz).1]; done) | (exact absurd rfl (hni _)) | (simp_all; done)
     · cases hv
 · cases hv
theorem bornAt_spec {b : Nat} : ∀ {l l' : List MapEntry}, MRs ρ l l' → ∀ {k j : Nat}, bornAt b l k = some j →
  k ≤ j ∧ ∃ e e', l[j - k]? = some e ∧ l'[j - k]? = some e' ∧ l'.find? (fun e => e.born == b) = some e' ∧ l'.findIdx? (fun e => e.born == b) = some (j - k) ∧ VR ρ e.key e'.key ∧ VR ρ e.val e'.val ∧ e'.born = b ∧ e.born = b := by
 intro l l' hl
 induction hl with
 | nil => intro k j hb; simp [bornAt] at hb
 | @cons e e' l l' hk hv he hl ih =>
   intro k j hb
   simp only [bornAt] at hb
   split at hb
   · rename_i hbe
     injection hb with hb
     subst hb
     have := nbeq_true hbe
     have hbb : (e'.born == b) = true := by simp [he, this]
     exact ⟨Nat.le_refl _, e, e', by simp, by simp, by simp [List.find?, hbb], by simp [List.findIdx?_cons, hbb], hk, hv, by omega, this⟩
   · rename_i hbe
     have hne := nbeq_false hbe
     obtain ⟨h1, e1, e1', h2, h3, h4, h5, h6⟩ := ih hb
     have hbb : (e'.born == b) = false := by simp [he, hne]
     have hj : j - k = (j - (k + 1)) + 1 := by omega
     refine ⟨by omega, e1, e1', by rw [hj]; simpa using h2, by rw [hj]; simpa using h3, by simpa [List.find?, hbb] using h4, by simp [List.findIdx?_cons, hbb, h5]; omega, h6⟩
theorem entry_run (H : HR P ρ N h w) {x x' : Value} (hx : VR ρ x x') {v : Value} (hv : entry' h x = some v) : ∃ v', (Instr.entry x').run P w = .ok v' w ∧ VR ρ v v' := by
 unfold entry' at hv
 split at hv
 · rename_i p
   cases hx with
   | @ptr _ p' i hp =>
   split at hv
   · rename_i m since seen st hoff hobj
     obtain ⟨o', ho, hR⟩ := H.obj p.block _ i hobj (fun r hr => by rw [hobj] at hr; cases hr) hp.2.1
     cases o' <;> simp only [ObjR] at hR
     rename_i m' since' seen' st'
     obtain ⟨hm, rfl, hseen, rfl, hs0⟩ := hR
     cases m' with
     | none => simp at hm
     | some m' =>
     obtain ⟨j, hj, rfl⟩ := hm
     split at hv
     · rename_i b es clock hb hmap
       obtain ⟨es', hw, hMR, _⟩ := H.map? hmap hj
       split at hv
       · rename_i k hc hk
         obtain ⟨h0, e, e', g1, g2, g3, g4, g5, g6, g7, g8⟩ := bornAt_spec hMR hk
         rw [Nat.sub_zero] at g1
         rw [g1] at hv
         injection hv with hv
         subst hv
         have hclock := nbeq_true hc
         have hback : seen'.back? = some b := by rw [← hseen] at hb; simpa using hb
         have hfind : es'.find? (fun e => e.born == b) = some e' := by rw [← Array.find?_toList]; exact g3
         refine ⟨_, ?_, .tuple (c := #[e.key, e.val]) (c' := #[e'.key, e'.val]) (.cons g5 (.cons g6 .nil))⟩
         rw [hp.fn]
         have hz : i.s + p.off = 0 := by omega
         rw [hz]
         simp [Instr.entry, getObj, Sem.run, ho, hback, hw, hclock, hfind]
       · cases hv
     · cases hv
   · cases hv
 · cases hv
theorem minmax_run (big : Bool) : ∀ (l : List Value) (x v : Value) (x' : Value) (l' : List Value), minmax' big x l = some v → VR ρ x x' → VRs ρ l l' →
  (l'.foldlM (if big then Builtin.max2 else Builtin.min2) x').run P w = .ok v w ∧ VR ρ v v ∨ (l = [] ∧ v = x)
 | [], x, v, x', l', hv, hx, hl => by
   cases hl
   simp only [minmax', Option.some.injEq] at hv
   exact .inr ⟨rfl, hv.symm⟩
 | y :: l, x, v, x', l', hv, hx, hl => by
   cases hl with
   | cons hy hl =>
   unfold minmax' at hv
   split at hv
   · rename_i e; cases e
   · rename_i k n k2 m r e
     injection e with e1 e2
     subst e1
     subst e2
     cases hx
     cases hy
     have step : ((if big then Builtin.max2 else Builtin.min2) (.int k n) (.int k2 m)).run P w = .ok (.int k (mm big n m)) w := by
      cases big
      · simp only [mm, intLt_lt, Bool.false_eq_true, if_false, Builtin.min2, Sem.run_pure]
        by_cases hlt : m < n <;> simp [hlt]
      · simp only [mm, intLt_lt, if_true, Builtin.max2, Sem.run_pure]
        by_cases hlt : n < m
        · simp [hlt]
        · simp [hlt]
     rcases minmax_run big l _ v _ _ hv (.int k _) hl with h1 | ⟨rfl, rfl⟩
     · left
       refine ⟨?_, h1.2⟩
       rw [List.foldlM_cons, Sem.run_bind, step]
       exact h1.1
     · cases hl
       left
       refine ⟨?_, .int _ _⟩
       rw [List.foldlM_cons, Sem.run_bind, step]
       simp
   · cases hv
theorem VRs.cons_inv {x : Value} {l m : List Value} (h : VRs ρ (x :: l) m) : ∃ x' l', m = x' :: l' ∧ VR ρ x x' ∧ VRs ρ l l' := by
 cases h with
 | cons h k => exact ⟨_, _, rfl, h, k⟩
theorem lenOf_run {x x' : Value} (hx : VR ρ x x') {n : Nat} (hn : lenOf' x = some n) : (Builtin.lenOf x').run P w = .ok n w := by
 unfold lenOf' at hn
 split at hn
 · injection hn with hn
   subst hn
   cases hx <;> simp [Builtin.lenOf]
 · cases hx
   injection hn with hn
   subst hn
   simp only [Builtin.lenOf, Sem.run_pure, size_data]
 · cases hn
theorem len_run (H : HR P ρ N h w) {ts : Array TypeId} {l : List Value} {l' : Array Value} (hl : VRs ρ l l'.toList) {ty : TypeId} {v : Value} (hv : len' P h ts.toList l = some v) :
  ∃ v', (Builtin.len_ ts ty l').run P w = .ok v' w ∧ VR ρ v v' := by
 unfold len' at hv
 split at hv
 · rename_i t tr x xr ht
   have h0 : ts[0]? = some t := by rw [← Array.getElem?_toList, ht]; rfl
   obtain ⟨x', l2, hl3, hxv, hl2⟩ := hl.cons_inv
   have h1 : l'[0]? = some x' := by rw [← Array.getElem?_toList, hl3]; rfl
   split at hv
   · rename_i s hu
     cases hxv
     injection hv with hv
     subst hv
     exact ⟨.int .i64 s.data.toList.length, by rw [← size_data]; simp [Builtin.len_, h0, h1, run_und hu, goInt], .int _ _⟩
   · rename_i n e hu
     injection hv with hv
     subst hv
     (refine ⟨_, ?_, .int _ _⟩; simp [Builtin.len_, h0, h1, run_und hu, goInt])
   · rename_i e b n c hu
     injection hv with hv
     subst hv
     cases hxv <;> (refine ⟨_, ?_, .int _ _⟩; simp [Builtin.len_, h0, h1, run_und hu, goInt])
   · rename_i k e hu
     cases hxv
     injection hv with hv
     subst hv
     (refine ⟨_, ?_, .int _ _⟩; simp [Builtin.len_, h0, h1, run_und hu, goInt])
   · rename_i k e r hu
     cases hxv with
     | map hi =>
     split at hv
     · rename_i es kk hm
       injection hv with hv
       subst hv
       obtain ⟨es', hw, hMR, _⟩ := H.map? hm hi
       have : es'.size = es.length := by rw [← Array.length_toList]; exact hMR.length
       refine ⟨_, ?_, .int _ _⟩
       simp [Builtin.len_, h0, h1, run_und hu, run_getMap hw, this, goInt]
     · cases hv
   · cases hv
 · cases hv
theorem cap_run (H : HR P ρ N h w) {ts : Array TypeId} {l : List Value} {l' : Array Value} (hl : VRs ρ l l'.toList) {ty : TypeId} {v : Value} (hv : cap' P h ts.toList l = some v) :
  ∃ v', (Builtin.cap_ ts ty l').run P w = .ok v' w ∧ VR ρ v v' := by
 unfold cap' at hv
 split at hv
 · rename_i t tr x xr ht
   have h0 : ts[0]? = some t := by rw [← Array.getElem?_toList, ht]; rfl
   obtain ⟨x', l2, hl3, hxv, hl2⟩ := hl.cons_inv
   have h1 : l'[0]? = some x' := by rw [← Array.getElem?_toList, hl3]; rfl
   split at hv
   · rename_i e m n hu
     injection hv with hv
     subst hv
     cases hxv
     (refine ⟨_, ?_, .int _ _⟩; simp [Builtin.cap_, h0, h1, run_und hu, goInt])
   · rename_i e p m n hu
     split at hv
     · rename_i r hr
       split at hv
       · rename_i hg
         injection hv with hv
         subst hv
         cases hxv with
         | sl hp hc =>
           obtain ⟨arr, e0, fr, hw, hR, _⟩ := H.row hr hp.2.1
           have hex := (hR.2.2.2.2.2.1 hg).1
           rcases hc with rfl | ⟨hx, _⟩
           · (refine ⟨_, ?_, .int _ _⟩; simp [Builtin.cap_, h0, h1, run_und hu, goInt])
           · rw [hex] at hx; cases hx
         | slZero => (refine ⟨_, ?_, .int _ _⟩; simp [Builtin.cap_, h0, h1, run_und hu, goInt])
       · cases hv
     · cases hv
   · cases hv
 · cases hv
end Go.Ev
namespace Go.Ev
open Go.RowKit
variable {P : Program} {ρ : Rho} {N : Bs} {h : Hp} {w : World} {a : A} {act : Act}
theorem ovr_of (A : ActR ρ a act) {x : Option Operand} (hx : ∀ o, x = some o → ∃ v, a.ev o = some v) : OVR ρ (x.bind a.ev) (x.map act.eval) := by
 cases x with
 | none => exact .none
 | some o =>
   obtain ⟨v, hv⟩ := hx o rfl
   have : (some o).bind a.ev = some v := hv
   rw [this]
   exact .some (A.ev hv)
theorem evList_mem {xs : List Operand} {l : List Value} (h : evList a xs = some l) {o : Operand} (ho : o ∈ xs) : ∃ v, a.ev o = some v := by
 induction xs generalizing l with
 | nil => cases ho
 | cons x xs ih =>
   simp only [evList] at h
   split at h
   · rename_i v r hv hr
     rcases List.mem_cons.1 ho with rfl | ho
     · exact ⟨v, hv⟩
     · exact ih hr ho
   · cases h
theorem reader_run (W : WfP P) (H : HR P ρ N h w) (A : ActR ρ a act) (o : Oper) (hr : isReader o.op = true) {v : Value} (hv : reader' P h a o.op = some v) :
  ∃ v', (execOp act.eval o).run P w = .ok (.value v') w ∧ VR ρ v v' := by
 obtain ⟨dst, op, ty, pos, after, guard⟩ := o
 simp only at hr hv
 have fin : ∀ {s : Sem Value} {v' : Value}, s.run P w = .ok v' w → (do pure (.value (← s)) : Sem Next).run P w = .ok (.value v') w := by
  intro s v' hs
  simp [hs]
 cases op <;> simp only [isReader] at hr <;> try (cases hr; done)
 case move x =>
  simp only [reader'] at hv
  exact ⟨_, by simp [execOp], A.ev hv⟩
 case assign x =>
  simp only [reader'] at hv
  exact ⟨_, by simp [execOp], A.ev hv⟩
 case pick c x y =>
  simp only [reader'] at hv
  split at hv
  · rename_i hc
    have := A.ev hc
    generalize hcv : act.eval c = cv at this
    cases this
    exact ⟨_, by simp [execOp, hcv, asBool], A.ev hv⟩
  · rename_i hc
    have := A.ev hc
    generalize hcv : act.eval c = cv at this
    cases this
    exact ⟨_, by simp [execOp, hcv, asBool], A.ev hv⟩
  · cases hv
 case build t parts =>
  simp only [reader'] at hv
  split at hv
  · rename_i l hl
    obtain ⟨v', h1, h2⟩ := build_run (ps' := parts.map fun (i, x) => (i, act.eval x)) (w := w) W (by simpa using A.evPairs hl) hv
    exact ⟨v', fin h1, h2⟩
  · cases hv
 case load t x =>
  simp only [reader'] at hv
  split at hv
  · rename_i p hp
    have := A.ev hp
    generalize hcv : act.eval x = cv at this
    cases this with
    | ptr ha =>
      obtain ⟨v', h1, h2⟩ := loadVar_run H ha hv
      refine ⟨v', ?_, h2⟩
      simp [execOp, hcv, Instr.loadAt, Instr.sureAddr, h1]
  · cases hv
 case nilCheck x =>
  simp only [reader'] at hv
  split at hv
  · rename_i p hp
    injection hv with hv
    subst hv
    have := A.ev hp
    have h0 := this
    generalize hcv : act.eval x = cv at this h0
    cases this with
    | ptr ha => exact ⟨_, by simp [execOp, hcv], h0⟩
  · rename_i f l r hp
    injection hv with hv
    subst hv
    have := A.ev hp
    have h0 := this
    generalize hcv : act.eval x = cv at this h0
    cases this with
    | func ha hb => exact ⟨_, by simp [execOp, hcv], h0⟩
  · rename_i t u hp
    injection hv with hv
    subst hv
    have := A.ev hp
    have h0 := this
    generalize hcv : act.eval x = cv at this h0
    cases this with
    | iface ha => exact ⟨_, by simp [execOp, hcv], h0⟩
  · cases hv
 case binOp bop t x y t2 =>
  simp only [reader'] at hv
  split at hv
  · rename_i u1 u2 h1 h2
    obtain ⟨h3, h4⟩ := binOp_run H hv (A.ev h1) (A.ev h2)
    exact ⟨v, fin h3, h4⟩
  · cases hv
 case unOp uop t x =>
  simp only [reader'] at hv
  split at hv
  · rename_i u hu
    have := A.ev hu
    generalize hcv : act.eval x = cv at this
    unfold unOp' at hv
    split at hv
    · cases this
      injection hv with hv
      subst hv
      exact ⟨_, by simp [execOp, hcv, Op.unary, Op.intArith], .int _ _⟩
    · cases this
      injection hv with hv
      subst hv
      exact ⟨_, by simp [execOp, hcv, Op.unary], .bool _⟩
    · cases hv
  · cases hv
 case makeInterface t x =>
  simp only [reader'] at hv
  split at hv
  · cases hv
  · rename_i u q hni hu hq
    injection hv with hv
    subst hv
    refine ⟨.iface t (act.eval x), ?_, .iface (A.ev hu)⟩
    cases q <;> first
     | (simp [execOp, Instr.makeInterface, run_und hq]; done)
     | (exfalso; exact hni _ rfl)
     | (simp_all; done)
  · cases hv
 case makeFunc fn first captured =>
  simp only [reader'] at hv
  split at hv
  · rename_i l r hl hr2
    injection hv with hv
    subst hv
    refine ⟨.func fn (first.map act.eval) (captured.map act.eval), by simp [execOp, Instr.makeFunc], .func (by simpa using A.evList hl) (by simpa using A.evList hr2)⟩
  · cases hv
 case slice t x lo hi mx =>
  simp only [reader'] at hv
  split at hv
  · rename_i u l hu hl
    have hm : ∀ (y : Option Operand), (∀ o, y = some o → o ∈ lo.toList ++ hi.toList ++ mx.toList) → OVR ρ (y.bind a.ev) (y.map act.eval) :=
     fun y hy => ovr_of A fun o ho => evList_mem hl (hy o ho)
    obtain ⟨v', h1, h2⟩ := slice_run H (A.ev hu) (hm lo (by intro o ho; subst ho; simp)) (hm hi (by intro o ho; subst ho; simp)) (hm mx (by intro o ho; subst ho; simp)) hv
    exact ⟨v', fin h1, h2⟩
  · cases hv
 case fieldAddr t x f =>
  simp only [reader'] at hv
  split at hv
  · rename_i u hu
    obtain ⟨v', h1, h2⟩ := fieldAddr_run H (A.ev hu) hv
    exact ⟨v', fin h1, h2⟩
  · cases hv
 case field t x f =>
  simp only [reader'] at hv
  split at hv
  · rename_i cs fields hu ht
    split at hv
    · rename_i fd hf
      have := A.ev hu
      generalize hcv : act.eval x = cv at this
      cases this with
      | agg hc =>
        obtain ⟨v', h1, h2⟩ := part_run (w := w) hv hc
        have hf' : fields[f]? = some fd := by simpa using hf
        refine ⟨v', ?_, h2⟩
        simp [execOp, hcv, Instr.field, run_und ht, hf', asAgg, h1]
    · cases hv
  · cases hv
 case indexAddr t x i =>
  simp only [reader'] at hv
  split at hv
  · rename_i u1 u2 h1 h2
    obtain ⟨v', h3, h4⟩ := indexAddr_run H (A.ev h1) (A.ev h2) hv
    exact ⟨v', fin h3, h4⟩
  · cases hv
 case index t x i =>
  simp only [reader'] at hv
  split at hv
  · rename_i u1 u2 h1 h2
    obtain ⟨v', h3, h4⟩ := index_run (w := w) (A.ev h1) (A.ev h2) hv
    exact ⟨v', fin h3, h4⟩
  · cases hv
 case lookup t x i ok =>
  simp only [reader'] at hv
  split at hv
  · rename_i u1 u2 h1 h2
    obtain ⟨v', h3, h4⟩ := lookup_run W H (A.ev h1) (A.ev h2) hv
    exact ⟨v', fin h3, h4⟩
  · cases hv
 case typeAssert x t1 t2 ok =>
  simp only [reader'] at hv
  split at hv
  · rename_i u hu
    obtain ⟨v', h3, h4⟩ := typeAssert_run (w := w) (xt := t1) (A.ev hu) hv
    exact ⟨v', fin h3, h4⟩
  · cases hv
 case extract x i =>
  simp only [reader'] at hv
  split at hv
  · rename_i vs hu
    have := A.ev hu
    generalize hcv : act.eval x = cv at this
    cases this with
    | tuple hc =>
      rename_i vs'
      obtain ⟨v', h1, h2⟩ := hc.get hv
      have h1' : vs'[i]? = some v' := by simpa using h1
      refine ⟨v', ?_, h2⟩
      simp [execOp, hcv, Instr.extract, h1']
  · cases hv
 case entry x =>
  simp only [reader'] at hv
  split at hv
  · rename_i u hu
    obtain ⟨v', h3, h4⟩ := entry_run H (A.ev hu) hv
    exact ⟨v', fin h3, h4⟩
  · cases hv
 case call c =>
  obtain ⟨cal, args, ats⟩ := c
  cases cal with
  | value f => cases hr
  | invoke r m => cases hr
  | builtin b =>
    have hargs : ∀ {l : List Value}, evList a args.toList = some l → VRs ρ l (args.map act.eval).toList := fun hl => by simpa using A.evList hl
    cases b <;> simp only at hr <;> try (cases hr; done)
    ·
      simp only [reader'] at hv
      split at hv
      · rename_i l hl
        obtain ⟨v', h1, h2⟩ := cap_run (ty := ty) H (hargs hl) hv
        exact ⟨v', by simp [execOp, resolve, invoke, builtin, h1], h2⟩
      · cases hv
    ·
      simp only [reader'] at hv
      split at hv
      · rename_i l hl
        obtain ⟨v', h1, h2⟩ := len_run (ty := ty) H (hargs hl) hv
        exact ⟨v', by simp [execOp, resolve, invoke, builtin, h1], h2⟩
      · cases hv
    ·
      simp only [reader'] at hv
      split at hv
      · rename_i x r hl
        obtain ⟨x', r', e, hx, hr'⟩ := (hargs hl).cons_inv
        have hrun : ∀ s, (r'.foldlM Builtin.max2 x').run P w = .ok s w → (Builtin.max_ ats ty (args.map act.eval)).run P w = .ok s w := by
         intro s hs
         simp only [Builtin.max_, e]
         exact hs
        rcases minmax_run (P := P) (w := w) true r x v x' r' hv hx hr' with h1 | ⟨rfl, rfl⟩
        · exact ⟨v, by simp [execOp, resolve, invoke, builtin, hrun _ h1.1], h1.2⟩
        · cases hr'
          exact ⟨x', by simp [execOp, resolve, invoke, builtin, hrun x' (by simp)], hx⟩
      · cases hv
    ·
      simp only [reader'] at hv
      split at hv
      · rename_i x r hl
        obtain ⟨x', r', e, hx, hr'⟩ := (hargs hl).cons_inv
        have hrun : ∀ s, (r'.foldlM Builtin.min2 x').run P w = .ok s w → (Builtin.min_ ats ty (args.map act.eval)).run P w = .ok s w := by
         intro s hs
         simp only [Builtin.min_, e]
         exact hs
        rcases minmax_run (P := P) (w := w) false r x v x' r' hv hx hr' with h1 | ⟨rfl, rfl⟩
        · exact ⟨v, by simp [execOp, resolve, invoke, builtin, hrun _ h1.1], h1.2⟩
        · cases hr'
          exact ⟨x', by simp [execOp, resolve, invoke, builtin, hrun x' (by simp)], hx⟩
      · cases hv
end Go.Ev
end
section
set_option linter.unusedVariables false
set_option linter.unusedSimpArgs false
namespace Go.Ev
open Go.RowKit
variable {P : Program} {ρ : Rho} {N : Bs} {h : Hp} {w : World} {a : A} {act : Act}
def Lands (nx : Next) (v : Value) : Prop := nx = .value v ∨ (nx = .skip ∧ v = undef)
def Does (P : Program) (ρ : Rho) (N : Bs) (w : World) (r : Result Next) (v : Value) (h1 : Hp) : Prop :=
 ∃ ρ1 w1 nx v', ρ.le ρ1 ∧ r = .ok nx w1 ∧ Lands nx v' ∧ VR ρ1 v v' ∧ HR P ρ1 N h1 w1 ∧ Below N w w1
theorem does_value {s : Sem Value} {v : Value} {h1 : Hp} (hs : ∃ ρ1 w1 v', ρ.le ρ1 ∧ s.run P w = .ok v' w1 ∧ VR ρ1 v v' ∧ HR P ρ1 N h1 w1 ∧ Below N w w1) :
  Does P ρ N w ((do pure (.value (← s)) : Sem Next).run P w) v h1 := by
 obtain ⟨ρ1, w1, v', h1, h2, h3, h4, h5⟩ := hs
 exact ⟨ρ1, w1, _, v', h1, by simp [h2], .inl rfl, h3, h4, h5⟩
theorem does_unit {s : Sem Unit} {h1 : Hp} (hs : ∃ w1, s.run P w = .ok () w1 ∧ HR P ρ N h1 w1 ∧ Below N w w1) :
  Does P ρ N w ((do s; pure .skip : Sem Next).run P w) undef' h1 := by
 obtain ⟨w1, h2, h4, h5⟩ := hs
 exact ⟨ρ, w1, .skip, undef, Rho.le_refl ρ, by simp [h2], .inr ⟨rfl, rfl⟩, .tuple .nil, h4, h5⟩
theorem alloc_push (w : World) (o : Obj) : { w with heap := w.heap.push o } = w.alloc o := rfl
theorem newRow_eq (e : TypeId) (c' : Array Value) (w : World) : (newRow e c').run P w = .ok ⟨w.heap.size, 0, none⟩ (w.alloc (.cells c' e)) := rfl
def Makes (P : Program) (ρ : Rho) (s : Sem Value) (ob : CObj) (f : Nat → Value) : Prop :=
 ∃ (o' : Obj) (m : Nat) (f' : Nat → Value), (∀ w : World, s.run P w = .ok (f' w.heap.size) (w.alloc o')) ∧ (∀ (ρ1 : Rho) (b : Nat), ρ.le ρ1 → ObjR P ρ1 ⟨b, 0, m, 0, true⟩ ob o') ∧
  (∀ (ρ1 : Rho) (g b : Nat), ρ1 g = some ⟨b, 0, m, 0, true⟩ → VR ρ1 (f g) (f' b)) ∧ famFree ob = true
theorem famFree_eq {ob : CObj} (h : famFree ob = true) (r : Row) (e : ob = .cells r) : r.fam = 0 := by
 subst e
 simpa [famFree] using h
theorem makes_row {s : Sem Value} {e : TypeId} {c : List Value} {c' : Array Value} (hc : VRs ρ c c'.toList) {f f' : Nat → Value} (hs : ∀ w : World, s.run P w = .ok (f' w.heap.size) (w.alloc (.cells c' e)))
  (hf : ∀ (ρ1 : Rho) (g b : Nat) (i : Img), AR ρ1 ⟨g, 0, none⟩ ⟨b, 0, none⟩ i → VR ρ1 (f g) (f' b)) : Makes P ρ s (.cells ⟨c, e, 0, 0, false⟩) f := by
 refine ⟨_, c'.size, f', hs, fun ρ1 b hle => ?_, fun ρ1 g b hg => hf ρ1 g b _ ⟨rfl, hg, by simp⟩, rfl⟩
 have hl : c'.size = c.length := by rw [← Array.length_toList]; exact hc.length
 refine ⟨rfl, by simp [hl], by simp, fun k v hk => ?_, fun k _ => by simp, fun _ => ⟨rfl, rfl⟩, fun hx => by cases hx⟩
 obtain ⟨v', h1, h2⟩ := hc.get hk
 exact ⟨v', by simpa using h1, h2.mono hle⟩
theorem size_of_VRs {c : List Value} {c' : Array Value} (hc : VRs ρ c c'.toList) : c'.size = c.length := by rw [← Array.length_toList]; exact hc.length
theorem repeat_get (z : List Value) (hz : 0 < z.length) : ∀ (n k : Nat), (repeatN z n)[k]? = if k < n * z.length then z[k % z.length]? else none
 | 0, k => by simp [repeatN]
 | n + 1, k => by
   have hs : (n + 1) * z.length = n * z.length + z.length := Nat.succ_mul _ _
   simp only [repeatN]
   by_cases hk : k < z.length
   · rw [List.getElem?_append_left hk, if_pos (by omega), Nat.mod_eq_of_lt hk]
   · rw [List.getElem?_append_right (by omega), repeat_get z hz n]
     by_cases h2 : k - z.length < n * z.length
     · rw [if_pos h2, if_pos (by omega)]
       congr 1
       conv => rhs; rw [show k = (k - z.length) + z.length by omega]
       rw [Nat.add_mod_right]
     · rw [if_neg h2, if_neg (by omega)]
theorem range_repeat (z : Array Value) (hz : 0 < z.size) (n : Nat) : ((Array.range (n * z.size)).map (fun i => z[i % z.size]!)).toList = repeatN z.toList n := by
 apply List.ext_getElem?
 intro k
 rw [repeat_get z.toList (by simpa using hz) n k]
 simp only [Array.toList_map, Array.toList_range, List.getElem?_map, Array.length_toList, List.getElem?_range]
 by_cases hk : k < n * z.size
 · have hlt : k % z.size < z.size := Nat.mod_lt _ hz
   simp [hk, Array.getElem?_eq_getElem hlt, getElem!_pos z (k % z.size) hlt]
 · simp [hk]
theorem range0 {α : Type} (f : Nat → α) : (Array.range 0).map f = #[] := by
 apply Array.ext'
 simp
theorem repeat_VRs {z : List Value} (hz : VRs ρ z z) : ∀ n, VRs ρ (repeatN z n) (repeatN z n)
 | 0 => .nil
 | n + 1 => hz.append (repeat_VRs hz n)
theorem zero_VR {t : TypeId} {z : Value} (h : zero' P t = some z) : VR ρ z z := by
 unfold zero' at h
 split at h
 · split at h
   · split at h
     · rename_i hp
       injection h with h
       subst h
       exact plain_VR 9 _ hp
     · cases h
   · cases h
 · cases h
theorem buildSlice_makes {t : TypeId} {len : Nat} {ps : List (Nat × Value)} {ps' : Array (Nat × Value)} (hps : PRs ρ ps ps'.toList) {ob : CObj} {f : Nat → Value} (hv : buildRow' P t len ps = some (ob, f)) :
  Makes P ρ (Instr.buildSlice t len ps') ob f := by
 unfold buildRow' at hv
 split at hv
 · rename_i e hu
   split at hv
   · rename_i s z hs hz
     split at hv
     · rename_i hlen hpos hbig
       split at hv
       · rename_i c hf
         injection hv with hv
         injection hv with hv1 hv2
         subst hv1
         subst hv2
         have hzv : VR ρ z z := zero_VR hz
         have e1 : z.cells.size = s := by rw [← Array.length_toList]; exact nbeq_true hlen
         have e2 : 0 < s := by simpa [Nat.blt_eq] using hpos
         have e3 : len * s ≤ 100000 := by simpa using hbig
         have hrange := range_repeat z.cells (by omega) len
         rw [e1] at hrange
         obtain ⟨c', h3, h4⟩ := fill_run (place' := fun i => some (i * s, s)) (fun _ _ hp => hp) hps (c' := (Array.range (len * s)).map (fun i => z.cells[i % z.cells.size]!)) hf
          (by rw [e1, hrange]; exact repeat_VRs hzv.cells len)
         refine makes_row (c' := c') (f' := fun b => .slice (some ⟨b, 0, none⟩) len len) h4 (fun w => ?_) (fun ρ1 g b i ha => .sl ha (.inl rfl))
         obtain ⟨hzr, _⟩ := zero_run (w := w) (ρ := ρ) hz
         obtain ⟨hsr, _⟩ := size_some (w := w) hs
         have r1 := newRow_eq (P := P) e c' w
         have hno : ¬ (len * s > 2 ^ 24) := by
          have : (2 : Nat) ^ 24 = 16777216 := by decide
          omega
         by_cases h0 : len * s = 0
         · rw [h0, range0] at h3
           simp only [Instr.buildSlice, Sem.run_bind, run_und hu, Result.andThen_ok, hsr]
           rw [if_neg hno, if_pos h0]
           simp only [Sem.run_bind, Sem.run_pure, Result.andThen_ok, h0, range0, h3, r1]
         · simp only [Instr.buildSlice, Sem.run_bind, run_und hu, Result.andThen_ok, hsr]
           rw [if_neg hno, if_neg h0]
           simp [hzr, h3, r1]
       · cases hv
     · cases hv
   · cases hv
 · cases hv
theorem makeSlice_makes {t : TypeId} {l c l' c' : Value} (hl : VR ρ l l') (hc : VR ρ c c') {ob : CObj} {f : Nat → Value} (hv : makeRow' P t l c = some (ob, f)) :
  Makes P ρ (Instr.makeSlice t l' c') ob f := by
 unfold makeRow' at hv
 split at hv
 · rename_i e n m hu hn hm
   obtain ⟨k1, rfl⟩ := natOf_VR hl hn
   obtain ⟨k2, rfl⟩ := natOf_VR hc hm
   split at hv
   · rename_i i z hi hz
     split at hv
     · rename_i hlen hpos hbig hby hle
       split at hv
       · rename_i hmm
         injection hv with hv
         injection hv with hv1 hv2
         subst hv1
         subst hv2
         have hzv : VR ρ z z := zero_VR hz
         have e1 : z.cells.size = i.size := by rw [← Array.length_toList]; exact nbeq_true hlen
         have e2 : 0 < i.size := by simpa [Nat.blt_eq] using hpos
         have e3 : m * i.bytes ≤ 100000000 := by simpa using hby
         have e4 : n ≤ m := by simpa using hle
         have e5 : m ≤ 100000 := by simpa using hmm
         have hrange := range_repeat z.cells (by omega) m
         rw [e1] at hrange
         refine makes_row (c' := (Array.range (m * i.size)).map (fun k => z.cells[k % z.cells.size]!)) (f' := fun b => .slice (some ⟨b, 0, none⟩) n m) (by rw [e1, hrange]; exact repeat_VRs hzv.cells m) (fun w => ?_) (fun ρ1 g b i ha => .sl ha (.inl rfl))
         obtain ⟨hzr, _⟩ := zero_run (w := w) (ρ := ρ) hz
         have r1 := newRow_eq (P := P) e ((Array.range (m * i.size)).map (fun k => z.cells[k % z.cells.size]!)) w
         have w1 : IntKind.i64.wrap (n : Int) = n := by
          unfold IntKind.wrap IntKind.bits IntKind.signed
          simp
          omega
         have w2 : IntKind.i64.wrap (m : Int) = m := by
          unfold IntKind.wrap IntKind.bits IntKind.signed
          simp
          omega
         have t1 : ¬ ((m : Int) < 0 ∨ ((i.bytes : Int) * (m : Int) > 2 ^ 48)) := by
          have h48 : (2 : Int) ^ 48 = 281474976710656 := by decide
          have : (i.bytes : Int) * (m : Int) = ((m * i.bytes : Nat) : Int) := by rw [Nat.mul_comm]; simp
          rw [this, h48]
          omega
         have t2 : ¬ ((n : Int) < 0) := by omega
         have t3 : ¬ ((n : Int) > (m : Int)) := by omega
         simp only [Instr.makeSlice, Sem.run_bind, run_und hu, Result.andThen_ok, asInt, asIntOf, Sem.run_pure, run_info hi, w1, w2]
         have t4 : (decide ((m : Int) < 0) || decide ((i.bytes : Int) * (m : Int) > 2 ^ 48) || decide ((n : Int) < 0) || decide ((n : Int) > (m : Int))) = false := by
          rw [not_or] at t1
          simp only [Bool.or_eq_false_iff, decide_eq_false_iff_not]
          exact ⟨⟨⟨t1.1, t1.2⟩, t2⟩, t3⟩
         rw [t4]
         simp only [Bool.false_eq_true, if_false, Sem.run_bind, run_askRoom, Result.andThen_ok, run_size hi, Int.toNat_natCast, Sem.run_ite]
         by_cases h0 : m * i.size = 0
         · rw [h0, range0] at r1
           rw [if_pos h0]
           simp only [Sem.run_pure, Result.andThen_ok, h0, range0, Sem.run_bind]
           simp [r1]
         · rw [if_neg h0]
           simp [hzr, r1]
       · cases hv
     · cases hv
   · cases hv
 · cases hv
theorem store_run (H : HR P ρ N h w) {t : TypeId} {p p' : Addr} {i : Img} (hp : AR ρ p p' i) {v v' : Value} (hvv : VR ρ v v') {h1 : Hp} (hs : storeVar' P h t p v = some h1) :
  ∃ w1, (Instr.storeAt t (.pointer (some p')) v').run P w = .ok () w1 ∧ HR P ρ N h1 w1 ∧ Below N w w1 := by
 unfold storeVar' at hs
 split at hs
 · rename_i j hj
   split at hs
   · rename_i hl
     have e1 : v'.cells.size = j.size := by rw [size_of_VRs hvv.cells]; exact nbeq_true hl
     obtain ⟨w1, r1, r2, r3⟩ := H.stores (.inr ⟨i, hp⟩) hvv.cells hs
     refine ⟨w1, ?_, r2, r3⟩
     simp [Instr.storeAt, Instr.sureAddr, storeVar, run_size hj, e1, r1]
   · cases hs
 · cases hs
end Go.Ev
namespace Go.Ev
open Go.RowKit
variable {P : Program} {ρ : Rho} {N : Bs} {h : Hp} {w : World} {a : A} {act : Act}
theorem setObj_run {r : Nat} {o o' : Obj} (hw : w.heap[r]? = some o) (hno : ∀ c e f, o ≠ .cells c e f) : (setObj r o').run P w = .ok () (World.putBlock w r o') := by
 cases o <;> first
  | (exact absurd rfl (hno _ _ _))
  | (simp [setObj, Sem.run, hw, World.putBlock]; done)
theorem sameKey_bits : ∀ (n : Nat) (x y x' y' : Value), sameKey n x y = true → VR ρ x x' → VR ρ y y' → ∀ D, n ≤ D → Instr.sameBits D x' y' = true := by
 intro n
 induction n with
 | zero =>
   intro x y x' y' hs hx hy D hD
   unfold sameKey at hs
   split at hs
   · cases hx; cases hy; cases D <;> simpa [Instr.sameBits] using hs
   · cases hx; cases hy
     simp only [Bool.and_eq_true, intEq_beq] at hs
     have := kindEq_eq hs.1
     subst this
     cases D <;> simp [Instr.sameBits, hs.2] <;> simpa using hs.2
   · cases hx; cases hy
     rw [bytesEq_beq] at hs
     have : ∀ s u : ByteArray, (s.data.toList == u.data.toList) = true → (s == u) = true := by
      intro s u e
      rw [beq_toListBytes, ByteArray.toList_eq, ByteArray.toList_eq]
      exact e
     cases D <;> simpa [Instr.sameBits] using this _ _ hs
   · cases hx; cases hy; cases D <;> rfl
   · rename_i e; cases e
   · rename_i e; cases e
   · cases hs
 | succ n ih =>
   intro x y x' y' hs hx hy D hD
   obtain ⟨D, rfl⟩ : ∃ k, D = k + 1 := ⟨D - 1, by omega⟩
   unfold sameKey at hs
   split at hs
   · cases hx; cases hy; simpa [Instr.sameBits] using hs
   · cases hx; cases hy
     simp only [Bool.and_eq_true, intEq_beq] at hs
     have := kindEq_eq hs.1
     subst this
     simp [Instr.sameBits]
     simpa using hs.2
   · cases hx; cases hy
     rw [bytesEq_beq] at hs
     have : ∀ s u : ByteArray, (s.data.toList == u.data.toList) = true → (s == u) = true := by
      intro s u e
      rw [beq_toListBytes, ByteArray.toList_eq, ByteArray.toList_eq]
      exact e
     simpa [Instr.sameBits] using this _ _ hs
   · cases hx; cases hy; rfl
   · rename_i t v u v2 e
     injection e with e
     subst e
     cases hx with
     | iface hx =>
     cases hy with
     | iface hy =>
     simp only [Bool.and_eq_true] at hs
     have e1 := nbeq_true hs.1
     subst e1
     simp [Instr.sameBits, ih _ _ _ _ hs.2 hx hy D (by omega)]
   · rename_i b c e
     injection e with e
     subst e
     cases hx with
     | agg hx =>
     rename_i b'
     cases hy with
     | agg hy =>
     rename_i c'
     simp only [Bool.and_eq_true] at hs
     have e1 := nbeq_true hs.1
     have e2 : b'.size = c'.size := by rw [size_of_VRs hx, size_of_VRs hy]; exact e1
     have aux : ∀ {l m l' m' : List Value}, VRs ρ l l' → VRs ρ m m' → ((l.zip m).all fun (x, y) => sameKey n x y) = true → ((l'.zip m').all fun (x, y) => Instr.sameBits D x y) = true := by
      intro l
      induction l with
      | nil => intro m l' m' hl hm _; cases hl; simp
      | cons p l ihl =>
        intro m l' m' hl hm hall
        cases hl with
        | cons hp hl =>
        cases hm with
        | nil => simp
        | cons hq hm =>
          simp only [List.zip_cons_cons, List.all_cons, Bool.and_eq_true] at hall ⊢
          exact ⟨ih _ _ _ _ hall.1 hp hq D (by omega), ihl hl hm hall.2⟩
     simp only [Instr.sameBits, e2, beq_self_eq_true, Bool.true_and]
     exact aux hx hy hs.2
   · cases hs
theorem MRs.append {l l' m m' : List MapEntry} (h : MRs ρ l l') (k : MRs ρ m m') : MRs ρ (l ++ m) (l' ++ m') := by
 induction h with
 | nil => exact k
 | cons a b c _ ih => exact .cons a b c ih
theorem MRs.setAt {f f' : MapEntry → MapEntry} (hf : ∀ e e', VR ρ e.key e'.key → VR ρ e.val e'.val → e'.born = e.born → VR ρ (f e).key (f' e').key ∧ VR ρ (f e).val (f' e').val ∧ (f' e').born = (f e).born) :
  ∀ {l l' : List MapEntry}, MRs ρ l l' → ∀ i, MRs ρ (Go.Ev.setAt f l i) (l'.modify i f')
 | _, _, .nil, i => by cases i <;> exact .nil
 | _, _, .cons a b c k, 0 => by
   obtain ⟨h1, h2, h3⟩ := hf _ _ a b c
   exact .cons h1 h2 h3 k
 | _, _, .cons a b c k, i + 1 => by
   have := MRs.setAt hf k i
   exact .cons a b c this
theorem MRs.erase : ∀ {l l' : List MapEntry}, MRs ρ l l' → ∀ i, MRs ρ (l.eraseIdx i) (l'.eraseIdx i)
 | _, _, .nil, i => by simpa using MRs.nil
 | _, _, .cons a b c k, 0 => by simpa using k
 | _, _, .cons a b c k, i + 1 => by simpa using MRs.cons a b c (MRs.erase k i)
theorem keyStays_run {x y x' y' : Value} (hs : sameKey 40 x y = true) (hx : VR ρ x x') (hy : VR ρ y y') : (Instr.keyThatStays x' y').run P w = .ok y' w := by
 simp [Instr.keyThatStays, sameKey_bits 40 x y x' y' hs hx hy 10000 (by omega)]
theorem putMap (H : HR P ρ N h w) {r : Nat} {i : Img} (hi : ρ r = some i) {es es1 : List MapEntry} {k k1 : Nat} {es1' : Array MapEntry} (hget : h.objs.get r = some (.map es k)) (hR : MRs ρ es1 es1'.toList) :
  HR P ρ N (h.put r (.map es1 k1)) (World.putBlock w i.b (.map es1' k1)) ∧ Below N w (World.putBlock w i.b (.map es1' k1)) :=
 H.put_alone hi hget (fun _ e => by cases e) (fun _ e => by cases e) ⟨hR, rfl⟩
theorem mapUpdate_run (W : WfP P) (H : HR P ρ N h w) {t : TypeId} {m m' k k' v v' : Value} (hm : VR ρ m m') (hk : VR ρ k k') (hvv : VR ρ v v') {h1 : Hp} (hs : mapUpdate' P h t m k v = some h1) :
  ∃ w1, (Instr.mapUpdate t m' k' v').run P w = .ok () w1 ∧ HR P ρ N h1 w1 ∧ Below N w w1 := by
 unfold mapUpdate' at hs
 split at hs
 · rename_i kt et r hu
   cases hm with
   | @map _ i hi =>
   split at hs
   · rename_i es clock hmp hko
     obtain ⟨es', hw, hMR, hget⟩ := H.map? hmp hi
     obtain ⟨kind, hkd⟩ := und_of_keyOk hko
     have hck := checkKey_run (w := w) W 40 kt k k' hko hk 10000 (by omega) false
     have hset := fun o' => setObj_run (P := P) (o' := o') hw (fun _ _ _ e => by cases e)
     split at hs
     · rename_i j u hf
       obtain ⟨res', h2, h3⟩ := findKey_run H hk hMR hf hkd
       split at hs
       · rename_i e he
         split at hs
         · rename_i hsk
           injection hs with hs
           subst hs
           cases h3 with
           | some hu3 =>
           obtain ⟨e', g1, g2, g3, g4⟩ := hMR.get he
           have g1' : es'[j]? = some e' := by simpa using g1
           have hR2 : MRs ρ (Go.Ev.setAt (fun e => { e with key := k, val := v }) es j) (es'.modify j fun e => { e with key := k', val := v' }).toList := by
            rw [Array.toList_modify]
            exact MRs.setAt (f := fun e => { e with key := k, val := v }) (f' := fun e => { e with key := k', val := v' }) (fun e e' _ _ hb => ⟨hk, hvv, hb⟩) hMR j
           obtain ⟨r1, r2⟩ := putMap (k1 := clock) H hi hget hR2
           refine ⟨_, ?_, r1, r2⟩
           have hks := keyStays_run (P := P) (w := w) hsk g2 hk
           simp [Instr.mapUpdate, run_und hu, run_getMap hw, hck, h2, g1', hks, hset]
         · cases hs
       · cases hs
     · rename_i hf
       obtain ⟨res', h2, h3⟩ := findKey_run H hk hMR hf hkd
       injection hs with hs
       subst hs
       cases h3 with
       | none =>
       have hR2 : MRs ρ (es ++ [⟨k, v, clock⟩]) (es'.push ⟨k', v', clock⟩).toList := by
        rw [Array.toList_push]
        exact hMR.append (.cons hk hvv rfl .nil)
       obtain ⟨r1, r2⟩ := putMap (k1 := clock + 1) H hi hget hR2
       refine ⟨_, ?_, r1, r2⟩
       simp [Instr.mapUpdate, run_und hu, run_getMap hw, hck, h2, hset]
     · cases hs
   · cases hs
 · cases hs
theorem mapEntry_run (W : WfP P) (H : HR P ρ N h w) {t : TypeId} {m m' k k' : Value} (hm : VR ρ m m') (hk : VR ρ k k') {v : Value} {h1 : Hp} (hs : mapEntry' P h t m k = some (v, h1)) :
  ∃ ρ1 w1 v', ρ.le ρ1 ∧ (Instr.mapEntry t m' k').run P w = .ok v' w1 ∧ VR ρ1 v v' ∧ HR P ρ1 N h1 w1 ∧ Below N w w1 := by
 unfold mapEntry' at hs
 split at hs
 · rename_i kt et r hu
   cases hm with
   | @map _ i hi =>
   split at hs
   · rename_i es clock hmp hko
     obtain ⟨es', hw, hMR, hget⟩ := H.map? hmp hi
     obtain ⟨kind, hkd⟩ := und_of_keyOk hko
     have hck := checkKey_run (w := w) W 40 kt k k' hko hk 10000 (by omega) false
     have hset := fun o' => setObj_run (P := P) (o' := o') hw (fun _ _ _ e => by cases e)
     split at hs
     · rename_i j u hf
       obtain ⟨res', h2, h3⟩ := findKey_run H hk hMR hf hkd
       split at hs
       · rename_i e he
         split at hs
         · rename_i hsk
           injection hs with hs
           injection hs with hs1 hs2
           subst hs1
           subst hs2
           cases h3 with
           | some hu3 =>
           obtain ⟨e', g1, g2, g3, g4⟩ := hMR.get he
           have g1' : es'[j]? = some e' := by simpa using g1
           have hR2 : MRs ρ (Go.Ev.setAt (fun e => { e with key := k }) es j) (es'.modify j fun e => { e with key := k' }).toList := by
            rw [Array.toList_modify]
            exact MRs.setAt (f := fun e => { e with key := k }) (f' := fun e => { e with key := k' }) (fun e e' _ hv hb => ⟨hk, hv, hb⟩) hMR j
           obtain ⟨r1, r2⟩ := putMap (k1 := clock) H hi hget hR2
           have hks := keyStays_run (P := P) (w := w) hsk g2 hk
           refine ⟨ρ, _, _, Rho.le_refl ρ, ?_, .tuple (c := #[u, .int .i64 e.born]) (c' := #[_, .int .i64 e.born]) (.cons hu3 (.cons (.int _ _) .nil)), r1, r2⟩
           simp [Instr.mapEntry, run_und hu, run_getMap hw, hck, h2, g1', hks, hset, goInt, g4]
         · cases hs
       · cases hs
     · rename_i hf
       obtain ⟨res', h2, h3⟩ := findKey_run H hk hMR hf hkd
       split at hs
       · rename_i z hz
         injection hs with hs
         injection hs with hs1 hs2
         subst hs1
         subst hs2
         obtain ⟨hzr, hzv⟩ := zero_run (w := w) (ρ := ρ) hz
         cases h3 with
         | none =>
         have hR2 : MRs ρ (es ++ [⟨k, z, clock⟩]) (es'.push ⟨k', z, clock⟩).toList := by
          rw [Array.toList_push]
          exact hMR.append (.cons hk hzv rfl .nil)
         obtain ⟨r1, r2⟩ := putMap (k1 := clock + 1) H hi hget hR2
         refine ⟨ρ, _, _, Rho.le_refl ρ, ?_, .tuple (c := #[z, .int .i64 clock]) (c' := #[z, .int .i64 clock]) (.cons hzv (.cons (.int _ _) .nil)), r1, r2⟩
         simp [Instr.mapEntry, run_und hu, run_getMap hw, hck, h2, hset, hzr, goInt]
       · cases hs
     · cases hs
   · cases hs
 · cases hs
theorem entryStore_run (H : HR P ρ N h w) {t : TypeId} {m m' s s' v v' : Value} (hm : VR ρ m m') (hss : VR ρ s s') (hvv : VR ρ v v') {h1 : Hp} (hs : entryStore' h m s v = some h1) :
  ∃ w1, (Instr.entryStore t m' s' v').run P w = .ok () w1 ∧ HR P ρ N h1 w1 ∧ Below N w w1 := by
 unfold entryStore' at hs
 split at hs
 · rename_i r b hb
   cases hm with
   | @map _ i hi =>
   obtain ⟨kk, rfl⟩ := natOf_VR hss hb
   split at hs
   · rename_i es clock hmp
     obtain ⟨es', hw, hMR, hget⟩ := H.map? hmp hi
     have hset := fun o' => setObj_run (P := P) (o' := o') hw (fun _ _ _ e => by cases e)
     split at hs
     · rename_i j hj
       injection hs with hs
       subst hs
       obtain ⟨_, e, e', g1, g2, g3, g4, _⟩ := bornAt_spec hMR hj
       rw [Nat.sub_zero] at g4
       have hidx : es'.findIdx? (fun e => (e.born : Int) == (b : Int)) = some j := by
        have hfn : (fun e : MapEntry => (e.born : Int) == (b : Int)) = fun e => e.born == b := by
         funext e
         rw [Bool.eq_iff_iff]
         simp
         omega
        rw [hfn]
        rw [← g4]
        cases es'
        simp
       have hR2 : MRs ρ (Go.Ev.setAt (fun e => { e with val := v }) es j) (es'.modify j fun e => { e with val := v' }).toList := by
        rw [Array.toList_modify]
        exact MRs.setAt (f := fun e => { e with val := v }) (f' := fun e => { e with val := v' }) (fun e e' hk _ hb => ⟨hk, hvv, hb⟩) hMR j
       obtain ⟨r1, r2⟩ := putMap (k1 := clock) H hi hget hR2
       refine ⟨_, ?_, r1, r2⟩
       simp [Instr.entryStore, run_getMap hw, asInt, asIntOf, hidx, hset]
     · cases hs
   · cases hs
 · cases hs
theorem delete_run (W : WfP P) (H : HR P ρ N h w) {ts : Array TypeId} {ty : TypeId} {t : TypeId} (ht : ts[0]? = some t) {l' : Array Value} {m m' k k' : Value} (h0 : l'[0]? = some m') (h1' : l'[1]? = some k') (hm : VR ρ m m') (hk : VR ρ k k') {v : Value} {h1 : Hp} (hs : delete' P h t m k = some (v, h1)) :
  ∃ ρ1 w1 v', ρ.le ρ1 ∧ (Builtin.delete_ ts ty l').run P w = .ok v' w1 ∧ VR ρ1 v v' ∧ HR P ρ1 N h1 w1 ∧ Below N w w1 := by
 unfold delete' at hs
 split at hs
 · rename_i kt et hu
   cases hm
   split at hs
   · rename_i hko
     injection hs with hs
     injection hs with hs1 hs2
     subst hs1
     subst hs2
     have hck := checkKey_run (w := w) W 40 kt k k' hko hk 10000 (by omega) true
     refine ⟨ρ, w, _, Rho.le_refl ρ, ?_, .tuple (c := #[]) (c' := #[]) .nil, H, Below.refl _ _⟩
     simp [Builtin.delete_, ht, h0, h1', run_und hu, hck]
   · cases hs
 · rename_i kt et r hu
   cases hm with
   | @map _ i hi =>
   split at hs
   · rename_i es clock hmp hko
     obtain ⟨es', hw, hMR, hget⟩ := H.map? hmp hi
     obtain ⟨kind, hkd⟩ := und_of_keyOk hko
     have hck := fun em => checkKey_run (w := w) W 40 kt k k' hko hk 10000 (by omega) em
     have hset := fun o' => setObj_run (P := P) (o' := o') hw (fun _ _ _ e => by cases e)
     split at hs
     · rename_i j u hf
       obtain ⟨res', h2, h3⟩ := findKey_run H hk hMR hf hkd
       injection hs with hs
       injection hs with hs1 hs2
       subst hs1
       subst hs2
       cases h3 with
       | some hu3 =>
       have hR2 : MRs ρ (es.eraseIdx j) (es'.eraseIdxIfInBounds j).toList := by
        have : (es'.eraseIdxIfInBounds j).toList = es'.toList.eraseIdx j := by
         unfold Array.eraseIdxIfInBounds
         split
         · simp
         · rename_i hge
           rw [List.eraseIdx_of_length_le (by simpa using hge)]
        rw [this]
        exact hMR.erase j
       obtain ⟨r1, r2⟩ := putMap (k1 := clock) H hi hget hR2
       refine ⟨ρ, _, _, Rho.le_refl ρ, ?_, .tuple (c := #[]) (c' := #[]) .nil, r1, r2⟩
       simp [Builtin.delete_, ht, h0, h1', run_und hu, run_getMap hw, hck, h2, hset]
     · rename_i hf
       obtain ⟨res', h2, h3⟩ := findKey_run H hk hMR hf hkd
       injection hs with hs
       injection hs with hs1 hs2
       subst hs1
       subst hs2
       cases h3 with
       | none =>
       refine ⟨ρ, w, _, Rho.le_refl ρ, ?_, .tuple (c := #[]) (c' := #[]) .nil, H, Below.refl _ _⟩
       simp [Builtin.delete_, ht, h0, h1', run_und hu, run_getMap hw, hck, h2, hset, putBlock_same w _ _ hw]
     · cases hs
   · cases hs
 · cases hs
end Go.Ev
namespace Go.Ev
open Go.RowKit
variable {P : Program} {ρ : Rho} {N : Bs} {h : Hp} {w : World} {a : A} {act : Act}
theorem new_next {o : CObj} {b : Nat} {h1 : Hp} (hn : h.new o = some (b, h1)) : b = h.next := by
 unfold Hp.new at hn
 split at hn
 · injection hn with hn; injection hn with e1 e2; exact e1.symm
 · cases hn
theorem newObj_run (H : HR P ρ N h w) {o : CObj} {b : Nat} {h1 : Hp} (hn : h.new o = some (b, h1)) {o' : Obj} (hR : ∀ ρ' : Rho, ρ.le ρ' → ObjR P ρ' ⟨w.heap.size, 0, 0, 0, true⟩ o o') (hno : ∀ r, o ≠ .cells r) :
  ∃ ρ1 : Rho, (newObj o').run P w = .ok w.heap.size (w.alloc o') ∧ ρ.le ρ1 ∧ HR P ρ1 N h1 (w.alloc o') ∧ Below N w (w.alloc o') ∧ ρ1 b = some ⟨w.heap.size, 0, 0, 0, true⟩ := by
 have hb := new_next hn
 subst hb
 have hle := H.le_put ⟨w.heap.size, 0, 0, 0, true⟩
 obtain ⟨_, h2, h3⟩ := H.new hn ⟨w.heap.size, 0, 0, 0, true⟩ rfl (hR _ hle) (fun r e => absurd e (hno r))
 exact ⟨_, rfl, hle, h2, h3, by simp [Rho.put]⟩
theorem range_run (H : HR P ρ N h w) {t : TypeId} {x x' : Value} (hx : VR ρ x x') {v : Value} {h1 : Hp} (hv : range' P h t x = some (v, h1)) :
  ∃ ρ1 w1 v', ρ.le ρ1 ∧ (Instr.range t x').run P w = .ok v' w1 ∧ VR ρ1 v v' ∧ HR P ρ1 N h1 w1 ∧ Below N w w1 := by
 have fin : ∀ {ρ1 : Rho} {b : Nat}, ρ1 b = some ⟨w.heap.size, 0, 0, 0, true⟩ → VR ρ1 (.pointer (some ⟨b, 0, none⟩)) (.pointer (some ⟨w.heap.size, 0, none⟩)) := by
  intro ρ1 b hb
  exact .ptr (i := ⟨w.heap.size, 0, 0, 0, true⟩) ⟨rfl, hb, rfl⟩
 unfold range' at hv
 split at hv
 · rename_i s hu
   cases hx
   split at hv
   · rename_i b h2 hn
     injection hv with hv
     injection hv with hv1 hv2
     subst hv1; subst hv2
     obtain ⟨ρ1, r1, r2, r3, r4, r5⟩ := newObj_run (o' := .stringIter s 0) H hn (fun _ _ => ⟨rfl, rfl, rfl⟩) (fun _ e => by cases e)
     exact ⟨ρ1, _, _, r2, by simp [Instr.range, run_und hu, alloc_push], fin r5, r3, r4⟩
   · cases hv
 · rename_i k e hu
   cases hx
   split at hv
   · rename_i b h2 hn
     injection hv with hv
     injection hv with hv1 hv2
     subst hv1; subst hv2
     obtain ⟨ρ1, r1, r2, r3, r4, r5⟩ := newObj_run (o' := .mapIter none 0 #[] 0) H hn (fun _ _ => ⟨trivial, rfl, rfl, rfl, rfl⟩) (fun _ e => by cases e)
     exact ⟨ρ1, _, _, r2, by simp [Instr.range, run_und hu, alloc_push], fin r5, r3, r4⟩
   · cases hv
 · rename_i k e m hu
   cases hx with
   | @map _ i hi =>
   split at hv
   · rename_i es clock hm
     obtain ⟨es', hw, hMR, hget⟩ := H.map? hm hi
     split at hv
     · rename_i b h2 hn
       injection hv with hv
       injection hv with hv1 hv2
       subst hv1; subst hv2
       obtain ⟨ρ1, r1, r2, r3, r4, r5⟩ := newObj_run (o' := .mapIter (some i.b) clock #[] clock) H hn (fun ρ' hle => ⟨⟨i, hle _ _ hi, rfl⟩, rfl, rfl, rfl, rfl⟩) (fun _ e => by cases e)
       exact ⟨ρ1, _, _, r2, by simp [Instr.range, run_und hu, run_getMap hw, alloc_push], fin r5, r3, r4⟩
     · cases hv
   · cases hv
 · cases hv
theorem MRs.filter {p p' : MapEntry → Bool} (hp : ∀ e e', e'.born = e.born → p' e' = p e) : ∀ {l l' : List MapEntry}, MRs ρ l l' → MRs ρ (l.filter p) (l'.filter p')
 | _, _, .nil => by simpa using MRs.nil
 | _, _, .cons (e := e) (e' := e') (l := l) a b c k => by
   have := hp _ _ c
   by_cases h : p e = true
   · rw [List.filter_cons_of_pos h, List.filter_cons_of_pos (by rw [this]; exact h)]
     exact .cons a b c (MRs.filter hp k)
   · rw [List.filter_cons_of_neg h, List.filter_cons_of_neg (by rw [this]; exact h)]
     exact MRs.filter hp k
theorem run_getObj {r : Nat} {o : Obj} (hw : w.heap[r]? = some o) (hno : ∀ c e f, o ≠ .cells c e f) : (getObj r).run P w = .ok o w := by
 cases o <;> first
  | (exact absurd rfl (hno _ _ _))
  | (simp [getObj, Sem.run, hw]; done)
theorem contains_any (l : List Nat) (b : Nat) : l.contains b = l.any (fun x => Nat.beq x b) := by
 induction l with
 | nil => rfl
 | cons x l ih =>
   rw [List.contains_cons, List.any_cons, ih]
   congr 1
   rw [Bool.eq_iff_iff]
   simp
   exact eq_comm
theorem all_MRs {p p' : MapEntry → Bool} (hp : ∀ e e', e'.born = e.born → p' e' = p e) : ∀ {l l' : List MapEntry}, MRs ρ l l' → l'.all p' = l.all p
 | _, _, .nil => rfl
 | _, _, .cons a b c k => by simp [hp _ _ c, all_MRs hp k]
theorem next_run (H : HR P ρ N h w) {x x' : Value} (hx : VR ρ x x') {s : Bool} {ty : TypeId} {v : Value} {h1 : Hp} (hv : next' h x s = some (v, h1)) :
  ∃ ρ1 w1 v', ρ.le ρ1 ∧ (Instr.next x' s ty).run P w = .ok v' w1 ∧ VR ρ1 v v' ∧ HR P ρ1 N h1 w1 ∧ Below N w w1 := by
 unfold next' at hv
 split at hv
 · rename_i p
   cases hx with
   | @ptr _ p' i hp =>
   have hi := hp.2.1
   have objOf : ∀ {o : CObj}, h.objs.get p.block = some o → (∀ r, o ≠ .cells r) → ∃ o', w.heap[i.b]? = some o' ∧ ObjR P ρ i o o' := by
    intro o ho hno
    exact H.obj p.block o i ho (fun r hr => by rw [ho] at hr; injection hr with hr; exact absurd hr (hno r)) hi
   split at hv
   ·
     rename_i str pos hoff hobj
     obtain ⟨o', ho, hR⟩ := objOf hobj (fun _ e => by cases e)
     cases o' <;> simp only [ObjR] at hR
     obtain ⟨rfl, rfl, hs0⟩ := hR
     rename_i s' pos'
     have hz : i.s + p.off = 0 := by omega
     have hget := run_getObj (P := P) ho (fun _ _ _ e => by cases e)
     have hset := fun o' => setObj_run (P := P) (o' := o') ho (fun _ _ _ e => by cases e)
     rw [hp.fn, hz]
     split at hv
     · rename_i hlt
       have hlt' : pos' < s'.size := by rw [size_data]; simpa [Nat.blt_eq] using hlt
       split at hv
       rename_i c wd hd
       injection hv with hv
       injection hv with hv1 hv2
       subst hv1; subst hv2
       obtain ⟨r1, r2⟩ := H.put_alone (o := .sIter s' (pos' + wd)) (o' := .stringIter s' (pos' + wd)) hi hobj (fun _ e => by cases e) (fun _ e => by cases e) ⟨rfl, rfl, hs0⟩
       refine ⟨ρ, _, _, Rho.le_refl ρ, ?_, .tuple (c := #[.bool true, .int .i64 pos', .int .i32 c]) (c' := #[.bool true, .int .i64 pos', .int .i32 c]) (.cons (.bool _) (.cons (.int _ _) (.cons (.int _ _) .nil))), r1, r2⟩
       simp [Instr.next, hget, hlt', hd, hset, goInt]
     · rename_i hlt
       have hlt' : ¬ pos' < s'.size := by rw [size_data]; intro hh; rw [show Nat.blt pos' s'.data.toList.length = true by rw [Nat.blt_eq]; exact hh] at hlt; cases hlt
       injection hv with hv
       injection hv with hv1 hv2
       subst hv1; subst hv2
       refine ⟨ρ, _, _, Rho.le_refl ρ, ?_, .tuple (c := #[.bool false]) (c' := #[.bool false]) (.cons (.bool _) .nil), H, Below.refl _ _⟩
       simp [Instr.next, hget, hlt']
   ·
     rename_i since seen last hoff hobj
     obtain ⟨o', ho, hR⟩ := objOf hobj (fun _ e => by cases e)
     cases o' <;> simp only [ObjR] at hR
     rename_i m' since' seen' st'
     obtain ⟨hm, rfl, hseen, rfl, hs0⟩ := hR
     cases m' with
     | some m' => simp at hm
     | none =>
     have hz : i.s + p.off = 0 := by omega
     have hget := run_getObj (P := P) ho (fun _ _ _ e => by cases e)
     rw [hp.fn, hz]
     injection hv with hv
     injection hv with hv1 hv2
     subst hv1; subst hv2
     refine ⟨ρ, _, _, Rho.le_refl ρ, ?_, .tuple (c := #[.bool false]) (c' := #[.bool false]) (.cons (.bool _) .nil), H, Below.refl _ _⟩
     simp [Instr.next, hget]
   ·
     rename_i m since seen last hoff hobj
     obtain ⟨o', ho, hR⟩ := objOf hobj (fun _ e => by cases e)
     cases o' <;> simp only [ObjR] at hR
     rename_i m' since' seen' st'
     obtain ⟨hm, rfl, hseen, rfl, hs0⟩ := hR
     cases m' with
     | none => simp at hm
     | some m' =>
     obtain ⟨j, hj, rfl⟩ := hm
     have hz : i.s + p.off = 0 := by omega
     have hget := run_getObj (P := P) ho (fun _ _ _ e => by cases e)
     have hset := fun o' => setObj_run (P := P) (o' := o') ho (fun _ _ _ e => by cases e)
     split at hv
     · rename_i es clock hmap
       obtain ⟨es', hw, hMR, _⟩ := H.map? hmap hj
       have hget2 := run_getMap (P := P) hw
       split at hv
       · cases hv
       · rename_i hfresh
         have q1 : (!seen'.isEmpty && !es'.isEmpty && es'.all (fun e => decide (e.born ≥ st'))) = false := by
          have e1 : seen'.isEmpty = seen.isEmpty := by rw [← hseen]; simp
          have e2 : es'.isEmpty = es.isEmpty := by
           have := hMR.length
           rw [Bool.eq_iff_iff, Array.isEmpty_iff, List.isEmpty_iff, ← Array.toList_eq_nil_iff, ← List.length_eq_zero_iff, ← List.length_eq_zero_iff, this]
          have e3 : es'.all (fun e => decide (e.born ≥ st')) = es.all fun e => Nat.ble st' e.born := by
           rw [← Array.all_toList]
           refine all_MRs (fun e e' hb => ?_) hMR
           rw [hb, Bool.eq_iff_iff]
           simp
          rw [e1, e2, e3]
          cases h1 : seen.isEmpty <;> cases h2 : es.isEmpty <;> cases h3 : (es.all fun e => Nat.ble st' e.born) <;> simp_all
         have hleft : MRs ρ (es.filter fun e => !(seen.any fun b => Nat.beq b e.born)) (es'.filter fun e => !seen'.contains e.born).toList := by
          rw [Array.toList_filter]
          refine hMR.filter (fun e e' hb => ?_)
          rw [hb, ← hseen, ← contains_any]
          simp
         generalize hL : (es.filter fun e => !(seen.any fun b => Nat.beq b e.born)) = L at hv hleft
         generalize hL' : (es'.filter fun e => !seen'.contains e.born) = L' at hleft
         have hold : MRs ρ (L.filter fun e => Nat.blt e.born since') (L'.filter fun e => decide (e.born < since')).toList := by
          rw [Array.toList_filter]
          refine hleft.filter (fun e e' hb => ?_)
          rw [hb, Bool.eq_iff_iff]
          simp [Nat.blt_eq]
         have hnew : MRs ρ (L.filter fun e => Nat.ble since' e.born) (L'.filter fun e => decide (e.born ≥ since')).toList := by
          rw [Array.toList_filter]
          refine hleft.filter (fun e e' hb => ?_)
          rw [hb, Bool.eq_iff_iff]
          simp
         have q1' : (!seen'.isEmpty && !es'.isEmpty && es'.all (fun x => decide (x.born ≥ st'))) = false := q1
         simp only [] at hv
         split at hv
         · rename_i h1 h2
           rw [h1] at hold
           rw [h2] at hnew
           injection hv with hv
           injection hv with hv1 hv2
           subst hv1; subst hv2
           have o1 : (L'.filter fun e => decide (e.born < since')) = #[] := by
            apply Array.ext'
            cases hc : (L'.filter fun e => decide (e.born < since')).toList with
            | nil => rfl
            | cons x r => rw [hc] at hold; cases hold
           have o2 : (L'.filter fun e => decide (e.born ≥ since')) = #[] := by
            apply Array.ext'
            cases hc : (L'.filter fun e => decide (e.born ≥ since')).toList with
            | nil => rfl
            | cons x r => rw [hc] at hnew; cases hnew
           refine ⟨ρ, w, _, Rho.le_refl ρ, ?_, .tuple (c := #[.bool false]) (c' := #[.bool false]) (.cons (.bool _) .nil), H, Below.refl _ _⟩
           rw [hp.fn, hz]
           simp only [Instr.next, Sem.run_bind, hget, Result.andThen_ok, hget2, q1', Bool.false_eq_true, if_false, Sem.run_pure, hL', o1, o2]
           simp [Question.forced]
         · rename_i e h1 h2
           rw [h1] at hold
           rw [h2] at hnew
           injection hv with hv
           injection hv with hv1 hv2
           subst hv1; subst hv2
           obtain ⟨e', o1, hek, hev, heb⟩ : ∃ e', (L'.filter fun e => decide (e.born < since')) = #[e'] ∧ VR ρ e.key e'.key ∧ VR ρ e.val e'.val ∧ e'.born = e.born := by
            cases hc : (L'.filter fun e => decide (e.born < since')).toList with
            | nil => rw [hc] at hold; cases hold
            | cons x r =>
              rw [hc] at hold
              cases hold with
              | cons a b c k =>
              cases k
              exact ⟨x, by apply Array.ext'; rw [hc], a, b, c⟩
           have o2 : (L'.filter fun e => decide (e.born ≥ since')) = #[] := by
            apply Array.ext'
            cases hc : (L'.filter fun e => decide (e.born ≥ since')).toList with
            | nil => rfl
            | cons x r => rw [hc] at hnew; cases hnew
           obtain ⟨r1, r2⟩ := H.put_alone (o := .mIter (some m) since' (seen ++ [e.born]) clock) (o' := .mapIter (some j.b) since' (seen'.push e'.born) clock) hi hobj (fun _ e => by cases e) (fun _ e => by cases e)
            ⟨⟨j, hj, rfl⟩, rfl, by rw [Array.toList_push, hseen, heb], rfl, hs0⟩
           refine ⟨ρ, _, _, Rho.le_refl ρ, ?_, .tuple (c := #[.bool true, e.key, e.val]) (c' := #[.bool true, e'.key, e'.val]) (.cons (.bool _) (.cons hek (.cons hev .nil))), r1, r2⟩
           rw [hp.fn, hz]
           simp only [Instr.next, Sem.run_bind, hget, Result.andThen_ok, hget2, q1', Bool.false_eq_true, if_false, Sem.run_pure, hL', o1, o2]
           simp [Question.forced, hset]
         · cases hv
     · cases hv
   · cases hv
 · cases hv
end Go.Ev
namespace Go.Ev
open Go.RowKit
variable {P : Program} {ρ : Rho} {N : Bs} {h : Hp} {w : World} {a : A} {act : Act}
theorem HR.grow (H : HR P ρ N h w) {B : Nat} {i : Img} {r : Row} {arr : Array Value} {e0 : TypeId} {fr : Nat × Nat} (hi : ρ B = some i) (hr : h.row B = some r)
  (hw : w.heap[i.b]? = some (.cells arr e0 fr)) (top : Nat) {w1 : World} {arr1 : Array Value} (hw1 : w1.heap[i.b]? = some (.cells arr1 e0 fr)) (hsz : arr1.size = arr.size)
  (hsame : ∀ k, k + r.base < i.s + top → arr1[k]? = arr[k]?) (hoth : ∀ k, k < w.heap.size → k ≠ i.b → w1.heap[k]? = w.heap[k]?) (hgrow : w.heap.size ≤ w1.heap.size)
  (q1 : Row) (i1 : Img) (o1 : Obj) (ho1 : w1.heap[i1.b]? = some o1) (hR1 : ObjR P (ρ.put h.next i1) i1 (.cells q1) o1)
  (hi1 : (i1.b = i.b ∧ i1.s + r.base = i.s + q1.base) ∨ (w.heap.size ≤ i1.b ∧ i1.b < w1.heap.size)) (f : Nat) (hf : q1.fam = f)
  (hff : (f = r.fam ∧ r.fam ≠ 0) ∨ (r.fam = 0 ∧ f = h.nfam)) {h1 : Hp} (hobj : ∀ d, h1.objs.get d = if d = h.next then some (.cells q1) else if d = B then some (.cells { r with fam := f }) else h.objs.get d)
  {l1 : List Mem} (hl1 : h1.fams.get f = some l1) (hfam : ∀ g, g ≠ f → h1.fams.get g = h.fams.get g)
  (hmem : ∀ m ∈ l1, m = ⟨h.next, q1.base, q1.base + q1.c.length⟩ ∨ (m.hi ≤ top ∧ (m = ⟨B, r.base, r.base + r.c.length⟩ ∨ ∃ l0, h.fams.get f = some l0 ∧ r.fam = f ∧ m ∈ l0)))
  (hnx : h1.next = h.next + 1) (hnm : h.next < most) (hnf : f < h1.nfam) (hnf1 : h.nfam ≤ h1.nfam) (hnf2 : h1.nfam ≤ most) (hnf3 : ∀ g, g < h1.nfam → g ≠ f → g < h.nfam) : HR P (ρ.put h.next i1) N h1 w1 := by
 obtain ⟨hget, hfams⟩ := row_get hr
 have hBn : B < h.next := H.cover _ _ hget
 have hf0 : f ≠ 0 := by
  rcases hff with ⟨h1, h2⟩ | ⟨_, h2⟩
  · rw [h1]; exact h2
  · have := H.nf0; omega
 have hib := H.lo B i hi
 have cs : ∀ d j, (ρ.put h.next i1) d = some j → (d = h.next ∧ j = i1) ∨ (d ≠ h.next ∧ ρ d = some j) := by
  intro d j hj
  unfold Rho.put at hj
  by_cases hd : d = h.next
  · rw [if_pos hd] at hj; injection hj with hj; exact .inl ⟨hd, hj.symm⟩
  · rw [if_neg hd] at hj; exact .inr ⟨hd, hj⟩
 have hle := H.le_put i1
 have below : ∀ (d : Nat) (j : Img) (q : Row), ρ d = some j → h.objs.get d = some (.cells q) → h.alive d → (d = B ∨ (d ≠ B ∧ j.b = i.b ∧ i.s + q.base = j.s + r.base)) → q.base + q.c.length ≤ top → ∃ o', w1.heap[j.b]? = some o' ∧ ∀ f', ObjR P (ρ.put h.next i1) j (.cells { q with fam := f' }) o' := by
  intro d j q hj hq hal hdB hhi
  obtain ⟨o', g1, g2⟩ := H.obj d _ j hq hal hj
  have hjb : j.b = i.b ∧ i.s + q.base = j.s + r.base := by
   rcases hdB with rfl | ⟨_, h1, h2⟩
   · rw [hi] at hj
     injection hj with hj
     subst hj
     rw [hget] at hq
     injection hq with hq
     injection hq with hq
     subst hq
     exact ⟨rfl, rfl⟩
   · exact ⟨h1, h2⟩
  rw [hjb.1, hw] at g1
  injection g1 with g1
  subst g1
  refine ⟨_, by rw [hjb.1]; exact hw1, fun f' => ?_⟩
  have g3 := g2.mono hle
  simp only [ObjR] at g3 ⊢
  refine ⟨g3.1, by rw [hsz]; exact g3.2.1, by rw [hsz]; exact g3.2.2.1, fun k v hk => ?_, by rw [hsz]; exact g3.2.2.2.2.1, g3.2.2.2.2.2⟩
  have hkl : k < q.c.length := by
   rcases Nat.lt_or_ge k q.c.length with h | h
   · exact h
   · have hk' : q.c[k]? = some v := hk
     rw [List.getElem?_eq_none h] at hk'; cases hk'
  rw [hsame _ (by omega)]
  exact g3.2.2.2.1 k v hk
 refine ⟨?_, ?_, ?_, ?_, ?_, ?_, ?_, by rw [hnx]; omega, hnf2, by omega, by have := H.base; omega, fun d hd => ⟨by unfold Rho.put; rw [if_neg (by have := (H.gho d hd).2; omega)]; exact (H.gho d hd).1, by rw [hnx]; have := (H.gho d hd).2; omega⟩⟩
 ·
   intro d o j ho hal hj
   rw [hobj] at ho
   rcases cs d j hj with ⟨rfl, rfl⟩ | ⟨hd, hj'⟩
   · rw [if_pos rfl] at ho
     injection ho with ho
     subst ho
     exact ⟨o1, ho1, hR1⟩
   · rw [if_neg hd] at ho
     have live : ∀ q, h1.objs.get d = some (.cells q) → q.fam = f → ∃ m, m ∈ l1 ∧ m.b = d ∧ m.hi ≤ top ∧ (m = ⟨B, r.base, r.base + r.c.length⟩ ∨ ∃ l0, h.fams.get f = some l0 ∧ r.fam = f ∧ m ∈ l0) := by
      intro q hq hqf
      have := (row_get (hal q hq)).2
      rw [hqf] at this
      obtain ⟨l2, e1, m, hm, e2⟩ := this.resolve_left hf0
      rw [hl1] at e1
      injection e1 with e1
      subst e1
      rcases hmem m hm with rfl | ⟨g1, g2⟩
      · exact absurd e2.symm hd
      · exact ⟨m, hm, e2, g1, g2⟩
     by_cases hdB : d = B
     · rw [if_pos hdB] at ho
       injection ho with ho
       subst ho
       obtain ⟨m, hm, e2, g1, g2⟩ := live _ (by rw [hobj, if_neg hd, if_pos hdB]) rfl
       have hhi : m.hi = r.base + r.c.length := by
        rcases g2 with rfl | ⟨l0, h0, h2, h3⟩
        · rfl
        · obtain ⟨q, k1, k2, k3, k4⟩ := H.mem f l0 m h0 h3 (by rw [← h2]; exact H.famlt _ _ hget) (by first | exact hf0 | omega)
          rw [e2, hdB, hget] at k1
          injection k1 with k1
          injection k1 with k1
          subst k1
          exact k4
       have hal' : h.alive d := by
        intro q hq
        rw [hdB, hget] at hq
        injection hq with hq
        injection hq with hq
        subst hq
        rw [hdB]
        exact hr
       obtain ⟨o', e3, e4⟩ := below d j r hj' (by rw [hdB]; exact hget) hal' (.inl hdB) (by omega)
       exact ⟨o', e3, e4 f⟩
     · rw [if_neg hdB] at ho
       by_cases hcell : ∃ q, o = .cells q ∧ q.fam = f
       · obtain ⟨q, rfl, hqf⟩ := hcell
         obtain ⟨m, hm, e2, g1, g2⟩ := live q (by rw [hobj, if_neg hd, if_neg hdB]; exact ho) hqf
         rcases g2 with rfl | ⟨l0, h0, h2, h3⟩
         · exact absurd e2.symm hdB
         · obtain ⟨q2, k1, k2, k3, k4⟩ := H.mem f l0 m h0 h3 (by rw [← h2]; exact H.famlt _ _ hget) (by first | exact hf0 | omega)
           rw [e2, ho] at k1
           injection k1 with k1
           injection k1 with k1
           subst k1
           have hal' : h.alive d := by
            intro q' hq'
            rw [ho] at hq'
            injection hq' with hq'
            injection hq' with hq'
            subst hq'
            exact row_mk ho (.inr ⟨l0, by rw [hqf]; exact h0, m, h3, e2⟩)
           by_cases ejb : j.b = i.b
           · obtain ⟨r0, q0, t1, t2, t3, t4, t5⟩ := H.inj B d i j hi hj' (fun e => hdB e.symm) ejb.symm
             rw [hget] at t1
             injection t1 with t1
             injection t1 with t1
             subst t1
             rw [ho] at t2
             injection t2 with t2
             injection t2 with t2
             subst t2
             obtain ⟨o', e3, e4⟩ := below d j q hj' ho hal' (.inr ⟨hdB, ejb, t5⟩) (by omega)
             exact ⟨o', e3, e4 q.fam⟩
           · obtain ⟨o', e3, e4⟩ := H.obj d _ j ho hal' hj'
             exact ⟨o', by rw [hoth _ (H.lo d j hj').2 ejb]; exact e3, e4.mono hle⟩
       ·
         have hal' : h.alive d := by
          intro q hq
          have hq1 : h1.objs.get d = some (.cells q) := by rw [hobj, if_neg hd, if_neg hdB]; exact hq
          have hne : q.fam ≠ f := by
           intro e
           rw [ho] at hq
           injection hq with hq
           exact hcell ⟨q, hq, e⟩
          rcases (row_get (hal q hq1)).2 with h0 | ⟨l2, e1, m, hm, e2⟩
          · exact row_mk hq (.inl h0)
          · rw [hfam _ hne] at e1
            exact row_mk hq (.inr ⟨l2, e1, m, hm, e2⟩)
         obtain ⟨o', e3, e4⟩ := H.obj d o j ho hal' hj'
         have hjb : j.b ≠ i.b := by
          intro e
          obtain ⟨r0, q0, t1, t2, t3, t4, t5⟩ := H.inj B d i j hi hj' (fun e => hdB e.symm) e.symm
          rw [hget] at t1
          injection t1 with t1
          injection t1 with t1
          subst t1
          rw [ho] at t2
          injection t2 with t2
          rcases hff with ⟨u1, u2⟩ | ⟨u1, u2⟩
          · exact hcell ⟨q0, t2, by omega⟩
          · exact t4 u1
         exact ⟨o', by rw [hoth _ (H.lo d j hj').2 hjb]; exact e3, e4.mono hle⟩
 · intro d j hj
   rw [hnx]
   rcases cs d j hj with ⟨rfl, _⟩ | ⟨_, hj'⟩
   · omega
   · have := H.dom d j hj'; omega
 · intro d j hj
   rcases cs d j hj with ⟨rfl, rfl⟩ | ⟨_, hj'⟩
   · rcases hi1 with ⟨e, _⟩ | ⟨e1, e2⟩
     · omega
     · have := H.base; omega
   · have := H.lo d j hj'; omega
 ·
   intro d g j k hj hk hne ejk
   have withNew : ∀ d j, d ≠ h.next → ρ d = some j → j.b = i1.b → Together h1 h.next d i1 j := by
    intro d j hd hj' e
    have hlo := H.lo d j hj'
    rcases hi1 with ⟨e1, e2⟩ | ⟨e1, _⟩
    · by_cases hdB : d = B
      · subst hdB
        rw [hi] at hj'
        injection hj' with hj'
        subst hj'
        exact ⟨q1, { r with fam := f }, by rw [hobj, if_pos rfl], by rw [hobj, if_neg hd, if_pos rfl], hf, by rw [hf]; exact hf0, e2⟩
      · obtain ⟨r0, q0, t1, t2, t3, t4, t5⟩ := H.inj B d i j hi hj' (fun e => hdB e.symm) (by omega)
        rw [hget] at t1
        injection t1 with t1
        injection t1 with t1
        subst t1
        have hrf : r.fam = f := by
         rcases hff with ⟨u1, u2⟩ | ⟨u1, u2⟩
         · exact u1.symm
         · exact absurd u1 t4
        exact ⟨q1, q0, by rw [hobj, if_pos rfl], by rw [hobj, if_neg hd, if_neg hdB]; exact t2, by omega, by rw [hf]; exact hf0, by omega⟩
    · omega
   rcases cs d j hj with ⟨e1, e2⟩ | ⟨e1, e2⟩ <;> rcases cs g k hk with ⟨f1, f2⟩ | ⟨f1, f2⟩
   · exact absurd (e1.trans f1.symm) hne
   · subst e1; subst e2
     exact withNew g k f1 f2 ejk.symm
   · subst f1; subst f2
     obtain ⟨x, y, t1, t2, t3, t4, t5⟩ := withNew d j e1 e2 ejk
     exact ⟨y, x, t2, t1, t3.symm, by omega, t5.symm⟩
   · obtain ⟨x, y, t1, t2, t3, t4, t5⟩ := H.inj d g j k e2 f2 hne ejk
     by_cases hdB : d = B
     · have hgB : g ≠ B := fun e => hne (hdB.trans e.symm)
       rw [hdB, hget] at t1
       injection t1 with t1
       injection t1 with t1
       subst t1
       have hrf : r.fam = f := by
        rcases hff with ⟨u1, u2⟩ | ⟨u1, u2⟩
        · exact u1.symm
        · exact absurd u1 t4
       exact ⟨{ r with fam := f }, y, by rw [hobj, if_neg e1, if_pos hdB], by rw [hobj, if_neg f1, if_neg hgB]; exact t2, by show f = y.fam; omega, hf0, t5⟩
     · by_cases hgB : g = B
       · rw [hgB, hget] at t2
         injection t2 with t2
         injection t2 with t2
         subst t2
         have hrf : r.fam = f := by
          rcases hff with ⟨u1, u2⟩ | ⟨u1, u2⟩
          · exact u1.symm
          · exact absurd u1 (by omega)
         exact ⟨x, { r with fam := f }, by rw [hobj, if_neg e1, if_neg hdB]; exact t1, by rw [hobj, if_neg f1, if_pos hgB], by show x.fam = f; omega, t4, t5⟩
       · exact ⟨x, y, by rw [hobj, if_neg e1, if_neg hdB]; exact t1, by rw [hobj, if_neg f1, if_neg hgB]; exact t2, t3, t4, t5⟩
 · intro d q hq
   rw [hobj] at hq
   by_cases hd : d = h.next
   · rw [if_pos hd] at hq
     injection hq with hq
     injection hq with hq
     subst hq
     omega
   · rw [if_neg hd] at hq
     by_cases hdB : d = B
     · rw [if_pos hdB] at hq
       injection hq with hq
       injection hq with hq
       subst hq
       exact hnf
     · rw [if_neg hdB] at hq
       have := H.famlt d q hq
       omega
 · intro g l m hl hm hg hg0
   by_cases hgf : g = f
   · subst hgf
     rw [hl1] at hl
     injection hl with hl
     subst hl
     rcases hmem m hm with rfl | ⟨_, rfl | ⟨l0, h0, h2, h3⟩⟩
     · exact ⟨q1, by rw [hobj, if_pos rfl], hf, rfl, rfl⟩
     · exact ⟨{ r with fam := g }, by rw [hobj, if_neg (by show B ≠ h.next; omega), if_pos rfl], rfl, rfl, rfl⟩
     · obtain ⟨q, k1, k2, k3, k4⟩ := H.mem g l0 m h0 h3 (by rw [← h2]; exact H.famlt _ _ hget) (by first | exact hf0 | omega)
       have hmn := H.cover _ _ k1
       by_cases hmB : m.b = B
       · rw [hmB, hget] at k1
         injection k1 with k1
         injection k1 with k1
         subst k1
         exact ⟨{ r with fam := g }, by rw [hobj, if_neg (by omega), if_pos hmB], rfl, k3, k4⟩
       · exact ⟨q, by rw [hobj, if_neg (by omega), if_neg hmB]; exact k1, k2, k3, k4⟩
   · rw [hfam g hgf] at hl
     obtain ⟨q, k1, k2, k3, k4⟩ := H.mem g l m hl hm (hnf3 g hg hgf) hg0
     have hmn := H.cover _ _ k1
     by_cases hmB : m.b = B
     · rw [hmB, hget] at k1
       injection k1 with k1
       injection k1 with k1
       subst k1
       exfalso
       rcases hff with ⟨u1, u2⟩ | ⟨u1, u2⟩
       · omega
       · omega
     · exact ⟨q, by rw [hobj, if_neg (by omega), if_neg hmB]; exact k1, k2, k3, k4⟩
 · intro d o ho
   rw [hobj] at ho
   rw [hnx]
   by_cases hd : d = h.next
   · omega
   · rw [if_neg hd] at ho
     by_cases hdB : d = B
     · omega
     · rw [if_neg hdB] at ho
       have := H.cover d o ho
       omega
end Go.Ev
namespace Go.Ev
open Go.RowKit
variable {P : Program} {ρ : Rho} {N : Bs} {h : Hp} {w : World} {a : A} {act : Act}
theorem bytes_take (s : ByteArray) (n : Nat) : ((s.extract 0 n).data.map fun b => Value.int .u8 b.toNat).toList = (s.data.toList.take n).map fun b => .int .u8 b.toNat := by
 rw [extract_eq]
 simp
theorem ints_VRs : ∀ l : List UInt8, VRs ρ (l.map fun b => Value.int .u8 b.toNat) (l.map fun b => Value.int .u8 b.toNat)
 | [] => .nil
 | _ :: l => .cons (.int _ _) (ints_VRs l)
theorem first_run (H : HR P ρ N h w) {size n : Nat} {x x' : Value} (hx : VR ρ x x') (hn : ∀ b len c, x = .slice b len c → n ≤ len) {l : List Value} (hl : first' h size n x = some l) :
  ∃ l' : Array Value, (Builtin.firstCells size n x').run P w = .ok l' w ∧ VRs ρ l l'.toList := by
 unfold first' at hl
 split at hl
 · rename_i p m c
   cases hx with
   | @sl _ p' i _ _ c' hp hc =>
     obtain ⟨l', h1, h2, _⟩ := H.loads (.inr ⟨i, hp⟩) hl
     exact ⟨l', by simp [Builtin.firstCells, h1], h2⟩
   | slZero _ p' =>
     have := hn _ _ _ rfl
     have hz : n * size = 0 := by
      have : n = 0 := by omega
      rw [this, Nat.zero_mul]
     obtain ⟨l', h1, h2, _⟩ := H.loads (a' := p') (.inl hz) hl
     exact ⟨l', by simp [Builtin.firstCells, h1], h2⟩
 · cases hx
   injection hl with hl
   subst hl
   exact ⟨#[], by simp [Builtin.firstCells], .nil⟩
 · rename_i s
   cases hx
   injection hl with hl
   subst hl
   refine ⟨(s.extract 0 n).data.map fun b => .int .u8 b.toNat, by simp [Builtin.firstCells], ?_⟩
   rw [bytes_take]
   exact ints_VRs _
 · cases hl
theorem growBy_le (n c : Nat) (hc : c ≤ 1000000) : Builtin.growBy n 4 c ≤ 3000000 := by
 simp only [Builtin.growBy]
 repeat' split
 all_goals omega
theorem cap_le {n c : Nat} (hn : n ≤ 1000000) (hc : c < n) : Builtin.nextslicecap n c ≤ 3000000 := by
 unfold Builtin.nextslicecap
 split
 · omega
 · split
   · omega
   · exact growBy_le n c (by omega)
theorem all_VRs {x y : List Value} (hxy : VRs ρ x y) (h : x.all oneCell = true) : y.all oneCell = true := by
 induction x generalizing y with
 | nil => cases hxy; rfl
 | cons p x ih =>
   cases hxy with
   | cons hp hx =>
     simp only [List.all_cons, Bool.and_eq_true] at h ⊢
     exact ⟨by rw [hp.oneCell]; exact h.1, ih hx h.2⟩
structure AppendAsks (P : Program) (ts : Array TypeId) (e : TypeId) (i : TypeInfo) (z : Value) : Prop where
 t : ∃ t, ts[0]? = some t ∧ P.underlying t = some (.slice e)
 noInt : ts[1]? = none ∨ (∃ u e, ts[1]? = some u ∧ P.underlying u = some (.slice e)) ∨ ∃ u, ts[1]? = some u ∧ P.underlying u = some .string
 info : P.info? e = some i
 zero : ∀ w, (zeroValue e).run P w = .ok z w
 zs : z.cells.size = i.size
 s0 : 0 < i.size
 b0 : 0 < i.bytes
 b1 : i.bytes ≤ 100000
theorem append_room {ts : Array TypeId} {ty e : TypeId} {i : TypeInfo} {z : Value} (K : AppendAsks P ts e i z) {args : Array Value} {base : Option Addr} {len cap n : Nat} {x : Value}
  (h0 : args[0]? = some (.slice base len cap)) (h1 : args[1]? = some x) (hn : (Builtin.lenOf x).run P w = .ok n w) {new : Array Value} (hnew : (Builtin.firstCells i.size n x).run P w = .ok new w) (hle : len + n ≤ cap)
  {w1 : World} (hst : ∀ a, base = some a → (storeCells (a.add (len * i.size)) new.toList).run P w = .ok () w1) (hnil : base = none → w1 = w) :
  (Builtin.append_ ts ty args).run P w = .ok (.slice base (len + n) cap) w1 := by
 obtain ⟨t, ht, hu⟩ := K.t
 cases base with
 | none =>
   have := hnil rfl
   subst this
   rcases K.noInt with h | ⟨u, q, h, hq⟩ | ⟨u, h, hq⟩
   · simp [Builtin.append_, ht, h0, h1, h, run_und hu, run_size K.info, hn, hle, hnew]
   · simp [Builtin.append_, ht, h0, h1, h, run_und hu, run_und hq, run_size K.info, hn, hle, hnew]
   · simp [Builtin.append_, ht, h0, h1, h, run_und hu, run_und hq, run_size K.info, hn, hle, hnew]
 | some a =>
   have := hst a rfl
   rcases K.noInt with h | ⟨u, q, h, hq⟩ | ⟨u, h, hq⟩
   · simp [Builtin.append_, ht, h0, h1, h, run_und hu, run_size K.info, hn, hle, hnew, this]
   · simp [Builtin.append_, ht, h0, h1, h, run_und hu, run_und hq, run_size K.info, hn, hle, hnew, this]
   · simp [Builtin.append_, ht, h0, h1, h, run_und hu, run_und hq, run_size K.info, hn, hle, hnew, this]
theorem append_new {ts : Array TypeId} {ty e : TypeId} {i : TypeInfo} {z : Value} (K : AppendAsks P ts e i z) {args : Array Value} {base : Option Addr} {len cap n : Nat} {x : Value}
  (h0 : args[0]? = some (.slice base len cap)) (h1 : args[1]? = some x) (hn : (Builtin.lenOf x).run P w = .ok n w) {old new : Array Value} (hold : (Builtin.firstCells i.size len (.slice base len cap)).run P w.drew = .ok old w.drew)
  (hnew : (Builtin.firstCells i.size n x).run P w.drew = .ok new w.drew) (hle : ¬ len + n ≤ cap) (hbig : len + n ≤ 1000000) :
  ∃ newCap, len + n ≤ newCap ∧ (Builtin.append_ ts ty args).run P w = .ok (.slice (some ⟨w.heap.size, 0, none⟩) (len + n) newCap) (w.drew.alloc (.cells (old ++ new ++ Builtin.zeroCells z.cells (newCap - (len + n))) e)) := by
 obtain ⟨t, ht, hu⟩ := K.t
 refine ⟨(Question.appendCap (len + n) cap e).cut (w.tape w.drawn (.appendCap (len + n) cap e)), by simp only [Question.cut]; omega, ?_⟩
 have c1 : ¬ (((len + n : Nat) : Int) > IntKind.i64.max ∧ (False ∨ i.bytes = 0)) := by
  rintro ⟨_, h | h⟩
  · exact h
  · have := K.b0; omega
 have c2 : ¬ (Builtin.nextslicecap (len + n) cap * i.bytes > 2 ^ 48) := by
  have h1 := cap_le hbig (show cap < len + n by omega)
  have h2 := K.b1
  have h3 : Builtin.nextslicecap (len + n) cap * i.bytes ≤ 3000000 * 100000 := Nat.mul_le_mul h1 h2
  have h48 : (2 : Nat) ^ 48 = 281474976710656 := by decide
  omega
 have c3 : i.bytes ≠ 0 := by have := K.b0; omega
 have c4 : ¬ ((2 : Nat) ^ 48 < Builtin.nextslicecap (len + n) cap * i.bytes) := c2
 have c5 : ¬ (281474976710656 < Builtin.nextslicecap (len + n) cap * i.bytes) := c2
 have hz := K.zero w.drew
 have hsz : w.drew.heap.size = w.heap.size := rfl
 rcases K.noInt with h | ⟨u, q, h, hq⟩ | ⟨u, h, hq⟩
 · simp [Builtin.append_, ht, h0, h1, h, run_und hu, run_size K.info, run_info K.info, hn, hle, c3, c5, hold, hnew, hz, Question.forced, newRow, alloc_push]
 · simp [Builtin.append_, ht, h0, h1, h, run_und hu, run_und hq, run_size K.info, run_info K.info, hn, hle, c3, c5, hold, hnew, hz, Question.forced, newRow, alloc_push]
 · simp [Builtin.append_, ht, h0, h1, h, run_und hu, run_und hq, run_size K.info, run_info K.info, hn, hle, c3, c5, hold, hnew, hz, Question.forced, newRow, alloc_push]
end Go.Ev
namespace Go.Ev
open Go.RowKit
variable {P : Program} {ρ : Rho} {N : Bs} {h : Hp} {w : World} {a : A} {act : Act}
theorem grow_HR (H : HR P ρ N h w) {e : TypeId} {sz len n : Nat} {p : Addr} {cells : List Value} {r : Row} {v : Value} {h1 : Hp} (hg : grow' h e sz p len n cells r = some (v, h1))
  {i : Img} {arr : Array Value} {e0 : TypeId} {fr : Nat × Nat} (hi : ρ p.block = some i) (hr : h.row p.block = some r) (hw : w.heap[i.b]? = some (.cells arr e0 fr))
  {w1 : World} {arr1 : Array Value} (hw1 : w1.heap[i.b]? = some (.cells arr1 e0 fr)) (hsz : arr1.size = arr.size)
  (hsame : ∀ k, k < i.s + p.off + len * sz → arr1[k]? = arr[k]?) (hoth : ∀ k, k < w.heap.size → k ≠ i.b → w1.heap[k]? = w.heap[k]?) (hgrow : w.heap.size ≤ w1.heap.size)
  (i1 : Img) (o1 : Obj) (ho1 : w1.heap[i1.b]? = some o1) (hR1 : ∀ f, ObjR P (ρ.put h.next i1) i1 (.cells ⟨cells, e, f, r.base + p.off, true⟩) o1)
  (hi1 : (i1.b = i.b ∧ i1.s = i.s + p.off) ∨ (w.heap.size ≤ i1.b ∧ i1.b < w1.heap.size)) :
  v = .slice (some ⟨h.next, 0, none⟩) (len + n) (len + n) ∧ HR P (ρ.put h.next i1) N h1 w1 := by
 obtain ⟨hget, hfams⟩ := row_get hr
 have hBn : p.block < h.next := H.cover _ _ hget
 have hi1' : ∀ b, b = r.base + p.off → (i1.b = i.b ∧ i1.s + r.base = i.s + b) ∨ (w.heap.size ≤ i1.b ∧ i1.b < w1.heap.size) := by
  intro b hb
  rcases hi1 with ⟨e1, e2⟩ | h
  · exact .inl ⟨e1, by omega⟩
  · exact .inr h
 unfold grow' at hg
 split at hg
 · rename_i hlt hf0
   have hlt' : h.next < most := by simpa [Nat.blt_eq] using hlt
   split at hg
   · rename_i hlf
     have hlf' : h.nfam < most := by simpa [Nat.blt_eq] using hlf
     injection hg with hg
     injection hg with hg1 hg2
     subst hg1
     subst hg2
     refine ⟨rfl, ?_⟩
     refine H.grow hi hr hw (r.base + p.off + len * sz) hw1 hsz (fun k hk => hsame k (by omega)) hoth hgrow ⟨cells, e, h.nfam, r.base + p.off, true⟩ i1 o1 ho1 (hR1 _) (hi1' _ rfl) h.nfam rfl (.inr ⟨hf0, rfl⟩)
      (fun d => ?_) (l1 := (⟨h.next, r.base + p.off, r.base + p.off + cells.length⟩ :: stays p.block r.base (r.base + r.c.length) (r.base + p.off + len * sz))) ?_ (fun g hg => ?_) (fun m hm => ?_) rfl hlt' (by show h.nfam < h.nfam + 1; omega) (by show h.nfam ≤ h.nfam + 1; omega) (by show h.nfam + 1 ≤ most; omega) (fun g hg hne => by have hg' : g < h.nfam + 1 := hg; omega)
     · simp only []
       rw [Tr.get_set' _ _ _ _ (by omega), Tr.get_set' _ _ _ _ (by omega)]
     · simp only []
       rw [Tr.get_set' _ _ _ _ (by omega), if_pos rfl]
     · simp only []
       rw [Tr.get_set' _ _ _ _ (by omega), if_neg hg]
     · rcases List.mem_cons.1 hm with rfl | hm
       · exact .inl rfl
       · unfold stays at hm
         split at hm
         · rename_i hle
           have hle' : r.base + r.c.length ≤ r.base + p.off + len * sz := by simpa using hle
           rw [List.mem_singleton] at hm
           subst hm
           exact .inr ⟨hle', .inl rfl⟩
         · cases hm
   · cases hg
 · rename_i f hlt hf0
   have hlt' : h.next < most := by simpa [Nat.blt_eq] using hlt
   have hfl := H.famlt _ _ hget
   have hnf := H.nf
   split at hg
   · rename_i l hl
     injection hg with hg
     injection hg with hg1 hg2
     subst hg1
     subst hg2
     refine ⟨rfl, ?_⟩
     refine H.grow hi hr hw (r.base + p.off + len * sz) hw1 hsz (fun k hk => hsame k (by omega)) hoth hgrow ⟨cells, e, f + 1, r.base + p.off, true⟩ i1 o1 ho1 (hR1 _) (hi1' _ rfl) (f + 1) rfl (.inl ⟨hf0.symm, by omega⟩)
      (fun d => ?_) (l1 := (⟨h.next, r.base + p.off, r.base + p.off + cells.length⟩ :: l.filter fun m => Nat.ble m.hi (r.base + p.off + len * sz))) ?_ (fun g hg => ?_) (fun m hm => ?_) rfl hlt' (by show f + 1 < h.nfam; omega) (Nat.le_refl _) hnf (fun g hg hne => hg)
     · simp only []
       rw [Tr.get_set' _ _ _ _ (by omega)]
       by_cases hd : d = h.next
       · rw [if_pos hd, if_pos hd]
       · rw [if_neg hd, if_neg hd]
         by_cases hdB : d = p.block
         · rw [if_pos hdB, hdB, hget]
           congr 2
           cases r
           simp only at hf0
           rw [hf0]
         · rw [if_neg hdB]
     · simp only []
       rw [Tr.get_set' _ _ _ _ (by omega), if_pos rfl]
     · simp only []
       rw [Tr.get_set' _ _ _ _ (by omega), if_neg hg]
     · rcases List.mem_cons.1 hm with rfl | hm
       · exact .inl rfl
       · rw [List.mem_filter] at hm
         have : m.hi ≤ r.base + p.off + len * sz := by simpa using hm.2
         exact .inr ⟨this, .inr ⟨l, hl, hf0, hm.1⟩⟩
   · cases hg
 · cases hg
theorem zeroCells_size (z : Array Value) (n : Nat) : (Builtin.zeroCells z n).size = n * z.size := by simp [Builtin.zeroCells]
theorem put_next (ρ : Rho) (b : Nat) (i : Img) : (ρ.put b i) b = some i := by simp [Rho.put]
set_option maxHeartbeats 1000000 in
theorem apd_run (H : HR P ρ N h w) {ts : Array TypeId} {ty e : TypeId} {i : TypeInfo} {z : Value} (K : AppendAsks P ts e i z) {args : Array Value} {base : Option Addr} {len cap n : Nat} {s' x x' : Value} {new : List Value}
  (h0 : args[0]? = some s') (h1' : args[1]? = some x') (hs : VR ρ (.slice base len cap) s') (hx : VR ρ x x') (hn : lenOf' x = some n) (hnew : first' h i.size n x = some new) (hone : new.all oneCell = true) (hnl : new.length = n * i.size)
  (hlc : len ≤ cap) (hbig : len + n ≤ 1000000) {v : Value} {h1 : Hp} (hv : apd h e i.size base len cap n new = some (v, h1)) :
  ∃ ρ1 w1 v', ρ.le ρ1 ∧ (Builtin.append_ ts ty args).run P w = .ok v' w1 ∧ VR ρ1 v v' ∧ HR P ρ1 N h1 w1 ∧ Below N w w1 := by
 have hnr := lenOf_run (P := P) (w := w) hx hn
 have hfirst : ∀ b len c, x = .slice b len c → n ≤ len := by
  intro b len c e
  subst e
  simp only [lenOf', Option.some.injEq] at hn
  omega
 unfold apd at hv
 split at hv
 · rename_i hle
   have hle' : len + n ≤ cap := by simpa using hle
   obtain ⟨new', f1, f2⟩ := first_run H hx hfirst hnew
   split at hv
   · injection hv with hv
     injection hv with hv1 hv2
     subst hv1
     subst hv2
     cases hs
     exact ⟨ρ, w, _, Rho.le_refl ρ, append_room K h0 h1' hnr f1 (by omega) (w1 := w) (fun _ e => by cases e) (fun _ => rfl), by
      have : n = 0 := by omega
      subst this
      exact .slNil, H, Below.refl _ _⟩
   · rename_i p
     split at hv
     · rename_i h2 hst
       injection hv with hv
       injection hv with hv1 hv2
       subst hv1
       subst hv2
       cases hs with
       | @sl _ p' j _ _ c' hp hc =>
         obtain ⟨w1, r1, r2, r3⟩ := H.stores (P := P) (.inr ⟨j, hp.add _⟩) f2 hst
         have hcc : cap ≤ c' := by rcases hc with h | h <;> omega
         exact ⟨ρ, w1, _, Rho.le_refl ρ, append_room K h0 h1' hnr f1 (by omega) (w1 := w1) (fun q e => by injection e with e; subst e; exact r1) (fun e => by cases e), .sl hp hc, r2, r3⟩
       | slZero p p' hz =>
         have hn0 : n = 0 := by omega
         subst hn0
         have hnil : new = [] := by
          cases new with
          | nil => rfl
          | cons y l => simp at hnl
         subst hnil
         obtain ⟨w1, r1, r2, r3⟩ := H.stores (P := P) (a' := p'.add (0 * i.size)) (.inl rfl) f2 hst
         exact ⟨ρ, w1, _, Rho.le_refl ρ, append_room K h0 h1' hnr f1 (by omega) (w1 := w1) (fun q e => by injection e with e; subst e; exact r1) (fun e => by cases e), .slZero _ _ hz, r2, r3⟩
     · cases hv
 · rename_i hle
   have hle' : ¬ len + n ≤ cap := by
    intro hh
    rw [show Nat.ble (len + n) cap = true by rw [Nat.ble_eq]; exact hh] at hle
    cases hle
   have H2 : HR P ρ N h w.drew := H.drewn _
   obtain ⟨new', f1, f2⟩ := first_run (w := w.drew) H2 hx hfirst hnew
   have hnl' : new'.size = n * i.size := by rw [size_of_VRs f2]; exact hnl
   have hB2 : Below N w w.drew := (Below.refl _ _).drew
   split at hv
   · split at hv
     · split at hv
       · rename_i p h2 hgr
         injection hv with hv
         injection hv with hv1 hv2
         subst hv1
         subst hv2
         cases hs
         obtain ⟨newCap, c1, c2⟩ := append_new (P := P) (w := w) (ty := ty) (old := #[]) K h0 h1' hnr (by simp [Builtin.firstCells]) f1 hle' hbig
         unfold Hp.grownRow at hgr
         split at hgr
         · rename_i b h3 hnw
           injection hgr with hgr
           injection hgr with hg1 hg2
           subst hg1
           subst hg2
           have hb := new_next hnw
           subst hb
           generalize harr : (#[] ++ new' ++ Builtin.zeroCells z.cells (newCap - (0 + n))) = arr at c2
           have hasz : arr.size = newCap * i.size := by
            rw [← harr, Array.size_append, zeroCells_size, K.zs]
            simp only [Array.empty_append, hnl']
            rw [← Nat.add_mul]
            congr 1
            omega
           have hle3 := H2.le_put ⟨w.heap.size, 0, arr.size, i.size, false⟩
           have hR : ObjR P (ρ.put h.next ⟨w.heap.size, 0, arr.size, i.size, false⟩) ⟨w.heap.size, 0, arr.size, i.size, false⟩ (.cells ⟨new, e, 0, 0, true⟩) (.cells arr e) := by
            refine ⟨rfl, ?_, by simp, fun k v hk => ?_, fun k _ => by simp, fun hx => (by cases hx), fun _ => by simp [Program.cellsOf, K.info]⟩
            · simp only [hnl, hasz, Nat.zero_add]
              exact Nat.mul_le_mul_right _ (by omega)
            · obtain ⟨v', g1, g2⟩ := f2.get hk
              refine ⟨v', ?_, g2.mono hle3⟩
              have hlt : k < new'.size := by
               rcases Nat.lt_or_ge k new'.size with h | h
               · exact h
               · rw [List.getElem?_eq_none (by simpa using h)] at g1; cases g1
              simp only [Nat.zero_add]
              rw [← harr, Array.empty_append, Array.getElem?_append_left hlt]
              simpa using g1
           obtain ⟨_, g3, g4⟩ := H2.new hnw ⟨w.heap.size, 0, arr.size, i.size, false⟩ rfl hR (fun r hr => by injection hr with hr; subst hr; rfl)
           refine ⟨_, _, _, hle3, c2, ?_, g3, hB2.trans g4⟩
           have hv2 : VR (ρ.put h.next ⟨w.heap.size, 0, arr.size, i.size, false⟩) (.slice (some ⟨h.next, 0, none⟩) n n) (.slice (some ⟨w.heap.size, 0, none⟩) n newCap) :=
            .sl (i := ⟨w.heap.size, 0, arr.size, i.size, false⟩) ⟨rfl, put_next _ _ _, by simp⟩ (.inr ⟨rfl, by omega, by simp [hasz]⟩)
           simpa using hv2
         · cases hgr
       · cases hv
     · cases hv
   · rename_i p
     split at hv
     · rename_i r old hr hold
       split at hv
       · rename_i hre
         have hre' : r.e = e := nbeq_true hre
         have way2 : ∀ (p' : Addr) (c' : Nat) (j : Img), s' = .slice (some p') len c' → ρ p.block = some j → (len = 0 ∨ AR ρ p p' j) → ¬ len + n ≤ c' →
           ∃ ρ1 w1 v', ρ.le ρ1 ∧ (Builtin.append_ ts ty args).run P w = .ok v' w1 ∧ VR ρ1 v v' ∧ HR P ρ1 N h1 w1 ∧ Below N w w1 := by
          intro p' c' j es hj hpj hnc
          subst es
          obtain ⟨arr0, e0, fr, hw, hR0, hget⟩ := H2.row hr hj
          obtain ⟨old', g1, g2, g3⟩ := H2.loads (a' := p') (n := len * i.size) (by
           rcases hpj with h | h
           · exact .inl (by rw [h, Nat.zero_mul])
           · exact .inr ⟨j, h⟩) hold
          obtain ⟨newCap, c1, c2⟩ := append_new (P := P) (w := w) (ty := ty) (old := old') K h0 h1' hnr (by simp [Builtin.firstCells, g1]) f1 hnc hbig
          have hol : old'.size = len * i.size := by rw [size_of_VRs g2]; exact g3
          generalize harr : (old' ++ new' ++ Builtin.zeroCells z.cells (newCap - (len + n))) = arr at c2
          have hasz : arr.size = newCap * i.size := by
           rw [← harr, Array.size_append, Array.size_append, zeroCells_size, K.zs, hol, hnl', ← Nat.add_mul, ← Nat.add_mul]
           congr 1
           omega
          let i1 : Img := ⟨w.heap.size, 0, arr.size, i.size, false⟩
          have hle3 := H2.le_put i1
          have hjlt := (H2.lo _ j hj).2
          have hpush : ∀ k, k < w.drew.heap.size → (w.drew.alloc (.cells arr e)).heap[k]? = w.drew.heap[k]? := fun k hk => Below.heap_alloc _ _ k hk
          have hR1 : ∀ f, ObjR P (ρ.put h.next i1) i1 (.cells ⟨old ++ new, e, f, r.base + p.off, true⟩) (.cells arr e) := by
           intro f
           refine ⟨rfl, ?_, by simp [i1], fun k v hk => ?_, fun k _ => by simp, fun hx => (by cases hx), fun _ => by simp [Program.cellsOf, K.info, i1]⟩
           · simp only [List.length_append, g3, hnl, hasz, i1, Nat.zero_add]
             rw [← Nat.add_mul]
             exact Nat.mul_le_mul_right _ (by omega)
           · obtain ⟨v', k1, k2⟩ := (g2.append f2).get hk
             refine ⟨v', ?_, k2.mono hle3⟩
             have hlt : k < (old' ++ new').size := by
              rcases Nat.lt_or_ge k (old' ++ new').size with h | h
              · exact h
              · rw [List.getElem?_eq_none (by simpa using h)] at k1; cases k1
             simp only [i1, Nat.zero_add]
             rw [← harr, Array.getElem?_append_left hlt]
             rw [← Array.getElem?_toList, Array.toList_append]
             exact k1
          have hBA : Below N w.drew (w.drew.alloc (.cells arr e)) := (Below.refl _ _).alloc H2.base _
          obtain ⟨rfl, g5⟩ := grow_HR H2 hv hj hr hw (w1 := w.drew.alloc (.cells arr e)) (arr1 := arr0) (by rw [hpush _ hjlt]; exact hw) rfl (fun _ _ => rfl) (fun k hk _ => hpush k hk) hBA.size i1 (.cells arr e)
           (by show (w.drew.heap.push (.cells arr e))[w.heap.size]? = _; exact Array.getElem?_push_size) hR1 (.inr ⟨Nat.le_refl _, by show w.heap.size < (w.drew.heap.push _).size; rw [Array.size_push]; exact Nat.lt_succ_self _⟩)
          refine ⟨_, _, _, hle3, c2, ?_, g5, hB2.trans hBA⟩
          refine .sl (i := i1) ⟨rfl, put_next _ _ _, by simp [i1]⟩ (.inr ⟨rfl, by omega, ?_⟩)
          simp [hasz, i1]
         cases hs with
         | @sl _ p' j _ _ c' hp hc =>
           by_cases hc' : len + n ≤ c'
           ·
             obtain ⟨hex, hcc, hm⟩ : j.ex = false ∧ cap ≤ c' ∧ p.off + c' * j.z ≤ j.m := by
              rcases hc with rfl | h
              · exact absurd hc' hle'
              · exact h
             obtain ⟨new1, q1, q2⟩ := first_run (w := w) H hx hfirst hnew
             obtain ⟨arr, e0, fr, hw, hR0, hget⟩ := H.row hr hp.2.1
             obtain ⟨old', g1, g2, g3⟩ := H.loads (.inr ⟨j, hp⟩) hold
             have hjz : j.z = i.size := by
              have := hR0.2.2.2.2.2.2 hex
              rw [hre'] at this
              rw [← this]
              simp [Program.cellsOf, K.info]
             have hnl1 : new1.size = n * i.size := by rw [size_of_VRs q2]; exact hnl
             have hmul : (len + n) * i.size ≤ c' * i.size := Nat.mul_le_mul_right _ hc'
             have hin : j.s + (p.off + len * i.size) + new1.toList.length ≤ arr.size := by
              have h1 := hR0.2.2.1
              have h2 := hR0.2.1
              rw [Array.length_toList, hnl1]
              rw [Nat.add_mul] at hmul
              rw [hjz] at hm
              omega
             have hrun := storeCells_run (P := P) (b := j.b) (e := e0) (fr := fr) (j.s + (p.off + len * i.size)) new1.toList 0 w arr hw hR0.2.2.2.2.1 (by omega) (all_VRs q2 hone)
             rw [Nat.add_zero] at hrun
             have hadd : p'.add (len * i.size) = ⟨j.b, j.s + (p.off + len * i.size), none⟩ := by
              have := (hp.add (len * i.size)).fn
              rw [add_off] at this
              exact this
             rw [← hadd] at hrun
             have hlo := H.lo _ j hp.2.1
             let w1 := World.putBlock w j.b (.cells (over arr (j.s + (p.off + len * i.size)) new1.toList) e0 fr)
             let i1 : Img := ⟨j.b, j.s + p.off, j.m - p.off, i.size, false⟩
             have hle3 := H.le_put i1
             have hw1 : w1.heap[j.b]? = some (.cells (over arr (j.s + (p.off + len * i.size)) new1.toList) e0 fr) := by
              show (World.putBlock w j.b _).heap[j.b]? = _
              rw [putBlock_get _ _ _ _ hlo.2, if_pos rfl]
             have hR1 : ∀ f, ObjR P (ρ.put h.next i1) i1 (.cells ⟨old ++ new, e, f, r.base + p.off, true⟩) (.cells (over arr (j.s + (p.off + len * i.size)) new1.toList) e0 fr) := by
              intro f
              refine ⟨by rw [hR0.1, hre'], ?_, ?_, fun k v hk => ?_, by rw [over_size]; exact hR0.2.2.2.2.1, fun hx => (by cases hx), fun _ => by simp [Program.cellsOf, K.info, i1]⟩
              · simp only [over_size, List.length_append, g3, hnl, i1]
                rw [Array.length_toList, hnl1] at hin
                omega
              · simp only [over_size, i1]
                have := hR0.2.2.1
                omega
              · simp only [i1]
                rw [over_get _ _ _ hin]
                have hkl : k < (old ++ new).length := by
                 rcases Nat.lt_or_ge k (old ++ new).length with h | h
                 · exact h
                 · have hk' : (old ++ new)[k]? = some v := hk
                   rw [List.getElem?_eq_none h] at hk'; cases hk'
                rw [List.length_append, g3, hnl] at hkl
                by_cases hko : k < len * i.size
                · have hk' : old[k]? = some v := by
                   have hk2 : (old ++ new)[k]? = some v := hk
                   rwa [List.getElem?_append_left (by rw [g3]; exact hko)] at hk2
                  rw [if_neg (by omega)]
                  have hkc : r.c[p.off + k]? = some v := by
                   have hz : len * i.size ≠ 0 := by omega
                   cases hq : len * i.size with
                   | zero => exact absurd hq hz
                   | succ q =>
                     rw [hq] at hold
                     simp only [Hp.loads] at hold
                     rw [hp.1] at hold
                     simp only [hr] at hold
                     obtain ⟨t1, _⟩ := takeN_spec _ _ _ hold
                     rw [t1, List.getElem?_take] at hk'
                     split at hk'
                     · simpa using hk'
                     · cases hk'
                  obtain ⟨v', t1, t2⟩ := hR0.2.2.2.1 _ _ hkc
                  exact ⟨v', by rw [← t1]; congr 1; omega, t2.mono hle3⟩
                · have hk' : new[k - len * i.size]? = some v := by
                   have hk2 : (old ++ new)[k]? = some v := hk
                   rwa [List.getElem?_append_right (by rw [g3]; omega), g3] at hk2
                  obtain ⟨v', t1, t2⟩ := q2.get hk'
                  rw [if_pos (by rw [Array.length_toList, hnl1]; omega)]
                  exact ⟨v', by rw [← t1]; congr 1; omega, t2.mono hle3⟩
             obtain ⟨rfl, g5⟩ := grow_HR H hv hp.2.1 hr hw (w1 := w1) hw1 (by rw [over_size]) (fun k hk => by rw [over_get _ _ _ hin, if_neg (by omega)]) (fun k hk hne => by
              show (World.putBlock w j.b _).heap[k]? = _
              rw [putBlock_get _ _ _ _ hlo.2, if_neg hne]) (by show _ ≤ (World.putBlock w j.b _).heap.size; rw [putBlock_size]; exact Nat.le_refl _) i1 _ hw1 hR1 (.inl ⟨rfl, rfl⟩)
             refine ⟨_, w1, _, hle3, append_room K h0 h1' hnr q1 hc' (w1 := w1) (fun q e => by injection e with e; subst e; exact hrun) (fun e => by cases e), ?_, g5, below_put hlo.1⟩
             refine .sl (i := i1) ⟨rfl, put_next _ _ _, by rw [hp.fn]; simp [i1]⟩ (.inr ⟨rfl, by omega, ?_⟩)
             simp only [i1]
             rw [hjz] at hm
             omega
           · exact way2 p' c' j rfl hp.2.1 (.inr hp) hc'
         | @slZero p p' j hj =>
           exact way2 p' 0 j rfl hj (.inl rfl) (by omega)
       · cases hv
     · cases hv
end Go.Ev
namespace Go.Ev
open Go.RowKit
variable {P : Program} {ρ : Rho} {N : Bs} {h : Hp} {w : World} {a : A} {act : Act}
theorem two_args {l : List Value} {l' : Array Value} (hl : VRs ρ l l'.toList) {x y : Value} {r : List Value} (e : l = x :: y :: r) : ∃ x' y', l'[0]? = some x' ∧ l'[1]? = some y' ∧ VR ρ x x' ∧ VR ρ y y' := by
 subst e
 obtain ⟨x', r1, e1, hx, hr⟩ := hl.cons_inv
 obtain ⟨y', r2, e2, hy, _⟩ := hr.cons_inv
 refine ⟨x', y', ?_, ?_, hx, hy⟩
 · rw [← Array.getElem?_toList, e1]; rfl
 · rw [← Array.getElem?_toList, e1, e2]; rfl
theorem append_run (H : HR P ρ N h w) {ts : Array TypeId} {ty : TypeId} {l : List Value} {l' : Array Value} (hl : VRs ρ l l'.toList) {v : Value} {h1 : Hp} (hv : append' P h ts.toList l = some (v, h1)) :
  ∃ ρ1 w1 v', ρ.le ρ1 ∧ (Builtin.append_ ts ty l').run P w = .ok v' w1 ∧ VR ρ1 v v' ∧ HR P ρ1 N h1 w1 ∧ Below N w w1 := by
 unfold append' at hv
 split at hv
 · rename_i t xt base len cap x rest ht
   obtain ⟨s', x', a0, a1, hs, hx⟩ := two_args hl rfl
   have ht0 : ts[0]? = some t := by rw [← Array.getElem?_toList, ht]; rfl
   split at hv
   · rename_i e hu hni
     split at hv
     · rename_i i z hi hz
       split at hv
       · rename_i c1 c2 c3 c4
         split at hv
         · rename_i n hn
           split at hv
           · rename_i new hnew hbig hlc
             split at hv
             · rename_i hone hnl
               have K : AppendAsks P ts e i z := by
                refine ⟨⟨t, ht0, hu⟩, ?_, hi, fun w => (zero_run (w := w) (ρ := ρ) hz).1, by rw [← Array.length_toList]; exact nbeq_true c1, by simpa [Nat.blt_eq] using c2, by simpa [Nat.blt_eq] using c4, by simpa using c3⟩
                cases xt with
                | nil => left; rw [← Array.getElem?_toList, ht]; rfl
                | cons u r =>
                  right
                  have hu1 : ts[1]? = some u := by rw [← Array.getElem?_toList, ht]; rfl
                  simp only [Go.Ev.noInt] at hni
                  split at hni
                  · rename_i e2 hq
                    exact .inl ⟨u, e2, hu1, hq⟩
                  · rename_i hq
                    exact .inr ⟨u, hu1, hq⟩
                  · cases hni
               exact apd_run H K a0 a1 hs hx hn hnew hone (nbeq_true hnl) (by simpa using hlc) (by simpa using hbig) hv
             · cases hv
           · cases hv
         · cases hv
       · cases hv
     · cases hv
   · cases hv
 · cases hv
theorem copy_run (H : HR P ρ N h w) {ts : Array TypeId} {ty : TypeId} {l : List Value} {l' : Array Value} (hl : VRs ρ l l'.toList) {v : Value} {h1 : Hp} (hv : copy' P h ts.toList l = some (v, h1)) :
  ∃ ρ1 w1 v', ρ.le ρ1 ∧ (Builtin.copy_ ts ty l').run P w = .ok v' w1 ∧ VR ρ1 v v' ∧ HR P ρ1 N h1 w1 ∧ Below N w w1 := by
 unfold copy' at hv
 split at hv
 · rename_i t xt d s rest ht
   obtain ⟨d', s', a0, a1, hd, hs⟩ := two_args hl rfl
   have ht0 : ts[0]? = some t := by rw [← Array.getElem?_toList, ht]; rfl
   split at hv
   · rename_i e base dl dc sl hu hsl
     split at hv
     · rename_i z hz
       split at hv
       · rename_i cs hcs
         obtain ⟨hzr, _⟩ := size_some (w := w) hz
         have hlen := lenOf_run (P := P) (w := w) hs hsl
         obtain ⟨cs', f1, f2⟩ := first_run H hs (fun b len c e => by
          subst e
          simp only [lenOf', Option.some.injEq] at hsl
          rw [hsl]
          exact Nat.min_le_left _ _) hcs
         split at hv
         · injection hv with hv
           injection hv with hv1 hv2
           subst hv1; subst hv2
           cases hd
           refine ⟨ρ, w, _, Rho.le_refl ρ, ?_, .int _ _, H, Below.refl _ _⟩
           simp only [Builtin.copy_, ht0, a0, a1, Sem.run_bind, run_und hu, Result.andThen_ok, hlen, hzr, f1, Sem.run_pure]
           rfl
         · rename_i p
           split at hv
           · rename_i h2 hst
             injection hv with hv
             injection hv with hv1 hv2
             subst hv1; subst hv2
             have fin : ∀ p' c' w1, d' = .slice (some p') dl c' → (storeCells p' cs'.toList).run P w = .ok () w1 → HR P ρ N h2 w1 → Below N w w1 →
               ∃ ρ1 w1 v', ρ.le ρ1 ∧ (Builtin.copy_ ts ty l').run P w = .ok v' w1 ∧ VR ρ1 (.int .i64 (Nat.min sl dl : Nat)) v' ∧ HR P ρ1 N h2 w1 ∧ Below N w w1 := by
              intro p' c' w1 e r1 r2 r3
              subst e
              refine ⟨ρ, w1, _, Rho.le_refl ρ, ?_, .int _ _, r2, r3⟩
              simp only [Builtin.copy_, ht0, a0, a1, Sem.run_bind, run_und hu, Result.andThen_ok, hlen, hzr, f1, r1, Sem.run_pure]
              rfl
             cases hd with
             | @sl _ p' j _ _ c' hp hc =>
               obtain ⟨w1, r1, r2, r3⟩ := H.stores (P := P) (.inr ⟨j, hp⟩) f2 hst
               exact fin _ _ w1 rfl r1 r2 r3
             | slZero p p' =>
               have hnil : cs = [] := by
                have hm : Nat.min sl 0 = 0 := Nat.min_zero _
                rw [hm] at hcs
                unfold first' at hcs
                split at hcs
                · rw [Nat.zero_mul] at hcs
                  simp only [Hp.loads, Option.some.injEq] at hcs
                  exact hcs.symm
                · injection hcs with hcs; exact hcs.symm
                · injection hcs with hcs; simpa using hcs.symm
                · cases hcs
               subst hnil
               obtain ⟨w1, r1, r2, r3⟩ := H.stores (P := P) (a' := p') (.inl rfl) f2 hst
               exact fin _ _ w1 rfl r1 r2 r3
           · cases hv
       · cases hv
     · cases hv
   · cases hv
 · cases hv
theorem bytesOf_VRs : ∀ {l l' : List Value}, VRs ρ l l' → ∀ {bs : List UInt8}, bytesOf l = some bs → ∃ xs : List Int, l' = xs.map (Value.int .u8) ∧ bs = xs.map fun n => UInt8.ofNat n.toNat
 | _, _, .nil, bs, hb => by
   simp only [bytesOf, Option.some.injEq] at hb
   subst hb
   exact ⟨[], rfl, rfl⟩
 | _, _, .cons hv hl, bs, hb => by
   unfold bytesOf at hb
   split at hb
   · rename_i e; cases e
   · rename_i n r e
     injection e with e1 e2
     subst e1; subst e2
     cases hv
     split at hb
     · rename_i br hbr
       injection hb with hb
       subst hb
       obtain ⟨xs, e1, e2⟩ := bytesOf_VRs hl hbr
       exact ⟨n :: xs, by rw [e1]; rfl, by rw [e2]; rfl⟩
     · cases hb
   · cases hb
theorem convert_run (H : HR P ρ N h w) {src dst : TypeId} {x x' : Value} (hx : VR ρ x x') {v : Value} {h1 : Hp} (hv : convert' P h src dst x = some (v, h1)) :
  ∃ ρ1 w1 v', ρ.le ρ1 ∧ (convert src dst x').run P w = .ok v' w1 ∧ VR ρ1 v v' ∧ HR P ρ1 N h1 w1 ∧ Below N w w1 := by
 unfold convert' at hv
 split at hv
 · rename_i q k k2 n hs hd
   cases hx
   injection hv with hv
   injection hv with hv1 hv2
   subst hv1; subst hv2
   refine ⟨ρ, w, _, Rho.le_refl ρ, ?_, .int _ _, H, Below.refl _ _⟩
   simp [convert, run_und hs, run_und hd, Conv.intToInt]
 · rename_i q s hs hd
   cases hx
   injection hv with hv
   injection hv with hv1 hv2
   subst hv1; subst hv2
   refine ⟨ρ, w, _, Rho.le_refl ρ, ?_, .string _, H, Below.refl _ _⟩
   simp [convert, run_und hs, run_und hd]
 · rename_i q e s hs hd
   cases hx
   split at hv
   · rename_i he
     split at hv
     · rename_i hlen hsz
       split at hv
       · rename_i p h2 hgr
         injection hv with hv
         injection hv with hv1 hv2
         subst hv1; subst hv2
         obtain ⟨_, hcz⟩ := size_some (w := w) hsz
         unfold Hp.grownRow at hgr
         split at hgr
         · rename_i b h3 hnw
           injection hgr with hgr
           injection hgr with hg1 hg2
           subst hg1; subst hg2
           have hb := new_next hnw
           subst hb
           have H2 : HR P ρ N h w.drew := H.drewn _
           have hB2 : Below N w w.drew := (Below.refl _ _).drew
           let cap := (Question.appendCap s.size 0 e).cut (w.tape w.drawn (.appendCap s.size 0 e))
           have hcap : s.size ≤ cap := by simp only [cap, Question.cut]; omega
           let arr : Array Value := s.data.map (fun b => Value.int .u8 b.toNat) ++ Array.replicate (cap - s.size) (.int .u8 0)
           have hasz : arr.size = cap := by
            simp only [arr, Array.size_append, Array.size_map, Array.size_replicate]
            have : s.data.size = s.size := rfl
            omega
           let i1 : Img := ⟨w.heap.size, 0, arr.size, 1, false⟩
           have hle3 := H2.le_put i1
           have hR : ObjR P (ρ.put h.next i1) i1 (.cells ⟨s.data.toList.map fun b => .int .u8 b.toNat, e, 0, 0, true⟩) (.cells arr e (arr.size, arr.size + 1)) := by
            refine ⟨rfl, ?_, by simp [i1], fun k v hk => ?_, fun k hk => ?_, fun hx => (by cases hx), fun _ => hcz⟩
            · simp only [i1, List.length_map, Nat.zero_add, hasz]
              rw [← size_data]
              exact hcap
            · have hk' : (s.data.toList.map fun b => Value.int .u8 (b.toNat : Int))[k]? = some v := hk
              have hkl : k < s.data.size := by
               rcases Nat.lt_or_ge k s.data.size with h | h
               · exact h
               · rw [List.getElem?_eq_none (by simpa using h)] at hk'; cases hk'
              obtain ⟨v', g1, g2⟩ := (ints_VRs (ρ := ρ.put h.next i1) s.data.toList).get hk'
              refine ⟨v', ?_, g2⟩
              simp only [i1, Nat.zero_add, arr]
              rw [Array.getElem?_append_left (by simpa using hkl)]
              rw [← Array.getElem?_toList, Array.toList_map]
              exact g1
            · simp
              omega
           obtain ⟨_, g3, g4⟩ := H2.new hnw i1 rfl hR (fun r hr => by injection hr with hr; subst hr; rfl)
           have hfz : (w.drew.alloc (.cells arr e)).freeze ⟨w.heap.size, arr.size, none⟩ 1 = w.drew.alloc (.cells arr e (arr.size, arr.size + 1)) := by
            unfold World.freeze
            simp only [Nat.one_ne_zero, if_false]
            show World.mk _ _ _ _ _ = World.mk _ _ _ _ _
            congr 1
            show (w.heap.push (.cells arr e)).modify w.heap.size _ = w.heap.push (.cells arr e (arr.size, arr.size + 1))
            apply Array.ext
            · simp
            · intro k k1 k2
              rw [Array.getElem_modify]
              by_cases hk : w.heap.size = k
              · subst hk
                simp
              · rw [if_neg hk]
                have : k < w.heap.size := by simp at k2; omega
                rw [Array.getElem_push_lt this, Array.getElem_push_lt this]
           have hshape : (w.drew.alloc (.cells arr e)).shape? w.heap.size = some (e, arr.size) := by
            refine shape_of (fr := (0, 0)) ?_
            show (w.heap.push (.cells arr e))[w.heap.size]? = _
            exact Array.getElem?_push_size
           refine ⟨_, _, .slice (some ⟨w.heap.size, 0, none⟩) s.size cap, hle3, ?_, ?_, g3, hB2.trans g4⟩
           · have hrow : (newRow e arr).run P w.drew = .ok ⟨w.heap.size, 0, none⟩ (w.drew.alloc (.cells arr e)) := rfl
             simp [convert, run_und hs, run_und hd, run_und he, Conv.stringToBytes, Question.forced]
             have hrow' : (newRow e (s.data.map (fun b => Value.int .u8 b.toNat) ++ Array.replicate ((Question.appendCap s.size 0 e).cut (w.tape w.drawn (.appendCap s.size 0 e)) - s.size) (.int .u8 0))).run P w.drew = .ok ⟨w.heap.size, 0, none⟩ (w.drew.alloc (.cells arr e)) := rfl
             rw [hrow']
             simp only [Result.andThen_ok, markStringish, Sem.run_bind, run_shape, hshape, run_freeze, Sem.run_pure, hfz, cap]
           · rw [← size_data]
             exact .sl (i := i1) ⟨rfl, put_next _ _ _, by simp [i1]⟩ (.inr ⟨rfl, hcap, by simp [i1, hasz]⟩)
         · cases hgr
       · cases hv
     · cases hv
   · cases hv
 · rename_i e m c hs hd
   split at hv
   · rename_i he
     injection hv with hv
     injection hv with hv1 hv2
     subst hv1; subst hv2
     cases hx
     refine ⟨ρ, w, _, Rho.le_refl ρ, run_convert_bytes_nil w src e hs he _ _ dst hd, ?_, H, Below.refl _ _⟩
     exact .string _
   · cases hv
 · rename_i e p n c hs hd
   split at hv
   · rename_i he
     split at hv
     · rename_i l hl
       split at hv
       · rename_i bs hbs
         injection hv with hv
         injection hv with hv1 hv2
         subst hv1; subst hv2
         have fin : ∀ p' c', (n = 0 ∨ ∃ i, AR ρ p p' i) → x' = .slice (some p') n c' → ∃ ρ1 w1 v', ρ.le ρ1 ∧ (convert src dst x').run P w = .ok v' w1 ∧ VR ρ1 (.string ⟨bs.toArray⟩) v' ∧ HR P ρ1 N h w1 ∧ Below N w w1 := by
          intro p' c' ha e0
          subst e0
          obtain ⟨l', g1, g2, g3⟩ := H.loads ha hl
          obtain ⟨xs, e1, e2⟩ := bytesOf_VRs g2 hbs
          have hl' : l' = (xs.map (Value.int .u8)).toArray := by
           apply Array.ext'
           rw [e1]
          rw [hl'] at g1
          refine ⟨ρ, w, .string ⟨bs.toArray⟩, Rho.le_refl ρ, ?_, .string _, H, Below.refl _ _⟩
          rw [run_convert_bytes_string w src dst e _ n c' hs he hd, run_bytesToString w _ n c' xs g1, foldl_push_bytes, e2]
          congr 2
          simp [ByteArray.empty, ByteArray.emptyWithCapacity]
          rfl
         cases hx with
         | sl hp hc => exact fin _ _ (.inr ⟨_, hp⟩) rfl
         | slZero => exact fin _ _ (.inl rfl) rfl
       · cases hv
     · cases hv
   · cases hv
 · cases hv
set_option maxHeartbeats 4000000 in
theorem maker_run (A : ActR ρ a act) (o : Oper) {ob : CObj} {f : Nat → Value} (hv : maker' P a o.op = some (ob, f)) :
  ∃ s : Sem Value, (∀ w : World, (execOp act.eval o).run P w = (do pure (.value (← s)) : Sem Next).run P w) ∧ Makes P ρ s ob f := by
 obtain ⟨dst, op, ty, pos, after, guard⟩ := o
 simp only at hv
 cases op <;> simp only [maker'] at hv <;> try (cases hv; done)
 case alloc e =>
  split at hv
  · rename_i z hz
    injection hv with hv
    injection hv with hv1 hv2
    subst hv1; subst hv2
    refine ⟨Instr.alloc e true (.tuple #[]), fun w => rfl, makes_row (c' := z.cells) (f' := fun b => .pointer (some ⟨b, 0, none⟩)) (zero_VR (ρ := ρ) hz).cells (fun w => ?_) (fun ρ1 g b i ha => .ptr ha)⟩
    obtain ⟨hzr, _⟩ := zero_run (w := w) (ρ := ρ) hz
    simp [Instr.alloc, hzr, newVar, newRow_eq]
  · cases hv
 case box e x =>
  split at hv
  · rename_i u hu
    injection hv with hv
    injection hv with hv1 hv2
    subst hv1; subst hv2
    refine ⟨Instr.box e (act.eval x), fun w => rfl, makes_row (c' := (act.eval x).cells) (f' := fun b => .pointer (some ⟨b, 0, none⟩)) (A.ev hu).cells (fun w => ?_) (fun ρ1 g b i ha => .ptr ha)⟩
    simp [Instr.box, newVar, newRow_eq]
  · cases hv
 case buildSlice t n parts =>
  split at hv
  · rename_i l hl
    exact ⟨Instr.buildSlice t n (parts.map fun (i, x) => (i, act.eval x)), fun w => rfl, buildSlice_makes (ps' := parts.map fun (i, x) => (i, act.eval x)) (by simpa using A.evPairs hl) hv⟩
  · cases hv
 case makeMap t r =>
  have fin : ∀ {s : Sem Value} , (∀ w : World, s.run P w = .ok (.map (some w.heap.size)) (w.alloc (.map #[] 0))) → Makes P ρ s (.map [] 0) (fun b => .map (some b)) := by
   intro s hs
   exact ⟨.map #[] 0, 0, fun b => .map (some b), hs, fun _ _ _ => ⟨.nil, rfl⟩, fun ρ1 g b hg => .map hg, rfl⟩
  cases r with
  | none =>
    simp only at hv
    injection hv with hv
    injection hv with hv1 hv2
    subst hv1; subst hv2
    exact ⟨Instr.makeMap t none, fun w => rfl, fin (fun w => by simp [Instr.makeMap, alloc_push])⟩
  | some x =>
    simp only at hv
    split at hv
    · rename_i k n kt et hx hu
      have := A.ev hx
      generalize hcv : act.eval x = cv at this
      cases this
      injection hv with hv
      injection hv with hv1 hv2
      subst hv1; subst hv2
      exact ⟨Instr.makeMap t (some (act.eval x)), fun w => rfl, fin (fun w => by simp [Instr.makeMap, run_und hu, hcv, asInt, asIntOf, alloc_push])⟩
    · cases hv
 case makeSlice t l c =>
  split at hv
  · rename_i x y hx hy
    exact ⟨Instr.makeSlice t (act.eval l) (act.eval c), fun w => rfl, makeSlice_makes (A.ev hx) (A.ev hy) hv⟩
  · cases hv
theorem makes_does (H : HR P ρ N h w) {s : Sem Value} {ob : CObj} {f : Nat → Value} (hm : Makes P ρ s ob f) {b : Nat} {h1 : Hp} (hn : h.new ob = some (b, h1)) :
  Does P ρ N w ((do pure (.value (← s)) : Sem Next).run P w) (f b) h1 := by
 obtain ⟨o', m, f', r1, r2, r3, r4⟩ := hm
 have hb := new_next hn
 subst hb
 have hle := H.le_put ⟨w.heap.size, 0, m, 0, true⟩
 obtain ⟨_, h2, h3⟩ := H.new hn ⟨w.heap.size, 0, m, 0, true⟩ rfl (r2 _ _ hle) (fun r e => famFree_eq r4 r e)
 exact does_value ⟨_, _, _, hle, r1 w, r3 _ _ _ (by simp [Rho.put]), h2, h3⟩
set_option maxHeartbeats 4000000 in
theorem writer_run (W : WfP P) (H : HR P ρ N h w) (A : ActR ρ a act) (o : Oper) {v : Value} {h1 : Hp} (hv : writer' P h a o.op = some (v, h1)) : Does P ρ N w ((execOp act.eval o).run P w) v h1 := by
 have mk : (match maker' P a o.op with | some (o, f) => (match h.new o with | some (b, h) => some (f b, h) | none => none) | none => none) = some (v, h1) → Does P ρ N w ((execOp act.eval o).run P w) v h1 := by
  intro hv
  split at hv
  · rename_i ob f hm
    obtain ⟨s, e1, e2⟩ := maker_run A o hm
    split at hv
    · rename_i b h2 hn
      injection hv with hv
      injection hv with hv1 hv2
      subst hv1; subst hv2
      rw [e1]
      exact makes_does H e2 hn
    · cases hv
  · cases hv
 obtain ⟨dst, op, ty, pos, after, guard⟩ := o
 simp only at hv
 cases op <;> simp only [writer'] at hv <;> try (cases hv; done)
 case alloc e => exact mk hv
 case box e x => exact mk hv
 case buildSlice t n parts => exact mk hv
 case makeMap t r => exact mk hv
 case makeSlice t l c => exact mk hv
 case store t x y =>
  split at hv
  · rename_i p u hp hu
    have := A.ev hp
    generalize hcv : act.eval x = cv at this
    cases this with
    | ptr ha =>
    cases hs : storeVar' P h t p u with
    | none => rw [hs] at hv; cases hv
    | some h2 =>
      rw [hs] at hv
      injection hv with hv
      injection hv with hv1 hv2
      subst hv1; subst hv2
      have := does_unit (store_run H ha (A.ev hu) hs)
      simpa [execOp, hcv] using this
  · cases hv
 case mapUpdate t m k x =>
  split at hv
  · rename_i vm vk vx hm hk hx
    cases hs : mapUpdate' P h t vm vk vx with
    | none => rw [hs] at hv; cases hv
    | some h2 =>
      rw [hs] at hv
      injection hv with hv
      injection hv with hv1 hv2
      subst hv1; subst hv2
      exact does_unit (mapUpdate_run W H (A.ev hm) (A.ev hk) (A.ev hx) hs)
  · cases hv
 case insert t m k x =>
  split at hv
  · rename_i vm vk vx hm hk hx
    cases hs : mapUpdate' P h t vm vk vx with
    | none => rw [hs] at hv; cases hv
    | some h2 =>
      rw [hs] at hv
      injection hv with hv
      injection hv with hv1 hv2
      subst hv1; subst hv2
      exact does_unit (mapUpdate_run W H (A.ev hm) (A.ev hk) (A.ev hx) hs)
  · cases hv
 case mapEntry t m k =>
  split at hv
  · rename_i vm vk hm hk
    exact does_value (mapEntry_run W H (A.ev hm) (A.ev hk) hv)
  · cases hv
 case entryStore t m k x =>
  split at hv
  · rename_i vm vk vx hm hk hx
    cases hs : entryStore' h vm vk vx with
    | none => rw [hs] at hv; cases hv
    | some h2 =>
      rw [hs] at hv
      injection hv with hv
      injection hv with hv1 hv2
      subst hv1; subst hv2
      exact does_unit (entryStore_run H (A.ev hm) (A.ev hk) (A.ev hx) hs)
  · cases hv
 case range t x =>
  split at hv
  · rename_i u hu
    exact does_value (range_run H (A.ev hu) hv)
  · cases hv
 case next it s =>
  split at hv
  · rename_i u hu
    exact does_value (next_run H (A.ev hu) hv)
  · cases hv
 case convert s t x =>
  split at hv
  · rename_i u hu
    exact does_value (convert_run H (A.ev hu) hv)
  · cases hv
 case call c =>
  obtain ⟨cal, args, ats⟩ := c
  cases cal with
  | value f => cases hv
  | invoke r m => cases hv
  | builtin b =>
    simp only at hv
    split at hv
    · rename_i l hl
      have hargs : VRs ρ l (args.map act.eval).toList := by simpa using A.evList hl
      unfold builtin' at hv
      split at hv
      · have := does_value (append_run (ty := ty) H hargs hv)
        simpa [execOp, resolve, invoke, builtin] using this
      · have := does_value (copy_run (ty := ty) H hargs hv)
        simpa [execOp, resolve, invoke, builtin] using this
      · split at hv
        · rename_i t tr m k r ht
          obtain ⟨m', k', a0, a1, hm, hk⟩ := two_args hargs rfl
          have ht0 : ats[0]? = some t := by rw [← Array.getElem?_toList, ht]; rfl
          have := does_value (delete_run (ty := ty) W H ht0 a0 a1 hm hk hv)
          simpa [execOp, resolve, invoke, builtin] using this
        · cases hv
      · cases hv
    · cases hv
end Go.Ev
end
section
set_option linter.unusedVariables false
set_option linter.unusedSimpArgs false
namespace Go.Ev
open Go.RowKit
variable {P : Program} {ρ : Rho} {N : Bs} {h : Hp} {w : World} {a : A} {act : Act}
def CallerOk (P : Program) (C : Caller) : Prop :=
 ∀ f args h v h1, C f args h = some (v, h1) → (∃ fn c, P.funcs[f]? = some fn ∧ fn.body = some c ∧ (fn.name == "runtime.NumGoroutine") = false) ∧
  ∀ (ρ : Rho) (N : Bs) (w : World) (args' : List Value), HR P ρ N h w → VRs ρ args args' →
   Calls P f args'.toArray w fun e w1 => ∃ ρ1 v', e = .returned v' ∧ ρ.le ρ1 ∧ HR P ρ1 N h1 w1 ∧ VR ρ1 v v' ∧ Below N w w1
theorem oper_wp (W : WfP P) {C : Caller} (HC : CallerOk P C) (H : HR P ρ N h w) (A : ActR ρ a act) (o : Oper) {v : Value} {h1 : Hp} (hv : oper' P C h a o.op = some (v, h1))
  {next : Act → World → Prop} {Q : Exit → Act → World → Prop} (K : ∀ ρ1 w1 v', ρ.le ρ1 → VR ρ1 v v' → HR P ρ1 N h1 w1 → Below N w w1 → next (act.put o.dst v') w1) : o.wp P act w next Q := by
 unfold oper' at hv
 split at hv
 · rename_i hr
   cases hrd : reader' P h a o.op with
   | none => rw [hrd] at hv; cases hv
   | some u =>
     rw [hrd] at hv
     injection hv with hv
     injection hv with hv1 hv2
     subst hv1; subst hv2
     obtain ⟨v', e1, e2⟩ := reader_run W H A o hr hrd
     unfold Oper.wp
     rw [e1]
     exact K ρ w v' (Rho.le_refl ρ) e2 H (Below.refl _ _)
 · split at hv
   · rename_i f args hcal
     obtain ⟨⟨fn, c, hf, hb, hname⟩, hcall⟩ := HC f args h v h1 hv
     obtain ⟨dst, op, ty, pos, after, guard⟩ := o
     simp only at hcal
     unfold callee' at hcal
     split at hcal
     · rename_i cc _
       split at hcal
       · rename_i fo hco
         split at hcal
         · rename_i g first captured l hfo hl
           injection hcal with hcal
           injection hcal with hc1 hc2
           subst hc1; subst hc2
           have hfr := A.ev hfo
           generalize hcv : act.eval fo = cv at hfr
           cases hfr with
           | @func _ _ _ f' c' hfi hca =>
           have hargs : VRs ρ l (cc.args.map act.eval).toList := by simpa using A.evList hl
           have hall : VRs ρ (first.toList ++ l ++ captured.toList) (f' ++ cc.args.map act.eval ++ c').toList := by
            simp only [Array.toList_append]
            exact (hfi.append hargs).append hca
           have hrun : (execOp act.eval { dst := dst, op := .call cc, type := ty, pos := pos, after := after, guard := guard }).run P w = .ok (.enter g (f' ++ cc.args.map act.eval ++ c')) w := by
            have hname' : ¬ fn.name = "runtime.NumGoroutine" := by simpa using hname
            simp [execOp, resolve, hco, hcv, Deferred.ofValue, invoke, callFunc, hf, hname', hb]
           unfold Oper.wp
           rw [hrun, Oper.upon_enter]
           refine (hcall ρ N w _ H hall).mono ?_
           rintro e w1 ⟨ρ1, v', rfl, r1, r2, r3, r4⟩
           exact K ρ1 w1 v' r1 r3 r2 r4
         · cases hcal
       · cases hcal
     · cases hcal
   · obtain ⟨ρ1, w1, nx, v', r1, r2, r3, r4, r5, r6⟩ := writer_run W H A o hv
     unfold Oper.wp
     rw [r2]
     rcases r3 with rfl | ⟨rfl, rfl⟩
     · exact K ρ1 w1 v' r1 r4 r5 r6
     · exact K ρ1 w1 undef r1 r4 r5 r6
theorem wanted_eq (A : ActR ρ a act) (ops : Array Oper) (o : Oper) : wanted' ops.toList a o = Region.wanted o (yielded ops act.tmps) := by
 cases hg : o.guard with
 | none => simp [wanted', Region.wanted, hg]
 | some jw =>
   obtain ⟨j, want⟩ := jw
   simp only [wanted', Region.wanted, hg, yielded, Array.getElem?_toList]
   cases hj : ops[j]? with
   | none => simp
   | some p =>
     cases hd : p.dst with
     | none => simp [hd]
     | some d =>
       have hr := A.get d
       simp only [hd, Option.bind_some]
       by_cases hlt : d < act.tmps.size
       · have he : act.tmps[d]? = some (act.tmps.getD d undef) := by
          simp [Array.getElem?_eq_getElem hlt, Array.getD, hlt]
         rw [he]
         generalize act.tmps.getD d undef = v' at hr
         generalize a.get d = v at hr
         cases hr <;> simp
       · have he : act.tmps[d]? = none := Array.getElem?_eq_none (Nat.le_of_not_lt hlt)
         have hu : act.tmps.getD d undef = undef := by simp [Array.getD, hlt]
         rw [he]
         rw [hu] at hr
         generalize a.get d = v at hr
         unfold undef at hr
         cases hr
         simp
theorem step_wp (W : WfP P) {C : Caller} (HC : CallerOk P C) (H : HR P ρ N h w) (A : ActR ρ a act) {ops : Array Oper} {i : Nat} {o : Oper} (ho : ops[i]? = some o) {a1 : Ev.A} {h1 : Hp} (hs : step' P C ops.toList o a h = some (a1, h1))
  {K : Act → World → Prop} {Q : Exit → Act → World → Prop} (hK : ∀ ρ1 w1 act1, ρ.le ρ1 → ActR ρ1 a1 act1 → HR P ρ1 N h1 w1 → Below N w w1 → K act1 w1) : wpOp P ops Q i K act w := by
 unfold wpOp
 rw [ho]
 simp only []
 unfold step' at hs
 rw [wanted_eq A ops o] at hs
 split at hs
 · rename_i hw
   rw [if_pos hw]
   split at hs
   · rename_i v h2 hv
     split at hs
     · rename_i a2 ha
       injection hs with hs
       injection hs with hs1 hs2
       subst hs1; subst hs2
       refine .inl (oper_wp W HC H A o hv (fun ρ1 w1 v' r1 r2 r3 r4 => hK ρ1 w1 _ r1 ((A.mono r1).put r2 ha) r3 r4))
     · cases hs
   · cases hs
 · rename_i hw
   rw [if_neg (by rw [hw]; simp)]
   split at hs
   · rename_i a2 ha
     injection hs with hs
     injection hs with hs1 hs2
     subst hs1; subst hs2
     exact hK ρ w _ (Rho.le_refl ρ) (A.put (v' := undef) (.tuple .nil) ha) H (Below.refl _ _)
   · cases hs
theorem ops_wp (W : WfP P) {C : Caller} (HC : CallerOk P C) {ops : Array Oper} {Q : Exit → Act → World → Prop} : ∀ (r pre : List Oper), ops.toList = pre ++ r → ∀ {ρ : Rho} {h : Hp} {w : World} {a : Ev.A} {act : Act} {a1 : Ev.A} {h1 : Hp},
  HR P ρ N h w → ActR ρ a act → ops' P C ops.toList r a h = some (a1, h1) →
  (∀ ρ1 w1 act1, ρ.le ρ1 → ActR ρ1 a1 act1 → HR P ρ1 N h1 w1 → Below N w w1 → Q .normal act1 w1) → wpOps P ops Q (List.range' pre.length r.length) act w := by
 intro r
 induction r with
 | nil =>
   intro pre hp ρ h w a act a1 h1 H A hs hQ
   simp only [ops', Option.some.injEq, Prod.mk.injEq] at hs
   obtain ⟨rfl, rfl⟩ := hs
   simp only [List.length_nil, List.range'_zero, wpOps]
   exact hQ ρ w act (Rho.le_refl ρ) A H (Below.refl _ _)
 | cons o r ih =>
   intro pre hp ρ h w a act a1 h1 H A hs hQ
   simp only [ops'] at hs
   split at hs
   · rename_i a2 h2 hst
     have ho : ops[pre.length]? = some o := by
      rw [← Array.getElem?_toList, hp]
      simp
     simp only [List.length_cons, List.range'_succ]
     rw [wpOps_cons]
     refine step_wp W HC H A ho hst (fun ρ1 w1 act1 r1 r2 r3 r4 => ?_)
     have := ih (pre ++ [o]) (by rw [hp]; simp) r3 r2 hs (fun ρ2 w2 act2 s1 s2 s3 s4 => hQ ρ2 w2 act2 (Rho.le_trans r1 s1) s2 s3 (r4.trans s4))
     simpa using this
   · cases hs
end Go.Ev
namespace Go.Ev
open Go.RowKit
variable {P : Program} {ρ : Rho} {N : Bs} {h : Hp} {w : World} {a : A} {act : Act} {mk : Bool}
theorem has_mem {l : List Nat} {i : Nat} : has l i = true ↔ i ∈ l := by
 unfold has
 rw [List.any_eq_true]
 constructor
 · rintro ⟨x, hx, he⟩
   have := nbeq_true he
   subst this
   exact hx
 · intro hx
   exact ⟨i, hx, by simp⟩
theorem predsGo_old : ∀ (r : List Oper) (acc : List (List Nat)) (i : Nat), i < acc.length → (predsGo acc r)[i]? = acc[i]?
 | [], _, _, _ => rfl
 | o :: r, acc, i, hi => by
   simp only [predsGo]
   rw [predsGo_old r _ i (by simp; omega), List.getElem?_append_left hi]
theorem predsGo_new : ∀ (r : List Oper) (acc : List (List Nat)) (k : Nat) (o : Oper), r[k]? = some o →
  ∃ acc', acc'.length = acc.length + k ∧ (predsGo acc r)[acc.length + k]? = some (predsRow acc' o.after.toList) ∧ ∀ i, i < acc'.length → acc'[i]? = (predsGo acc r)[i]?
 | [], _, _, _, h => by simp at h
 | o :: r, acc, 0, o', h => by
   simp at h
   subst h
   refine ⟨acc, rfl, ?_, fun i hi => ?_⟩
   · simp only [predsGo, Nat.add_zero]
     rw [predsGo_old r _ _ (by simp)]
     simp
   · simp only [predsGo]
     rw [predsGo_old r _ _ (by simp; omega), List.getElem?_append_left hi]
 | o :: r, acc, k + 1, o', h => by
   simp at h
   obtain ⟨acc', h1, h2, h3⟩ := predsGo_new r (acc ++ [predsRow acc o.after.toList]) k o' h
   simp only [List.length_append, List.length_singleton] at h1 h2
   refine ⟨acc', by omega, ?_, ?_⟩
   · simp only [predsGo]
     rw [← h2]
     congr 1
     omega
   · simpa only [predsGo] using h3
theorem predsRow_mem {acc : List (List Nat)} {j : Nat} : ∀ {l : List Edge}, j ∈ predsRow acc l → ∃ e ∈ l, Region.binds .any e = true ∧ (j = e.on ∨ j ∈ (acc[e.on]?).getD [])
 | [], h => by simp [predsRow] at h
 | e :: l, h => by
   simp only [predsRow] at h
   split at h
   · rename_i hb
     simp only [List.cons_append, List.mem_cons, List.mem_append] at h
     rcases h with rfl | h | h
     · exact ⟨e, by simp, hb, .inl rfl⟩
     · exact ⟨e, by simp, hb, .inr h⟩
     · obtain ⟨e', h1, h2⟩ := predsRow_mem h
       exact ⟨e', by simp [h1], h2⟩
   · obtain ⟨e', h1, h2⟩ := predsRow_mem h
     exact ⟨e', by simp [h1], h2⟩
theorem edgesOk_spec {i : Nat} : ∀ {l : List Edge}, edgesOk i l = true → ∀ e ∈ l, Region.binds .any e = true → e.on < i
 | [], _, _, h, _ => by cases h
 | e :: l, h, e', he, hb => by
   simp only [edgesOk] at h
   split at h
   · split at h
     · rename_i hlt
       rcases List.mem_cons.1 he with rfl | he
       · simpa [Nat.blt_eq] using hlt
       · exact edgesOk_spec h e' he hb
     · cases h
   · rename_i hf
     rcases List.mem_cons.1 he with rfl | he
     · rw [hb] at hf; cases hf
     · exact edgesOk_spec h e' he hb
theorem pairOk_spec {arr : Array Oper} {ps : List Nat} {y : Oper} : ∀ {l : List Oper} {k : Nat}, pairOk mk arr ps y k l = true → ∀ i x, l[i]? = some x → has ps (k + i) = true ∨ ((isReader2 mk x.op || isReader2 mk y.op) = true ∧ x.apart arr y = true ∧ y.apart arr x = true)
 | [], _, _, _, _, h => by simp at h
 | x :: l, k, h, i, x', hx => by
   simp only [pairOk] at h
   split at h
   · rename_i hh
     cases i with
     | zero => exact .inl hh
     | succ i =>
       have := pairOk_spec h i x' (by simpa using hx)
       rwa [show k + 1 + i = k + (i + 1) by omega] at this
   · split at h
     · rename_i h1 h2 h3
       cases i with
       | zero =>
         simp at hx
         subst hx
         exact .inr ⟨h1, h2, h3⟩
       | succ i =>
         have := pairOk_spec h i x' (by simpa using hx)
         rwa [show k + 1 + i = k + (i + 1) by omega] at this
     · cases h
theorem orderGo_spec {ops : List Oper} {arr : Array Oper} {ps : List (List Nat)} : ∀ {r : List Oper} {j : Nat}, orderGo mk ops arr ps j r = true → ∀ i y, r[i]? = some y →
  edgesOk (j + i) y.after.toList = true ∧ pairOk mk arr (predsOf ps (j + i)) y 0 (ops.take (j + i)) = true
 | [], _, _, _, _, h => by simp at h
 | y :: r, j, h, i, y', hy => by
   simp only [orderGo] at h
   split at h
   · rename_i h1 h2
     cases i with
     | zero =>
       simp at hy
       subst hy
       exact ⟨h1, h2⟩
     | succ i =>
       have := orderGo_spec h i y' (by simpa using hy)
       rwa [show j + 1 + i = j + (i + 1) by omega] at this
   · cases h
structure Ordered (mk : Bool) (ops : Array Oper) : Prop where
 edge : ∀ i o, ops[i]? = some o → ∀ e ∈ o.after, Region.binds .any e = true → e.on < i
 pair : ∀ i j x y, i < j → ops[i]? = some x → ops[j]? = some y → i ∈ predsOf (preds ops.toList) j ∨ ((isReader2 mk x.op || isReader2 mk y.op) = true ∧ x.apart ops y = true ∧ y.apart ops x = true)
theorem ordered_of {ops : Array Oper} (h : orderOk mk ops.toList = true) : Ordered mk ops := by
 unfold orderOk at h
 constructor
 · intro i o ho e he hb
   have := (orderGo_spec h i o (by simpa using ho)).1
   rw [Nat.zero_add] at this
   exact edgesOk_spec this e (by simpa using he) hb
 · intro i j x y hij hx hy
   have := (orderGo_spec h j y (by simpa using hy)).2
   rw [Nat.zero_add] at this
   have h2 := pairOk_spec this i x (by rw [List.getElem?_take, if_pos hij]; simpa using hx)
   rw [Nat.zero_add, has_mem] at h2
   simpa using h2
def Shut (ops : Array Oper) (O : Nat → Prop) : Prop := ∀ i o, ops[i]? = some o → O i → ∀ e ∈ o.after, Region.binds .any e = true → O e.on
theorem preds_in {ops : Array Oper} (K : Ordered mk ops) {O : Nat → Prop} (hO : Shut ops O) : ∀ (i : Nat) (o : Oper), ops[i]? = some o → (∀ e ∈ o.after, Region.binds .any e = true → O e.on) → ∀ j, j ∈ predsOf (preds ops.toList) i → O j := by
 intro i
 induction i using Nat.strongRecOn with
 | _ i ih =>
   intro o ho hd j hj
   obtain ⟨acc, h1, h2, h3⟩ := predsGo_new ops.toList [] i o (by simpa using ho)
   simp only [List.length_nil, Nat.zero_add] at h1 h2
   unfold predsOf preds at hj
   rw [h2] at hj
   simp only [Option.getD_some] at hj
   obtain ⟨e, he, hb, hje⟩ := predsRow_mem hj
   have he' : e ∈ o.after := by simpa using he
   have hlt := K.edge i o ho e he' hb
   have hOe := hd e he' hb
   rcases hje with rfl | hje
   · exact hOe
   · have hlen : e.on < ops.size := by
      have := (Array.getElem?_eq_some_iff.1 ho).1
      omega
     obtain ⟨p, hp⟩ : ∃ p, ops[e.on]? = some p := ⟨ops[e.on], Array.getElem?_eq_getElem hlen⟩
     rw [h3 e.on (by omega)] at hje
     exact ih e.on hlt p hp (fun e2 he2 hb2 => hO e.on p hp hOe e2 he2 hb2) j hje
theorem sameV_eq : ∀ (n : Nat) (v u : Value), sameV n v u = true → v = u := by
 intro n
 induction n with
 | zero =>
   intro v u h
   unfold sameV at h
   split at h <;> first
    | (have := eq_of_beq h; subst this; rfl)
    | rfl
    | skip
   · simp only [Bool.and_eq_true, intEq_beq] at h
     have h1 := kindEq_eq h.1
     have h2 := eq_of_beq h.2
     subst h1; subst h2; rfl
   · rw [bytesEq_beq] at h
     have := eq_of_beq h
     rename_i a b
     obtain ⟨a⟩ := a
     obtain ⟨b⟩ := b
     have h2 : a = b := Array.ext' this
     rw [h2]
   · simp only [Bool.and_eq_true] at h
     rename_i a b
     obtain ⟨a1, a2, a3⟩ := a
     obtain ⟨b1, b2, b3⟩ := b
     obtain ⟨⟨⟨h1, h2⟩, h3⟩, h4⟩ := h
     have e1 := nbeq_true h1
     have e2 := nbeq_true h2
     simp only at e1 e2
     subst e1; subst e2
     cases a3 <;> cases b3 <;> simp_all
   · simp only [Bool.and_eq_true] at h
     have e1 := nbeq_true h.1
     have e2 := nbeq_true h.2
     subst e1; subst e2; rfl
   · simp only [Bool.and_eq_true] at h
     rename_i a n c b m d
     obtain ⟨a1, a2, a3⟩ := a
     obtain ⟨b1, b2, b3⟩ := b
     obtain ⟨⟨⟨⟨⟨h1, h2⟩, h3⟩, h4⟩, h5⟩, h6⟩ := h
     have e1 := nbeq_true h1
     have e2 := nbeq_true h2
     have e3 := nbeq_true h5
     have e4 := nbeq_true h6
     simp only at e1 e2
     subst e1; subst e2; subst e3; subst e4
     cases a3 <;> cases b3 <;> simp_all
   · have e1 := nbeq_true h
     subst e1; rfl
   · rename_i e; cases e
   · rename_i e; cases e
   · rename_i e; cases e
   · rename_i e; cases e
   · cases h
 | succ n ih =>
   have all : ∀ {l m : List Value}, l.length = m.length → ((l.zip m).all fun (x, y) => sameV n x y) = true → l = m := by
    intro l
    induction l with
    | nil => intro m hl _; cases m <;> simp at hl; rfl
    | cons x l ihl =>
      intro m hl h
      cases m with
      | nil => simp at hl
      | cons y m =>
        simp only [List.zip_cons_cons, List.all_cons, Bool.and_eq_true] at h
        rw [ih _ _ h.1, ihl (by simpa using hl) h.2]
   intro v u h
   unfold sameV at h
   split at h <;> first
    | (have := eq_of_beq h; subst this; rfl)
    | rfl
    | skip
   · simp only [Bool.and_eq_true, intEq_beq] at h
     have h1 := kindEq_eq h.1
     have h2 := eq_of_beq h.2
     subst h1; subst h2; rfl
   · rw [bytesEq_beq] at h
     have := eq_of_beq h
     rename_i a b
     obtain ⟨a⟩ := a
     obtain ⟨b⟩ := b
     have h2 : a = b := Array.ext' this
     rw [h2]
   · simp only [Bool.and_eq_true] at h
     rename_i a b
     obtain ⟨a1, a2, a3⟩ := a
     obtain ⟨b1, b2, b3⟩ := b
     obtain ⟨⟨⟨h1, h2⟩, h3⟩, h4⟩ := h
     have e1 := nbeq_true h1
     have e2 := nbeq_true h2
     simp only at e1 e2
     subst e1; subst e2
     cases a3 <;> cases b3 <;> simp_all
   · simp only [Bool.and_eq_true] at h
     have e1 := nbeq_true h.1
     have e2 := nbeq_true h.2
     subst e1; subst e2; rfl
   · simp only [Bool.and_eq_true] at h
     rename_i a n c b m d
     obtain ⟨a1, a2, a3⟩ := a
     obtain ⟨b1, b2, b3⟩ := b
     obtain ⟨⟨⟨⟨⟨h1, h2⟩, h3⟩, h4⟩, h5⟩, h6⟩ := h
     have e1 := nbeq_true h1
     have e2 := nbeq_true h2
     have e3 := nbeq_true h5
     have e4 := nbeq_true h6
     simp only at e1 e2
     subst e1; subst e2; subst e3; subst e4
     cases a3 <;> cases b3 <;> simp_all
   · have e1 := nbeq_true h
     subst e1; rfl
   · rename_i e
     injection e with e
     subst e
     simp only [Bool.and_eq_true] at h
     obtain ⟨⟨⟨⟨h1, h2⟩, h3⟩, h4⟩, h5⟩ := h
     have e1 := nbeq_true h1
     subst e1
     have e2 := all (nbeq_true h2) h4
     have e3 := all (nbeq_true h3) h5
     rw [Array.ext' e2, Array.ext' e3]
   · rename_i e
     injection e with e
     subst e
     simp only [Bool.and_eq_true] at h
     have e1 := nbeq_true h.1
     subst e1
     rw [ih _ _ h.2]
   · rename_i e
     injection e with e
     subst e
     simp only [Bool.and_eq_true] at h
     rw [Array.ext' (all (nbeq_true h.1) h.2)]
   · rename_i e
     injection e with e
     subst e
     simp only [Bool.and_eq_true] at h
     rw [Array.ext' (all (nbeq_true h.1) h.2)]
   · cases h
theorem evList_congr {a b : A} : ∀ {xs : List Operand}, (∀ x ∈ xs, a.ev x = b.ev x) → evList a xs = evList b xs
 | [], _ => rfl
 | x :: xs, h => by
   have h2 : evList a xs = evList b xs := evList_congr fun y hy => h y (List.mem_cons_of_mem _ hy)
   simp only [evList, h x (by simp), h2]
theorem evPairs_congr {a b : A} : ∀ {xs : List (Nat × Operand)}, (∀ x ∈ xs, a.ev x.2 = b.ev x.2) → evPairs a xs = evPairs b xs
 | [], _ => rfl
 | (i, x) :: xs, h => by
   have h2 : evPairs a xs = evPairs b xs := evPairs_congr fun y hy => h y (List.mem_cons_of_mem _ hy)
   have h3 : a.ev x = b.ev x := h (i, x) (by simp)
   simp only [evPairs, h3, h2]
theorem oper_congr {a b : A} {C : Caller} {op : Op} (hab : ∀ x ∈ op.operands, a.ev x = b.ev x) :
  reader' P h a op = reader' P h b op ∧ oper' P C h a op = oper' P C h b op ∧ maker' P a op = maker' P b op := by
 have key : reader' P h a op = reader' P h b op ∧ writer' P h a op = writer' P h b op ∧ callee' a op = callee' b op ∧ maker' P a op = maker' P b op := by
  cases op <;> simp only [Op.operands] at hab
  case build t ps =>
   have : evPairs a ps.toList = evPairs b ps.toList := evPairs_congr fun x hx => hab x.2 (by
    simp only [List.mem_toArray, List.mem_map]
    exact ⟨x, hx, rfl⟩)
   exact ⟨by simp only [reader', this], rfl, rfl, rfl⟩
  case buildSlice t n ps =>
   have : evPairs a ps.toList = evPairs b ps.toList := evPairs_congr fun x hx => hab x.2 (by
    simp only [List.mem_toArray, List.mem_map]
    exact ⟨x, hx, rfl⟩)
   exact ⟨rfl, by simp only [writer', maker', this], rfl, by simp only [maker', this]⟩
  case makeFunc fn first captured =>
   have h1 : evList a first.toList = evList b first.toList := evList_congr fun x hx => hab x (by simp at hx ⊢; exact .inl hx)
   have h2 : evList a captured.toList = evList b captured.toList := evList_congr fun x hx => hab x (by simp at hx ⊢; exact .inr hx)
   exact ⟨by simp only [reader', h1, h2], rfl, rfl, rfl⟩
  case makeMap t r =>
   cases r with
   | none => exact ⟨rfl, rfl, rfl, rfl⟩
   | some x => exact ⟨rfl, by simp only [writer', maker', hab x (by simp)], rfl, by simp only [maker', hab x (by simp)]⟩
  case slice t x lo hi mx =>
   have h0 := hab x (by simp)
   have hl : ∀ y, lo = some y → a.ev y = b.ev y := fun y hy => hab y (by subst hy; simp)
   have hh : ∀ y, hi = some y → a.ev y = b.ev y := fun y hy => hab y (by subst hy; simp)
   have hm : ∀ y, mx = some y → a.ev y = b.ev y := fun y hy => hab y (by subst hy; simp)
   have hlist : evList a (lo.toList ++ hi.toList ++ mx.toList) = evList b (lo.toList ++ hi.toList ++ mx.toList) := evList_congr fun y hy => by
    simp at hy
    rcases hy with hy | hy | hy
    · exact hl y hy
    · exact hh y hy
    · exact hm y hy
   have bl : lo.bind a.ev = lo.bind b.ev := by cases lo with
    | none => rfl
    | some y => exact hl y rfl
   have bh : hi.bind a.ev = hi.bind b.ev := by cases hi with
    | none => rfl
    | some y => exact hh y rfl
   have bm : mx.bind a.ev = mx.bind b.ev := by cases mx with
    | none => rfl
    | some y => exact hm y rfl
   exact ⟨by simp only [reader', h0, hlist, bl, bh, bm], rfl, rfl, rfl⟩
  case call c =>
   obtain ⟨cal, args, ats⟩ := c
   have hargs : evList a args.toList = evList b args.toList := evList_congr fun x hx => hab x (by simp [Call.operands]; right; simpa using hx)
   cases cal with
   | value f =>
     have hf := hab f (by simp [Call.operands])
     exact ⟨rfl, rfl, by simp only [callee', hf, hargs], rfl⟩
   | invoke r m => exact ⟨rfl, rfl, rfl, rfl⟩
   | builtin bb =>
     refine ⟨?_, by simp only [writer', hargs], rfl, rfl⟩
     cases bb <;> first | rfl | simp only [reader', hargs]
  all_goals
   refine ⟨?_, ?_, rfl, ?_⟩ <;> first
    | rfl
    | (simp only [reader']; done)
    | (simp only [writer']; done)
    | (simp_all [reader']; done)
    | (simp_all [writer', maker']; done)
    | (simp_all [maker']; done)
 refine ⟨key.1, ?_, key.2.2.2⟩
 unfold oper'
 rw [key.1, key.2.1, key.2.2.1]
end Go.Ev
namespace Go.Ev
open Go.RowKit
variable {P : Program} {ρ : Rho} {N : Bs} {h : Hp} {w : World} {a : A} {act : Act} {C : Caller} {mk : Bool} {base g : Nat}
theorem A.get_put {a b : A} {d : Option Nat} {v : Value} (hn : a.n < most) (h : a.put d v = some b) : b.n = a.n ∧ ∀ t, b.get t = if d = some t then v else a.get t := by
 cases d with
 | none => simp only [A.put, Option.some.injEq] at h; subst h; simp
 | some d =>
   simp only [A.put] at h
   split at h
   · rename_i hlt
     injection h with h
     subst h
     have hlt' : d < a.n := by simpa [Nat.blt_eq] using hlt
     refine ⟨rfl, fun t => ?_⟩
     simp only [A.get]
     rw [Tr.get_set' _ _ _ _ (by omega)]
     by_cases e : t = d
     · subst e; simp
     · have : ¬ d = t := fun h => e h.symm
       simp [e, this]
   · cases h
theorem A.put_same {a b a1 : A} {d : Option Nat} {v : Value} (hn : b.n = a.n) (h : a.put d v = some a1) : ∃ b1, b.put d v = some b1 := by
 cases d with
 | none => exact ⟨b, rfl⟩
 | some d =>
   simp only [A.put] at h ⊢
   rw [hn]
   split at h
   · rename_i hlt
     exact ⟨_, rfl⟩
   · cases h
structure Turned (P : Program) (C : Caller) (mk : Bool) (g : Nat) (ops : List Oper) (o : Oper) (a : A) (h : Hp) (a1 : A) (h1 : Hp) (v : Value) : Prop where
 put : a.put o.dst v = some a1
 val : (wanted' ops a o = true ∧ oper2' P C mk g h a o.op = some (v, h1)) ∨ (wanted' ops a o = false ∧ v = undef' ∧ h1 = h)
theorem turned {ops : List Oper} {o : Oper} {a1 : A} {h1 : Hp} (h0 : step2' P C mk ops g o a h = some (a1, h1)) : ∃ v, Turned P C mk g ops o a h a1 h1 v := by
 unfold step2' at h0
 split at h0
 · rename_i hw
   split at h0
   · rename_i v h2 hv
     split at h0
     · rename_i a2 ha
       injection h0 with h0
       injection h0 with e1 e2
       subst e1; subst e2
       exact ⟨v, ha, .inl ⟨hw, hv⟩⟩
     · cases h0
   · cases h0
 · rename_i hw
   split at h0
   · rename_i a2 ha
     injection h0 with h0
     injection h0 with e1 e2
     subst e1; subst e2
     exact ⟨undef', ha, .inr ⟨hw, rfl, rfl⟩⟩
   · cases h0
theorem Turned.step {ops : List Oper} {o : Oper} {a1 : A} {h1 : Hp} {v : Value} (t : Turned P C mk g ops o a h a1 h1 v) : step2' P C mk ops g o a h = some (a1, h1) := by
 unfold step2'
 rcases t.val with ⟨hw, hv⟩ | ⟨hw, rfl, rfl⟩
 · rw [hw, hv]
   simp only [t.put]
 · rw [hw]
   simp only [t.put]
theorem oper_reader {op : Op} {v : Value} {h1 : Hp} (hr : isReader2 mk op = true) (h0 : oper2' P C mk g h a op = some (v, h1)) : reader2' P g h a op = some v ∧ h1 = h := by
 unfold oper2' at h0
 rw [hr] at h0
 simp only [withH] at h0
 split at h0
 · injection h0 with h0
   injection h0 with e1 e2
   subst e1; subst e2
   exact ⟨by assumption, rfl⟩
 · cases h0
theorem Turned.heap {ops : List Oper} {o : Oper} {a1 : A} {h1 : Hp} {v : Value} (t : Turned P C mk g ops o a h a1 h1 v) (hr : isReader2 mk o.op = true) : h1 = h := by
 rcases t.val with ⟨_, hv⟩ | ⟨_, _, e⟩
 · exact (oper_reader hr hv).2
 · exact e
theorem wanted_congr {ops : Array Oper} {o : Oper} {a b : A} (h : ∀ t ∈ o.looksAt ops, b.get t = a.get t) : wanted' ops.toList b o = wanted' ops.toList a o := by
 unfold wanted'
 split
 · rfl
 · rename_i j want hg
   split
   · rfl
   · rename_i p hp
     split
     · rfl
     · rename_i d hd
       rw [h d]
       unfold Oper.looksAt
       rw [List.mem_append]
       refine .inr ?_
       have hp' : ops[j]? = some p := by simpa using hp
       simp [hg, hp', hd]
theorem ev_congr {ops : Array Oper} {o : Oper} {a b : A} (h : ∀ t ∈ o.looksAt ops, b.get t = a.get t) : ∀ x ∈ o.op.operands, b.ev x = a.ev x := by
 intro x hx
 cases x with
 | tmp t =>
   simp only [A.ev]
   rw [h t]
   unfold Oper.looksAt
   rw [List.mem_append]
   refine .inl ?_
   rw [List.mem_filterMap]
   exact ⟨.tmp t, by simpa using hx, rfl⟩
 | const v => rfl
 | global g => rfl
 | func f => rfl
theorem oper2_congr {a b : A} {C : Caller} {op : Op} (hab : ∀ x ∈ op.operands, a.ev x = b.ev x) :
  reader2' P g h a op = reader2' P g h b op ∧ oper2' P C mk g h a op = oper2' P C mk g h b op := by
 have k := oper_congr (P := P) (h := h) (C := C) hab
 have kr : reader2' P g h a op = reader2' P g h b op := by
  unfold reader2'
  rw [k.1, k.2.2]
 refine ⟨kr, ?_⟩
 unfold oper2'
 rw [kr, k.2.1]
theorem check_spec {ops : List Oper} {ps : List (List Nat)} {gs : List (Nat × Hp)} : ∀ (r : List Oper) (i : Nat) (a : A) (h : Hp) (a1 : A) (h1 : Hp), check P C mk base ops ps gs i r a h = some (a1, h1) →
  ∃ st : Nat → A × Hp, st 0 = (a, h) ∧ st r.length = (a1, h1) ∧ ∀ k o, r[k]? = some o → step2' P C mk ops (base + (i + k)) o (st k).1 (st k).2 = some (st (k + 1)) ∧
   (isReader2 mk o.op = true → wanted' ops (st k).1 o = true → ∃ v, reader2' P (base + (i + k)) (st k).2 (st k).1 o.op = some v ∧ stable P (base + (i + k)) (st k).1 o.op v (i + k) ps gs = true)
 | [], i, a, h, a1, h1, hc => by
   simp only [check, Option.some.injEq, Prod.mk.injEq] at hc
   obtain ⟨rfl, rfl⟩ := hc
   exact ⟨fun _ => (a, h), rfl, rfl, fun k o ho => by simp at ho⟩
 | o :: r, i, a, h, a1, h1, hc => by
   simp only [check] at hc
   split at hc
   · cases hc
   · rename_i a2 h2 hs
     have step : ∀ (hrest : check P C mk base ops ps gs (i + 1) r a2 h2 = some (a1, h1)) (hst : isReader2 mk o.op = true → wanted' ops a o = true → ∃ v, reader2' P (base + i) h a o.op = some v ∧ stable P (base + i) a o.op v i ps gs = true),
       ∃ st : Nat → A × Hp, st 0 = (a, h) ∧ st (o :: r).length = (a1, h1) ∧ ∀ k o', (o :: r)[k]? = some o' → step2' P C mk ops (base + (i + k)) o' (st k).1 (st k).2 = some (st (k + 1)) ∧
        (isReader2 mk o'.op = true → wanted' ops (st k).1 o' = true → ∃ v, reader2' P (base + (i + k)) (st k).2 (st k).1 o'.op = some v ∧ stable P (base + (i + k)) (st k).1 o'.op v (i + k) ps gs = true) := by
      intro hrest hst
      obtain ⟨st, s0, s1, s2⟩ := check_spec r (i + 1) a2 h2 a1 h1 hrest
      refine ⟨fun k => match k with | 0 => (a, h) | k + 1 => st k, rfl, s1, ?_⟩
      intro k o' ho'
      cases k with
      | zero =>
        simp at ho'
        subst ho'
        refine ⟨by simpa [s0] using hs, hst⟩
      | succ k =>
        simp at ho'
        have := s2 k o' ho'
        rw [show i + 1 + k = i + (k + 1) by omega] at this
        exact this
     split at hc
     · rename_i hr hw
       split at hc
       · rename_i v hv
         split at hc
         · rename_i hst
           exact step hc fun _ _ => ⟨v, hv, hst⟩
         · cases hc
       · cases hc
     · rename_i hne
       exact step hc fun e1 e2 => absurd e2 (by
        intro e2
        exact hne e1 e2)
theorem heaps_spec {ops : List Oper} : ∀ (r : List Oper) (i : Nat) (st : Nat → A × Hp) (gs : List (Nat × Hp)),
  (∀ k o, r[k]? = some o → step2' P C mk ops (base + (i + k)) o (st k).1 (st k).2 = some (st (k + 1))) → heaps P C mk base ops i r (st 0).1 (st 0).2 = some gs →
  ∀ m, m ≤ r.length → (m = r.length ∨ ∃ o, r[m]? = some o ∧ isReader2 mk o.op = false) →
   ∃ l1 l2, gs = l1 ++ (i + m, (st m).2) :: l2 ∧ ∀ e ∈ l1, ∃ j o, e.1 = i + j ∧ j < m ∧ r[j]? = some o ∧ isReader2 mk o.op = false
 | [], i, st, gs, hst, hh, m, hm, _ => by
   simp only [heaps, Option.some.injEq] at hh
   simp at hm
   subst hm
   exact ⟨[], [], by simp [← hh], by simp⟩
 | o :: r, i, st, gs, hst, hh, m, hm, hk => by
   simp only [heaps] at hh
   have h0 := hst 0 o (by simp)
   rw [Nat.add_zero] at h0
   rw [h0] at hh
   simp only at hh
   split at hh
   · rename_i l hl
     have rec' := heaps_spec r (i + 1) (fun k => st (k + 1)) l (fun k o' ho' => by
      have := hst (k + 1) o' (by simpa using ho')
      rwa [show i + (k + 1) = i + 1 + k by omega] at this) hl
     cases m with
     | zero =>
       rcases hk with hk | ⟨o', ho', hr⟩
       · simp at hk
       · simp at ho'
         subst ho'
         rw [hr] at hh
         simp only [Option.some.injEq] at hh
         exact ⟨[], l, by simp [← hh], by simp⟩
     | succ m =>
       obtain ⟨l1, l2, e1, e2⟩ := rec' m (by simpa using hm) (by simpa using hk)
       rw [show i + 1 + m = i + (m + 1) by omega] at e1
       have lift : ∀ e ∈ l1, ∃ j o', e.1 = i + j ∧ j < m + 1 ∧ (o :: r)[j]? = some o' ∧ isReader2 mk o'.op = false := by
        intro e he
        obtain ⟨j, o', f1, f2, f3, f4⟩ := e2 e he
        exact ⟨j + 1, o', by omega, by omega, by simpa using f3, f4⟩
       split at hh
       · injection hh with hh
         subst hh
         exact ⟨l1, l2, e1, lift⟩
       · rename_i hr
         injection hh with hh
         subst hh
         refine ⟨(i, (st 0).2) :: l1, l2, by simp [e1], ?_⟩
         intro e he
         rcases List.mem_cons.1 he with rfl | he
         · exact ⟨0, o, rfl, by omega, by simp, hr⟩
         · exact lift e he
   · cases hh
theorem stable_spec {op : Op} {v : Value} {i : Nat} {ps : List (List Nat)} : ∀ {gs l1 : List (Nat × Hp)} {m : Nat} {hm : Hp} {l2 : List (Nat × Hp)}, stable P g a op v i ps gs = true → gs = l1 ++ (m, hm) :: l2 →
  (∀ e ∈ l1, i ∉ predsOf ps e.1) → m ∉ predsOf ps i → reader2' P g hm a op = some v := by
 intro gs l1
 induction l1 generalizing gs with
 | nil =>
   intro m hm l2 hs hg _ hp
   subst hg
   simp only [List.nil_append, stable] at hs
   split at hs
   · rename_i hh
     exact absurd (has_mem.1 hh) hp
   · split at hs
     · rename_i u hu
       split at hs
       · rename_i hv
         rw [hu, sameV_eq _ _ _ hv]
       · cases hs
     · cases hs
 | cons e l1 ih =>
   intro m hm l2 hs hg hl hp
   subst hg
   obtain ⟨e, he⟩ := e
   simp only [List.cons_append, stable] at hs
   split at hs
   · exact ih hs rfl (fun e he => hl e (List.mem_cons_of_mem _ he)) hp
   · split at hs
     · split at hs
       · split at hs
         · rename_i hh
           exact absurd (has_mem.1 hh) (hl (e, he) (by simp))
         · exact ih hs rfl (fun e he => hl e (List.mem_cons_of_mem _ he)) hp
       · cases hs
     · cases hs
def cnt (f : Nat → Bool) : Nat → Nat
 | 0 => 0
 | n + 1 => cnt f n + (if f n = true then 1 else 0)
theorem cnt_le (f : Nat → Bool) : ∀ n, cnt f n ≤ n
 | 0 => Nat.le_refl 0
 | n + 1 => by
   have := cnt_le f n
   simp only [cnt]
   split <;> omega
theorem cnt_all {f : Nat → Bool} : ∀ {n : Nat}, cnt f n = n → ∀ i, i < n → f i = true
 | 0, _, i, hi => by omega
 | n + 1, h, i, hi => by
   have := cnt_le f n
   simp only [cnt] at h
   split at h
   · rename_i hn
     by_cases e : i = n
     · subst e; exact hn
     · exact cnt_all (n := n) (by omega) i (by omega)
   · omega
theorem cnt_same {f g : Nat → Bool} : ∀ {n : Nat}, (∀ j, j < n → g j = f j) → cnt g n = cnt f n
 | 0, _ => rfl
 | n + 1, h => by simp only [cnt, h n (by omega), cnt_same (fun j hj => h j (Nat.lt_succ_of_lt hj))]
theorem cnt_set {f g : Nat → Bool} {i : Nat} (h0 : f i = false) (h1 : g i = true) (h2 : ∀ j, j ≠ i → g j = f j) : ∀ {n : Nat}, i < n → cnt g n = cnt f n + 1
 | 0, h => by omega
 | n + 1, h => by
   simp only [cnt]
   by_cases e : i = n
   · subst e
     rw [h0, h1, cnt_same (fun j hj => h2 j (by omega))]
     simp
   · rw [h2 n (fun h => e h.symm), cnt_set h0 h1 h2 (by omega)]
     omega
structure Course (P : Program) (C : Caller) (mk : Bool) (base : Nat) (ops : Array Oper) (st : Nat → A × Hp) (gs : List (Nat × Hp)) : Prop where
 ordered : Ordered mk ops
 go : ∀ k o, ops[k]? = some o → step2' P C mk ops.toList (base + k) o (st k).1 (st k).2 = some (st (k + 1)) ∧
  (isReader2 mk o.op = true → wanted' ops.toList (st k).1 o = true → ∃ v, reader2' P (base + k) (st k).2 (st k).1 o.op = some v ∧ stable P (base + k) (st k).1 o.op v k (preds ops.toList) gs = true)
 heaps : ∀ m, m ≤ ops.size → (m = ops.size ∨ ∃ o, ops[m]? = some o ∧ isReader2 mk o.op = false) →
  ∃ l1 l2, gs = l1 ++ (m, (st m).2) :: l2 ∧ ∀ e ∈ l1, ∃ o, e.1 < m ∧ ops[e.1]? = some o ∧ isReader2 mk o.op = false
 small : (st 0).1.n < most
theorem course_of {ops : Array Oper} {a1 : A} {h1 : Hp} (hn : a.n < most) (hord : orderOk mk ops.toList = true) (h0 : drawn P C mk base ops.toList a h = some (a1, h1)) :
  ∃ st gs, Course P C mk base ops st gs ∧ st 0 = (a, h) ∧ st ops.size = (a1, h1) := by
 unfold drawn at h0
 split at h0
 · rename_i gs hgs
   obtain ⟨st, s0, s1, s2⟩ := check_spec _ _ _ _ _ _ h0
   refine ⟨st, gs, ⟨ordered_of hord, ?_, ?_, by rw [s0]; exact hn⟩, s0, by simpa using s1⟩
   · intro k o ho
     have := s2 k o (by simpa using ho)
     rwa [Nat.zero_add] at this
   · intro m hm hk
     obtain ⟨l1, l2, e1, e2⟩ := heaps_spec ops.toList 0 st gs (fun k o ho => (s2 k o ho).1) (by rw [s0]; exact hgs) m (by simpa using hm) (by simpa using hk)
     rw [Nat.zero_add] at e1
     refine ⟨l1, l2, e1, fun e he => ?_⟩
     obtain ⟨j, o, f1, f2, f3, f4⟩ := e2 e he
     rw [Nat.zero_add] at f1
     subst f1
     exact ⟨o, f2, by simpa using f3, f4⟩
 · cases h0
namespace Course
variable {ops : Array Oper} {st : Nat → A × Hp} {gs : List (Nat × Hp)}
theorem n_same (c : Course P C mk base ops st gs) : ∀ k, k ≤ ops.size → (st k).1.n = (st 0).1.n
 | 0, _ => rfl
 | k + 1, hk => by
   have ih := n_same c k (by omega)
   obtain ⟨o, ho⟩ : ∃ o, ops[k]? = some o := ⟨ops[k], Array.getElem?_eq_getElem (by omega)⟩
   obtain ⟨v, t⟩ := turned (c.go k o ho).1
   have := c.small
   rw [(A.get_put (by omega) t.put).1, ih]
theorem get_same (c : Course P C mk base ops st gs) {t : Nat} {k : Nat} : ∀ d, k + d ≤ ops.size → (∀ j o, k ≤ j → j < k + d → ops[j]? = some o → o.dst ≠ some t) → (st (k + d)).1.get t = (st k).1.get t
 | 0, _, _ => rfl
 | d + 1, hd, hno => by
   have ih := get_same c (t := t) (k := k) d (by omega) (fun j o h1 h2 => hno j o h1 (by omega))
   obtain ⟨o, ho⟩ : ∃ o, ops[k + d]? = some o := ⟨ops[k + d], Array.getElem?_eq_getElem (by omega)⟩
   obtain ⟨v, tt⟩ := turned (c.go (k + d) o ho).1
   have := c.small
   have hns := c.n_same (k + d) (by omega)
   have e := (A.get_put (by omega) tt.put).2 t
   rw [if_neg (hno _ o (by omega) (by omega) ho)] at e
   rw [← ih, ← e]
   rfl
theorem heap_same (c : Course P C mk base ops st gs) {k : Nat} : ∀ d, k + d ≤ ops.size → (∀ j o, k ≤ j → j < k + d → ops[j]? = some o → isReader2 mk o.op = true) → (st (k + d)).2 = (st k).2
 | 0, _, _ => rfl
 | d + 1, hd, hno => by
   have ih := heap_same c (k := k) d (by omega) (fun j o h1 h2 => hno j o h1 (by omega))
   obtain ⟨o, ho⟩ : ∃ o, ops[k + d]? = some o := ⟨ops[k + d], Array.getElem?_eq_getElem (by omega)⟩
   obtain ⟨v, tt⟩ := turned (c.go (k + d) o ho).1
   have e := tt.heap (hno _ o (by omega) (by omega) ho)
   rw [← ih, ← e]
   rfl
theorem next_effect (_c : Course P C mk base ops st gs) {k : Nat} : ∀ d, k + d = ops.size → ∃ m, k ≤ m ∧ m ≤ ops.size ∧ (m = ops.size ∨ ∃ o, ops[m]? = some o ∧ isReader2 mk o.op = false) ∧
  ∀ j o, k ≤ j → j < m → ops[j]? = some o → isReader2 mk o.op = true
 | 0, hd => ⟨k, Nat.le_refl k, by omega, .inl (by omega), fun j o h1 h2 => by omega⟩
 | d + 1, hd => by
   obtain ⟨o, ho⟩ : ∃ o, ops[k]? = some o := ⟨ops[k], Array.getElem?_eq_getElem (by omega)⟩
   cases hr : isReader2 mk o.op with
   | false => exact ⟨k, Nat.le_refl k, by omega, .inr ⟨o, ho, hr⟩, fun j o h1 h2 => by omega⟩
   | true =>
     obtain ⟨m, m1, m2, m3, m4⟩ := next_effect _c (k := k + 1) d (by omega)
     refine ⟨m, by omega, m2, m3, fun j o' h1 h2 h3 => ?_⟩
     by_cases e : j = k
     · subst e
       rw [ho] at h3
       injection h3 with h3
       subst h3
       exact hr
     · exact m4 j o' (by omega) h2 h3
end Course
structure Stands (mk : Bool) (ops : Array Oper) (st : Nat → A × Hp) (O : Nat → Prop) (b : A) (hp : Hp) : Prop where
 shut : Shut ops O
 inside : ∀ i, O i → i < ops.size
 n : b.n = (st 0).1.n
 get : ∀ t k, k ≤ ops.size → (∀ j o, ops[j]? = some o → o.dst = some t → (j < k ↔ O j)) → b.get t = (st k).1.get t
 heap : ∃ k, k ≤ ops.size ∧ (∀ j o, ops[j]? = some o → isReader2 mk o.op = false → (j < k ↔ O j)) ∧ hp = (st k).2
theorem stands_ready {ops : Array Oper} {st : Nat → A × Hp} {gs : List (Nat × Hp)} (c : Course P C mk base ops st gs) {O O' : Nat → Prop} {b : A} {hp : Hp} (S : Stands mk ops st O b hp) {i : Nat} {o : Oper}
  (ho : ops[i]? = some o) (hi : ¬ O i) (hd : ∀ e ∈ o.after, Region.binds .any e = true → O e.on) (hO : ∀ j, O' j ↔ (j = i ∨ O j)) :
  ∃ b' hp', step2' P C mk ops.toList (base + i) o b hp = some (b', hp') ∧ Stands mk ops st O' b' hp' := by
 have hlt : i < ops.size := (Array.getElem?_eq_some_iff.1 ho).1
 have hpre := preds_in c.ordered S.shut i o ho hd
 have hanti : ∀ j p, ops[j]? = some p → O j → i ∉ predsOf (preds ops.toList) j := by
  intro j p hp hj hc
  exact hi (preds_in c.ordered S.shut j p hp (fun e he hb => S.shut j p hp hj e he hb) i hc)
 have before : ∀ j p, ops[j]? = some p → (∃ d, p.dst = some d ∧ (d ∈ o.looksAt ops ∨ o.dst = some d)) → j ≠ i → (j < i ↔ O j) := by
  intro j p hp ⟨d, hpd, hdd⟩ hne
  constructor
  · intro hji
    rcases c.ordered.pair j i p o hji hp ho with h1 | ⟨_, h1, h2⟩
    · exact hpre j h1
    · have s := Oper.apart_spec h1
      rcases hdd with h3 | h3
      · exact absurd h3 (s.1 d hpd)
      · exact absurd h3 (s.2.1 d hpd)
  · intro hj
    rcases Nat.lt_or_ge j i with h0 | h0
    · exact h0
    · exfalso
      rcases c.ordered.pair i j o p (by omega) ho hp with h1 | ⟨_, h1, h2⟩
      · exact hanti j p hp hj h1
      · have s := Oper.apart_spec h2
        rcases hdd with h3 | h3
        · exact s.1 d hpd h3
        · exact s.2.1 d hpd h3
 have looks : ∀ t ∈ o.looksAt ops, b.get t = (st i).1.get t := by
  intro t ht
  refine S.get t i (by omega) (fun j p hp hpd => ?_)
  by_cases e : j = i
  · subst e
    simp [hi]
  · exact before j p hp ⟨t, hpd, .inl ht⟩ e
 obtain ⟨hstep, hstab⟩ := c.go i o ho
 obtain ⟨v, T⟩ := turned hstep
 have hsmall := c.small
 have hni := c.n_same i (by omega)
 obtain ⟨b', hb'⟩ := A.put_same (b := b) (by rw [S.n, hni]) T.put
 have hbn := A.get_put (by rw [S.n]; exact hsmall) hb'
 have hw : wanted' ops.toList b o = wanted' ops.toList (st i).1 o := wanted_congr looks
 have hev := oper2_congr (P := P) (h := (st i).2) (C := C) (mk := mk) (g := base + i) (ev_congr looks)
 have frame : ∀ t k, k ≤ ops.size → (∀ j p, ops[j]? = some p → p.dst = some t → (j < k ↔ O' j)) → b'.get t = (st k).1.get t := by
  intro t k hk hall
  rw [hbn.2 t]
  by_cases e : o.dst = some t
  · rw [if_pos e]
    have hik : i < k := (hall i o ho e).2 ((hO i).2 (.inl rfl))
    have h1 : (st (i + 1)).1.get t = v := by
     rw [(A.get_put (by omega) T.put).2 t, if_pos e]
    have h2 := c.get_same (t := t) (k := i + 1) (k - (i + 1)) (by omega) (fun j p hj1 hj2 hp hpd => by
     have h3 : O' j := (hall j p hp hpd).1 (by omega)
     have h4 : O j := by
      rcases (hO j).1 h3 with h5 | h5
      · omega
      · exact h5
     have := (before j p hp ⟨t, hpd, .inr e⟩ (by omega)).2 h4
     omega)
    rw [show i + 1 + (k - (i + 1)) = k by omega] at h2
    rw [h2, h1]
  · rw [if_neg e]
    refine S.get t k hk (fun j p hp hpd => ?_)
    have hji : j ≠ i := by
     intro h0
     subst h0
     rw [ho] at hp
     injection hp with hp
     subst hp
     exact e hpd
    rw [hall j p hp hpd, hO]
    simp [hji]
 have shut' : Shut ops O' := by
  intro j p hp hj e he hb
  rw [hO]
  rcases (hO j).1 hj with h1 | h1
  · subst h1
    rw [ho] at hp
    injection hp with hp
    subst hp
    exact .inr (hd e he hb)
  · exact .inr (S.shut j p hp h1 e he hb)
 have inside' : ∀ j, O' j → j < ops.size := by
  intro j hj
  rcases (hO j).1 hj with h1 | h1
  · omega
  · exact S.inside j h1
 obtain ⟨k, hk, heff, hhp⟩ := S.heap
 cases hr : isReader2 mk o.op with
 | true =>
   refine ⟨b', hp, ?_, shut', inside', by rw [hbn.1, S.n], frame, k, hk, ?_, hhp⟩
   · refine Turned.step (v := v) ⟨hb', ?_⟩
     rw [hw]
     rcases T.val with ⟨h1, h2⟩ | ⟨h1, h2, h3⟩
     · refine .inl ⟨h1, ?_⟩
       obtain ⟨u, hu, hst⟩ := hstab hr h1
       have hv := (oper_reader hr h2).1
       rw [hu] at hv
       injection hv with hv
       subst hv
       obtain ⟨m, m1, m2, m3, m4⟩ := c.next_effect (k := k) (ops.size - k) (by omega)
       have hsame := c.heap_same (k := k) (m - k) (by omega) (fun j p hj1 hj2 hp => m4 j p hj1 (by omega) hp)
       rw [show k + (m - k) = m by omega] at hsame
       obtain ⟨l1, l2, e1, e2⟩ := c.heaps m m2 m3
       have hm := stable_spec hst e1 (fun e he => by
         obtain ⟨p, f1, f2, f3⟩ := e2 e he
         have : e.1 < k := by
          rcases Nat.lt_or_ge e.1 k with h0 | h0
          · exact h0
          · have := m4 e.1 p h0 f1 f2
            rw [f3] at this
            cases this
         exact hanti e.1 p f2 ((heff e.1 p f2 f3).1 this))
        (fun hc => by
         have h5 := hpre m hc
         rcases m3 with rfl | ⟨p, hp, hpr⟩
         · exact absurd (S.inside _ h5) (by omega)
         · have := (heff m p hp hpr).2 h5
           omega)
       rw [hhp, ← hsame]
       have hcr := (oper2_congr (P := P) (h := (st m).2) (C := C) (mk := mk) (g := base + i) (ev_congr looks)).1
       unfold oper2'
       rw [hr]
       simp only
       rw [hcr, hm]
       rfl
     · exact .inr ⟨h1, h2, rfl⟩
   · intro j p hp hpr
     rw [heff j p hp hpr, hO]
     constructor
     · exact .inr
     · rintro (h1 | h1)
       · subst h1
         rw [ho] at hp
         injection hp with hp
         subst hp
         rw [hr] at hpr
         cases hpr
       · exact h1
 | false =>
   have hge : k ≤ i := by
    rcases Nat.lt_or_ge i k with h0 | h0
    · exact absurd ((heff i o ho hr).1 h0) hi
    · exact h0
   have hprev : ∀ j p, ops[j]? = some p → isReader2 mk p.op = false → j < i → O j := by
    intro j p hp hpr hji
    rcases c.ordered.pair j i p o hji hp ho with h1 | ⟨h1, _⟩
    · exact hpre j h1
    · rw [hpr, hr] at h1
      cases h1
   have hsame := c.heap_same (k := k) (i - k) (by omega) (fun j p hj1 hj2 hp => by
    cases hpr : isReader2 mk p.op with
    | true => rfl
    | false =>
      have := (heff j p hp hpr).2 (hprev j p hp hpr (by omega))
      omega)
   rw [show k + (i - k) = i by omega] at hsame
   have hhi : hp = (st i).2 := by rw [hhp, hsame]
   refine ⟨b', (st (i + 1)).2, ?_, shut', inside', by rw [hbn.1, S.n], frame, i + 1, by omega, ?_, rfl⟩
   · refine Turned.step (v := v) ⟨hb', ?_⟩
     rw [hw, hhi, hev.2]
     exact T.val
   · intro j p hp hpr
     rw [hO]
     constructor
     · intro h1
       by_cases e : j = i
       · exact .inl e
       · exact .inr (hprev j p hp hpr (by omega))
     · rintro (h1 | h1)
       · omega
       · have := (heff j p hp hpr).2 h1
         omega
def Wait (N : Bs) (mk : Bool) (base : Nat) (ops : Array Oper) (listed : Array Bool) (b : Nat) : Prop :=
 N.g b ∨ (mk = true ∧ ∃ i o, b = base + i ∧ ops[i]? = some o ∧ isMaker o.op = true ∧ listed.getD i false = false)
theorem step2_plain {ops : List Oper} {o : Oper} (ho : isReader o.op = true ∨ isReader2 mk o.op = false) : step2' P C mk ops g o a h = step' P C ops o a h := by
 have : oper2' P C mk g h a o.op = oper' P C h a o.op := by
  unfold oper2' oper'
  rcases ho with h1 | h1
  · have h2 : isReader2 mk o.op = true := by unfold isReader2; rw [h1]
    rw [h2, h1]
    simp only
    unfold reader2'
    rw [h1]
  · rw [h1]
 unfold step2' step'
 rw [this]
theorem laidAs_eq {o o' : CObj} (h : laidAs o o' = true) : o = o' := by
 have vs : ∀ {l m : List Value}, sameVs l m = true → l = m := by
  intro l
  induction l with
  | nil => intro m h; cases m <;> simp [sameVs] at h; rfl
  | cons x l ih =>
    intro m h
    cases m with
    | nil => simp [sameVs] at h
    | cons y m =>
      simp only [sameVs] at h
      split at h
      · rename_i hx
        rw [sameV_eq _ _ _ hx, ih h]
      · cases h
 unfold laidAs at h
 split at h
 · split at h
   · rename_i he
     have := nbeq_true he
     subst this
     rw [vs h]
   · cases h
 · rfl
 · cases h
theorem ghost_wp (W : WfP P) {n : Nat} {G G' : Nat → Prop} (H : HR P ρ ⟨n, G⟩ h w) (A : ActR ρ a act) {ops : Array Oper} {i : Nat} {o : Oper} (ho : ops[i]? = some o) (hr : isReader o.op = false) (hr2 : isReader2 mk o.op = true)
  (hg : G g) (hG : ∀ b, G' b → G b ∧ b ≠ g) {a1 : Ev.A} {h1 : Hp} (hs : step2' P C mk ops.toList g o a h = some (a1, h1))
  {K : Act → World → Prop} {Q : Exit → Act → World → Prop} (hK : ∀ ρ1 w1 act1, ρ.le ρ1 → ActR ρ1 a1 act1 → HR P ρ1 ⟨n, G'⟩ h1 w1 → Below n w w1 → K act1 w1) : wpOp P ops Q i K act w := by
 unfold wpOp
 rw [ho]
 simp only []
 unfold step2' at hs
 rw [wanted_eq A ops o] at hs
 split at hs
 · rename_i hw
   rw [if_pos hw]
   split at hs
   · rename_i v h2 hv
     split at hs
     · rename_i a2 ha
       injection hs with hs
       injection hs with hs1 hs2
       subst hs1; subst hs2
       obtain ⟨hv1, rfl⟩ := oper_reader hr2 hv
       unfold reader2' at hv1
       rw [hr] at hv1
       simp only at hv1
       split at hv1
       · rename_i ob f hm
         split at hv1
         · rename_i ob' hget
           split at hv1
           · rename_i hla
             have := laidAs_eq hla
             subst this
             injection hv1 with hv1
             subst hv1
             obtain ⟨s, e1, o', m, f', r1, r2, r3, r4⟩ := maker_run A o hm
             obtain ⟨k1, k2, k3⟩ := H.ghost hg hget (famFree_eq r4) (o' := o') ⟨w.heap.size, 0, m, 0, true⟩ rfl (fun hle => r2 _ _ hle) hG
             refine .inl ?_
             have hrun : (execOp act.eval o).run P w = .ok (.value (f' w.heap.size)) (w.alloc o') := by
              rw [e1]
              simp [r1]
             unfold Oper.wp
             rw [hrun]
             exact hK _ _ _ k1 ((A.mono k1).put (r3 _ _ _ (by simp [Rho.put])) ha) k2 k3
           · cases hv1
         · cases hv1
       · cases hv1
     · cases hs
   · cases hs
 · rename_i hw
   rw [if_neg (by rw [hw]; simp)]
   split at hs
   · rename_i a2 ha
     injection hs with hs
     injection hs with hs1 hs2
     subst hs1; subst hs2
     exact hK ρ w _ (Rho.le_refl ρ) (A.put (v' := undef) (.tuple .nil) ha) (H.less (fun b hb => (hG b hb).1)) (Below.refl _ _)
   · cases hs
theorem any_wp (W : WfP P) (HC : CallerOk P C) {ops : Array Oper} {st : Nat → A × Hp} {gs : List (Nat × Hp)} (c : Course P C mk base ops st gs) (hN : mk = true → ∀ b, N.g b → b < base) {Q : Exit → Act → World → Prop} :
  ∀ (fuel : Nat) (listed : Array Bool) (b : A) (hp : Hp) (ρ : Rho) (w : World) (act : Act), listed.size = ops.size → cnt (fun i => listed.getD i false) ops.size + fuel = ops.size →
  Stands mk ops st (fun i => listed.getD i false = true) b hp → HR P ρ ⟨N.n, Wait N mk base ops listed⟩ hp w → ActR ρ b act →
  (∀ ρ1 w1 act1, ρ.le ρ1 → ActR ρ1 (st ops.size).1 act1 → HR P ρ1 N (st ops.size).2 w1 → Below N w w1 → Q .normal act1 w1) → wpAny P .any ops Q fuel listed act w := by
 intro fuel
 have fin : ∀ (listed : Array Bool) (b : A) (hp : Hp) (ρ : Rho) (w : World) (act : Act), (∀ i, i < ops.size → listed.getD i false = true) →
   Stands mk ops st (fun i => listed.getD i false = true) b hp → HR P ρ ⟨N.n, Wait N mk base ops listed⟩ hp w → ActR ρ b act →
   (∀ ρ1 w1 act1, ρ.le ρ1 → ActR ρ1 (st ops.size).1 act1 → HR P ρ1 N (st ops.size).2 w1 → Below N w w1 → Q .normal act1 w1) → Q .normal act w := by
  intro listed b hp ρ w act hall S H A hQ
  refine hQ ρ w act (Rho.le_refl ρ) ?_ ?_ (Below.refl _ _)
  · have hsz := c.n_same ops.size (Nat.le_refl _)
    refine ⟨fun t => ?_, ?_, A.defers, ?_⟩
    · rw [← S.get t ops.size (Nat.le_refl _) (fun j o ho _ => ⟨fun h => hall j h, fun h => S.inside j h⟩)]
      exact A.get t
    · rw [A.size, S.n, hsz]
    · rw [hsz]; exact c.small
  · obtain ⟨k, hk, heff, hhp⟩ := S.heap
    have := c.heap_same (k := k) (ops.size - k) (by omega) (fun j p hj1 hj2 hp => by
     cases hpr : isReader2 mk p.op with
     | true => rfl
     | false =>
       have := (heff j p hp hpr).2 (hall j (by omega))
       omega)
    rw [show k + (ops.size - k) = ops.size by omega] at this
    rw [this, ← hhp]
    exact H.less (n := N.n) (g' := N.g) (fun b hb => .inl hb)
 have none_ready : ∀ (listed : Array Bool), listed.size = ops.size → Region.ready .any ops listed = [] → ∀ i, i < ops.size → listed.getD i false = true := by
  intro listed hsz hr i
  induction i using Nat.strongRecOn with
  | _ i ih =>
    intro hi
    cases hl : listed.getD i false with
    | true => rfl
    | false =>
      exfalso
      obtain ⟨o, ho⟩ : ∃ o, ops[i]? = some o := ⟨ops[i], Array.getElem?_eq_getElem hi⟩
      have : i ∈ Region.ready .any ops listed := by
       rw [mem_ready]
       refine ⟨?_, o, ho, fun e he hb => ?_⟩
       · have : i < listed.size := by omega
         simpa [Array.getD, this] using hl
       · have hlt := c.ordered.edge i o ho e he hb
         exact ih e.on hlt (by omega)
      rw [hr] at this
      cases this
 induction fuel with
 | zero =>
   intro listed b hp ρ w act hsz hcnt S H A hQ
   have hall := cnt_all (f := fun i => listed.getD i false) (n := ops.size) (by omega)
   refine ⟨?_, fin listed b hp ρ w act hall S H A hQ⟩
   cases hr : Region.ready .any ops listed with
   | nil => rfl
   | cons i r =>
     have : i ∈ Region.ready .any ops listed := by rw [hr]; simp
     obtain ⟨h1, o, ho, _⟩ := mem_ready.1 this
     have hlt : i < ops.size := (Array.getElem?_eq_some_iff.1 ho).1
     have h2 := hall i hlt
     have : i < listed.size := by omega
     simp [Array.getD, this] at h1 h2
     rw [h1] at h2
     cases h2
 | succ fuel ih =>
   intro listed b hp ρ w act hsz hcnt S H A hQ
   refine ⟨fun hr => fin listed b hp ρ w act (none_ready listed hsz hr) S H A hQ, fun i hi => ?_⟩
   obtain ⟨h1, o, ho, hd⟩ := mem_ready.1 hi
   have hlt : i < ops.size := (Array.getElem?_eq_some_iff.1 ho).1
   have hli : i < listed.size := by omega
   have hOi : listed.getD i false = false := by simpa [Array.getD, hli] using h1
   have hset : ∀ j, (listed.setIfInBounds i true).getD j false = false → listed.getD j false = false ∧ j ≠ i := by
    intro j hj
    by_cases e : i = j
    · subst e
      simp [hli] at hj
    · rw [getD_set_ne false e] at hj
      exact ⟨hj, fun h => e h.symm⟩
   have hless : ∀ d, Wait N mk base ops (listed.setIfInBounds i true) d → Wait N mk base ops listed d := by
    rintro d (hd | ⟨hm, j, p, e1, e2, e3, e4⟩)
    · exact .inl hd
    · exact .inr ⟨hm, j, p, e1, e2, e3, (hset j e4).1⟩
   obtain ⟨b', hp', hstep, S'⟩ := stands_ready c S (O' := fun j => (listed.setIfInBounds i true).getD j false = true) ho (by simp [hOi]) hd (fun j => by
    by_cases e : i = j
    · subst e
      simp [hli]
    · rw [getD_set_ne false e]
      simp [show ¬ j = i from fun h => e h.symm])
   have go : ∀ ρ1 w1 act1, ρ.le ρ1 → ActR ρ1 b' act1 → HR P ρ1 ⟨N.n, Wait N mk base ops (listed.setIfInBounds i true)⟩ hp' w1 → Below N.n w w1 → wpAny P .any ops Q fuel (listed.setIfInBounds i true) act1 w1 := by
    intro ρ1 w1 act1 r1 r2 r3 r4
    refine ih _ b' hp' ρ1 w1 act1 (by simp [hsz]) ?_ S' r3 r2 (fun ρ2 w2 act2 s1 s2 s3 s4 => hQ ρ2 w2 act2 (Rho.le_trans r1 s1) s2 s3 (r4.trans s4))
    rw [cnt_set (f := fun i => listed.getD i false) (i := i) hOi (by simp [hli]) (fun j hj => getD_set_ne false (Ne.symm hj)) hlt]
    omega
   by_cases hpl : isReader o.op = true ∨ isReader2 mk o.op = false
   · rw [step2_plain hpl] at hstep
     exact step_wp W HC H A ho hstep (fun ρ1 w1 act1 r1 r2 r3 r4 => go ρ1 w1 act1 r1 r2 (r3.less hless) r4)
   · rw [not_or] at hpl
     have hr : isReader o.op = false := by simpa using hpl.1
     have hr2 : isReader2 mk o.op = true := by simpa using hpl.2
     have hmk : mk = true ∧ isMaker o.op = true := by
      unfold isReader2 at hr2
      rw [hr] at hr2
      cases mk
      · cases hr2
      · exact ⟨rfl, hr2⟩
     refine ghost_wp W H A ho hr hr2 (.inr ⟨hmk.1, i, o, rfl, ho, hmk.2, hOi⟩) (fun d hd => ⟨hless d hd, fun e => ?_⟩) hstep (fun ρ1 w1 act1 r1 r2 r3 r4 => go ρ1 w1 act1 r1 r2 r3 r4)
     subst e
     rcases hd with hd | ⟨_, j, p, e1, e2, e3, e4⟩
     · have := hN hmk.1 _ hd
       omega
     · exact (hset j e4).2 (by omega)
theorem drawn_wp (W : WfP P) (HC : CallerOk P C) {ops : Array Oper} {id : Nat} {a1 : A} {h1 : Hp} (hord : orderOk mk ops.toList = true) (hN : mk = true → ∀ b, N.g b → b < base)
  (H : HR P ρ ⟨N.n, Wait N mk base ops (Array.replicate ops.size false)⟩ h w) (A : ActR ρ a act) (h0 : drawn P C mk base ops.toList a h = some (a1, h1)) {Q : Exit → Act → World → Prop}
  (hQ : ∀ ρ1 w1 act1, ρ.le ρ1 → ActR ρ1 a1 act1 → HR P ρ1 N h1 w1 → Below N w w1 → Q .normal act1 w1) : (Code.region id ops true).wp P Q act w := by
 obtain ⟨st, gs, c, s0, s1⟩ := course_of A.n hord h0
 refine wp_region_any W.mixed ?_
 refine any_wp (N := N) W HC c hN ops.size _ a h ρ _ act (by simp) ?_ ?_ (H.drewn _) A (fun ρ1 w1 act1 r1 r2 r3 r4 => hQ ρ1 w1 act1 r1 (by rw [s1] at r2; exact r2) (by rw [s1] at r3; exact r3) ((Below.refl N.n w).drew.trans r4))
 · have : cnt (fun i => (Array.replicate ops.size false).getD i false) ops.size = cnt (fun _ => false) ops.size := cnt_same (fun j hj => by simp [hj])
   rw [this]
   have h0 : ∀ n, cnt (fun _ => false) n = 0 := by
    intro n
    induction n with
    | zero => rfl
    | succ n ih => simp [cnt, ih]
   rw [h0]
   omega
 · have nope : ∀ j, ¬ (Array.replicate ops.size false).getD j false = true := by
    intro j
    by_cases hj : j < ops.size <;> simp [Array.getD, hj]
   refine ⟨fun i o _ hi => absurd hi (nope i), fun i hi => absurd hi (nope i), by rw [s0], fun t k hk hall => ?_, 0, by omega, fun j o _ _ => ⟨fun h => by omega, fun h => absurd h (nope j)⟩, by rw [s0]⟩
   have := c.get_same (t := t) (k := 0) k (by omega) (fun j o _ hj ho hod => nope j ((hall j o ho hod).1 (by omega)))
   rw [Nat.zero_add, s0] at this
   exact this.symm
theorem draw_wp (W : WfP P) (HC : CallerOk P C) {ops : Array Oper} {id : Nat} {a1 : A} {h1 : Hp} (H : HR P ρ N h w) (A : ActR ρ a act) (h0 : draw' P C ops.toList a h = some (a1, h1)) {Q : Exit → Act → World → Prop}
  (hQ : ∀ ρ1 w1 act1, ρ.le ρ1 → ActR ρ1 a1 act1 → HR P ρ1 N h1 w1 → Below N w w1 → Q .normal act1 w1) : (Code.region id ops true).wp P Q act w := by
 unfold draw' at h0
 split at h0
 · rename_i hord
   refine drawn_wp (mk := false) (N := N) W HC hord (fun e => by cases e) (H.less (n := N.n) (g := N.g) (fun b hb => ?_)) A h0 hQ
   rcases hb with hb | ⟨e, _⟩
   · exact hb
   · cases e
 · split at h0
   · rename_i hord hble
     have hk : h.next + ops.size ≤ most := by simpa using hble
     have H1 := HR.room (n := N.n) (g := N.g) H ops.size hk
     have H2 := layAll_HR (base := h.next) (k := ops.size) (fun i hi => .inr ⟨by omega, by omega⟩) (guess P C (makersWait ops.toList (preds ops.toList)) h.next ops.toList 0 ops.toList a { h with next := h.next + ops.size }) _ H1 hk (fun i hi r hr => by
      have := H.cover _ _ hr
      omega)
     refine drawn_wp (mk := true) (base := h.next) (N := N) W HC hord (fun _ b hb => (H.gho b hb).2) (H2.less (fun b hb => ?_)) A (by simpa using h0) hQ
     rcases hb with hb | ⟨_, i, o, e1, e2, _, _⟩
     · exact .inl hb
     · have : i < ops.size := (Array.getElem?_eq_some_iff.1 e2).1
       exact .inr ⟨by omega, by omega⟩
   · cases h0
end Go.Ev
namespace Go.Ev
open Go.RowKit
variable {P : Program} {ρ : Rho} {N : Bs} {h : Hp} {w : World} {a : A} {act : Act} {C : Caller}
def Ex.to : Ex → Exit
 | .normal => .normal
 | .exit id => .exit id
 | .ret => .ret
theorem code_both (W : WfP P) (HC : CallerOk P C) : ∀ (n : Nat),
  (∀ (c : Code) (ρ : Rho) (h : Hp) (w : World) (a : Ev.A) (act : Act) (e : Ex) (a1 : Ev.A) (h1 : Hp), HR P ρ N h w → ActR ρ a act → code' P C n c a h = some (e, a1, h1) →
   ∀ Q : Exit → Act → World → Prop, (∀ ρ1 w1 act1, ρ.le ρ1 → ActR ρ1 a1 act1 → HR P ρ1 N h1 w1 → Below N w w1 → Q e.to act1 w1) → c.wp P Q act w) ∧
  (∀ (c : Code) (ρ : Rho) (h : Hp) (w : World) (a : Ev.A) (act : Act) (e : Ex) (a1 : Ev.A) (h1 : Hp), HR P ρ N h w → ActR ρ a act → code' P C n (.loop c) a h = some (e, a1, h1) →
   ∀ Q : Exit → Act → World → Prop, (∀ ρ1 w1 act1, ρ.le ρ1 → ActR ρ1 a1 act1 → HR P ρ1 N h1 w1 → Below N w w1 → Q e.to act1 w1) → Code.rounds P c Q n act w) := by
 intro n
 induction n with
 | zero =>
   refine ⟨?_, ?_⟩ <;> intro c ρ h w a act e a1 h1 H A hc <;> simp [code'] at hc
 | succ n ih =>
   have L : ∀ (c : Code) (ρ : Rho) (h : Hp) (w : World) (a : Ev.A) (act : Act) (e : Ex) (a1 : Ev.A) (h1 : Hp), HR P ρ N h w → ActR ρ a act → code' P C (n + 1) (.loop c) a h = some (e, a1, h1) →
     ∀ Q : Exit → Act → World → Prop, (∀ ρ1 w1 act1, ρ.le ρ1 → ActR ρ1 a1 act1 → HR P ρ1 N h1 w1 → Below N w w1 → Q e.to act1 w1) → Code.rounds P c Q (n + 1) act w := by
    intro c ρ h w a act e a1 h1 H A hc Q hQ
    rw [rounds_succ]
    simp only [code'] at hc
    split at hc
    · rename_i a2 h2 hb
      refine ih.1 c ρ h w a act .normal a2 h2 H A hb _ (fun ρ1 w1 act1 r1 r2 r3 r4 => ?_)
      exact ih.2 c ρ1 h2 w1 a2 act1 e a1 h1 r3 r2 hc Q (fun ρ2 w2 act2 s1 s2 s3 s4 => hQ ρ2 w2 act2 (Rho.le_trans r1 s1) s2 s3 (r4.trans s4))
    · rename_i hne
      refine ih.1 c ρ h w a act e a1 h1 H A hc _ (fun ρ1 w1 act1 r1 r2 r3 r4 => ?_)
      cases e with
      | normal => exact absurd hc (hne a1 h1)
      | exit id => exact hQ ρ1 w1 act1 r1 r2 r3 r4
      | ret => exact hQ ρ1 w1 act1 r1 r2 r3 r4
   refine ⟨?_, L⟩
   intro c ρ h w a act e a1 h1 H A hc Q hQ
   cases c with
   | skip =>
     simp only [code', Option.some.injEq, Prod.mk.injEq] at hc
     obtain ⟨rfl, rfl, rfl⟩ := hc
     exact wp_skip (hQ ρ w act (Rho.le_refl ρ) A H (Below.refl _ _))
   | label l =>
     simp only [code', Option.some.injEq, Prod.mk.injEq] at hc
     obtain ⟨rfl, rfl, rfl⟩ := hc
     exact wp_label (hQ ρ w act (Rho.le_refl ρ) A H (Below.refl _ _))
   | region id ops d =>
     cases d with
     | false =>
       simp only [code'] at hc
       split at hc
       · rename_i a2 h2 hs
         simp only [Option.some.injEq, Prod.mk.injEq] at hc
         obtain ⟨rfl, rfl, rfl⟩ := hc
         refine wp_region ?_
         have := ops_wp (N := N) W HC (ops := ops) (Q := Q) ops.toList [] (by simp) H A hs (fun ρ1 w1 act1 r1 r2 r3 r4 => hQ ρ1 w1 act1 r1 r2 r3 r4)
         simpa [List.range_eq_range'] using this
       · cases hc
     | true =>
       simp only [code'] at hc
       split at hc
       · rename_i a2 h2 hs
         simp only [Option.some.injEq, Prod.mk.injEq] at hc
         obtain ⟨rfl, rfl, rfl⟩ := hc
         exact draw_wp W HC H A hs (fun ρ1 w1 act1 r1 r2 r3 r4 => hQ ρ1 w1 act1 r1 r2 r3 r4)
       · cases hc
   | seq x y =>
     simp only [code'] at hc
     refine wp_seq ?_
     split at hc
     · rename_i a2 h2 hb
       refine ih.1 x ρ h w a act .normal a2 h2 H A hb _ (fun ρ1 w1 act1 r1 r2 r3 r4 => ?_)
       exact ih.1 y ρ1 h2 w1 a2 act1 e a1 h1 r3 r2 hc Q (fun ρ2 w2 act2 s1 s2 s3 s4 => hQ ρ2 w2 act2 (Rho.le_trans r1 s1) s2 s3 (r4.trans s4))
     · rename_i hne
       refine ih.1 x ρ h w a act e a1 h1 H A hc _ (fun ρ1 w1 act1 r1 r2 r3 r4 => ?_)
       cases e with
       | normal => exact absurd hc (hne a1 h1)
       | exit id => exact hQ ρ1 w1 act1 r1 r2 r3 r4
       | ret => exact hQ ρ1 w1 act1 r1 r2 r3 r4
   | cond x t f =>
     simp only [code'] at hc
     split at hc
     · rename_i hx
       have hv := A.ev hx
       generalize hcv : act.eval x = cv at hv
       cases hv with
       | bool b => exact wp_cond_true hcv (ih.1 t ρ h w a act e a1 h1 H A hc Q hQ)
     · rename_i hx
       have hv := A.ev hx
       generalize hcv : act.eval x = cv at hv
       cases hv with
       | bool b => exact wp_cond_false hcv (ih.1 f ρ h w a act e a1 h1 H A hc Q hQ)
     · cases hc
   | block id b =>
     simp only [code'] at hc
     refine wp_block ?_
     split at hc
     · rename_i j a2 h2 hb
       refine ih.1 b ρ h w a act (.exit j) a2 h2 H A hb _ (fun ρ1 w1 act1 r1 r2 r3 r4 => ?_)
       split at hc
       · rename_i hj
         have hj := nbeq_true hj
         simp only [Option.some.injEq, Prod.mk.injEq] at hc
         obtain ⟨rfl, rfl, rfl⟩ := hc
         simp only [Ex.to, Exit.inBlock, hj, if_true]
         exact hQ ρ1 w1 act1 r1 r2 r3 r4
       · rename_i hj
         have hj' : j ≠ id := by
          intro e
          subst e
          simp at hj
         simp only [Option.some.injEq, Prod.mk.injEq] at hc
         obtain ⟨rfl, rfl, rfl⟩ := hc
         simp only [Ex.to, Exit.inBlock, hj', if_false]
         exact hQ ρ1 w1 act1 r1 r2 r3 r4
     · rename_i hne
       refine ih.1 b ρ h w a act e a1 h1 H A hc _ (fun ρ1 w1 act1 r1 r2 r3 r4 => ?_)
       cases e with
       | normal => exact hQ ρ1 w1 act1 r1 r2 r3 r4
       | exit id => exact absurd hc (hne id a1 h1)
       | ret => exact hQ ρ1 w1 act1 r1 r2 r3 r4
   | loop b => exact wp_loop_rounds (n + 1) (L b ρ h w a act e a1 h1 H A hc Q hQ)
   | scope b =>
     simp only [code'] at hc
     refine wp_scope_straight ?_
     refine ih.1 b ρ h w a act e a1 h1 H A hc _ (fun ρ1 w1 act1 r1 r2 r3 r4 => ?_)
     cases e with
     | normal => exact hQ ρ1 w1 act1 r1 r2 r3 r4
     | exit id => exact hQ ρ1 w1 act1 r1 r2 r3 r4
     | ret => exact hQ ρ1 w1 act1 r1 r2 r3 r4
   | exit id =>
     simp only [code', Option.some.injEq, Prod.mk.injEq] at hc
     obtain ⟨rfl, rfl, rfl⟩ := hc
     exact wp_exit (hQ ρ w act (Rho.le_refl ρ) A H (Below.refl _ _))
   | ret =>
     simp only [code', Option.some.injEq, Prod.mk.injEq] at hc
     obtain ⟨rfl, rfl, rfl⟩ := hc
     exact wp_ret (hQ ρ w act (Rho.le_refl ρ) A H (Below.refl _ _))
   | _ => simp [code'] at hc
theorem argsOf_get {ρ : Rho} : ∀ {l l' : List Value} (i : Nat) (t : Tr Value), VRs ρ l l' → i + l.length < most → ∀ k,
  (i ≤ k → k < i + l.length → ∃ v v', (argsOf l i t).get k = some v ∧ l'[k - i]? = some v' ∧ VR ρ v v') ∧ (k < i ∨ i + l.length ≤ k → (argsOf l i t).get k = t.get k)
 | [], _, i, t, .nil, hi, k => by
   refine ⟨fun h1 h2 => by simp at h2; omega, fun _ => rfl⟩
 | v :: l, _, i, t, .cons (v' := v') (l' := l') hv hl, hi, k => by
   simp only [List.length_cons] at hi
   have rec' := argsOf_get (i + 1) (Tr.set depth t i v) hl (by omega) k
   simp only [argsOf]
   constructor
   · intro h1 h2
     simp only [List.length_cons] at h2
     by_cases e : k = i
     · subst e
       rw [rec'.2 (.inl (by omega)), Tr.get_set' _ _ _ _ (by omega)]
       exact ⟨v, v', by simp, by simp, hv⟩
     · obtain ⟨u, u', r1, r2, r3⟩ := rec'.1 (by omega) (by omega)
       refine ⟨u, u', r1, ?_, r3⟩
       rw [show k - i = (k - (i + 1)) + 1 by omega, List.getElem?_cons_succ]
       exact r2
   · intro h0
     simp only [List.length_cons] at h0
     rw [rec'.2 (by omega), Tr.get_set' _ _ _ _ (by omega), if_neg (by omega)]
theorem act_enter {ρ : Rho} {args args' : List Value} {n : Nat} (hA : VRs ρ args args') (h1 : args.length ≤ n) (h2 : n < most) :
  ActR ρ ⟨argsOf args 0 .lf, n⟩ { tmps := args'.toArray ++ Array.replicate (n - args'.toArray.size) undef, defers := [] } := by
 have hl := hA.length
 refine ⟨fun t => ?_, by simp; omega, rfl, h2⟩
 have := argsOf_get 0 (.lf : Tr Value) hA (by omega) t
 simp only [A.get, Nat.zero_add] at this ⊢
 by_cases ht : t < args.length
 · obtain ⟨v, v', r1, r2, r3⟩ := this.1 (by omega) ht
   rw [r1]
   simp only [Nat.sub_zero] at r2
   have ht' : t < args'.length := by omega
   have : (args'.toArray ++ Array.replicate (n - args'.toArray.size) undef).getD t undef = v' := by
    rw [Array.getD_eq_getD_getElem?, Array.getElem?_append_left (by simpa using ht')]
    simp [r2]
   rw [this]
   exact r3
 · rw [this.2 (.inr (by omega)), Tr.get_lf]
   have : (args'.toArray ++ Array.replicate (n - args'.toArray.size) undef).getD t undef = undef := by
    rw [Array.getD_eq_getD_getElem?, Array.getElem?_append_right (by simp; omega)]
    rw [Array.getElem?_replicate]
    split <;> rfl
   rw [this]
   exact .tuple .nil
theorem result_run (H : HR P ρ N h w) (A : ActR ρ a act) {r : ResultVar} {v : Value} (hv : result' P h a r = some v) :
  ∃ v', ((match r with | .tmp t => pure (act.tmps.getD t undef) | .cell a t => do loadVar t (← asAddr (act.tmps.getD a undef)) : Sem Value)).run P w = .ok v' w ∧ VR ρ v v' := by
 cases r with
 | tmp t =>
   simp only [result', Option.some.injEq] at hv
   subst hv
   exact ⟨_, by simp, A.get t⟩
 | cell t ty =>
   simp only [result'] at hv
   split at hv
   · rename_i p hp
     have := A.get t
     rw [hp] at this
     generalize hcv : act.tmps.getD t undef = cv at this
     cases this with
     | ptr ha =>
       obtain ⟨v', h1, h2⟩ := loadVar_run H ha hv
       refine ⟨v', ?_, h2⟩
       simp only [hcv]
       simp [asAddr, h1]
   · cases hv
theorem results_run (H : HR P ρ N h w) (A : ActR ρ a act) : ∀ {l : List ResultVar} {vs : List Value}, results' P h a l = some vs →
  ∃ vs', (l.mapM (fun | .tmp t => pure (act.tmps.getD t undef) | .cell a t => do loadVar t (← asAddr (act.tmps.getD a undef)) : ResultVar → Sem Value)).run P w = .ok vs' w ∧ VRs ρ vs vs'
 | [], vs, hv => by
   simp only [results', Option.some.injEq] at hv
   subst hv
   exact ⟨[], by simp, .nil⟩
 | r :: l, vs, hv => by
   simp only [results'] at hv
   split at hv
   · rename_i v r' hv1 hr
     injection hv with hv
     subst hv
     obtain ⟨v', e1, e2⟩ := result_run H A hv1
     obtain ⟨vs', f1, f2⟩ := results_run H A hr
     refine ⟨v' :: vs', ?_, .cons e2 f2⟩
     rw [List.mapM_cons]
     simp only [Sem.run_bind]
     erw [e1]
     simp only [Result.andThen_ok]
     erw [f1]
     simp
   · cases hv
theorem call_ok (W : WfP P) : ∀ n, CallerOk P (call' P n)
 | 0 => by intro f args h v h1 hv; simp [call'] at hv
 | n + 1 => by
   intro f args h v h1 hv
   simp only [call'] at hv
   split at hv
   · cases hv
   · rename_i fn hf
     split at hv
     · cases hv
     · rename_i c hb
       split at hv
       · rename_i hlen hmost hname
         refine ⟨⟨fn, c, hf, hb, hname⟩, ?_⟩
         intro ρ N w args' H hA
         have h1' : args.length ≤ fn.ntmps := by simpa using hlen
         have h2' : fn.ntmps < most := by simpa [Nat.blt_eq] using hmost
         have A := act_enter hA h1' h2'
         refine calls_of_wp hf hb ?_
         have fin : ∀ (e : Ex) (a1 : Ev.A) (h2 : Hp), code' P (call' P n) 20000 c ⟨argsOf args 0 .lf, fn.ntmps⟩ h = some (e, a1, h2) → (e.to = .normal ∨ e.to = .ret) →
           (match results' P h2 a1 fn.results.toList with | some [v] => some (v, h2) | some vs => some (.tuple vs.toArray, h2) | none => none) = some (v, h1) →
           c.wp P (bodyPost P fn fun e w1 => ∃ ρ1 v', e = .returned v' ∧ ρ.le ρ1 ∧ HR P ρ1 N h1 w1 ∧ VR ρ1 v v' ∧ Below N w w1) { tmps := args'.toArray ++ Array.replicate (fn.ntmps - args'.toArray.size) undef, defers := [] } w := by
          intro e a1 h2 hc he hr
          refine (code_both (N := N) W (call_ok W n) 20000).1 c ρ h w _ _ e a1 h2 H A hc _ (fun ρ1 w1 act1 r1 r2 r3 r4 => ?_)
          have key : act1.defers = [] ∧ ∃ v', (results fn act1.tmps).run P w1 = .ok v' w1 ∧ ∃ ρ1 v'', Ending.returned v' = .returned v'' ∧ ρ.le ρ1 ∧ HR P ρ1 N h1 w1 ∧ VR ρ1 v v'' ∧ Below N w w1 := by
           refine ⟨r2.defers, ?_⟩
           cases hrs : results' P h2 a1 fn.results.toList with
           | none => rw [hrs] at hr; cases hr
           | some vs =>
             rw [hrs] at hr
             obtain ⟨vs', f1, f2⟩ := results_run r3 r2 hrs
             have hl := f2.length
             have harr : ((fn.results.mapM (fun | .tmp t => pure (act1.tmps.getD t undef) | .cell a t => do loadVar t (← asAddr (act1.tmps.getD a undef)) : ResultVar → Sem Value))).run P w1 = .ok vs'.toArray w1 := by
              rw [Array.mapM_eq_mapM_toList, Sem.run_map]
              erw [f1]
              rfl
             unfold results
             simp only [Sem.run_bind]
             erw [harr]
             simp only [Result.andThen_ok]
             cases f2 with
             | nil =>
               simp only [Option.some.injEq, Prod.mk.injEq] at hr
               obtain ⟨rfl, rfl⟩ := hr
               exact ⟨_, by simp, ρ1, _, rfl, r1, r3, .tuple .nil, r4⟩
             | @cons u u' l l' hu hl2 =>
               cases hl2 with
               | nil =>
                 simp only [Option.some.injEq, Prod.mk.injEq] at hr
                 obtain ⟨rfl, rfl⟩ := hr
                 exact ⟨_, by simp, ρ1, _, rfl, r1, r3, hu, r4⟩
               | @cons u2 u2' l2 l2' hu2 hl3 =>
                 simp only [Option.some.injEq, Prod.mk.injEq] at hr
                 obtain ⟨rfl, rfl⟩ := hr
                 exact ⟨.tuple (u' :: u2' :: l2').toArray, by simp, ρ1, _, rfl, r1, r3, .tuple (.cons hu (.cons hu2 hl3)), r4⟩
          rcases he with he | he <;> rw [he] <;> exact key
         split at hv
         · cases hv
         · rename_i e a1 h2 hne hc
           cases e with
           | normal => exact fin .normal a1 h2 hc (.inl rfl) hv
           | exit id => first | exact absurd rfl (hne id) | exact (hne id rfl).elim
           | ret => exact fin .ret a1 h2 hc (.inr rfl) hv
         · cases hv
       · cases hv
theorem HR.start (P : Program) (w : World) : HR P (fun _ => none) ⟨w.heap.size, fun _ => False⟩ Hp.nil w := by
 refine ⟨?_, ?_, ?_, ?_, ?_, ?_, ?_, ?_, ?_, ?_, Nat.le_refl _, fun _ hb => hb.elim⟩ <;> simp [Hp.nil, Tr.get_lf, most]
theorem closed_call (W : WfP P) {n : Nat} {f : FuncId} {b : Bool} {h1 : Hp} (hc : call' P n f [] Hp.nil = some (.bool b, h1)) (w : World) :
  Calls P f #[] w fun e w1 => e = .returned (.bool b) ∧ Below w.heap.size w w1 := by
 refine ((call_ok W n f [] Hp.nil _ h1 hc).2 (fun _ => none) ⟨w.heap.size, fun _ => False⟩ w [] (HR.start P w) .nil).mono ?_
 rintro e w1 ⟨ρ1, v', rfl, _, _, r3, r4⟩
 cases r3
 exact ⟨rfl, r4⟩
def truly (P : Program) (n : Nat) (f : FuncId) : Bool := match call' P n f [] Hp.nil with
 | some (.bool true, _) => true
 | _ => false
theorem closed_true (W : WfP P) {n : Nat} {f : FuncId} (hc : truly P n f = true) (w : World) :
  Calls P f #[] w fun e w1 => e = .returned (.bool true) ∧ Below w.heap.size w w1 := by
 unfold truly at hc
 split at hc
 · rename_i h1 hh
   exact closed_call W hh w
 · cases hc
end Go.Ev
namespace Go.Ev
theorem wfp_of {P : Program} (h0 : P.follows .mixedOrders = true) : WfP P := ⟨h0⟩
end Go.Ev
end
section
namespace Go.Proofs.Ytcnllhnhinmokaa
open Go.Ev Go.RowKit
theorem follows : Try.prog.follows .mixedOrders = true := by kernel_rfl
theorem awake_run : truly Try.prog 60 12 = true := by kernel_rfl
def manystrandlaw24_awake.f : Option Bool := some true
theorem manystrandlaw24_awake.calls (r : Bool) (w : World) (h : manystrandlaw24_awake.f = some r) :
  Calls Try.prog 12 #[] w fun e w' => e = .returned (.bool r) ∧ Below w.heap.size w w' := by
 unfold manystrandlaw24_awake.f at h
 injection h with h
 subst h
 exact closed_true (wfp_of follows) awake_run w
end Go.Proofs.Ytcnllhnhinmokaa
end
section
namespace Go.Proofs.Ytcnllhnhinmokaa.PHGr
open Go.RowKit Go.Proofs.YtcnllhnhinmokaaW.PrintWords Go.Proofs.YtcnllhnhinmokaaW.PrintLast Go.Proofs.YtcnllhnhinmokaaW.PrintMore
attribute [local go_sem] max2_int min2_int max_two min_two max_three min_three max_four min_four
set_option linter.unusedVariables false
set_option linter.unusedSimpArgs false
theorem info5 : (Try.prog.info? 5).map (fun i => (i.zero, i.size, i.bytes)) = some (some (.int .u8 0), 1, 1) := by kernel_rfl
theorem info52 : (Try.prog.info? 52).map (fun i => (i.zero, i.size, i.bytes)) = some (some (.agg #[(.string ⟨#[]⟩), (.string ⟨#[]⟩), (.slice none 0 0)]), 3, 56) := by kernel_rfl
structure S52 where
 f0 : ByteArray
 f1 : ByteArray
 f2 : (List S52)
def z52 : S52 := ⟨(⟨#[]⟩ : ByteArray), (⟨#[]⟩ : ByteArray), ([] : List S52)⟩
def F52 (d : Kd S52) : Kd S52 := Kd.iso (Kd.pair Kd.string (Kd.pair Kd.string (Kd.slice 52 d))) (fun x : S52 => (x.f0, x.f1, x.f2))
theorem mono52 : Kd.Mono F52 := Kd.mono_iso _ (Kd.mono_pair (Kd.mono_const _) (Kd.mono_pair (Kd.mono_const _) (Kd.mono_slice 52 Kd.mono_id)))
theorem sub52 : Kd.Sub F52 [52] := Kd.sub_iso _ (Kd.sub_pair (Kd.sub_const _ (by decide)) (Kd.sub_pair (Kd.sub_const _ (by decide)) (Kd.sub_slice 52 (by decide) Kd.sub_id)))
theorem sz52 : ∀ n, (Kd.upto F52 3 [52] n).sz = 3 := Kd.upto_sz (fun _ => rfl)
def k52 : Kd S52 := Kd.fix F52 3 [52] sz52 (Kd.upto_E sub52)
theorem k52_open {w : World} {x : S52} {cs : List Value} (h : k52.K w x cs) : ∃ A2 c2, cs = [.string x.f0, .string x.f1, .slice A2 x.f2.length c2] ∧ x.f2.length ≤ c2 ∧ k52.C w A2 x.f2.length x.f2 := by
 obtain ⟨n, h⟩ := h
 cases n with
 | zero => exact h.elim
 | succ n =>
  obtain ⟨_, _, rfl, rfl, ⟨_, _, rfl, rfl, ⟨A2, c2, rfl, l2, g2⟩⟩⟩ := h
  exact ⟨A2, c2, rfl, l2, Kd.fix_C g2⟩
theorem k52_mk (w : World) (x : S52) {A2 : Option Addr} {c2 : Nat} (l2 : x.f2.length ≤ c2) (g2 : k52.C w A2 x.f2.length x.f2) : k52.K w x [.string x.f0, .string x.f1, .slice A2 x.f2.length c2] := by
 obtain ⟨n2, q2⟩ := Kd.fix_C_back mono52 g2
 have r2 := Kd.upto_C_le mono52 sz52 (show n2 ≤ n2 by omega) q2
 exact ⟨n2 + 1, ⟨[.string x.f0], [.string x.f1, .slice A2 x.f2.length c2], rfl, rfl, ⟨[.string x.f1], [.slice A2 x.f2.length c2], rfl, rfl, ⟨A2, c2, rfl, l2, r2⟩⟩⟩⟩
theorem k52_mkF (W : World) (ok : Nat → Prop) (x : S52) {A2 : Option Addr} {c2 : Nat} (l2 : x.f2.length ≤ c2) (g2 : Kd.F k52 W ok A2 x.f2.length x.f2) : Kd.FK k52 W ok x [.string x.f0, .string x.f1, .slice A2 x.f2.length c2] := fun W2 hW => k52_mk W2 x l2 (g2 W2 hW)
def rd_T52 (xs : List S52) (i : Int) : S52 := xs.getD i.toNat z52
theorem at_T52 {w : World} {A : Option Addr} {n : Nat} {xs : List S52} (h : Kd.C k52 w A n xs) (i : Int) (h0 : 0 ≤ i) (h1 : i < n) : ∃ ad A2 c2, A = some ad ∧ w.cell? (ad.add (i.toNat * 3)) = some (.string (rd_T52 xs i).f0) ∧ w.cell? ⟨(ad.add (i.toNat * 3)).block, (ad.add (i.toNat * 3)).off + 1, none⟩ = some (.string (rd_T52 xs i).f1) ∧ w.cell? ⟨(ad.add (i.toNat * 3)).block, (ad.add (i.toNat * 3)).off + 2, none⟩ = some (.slice A2 (rd_T52 xs i).f2.length c2) ∧ (rd_T52 xs i).f2.length ≤ c2 ∧ k52.C w A2 (rd_T52 xs i).f2.length (rd_T52 xs i).f2 := by
 obtain ⟨ad, c, e, _, hK, hc0⟩ := Kd.C_get h z52 i h0 h1
 have hc : ∀ j u, c[j]? = some u → w.cell? (ad.add (i.toNat * 3 + j)) = some u := hc0
 obtain ⟨A2, c2, rfl, l2, g2⟩ := k52_open hK
 exact ⟨ad, A2, c2, e, hc 0 _ rfl, by rw [← add_field _ _ 1 (by omega)]; exact hc 1 _ rfl, by rw [← add_field _ _ 2 (by omega)]; exact hc 2 _ rfl, l2, g2⟩
structure S54 where
 f0 : ByteArray
 f1 : S52
def z54 : S54 := ⟨(⟨#[]⟩ : ByteArray), z52⟩
def k54 : Kd S54 := Kd.iso (Kd.pair Kd.string k52) (fun x : S54 => (x.f0, x.f1))
theorem k54_open {w : World} {x : S54} {cs : List Value} (h : k54.K w x cs) : ∃ A3 c3, cs = [.string x.f0, .string x.f1.f0, .string x.f1.f1, .slice A3 x.f1.f2.length c3] ∧ x.f1.f2.length ≤ c3 ∧ k52.C w A3 x.f1.f2.length x.f1.f2 := by
 obtain ⟨_, _, rfl, rfl, s1⟩ := h
 obtain ⟨A3, c3, rfl, l3, g3⟩ := k52_open s1
 exact ⟨A3, c3, rfl, l3, g3⟩
theorem k54_mk (w : World) (x : S54) {A3 : Option Addr} {c3 : Nat} (l3 : x.f1.f2.length ≤ c3) (g3 : k52.C w A3 x.f1.f2.length x.f1.f2) : k54.K w x [.string x.f0, .string x.f1.f0, .string x.f1.f1, .slice A3 x.f1.f2.length c3] := ⟨[.string x.f0], [.string x.f1.f0, .string x.f1.f1, .slice A3 x.f1.f2.length c3], rfl, rfl, (k52_mk w x.f1 l3 g3)⟩
theorem k54_mkF (W : World) (ok : Nat → Prop) (x : S54) {A3 : Option Addr} {c3 : Nat} (l3 : x.f1.f2.length ≤ c3) (g3 : Kd.F k52 W ok A3 x.f1.f2.length x.f1.f2) : Kd.FK k54 W ok x [.string x.f0, .string x.f1.f0, .string x.f1.f1, .slice A3 x.f1.f2.length c3] := fun W2 hW => k54_mk W2 x l3 (g3 W2 hW)
def rd_T54 (xs : List S54) (i : Int) : S54 := xs.getD i.toNat z54
theorem at_T54 {w : World} {A : Option Addr} {n : Nat} {xs : List S54} (h : Kd.C k54 w A n xs) (i : Int) (h0 : 0 ≤ i) (h1 : i < n) : ∃ ad A3 c3, A = some ad ∧ w.cell? (ad.add (i.toNat * 4)) = some (.string (rd_T54 xs i).f0) ∧ w.cell? ⟨(ad.add (i.toNat * 4)).block, (ad.add (i.toNat * 4)).off + 1, none⟩ = some (.string (rd_T54 xs i).f1.f0) ∧ w.cell? ⟨(ad.add (i.toNat * 4)).block, (ad.add (i.toNat * 4)).off + 2, none⟩ = some (.string (rd_T54 xs i).f1.f1) ∧ w.cell? ⟨(ad.add (i.toNat * 4)).block, (ad.add (i.toNat * 4)).off + 3, none⟩ = some (.slice A3 (rd_T54 xs i).f1.f2.length c3) ∧ (rd_T54 xs i).f1.f2.length ≤ c3 ∧ k52.C w A3 (rd_T54 xs i).f1.f2.length (rd_T54 xs i).f1.f2 := by
 obtain ⟨ad, c, e, _, hK, hc0⟩ := Kd.C_get h z54 i h0 h1
 have hc : ∀ j u, c[j]? = some u → w.cell? (ad.add (i.toNat * 4 + j)) = some u := hc0
 obtain ⟨A3, c3, rfl, l3, g3⟩ := k54_open hK
 exact ⟨ad, A3, c3, e, hc 0 _ rfl, by rw [← add_field _ _ 1 (by omega)]; exact hc 1 _ rfl, by rw [← add_field _ _ 2 (by omega)]; exact hc 2 _ rfl, by rw [← add_field _ _ 3 (by omega)]; exact hc 3 _ rfl, l3, g3⟩
theorem gd {α : Type} {p : Prop} [Decidable p] {x : Option α} {r : α} (h : (if p then x else none) = some r) : p ∧ x = some r := by
 by_cases c : p
 rotate_left
 · rw [if_neg c] at h; cases h
 rw [if_pos c] at h; exact ⟨c, h⟩
theorem ct {w W : World} (h : Below w.heap.size w W) {a : Addr} {v : Value} (e : w.cell? a = some v) : W.cell? a = some v := (h.cell (World.block_lt_of_cell? w _ e)).trans e
abbrev T : Bool := true
abbrev F : Bool := false
end Go.Proofs.Ytcnllhnhinmokaa.PHGr
end
section
namespace Go.Proofs.Ytcnllhnhinmokaa.PHGr
open Go.RowKit Go.Proofs.YtcnllhnhinmokaaW.PrintWords Go.Proofs.YtcnllhnhinmokaaW.PrintLast Go.Proofs.YtcnllhnhinmokaaW.PrintMore
attribute [local go_sem] max2_int min2_int max_two min_two max_three min_three max_four min_four
set_option linter.unusedVariables false
set_option linter.unusedSimpArgs false
def manystrandref24_find.l0 : Nat → ByteArray → Int → List (S54) → Option (Int)
 | 0, _, _, _ => none
 | k + 1, x1, x5, x102000 => if x5 < (x102000.length : Int) then (if 0 ≤ x5 then (if ((rd_T54 x102000 x5).f0).toList = x1.toList then (some x5) else (manystrandref24_find.l0 k x1 (wrap64 (x5 + 1)) x102000)) else (none)) else (some (-1))
def manystrandref24_find.f (k : Nat) (l0_0 : List (S54)) (a1 : ByteArray) : Option (Int) := manystrandref24_find.l0 k a1 0 l0_0
set_option maxHeartbeats 8000000 in
set_option maxRecDepth 100000 in
theorem manystrandref24_find.calls (k : Nat) (A0_0 : Option Addr) (c0_0 : Nat) (l0_0 : List (S54)) (a1 : ByteArray) (r : Int) (w : World) (hr0_0 : Kd.C k54 w A0_0 l0_0.length l0_0) (hc0_0 : l0_0.length ≤ c0_0) (h : manystrandref24_find.f k l0_0 a1 = some r) :
 Calls Try.prog 39 #[.agg #[.slice A0_0 l0_0.length c0_0], .string a1] w fun e w' => e = .returned (.int .i64 r) ∧ Below w.heap.size w w' := by
 have hu24 := Try.underlying24
 have HR0_0 := Aside0.mk hr0_0
 have HC0_0 := Aside0.mk hc0_0
 clear hr0_0 hc0_0
 have HB := Aside0.mk (Below.refl w.heap.size w)
 have H : (manystrandref24_find.l0 k a1 0 l0_0) = some r := h
 clear h
 have H' := Aside0.mk H
 clear H
 go_enter Try.func39, Try.ntmps39
 go_wp2_with (((with_reducible refine gate_dst (N := 2) rfl ?_); refine box_event ?hg (N := 2) ?hd (cs := #[.slice A0_0 l0_0.length c0_0]) (t := 24) ?hr ?_; (case hd => rfl); (case hg => rfl); (case hr => (go_simp; done)); intro gb101 hg w3 hbox hb; have n0_ := Aside0.mk (below_step HB.out hb); have n1_ := Aside0.mk (hbox); have n2_ := Aside0.mk ((by rw [hg]; exact (below_size HB.out) : w.heap.size ≤ gb101)); have n3_ := Aside0.mk ((by rw [hg]; exact (below_size HB.out) : w.heap.size ≤ gb101)); clear HB; have HB := n0_; have BK101 := n1_; have GW101 := n2_; have GE101 := n3_; clear n0_ n1_ n2_ n3_; clear hb hbox hg))
 go_loopg [5] k (fun kq v5 w' => ∃ (x5_1 : Int), v5 = .int .i64 x5_1 ∧ Aside0 (manystrandref24_find.l0 kq a1 x5_1 l0_0 = some r) ∧ Aside0 (kq ≤ k) ∧ Aside0 (w'.heap[gb101]? = some (.cells #[(.slice A0_0 l0_0.length c0_0)] 24 (0, 0))) ∧ Aside0 (Below w.heap.size w w'))
 case atStart => exact ⟨(0), rfl, H', ⟨Nat.le_refl _⟩, ⟨BK101.out⟩, ⟨by exact HB.out⟩⟩
 case round =>
  clear H'
  obtain ⟨x5_1, rfl, HA, HK1, BK101, HB⟩ := hrel
  cases gk with
  | zero => exact absurd HA.out (by simp [manystrandref24_find.l0])
  | succ k1 =>
   have H := HA.out
   clear HA
   simp only [manystrandref24_find.l0] at H
   by_cases c4 : x5_1 < (l0_0.length : Int)
   rotate_left
   · rw [if_neg c4] at H
     have c4b0 := decide_eq_false c4
     clear c4
     obtain rfl := Option.some.inj H
     have hcz9_0 : wr.cell? ⟨gb101, 0, none⟩ = some (.slice A0_0 l0_0.length c0_0) := (blk_cell BK101.out 0).trans rfl
     have hfz9_0 := blk_frozen BK101.out 0
     go_wp2
     go_ret
     exact ⟨by first | rfl, by exact HB.out⟩
   rw [if_pos c4] at H
   have c4b0 := decide_eq_true c4
   clear c4
   obtain ⟨c5, H⟩ := gd H
   have c5b0 := decide_eq_true c5
   clear c5
   by_cases c6 : ((rd_T54 l0_0 x5_1).f0).toList = a1.toList
   · rw [if_pos c6] at H
     have c6b0 := beq_iff_eq.mpr c6
     have c6b1 := bne_eq_false_iff_eq.mpr c6
     clear c6
     obtain rfl := Option.some.inj H
     have hcz7_0 : wr.cell? ⟨gb101, 0, none⟩ = some (.slice A0_0 l0_0.length c0_0) := (blk_cell BK101.out 0).trans rfl
     have hfz7_0 := blk_frozen BK101.out 0
     have p102 : 0 ≤ (x5_1 : Int) := of_decide_eq_true (by assumption)
     have q102 : x5_1 < (l0_0.length : Int) := of_decide_eq_true (by assumption)
     obtain ⟨ad102, A102_3, c102_3, e102, hx102_0, hx102_1, hx102_2, hx102_3, hl102_3, hi102_3⟩ := at_T54 HR0_0.out x5_1 p102 q102
     cases e102
     replace hx102_0 := ct HB.out hx102_0
     replace hx102_1 := ct HB.out hx102_1
     replace hx102_2 := ct HB.out hx102_2
     replace hx102_3 := ct HB.out hx102_3
     have HR102_3 := Aside0.mk hi102_3
     have HC102_3 := Aside0.mk hl102_3
     clear hi102_3 hl102_3
     replace p102 := eq_true p102
     replace q102 := eq_true q102
     go_wp2
     go_ret
     exact ⟨by first | rfl, by exact HB.out⟩
   rw [if_neg c6] at H
   have c6b0 := beq_eq_false_iff_ne.mpr c6
   have c6b1 := bne_iff_ne.mpr c6
   have H' := Aside0.mk H
   clear H
   have hcz8_0 : wr.cell? ⟨gb101, 0, none⟩ = some (.slice A0_0 l0_0.length c0_0) := (blk_cell BK101.out 0).trans rfl
   have hfz8_0 := blk_frozen BK101.out 0
   have p102 : 0 ≤ (x5_1 : Int) := of_decide_eq_true (by assumption)
   have q102 : x5_1 < (l0_0.length : Int) := of_decide_eq_true (by assumption)
   obtain ⟨ad102, A102_3, c102_3, e102, hx102_0, hx102_1, hx102_2, hx102_3, hl102_3, hi102_3⟩ := at_T54 HR0_0.out x5_1 p102 q102
   cases e102
   replace hx102_0 := ct HB.out hx102_0
   replace hx102_1 := ct HB.out hx102_1
   replace hx102_2 := ct HB.out hx102_2
   replace hx102_3 := ct HB.out hx102_3
   have HR102_3 := Aside0.mk hi102_3
   have HC102_3 := Aside0.mk hl102_3
   clear hi102_3 hl102_3
   replace p102 := eq_true p102
   replace q102 := eq_true q102
   go_wp2
   go_roundg k1
   case measure => have := HK1.out; omega
   case rel => exact ⟨(wrap64 (x5_1 + 1)), rfl, H', ⟨by have := HK1.out; omega⟩, ⟨BK101.out⟩, ⟨by exact HB.out⟩⟩
def manystrandref01_small.f (a0 : Int) : Option (Bool) := if a0 ≥ 97 then (some (decide (a0 ≤ 122))) else (some false)
set_option maxHeartbeats 8000000 in
set_option maxRecDepth 100000 in
theorem manystrandref01_small.calls (a0 : Int) (r : Bool) (w : World) (h : manystrandref01_small.f a0 = some r) :
 Calls Try.prog 94 #[.int .u8 a0] w fun e w' => e = .returned (.bool r) ∧ Drawn0 w w' := by
 have H : (if a0 ≥ 97 then (some (decide (a0 ≤ 122))) else (some false)) = some r := h
 clear h
 by_cases c2 : a0 ≥ 97
 rotate_left
 · rw [if_neg c2] at H
   have c2b0 := decide_eq_false c2
   clear c2
   obtain rfl := Option.some.inj H
   go_enter Try.func94, Try.ntmps94
   go_wp2
   go_ret
   exact ⟨by first | rfl, by repeat (first | exact Drawn0.refl _)⟩
 rw [if_pos c2] at H
 have c2b0 := decide_eq_true c2
 clear c2
 obtain rfl := Option.some.inj H
 go_enter Try.func94, Try.ntmps94
 go_wp2
 go_ret
 exact ⟨by first | rfl, by repeat (first | exact Drawn0.refl _)⟩
def manystrandref01_great.f (a0 : Int) : Option (Bool) := if a0 ≥ 65 then (some (decide (a0 ≤ 90))) else (some false)
set_option maxHeartbeats 8000000 in
set_option maxRecDepth 100000 in
theorem manystrandref01_great.calls (a0 : Int) (r : Bool) (w : World) (h : manystrandref01_great.f a0 = some r) :
 Calls Try.prog 131 #[.int .u8 a0] w fun e w' => e = .returned (.bool r) ∧ Drawn0 w w' := by
 have H : (if a0 ≥ 65 then (some (decide (a0 ≤ 90))) else (some false)) = some r := h
 clear h
 by_cases c2 : a0 ≥ 65
 rotate_left
 · rw [if_neg c2] at H
   have c2b0 := decide_eq_false c2
   clear c2
   obtain rfl := Option.some.inj H
   go_enter Try.func131, Try.ntmps131
   go_wp2
   go_ret
   exact ⟨by first | rfl, by repeat (first | exact Drawn0.refl _)⟩
 rw [if_pos c2] at H
 have c2b0 := decide_eq_true c2
 clear c2
 obtain rfl := Option.some.inj H
 go_enter Try.func131, Try.ntmps131
 go_wp2
 go_ret
 exact ⟨by first | rfl, by repeat (first | exact Drawn0.refl _)⟩
def manystrandref01_digit.f (a0 : Int) : Option (Bool) := if a0 ≥ 48 then (some (decide (a0 ≤ 57))) else (some false)
set_option maxHeartbeats 8000000 in
set_option maxRecDepth 100000 in
theorem manystrandref01_digit.calls (a0 : Int) (r : Bool) (w : World) (h : manystrandref01_digit.f a0 = some r) :
 Calls Try.prog 132 #[.int .u8 a0] w fun e w' => e = .returned (.bool r) ∧ Drawn0 w w' := by
 have H : (if a0 ≥ 48 then (some (decide (a0 ≤ 57))) else (some false)) = some r := h
 clear h
 by_cases c2 : a0 ≥ 48
 rotate_left
 · rw [if_neg c2] at H
   have c2b0 := decide_eq_false c2
   clear c2
   obtain rfl := Option.some.inj H
   go_enter Try.func132, Try.ntmps132
   go_wp2
   go_ret
   exact ⟨by first | rfl, by repeat (first | exact Drawn0.refl _)⟩
 rw [if_pos c2] at H
 have c2b0 := decide_eq_true c2
 clear c2
 obtain rfl := Option.some.inj H
 go_enter Try.func132, Try.ntmps132
 go_wp2
 go_ret
 exact ⟨by first | rfl, by repeat (first | exact Drawn0.refl _)⟩
def manystrandref01_inner.f (a0 : Int) : Option (Bool) := (manystrandref01_small.f a0).bind fun t103 => (if t103 = true then (some true) else ((manystrandref01_great.f a0).bind fun t104 => (if t104 = true then (some true) else ((manystrandref01_digit.f a0).bind fun t105 => (if t105 = true then (some true) else (some (a0 == 95)))))))
set_option maxHeartbeats 8000000 in
set_option maxRecDepth 100000 in
theorem manystrandref01_inner.calls (a0 : Int) (r : Bool) (w : World) (h : manystrandref01_inner.f a0 = some r) :
 Calls Try.prog 115 #[.int .u8 a0] w fun e w' => e = .returned (.bool r) ∧ Drawn0 w w' := by
 have H : ((manystrandref01_small.f a0).bind fun t103 => (if t103 = true then (some true) else ((manystrandref01_great.f a0).bind fun t104 => (if t104 = true then (some true) else ((manystrandref01_digit.f a0).bind fun t105 => (if t105 = true then (some true) else (some (a0 == 95)))))))) = some r := h
 clear h
 replace H := Option.bind_eq_some_iff.mp H
 obtain ⟨t103, A20, H⟩ := H
 have A2 := Aside0.mk A20
 clear A20
 by_cases c3 : t103 = true
 · subst c3
   rw [if_pos rfl] at H
   obtain rfl := Option.some.inj H
   go_enter Try.func115, Try.ntmps115
   go_wp2_with (((with_reducible refine gate_callee (f := 94) rfl ?_); refine goesL_ (some 4) rfl rfl Try.func94 (by kernel_rfl) rfl #[.int .u8 a0] rfl (by (try simp only [List.map_toArray, List.map_cons, List.map_nil]); first | rfl) ?_; (with_reducible refine (manystrandref01_small.calls a0 true _ A2.out).mono ?_); rintro e w' ⟨rfl, ⟨nd, rfl⟩⟩; refine ⟨_, rfl, ?_⟩))
   go_ret
   exact ⟨by first | rfl, by repeat (first | exact Drawn0.refl _ | apply Drawn0.step)⟩
 replace c3 := Bool.eq_false_iff.mpr c3
 subst c3
 rw [if_neg (show ¬ (false = true) by decide)] at H
 replace H := Option.bind_eq_some_iff.mp H
 obtain ⟨t104, A40, H⟩ := H
 have A4 := Aside0.mk A40
 clear A40
 by_cases c5 : t104 = true
 · subst c5
   rw [if_pos rfl] at H
   obtain rfl := Option.some.inj H
   go_enter Try.func115, Try.ntmps115
   go_wp2_with (first | ((with_reducible refine gate_callee (f := 94) rfl ?_); refine goesL_ (some 4) rfl rfl Try.func94 (by kernel_rfl) rfl #[.int .u8 a0] rfl (by (try simp only [List.map_toArray, List.map_cons, List.map_nil]); first | rfl) ?_; (with_reducible refine (manystrandref01_small.calls a0 false _ A2.out).mono ?_); rintro e w' ⟨rfl, ⟨nd, rfl⟩⟩; refine ⟨_, rfl, ?_⟩) | (go_at_call 131; (with_reducible refine (manystrandref01_great.calls a0 true _ A4.out).mono ?_); rintro e w' ⟨rfl, ⟨nd, rfl⟩⟩))
   go_ret
   exact ⟨by first | rfl, by repeat (first | exact Drawn0.refl _ | apply Drawn0.step)⟩
 replace c5 := Bool.eq_false_iff.mpr c5
 subst c5
 rw [if_neg (show ¬ (false = true) by decide)] at H
 replace H := Option.bind_eq_some_iff.mp H
 obtain ⟨t105, A60, H⟩ := H
 have A6 := Aside0.mk A60
 clear A60
 by_cases c7 : t105 = true
 · subst c7
   rw [if_pos rfl] at H
   obtain rfl := Option.some.inj H
   go_enter Try.func115, Try.ntmps115
   go_wp2_with (first | ((with_reducible refine gate_callee (f := 94) rfl ?_); refine goesL_ (some 4) rfl rfl Try.func94 (by kernel_rfl) rfl #[.int .u8 a0] rfl (by (try simp only [List.map_toArray, List.map_cons, List.map_nil]); first | rfl) ?_; (with_reducible refine (manystrandref01_small.calls a0 false _ A2.out).mono ?_); rintro e w' ⟨rfl, ⟨nd, rfl⟩⟩; refine ⟨_, rfl, ?_⟩) | (go_at_call 131; (with_reducible refine (manystrandref01_great.calls a0 false _ A4.out).mono ?_); rintro e w' ⟨rfl, ⟨nd, rfl⟩⟩) | (go_at_call 132; (with_reducible refine (manystrandref01_digit.calls a0 true _ A6.out).mono ?_); rintro e w' ⟨rfl, ⟨nd, rfl⟩⟩))
   go_ret
   exact ⟨by first | rfl, by repeat (first | exact Drawn0.refl _ | apply Drawn0.step)⟩
 replace c7 := Bool.eq_false_iff.mpr c7
 subst c7
 rw [if_neg (show ¬ (false = true) by decide)] at H
 obtain rfl := Option.some.inj H
 go_enter Try.func115, Try.ntmps115
 go_wp2_with (first | ((with_reducible refine gate_callee (f := 94) rfl ?_); refine goesL_ (some 4) rfl rfl Try.func94 (by kernel_rfl) rfl #[.int .u8 a0] rfl (by (try simp only [List.map_toArray, List.map_cons, List.map_nil]); first | rfl) ?_; (with_reducible refine (manystrandref01_small.calls a0 false _ A2.out).mono ?_); rintro e w' ⟨rfl, ⟨nd, rfl⟩⟩; refine ⟨_, rfl, ?_⟩) | (go_at_call 131; (with_reducible refine (manystrandref01_great.calls a0 false _ A4.out).mono ?_); rintro e w' ⟨rfl, ⟨nd, rfl⟩⟩) | (go_at_call 132; (with_reducible refine (manystrandref01_digit.calls a0 false _ A6.out).mono ?_); rintro e w' ⟨rfl, ⟨nd, rfl⟩⟩))
 go_ret
 exact ⟨by first | rfl, by repeat (first | exact Drawn0.refl _ | apply Drawn0.step)⟩
def manystrandref01_word.l0 : Nat → ByteArray → Int → Option (Bool)
 | 0, _, _ => none
 | k + 1, x0, x3 => if x3 < (x0.size : Int) then (if 0 ≤ x3 then ((manystrandref01_inner.f (bt x0 x3)).bind fun t106 => (if t106 = true then (manystrandref01_word.l0 k x0 (wrap64 (x3 + 1))) else (some false))) else (none)) else (if x0.toList = ([] : List UInt8) then (some false) else (some (decide ((x0.size : Int) ≤ 60))))
def manystrandref01_word.f (k : Nat) (a0 : ByteArray) : Option (Bool) := manystrandref01_word.l0 k a0 0
set_option maxHeartbeats 8000000 in
set_option maxRecDepth 100000 in
theorem manystrandref01_word.calls (k : Nat) (a0 : ByteArray) (r : Bool) (w : World) (h : manystrandref01_word.f k a0 = some r) :
 Calls Try.prog 93 #[.string a0] w fun e w' => e = .returned (.bool r) ∧ Drawn0 w w' := by
 have H : (manystrandref01_word.l0 k a0 0) = some r := h
 clear h
 have H' := Aside0.mk H
 clear H
 go_enter Try.func93, Try.ntmps93
 go_wp2
 go_loopg [3] k (fun kq v3 w' => ∃ (x3_1 : Int), v3 = .int .i64 x3_1 ∧ Aside0 (manystrandref01_word.l0 kq a0 x3_1 = some r) ∧ Aside0 (kq ≤ k) ∧ Drawn0 w w')
 case atStart => exact ⟨(0), rfl, H', ⟨Nat.le_refl _⟩, by repeat (first | exact Drawn0.refl _)⟩
 case round =>
  clear H'
  obtain ⟨x3_1, rfl, HA, HK1, ⟨m1, rfl⟩⟩ := hrel
  cases gk with
  | zero => exact absurd HA.out (by simp [manystrandref01_word.l0])
  | succ k1 =>
   have H := HA.out
   clear HA
   simp only [manystrandref01_word.l0] at H
   by_cases c2 : x3_1 < (a0.size : Int)
   rotate_left
   · rw [if_neg c2] at H
     have c2b0 := decide_eq_false c2
     clear c2
     by_cases c7 : a0.toList = ([] : List UInt8)
     rotate_left
     · rw [if_neg c7] at H
       have c7b0 := beq_eq_false_iff_ne.mpr c7
       have c7b1 := bne_iff_ne.mpr c7
       obtain rfl := Option.some.inj H
       go_wp2
       go_ret
       exact ⟨by first | rfl, by repeat (first | exact Drawn0.refl _ | apply Drawn0.step)⟩
     rw [if_pos c7] at H
     have c7b0 := beq_iff_eq.mpr c7
     have c7b1 := bne_eq_false_iff_eq.mpr c7
     clear c7
     obtain rfl := Option.some.inj H
     go_wp2
     go_ret
     exact ⟨by first | rfl, by repeat (first | exact Drawn0.refl _ | apply Drawn0.step)⟩
   rw [if_pos c2] at H
   have c2b0 := decide_eq_true c2
   clear c2
   obtain ⟨c3, H⟩ := gd H
   have c3b0 := decide_eq_true c3
   clear c3
   replace H := Option.bind_eq_some_iff.mp H
   obtain ⟨t106, A50, H⟩ := H
   have A5 := Aside0.mk A50
   clear A50
   by_cases c6 : t106 = true
   rotate_left
   · replace c6 := Bool.eq_false_iff.mpr c6
     subst c6
     rw [if_neg (show ¬ (false = true) by decide)] at H
     obtain rfl := Option.some.inj H
     have p4 : 0 ≤ (x3_1 : Int) := of_decide_eq_true (by assumption)
     have q4 : x3_1 < (a0.size : Int) := of_decide_eq_true (by assumption)
     have hx4 := bt_at a0 x3_1
     replace p4 := eq_true p4
     replace q4 := eq_true q4
     go_wp2_with (((with_reducible refine gate_callee (f := 115) rfl ?_); refine goesL_ (some 13) rfl rfl Try.func115 (by kernel_rfl) rfl #[.int .u8 (bt a0 x3_1)] rfl (by (try simp only [List.map_toArray, List.map_cons, List.map_nil]); first | rfl) ?_; (with_reducible refine (manystrandref01_inner.calls (bt a0 x3_1) false _ A5.out).mono ?_); rintro e w' ⟨rfl, ⟨nd, rfl⟩⟩; refine ⟨_, rfl, ?_⟩))
     go_ret
     exact ⟨by first | rfl, by repeat (first | exact Drawn0.refl _ | apply Drawn0.step)⟩
   subst c6
   rw [if_pos rfl] at H
   have H' := Aside0.mk H
   clear H
   have p4 : 0 ≤ (x3_1 : Int) := of_decide_eq_true (by assumption)
   have q4 : x3_1 < (a0.size : Int) := of_decide_eq_true (by assumption)
   have hx4 := bt_at a0 x3_1
   replace p4 := eq_true p4
   replace q4 := eq_true q4
   go_wp2_with (((with_reducible refine gate_callee (f := 115) rfl ?_); refine goesL_ (some 13) rfl rfl Try.func115 (by kernel_rfl) rfl #[.int .u8 (bt a0 x3_1)] rfl (by (try simp only [List.map_toArray, List.map_cons, List.map_nil]); first | rfl) ?_; (with_reducible refine (manystrandref01_inner.calls (bt a0 x3_1) true _ A5.out).mono ?_); rintro e w' ⟨rfl, ⟨nd, rfl⟩⟩; refine ⟨_, rfl, ?_⟩))
   go_roundg k1
   case measure => have := HK1.out; omega
   case rel => exact ⟨(wrap64 (x3_1 + 1)), rfl, H', ⟨by have := HK1.out; omega⟩, by repeat (first | exact Drawn0.refl _ | apply Drawn0.step)⟩
mutual
def manystrandref01_Among.l0 : Nat → ByteArray → ByteArray → Int → Option (Bool)
 | 0, _, _, _ => none
 | k + 1, x0, x1, x5 => if x5 < (x0.size : Int) then (if 0 ≤ x5 then (if (bt x0 x5) = 32 then (some false) else (manystrandref01_Among.l0 k x0 x1 (wrap64 (x5 + 1)))) else (none)) else (manystrandref01_Among.l1 k x0 x1 0)
def manystrandref01_Among.l1 : Nat → ByteArray → ByteArray → Int → Option (Bool)
 | 0, _, _, _ => none
 | k + 1, x0, x1, x6 => if (wrap64 ((wrap64 (x6 + (x0.size : Int))) + 2)) ≤ (x1.size : Int) then (if x0.toList = ([] : List UInt8) then (manystrandref01_Among.l1 k x0 x1 (wrap64 (x6 + 1))) else (if 0 ≤ x6 then (if x6 ≤ (wrap64 ((wrap64 (x6 + (x0.size : Int))) + 2)) then (if 1 + x0.size ≤ 9223372036854775807 then (if ((⟨#[32]⟩ : ByteArray) ++ x0).size + 1 ≤ 9223372036854775807 then (if (x1.extract (x6 : Int).toNat ((wrap64 ((wrap64 (x6 + (x0.size : Int))) + 2)) : Int).toNat).toList = (((⟨#[32]⟩ : ByteArray) ++ x0) ++ (⟨#[32]⟩ : ByteArray)).toList then (some true) else (manystrandref01_Among.l1 k x0 x1 (wrap64 (x6 + 1)))) else (none)) else (none)) else (none)) else (none))) else (some false)
end
def manystrandref01_Among.f (k : Nat) (a0 : ByteArray) (a1 : ByteArray) : Option (Bool) := manystrandref01_Among.l0 k a0 a1 0
set_option maxHeartbeats 8000000 in
set_option maxRecDepth 100000 in
theorem manystrandref01_Among.calls (k : Nat) (a0 : ByteArray) (a1 : ByteArray) (r : Bool) (w : World) (h : manystrandref01_Among.f k a0 a1 = some r) :
 Calls Try.prog 116 #[.string a0, .string a1] w fun e w' => e = .returned (.bool r) ∧ Drawn0 w w' := by
 have H : (manystrandref01_Among.l0 k a0 a1 0) = some r := h
 clear h
 have H' := Aside0.mk H
 clear H
 go_enter Try.func116, Try.ntmps116
 go_wp2
 go_loopg [5] k (fun kq v5 w' => ∃ (x5_1 : Int), v5 = .int .i64 x5_1 ∧ Aside0 (manystrandref01_Among.l0 kq a0 a1 x5_1 = some r) ∧ Aside0 (kq ≤ k) ∧ Drawn0 w w')
 case atStart => exact ⟨(0), rfl, H', ⟨Nat.le_refl _⟩, by repeat (first | exact Drawn0.refl _)⟩
 case round =>
  clear H'
  obtain ⟨x5_1, rfl, HA, HK1, ⟨m1, rfl⟩⟩ := hrel
  cases gk with
  | zero => exact absurd HA.out (by simp [manystrandref01_Among.l0])
  | succ k1 =>
   have H := HA.out
   clear HA
   simp only [manystrandref01_Among.l0] at H
   by_cases c3 : x5_1 < (a0.size : Int)
   · rw [if_pos c3] at H
     have c3b0 := decide_eq_true c3
     clear c3
     obtain ⟨c4, H⟩ := gd H
     have c4b0 := decide_eq_true c4
     clear c4
     by_cases c6 : (bt a0 x5_1) = 32
     · rw [if_pos c6] at H
       have c6b0 := beq_iff_eq.mpr c6
       have c6b1 := bne_eq_false_iff_eq.mpr c6
       clear c6
       obtain rfl := Option.some.inj H
       have p5 : 0 ≤ (x5_1 : Int) := of_decide_eq_true (by assumption)
       have q5 : x5_1 < (a0.size : Int) := of_decide_eq_true (by assumption)
       have hx5 := bt_at a0 x5_1
       replace p5 := eq_true p5
       replace q5 := eq_true q5
       go_wp2
       go_ret
       exact ⟨by first | rfl, by repeat (first | exact Drawn0.refl _ | apply Drawn0.step)⟩
     rw [if_neg c6] at H
     have c6b0 := beq_eq_false_iff_ne.mpr c6
     have c6b1 := bne_iff_ne.mpr c6
     have H' := Aside0.mk H
     clear H
     have p5 : 0 ≤ (x5_1 : Int) := of_decide_eq_true (by assumption)
     have q5 : x5_1 < (a0.size : Int) := of_decide_eq_true (by assumption)
     have hx5 := bt_at a0 x5_1
     replace p5 := eq_true p5
     replace q5 := eq_true q5
     go_wp2
     go_roundg k1
     case measure => have := HK1.out; omega
     case rel => exact ⟨(wrap64 (x5_1 + 1)), rfl, H', ⟨by have := HK1.out; omega⟩, by repeat (first | exact Drawn0.refl _ | apply Drawn0.step)⟩
   rw [if_neg c3] at H
   have c3b0 := decide_eq_false c3
   clear c3
   have H' := Aside0.mk H
   clear H
   go_wp2
   go_loopg [6] k1 (fun kq v6 w' => ∃ (x6_2 : Int), v6 = .int .i64 x6_2 ∧ Aside0 (manystrandref01_Among.l1 kq a0 a1 x6_2 = some r) ∧ Aside0 (kq ≤ k1) ∧ Drawn0 w w')
   case atStart => exact ⟨(0), rfl, H', ⟨Nat.le_refl _⟩, by repeat (first | exact Drawn0.refl _ | apply Drawn0.step)⟩
   case round =>
    clear H'
    clear c3b0
    obtain ⟨x6_2, rfl, HA, HK2, ⟨m2, rfl⟩⟩ := hrel
    cases gk with
    | zero => exact absurd HA.out (by simp [manystrandref01_Among.l1])
    | succ k2 =>
     have H := HA.out
     clear HA
     simp only [manystrandref01_Among.l1] at H
     by_cases c7 : (wrap64 ((wrap64 (x6_2 + (a0.size : Int))) + 2)) ≤ (a1.size : Int)
     rotate_left
     · rw [if_neg c7] at H
       have c7b0 := decide_eq_false c7
       clear c7
       obtain rfl := Option.some.inj H
       go_wp2
       go_ret
       exact ⟨by first | rfl, by repeat (first | exact Drawn0.refl _ | apply Drawn0.step)⟩
     rw [if_pos c7] at H
     have c7b0 := decide_eq_true c7
     clear c7
     by_cases c8 : a0.toList = ([] : List UInt8)
     · rw [if_pos c8] at H
       have c8b0 := beq_iff_eq.mpr c8
       have c8b1 := bne_eq_false_iff_eq.mpr c8
       clear c8
       have H' := Aside0.mk H
       clear H
       go_wp2
       go_roundg k2
       case measure => have := HK1.out; have := HK2.out; omega
       case rel => exact ⟨(wrap64 (x6_2 + 1)), rfl, H', ⟨by have := HK1.out; have := HK2.out; omega⟩, by repeat (first | exact Drawn0.refl _ | apply Drawn0.step)⟩
     rw [if_neg c8] at H
     have c8b0 := beq_eq_false_iff_ne.mpr c8
     have c8b1 := bne_iff_ne.mpr c8
     obtain ⟨c9, H⟩ := gd H
     have c9b0 := eq_true c9
     have c9b1 := decide_eq_true c9
     clear c9
     obtain ⟨c10, H⟩ := gd H
     have c10b0 := eq_true c10
     have c10b1 := decide_eq_true c10
     have c11b0 := eq_true (of_decide_eq_true (by assumption) : (wrap64 ((wrap64 (x6_2 + (a0.size : Int))) + 2)) ≤ (a1.size : Int))
     obtain ⟨c12, H⟩ := gd H
     have c12b0 := eq_true c12
     have c12b1 := decide_eq_true c12
     try have c12b2 : (9223372036854775807 < 1 + a0.size) = False := eq_false (Nat.not_lt.2 c12)
     obtain ⟨c13, H⟩ := gd H
     have c13b0 := eq_true c13
     have c13b1 := decide_eq_true c13
     try have c13b2 : (9223372036854775807 < ((⟨#[32]⟩ : ByteArray) ++ a0).size + 1) = False := eq_false (Nat.not_lt.2 c13)
     try have c13b3 : (9223372036854775807 < 1 + a0.size + 1) = False := eq_false (Nat.not_lt.2 (by have h_ := c13; simp only [ByteArray.size_append] at h_; exact h_))
     by_cases c14 : (a1.extract (x6_2 : Int).toNat ((wrap64 ((wrap64 (x6_2 + (a0.size : Int))) + 2)) : Int).toNat).toList = (((⟨#[32]⟩ : ByteArray) ++ a0) ++ (⟨#[32]⟩ : ByteArray)).toList
     · rw [if_pos c14] at H
       have c14b0 := beq_iff_eq.mpr c14
       have c14b1 := bne_eq_false_iff_eq.mpr c14
       clear c14
       obtain rfl := Option.some.inj H
       go_wp2
       go_ret
       exact ⟨by first | rfl, by repeat (first | exact Drawn0.refl _ | apply Drawn0.step)⟩
     rw [if_neg c14] at H
     have c14b0 := beq_eq_false_iff_ne.mpr c14
     have c14b1 := bne_iff_ne.mpr c14
     have H' := Aside0.mk H
     clear H
     go_wp2
     go_roundg k2
     case measure => have := HK1.out; have := HK2.out; omega
     case rel => exact ⟨(wrap64 (x6_2 + 1)), rfl, H', ⟨by have := HK1.out; have := HK2.out; omega⟩, by repeat (first | exact Drawn0.refl _ | apply Drawn0.step)⟩
def manystrandref01_IsKey.f (k : Nat) (a0 : ByteArray) : Option (Bool) := (manystrandref01_Among.f k a0 (⟨#[32, 97, 110, 100, 116, 104, 101, 110, 32, 97, 116, 32, 98, 121, 32, 99, 97, 115, 101, 32, 99, 97, 116, 99, 104, 32, 99, 104, 111, 105, 99, 101, 32, 100, 105, 118, 32, 100, 111, 32, 101, 97, 99, 104, 32, 101, 108, 115, 101, 32, 101, 110, 100, 32, 102, 111, 114, 32, 102, 117, 110, 32, 105, 102, 32, 105, 110, 32, 108, 97, 122, 121, 32, 108, 111, 99, 97, 108, 32, 108, 111, 99, 107, 32, 109, 111, 100, 32, 111, 114, 101, 108, 115, 101, 32, 112, 114, 111, 99, 32, 114, 97, 105, 115, 101, 32, 115, 107, 105, 112, 32, 116, 104, 101, 110, 32, 116, 104, 114, 101, 97, 100, 32, 116, 114, 121, 32, 111, 102, 32]⟩ : ByteArray)).bind fun t107 => (some t107)
set_option maxHeartbeats 8000000 in
set_option maxRecDepth 100000 in
theorem manystrandref01_IsKey.calls (k : Nat) (a0 : ByteArray) (r : Bool) (w : World) (h : manystrandref01_IsKey.f k a0 = some r) :
 Calls Try.prog 95 #[.string a0] w fun e w' => e = .returned (.bool r) ∧ Drawn0 w w' := by
 have H : ((manystrandref01_Among.f k a0 (⟨#[32, 97, 110, 100, 116, 104, 101, 110, 32, 97, 116, 32, 98, 121, 32, 99, 97, 115, 101, 32, 99, 97, 116, 99, 104, 32, 99, 104, 111, 105, 99, 101, 32, 100, 105, 118, 32, 100, 111, 32, 101, 97, 99, 104, 32, 101, 108, 115, 101, 32, 101, 110, 100, 32, 102, 111, 114, 32, 102, 117, 110, 32, 105, 102, 32, 105, 110, 32, 108, 97, 122, 121, 32, 108, 111, 99, 97, 108, 32, 108, 111, 99, 107, 32, 109, 111, 100, 32, 111, 114, 101, 108, 115, 101, 32, 112, 114, 111, 99, 32, 114, 97, 105, 115, 101, 32, 115, 107, 105, 112, 32, 116, 104, 101, 110, 32, 116, 104, 114, 101, 97, 100, 32, 116, 114, 121, 32, 111, 102, 32]⟩ : ByteArray)).bind fun t107 => (some t107)) = some r := h
 clear h
 replace H := Option.bind_eq_some_iff.mp H
 obtain ⟨t107, A20, H⟩ := H
 have A2 := Aside0.mk A20
 clear A20
 obtain rfl := Option.some.inj H
 go_enter Try.func95, Try.ntmps95
 go_wp2_with (((with_reducible refine gate_callee (f := 116) rfl ?_); refine goesL_ (some 4) rfl rfl Try.func116 (by kernel_rfl) rfl #[.string a0, .string (⟨#[32, 97, 110, 100, 116, 104, 101, 110, 32, 97, 116, 32, 98, 121, 32, 99, 97, 115, 101, 32, 99, 97, 116, 99, 104, 32, 99, 104, 111, 105, 99, 101, 32, 100, 105, 118, 32, 100, 111, 32, 101, 97, 99, 104, 32, 101, 108, 115, 101, 32, 101, 110, 100, 32, 102, 111, 114, 32, 102, 117, 110, 32, 105, 102, 32, 105, 110, 32, 108, 97, 122, 121, 32, 108, 111, 99, 97, 108, 32, 108, 111, 99, 107, 32, 109, 111, 100, 32, 111, 114, 101, 108, 115, 101, 32, 112, 114, 111, 99, 32, 114, 97, 105, 115, 101, 32, 115, 107, 105, 112, 32, 116, 104, 101, 110, 32, 116, 104, 114, 101, 97, 100, 32, 116, 114, 121, 32, 111, 102, 32]⟩ : ByteArray)] rfl (by (try simp only [List.map_toArray, List.map_cons, List.map_nil]); first | rfl) ?_; (with_reducible refine (manystrandref01_Among.calls k a0 (⟨#[32, 97, 110, 100, 116, 104, 101, 110, 32, 97, 116, 32, 98, 121, 32, 99, 97, 115, 101, 32, 99, 97, 116, 99, 104, 32, 99, 104, 111, 105, 99, 101, 32, 100, 105, 118, 32, 100, 111, 32, 101, 97, 99, 104, 32, 101, 108, 115, 101, 32, 101, 110, 100, 32, 102, 111, 114, 32, 102, 117, 110, 32, 105, 102, 32, 105, 110, 32, 108, 97, 122, 121, 32, 108, 111, 99, 97, 108, 32, 108, 111, 99, 107, 32, 109, 111, 100, 32, 111, 114, 101, 108, 115, 101, 32, 112, 114, 111, 99, 32, 114, 97, 105, 115, 101, 32, 115, 107, 105, 112, 32, 116, 104, 101, 110, 32, 116, 104, 114, 101, 97, 100, 32, 116, 114, 121, 32, 111, 102, 32]⟩ : ByteArray) t107 _ A2.out).mono ?_); rintro e w' ⟨rfl, ⟨nd, rfl⟩⟩; refine ⟨_, rfl, ?_⟩))
 go_ret
 exact ⟨by first | rfl, by repeat (first | exact Drawn0.refl _ | apply Drawn0.step)⟩
def manystrandref01_IsPlain.f (k : Nat) (a0 : ByteArray) : Option (Bool) := (manystrandref01_word.f k a0).bind fun t108 => (if t108 = true then (if 0 < (a0.size : Int) then ((manystrandref01_small.f (bt a0 0)).bind fun t109 => (if t109 = true then ((manystrandref01_IsKey.f k a0).bind fun t110 => (some (!t110))) else (some false))) else (none)) else (some false))
set_option maxHeartbeats 8000000 in
set_option maxRecDepth 100000 in
theorem manystrandref01_IsPlain.calls (k : Nat) (a0 : ByteArray) (r : Bool) (w : World) (h : manystrandref01_IsPlain.f k a0 = some r) :
 Calls Try.prog 68 #[.string a0] w fun e w' => e = .returned (.bool r) ∧ Drawn0 w w' := by
 have H : ((manystrandref01_word.f k a0).bind fun t108 => (if t108 = true then (if 0 < (a0.size : Int) then ((manystrandref01_small.f (bt a0 0)).bind fun t109 => (if t109 = true then ((manystrandref01_IsKey.f k a0).bind fun t110 => (some (!t110))) else (some false))) else (none)) else (some false))) = some r := h
 clear h
 replace H := Option.bind_eq_some_iff.mp H
 obtain ⟨t108, A20, H⟩ := H
 have A2 := Aside0.mk A20
 clear A20
 by_cases c3 : t108 = true
 rotate_left
 · replace c3 := Bool.eq_false_iff.mpr c3
   subst c3
   rw [if_neg (show ¬ (false = true) by decide)] at H
   obtain rfl := Option.some.inj H
   go_enter Try.func68, Try.ntmps68
   go_wp2_with (((with_reducible refine gate_callee (f := 93) rfl ?_); refine goesL_ (some 4) rfl rfl Try.func93 (by kernel_rfl) rfl #[.string a0] rfl (by (try simp only [List.map_toArray, List.map_cons, List.map_nil]); first | rfl) ?_; (with_reducible refine (manystrandref01_word.calls k a0 false _ A2.out).mono ?_); rintro e w' ⟨rfl, ⟨nd, rfl⟩⟩; refine ⟨_, rfl, ?_⟩))
   go_ret
   exact ⟨by first | rfl, by repeat (first | exact Drawn0.refl _ | apply Drawn0.step)⟩
 subst c3
 rw [if_pos rfl] at H
 obtain ⟨c4, H⟩ := gd H
 have c4b0 := decide_eq_true c4
 have c4b1 : decide (0 < a0.size) = true := decide_eq_true (by omega)
 clear c4
 replace H := Option.bind_eq_some_iff.mp H
 obtain ⟨t109, A60, H⟩ := H
 have A6 := Aside0.mk A60
 clear A60
 by_cases c7 : t109 = true
 rotate_left
 · replace c7 := Bool.eq_false_iff.mpr c7
   subst c7
   rw [if_neg (show ¬ (false = true) by decide)] at H
   obtain rfl := Option.some.inj H
   go_enter Try.func68, Try.ntmps68
   go_wp2_with (first | ((with_reducible refine gate_callee (f := 93) rfl ?_); refine goesL_ (some 4) rfl rfl Try.func93 (by kernel_rfl) rfl #[.string a0] rfl (by (try simp only [List.map_toArray, List.map_cons, List.map_nil]); first | rfl) ?_; (with_reducible refine (manystrandref01_word.calls k a0 true _ A2.out).mono ?_); rintro e w' ⟨rfl, ⟨nd, rfl⟩⟩; refine ⟨_, rfl, ?_⟩; have p5 : 0 ≤ (0 : Int) := (by omega); have q5 : 0 < a0.size := (by have : (0 : Int) < (a0.size : Int) := of_decide_eq_true (by assumption); omega); have hx5 : ∀ h : 0 < a0.size, ((a0[0]'h).toNat : Int) = bt a0 0 := bt_at a0 0; clear p5; have qi5 : (0 < (a0.size : Int)) = True := eq_true (of_decide_eq_true (by assumption)); replace q5 := eq_true q5) | (go_at_call 94; (with_reducible refine (manystrandref01_small.calls (bt a0 0) false _ A6.out).mono ?_); rintro e w' ⟨rfl, ⟨nd, rfl⟩⟩))
   go_ret
   exact ⟨by first | rfl, by repeat (first | exact Drawn0.refl _ | apply Drawn0.step)⟩
 subst c7
 rw [if_pos rfl] at H
 replace H := Option.bind_eq_some_iff.mp H
 obtain ⟨t110, A80, H⟩ := H
 have A8 := Aside0.mk A80
 clear A80
 obtain rfl := Option.some.inj H
 go_enter Try.func68, Try.ntmps68
 go_wp2_with (first | ((with_reducible refine gate_callee (f := 93) rfl ?_); refine goesL_ (some 4) rfl rfl Try.func93 (by kernel_rfl) rfl #[.string a0] rfl (by (try simp only [List.map_toArray, List.map_cons, List.map_nil]); first | rfl) ?_; (with_reducible refine (manystrandref01_word.calls k a0 true _ A2.out).mono ?_); rintro e w' ⟨rfl, ⟨nd, rfl⟩⟩; refine ⟨_, rfl, ?_⟩; have p5 : 0 ≤ (0 : Int) := (by omega); have q5 : 0 < a0.size := (by have : (0 : Int) < (a0.size : Int) := of_decide_eq_true (by assumption); omega); have hx5 : ∀ h : 0 < a0.size, ((a0[0]'h).toNat : Int) = bt a0 0 := bt_at a0 0; clear p5; have qi5 : (0 < (a0.size : Int)) = True := eq_true (of_decide_eq_true (by assumption)); replace q5 := eq_true q5) | (go_at_call 94; (with_reducible refine (manystrandref01_small.calls (bt a0 0) true _ A6.out).mono ?_); rintro e w' ⟨rfl, ⟨nd, rfl⟩⟩) | (go_at_call 95; (with_reducible refine (manystrandref01_IsKey.calls k a0 t110 _ A8.out).mono ?_); rintro e w' ⟨rfl, ⟨nd, rfl⟩⟩))
 go_ret
 exact ⟨by first | rfl, by repeat (first | exact Drawn0.refl _ | apply Drawn0.step)⟩
end Go.Proofs.Ytcnllhnhinmokaa.PHGr
end
section
namespace Go.Proofs.Ytcnllhnhinmokaa.PHGr
open Go.RowKit Go.Proofs.YtcnllhnhinmokaaW.PrintWords Go.Proofs.YtcnllhnhinmokaaW.PrintLast Go.Proofs.YtcnllhnhinmokaaW.PrintMore
attribute [local go_sem] max2_int min2_int max_two min_two max_three min_three max_four min_four
set_option linter.unusedVariables false
set_option linter.unusedSimpArgs false
def manystrandref01_inside.l0 : Nat → ByteArray → Int → Int → Option (Bool)
 | 0, _, _, _ => none
 | k + 1, x0, x1, x5 => if x5 < (x0.size : Int) then (if 0 ≤ x5 then (if (bt x0 x5) = 10 then (manystrandref01_inside.l0 k x0 x1 (wrap64 (x5 + 1))) else (if (bt x0 x5) < 32 then (some false) else (if (bt x0 x5) > 126 then (some false) else (manystrandref01_inside.l0 k x0 x1 (wrap64 (x5 + 1)))))) else (none)) else (some (decide ((x0.size : Int) ≤ x1)))
def manystrandref01_inside.f (k : Nat) (a0 : ByteArray) (a1 : Int) : Option (Bool) := manystrandref01_inside.l0 k a0 a1 0
set_option maxHeartbeats 8000000 in
set_option maxRecDepth 100000 in
theorem manystrandref01_inside.calls (k : Nat) (a0 : ByteArray) (a1 : Int) (r : Bool) (w : World) (h : manystrandref01_inside.f k a0 a1 = some r) :
 Calls Try.prog 134 #[.string a0, .int .i64 a1] w fun e w' => e = .returned (.bool r) ∧ Drawn0 w w' := by
 have H : (manystrandref01_inside.l0 k a0 a1 0) = some r := h
 clear h
 have H' := Aside0.mk H
 clear H
 go_enter Try.func134, Try.ntmps134
 go_wp2
 go_loopg [5] k (fun kq v5 w' => ∃ (x5_1 : Int), v5 = .int .i64 x5_1 ∧ Aside0 (manystrandref01_inside.l0 kq a0 a1 x5_1 = some r) ∧ Aside0 (kq ≤ k) ∧ Drawn0 w w')
 case atStart => exact ⟨(0), rfl, H', ⟨Nat.le_refl _⟩, by repeat (first | exact Drawn0.refl _)⟩
 case round =>
  clear H'
  obtain ⟨x5_1, rfl, HA, HK1, ⟨m1, rfl⟩⟩ := hrel
  cases gk with
  | zero => exact absurd HA.out (by simp [manystrandref01_inside.l0])
  | succ k1 =>
   have H := HA.out
   clear HA
   simp only [manystrandref01_inside.l0] at H
   by_cases c3 : x5_1 < (a0.size : Int)
   rotate_left
   · rw [if_neg c3] at H
     have c3b0 := decide_eq_false c3
     clear c3
     obtain rfl := Option.some.inj H
     go_wp2
     go_ret
     exact ⟨by first | rfl, by repeat (first | exact Drawn0.refl _ | apply Drawn0.step)⟩
   rw [if_pos c3] at H
   have c3b0 := decide_eq_true c3
   clear c3
   obtain ⟨c4, H⟩ := gd H
   have c4b0 := decide_eq_true c4
   clear c4
   by_cases c6 : (bt a0 x5_1) = 10
   · rw [if_pos c6] at H
     have c6b0 := beq_iff_eq.mpr c6
     have c6b1 := bne_eq_false_iff_eq.mpr c6
     clear c6
     have H' := Aside0.mk H
     clear H
     have p5 : 0 ≤ (x5_1 : Int) := of_decide_eq_true (by assumption)
     have q5 : x5_1 < (a0.size : Int) := of_decide_eq_true (by assumption)
     have hx5 := bt_at a0 x5_1
     replace p5 := eq_true p5
     replace q5 := eq_true q5
     go_wp2
     go_roundg k1
     case measure => have := HK1.out; omega
     case rel => exact ⟨(wrap64 (x5_1 + 1)), rfl, H', ⟨by have := HK1.out; omega⟩, by repeat (first | exact Drawn0.refl _ | apply Drawn0.step)⟩
   rw [if_neg c6] at H
   have c6b0 := beq_eq_false_iff_ne.mpr c6
   have c6b1 := bne_iff_ne.mpr c6
   by_cases c8 : (bt a0 x5_1) < 32
   · rw [if_pos c8] at H
     have c8b0 := decide_eq_true c8
     clear c8
     obtain rfl := Option.some.inj H
     have p5 : 0 ≤ (x5_1 : Int) := of_decide_eq_true (by assumption)
     have q5 : x5_1 < (a0.size : Int) := of_decide_eq_true (by assumption)
     have hx5 := bt_at a0 x5_1
     replace p5 := eq_true p5
     replace q5 := eq_true q5
     have p7 : 0 ≤ (x5_1 : Int) := of_decide_eq_true (by assumption)
     have q7 : x5_1 < (a0.size : Int) := of_decide_eq_true (by assumption)
     have hx7 := bt_at a0 x5_1
     replace p7 := eq_true p7
     replace q7 := eq_true q7
     go_wp2
     go_ret
     exact ⟨by first | rfl, by repeat (first | exact Drawn0.refl _ | apply Drawn0.step)⟩
   rw [if_neg c8] at H
   have c8b0 := decide_eq_false c8
   clear c8
   by_cases c10 : (bt a0 x5_1) > 126
   · rw [if_pos c10] at H
     have c10b0 := decide_eq_true c10
     clear c10
     obtain rfl := Option.some.inj H
     have p5 : 0 ≤ (x5_1 : Int) := of_decide_eq_true (by assumption)
     have q5 : x5_1 < (a0.size : Int) := of_decide_eq_true (by assumption)
     have hx5 := bt_at a0 x5_1
     replace p5 := eq_true p5
     replace q5 := eq_true q5
     have p7 : 0 ≤ (x5_1 : Int) := of_decide_eq_true (by assumption)
     have q7 : x5_1 < (a0.size : Int) := of_decide_eq_true (by assumption)
     have hx7 := bt_at a0 x5_1
     replace p7 := eq_true p7
     replace q7 := eq_true q7
     have p9 : 0 ≤ (x5_1 : Int) := of_decide_eq_true (by assumption)
     have q9 : x5_1 < (a0.size : Int) := of_decide_eq_true (by assumption)
     have hx9 := bt_at a0 x5_1
     replace p9 := eq_true p9
     replace q9 := eq_true q9
     go_wp2
     go_ret
     exact ⟨by first | rfl, by repeat (first | exact Drawn0.refl _ | apply Drawn0.step)⟩
   rw [if_neg c10] at H
   have c10b0 := decide_eq_false c10
   clear c10
   have H' := Aside0.mk H
   clear H
   have p5 : 0 ≤ (x5_1 : Int) := of_decide_eq_true (by assumption)
   have q5 : x5_1 < (a0.size : Int) := of_decide_eq_true (by assumption)
   have hx5 := bt_at a0 x5_1
   replace p5 := eq_true p5
   replace q5 := eq_true q5
   have p7 : 0 ≤ (x5_1 : Int) := of_decide_eq_true (by assumption)
   have q7 : x5_1 < (a0.size : Int) := of_decide_eq_true (by assumption)
   have hx7 := bt_at a0 x5_1
   replace p7 := eq_true p7
   replace q7 := eq_true q7
   have p9 : 0 ≤ (x5_1 : Int) := of_decide_eq_true (by assumption)
   have q9 : x5_1 < (a0.size : Int) := of_decide_eq_true (by assumption)
   have hx9 := bt_at a0 x5_1
   replace p9 := eq_true p9
   replace q9 := eq_true q9
   go_wp2
   go_roundg k1
   case measure => have := HK1.out; omega
   case rel => exact ⟨(wrap64 (x5_1 + 1)), rfl, H', ⟨by have := HK1.out; omega⟩, by repeat (first | exact Drawn0.refl _ | apply Drawn0.step)⟩
set_option maxHeartbeats 8000000 in
set_option maxRecDepth 100000 in
theorem manystrandref01_ValidAtom.calls (k : Nat) (a0_1 : ByteArray) (a0_2 : Int) (r : Bool) (w : World) (h : manystrandref01_inside.f k a0_1 60 = some r) :
 Calls Try.prog 117 #[.agg #[.string (⟨#[97, 116, 111, 109]⟩ : ByteArray), .string a0_1, .int .i64 a0_2]] w fun e w' => e = .returned (.bool r) ∧ Below w.heap.size w w' := by
 have hu164 := Try.underlying164
 have HB := Aside0.mk (Below.refl w.heap.size w)
 have c2b0 : ((⟨#[97, 116, 111, 109]⟩ : ByteArray).toList == ([118, 97, 114] : List UInt8)) = false := by rw [ByteArray.toList_eq]; rfl
 have c2b1 : ((⟨#[97, 116, 111, 109]⟩ : ByteArray).toList != ([118, 97, 114] : List UInt8)) = true := by rw [ByteArray.toList_eq]; rfl
 have c6b0 : ((⟨#[97, 116, 111, 109]⟩ : ByteArray).toList == ([97, 116, 111, 109] : List UInt8)) = true := by rw [ByteArray.toList_eq]; rfl
 have c6b1 : ((⟨#[97, 116, 111, 109]⟩ : ByteArray).toList != ([97, 116, 111, 109] : List UInt8)) = false := by rw [ByteArray.toList_eq]; rfl
 have A14 := Aside0.mk h
 go_enter Try.func117, Try.ntmps117
 go_wp2_with (first | ((with_reducible refine gate_dst (N := 1) rfl ?_); refine box_event ?hg (N := 1) ?hd (cs := #[.string (⟨#[97, 116, 111, 109]⟩ : ByteArray), .string a0_1, .int .i64 a0_2]) (t := 164) ?hr ?_; (case hd => rfl); (case hg => rfl); (case hr => (go_simp; done)); intro gb117 hg w8 hbox hb; have n0_ := Aside0.mk (below_step HB.out hb); have n1_ := Aside0.mk (hbox); have n2_ := Aside0.mk ((by rw [hg]; exact (below_size HB.out) : w.heap.size ≤ gb117)); have n3_ := Aside0.mk ((by rw [hg]; exact (below_size HB.out) : w.heap.size ≤ gb117)); clear HB; have HB := n0_; have BK117 := n1_; have GW117 := n2_; have GE117 := n3_; clear n0_ n1_ n2_ n3_; clear hb hbox hg; have hcz9_0 : w8.cell? ⟨gb117, 0, none⟩ = some (.string (⟨#[97, 116, 111, 109]⟩ : ByteArray)) := (blk_cell BK117.out 0).trans rfl; have hcz9_1 : w8.cell? ⟨gb117, 1, none⟩ = some (.string a0_1) := (blk_cell BK117.out 1).trans rfl; have hcz9_2 : w8.cell? ⟨gb117, 2, none⟩ = some (.int .i64 a0_2) := (blk_cell BK117.out 2).trans rfl; have hfz9_0 := blk_frozen BK117.out 0; have hfz9_1 := blk_frozen BK117.out 1; have hfz9_2 := blk_frozen BK117.out 2) | ((with_reducible refine gate_callee (f := 134) rfl ?_); refine goesL_ (some 14) rfl rfl Try.func134 (by kernel_rfl) rfl #[.string a0_1, .int .i64 60] rfl (by (try simp only [List.map_toArray, List.map_cons, List.map_nil]); first | rfl) ?_; (with_reducible refine (manystrandref01_inside.calls k a0_1 60 r _ A14.out).mono ?_); rintro e w' ⟨rfl, ⟨nd, rfl⟩⟩; refine ⟨_, rfl, ?_⟩))
 go_ret
 exact ⟨by first | rfl, by repeat ((with_reducible first | exact HB.out | apply pw_below_drewN))⟩
def manystrandref02_IsAtom.f (k : Nat) (a0 : ByteArray) : Option (Bool) := (manystrandref01_inside.f k a0 60).bind fun t125 => (some t125)
set_option maxHeartbeats 8000000 in
set_option maxRecDepth 100000 in
theorem manystrandref02_IsAtom.calls (k : Nat) (a0 : ByteArray) (r : Bool) (w : World) (h : manystrandref02_IsAtom.f k a0 = some r) :
 Calls Try.prog 96 #[.string a0] w fun e w' => e = .returned (.bool r) ∧ Below w.heap.size w w' := by
 have hu164 := Try.underlying164
 have HB := Aside0.mk (Below.refl w.heap.size w)
 have H : ((manystrandref01_inside.f k a0 60).bind fun t125 => (some t125)) = some r := h
 clear h
 replace H := Option.bind_eq_some_iff.mp H
 obtain ⟨t125, A20, H⟩ := H
 have A2 := Aside0.mk A20
 clear A20
 obtain rfl := Option.some.inj H
 go_enter Try.func96, Try.ntmps96
 go_wp2_with (((with_reducible refine gate_callee (f := 117) rfl ?_); refine goesL_ (some 5) rfl rfl Try.func117 (by kernel_rfl) rfl #[.agg #[.string (⟨#[97, 116, 111, 109]⟩ : ByteArray), .string a0, .int .i64 0]] rfl (by (try simp only [List.map_toArray, List.map_cons, List.map_nil]); first | rfl) ?_; (with_reducible refine (manystrandref01_ValidAtom.calls k a0 0 t125 _ A2.out).mono ?_); rintro e w3 ⟨rfl, hb⟩; refine ⟨_, rfl, ?_⟩; have n0_ := Aside0.mk (below_step HB.out hb); clear HB; have HB := n0_; clear n0_; (try clear hb)))
 go_ret
 exact ⟨by first | rfl, by exact HB.out⟩
end Go.Proofs.Ytcnllhnhinmokaa.PHGr
end
