/- An evaluator of the loaded code over a heap of its own, and the proof that what it reckons is what the machine does. Part 3 of 4. -/
import Derived.Test.YtmkpkmijbpnjjaaGreatDoorEv1
import Derived.Laws.BytesArg
set_option linter.unusedVariables false
set_option linter.unusedSimpArgs false

namespace Go.Ev
open Go.RowKit
variable {P : Program} {ρ : Rho} {N : Bs} {h : Hp} {w : World} {a : A} {act : Act}

/-- What an operation puts into its place. -/
def Lands (nx : Next) (v : Value) : Prop := nx = .value v ∨ (nx = .skip ∧ v = undef)

/-- An operation of the machine comes to what was reckoned: v, and the heap h1. -/
def Does (P : Program) (ρ : Rho) (N : Bs) (w : World) (r : Result Next) (v : Value) (h1 : Hp) : Prop :=
  ∃ ρ1 w1 nx v', ρ.le ρ1 ∧ r = .ok nx w1 ∧ Lands nx v' ∧ VR ρ1 v v' ∧ HR P ρ1 N h1 w1 ∧ Below N w w1

theorem does_value {s : Sem Value} {v : Value} {h1 : Hp} (hs : ∃ ρ1 w1 v', ρ.le ρ1 ∧ s.run P w = .ok v' w1 ∧ VR ρ1 v v' ∧ HR P ρ1 N h1 w1 ∧ Below N w w1) :
    Does P ρ N w ((do pure (.value (← s)) : Sem Next).run P w) v h1 := by
  obtain ⟨ρ1, w1, v', h1, h2, h3, h4, h5⟩ := hs
  exact ⟨ρ1, w1, _, v', h1, by simp [h2], .inl rfl, h3, h4, h5⟩
theorem does_unit {s : Sem Unit} {h1 : Hp} (hs : ∃ w1, s.run P w = .ok () w1 ∧ HR P ρ N h1 w1 ∧ Below N w w1) :
    Does P ρ N w ((do s; pure .skip : Sem Next).run P w) undef' h1 := by
  obtain ⟨w1, h2, h4, h5⟩ := hs
  exact ⟨ρ, w1, .skip, undef, Rho.le_refl ρ, by simp [h2], .inr ⟨rfl, rfl⟩, .tuple .nil, h4, h5⟩

theorem alloc_push (w : World) (o : Obj) : { w with heap := w.heap.push o } = w.alloc o := rfl

theorem newRow_eq (e : TypeId) (c' : Array Value) (w : World) : (newRow e c').run P w = .ok ⟨w.heap.size, 0, none⟩ (w.alloc (.cells c' e)) := rfl

/-- What a maker says: the machine allocates an object that is as told, and names it. -/
def Makes (P : Program) (ρ : Rho) (s : Sem Value) (ob : CObj) (f : Nat → Value) : Prop :=
  ∃ (o' : Obj) (m : Nat) (f' : Nat → Value), (∀ w : World, s.run P w = .ok (f' w.heap.size) (w.alloc o')) ∧ (∀ (ρ1 : Rho) (b : Nat), ρ.le ρ1 → ObjR P ρ1 ⟨b, 0, m, 0, true⟩ ob o') ∧
    (∀ (ρ1 : Rho) (g b : Nat), ρ1 g = some ⟨b, 0, m, 0, true⟩ → VR ρ1 (f g) (f' b)) ∧ famFree ob = true

theorem famFree_eq {ob : CObj} (h : famFree ob = true) (r : Row) (e : ob = .cells r) : r.fam = 0 := by
  subst e
  simpa [famFree] using h

theorem makes_row {s : Sem Value} {e : TypeId} {c : List Value} {c' : Array Value} (hc : VRs ρ c c'.toList) {f f' : Nat → Value} (hs : ∀ w : World, s.run P w = .ok (f' w.heap.size) (w.alloc (.cells c' e)))
    (hf : ∀ (ρ1 : Rho) (g b : Nat) (i : Img), AR ρ1 ⟨g, 0, none⟩ ⟨b, 0, none⟩ i → VR ρ1 (f g) (f' b)) : Makes P ρ s (.cells ⟨c, e, 0, 0, false⟩) f := by
  refine ⟨_, c'.size, f', hs, fun ρ1 b hle => ?_, fun ρ1 g b hg => hf ρ1 g b _ ⟨rfl, hg, by simp⟩, rfl⟩
  have hl : c'.size = c.length := by rw [← Array.length_toList]; exact hc.length
  refine ⟨rfl, by simp [hl], by simp, fun k v hk => ?_, fun k _ => by simp, fun _ => ⟨rfl, rfl⟩, fun hx => by cases hx⟩
  obtain ⟨v', h1, h2⟩ := hc.get hk
  exact ⟨v', by simpa using h1, h2.mono hle⟩

theorem size_of_VRs {c : List Value} {c' : Array Value} (hc : VRs ρ c c'.toList) : c'.size = c.length := by rw [← Array.length_toList]; exact hc.length

theorem repeat_get (z : List Value) (hz : 0 < z.length) : ∀ (n k : Nat), (repeatN z n)[k]? = if k < n * z.length then z[k % z.length]? else none
  | 0, k => by simp [repeatN]
  | n + 1, k => by
    have hs : (n + 1) * z.length = n * z.length + z.length := Nat.succ_mul _ _
    simp only [repeatN]
    by_cases hk : k < z.length
    · rw [List.getElem?_append_left hk, if_pos (by omega), Nat.mod_eq_of_lt hk]
    · rw [List.getElem?_append_right (by omega), repeat_get z hz n]
      by_cases h2 : k - z.length < n * z.length
      · rw [if_pos h2, if_pos (by omega)]
        congr 1
        conv => rhs; rw [show k = (k - z.length) + z.length by omega]
        rw [Nat.add_mod_right]
      · rw [if_neg h2, if_neg (by omega)]

theorem range_repeat (z : Array Value) (hz : 0 < z.size) (n : Nat) : ((Array.range (n * z.size)).map (fun i => z[i % z.size]!)).toList = repeatN z.toList n := by
  apply List.ext_getElem?
  intro k
  rw [repeat_get z.toList (by simpa using hz) n k]
  simp only [Array.toList_map, Array.toList_range, List.getElem?_map, Array.length_toList, List.getElem?_range]
  by_cases hk : k < n * z.size
  · have hlt : k % z.size < z.size := Nat.mod_lt _ hz
    simp [hk, Array.getElem?_eq_getElem hlt, getElem!_pos z (k % z.size) hlt]
  · simp [hk]

theorem range0 {α : Type} (f : Nat → α) : (Array.range 0).map f = #[] := by
  apply Array.ext'
  simp

theorem repeat_VRs {z : List Value} (hz : VRs ρ z z) : ∀ n, VRs ρ (repeatN z n) (repeatN z n)
  | 0 => .nil
  | n + 1 => hz.append (repeat_VRs hz n)

theorem zero_VR {t : TypeId} {z : Value} (h : zero' P t = some z) : VR ρ z z := by
  unfold zero' at h
  split at h
  · split at h
    · split at h
      · rename_i hp
        injection h with h
        subst h
        exact plain_VR 9 _ hp
      · cases h
    · cases h
  · cases h

theorem buildSlice_makes {t : TypeId} {len : Nat} {ps : List (Nat × Value)} {ps' : Array (Nat × Value)} (hps : PRs ρ ps ps'.toList) {ob : CObj} {f : Nat → Value} (hv : buildRow' P t len ps = some (ob, f)) :
    Makes P ρ (Instr.buildSlice t len ps') ob f := by
  unfold buildRow' at hv
  split at hv
  · rename_i e hu
    split at hv
    · rename_i s z hs hz
      split at hv
      · rename_i hlen hpos hbig
        split at hv
        · rename_i c hf
          injection hv with hv
          injection hv with hv1 hv2
          subst hv1
          subst hv2
          have hzv : VR ρ z z := zero_VR hz
          have e1 : z.cells.size = s := by rw [← Array.length_toList]; exact nbeq_true hlen
          have e2 : 0 < s := by simpa [Nat.blt_eq] using hpos
          have e3 : len * s ≤ 100000 := by simpa using hbig
          have hrange := range_repeat z.cells (by omega) len
          rw [e1] at hrange
          obtain ⟨c', h3, h4⟩ := fill_run (place' := fun i => some (i * s, s)) (fun _ _ hp => hp) hps (c' := (Array.range (len * s)).map (fun i => z.cells[i % z.cells.size]!)) hf
            (by rw [e1, hrange]; exact repeat_VRs hzv.cells len)
          refine makes_row (c' := c') (f' := fun b => .slice (some ⟨b, 0, none⟩) len len) h4 (fun w => ?_) (fun ρ1 g b i ha => .sl ha (.inl rfl))
          obtain ⟨hzr, _⟩ := zero_run (w := w) (ρ := ρ) hz
          obtain ⟨hsr, _⟩ := size_some (w := w) hs
          have r1 := newRow_eq (P := P) e c' w
          have hno : ¬ (len * s > 2 ^ 24) := by
            have : (2 : Nat) ^ 24 = 16777216 := by decide
            omega
          by_cases h0 : len * s = 0
          · rw [h0, range0] at h3
            simp only [Instr.buildSlice, Sem.run_bind, run_und hu, Result.andThen_ok, hsr]
            rw [if_neg hno, if_pos h0]
            simp only [Sem.run_bind, Sem.run_pure, Result.andThen_ok, h0, range0, h3, r1]
          · simp only [Instr.buildSlice, Sem.run_bind, run_und hu, Result.andThen_ok, hsr]
            rw [if_neg hno, if_neg h0]
            simp [hzr, h3, r1]
        · cases hv
      · cases hv
    · cases hv
  · cases hv

theorem makeSlice_makes {t : TypeId} {l c l' c' : Value} (hl : VR ρ l l') (hc : VR ρ c c') {ob : CObj} {f : Nat → Value} (hv : makeRow' P t l c = some (ob, f)) :
    Makes P ρ (Instr.makeSlice t l' c') ob f := by
  unfold makeRow' at hv
  split at hv
  · rename_i e n m hu hn hm
    obtain ⟨k1, rfl⟩ := natOf_VR hl hn
    obtain ⟨k2, rfl⟩ := natOf_VR hc hm
    split at hv
    · rename_i i z hi hz
      split at hv
      · rename_i hlen hpos hbig hby hle
        split at hv
        · rename_i hmm
          injection hv with hv
          injection hv with hv1 hv2
          subst hv1
          subst hv2
          have hzv : VR ρ z z := zero_VR hz
          have e1 : z.cells.size = i.size := by rw [← Array.length_toList]; exact nbeq_true hlen
          have e2 : 0 < i.size := by simpa [Nat.blt_eq] using hpos
          have e3 : m * i.bytes ≤ 100000000 := by simpa using hby
          have e4 : n ≤ m := by simpa using hle
          have e5 : m ≤ 100000 := by simpa using hmm
          have hrange := range_repeat z.cells (by omega) m
          rw [e1] at hrange
          refine makes_row (c' := (Array.range (m * i.size)).map (fun k => z.cells[k % z.cells.size]!)) (f' := fun b => .slice (some ⟨b, 0, none⟩) n m) (by rw [e1, hrange]; exact repeat_VRs hzv.cells m) (fun w => ?_) (fun ρ1 g b i ha => .sl ha (.inl rfl))
          obtain ⟨hzr, _⟩ := zero_run (w := w) (ρ := ρ) hz
          have r1 := newRow_eq (P := P) e ((Array.range (m * i.size)).map (fun k => z.cells[k % z.cells.size]!)) w
          have w1 : IntKind.i64.wrap (n : Int) = n := by
            unfold IntKind.wrap IntKind.bits IntKind.signed
            simp
            omega
          have w2 : IntKind.i64.wrap (m : Int) = m := by
            unfold IntKind.wrap IntKind.bits IntKind.signed
            simp
            omega
          have t1 : ¬ ((m : Int) < 0 ∨ ((i.bytes : Int) * (m : Int) > 2 ^ 48)) := by
            have h48 : (2 : Int) ^ 48 = 281474976710656 := by decide
            have : (i.bytes : Int) * (m : Int) = ((m * i.bytes : Nat) : Int) := by rw [Nat.mul_comm]; simp
            rw [this, h48]
            omega
          have t2 : ¬ ((n : Int) < 0) := by omega
          have t3 : ¬ ((n : Int) > (m : Int)) := by omega
          simp only [Instr.makeSlice, Sem.run_bind, run_und hu, Result.andThen_ok, asInt, asIntOf, Sem.run_pure, run_info hi, w1, w2]
          have t4 : (decide ((m : Int) < 0) || decide ((i.bytes : Int) * (m : Int) > 2 ^ 48) || decide ((n : Int) < 0) || decide ((n : Int) > (m : Int))) = false := by
            rw [not_or] at t1
            simp only [Bool.or_eq_false_iff, decide_eq_false_iff_not]
            exact ⟨⟨⟨t1.1, t1.2⟩, t2⟩, t3⟩
          rw [t4]
          simp only [Bool.false_eq_true, if_false, Sem.run_bind, run_askRoom, Result.andThen_ok, run_size hi, Int.toNat_natCast, Sem.run_ite]
          by_cases h0 : m * i.size = 0
          · rw [h0, range0] at r1
            rw [if_pos h0]
            simp only [Sem.run_pure, Result.andThen_ok, h0, range0, Sem.run_bind]
            simp [r1]
          · rw [if_neg h0]
            simp [hzr, r1]
        · cases hv
      · cases hv
    · cases hv
  · cases hv

theorem store_run (H : HR P ρ N h w) {t : TypeId} {p p' : Addr} {i : Img} (hp : AR ρ p p' i) {v v' : Value} (hvv : VR ρ v v') {h1 : Hp} (hs : storeVar' P h t p v = some h1) :
    ∃ w1, (Instr.storeAt t (.pointer (some p')) v').run P w = .ok () w1 ∧ HR P ρ N h1 w1 ∧ Below N w w1 := by
  unfold storeVar' at hs
  split at hs
  · rename_i j hj
    split at hs
    · rename_i hl
      have e1 : v'.cells.size = j.size := by rw [size_of_VRs hvv.cells]; exact nbeq_true hl
      obtain ⟨w1, r1, r2, r3⟩ := H.stores (.inr ⟨i, hp⟩) hvv.cells hs
      refine ⟨w1, ?_, r2, r3⟩
      simp [Instr.storeAt, Instr.sureAddr, storeVar, run_size hj, e1, r1]
    · cases hs
  · cases hs

end Go.Ev

namespace Go.Ev
open Go.RowKit
variable {P : Program} {ρ : Rho} {N : Bs} {h : Hp} {w : World} {a : A} {act : Act}

theorem setObj_run {r : Nat} {o o' : Obj} (hw : w.heap[r]? = some o) (hno : ∀ c e f, o ≠ .cells c e f) : (setObj r o').run P w = .ok () (World.putBlock w r o') := by
  cases o <;> first
    | (exact absurd rfl (hno _ _ _))
    | (simp [setObj, Sem.run, hw, World.putBlock]; done)

theorem sameKey_bits : ∀ (n : Nat) (x y x' y' : Value), sameKey n x y = true → VR ρ x x' → VR ρ y y' → ∀ D, n ≤ D → Instr.sameBits D x' y' = true := by
  intro n
  induction n with
  | zero =>
    intro x y x' y' hs hx hy D hD
    unfold sameKey at hs
    split at hs
    · cases hx; cases hy; cases D <;> simpa [Instr.sameBits] using hs
    · cases hx; cases hy
      simp only [Bool.and_eq_true, intEq_beq] at hs
      have := kindEq_eq hs.1
      subst this
      cases D <;> simp [Instr.sameBits, hs.2] <;> simpa using hs.2
    · cases hx; cases hy
      rw [bytesEq_beq] at hs
      have : ∀ s u : ByteArray, (s.data.toList == u.data.toList) = true → (s == u) = true := by
        intro s u e
        rw [beq_toListBytes, ByteArray.toList_eq, ByteArray.toList_eq]
        exact e
      cases D <;> simpa [Instr.sameBits] using this _ _ hs
    · cases hx; cases hy; cases D <;> rfl
    · rename_i e; cases e
    · rename_i e; cases e
    · cases hs
  | succ n ih =>
    intro x y x' y' hs hx hy D hD
    obtain ⟨D, rfl⟩ : ∃ k, D = k + 1 := ⟨D - 1, by omega⟩
    unfold sameKey at hs
    split at hs
    · cases hx; cases hy; simpa [Instr.sameBits] using hs
    · cases hx; cases hy
      simp only [Bool.and_eq_true, intEq_beq] at hs
      have := kindEq_eq hs.1
      subst this
      simp [Instr.sameBits]
      simpa using hs.2
    · cases hx; cases hy
      rw [bytesEq_beq] at hs
      have : ∀ s u : ByteArray, (s.data.toList == u.data.toList) = true → (s == u) = true := by
        intro s u e
        rw [beq_toListBytes, ByteArray.toList_eq, ByteArray.toList_eq]
        exact e
      simpa [Instr.sameBits] using this _ _ hs
    · cases hx; cases hy; rfl
    · rename_i t v u v2 e
      injection e with e
      subst e
      cases hx with
      | iface hx =>
      cases hy with
      | iface hy =>
      simp only [Bool.and_eq_true] at hs
      have e1 := nbeq_true hs.1
      subst e1
      simp [Instr.sameBits, ih _ _ _ _ hs.2 hx hy D (by omega)]
    · rename_i b c e
      injection e with e
      subst e
      cases hx with
      | agg hx =>
      rename_i b'
      cases hy with
      | agg hy =>
      rename_i c'
      simp only [Bool.and_eq_true] at hs
      have e1 := nbeq_true hs.1
      have e2 : b'.size = c'.size := by rw [size_of_VRs hx, size_of_VRs hy]; exact e1
      have aux : ∀ {l m l' m' : List Value}, VRs ρ l l' → VRs ρ m m' → ((l.zip m).all fun (x, y) => sameKey n x y) = true → ((l'.zip m').all fun (x, y) => Instr.sameBits D x y) = true := by
        intro l
        induction l with
        | nil => intro m l' m' hl hm _; cases hl; simp
        | cons p l ihl =>
          intro m l' m' hl hm hall
          cases hl with
          | cons hp hl =>
          cases hm with
          | nil => simp
          | cons hq hm =>
            simp only [List.zip_cons_cons, List.all_cons, Bool.and_eq_true] at hall ⊢
            exact ⟨ih _ _ _ _ hall.1 hp hq D (by omega), ihl hl hm hall.2⟩
      simp only [Instr.sameBits, e2, beq_self_eq_true, Bool.true_and]
      exact aux hx hy hs.2
    · cases hs

theorem MRs.append {l l' m m' : List MapEntry} (h : MRs ρ l l') (k : MRs ρ m m') : MRs ρ (l ++ m) (l' ++ m') := by
  induction h with
  | nil => exact k
  | cons a b c _ ih => exact .cons a b c ih
theorem MRs.setAt {f f' : MapEntry → MapEntry} (hf : ∀ e e', VR ρ e.key e'.key → VR ρ e.val e'.val → e'.born = e.born → VR ρ (f e).key (f' e').key ∧ VR ρ (f e).val (f' e').val ∧ (f' e').born = (f e).born) :
    ∀ {l l' : List MapEntry}, MRs ρ l l' → ∀ i, MRs ρ (Go.Ev.setAt f l i) (l'.modify i f')
  | _, _, .nil, i => by cases i <;> exact .nil
  | _, _, .cons a b c k, 0 => by
    obtain ⟨h1, h2, h3⟩ := hf _ _ a b c
    exact .cons h1 h2 h3 k
  | _, _, .cons a b c k, i + 1 => by
    have := MRs.setAt hf k i
    exact .cons a b c this
theorem MRs.erase : ∀ {l l' : List MapEntry}, MRs ρ l l' → ∀ i, MRs ρ (l.eraseIdx i) (l'.eraseIdx i)
  | _, _, .nil, i => by simpa using MRs.nil
  | _, _, .cons a b c k, 0 => by simpa using k
  | _, _, .cons a b c k, i + 1 => by simpa using MRs.cons a b c (MRs.erase k i)

theorem keyStays_run {x y x' y' : Value} (hs : sameKey 40 x y = true) (hx : VR ρ x x') (hy : VR ρ y y') : (Instr.keyThatStays x' y').run P w = .ok y' w := by
  simp [Instr.keyThatStays, sameKey_bits 40 x y x' y' hs hx hy 10000 (by omega)]

/-- A map's block is given new entries. -/
theorem putMap (H : HR P ρ N h w) {r : Nat} {i : Img} (hi : ρ r = some i) {es es1 : List MapEntry} {k k1 : Nat} {es1' : Array MapEntry} (hget : h.objs.get r = some (.map es k)) (hR : MRs ρ es1 es1'.toList) :
    HR P ρ N (h.put r (.map es1 k1)) (World.putBlock w i.b (.map es1' k1)) ∧ Below N w (World.putBlock w i.b (.map es1' k1)) :=
  H.put_alone hi hget (fun _ e => by cases e) (fun _ e => by cases e) ⟨hR, rfl⟩

theorem mapUpdate_run (W : WfP P) (H : HR P ρ N h w) {t : TypeId} {m m' k k' v v' : Value} (hm : VR ρ m m') (hk : VR ρ k k') (hvv : VR ρ v v') {h1 : Hp} (hs : mapUpdate' P h t m k v = some h1) :
    ∃ w1, (Instr.mapUpdate t m' k' v').run P w = .ok () w1 ∧ HR P ρ N h1 w1 ∧ Below N w w1 := by
  unfold mapUpdate' at hs
  split at hs
  · rename_i kt et r hu
    cases hm with
    | @map _ i hi =>
    split at hs
    · rename_i es clock hmp hko
      obtain ⟨es', hw, hMR, hget⟩ := H.map? hmp hi
      obtain ⟨kind, hkd⟩ := und_of_keyOk hko
      have hck := checkKey_run (w := w) W 40 kt k k' hko hk 10000 (by omega) false
      have hset := fun o' => setObj_run (P := P) (o' := o') hw (fun _ _ _ e => by cases e)
      split at hs
      · rename_i j u hf
        obtain ⟨res', h2, h3⟩ := findKey_run H hk hMR hf hkd
        split at hs
        · rename_i e he
          split at hs
          · rename_i hsk
            injection hs with hs
            subst hs
            cases h3 with
            | some hu3 =>
            obtain ⟨e', g1, g2, g3, g4⟩ := hMR.get he
            have g1' : es'[j]? = some e' := by simpa using g1
            have hR2 : MRs ρ (Go.Ev.setAt (fun e => { e with key := k, val := v }) es j) (es'.modify j fun e => { e with key := k', val := v' }).toList := by
              rw [Array.toList_modify]
              exact MRs.setAt (f := fun e => { e with key := k, val := v }) (f' := fun e => { e with key := k', val := v' }) (fun e e' _ _ hb => ⟨hk, hvv, hb⟩) hMR j
            obtain ⟨r1, r2⟩ := putMap (k1 := clock) H hi hget hR2
            refine ⟨_, ?_, r1, r2⟩
            have hks := keyStays_run (P := P) (w := w) hsk g2 hk
            simp [Instr.mapUpdate, run_und hu, run_getMap hw, hck, h2, g1', hks, hset]
          · cases hs
        · cases hs
      · rename_i hf
        obtain ⟨res', h2, h3⟩ := findKey_run H hk hMR hf hkd
        injection hs with hs
        subst hs
        cases h3 with
        | none =>
        have hR2 : MRs ρ (es ++ [⟨k, v, clock⟩]) (es'.push ⟨k', v', clock⟩).toList := by
          rw [Array.toList_push]
          exact hMR.append (.cons hk hvv rfl .nil)
        obtain ⟨r1, r2⟩ := putMap (k1 := clock + 1) H hi hget hR2
        refine ⟨_, ?_, r1, r2⟩
        simp [Instr.mapUpdate, run_und hu, run_getMap hw, hck, h2, hset]
      · cases hs
    · cases hs
  · cases hs

theorem mapEntry_run (W : WfP P) (H : HR P ρ N h w) {t : TypeId} {m m' k k' : Value} (hm : VR ρ m m') (hk : VR ρ k k') {v : Value} {h1 : Hp} (hs : mapEntry' P h t m k = some (v, h1)) :
    ∃ ρ1 w1 v', ρ.le ρ1 ∧ (Instr.mapEntry t m' k').run P w = .ok v' w1 ∧ VR ρ1 v v' ∧ HR P ρ1 N h1 w1 ∧ Below N w w1 := by
  unfold mapEntry' at hs
  split at hs
  · rename_i kt et r hu
    cases hm with
    | @map _ i hi =>
    split at hs
    · rename_i es clock hmp hko
      obtain ⟨es', hw, hMR, hget⟩ := H.map? hmp hi
      obtain ⟨kind, hkd⟩ := und_of_keyOk hko
      have hck := checkKey_run (w := w) W 40 kt k k' hko hk 10000 (by omega) false
      have hset := fun o' => setObj_run (P := P) (o' := o') hw (fun _ _ _ e => by cases e)
      split at hs
      · rename_i j u hf
        obtain ⟨res', h2, h3⟩ := findKey_run H hk hMR hf hkd
        split at hs
        · rename_i e he
          split at hs
          · rename_i hsk
            injection hs with hs
            injection hs with hs1 hs2
            subst hs1
            subst hs2
            cases h3 with
            | some hu3 =>
            obtain ⟨e', g1, g2, g3, g4⟩ := hMR.get he
            have g1' : es'[j]? = some e' := by simpa using g1
            have hR2 : MRs ρ (Go.Ev.setAt (fun e => { e with key := k }) es j) (es'.modify j fun e => { e with key := k' }).toList := by
              rw [Array.toList_modify]
              exact MRs.setAt (f := fun e => { e with key := k }) (f' := fun e => { e with key := k' }) (fun e e' _ hv hb => ⟨hk, hv, hb⟩) hMR j
            obtain ⟨r1, r2⟩ := putMap (k1 := clock) H hi hget hR2
            have hks := keyStays_run (P := P) (w := w) hsk g2 hk
            refine ⟨ρ, _, _, Rho.le_refl ρ, ?_, .tuple (c := #[u, .int .i64 e.born]) (c' := #[_, .int .i64 e.born]) (.cons hu3 (.cons (.int _ _) .nil)), r1, r2⟩
            simp [Instr.mapEntry, run_und hu, run_getMap hw, hck, h2, g1', hks, hset, goInt, g4]
          · cases hs
        · cases hs
      · rename_i hf
        obtain ⟨res', h2, h3⟩ := findKey_run H hk hMR hf hkd
        split at hs
        · rename_i z hz
          injection hs with hs
          injection hs with hs1 hs2
          subst hs1
          subst hs2
          obtain ⟨hzr, hzv⟩ := zero_run (w := w) (ρ := ρ) hz
          cases h3 with
          | none =>
          have hR2 : MRs ρ (es ++ [⟨k, z, clock⟩]) (es'.push ⟨k', z, clock⟩).toList := by
            rw [Array.toList_push]
            exact hMR.append (.cons hk hzv rfl .nil)
          obtain ⟨r1, r2⟩ := putMap (k1 := clock + 1) H hi hget hR2
          refine ⟨ρ, _, _, Rho.le_refl ρ, ?_, .tuple (c := #[z, .int .i64 clock]) (c' := #[z, .int .i64 clock]) (.cons hzv (.cons (.int _ _) .nil)), r1, r2⟩
          simp [Instr.mapEntry, run_und hu, run_getMap hw, hck, h2, hset, hzr, goInt]
        · cases hs
      · cases hs
    · cases hs
  · cases hs

theorem entryStore_run (H : HR P ρ N h w) {t : TypeId} {m m' s s' v v' : Value} (hm : VR ρ m m') (hss : VR ρ s s') (hvv : VR ρ v v') {h1 : Hp} (hs : entryStore' h m s v = some h1) :
    ∃ w1, (Instr.entryStore t m' s' v').run P w = .ok () w1 ∧ HR P ρ N h1 w1 ∧ Below N w w1 := by
  unfold entryStore' at hs
  split at hs
  · rename_i r b hb
    cases hm with
    | @map _ i hi =>
    obtain ⟨kk, rfl⟩ := natOf_VR hss hb
    split at hs
    · rename_i es clock hmp
      obtain ⟨es', hw, hMR, hget⟩ := H.map? hmp hi
      have hset := fun o' => setObj_run (P := P) (o' := o') hw (fun _ _ _ e => by cases e)
      split at hs
      · rename_i j hj
        injection hs with hs
        subst hs
        obtain ⟨_, e, e', g1, g2, g3, g4, _⟩ := bornAt_spec hMR hj
        rw [Nat.sub_zero] at g4
        have hidx : es'.findIdx? (fun e => (e.born : Int) == (b : Int)) = some j := by
          have hfn : (fun e : MapEntry => (e.born : Int) == (b : Int)) = fun e => e.born == b := by
            funext e
            rw [Bool.eq_iff_iff]
            simp
            omega
          rw [hfn]
          rw [← g4]
          cases es'
          simp
        have hR2 : MRs ρ (Go.Ev.setAt (fun e => { e with val := v }) es j) (es'.modify j fun e => { e with val := v' }).toList := by
          rw [Array.toList_modify]
          exact MRs.setAt (f := fun e => { e with val := v }) (f' := fun e => { e with val := v' }) (fun e e' hk _ hb => ⟨hk, hvv, hb⟩) hMR j
        obtain ⟨r1, r2⟩ := putMap (k1 := clock) H hi hget hR2
        refine ⟨_, ?_, r1, r2⟩
        simp [Instr.entryStore, run_getMap hw, asInt, asIntOf, hidx, hset]
      · cases hs
    · cases hs
  · cases hs

theorem delete_run (W : WfP P) (H : HR P ρ N h w) {ts : Array TypeId} {ty : TypeId} {t : TypeId} (ht : ts[0]? = some t) {l' : Array Value} {m m' k k' : Value} (h0 : l'[0]? = some m') (h1' : l'[1]? = some k') (hm : VR ρ m m') (hk : VR ρ k k') {v : Value} {h1 : Hp} (hs : delete' P h t m k = some (v, h1)) :
    ∃ ρ1 w1 v', ρ.le ρ1 ∧ (Builtin.delete_ ts ty l').run P w = .ok v' w1 ∧ VR ρ1 v v' ∧ HR P ρ1 N h1 w1 ∧ Below N w w1 := by
  unfold delete' at hs
  split at hs
  · rename_i kt et hu
    cases hm
    split at hs
    · rename_i hko
      injection hs with hs
      injection hs with hs1 hs2
      subst hs1
      subst hs2
      have hck := checkKey_run (w := w) W 40 kt k k' hko hk 10000 (by omega) true
      refine ⟨ρ, w, _, Rho.le_refl ρ, ?_, .tuple (c := #[]) (c' := #[]) .nil, H, Below.refl _ _⟩
      simp [Builtin.delete_, ht, h0, h1', run_und hu, hck]
    · cases hs
  · rename_i kt et r hu
    cases hm with
    | @map _ i hi =>
    split at hs
    · rename_i es clock hmp hko
      obtain ⟨es', hw, hMR, hget⟩ := H.map? hmp hi
      obtain ⟨kind, hkd⟩ := und_of_keyOk hko
      have hck := fun em => checkKey_run (w := w) W 40 kt k k' hko hk 10000 (by omega) em
      have hset := fun o' => setObj_run (P := P) (o' := o') hw (fun _ _ _ e => by cases e)
      split at hs
      · rename_i j u hf
        obtain ⟨res', h2, h3⟩ := findKey_run H hk hMR hf hkd
        injection hs with hs
        injection hs with hs1 hs2
        subst hs1
        subst hs2
        cases h3 with
        | some hu3 =>
        have hR2 : MRs ρ (es.eraseIdx j) (es'.eraseIdxIfInBounds j).toList := by
          have : (es'.eraseIdxIfInBounds j).toList = es'.toList.eraseIdx j := by
            unfold Array.eraseIdxIfInBounds
            split
            · simp
            · rename_i hge
              rw [List.eraseIdx_of_length_le (by simpa using hge)]
          rw [this]
          exact hMR.erase j
        obtain ⟨r1, r2⟩ := putMap (k1 := clock) H hi hget hR2
        refine ⟨ρ, _, _, Rho.le_refl ρ, ?_, .tuple (c := #[]) (c' := #[]) .nil, r1, r2⟩
        simp [Builtin.delete_, ht, h0, h1', run_und hu, run_getMap hw, hck, h2, hset]
      · rename_i hf
        obtain ⟨res', h2, h3⟩ := findKey_run H hk hMR hf hkd
        injection hs with hs
        injection hs with hs1 hs2
        subst hs1
        subst hs2
        cases h3 with
        | none =>
        refine ⟨ρ, w, _, Rho.le_refl ρ, ?_, .tuple (c := #[]) (c' := #[]) .nil, H, Below.refl _ _⟩
        simp [Builtin.delete_, ht, h0, h1', run_und hu, run_getMap hw, hck, h2, hset, putBlock_same w _ _ hw]
      · cases hs
    · cases hs
  · cases hs

end Go.Ev

namespace Go.Ev
open Go.RowKit
variable {P : Program} {ρ : Rho} {N : Bs} {h : Hp} {w : World} {a : A} {act : Act}

theorem new_next {o : CObj} {b : Nat} {h1 : Hp} (hn : h.new o = some (b, h1)) : b = h.next := by
  unfold Hp.new at hn
  split at hn
  · injection hn with hn; injection hn with e1 e2; exact e1.symm
  · cases hn

/-- A new block that is no row: an iterator, a map. -/
theorem newObj_run (H : HR P ρ N h w) {o : CObj} {b : Nat} {h1 : Hp} (hn : h.new o = some (b, h1)) {o' : Obj} (hR : ∀ ρ' : Rho, ρ.le ρ' → ObjR P ρ' ⟨w.heap.size, 0, 0, 0, true⟩ o o') (hno : ∀ r, o ≠ .cells r) :
    ∃ ρ1 : Rho, (newObj o').run P w = .ok w.heap.size (w.alloc o') ∧ ρ.le ρ1 ∧ HR P ρ1 N h1 (w.alloc o') ∧ Below N w (w.alloc o') ∧ ρ1 b = some ⟨w.heap.size, 0, 0, 0, true⟩ := by
  have hb := new_next hn
  subst hb
  have hle := H.le_put ⟨w.heap.size, 0, 0, 0, true⟩
  obtain ⟨_, h2, h3⟩ := H.new hn ⟨w.heap.size, 0, 0, 0, true⟩ rfl (hR _ hle) (fun r e => absurd e (hno r))
  exact ⟨_, rfl, hle, h2, h3, by simp [Rho.put]⟩

theorem range_run (H : HR P ρ N h w) {t : TypeId} {x x' : Value} (hx : VR ρ x x') {v : Value} {h1 : Hp} (hv : range' P h t x = some (v, h1)) :
    ∃ ρ1 w1 v', ρ.le ρ1 ∧ (Instr.range t x').run P w = .ok v' w1 ∧ VR ρ1 v v' ∧ HR P ρ1 N h1 w1 ∧ Below N w w1 := by
  have fin : ∀ {ρ1 : Rho} {b : Nat}, ρ1 b = some ⟨w.heap.size, 0, 0, 0, true⟩ → VR ρ1 (.pointer (some ⟨b, 0, none⟩)) (.pointer (some ⟨w.heap.size, 0, none⟩)) := by
    intro ρ1 b hb
    exact .ptr (i := ⟨w.heap.size, 0, 0, 0, true⟩) ⟨rfl, hb, rfl⟩
  unfold range' at hv
  split at hv
  · rename_i s hu
    cases hx
    split at hv
    · rename_i b h2 hn
      injection hv with hv
      injection hv with hv1 hv2
      subst hv1; subst hv2
      obtain ⟨ρ1, r1, r2, r3, r4, r5⟩ := newObj_run (o' := .stringIter s 0) H hn (fun _ _ => ⟨rfl, rfl, rfl⟩) (fun _ e => by cases e)
      exact ⟨ρ1, _, _, r2, by simp [Instr.range, run_und hu, alloc_push], fin r5, r3, r4⟩
    · cases hv
  · rename_i k e hu
    cases hx
    split at hv
    · rename_i b h2 hn
      injection hv with hv
      injection hv with hv1 hv2
      subst hv1; subst hv2
      obtain ⟨ρ1, r1, r2, r3, r4, r5⟩ := newObj_run (o' := .mapIter none 0 #[] 0) H hn (fun _ _ => ⟨trivial, rfl, rfl, rfl, rfl⟩) (fun _ e => by cases e)
      exact ⟨ρ1, _, _, r2, by simp [Instr.range, run_und hu, alloc_push], fin r5, r3, r4⟩
    · cases hv
  · rename_i k e m hu
    cases hx with
    | @map _ i hi =>
    split at hv
    · rename_i es clock hm
      obtain ⟨es', hw, hMR, hget⟩ := H.map? hm hi
      split at hv
      · rename_i b h2 hn
        injection hv with hv
        injection hv with hv1 hv2
        subst hv1; subst hv2
        obtain ⟨ρ1, r1, r2, r3, r4, r5⟩ := newObj_run (o' := .mapIter (some i.b) clock #[] clock) H hn (fun ρ' hle => ⟨⟨i, hle _ _ hi, rfl⟩, rfl, rfl, rfl, rfl⟩) (fun _ e => by cases e)
        exact ⟨ρ1, _, _, r2, by simp [Instr.range, run_und hu, run_getMap hw, alloc_push], fin r5, r3, r4⟩
      · cases hv
    · cases hv
  · cases hv

theorem MRs.filter {p p' : MapEntry → Bool} (hp : ∀ e e', e'.born = e.born → p' e' = p e) : ∀ {l l' : List MapEntry}, MRs ρ l l' → MRs ρ (l.filter p) (l'.filter p')
  | _, _, .nil => by simpa using MRs.nil
  | _, _, .cons (e := e) (e' := e') (l := l) a b c k => by
    have := hp _ _ c
    by_cases h : p e = true
    · rw [List.filter_cons_of_pos h, List.filter_cons_of_pos (by rw [this]; exact h)]
      exact .cons a b c (MRs.filter hp k)
    · rw [List.filter_cons_of_neg h, List.filter_cons_of_neg (by rw [this]; exact h)]
      exact MRs.filter hp k

theorem run_getObj {r : Nat} {o : Obj} (hw : w.heap[r]? = some o) (hno : ∀ c e f, o ≠ .cells c e f) : (getObj r).run P w = .ok o w := by
  cases o <;> first
    | (exact absurd rfl (hno _ _ _))
    | (simp [getObj, Sem.run, hw]; done)

theorem contains_any (l : List Nat) (b : Nat) : l.contains b = l.any (fun x => Nat.beq x b) := by
  induction l with
  | nil => rfl
  | cons x l ih =>
    rw [List.contains_cons, List.any_cons, ih]
    congr 1
    rw [Bool.eq_iff_iff]
    simp
    exact eq_comm

theorem all_MRs {p p' : MapEntry → Bool} (hp : ∀ e e', e'.born = e.born → p' e' = p e) : ∀ {l l' : List MapEntry}, MRs ρ l l' → l'.all p' = l.all p
  | _, _, .nil => rfl
  | _, _, .cons a b c k => by simp [hp _ _ c, all_MRs hp k]

theorem next_run (H : HR P ρ N h w) {x x' : Value} (hx : VR ρ x x') {s : Bool} {ty : TypeId} {v : Value} {h1 : Hp} (hv : next' h x s = some (v, h1)) :
    ∃ ρ1 w1 v', ρ.le ρ1 ∧ (Instr.next x' s ty).run P w = .ok v' w1 ∧ VR ρ1 v v' ∧ HR P ρ1 N h1 w1 ∧ Below N w w1 := by
  unfold next' at hv
  split at hv
  · rename_i p
    cases hx with
    | @ptr _ p' i hp =>
    have hi := hp.2.1
    have objOf : ∀ {o : CObj}, h.objs.get p.block = some o → (∀ r, o ≠ .cells r) → ∃ o', w.heap[i.b]? = some o' ∧ ObjR P ρ i o o' := by
      intro o ho hno
      exact H.obj p.block o i ho (fun r hr => by rw [ho] at hr; injection hr with hr; exact absurd hr (hno r)) hi
    split at hv
    · -- a string
      rename_i str pos hoff hobj
      obtain ⟨o', ho, hR⟩ := objOf hobj (fun _ e => by cases e)
      cases o' <;> simp only [ObjR] at hR
      obtain ⟨rfl, rfl, hs0⟩ := hR
      rename_i s' pos'
      have hz : i.s + p.off = 0 := by omega
      have hget := run_getObj (P := P) ho (fun _ _ _ e => by cases e)
      have hset := fun o' => setObj_run (P := P) (o' := o') ho (fun _ _ _ e => by cases e)
      rw [hp.fn, hz]
      split at hv
      · rename_i hlt
        have hlt' : pos' < s'.size := by rw [size_data]; simpa [Nat.blt_eq] using hlt
        split at hv
        rename_i c wd hd
        injection hv with hv
        injection hv with hv1 hv2
        subst hv1; subst hv2
        obtain ⟨r1, r2⟩ := H.put_alone (o := .sIter s' (pos' + wd)) (o' := .stringIter s' (pos' + wd)) hi hobj (fun _ e => by cases e) (fun _ e => by cases e) ⟨rfl, rfl, hs0⟩
        refine ⟨ρ, _, _, Rho.le_refl ρ, ?_, .tuple (c := #[.bool true, .int .i64 pos', .int .i32 c]) (c' := #[.bool true, .int .i64 pos', .int .i32 c]) (.cons (.bool _) (.cons (.int _ _) (.cons (.int _ _) .nil))), r1, r2⟩
        simp [Instr.next, hget, hlt', hd, hset, goInt]
      · rename_i hlt
        have hlt' : ¬ pos' < s'.size := by rw [size_data]; intro hh; rw [show Nat.blt pos' s'.data.toList.length = true by rw [Nat.blt_eq]; exact hh] at hlt; cases hlt
        injection hv with hv
        injection hv with hv1 hv2
        subst hv1; subst hv2
        refine ⟨ρ, _, _, Rho.le_refl ρ, ?_, .tuple (c := #[.bool false]) (c' := #[.bool false]) (.cons (.bool _) .nil), H, Below.refl _ _⟩
        simp [Instr.next, hget, hlt']
    · -- a nil map
      rename_i since seen last hoff hobj
      obtain ⟨o', ho, hR⟩ := objOf hobj (fun _ e => by cases e)
      cases o' <;> simp only [ObjR] at hR
      rename_i m' since' seen' st'
      obtain ⟨hm, rfl, hseen, rfl, hs0⟩ := hR
      cases m' with
      | some m' => simp at hm
      | none =>
      have hz : i.s + p.off = 0 := by omega
      have hget := run_getObj (P := P) ho (fun _ _ _ e => by cases e)
      rw [hp.fn, hz]
      injection hv with hv
      injection hv with hv1 hv2
      subst hv1; subst hv2
      refine ⟨ρ, _, _, Rho.le_refl ρ, ?_, .tuple (c := #[.bool false]) (c' := #[.bool false]) (.cons (.bool _) .nil), H, Below.refl _ _⟩
      simp [Instr.next, hget]
    · -- a map
      rename_i m since seen last hoff hobj
      obtain ⟨o', ho, hR⟩ := objOf hobj (fun _ e => by cases e)
      cases o' <;> simp only [ObjR] at hR
      rename_i m' since' seen' st'
      obtain ⟨hm, rfl, hseen, rfl, hs0⟩ := hR
      cases m' with
      | none => simp at hm
      | some m' =>
      obtain ⟨j, hj, rfl⟩ := hm
      have hz : i.s + p.off = 0 := by omega
      have hget := run_getObj (P := P) ho (fun _ _ _ e => by cases e)
      have hset := fun o' => setObj_run (P := P) (o' := o') ho (fun _ _ _ e => by cases e)
      split at hv
      · rename_i es clock hmap
        obtain ⟨es', hw, hMR, _⟩ := H.map? hmap hj
        have hget2 := run_getMap (P := P) hw
        split at hv
        · cases hv
        · rename_i hfresh
          -- the machine's own tests
          have q1 : (!seen'.isEmpty && !es'.isEmpty && es'.all (fun e => decide (e.born ≥ st'))) = false := by
            have e1 : seen'.isEmpty = seen.isEmpty := by rw [← hseen]; simp
            have e2 : es'.isEmpty = es.isEmpty := by
              have := hMR.length
              rw [Bool.eq_iff_iff, Array.isEmpty_iff, List.isEmpty_iff, ← Array.toList_eq_nil_iff, ← List.length_eq_zero_iff, ← List.length_eq_zero_iff, this]
            have e3 : es'.all (fun e => decide (e.born ≥ st')) = es.all fun e => Nat.ble st' e.born := by
              rw [← Array.all_toList]
              refine all_MRs (fun e e' hb => ?_) hMR
              rw [hb, Bool.eq_iff_iff]
              simp
            rw [e1, e2, e3]
            cases h1 : seen.isEmpty <;> cases h2 : es.isEmpty <;> cases h3 : (es.all fun e => Nat.ble st' e.born) <;> simp_all
          -- the entries that are left
          have hleft : MRs ρ (es.filter fun e => !(seen.any fun b => Nat.beq b e.born)) (es'.filter fun e => !seen'.contains e.born).toList := by
            rw [Array.toList_filter]
            refine hMR.filter (fun e e' hb => ?_)
            rw [hb, ← hseen, ← contains_any]
            simp
          generalize hL : (es.filter fun e => !(seen.any fun b => Nat.beq b e.born)) = L at hv hleft
          generalize hL' : (es'.filter fun e => !seen'.contains e.born) = L' at hleft
          have hold : MRs ρ (L.filter fun e => Nat.blt e.born since') (L'.filter fun e => decide (e.born < since')).toList := by
            rw [Array.toList_filter]
            refine hleft.filter (fun e e' hb => ?_)
            rw [hb, Bool.eq_iff_iff]
            simp [Nat.blt_eq]
          have hnew : MRs ρ (L.filter fun e => Nat.ble since' e.born) (L'.filter fun e => decide (e.born ≥ since')).toList := by
            rw [Array.toList_filter]
            refine hleft.filter (fun e e' hb => ?_)
            rw [hb, Bool.eq_iff_iff]
            simp
          have q1' : (!seen'.isEmpty && !es'.isEmpty && es'.all (fun x => decide (x.born ≥ st'))) = false := q1
          simp only [] at hv
          split at hv
          · rename_i h1 h2
            rw [h1] at hold
            rw [h2] at hnew
            injection hv with hv
            injection hv with hv1 hv2
            subst hv1; subst hv2
            have o1 : (L'.filter fun e => decide (e.born < since')) = #[] := by
              apply Array.ext'
              cases hc : (L'.filter fun e => decide (e.born < since')).toList with
              | nil => rfl
              | cons x r => rw [hc] at hold; cases hold
            have o2 : (L'.filter fun e => decide (e.born ≥ since')) = #[] := by
              apply Array.ext'
              cases hc : (L'.filter fun e => decide (e.born ≥ since')).toList with
              | nil => rfl
              | cons x r => rw [hc] at hnew; cases hnew
            refine ⟨ρ, w, _, Rho.le_refl ρ, ?_, .tuple (c := #[.bool false]) (c' := #[.bool false]) (.cons (.bool _) .nil), H, Below.refl _ _⟩
            rw [hp.fn, hz]
            simp only [Instr.next, Sem.run_bind, hget, Result.andThen_ok, hget2, q1', Bool.false_eq_true, if_false, Sem.run_pure, hL', o1, o2]
            simp [Question.forced]
          · rename_i e h1 h2
            rw [h1] at hold
            rw [h2] at hnew
            injection hv with hv
            injection hv with hv1 hv2
            subst hv1; subst hv2
            obtain ⟨e', o1, hek, hev, heb⟩ : ∃ e', (L'.filter fun e => decide (e.born < since')) = #[e'] ∧ VR ρ e.key e'.key ∧ VR ρ e.val e'.val ∧ e'.born = e.born := by
              cases hc : (L'.filter fun e => decide (e.born < since')).toList with
              | nil => rw [hc] at hold; cases hold
              | cons x r =>
                rw [hc] at hold
                cases hold with
                | cons a b c k =>
                cases k
                exact ⟨x, by apply Array.ext'; rw [hc], a, b, c⟩
            have o2 : (L'.filter fun e => decide (e.born ≥ since')) = #[] := by
              apply Array.ext'
              cases hc : (L'.filter fun e => decide (e.born ≥ since')).toList with
              | nil => rfl
              | cons x r => rw [hc] at hnew; cases hnew
            obtain ⟨r1, r2⟩ := H.put_alone (o := .mIter (some m) since' (seen ++ [e.born]) clock) (o' := .mapIter (some j.b) since' (seen'.push e'.born) clock) hi hobj (fun _ e => by cases e) (fun _ e => by cases e)
              ⟨⟨j, hj, rfl⟩, rfl, by rw [Array.toList_push, hseen, heb], rfl, hs0⟩
            refine ⟨ρ, _, _, Rho.le_refl ρ, ?_, .tuple (c := #[.bool true, e.key, e.val]) (c' := #[.bool true, e'.key, e'.val]) (.cons (.bool _) (.cons hek (.cons hev .nil))), r1, r2⟩
            rw [hp.fn, hz]
            simp only [Instr.next, Sem.run_bind, hget, Result.andThen_ok, hget2, q1', Bool.false_eq_true, if_false, Sem.run_pure, hL', o1, o2]
            simp [Question.forced, hset]
          · cases hv
      · cases hv
    · cases hv
  · cases hv

end Go.Ev

namespace Go.Ev
open Go.RowKit
variable {P : Program} {ρ : Rho} {N : Bs} {h : Hp} {w : World} {a : A} {act : Act}

/-- A new row that stands behind a part of an old one, in its memory or in new memory: what of the old one's family reaches beyond that part is not to be read any more. -/
theorem HR.grow (H : HR P ρ N h w) {B : Nat} {i : Img} {r : Row} {arr : Array Value} {e0 : TypeId} {fr : Nat × Nat} (hi : ρ B = some i) (hr : h.row B = some r)
    (hw : w.heap[i.b]? = some (.cells arr e0 fr)) (top : Nat) {w1 : World} {arr1 : Array Value} (hw1 : w1.heap[i.b]? = some (.cells arr1 e0 fr)) (hsz : arr1.size = arr.size)
    (hsame : ∀ k, k + r.base < i.s + top → arr1[k]? = arr[k]?) (hoth : ∀ k, k < w.heap.size → k ≠ i.b → w1.heap[k]? = w.heap[k]?) (hgrow : w.heap.size ≤ w1.heap.size)
    (q1 : Row) (i1 : Img) (o1 : Obj) (ho1 : w1.heap[i1.b]? = some o1) (hR1 : ObjR P (ρ.put h.next i1) i1 (.cells q1) o1)
    (hi1 : (i1.b = i.b ∧ i1.s + r.base = i.s + q1.base) ∨ (w.heap.size ≤ i1.b ∧ i1.b < w1.heap.size)) (f : Nat) (hf : q1.fam = f)
    (hff : (f = r.fam ∧ r.fam ≠ 0) ∨ (r.fam = 0 ∧ f = h.nfam)) {h1 : Hp} (hobj : ∀ d, h1.objs.get d = if d = h.next then some (.cells q1) else if d = B then some (.cells { r with fam := f }) else h.objs.get d)
    {l1 : List Mem} (hl1 : h1.fams.get f = some l1) (hfam : ∀ g, g ≠ f → h1.fams.get g = h.fams.get g)
    (hmem : ∀ m ∈ l1, m = ⟨h.next, q1.base, q1.base + q1.c.length⟩ ∨ (m.hi ≤ top ∧ (m = ⟨B, r.base, r.base + r.c.length⟩ ∨ ∃ l0, h.fams.get f = some l0 ∧ r.fam = f ∧ m ∈ l0)))
    (hnx : h1.next = h.next + 1) (hnm : h.next < most) (hnf : f < h1.nfam) (hnf1 : h.nfam ≤ h1.nfam) (hnf2 : h1.nfam ≤ most) (hnf3 : ∀ g, g < h1.nfam → g ≠ f → g < h.nfam) : HR P (ρ.put h.next i1) N h1 w1 := by
  obtain ⟨hget, hfams⟩ := row_get hr
  have hBn : B < h.next := H.cover _ _ hget
  have hf0 : f ≠ 0 := by
    rcases hff with ⟨h1, h2⟩ | ⟨_, h2⟩
    · rw [h1]; exact h2
    · have := H.nf0; omega
  have hib := H.lo B i hi
  have cs : ∀ d j, (ρ.put h.next i1) d = some j → (d = h.next ∧ j = i1) ∨ (d ≠ h.next ∧ ρ d = some j) := by
    intro d j hj
    unfold Rho.put at hj
    by_cases hd : d = h.next
    · rw [if_pos hd] at hj; injection hj with hj; exact .inl ⟨hd, hj.symm⟩
    · rw [if_neg hd] at hj; exact .inr ⟨hd, hj⟩
  have hle := H.le_put i1
  -- rows of the family: what lay below the top reads as it did
  have below : ∀ (d : Nat) (j : Img) (q : Row), ρ d = some j → h.objs.get d = some (.cells q) → h.alive d → (d = B ∨ (d ≠ B ∧ j.b = i.b ∧ i.s + q.base = j.s + r.base)) → q.base + q.c.length ≤ top → ∃ o', w1.heap[j.b]? = some o' ∧ ∀ f', ObjR P (ρ.put h.next i1) j (.cells { q with fam := f' }) o' := by
    intro d j q hj hq hal hdB hhi
    obtain ⟨o', g1, g2⟩ := H.obj d _ j hq hal hj
    have hjb : j.b = i.b ∧ i.s + q.base = j.s + r.base := by
      rcases hdB with rfl | ⟨_, h1, h2⟩
      · rw [hi] at hj
        injection hj with hj
        subst hj
        rw [hget] at hq
        injection hq with hq
        injection hq with hq
        subst hq
        exact ⟨rfl, rfl⟩
      · exact ⟨h1, h2⟩
    rw [hjb.1, hw] at g1
    injection g1 with g1
    subst g1
    refine ⟨_, by rw [hjb.1]; exact hw1, fun f' => ?_⟩
    have g3 := g2.mono hle
    simp only [ObjR] at g3 ⊢
    refine ⟨g3.1, by rw [hsz]; exact g3.2.1, by rw [hsz]; exact g3.2.2.1, fun k v hk => ?_, by rw [hsz]; exact g3.2.2.2.2.1, g3.2.2.2.2.2⟩
    have hkl : k < q.c.length := by
      rcases Nat.lt_or_ge k q.c.length with h | h
      · exact h
      · have hk' : q.c[k]? = some v := hk
        rw [List.getElem?_eq_none h] at hk'; cases hk'
    rw [hsame _ (by omega)]
    exact g3.2.2.2.1 k v hk
  refine ⟨?_, ?_, ?_, ?_, ?_, ?_, ?_, by rw [hnx]; omega, hnf2, by omega, by have := H.base; omega, fun d hd => ⟨by unfold Rho.put; rw [if_neg (by have := (H.gho d hd).2; omega)]; exact (H.gho d hd).1, by rw [hnx]; have := (H.gho d hd).2; omega⟩⟩
  · -- objects
    intro d o j ho hal hj
    rw [hobj] at ho
    rcases cs d j hj with ⟨rfl, rfl⟩ | ⟨hd, hj'⟩
    · rw [if_pos rfl] at ho
      injection ho with ho
      subst ho
      exact ⟨o1, ho1, hR1⟩
    · rw [if_neg hd] at ho
      -- a member of the family that is alive lies below the top
      have live : ∀ q, h1.objs.get d = some (.cells q) → q.fam = f → ∃ m, m ∈ l1 ∧ m.b = d ∧ m.hi ≤ top ∧ (m = ⟨B, r.base, r.base + r.c.length⟩ ∨ ∃ l0, h.fams.get f = some l0 ∧ r.fam = f ∧ m ∈ l0) := by
        intro q hq hqf
        have := (row_get (hal q hq)).2
        rw [hqf] at this
        obtain ⟨l2, e1, m, hm, e2⟩ := this.resolve_left hf0
        rw [hl1] at e1
        injection e1 with e1
        subst e1
        rcases hmem m hm with rfl | ⟨g1, g2⟩
        · exact absurd e2.symm hd
        · exact ⟨m, hm, e2, g1, g2⟩
      by_cases hdB : d = B
      · rw [if_pos hdB] at ho
        injection ho with ho
        subst ho
        obtain ⟨m, hm, e2, g1, g2⟩ := live _ (by rw [hobj, if_neg hd, if_pos hdB]) rfl
        have hhi : m.hi = r.base + r.c.length := by
          rcases g2 with rfl | ⟨l0, h0, h2, h3⟩
          · rfl
          · obtain ⟨q, k1, k2, k3, k4⟩ := H.mem f l0 m h0 h3 (by rw [← h2]; exact H.famlt _ _ hget) (by first | exact hf0 | omega)
            rw [e2, hdB, hget] at k1
            injection k1 with k1
            injection k1 with k1
            subst k1
            exact k4
        have hal' : h.alive d := by
          intro q hq
          rw [hdB, hget] at hq
          injection hq with hq
          injection hq with hq
          subst hq
          rw [hdB]
          exact hr
        obtain ⟨o', e3, e4⟩ := below d j r hj' (by rw [hdB]; exact hget) hal' (.inl hdB) (by omega)
        exact ⟨o', e3, e4 f⟩
      · rw [if_neg hdB] at ho
        by_cases hcell : ∃ q, o = .cells q ∧ q.fam = f
        · obtain ⟨q, rfl, hqf⟩ := hcell
          obtain ⟨m, hm, e2, g1, g2⟩ := live q (by rw [hobj, if_neg hd, if_neg hdB]; exact ho) hqf
          rcases g2 with rfl | ⟨l0, h0, h2, h3⟩
          · exact absurd e2.symm hdB
          · obtain ⟨q2, k1, k2, k3, k4⟩ := H.mem f l0 m h0 h3 (by rw [← h2]; exact H.famlt _ _ hget) (by first | exact hf0 | omega)
            rw [e2, ho] at k1
            injection k1 with k1
            injection k1 with k1
            subst k1
            have hal' : h.alive d := by
              intro q' hq'
              rw [ho] at hq'
              injection hq' with hq'
              injection hq' with hq'
              subst hq'
              exact row_mk ho (.inr ⟨l0, by rw [hqf]; exact h0, m, h3, e2⟩)
            by_cases ejb : j.b = i.b
            · obtain ⟨r0, q0, t1, t2, t3, t4, t5⟩ := H.inj B d i j hi hj' (fun e => hdB e.symm) ejb.symm
              rw [hget] at t1
              injection t1 with t1
              injection t1 with t1
              subst t1
              rw [ho] at t2
              injection t2 with t2
              injection t2 with t2
              subst t2
              obtain ⟨o', e3, e4⟩ := below d j q hj' ho hal' (.inr ⟨hdB, ejb, t5⟩) (by omega)
              exact ⟨o', e3, e4 q.fam⟩
            · obtain ⟨o', e3, e4⟩ := H.obj d _ j ho hal' hj'
              exact ⟨o', by rw [hoth _ (H.lo d j hj').2 ejb]; exact e3, e4.mono hle⟩
        · -- another family, or none
          have hal' : h.alive d := by
            intro q hq
            have hq1 : h1.objs.get d = some (.cells q) := by rw [hobj, if_neg hd, if_neg hdB]; exact hq
            have hne : q.fam ≠ f := by
              intro e
              rw [ho] at hq
              injection hq with hq
              exact hcell ⟨q, hq, e⟩
            rcases (row_get (hal q hq1)).2 with h0 | ⟨l2, e1, m, hm, e2⟩
            · exact row_mk hq (.inl h0)
            · rw [hfam _ hne] at e1
              exact row_mk hq (.inr ⟨l2, e1, m, hm, e2⟩)
          obtain ⟨o', e3, e4⟩ := H.obj d o j ho hal' hj'
          have hjb : j.b ≠ i.b := by
            intro e
            obtain ⟨r0, q0, t1, t2, t3, t4, t5⟩ := H.inj B d i j hi hj' (fun e => hdB e.symm) e.symm
            rw [hget] at t1
            injection t1 with t1
            injection t1 with t1
            subst t1
            rw [ho] at t2
            injection t2 with t2
            rcases hff with ⟨u1, u2⟩ | ⟨u1, u2⟩
            · exact hcell ⟨q0, t2, by omega⟩
            · exact t4 u1
          exact ⟨o', by rw [hoth _ (H.lo d j hj').2 hjb]; exact e3, e4.mono hle⟩
  · intro d j hj
    rw [hnx]
    rcases cs d j hj with ⟨rfl, _⟩ | ⟨_, hj'⟩
    · omega
    · have := H.dom d j hj'; omega
  · intro d j hj
    rcases cs d j hj with ⟨rfl, rfl⟩ | ⟨_, hj'⟩
    · rcases hi1 with ⟨e, _⟩ | ⟨e1, e2⟩
      · omega
      · have := H.base; omega
    · have := H.lo d j hj'; omega
  · -- who shares memory with whom
    intro d g j k hj hk hne ejk
    have withNew : ∀ d j, d ≠ h.next → ρ d = some j → j.b = i1.b → Together h1 h.next d i1 j := by
      intro d j hd hj' e
      have hlo := H.lo d j hj'
      rcases hi1 with ⟨e1, e2⟩ | ⟨e1, _⟩
      · by_cases hdB : d = B
        · subst hdB
          rw [hi] at hj'
          injection hj' with hj'
          subst hj'
          exact ⟨q1, { r with fam := f }, by rw [hobj, if_pos rfl], by rw [hobj, if_neg hd, if_pos rfl], hf, by rw [hf]; exact hf0, e2⟩
        · obtain ⟨r0, q0, t1, t2, t3, t4, t5⟩ := H.inj B d i j hi hj' (fun e => hdB e.symm) (by omega)
          rw [hget] at t1
          injection t1 with t1
          injection t1 with t1
          subst t1
          have hrf : r.fam = f := by
            rcases hff with ⟨u1, u2⟩ | ⟨u1, u2⟩
            · exact u1.symm
            · exact absurd u1 t4
          exact ⟨q1, q0, by rw [hobj, if_pos rfl], by rw [hobj, if_neg hd, if_neg hdB]; exact t2, by omega, by rw [hf]; exact hf0, by omega⟩
      · omega
    rcases cs d j hj with ⟨e1, e2⟩ | ⟨e1, e2⟩ <;> rcases cs g k hk with ⟨f1, f2⟩ | ⟨f1, f2⟩
    · exact absurd (e1.trans f1.symm) hne
    · subst e1; subst e2
      exact withNew g k f1 f2 ejk.symm
    · subst f1; subst f2
      obtain ⟨x, y, t1, t2, t3, t4, t5⟩ := withNew d j e1 e2 ejk
      exact ⟨y, x, t2, t1, t3.symm, by omega, t5.symm⟩
    · obtain ⟨x, y, t1, t2, t3, t4, t5⟩ := H.inj d g j k e2 f2 hne ejk
      by_cases hdB : d = B
      · have hgB : g ≠ B := fun e => hne (hdB.trans e.symm)
        rw [hdB, hget] at t1
        injection t1 with t1
        injection t1 with t1
        subst t1
        have hrf : r.fam = f := by
          rcases hff with ⟨u1, u2⟩ | ⟨u1, u2⟩
          · exact u1.symm
          · exact absurd u1 t4
        exact ⟨{ r with fam := f }, y, by rw [hobj, if_neg e1, if_pos hdB], by rw [hobj, if_neg f1, if_neg hgB]; exact t2, by show f = y.fam; omega, hf0, t5⟩
      · by_cases hgB : g = B
        · rw [hgB, hget] at t2
          injection t2 with t2
          injection t2 with t2
          subst t2
          have hrf : r.fam = f := by
            rcases hff with ⟨u1, u2⟩ | ⟨u1, u2⟩
            · exact u1.symm
            · exact absurd u1 (by omega)
          exact ⟨x, { r with fam := f }, by rw [hobj, if_neg e1, if_neg hdB]; exact t1, by rw [hobj, if_neg f1, if_pos hgB], by show x.fam = f; omega, t4, t5⟩
        · exact ⟨x, y, by rw [hobj, if_neg e1, if_neg hdB]; exact t1, by rw [hobj, if_neg f1, if_neg hgB]; exact t2, t3, t4, t5⟩
  · intro d q hq
    rw [hobj] at hq
    by_cases hd : d = h.next
    · rw [if_pos hd] at hq
      injection hq with hq
      injection hq with hq
      subst hq
      omega
    · rw [if_neg hd] at hq
      by_cases hdB : d = B
      · rw [if_pos hdB] at hq
        injection hq with hq
        injection hq with hq
        subst hq
        exact hnf
      · rw [if_neg hdB] at hq
        have := H.famlt d q hq
        omega
  · intro g l m hl hm hg hg0
    by_cases hgf : g = f
    · subst hgf
      rw [hl1] at hl
      injection hl with hl
      subst hl
      rcases hmem m hm with rfl | ⟨_, rfl | ⟨l0, h0, h2, h3⟩⟩
      · exact ⟨q1, by rw [hobj, if_pos rfl], hf, rfl, rfl⟩
      · exact ⟨{ r with fam := g }, by rw [hobj, if_neg (by show B ≠ h.next; omega), if_pos rfl], rfl, rfl, rfl⟩
      · obtain ⟨q, k1, k2, k3, k4⟩ := H.mem g l0 m h0 h3 (by rw [← h2]; exact H.famlt _ _ hget) (by first | exact hf0 | omega)
        have hmn := H.cover _ _ k1
        by_cases hmB : m.b = B
        · rw [hmB, hget] at k1
          injection k1 with k1
          injection k1 with k1
          subst k1
          exact ⟨{ r with fam := g }, by rw [hobj, if_neg (by omega), if_pos hmB], rfl, k3, k4⟩
        · exact ⟨q, by rw [hobj, if_neg (by omega), if_neg hmB]; exact k1, k2, k3, k4⟩
    · rw [hfam g hgf] at hl
      obtain ⟨q, k1, k2, k3, k4⟩ := H.mem g l m hl hm (hnf3 g hg hgf) hg0
      have hmn := H.cover _ _ k1
      by_cases hmB : m.b = B
      · rw [hmB, hget] at k1
        injection k1 with k1
        injection k1 with k1
        subst k1
        exfalso
        rcases hff with ⟨u1, u2⟩ | ⟨u1, u2⟩
        · omega
        · omega
      · exact ⟨q, by rw [hobj, if_neg (by omega), if_neg hmB]; exact k1, k2, k3, k4⟩
  · intro d o ho
    rw [hobj] at ho
    rw [hnx]
    by_cases hd : d = h.next
    · omega
    · rw [if_neg hd] at ho
      by_cases hdB : d = B
      · omega
      · rw [if_neg hdB] at ho
        have := H.cover d o ho
        omega

end Go.Ev

namespace Go.Ev
open Go.RowKit
variable {P : Program} {ρ : Rho} {N : Bs} {h : Hp} {w : World} {a : A} {act : Act}

theorem bytes_take (s : ByteArray) (n : Nat) : ((s.extract 0 n).data.map fun b => Value.int .u8 b.toNat).toList = (s.data.toList.take n).map fun b => .int .u8 b.toNat := by
  rw [extract_eq]
  simp

theorem ints_VRs : ∀ l : List UInt8, VRs ρ (l.map fun b => Value.int .u8 b.toNat) (l.map fun b => Value.int .u8 b.toNat)
  | [] => .nil
  | _ :: l => .cons (.int _ _) (ints_VRs l)

theorem first_run (H : HR P ρ N h w) {size n : Nat} {x x' : Value} (hx : VR ρ x x') (hn : ∀ b len c, x = .slice b len c → n ≤ len) {l : List Value} (hl : first' h size n x = some l) :
    ∃ l' : Array Value, (Builtin.firstCells size n x').run P w = .ok l' w ∧ VRs ρ l l'.toList := by
  unfold first' at hl
  split at hl
  · rename_i p m c
    cases hx with
    | @sl _ p' i _ _ c' hp hc =>
      obtain ⟨l', h1, h2, _⟩ := H.loads (.inr ⟨i, hp⟩) hl
      exact ⟨l', by simp [Builtin.firstCells, h1], h2⟩
    | slZero _ p' =>
      have := hn _ _ _ rfl
      have hz : n * size = 0 := by
        have : n = 0 := by omega
        rw [this, Nat.zero_mul]
      obtain ⟨l', h1, h2, _⟩ := H.loads (a' := p') (.inl hz) hl
      exact ⟨l', by simp [Builtin.firstCells, h1], h2⟩
  · cases hx
    injection hl with hl
    subst hl
    exact ⟨#[], by simp [Builtin.firstCells], .nil⟩
  · rename_i s
    cases hx
    injection hl with hl
    subst hl
    refine ⟨(s.extract 0 n).data.map fun b => .int .u8 b.toNat, by simp [Builtin.firstCells], ?_⟩
    rw [bytes_take]
    exact ints_VRs _
  · cases hl

theorem growBy_le (n c : Nat) (hc : c ≤ 1000000) : Builtin.growBy n 4 c ≤ 3000000 := by
  simp only [Builtin.growBy]
  repeat' split
  all_goals omega

theorem cap_le {n c : Nat} (hn : n ≤ 1000000) (hc : c < n) : Builtin.nextslicecap n c ≤ 3000000 := by
  unfold Builtin.nextslicecap
  split
  · omega
  · split
    · omega
    · exact growBy_le n c (by omega)

theorem all_VRs {x y : List Value} (hxy : VRs ρ x y) (h : x.all oneCell = true) : y.all oneCell = true := by
  induction x generalizing y with
  | nil => cases hxy; rfl
  | cons p x ih =>
    cases hxy with
    | cons hp hx =>
      simp only [List.all_cons, Bool.and_eq_true] at h ⊢
      exact ⟨by rw [hp.oneCell]; exact h.1, ih hx h.2⟩

/-- What of a machine's append is decided ahead. -/
structure AppendAsks (P : Program) (ts : Array TypeId) (e : TypeId) (i : TypeInfo) (z : Value) : Prop where
  t : ∃ t, ts[0]? = some t ∧ P.underlying t = some (.slice e)
  noInt : ts[1]? = none ∨ (∃ u e, ts[1]? = some u ∧ P.underlying u = some (.slice e)) ∨ ∃ u, ts[1]? = some u ∧ P.underlying u = some .string
  info : P.info? e = some i
  zero : ∀ w, (zeroValue e).run P w = .ok z w
  zs : z.cells.size = i.size
  s0 : 0 < i.size
  b0 : 0 < i.bytes
  b1 : i.bytes ≤ 100000

theorem append_room {ts : Array TypeId} {ty e : TypeId} {i : TypeInfo} {z : Value} (K : AppendAsks P ts e i z) {args : Array Value} {base : Option Addr} {len cap n : Nat} {x : Value}
    (h0 : args[0]? = some (.slice base len cap)) (h1 : args[1]? = some x) (hn : (Builtin.lenOf x).run P w = .ok n w) {new : Array Value} (hnew : (Builtin.firstCells i.size n x).run P w = .ok new w) (hle : len + n ≤ cap)
    {w1 : World} (hst : ∀ a, base = some a → (storeCells (a.add (len * i.size)) new.toList).run P w = .ok () w1) (hnil : base = none → w1 = w) :
    (Builtin.append_ ts ty args).run P w = .ok (.slice base (len + n) cap) w1 := by
  obtain ⟨t, ht, hu⟩ := K.t
  cases base with
  | none =>
    have := hnil rfl
    subst this
    rcases K.noInt with h | ⟨u, q, h, hq⟩ | ⟨u, h, hq⟩
    · simp [Builtin.append_, ht, h0, h1, h, run_und hu, run_size K.info, hn, hle, hnew]
    · simp [Builtin.append_, ht, h0, h1, h, run_und hu, run_und hq, run_size K.info, hn, hle, hnew]
    · simp [Builtin.append_, ht, h0, h1, h, run_und hu, run_und hq, run_size K.info, hn, hle, hnew]
  | some a =>
    have := hst a rfl
    rcases K.noInt with h | ⟨u, q, h, hq⟩ | ⟨u, h, hq⟩
    · simp [Builtin.append_, ht, h0, h1, h, run_und hu, run_size K.info, hn, hle, hnew, this]
    · simp [Builtin.append_, ht, h0, h1, h, run_und hu, run_und hq, run_size K.info, hn, hle, hnew, this]
    · simp [Builtin.append_, ht, h0, h1, h, run_und hu, run_und hq, run_size K.info, hn, hle, hnew, this]

theorem append_new {ts : Array TypeId} {ty e : TypeId} {i : TypeInfo} {z : Value} (K : AppendAsks P ts e i z) {args : Array Value} {base : Option Addr} {len cap n : Nat} {x : Value}
    (h0 : args[0]? = some (.slice base len cap)) (h1 : args[1]? = some x) (hn : (Builtin.lenOf x).run P w = .ok n w) {old new : Array Value} (hold : (Builtin.firstCells i.size len (.slice base len cap)).run P w.drew = .ok old w.drew)
    (hnew : (Builtin.firstCells i.size n x).run P w.drew = .ok new w.drew) (hle : ¬ len + n ≤ cap) (hbig : len + n ≤ 1000000) :
    ∃ newCap, len + n ≤ newCap ∧ (Builtin.append_ ts ty args).run P w = .ok (.slice (some ⟨w.heap.size, 0, none⟩) (len + n) newCap) (w.drew.alloc (.cells (old ++ new ++ Builtin.zeroCells z.cells (newCap - (len + n))) e)) := by
  obtain ⟨t, ht, hu⟩ := K.t
  refine ⟨(Question.appendCap (len + n) cap e).cut (w.tape w.drawn (.appendCap (len + n) cap e)), by simp only [Question.cut]; omega, ?_⟩
  have c1 : ¬ (((len + n : Nat) : Int) > IntKind.i64.max ∧ (False ∨ i.bytes = 0)) := by
    rintro ⟨_, h | h⟩
    · exact h
    · have := K.b0; omega
  have c2 : ¬ (Builtin.nextslicecap (len + n) cap * i.bytes > 2 ^ 48) := by
    have h1 := cap_le hbig (show cap < len + n by omega)
    have h2 := K.b1
    have h3 : Builtin.nextslicecap (len + n) cap * i.bytes ≤ 3000000 * 100000 := Nat.mul_le_mul h1 h2
    have h48 : (2 : Nat) ^ 48 = 281474976710656 := by decide
    omega
  have c3 : i.bytes ≠ 0 := by have := K.b0; omega
  have c4 : ¬ ((2 : Nat) ^ 48 < Builtin.nextslicecap (len + n) cap * i.bytes) := c2
  have c5 : ¬ (281474976710656 < Builtin.nextslicecap (len + n) cap * i.bytes) := c2
  have hz := K.zero w.drew
  have hsz : w.drew.heap.size = w.heap.size := rfl
  rcases K.noInt with h | ⟨u, q, h, hq⟩ | ⟨u, h, hq⟩
  · simp [Builtin.append_, ht, h0, h1, h, run_und hu, run_size K.info, run_info K.info, hn, hle, c3, c5, hold, hnew, hz, Question.forced, newRow, alloc_push]
  · simp [Builtin.append_, ht, h0, h1, h, run_und hu, run_und hq, run_size K.info, run_info K.info, hn, hle, c3, c5, hold, hnew, hz, Question.forced, newRow, alloc_push]
  · simp [Builtin.append_, ht, h0, h1, h, run_und hu, run_und hq, run_size K.info, run_info K.info, hn, hle, c3, c5, hold, hnew, hz, Question.forced, newRow, alloc_push]

end Go.Ev

namespace Go.Ev
open Go.RowKit
variable {P : Program} {ρ : Rho} {N : Bs} {h : Hp} {w : World} {a : A} {act : Act}

theorem grow_HR (H : HR P ρ N h w) {e : TypeId} {sz len n : Nat} {p : Addr} {cells : List Value} {r : Row} {v : Value} {h1 : Hp} (hg : grow' h e sz p len n cells r = some (v, h1))
    {i : Img} {arr : Array Value} {e0 : TypeId} {fr : Nat × Nat} (hi : ρ p.block = some i) (hr : h.row p.block = some r) (hw : w.heap[i.b]? = some (.cells arr e0 fr))
    {w1 : World} {arr1 : Array Value} (hw1 : w1.heap[i.b]? = some (.cells arr1 e0 fr)) (hsz : arr1.size = arr.size)
    (hsame : ∀ k, k < i.s + p.off + len * sz → arr1[k]? = arr[k]?) (hoth : ∀ k, k < w.heap.size → k ≠ i.b → w1.heap[k]? = w.heap[k]?) (hgrow : w.heap.size ≤ w1.heap.size)
    (i1 : Img) (o1 : Obj) (ho1 : w1.heap[i1.b]? = some o1) (hR1 : ∀ f, ObjR P (ρ.put h.next i1) i1 (.cells ⟨cells, e, f, r.base + p.off, true⟩) o1)
    (hi1 : (i1.b = i.b ∧ i1.s = i.s + p.off) ∨ (w.heap.size ≤ i1.b ∧ i1.b < w1.heap.size)) :
    v = .slice (some ⟨h.next, 0, none⟩) (len + n) (len + n) ∧ HR P (ρ.put h.next i1) N h1 w1 := by
  obtain ⟨hget, hfams⟩ := row_get hr
  have hBn : p.block < h.next := H.cover _ _ hget
  have hi1' : ∀ b, b = r.base + p.off → (i1.b = i.b ∧ i1.s + r.base = i.s + b) ∨ (w.heap.size ≤ i1.b ∧ i1.b < w1.heap.size) := by
    intro b hb
    rcases hi1 with ⟨e1, e2⟩ | h
    · exact .inl ⟨e1, by omega⟩
    · exact .inr h
  unfold grow' at hg
  split at hg
  · rename_i hlt hf0
    have hlt' : h.next < most := by simpa [Nat.blt_eq] using hlt
    split at hg
    · rename_i hlf
      have hlf' : h.nfam < most := by simpa [Nat.blt_eq] using hlf
      injection hg with hg
      injection hg with hg1 hg2
      subst hg1
      subst hg2
      refine ⟨rfl, ?_⟩
      refine H.grow hi hr hw (r.base + p.off + len * sz) hw1 hsz (fun k hk => hsame k (by omega)) hoth hgrow ⟨cells, e, h.nfam, r.base + p.off, true⟩ i1 o1 ho1 (hR1 _) (hi1' _ rfl) h.nfam rfl (.inr ⟨hf0, rfl⟩)
        (fun d => ?_) (l1 := (⟨h.next, r.base + p.off, r.base + p.off + cells.length⟩ :: stays p.block r.base (r.base + r.c.length) (r.base + p.off + len * sz))) ?_ (fun g hg => ?_) (fun m hm => ?_) rfl hlt' (by show h.nfam < h.nfam + 1; omega) (by show h.nfam ≤ h.nfam + 1; omega) (by show h.nfam + 1 ≤ most; omega) (fun g hg hne => by have hg' : g < h.nfam + 1 := hg; omega)
      · simp only []
        rw [Tr.get_set' _ _ _ _ (by omega), Tr.get_set' _ _ _ _ (by omega)]
      · simp only []
        rw [Tr.get_set' _ _ _ _ (by omega), if_pos rfl]
      · simp only []
        rw [Tr.get_set' _ _ _ _ (by omega), if_neg hg]
      · rcases List.mem_cons.1 hm with rfl | hm
        · exact .inl rfl
        · unfold stays at hm
          split at hm
          · rename_i hle
            have hle' : r.base + r.c.length ≤ r.base + p.off + len * sz := by simpa using hle
            rw [List.mem_singleton] at hm
            subst hm
            exact .inr ⟨hle', .inl rfl⟩
          · cases hm
    · cases hg
  · rename_i f hlt hf0
    have hlt' : h.next < most := by simpa [Nat.blt_eq] using hlt
    have hfl := H.famlt _ _ hget
    have hnf := H.nf
    split at hg
    · rename_i l hl
      injection hg with hg
      injection hg with hg1 hg2
      subst hg1
      subst hg2
      refine ⟨rfl, ?_⟩
      refine H.grow hi hr hw (r.base + p.off + len * sz) hw1 hsz (fun k hk => hsame k (by omega)) hoth hgrow ⟨cells, e, f + 1, r.base + p.off, true⟩ i1 o1 ho1 (hR1 _) (hi1' _ rfl) (f + 1) rfl (.inl ⟨hf0.symm, by omega⟩)
        (fun d => ?_) (l1 := (⟨h.next, r.base + p.off, r.base + p.off + cells.length⟩ :: l.filter fun m => Nat.ble m.hi (r.base + p.off + len * sz))) ?_ (fun g hg => ?_) (fun m hm => ?_) rfl hlt' (by show f + 1 < h.nfam; omega) (Nat.le_refl _) hnf (fun g hg hne => hg)
      · simp only []
        rw [Tr.get_set' _ _ _ _ (by omega)]
        by_cases hd : d = h.next
        · rw [if_pos hd, if_pos hd]
        · rw [if_neg hd, if_neg hd]
          by_cases hdB : d = p.block
          · rw [if_pos hdB, hdB, hget]
            congr 2
            cases r
            simp only at hf0
            rw [hf0]
          · rw [if_neg hdB]
      · simp only []
        rw [Tr.get_set' _ _ _ _ (by omega), if_pos rfl]
      · simp only []
        rw [Tr.get_set' _ _ _ _ (by omega), if_neg hg]
      · rcases List.mem_cons.1 hm with rfl | hm
        · exact .inl rfl
        · rw [List.mem_filter] at hm
          have : m.hi ≤ r.base + p.off + len * sz := by simpa using hm.2
          exact .inr ⟨this, .inr ⟨l, hl, hf0, hm.1⟩⟩
    · cases hg
  · cases hg

theorem zeroCells_size (z : Array Value) (n : Nat) : (Builtin.zeroCells z n).size = n * z.size := by simp [Builtin.zeroCells]

theorem put_next (ρ : Rho) (b : Nat) (i : Img) : (ρ.put b i) b = some i := by simp [Rho.put]

set_option maxHeartbeats 1000000 in
theorem apd_run (H : HR P ρ N h w) {ts : Array TypeId} {ty e : TypeId} {i : TypeInfo} {z : Value} (K : AppendAsks P ts e i z) {args : Array Value} {base : Option Addr} {len cap n : Nat} {s' x x' : Value} {new : List Value}
    (h0 : args[0]? = some s') (h1' : args[1]? = some x') (hs : VR ρ (.slice base len cap) s') (hx : VR ρ x x') (hn : lenOf' x = some n) (hnew : first' h i.size n x = some new) (hone : new.all oneCell = true) (hnl : new.length = n * i.size)
    (hlc : len ≤ cap) (hbig : len + n ≤ 1000000) {v : Value} {h1 : Hp} (hv : apd h e i.size base len cap n new = some (v, h1)) :
    ∃ ρ1 w1 v', ρ.le ρ1 ∧ (Builtin.append_ ts ty args).run P w = .ok v' w1 ∧ VR ρ1 v v' ∧ HR P ρ1 N h1 w1 ∧ Below N w w1 := by
  have hnr := lenOf_run (P := P) (w := w) hx hn
  have hfirst : ∀ b len c, x = .slice b len c → n ≤ len := by
    intro b len c e
    subst e
    simp only [lenOf', Option.some.injEq] at hn
    omega
  unfold apd at hv
  split at hv
  · rename_i hle
    have hle' : len + n ≤ cap := by simpa using hle
    obtain ⟨new', f1, f2⟩ := first_run H hx hfirst hnew
    split at hv
    · injection hv with hv
      injection hv with hv1 hv2
      subst hv1
      subst hv2
      cases hs
      exact ⟨ρ, w, _, Rho.le_refl ρ, append_room K h0 h1' hnr f1 (by omega) (w1 := w) (fun _ e => by cases e) (fun _ => rfl), by
        have : n = 0 := by omega
        subst this
        exact .slNil, H, Below.refl _ _⟩
    · rename_i p
      split at hv
      · rename_i h2 hst
        injection hv with hv
        injection hv with hv1 hv2
        subst hv1
        subst hv2
        cases hs with
        | @sl _ p' j _ _ c' hp hc =>
          obtain ⟨w1, r1, r2, r3⟩ := H.stores (P := P) (.inr ⟨j, hp.add _⟩) f2 hst
          have hcc : cap ≤ c' := by rcases hc with h | h <;> omega
          exact ⟨ρ, w1, _, Rho.le_refl ρ, append_room K h0 h1' hnr f1 (by omega) (w1 := w1) (fun q e => by injection e with e; subst e; exact r1) (fun e => by cases e), .sl hp hc, r2, r3⟩
        | slZero p p' hz =>
          have hn0 : n = 0 := by omega
          subst hn0
          have hnil : new = [] := by
            cases new with
            | nil => rfl
            | cons y l => simp at hnl
          subst hnil
          obtain ⟨w1, r1, r2, r3⟩ := H.stores (P := P) (a' := p'.add (0 * i.size)) (.inl rfl) f2 hst
          exact ⟨ρ, w1, _, Rho.le_refl ρ, append_room K h0 h1' hnr f1 (by omega) (w1 := w1) (fun q e => by injection e with e; subst e; exact r1) (fun e => by cases e), .slZero _ _ hz, r2, r3⟩
      · cases hv
  · rename_i hle
    have hle' : ¬ len + n ≤ cap := by
      intro hh
      rw [show Nat.ble (len + n) cap = true by rw [Nat.ble_eq]; exact hh] at hle
      cases hle
    have H2 : HR P ρ N h w.drew := H.drewn _
    obtain ⟨new', f1, f2⟩ := first_run (w := w.drew) H2 hx hfirst hnew
    have hnl' : new'.size = n * i.size := by rw [size_of_VRs f2]; exact hnl
    have hB2 : Below N w w.drew := (Below.refl _ _).drew
    split at hv
    · split at hv
      · split at hv
        · rename_i p h2 hgr
          injection hv with hv
          injection hv with hv1 hv2
          subst hv1
          subst hv2
          cases hs
          obtain ⟨newCap, c1, c2⟩ := append_new (P := P) (w := w) (ty := ty) (old := #[]) K h0 h1' hnr (by simp [Builtin.firstCells]) f1 hle' hbig
          unfold Hp.grownRow at hgr
          split at hgr
          · rename_i b h3 hnw
            injection hgr with hgr
            injection hgr with hg1 hg2
            subst hg1
            subst hg2
            have hb := new_next hnw
            subst hb
            generalize harr : (#[] ++ new' ++ Builtin.zeroCells z.cells (newCap - (0 + n))) = arr at c2
            have hasz : arr.size = newCap * i.size := by
              rw [← harr, Array.size_append, zeroCells_size, K.zs]
              simp only [Array.empty_append, hnl']
              rw [← Nat.add_mul]
              congr 1
              omega
            have hle3 := H2.le_put ⟨w.heap.size, 0, arr.size, i.size, false⟩
            have hR : ObjR P (ρ.put h.next ⟨w.heap.size, 0, arr.size, i.size, false⟩) ⟨w.heap.size, 0, arr.size, i.size, false⟩ (.cells ⟨new, e, 0, 0, true⟩) (.cells arr e) := by
              refine ⟨rfl, ?_, by simp, fun k v hk => ?_, fun k _ => by simp, fun hx => (by cases hx), fun _ => by simp [Program.cellsOf, K.info]⟩
              · simp only [hnl, hasz, Nat.zero_add]
                exact Nat.mul_le_mul_right _ (by omega)
              · obtain ⟨v', g1, g2⟩ := f2.get hk
                refine ⟨v', ?_, g2.mono hle3⟩
                have hlt : k < new'.size := by
                  rcases Nat.lt_or_ge k new'.size with h | h
                  · exact h
                  · rw [List.getElem?_eq_none (by simpa using h)] at g1; cases g1
                simp only [Nat.zero_add]
                rw [← harr, Array.empty_append, Array.getElem?_append_left hlt]
                simpa using g1
            obtain ⟨_, g3, g4⟩ := H2.new hnw ⟨w.heap.size, 0, arr.size, i.size, false⟩ rfl hR (fun r hr => by injection hr with hr; subst hr; rfl)
            refine ⟨_, _, _, hle3, c2, ?_, g3, hB2.trans g4⟩
            have hv2 : VR (ρ.put h.next ⟨w.heap.size, 0, arr.size, i.size, false⟩) (.slice (some ⟨h.next, 0, none⟩) n n) (.slice (some ⟨w.heap.size, 0, none⟩) n newCap) :=
              .sl (i := ⟨w.heap.size, 0, arr.size, i.size, false⟩) ⟨rfl, put_next _ _ _, by simp⟩ (.inr ⟨rfl, by omega, by simp [hasz]⟩)
            simpa using hv2
          · cases hgr
        · cases hv
      · cases hv
    · rename_i p
      split at hv
      · rename_i r old hr hold
        split at hv
        · rename_i hre
          have hre' : r.e = e := nbeq_true hre
          -- the two ways
          have way2 : ∀ (p' : Addr) (c' : Nat) (j : Img), s' = .slice (some p') len c' → ρ p.block = some j → (len = 0 ∨ AR ρ p p' j) → ¬ len + n ≤ c' →
              ∃ ρ1 w1 v', ρ.le ρ1 ∧ (Builtin.append_ ts ty args).run P w = .ok v' w1 ∧ VR ρ1 v v' ∧ HR P ρ1 N h1 w1 ∧ Below N w w1 := by
            intro p' c' j es hj hpj hnc
            subst es
            obtain ⟨arr0, e0, fr, hw, hR0, hget⟩ := H2.row hr hj
            obtain ⟨old', g1, g2, g3⟩ := H2.loads (a' := p') (n := len * i.size) (by
              rcases hpj with h | h
              · exact .inl (by rw [h, Nat.zero_mul])
              · exact .inr ⟨j, h⟩) hold
            obtain ⟨newCap, c1, c2⟩ := append_new (P := P) (w := w) (ty := ty) (old := old') K h0 h1' hnr (by simp [Builtin.firstCells, g1]) f1 hnc hbig
            have hol : old'.size = len * i.size := by rw [size_of_VRs g2]; exact g3
            generalize harr : (old' ++ new' ++ Builtin.zeroCells z.cells (newCap - (len + n))) = arr at c2
            have hasz : arr.size = newCap * i.size := by
              rw [← harr, Array.size_append, Array.size_append, zeroCells_size, K.zs, hol, hnl', ← Nat.add_mul, ← Nat.add_mul]
              congr 1
              omega
            let i1 : Img := ⟨w.heap.size, 0, arr.size, i.size, false⟩
            have hle3 := H2.le_put i1
            have hjlt := (H2.lo _ j hj).2
            have hpush : ∀ k, k < w.drew.heap.size → (w.drew.alloc (.cells arr e)).heap[k]? = w.drew.heap[k]? := fun k hk => Below.heap_alloc _ _ k hk
            have hR1 : ∀ f, ObjR P (ρ.put h.next i1) i1 (.cells ⟨old ++ new, e, f, r.base + p.off, true⟩) (.cells arr e) := by
              intro f
              refine ⟨rfl, ?_, by simp [i1], fun k v hk => ?_, fun k _ => by simp, fun hx => (by cases hx), fun _ => by simp [Program.cellsOf, K.info, i1]⟩
              · simp only [List.length_append, g3, hnl, hasz, i1, Nat.zero_add]
                rw [← Nat.add_mul]
                exact Nat.mul_le_mul_right _ (by omega)
              · obtain ⟨v', k1, k2⟩ := (g2.append f2).get hk
                refine ⟨v', ?_, k2.mono hle3⟩
                have hlt : k < (old' ++ new').size := by
                  rcases Nat.lt_or_ge k (old' ++ new').size with h | h
                  · exact h
                  · rw [List.getElem?_eq_none (by simpa using h)] at k1; cases k1
                simp only [i1, Nat.zero_add]
                rw [← harr, Array.getElem?_append_left hlt]
                rw [← Array.getElem?_toList, Array.toList_append]
                exact k1
            have hBA : Below N w.drew (w.drew.alloc (.cells arr e)) := (Below.refl _ _).alloc H2.base _
            obtain ⟨rfl, g5⟩ := grow_HR H2 hv hj hr hw (w1 := w.drew.alloc (.cells arr e)) (arr1 := arr0) (by rw [hpush _ hjlt]; exact hw) rfl (fun _ _ => rfl) (fun k hk _ => hpush k hk) hBA.size i1 (.cells arr e)
              (by show (w.drew.heap.push (.cells arr e))[w.heap.size]? = _; exact Array.getElem?_push_size) hR1 (.inr ⟨Nat.le_refl _, by show w.heap.size < (w.drew.heap.push _).size; rw [Array.size_push]; exact Nat.lt_succ_self _⟩)
            refine ⟨_, _, _, hle3, c2, ?_, g5, hB2.trans hBA⟩
            refine .sl (i := i1) ⟨rfl, put_next _ _ _, by simp [i1]⟩ (.inr ⟨rfl, by omega, ?_⟩)
            simp [hasz, i1]
          cases hs with
          | @sl _ p' j _ _ c' hp hc =>
            by_cases hc' : len + n ≤ c'
            · -- there is room that nobody knew of
              obtain ⟨hex, hcc, hm⟩ : j.ex = false ∧ cap ≤ c' ∧ p.off + c' * j.z ≤ j.m := by
                rcases hc with rfl | h
                · exact absurd hc' hle'
                · exact h
              obtain ⟨new1, q1, q2⟩ := first_run (w := w) H hx hfirst hnew
              obtain ⟨arr, e0, fr, hw, hR0, hget⟩ := H.row hr hp.2.1
              obtain ⟨old', g1, g2, g3⟩ := H.loads (.inr ⟨j, hp⟩) hold
              have hjz : j.z = i.size := by
                have := hR0.2.2.2.2.2.2 hex
                rw [hre'] at this
                rw [← this]
                simp [Program.cellsOf, K.info]
              have hnl1 : new1.size = n * i.size := by rw [size_of_VRs q2]; exact hnl
              have hmul : (len + n) * i.size ≤ c' * i.size := Nat.mul_le_mul_right _ hc'
              have hin : j.s + (p.off + len * i.size) + new1.toList.length ≤ arr.size := by
                have h1 := hR0.2.2.1
                have h2 := hR0.2.1
                rw [Array.length_toList, hnl1]
                rw [Nat.add_mul] at hmul
                rw [hjz] at hm
                omega
              have hrun := storeCells_run (P := P) (b := j.b) (e := e0) (fr := fr) (j.s + (p.off + len * i.size)) new1.toList 0 w arr hw hR0.2.2.2.2.1 (by omega) (all_VRs q2 hone)
              rw [Nat.add_zero] at hrun
              have hadd : p'.add (len * i.size) = ⟨j.b, j.s + (p.off + len * i.size), none⟩ := by
                have := (hp.add (len * i.size)).fn
                rw [add_off] at this
                exact this
              rw [← hadd] at hrun
              have hlo := H.lo _ j hp.2.1
              let w1 := World.putBlock w j.b (.cells (over arr (j.s + (p.off + len * i.size)) new1.toList) e0 fr)
              let i1 : Img := ⟨j.b, j.s + p.off, j.m - p.off, i.size, false⟩
              have hle3 := H.le_put i1
              have hw1 : w1.heap[j.b]? = some (.cells (over arr (j.s + (p.off + len * i.size)) new1.toList) e0 fr) := by
                show (World.putBlock w j.b _).heap[j.b]? = _
                rw [putBlock_get _ _ _ _ hlo.2, if_pos rfl]
              have hR1 : ∀ f, ObjR P (ρ.put h.next i1) i1 (.cells ⟨old ++ new, e, f, r.base + p.off, true⟩) (.cells (over arr (j.s + (p.off + len * i.size)) new1.toList) e0 fr) := by
                intro f
                refine ⟨by rw [hR0.1, hre'], ?_, ?_, fun k v hk => ?_, by rw [over_size]; exact hR0.2.2.2.2.1, fun hx => (by cases hx), fun _ => by simp [Program.cellsOf, K.info, i1]⟩
                · simp only [over_size, List.length_append, g3, hnl, i1]
                  rw [Array.length_toList, hnl1] at hin
                  omega
                · simp only [over_size, i1]
                  have := hR0.2.2.1
                  omega
                · simp only [i1]
                  rw [over_get _ _ _ hin]
                  have hkl : k < (old ++ new).length := by
                    rcases Nat.lt_or_ge k (old ++ new).length with h | h
                    · exact h
                    · have hk' : (old ++ new)[k]? = some v := hk
                      rw [List.getElem?_eq_none h] at hk'; cases hk'
                  rw [List.length_append, g3, hnl] at hkl
                  by_cases hko : k < len * i.size
                  · have hk' : old[k]? = some v := by
                      have hk2 : (old ++ new)[k]? = some v := hk
                      rwa [List.getElem?_append_left (by rw [g3]; exact hko)] at hk2
                    rw [if_neg (by omega)]
                    -- a cell of the old row
                    have hkc : r.c[p.off + k]? = some v := by
                      have hz : len * i.size ≠ 0 := by omega
                      cases hq : len * i.size with
                      | zero => exact absurd hq hz
                      | succ q =>
                        rw [hq] at hold
                        simp only [Hp.loads] at hold
                        rw [hp.1] at hold
                        simp only [hr] at hold
                        obtain ⟨t1, _⟩ := takeN_spec _ _ _ hold
                        rw [t1, List.getElem?_take] at hk'
                        split at hk'
                        · simpa using hk'
                        · cases hk'
                    obtain ⟨v', t1, t2⟩ := hR0.2.2.2.1 _ _ hkc
                    exact ⟨v', by rw [← t1]; congr 1; omega, t2.mono hle3⟩
                  · have hk' : new[k - len * i.size]? = some v := by
                      have hk2 : (old ++ new)[k]? = some v := hk
                      rwa [List.getElem?_append_right (by rw [g3]; omega), g3] at hk2
                    obtain ⟨v', t1, t2⟩ := q2.get hk'
                    rw [if_pos (by rw [Array.length_toList, hnl1]; omega)]
                    exact ⟨v', by rw [← t1]; congr 1; omega, t2.mono hle3⟩
              obtain ⟨rfl, g5⟩ := grow_HR H hv hp.2.1 hr hw (w1 := w1) hw1 (by rw [over_size]) (fun k hk => by rw [over_get _ _ _ hin, if_neg (by omega)]) (fun k hk hne => by
                show (World.putBlock w j.b _).heap[k]? = _
                rw [putBlock_get _ _ _ _ hlo.2, if_neg hne]) (by show _ ≤ (World.putBlock w j.b _).heap.size; rw [putBlock_size]; exact Nat.le_refl _) i1 _ hw1 hR1 (.inl ⟨rfl, rfl⟩)
              refine ⟨_, w1, _, hle3, append_room K h0 h1' hnr q1 hc' (w1 := w1) (fun q e => by injection e with e; subst e; exact hrun) (fun e => by cases e), ?_, g5, below_put hlo.1⟩
              refine .sl (i := i1) ⟨rfl, put_next _ _ _, by rw [hp.fn]; simp [i1]⟩ (.inr ⟨rfl, by omega, ?_⟩)
              simp only [i1]
              rw [hjz] at hm
              omega
            · exact way2 p' c' j rfl hp.2.1 (.inr hp) hc'
          | @slZero p p' j hj =>
            exact way2 p' 0 j rfl hj (.inl rfl) (by omega)
        · cases hv
      · cases hv

end Go.Ev

namespace Go.Ev
open Go.RowKit
variable {P : Program} {ρ : Rho} {N : Bs} {h : Hp} {w : World} {a : A} {act : Act}

theorem two_args {l : List Value} {l' : Array Value} (hl : VRs ρ l l'.toList) {x y : Value} {r : List Value} (e : l = x :: y :: r) : ∃ x' y', l'[0]? = some x' ∧ l'[1]? = some y' ∧ VR ρ x x' ∧ VR ρ y y' := by
  subst e
  obtain ⟨x', r1, e1, hx, hr⟩ := hl.cons_inv
  obtain ⟨y', r2, e2, hy, _⟩ := hr.cons_inv
  refine ⟨x', y', ?_, ?_, hx, hy⟩
  · rw [← Array.getElem?_toList, e1]; rfl
  · rw [← Array.getElem?_toList, e1, e2]; rfl

theorem append_run (H : HR P ρ N h w) {ts : Array TypeId} {ty : TypeId} {l : List Value} {l' : Array Value} (hl : VRs ρ l l'.toList) {v : Value} {h1 : Hp} (hv : append' P h ts.toList l = some (v, h1)) :
    ∃ ρ1 w1 v', ρ.le ρ1 ∧ (Builtin.append_ ts ty l').run P w = .ok v' w1 ∧ VR ρ1 v v' ∧ HR P ρ1 N h1 w1 ∧ Below N w w1 := by
  unfold append' at hv
  split at hv
  · rename_i t xt base len cap x rest ht
    obtain ⟨s', x', a0, a1, hs, hx⟩ := two_args hl rfl
    have ht0 : ts[0]? = some t := by rw [← Array.getElem?_toList, ht]; rfl
    split at hv
    · rename_i e hu hni
      split at hv
      · rename_i i z hi hz
        split at hv
        · rename_i c1 c2 c3 c4
          split at hv
          · rename_i n hn
            split at hv
            · rename_i new hnew hbig hlc
              split at hv
              · rename_i hone hnl
                have K : AppendAsks P ts e i z := by
                  refine ⟨⟨t, ht0, hu⟩, ?_, hi, fun w => (zero_run (w := w) (ρ := ρ) hz).1, by rw [← Array.length_toList]; exact nbeq_true c1, by simpa [Nat.blt_eq] using c2, by simpa [Nat.blt_eq] using c4, by simpa using c3⟩
                  cases xt with
                  | nil => left; rw [← Array.getElem?_toList, ht]; rfl
                  | cons u r =>
                    right
                    have hu1 : ts[1]? = some u := by rw [← Array.getElem?_toList, ht]; rfl
                    simp only [Go.Ev.noInt] at hni
                    split at hni
                    · rename_i e2 hq
                      exact .inl ⟨u, e2, hu1, hq⟩
                    · rename_i hq
                      exact .inr ⟨u, hu1, hq⟩
                    · cases hni
                exact apd_run H K a0 a1 hs hx hn hnew hone (nbeq_true hnl) (by simpa using hlc) (by simpa using hbig) hv
              · cases hv
            · cases hv
          · cases hv
        · cases hv
      · cases hv
    · cases hv
  · cases hv

theorem copy_run (H : HR P ρ N h w) {ts : Array TypeId} {ty : TypeId} {l : List Value} {l' : Array Value} (hl : VRs ρ l l'.toList) {v : Value} {h1 : Hp} (hv : copy' P h ts.toList l = some (v, h1)) :
    ∃ ρ1 w1 v', ρ.le ρ1 ∧ (Builtin.copy_ ts ty l').run P w = .ok v' w1 ∧ VR ρ1 v v' ∧ HR P ρ1 N h1 w1 ∧ Below N w w1 := by
  unfold copy' at hv
  split at hv
  · rename_i t xt d s rest ht
    obtain ⟨d', s', a0, a1, hd, hs⟩ := two_args hl rfl
    have ht0 : ts[0]? = some t := by rw [← Array.getElem?_toList, ht]; rfl
    split at hv
    · rename_i e base dl dc sl hu hsl
      split at hv
      · rename_i z hz
        split at hv
        · rename_i cs hcs
          obtain ⟨hzr, _⟩ := size_some (w := w) hz
          have hlen := lenOf_run (P := P) (w := w) hs hsl
          obtain ⟨cs', f1, f2⟩ := first_run H hs (fun b len c e => by
            subst e
            simp only [lenOf', Option.some.injEq] at hsl
            rw [hsl]
            exact Nat.min_le_left _ _) hcs
          split at hv
          · injection hv with hv
            injection hv with hv1 hv2
            subst hv1; subst hv2
            cases hd
            refine ⟨ρ, w, _, Rho.le_refl ρ, ?_, .int _ _, H, Below.refl _ _⟩
            simp only [Builtin.copy_, ht0, a0, a1, Sem.run_bind, run_und hu, Result.andThen_ok, hlen, hzr, f1, Sem.run_pure]
            rfl
          · rename_i p
            split at hv
            · rename_i h2 hst
              injection hv with hv
              injection hv with hv1 hv2
              subst hv1; subst hv2
              have fin : ∀ p' c' w1, d' = .slice (some p') dl c' → (storeCells p' cs'.toList).run P w = .ok () w1 → HR P ρ N h2 w1 → Below N w w1 →
                  ∃ ρ1 w1 v', ρ.le ρ1 ∧ (Builtin.copy_ ts ty l').run P w = .ok v' w1 ∧ VR ρ1 (.int .i64 (Nat.min sl dl : Nat)) v' ∧ HR P ρ1 N h2 w1 ∧ Below N w w1 := by
                intro p' c' w1 e r1 r2 r3
                subst e
                refine ⟨ρ, w1, _, Rho.le_refl ρ, ?_, .int _ _, r2, r3⟩
                simp only [Builtin.copy_, ht0, a0, a1, Sem.run_bind, run_und hu, Result.andThen_ok, hlen, hzr, f1, r1, Sem.run_pure]
                rfl
              cases hd with
              | @sl _ p' j _ _ c' hp hc =>
                obtain ⟨w1, r1, r2, r3⟩ := H.stores (P := P) (.inr ⟨j, hp⟩) f2 hst
                exact fin _ _ w1 rfl r1 r2 r3
              | slZero p p' =>
                have hnil : cs = [] := by
                  have hm : Nat.min sl 0 = 0 := Nat.min_zero _
                  rw [hm] at hcs
                  unfold first' at hcs
                  split at hcs
                  · rw [Nat.zero_mul] at hcs
                    simp only [Hp.loads, Option.some.injEq] at hcs
                    exact hcs.symm
                  · injection hcs with hcs; exact hcs.symm
                  · injection hcs with hcs; simpa using hcs.symm
                  · cases hcs
                subst hnil
                obtain ⟨w1, r1, r2, r3⟩ := H.stores (P := P) (a' := p') (.inl rfl) f2 hst
                exact fin _ _ w1 rfl r1 r2 r3
            · cases hv
        · cases hv
      · cases hv
    · cases hv
  · cases hv

theorem bytesOf_VRs : ∀ {l l' : List Value}, VRs ρ l l' → ∀ {bs : List UInt8}, bytesOf l = some bs → ∃ xs : List Int, l' = xs.map (Value.int .u8) ∧ bs = xs.map fun n => UInt8.ofNat n.toNat
  | _, _, .nil, bs, hb => by
    simp only [bytesOf, Option.some.injEq] at hb
    subst hb
    exact ⟨[], rfl, rfl⟩
  | _, _, .cons hv hl, bs, hb => by
    unfold bytesOf at hb
    split at hb
    · rename_i e; cases e
    · rename_i n r e
      injection e with e1 e2
      subst e1; subst e2
      cases hv
      split at hb
      · rename_i br hbr
        injection hb with hb
        subst hb
        obtain ⟨xs, e1, e2⟩ := bytesOf_VRs hl hbr
        exact ⟨n :: xs, by rw [e1]; rfl, by rw [e2]; rfl⟩
      · cases hb
    · cases hb

theorem convert_run (H : HR P ρ N h w) {src dst : TypeId} {x x' : Value} (hx : VR ρ x x') {v : Value} {h1 : Hp} (hv : convert' P h src dst x = some (v, h1)) :
    ∃ ρ1 w1 v', ρ.le ρ1 ∧ (convert src dst x').run P w = .ok v' w1 ∧ VR ρ1 v v' ∧ HR P ρ1 N h1 w1 ∧ Below N w w1 := by
  unfold convert' at hv
  split at hv
  · rename_i q k k2 n hs hd
    cases hx
    injection hv with hv
    injection hv with hv1 hv2
    subst hv1; subst hv2
    refine ⟨ρ, w, _, Rho.le_refl ρ, ?_, .int _ _, H, Below.refl _ _⟩
    simp [convert, run_und hs, run_und hd, Conv.intToInt]
  · rename_i q s hs hd
    cases hx
    injection hv with hv
    injection hv with hv1 hv2
    subst hv1; subst hv2
    refine ⟨ρ, w, _, Rho.le_refl ρ, ?_, .string _, H, Below.refl _ _⟩
    simp [convert, run_und hs, run_und hd]
  · rename_i q e s hs hd
    cases hx
    split at hv
    · rename_i he
      split at hv
      · rename_i hlen hsz
        split at hv
        · rename_i p h2 hgr
          injection hv with hv
          injection hv with hv1 hv2
          subst hv1; subst hv2
          obtain ⟨_, hcz⟩ := size_some (w := w) hsz
          unfold Hp.grownRow at hgr
          split at hgr
          · rename_i b h3 hnw
            injection hgr with hgr
            injection hgr with hg1 hg2
            subst hg1; subst hg2
            have hb := new_next hnw
            subst hb
            have H2 : HR P ρ N h w.drew := H.drewn _
            have hB2 : Below N w w.drew := (Below.refl _ _).drew
            let cap := (Question.appendCap s.size 0 e).cut (w.tape w.drawn (.appendCap s.size 0 e))
            have hcap : s.size ≤ cap := by simp only [cap, Question.cut]; omega
            let arr : Array Value := s.data.map (fun b => Value.int .u8 b.toNat) ++ Array.replicate (cap - s.size) (.int .u8 0)
            have hasz : arr.size = cap := by
              simp only [arr, Array.size_append, Array.size_map, Array.size_replicate]
              have : s.data.size = s.size := rfl
              omega
            let i1 : Img := ⟨w.heap.size, 0, arr.size, 1, false⟩
            have hle3 := H2.le_put i1
            have hR : ObjR P (ρ.put h.next i1) i1 (.cells ⟨s.data.toList.map fun b => .int .u8 b.toNat, e, 0, 0, true⟩) (.cells arr e (arr.size, arr.size + 1)) := by
              refine ⟨rfl, ?_, by simp [i1], fun k v hk => ?_, fun k hk => ?_, fun hx => (by cases hx), fun _ => hcz⟩
              · simp only [i1, List.length_map, Nat.zero_add, hasz]
                rw [← size_data]
                exact hcap
              · have hk' : (s.data.toList.map fun b => Value.int .u8 (b.toNat : Int))[k]? = some v := hk
                have hkl : k < s.data.size := by
                  rcases Nat.lt_or_ge k s.data.size with h | h
                  · exact h
                  · rw [List.getElem?_eq_none (by simpa using h)] at hk'; cases hk'
                obtain ⟨v', g1, g2⟩ := (ints_VRs (ρ := ρ.put h.next i1) s.data.toList).get hk'
                refine ⟨v', ?_, g2⟩
                simp only [i1, Nat.zero_add, arr]
                rw [Array.getElem?_append_left (by simpa using hkl)]
                rw [← Array.getElem?_toList, Array.toList_map]
                exact g1
              · simp
                omega
            obtain ⟨_, g3, g4⟩ := H2.new hnw i1 rfl hR (fun r hr => by injection hr with hr; subst hr; rfl)
            have hfz : (w.drew.alloc (.cells arr e)).freeze ⟨w.heap.size, arr.size, none⟩ 1 = w.drew.alloc (.cells arr e (arr.size, arr.size + 1)) := by
              unfold World.freeze
              simp only [Nat.one_ne_zero, if_false]
              show World.mk _ _ _ _ _ = World.mk _ _ _ _ _
              congr 1
              show (w.heap.push (.cells arr e)).modify w.heap.size _ = w.heap.push (.cells arr e (arr.size, arr.size + 1))
              apply Array.ext
              · simp
              · intro k k1 k2
                rw [Array.getElem_modify]
                by_cases hk : w.heap.size = k
                · subst hk
                  simp
                · rw [if_neg hk]
                  have : k < w.heap.size := by simp at k2; omega
                  rw [Array.getElem_push_lt this, Array.getElem_push_lt this]
            have hshape : (w.drew.alloc (.cells arr e)).shape? w.heap.size = some (e, arr.size) := by
              refine shape_of (fr := (0, 0)) ?_
              show (w.heap.push (.cells arr e))[w.heap.size]? = _
              exact Array.getElem?_push_size
            refine ⟨_, _, .slice (some ⟨w.heap.size, 0, none⟩) s.size cap, hle3, ?_, ?_, g3, hB2.trans g4⟩
            · have hrow : (newRow e arr).run P w.drew = .ok ⟨w.heap.size, 0, none⟩ (w.drew.alloc (.cells arr e)) := rfl
              simp [convert, run_und hs, run_und hd, run_und he, Conv.stringToBytes, Question.forced]
              have hrow' : (newRow e (s.data.map (fun b => Value.int .u8 b.toNat) ++ Array.replicate ((Question.appendCap s.size 0 e).cut (w.tape w.drawn (.appendCap s.size 0 e)) - s.size) (.int .u8 0))).run P w.drew = .ok ⟨w.heap.size, 0, none⟩ (w.drew.alloc (.cells arr e)) := rfl
              rw [hrow']
              simp only [Result.andThen_ok, markStringish, Sem.run_bind, run_shape, hshape, run_freeze, Sem.run_pure, hfz, cap]
            · rw [← size_data]
              exact .sl (i := i1) ⟨rfl, put_next _ _ _, by simp [i1]⟩ (.inr ⟨rfl, hcap, by simp [i1, hasz]⟩)
          · cases hgr
        · cases hv
      · cases hv
    · cases hv
  · rename_i e m c hs hd
    split at hv
    · rename_i he
      injection hv with hv
      injection hv with hv1 hv2
      subst hv1; subst hv2
      cases hx
      refine ⟨ρ, w, _, Rho.le_refl ρ, run_convert_bytes_nil w src e hs he _ _ dst hd, ?_, H, Below.refl _ _⟩
      exact .string _
    · cases hv
  · rename_i e p n c hs hd
    split at hv
    · rename_i he
      split at hv
      · rename_i l hl
        split at hv
        · rename_i bs hbs
          injection hv with hv
          injection hv with hv1 hv2
          subst hv1; subst hv2
          have fin : ∀ p' c', (n = 0 ∨ ∃ i, AR ρ p p' i) → x' = .slice (some p') n c' → ∃ ρ1 w1 v', ρ.le ρ1 ∧ (convert src dst x').run P w = .ok v' w1 ∧ VR ρ1 (.string ⟨bs.toArray⟩) v' ∧ HR P ρ1 N h w1 ∧ Below N w w1 := by
            intro p' c' ha e0
            subst e0
            obtain ⟨l', g1, g2, g3⟩ := H.loads ha hl
            obtain ⟨xs, e1, e2⟩ := bytesOf_VRs g2 hbs
            have hl' : l' = (xs.map (Value.int .u8)).toArray := by
              apply Array.ext'
              rw [e1]
            rw [hl'] at g1
            refine ⟨ρ, w, .string ⟨bs.toArray⟩, Rho.le_refl ρ, ?_, .string _, H, Below.refl _ _⟩
            rw [run_convert_bytes_string w src dst e _ n c' hs he hd, run_bytesToString w _ n c' xs g1, foldl_push_bytes, e2]
            congr 2
            simp [ByteArray.empty, ByteArray.emptyWithCapacity]
            rfl
          cases hx with
          | sl hp hc => exact fin _ _ (.inr ⟨_, hp⟩) rfl
          | slZero => exact fin _ _ (.inl rfl) rfl
        · cases hv
      · cases hv
    · cases hv
  · cases hv

set_option maxHeartbeats 4000000 in
/-- Operations that make new memory out of the frame alone. -/
theorem maker_run (A : ActR ρ a act) (o : Oper) {ob : CObj} {f : Nat → Value} (hv : maker' P a o.op = some (ob, f)) :
    ∃ s : Sem Value, (∀ w : World, (execOp act.eval o).run P w = (do pure (.value (← s)) : Sem Next).run P w) ∧ Makes P ρ s ob f := by
  obtain ⟨dst, op, ty, pos, after, guard⟩ := o
  simp only at hv
  cases op <;> simp only [maker'] at hv <;> try (cases hv; done)
  case alloc e =>
    split at hv
    · rename_i z hz
      injection hv with hv
      injection hv with hv1 hv2
      subst hv1; subst hv2
      refine ⟨Instr.alloc e true (.tuple #[]), fun w => rfl, makes_row (c' := z.cells) (f' := fun b => .pointer (some ⟨b, 0, none⟩)) (zero_VR (ρ := ρ) hz).cells (fun w => ?_) (fun ρ1 g b i ha => .ptr ha)⟩
      obtain ⟨hzr, _⟩ := zero_run (w := w) (ρ := ρ) hz
      simp [Instr.alloc, hzr, newVar, newRow_eq]
    · cases hv
  case box e x =>
    split at hv
    · rename_i u hu
      injection hv with hv
      injection hv with hv1 hv2
      subst hv1; subst hv2
      refine ⟨Instr.box e (act.eval x), fun w => rfl, makes_row (c' := (act.eval x).cells) (f' := fun b => .pointer (some ⟨b, 0, none⟩)) (A.ev hu).cells (fun w => ?_) (fun ρ1 g b i ha => .ptr ha)⟩
      simp [Instr.box, newVar, newRow_eq]
    · cases hv
  case buildSlice t n parts =>
    split at hv
    · rename_i l hl
      exact ⟨Instr.buildSlice t n (parts.map fun (i, x) => (i, act.eval x)), fun w => rfl, buildSlice_makes (ps' := parts.map fun (i, x) => (i, act.eval x)) (by simpa using A.evPairs hl) hv⟩
    · cases hv
  case makeMap t r =>
    have fin : ∀ {s : Sem Value} , (∀ w : World, s.run P w = .ok (.map (some w.heap.size)) (w.alloc (.map #[] 0))) → Makes P ρ s (.map [] 0) (fun b => .map (some b)) := by
      intro s hs
      exact ⟨.map #[] 0, 0, fun b => .map (some b), hs, fun _ _ _ => ⟨.nil, rfl⟩, fun ρ1 g b hg => .map hg, rfl⟩
    cases r with
    | none =>
      simp only at hv
      injection hv with hv
      injection hv with hv1 hv2
      subst hv1; subst hv2
      exact ⟨Instr.makeMap t none, fun w => rfl, fin (fun w => by simp [Instr.makeMap, alloc_push])⟩
    | some x =>
      simp only at hv
      split at hv
      · rename_i k n kt et hx hu
        have := A.ev hx
        generalize hcv : act.eval x = cv at this
        cases this
        injection hv with hv
        injection hv with hv1 hv2
        subst hv1; subst hv2
        exact ⟨Instr.makeMap t (some (act.eval x)), fun w => rfl, fin (fun w => by simp [Instr.makeMap, run_und hu, hcv, asInt, asIntOf, alloc_push])⟩
      · cases hv
  case makeSlice t l c =>
    split at hv
    · rename_i x y hx hy
      exact ⟨Instr.makeSlice t (act.eval l) (act.eval c), fun w => rfl, makeSlice_makes (A.ev hx) (A.ev hy) hv⟩
    · cases hv

theorem makes_does (H : HR P ρ N h w) {s : Sem Value} {ob : CObj} {f : Nat → Value} (hm : Makes P ρ s ob f) {b : Nat} {h1 : Hp} (hn : h.new ob = some (b, h1)) :
    Does P ρ N w ((do pure (.value (← s)) : Sem Next).run P w) (f b) h1 := by
  obtain ⟨o', m, f', r1, r2, r3, r4⟩ := hm
  have hb := new_next hn
  subst hb
  have hle := H.le_put ⟨w.heap.size, 0, m, 0, true⟩
  obtain ⟨_, h2, h3⟩ := H.new hn ⟨w.heap.size, 0, m, 0, true⟩ rfl (r2 _ _ hle) (fun r e => famFree_eq r4 r e)
  exact does_value ⟨_, _, _, hle, r1 w, r3 _ _ _ (by simp [Rho.put]), h2, h3⟩

set_option maxHeartbeats 4000000 in
/-- An operation that changes the heap. -/
theorem writer_run (W : WfP P) (H : HR P ρ N h w) (A : ActR ρ a act) (o : Oper) {v : Value} {h1 : Hp} (hv : writer' P h a o.op = some (v, h1)) : Does P ρ N w ((execOp act.eval o).run P w) v h1 := by
  have mk : (match maker' P a o.op with | some (o, f) => (match h.new o with | some (b, h) => some (f b, h) | none => none) | none => none) = some (v, h1) → Does P ρ N w ((execOp act.eval o).run P w) v h1 := by
    intro hv
    split at hv
    · rename_i ob f hm
      obtain ⟨s, e1, e2⟩ := maker_run A o hm
      split at hv
      · rename_i b h2 hn
        injection hv with hv
        injection hv with hv1 hv2
        subst hv1; subst hv2
        rw [e1]
        exact makes_does H e2 hn
      · cases hv
    · cases hv
  obtain ⟨dst, op, ty, pos, after, guard⟩ := o
  simp only at hv
  cases op <;> simp only [writer'] at hv <;> try (cases hv; done)
  case alloc e => exact mk hv
  case box e x => exact mk hv
  case buildSlice t n parts => exact mk hv
  case makeMap t r => exact mk hv
  case makeSlice t l c => exact mk hv
  case store t x y =>
    split at hv
    · rename_i p u hp hu
      have := A.ev hp
      generalize hcv : act.eval x = cv at this
      cases this with
      | ptr ha =>
      cases hs : storeVar' P h t p u with
      | none => rw [hs] at hv; cases hv
      | some h2 =>
        rw [hs] at hv
        injection hv with hv
        injection hv with hv1 hv2
        subst hv1; subst hv2
        have := does_unit (store_run H ha (A.ev hu) hs)
        simpa [execOp, hcv] using this
    · cases hv
  case mapUpdate t m k x =>
    split at hv
    · rename_i vm vk vx hm hk hx
      cases hs : mapUpdate' P h t vm vk vx with
      | none => rw [hs] at hv; cases hv
      | some h2 =>
        rw [hs] at hv
        injection hv with hv
        injection hv with hv1 hv2
        subst hv1; subst hv2
        exact does_unit (mapUpdate_run W H (A.ev hm) (A.ev hk) (A.ev hx) hs)
    · cases hv
  case insert t m k x =>
    split at hv
    · rename_i vm vk vx hm hk hx
      cases hs : mapUpdate' P h t vm vk vx with
      | none => rw [hs] at hv; cases hv
      | some h2 =>
        rw [hs] at hv
        injection hv with hv
        injection hv with hv1 hv2
        subst hv1; subst hv2
        exact does_unit (mapUpdate_run W H (A.ev hm) (A.ev hk) (A.ev hx) hs)
    · cases hv
  case mapEntry t m k =>
    split at hv
    · rename_i vm vk hm hk
      exact does_value (mapEntry_run W H (A.ev hm) (A.ev hk) hv)
    · cases hv
  case entryStore t m k x =>
    split at hv
    · rename_i vm vk vx hm hk hx
      cases hs : entryStore' h vm vk vx with
      | none => rw [hs] at hv; cases hv
      | some h2 =>
        rw [hs] at hv
        injection hv with hv
        injection hv with hv1 hv2
        subst hv1; subst hv2
        exact does_unit (entryStore_run H (A.ev hm) (A.ev hk) (A.ev hx) hs)
    · cases hv
  case range t x =>
    split at hv
    · rename_i u hu
      exact does_value (range_run H (A.ev hu) hv)
    · cases hv
  case next it s =>
    split at hv
    · rename_i u hu
      exact does_value (next_run H (A.ev hu) hv)
    · cases hv
  case convert s t x =>
    split at hv
    · rename_i u hu
      exact does_value (convert_run H (A.ev hu) hv)
    · cases hv
  case call c =>
    obtain ⟨cal, args, ats⟩ := c
    cases cal with
    | value f => cases hv
    | invoke r m => cases hv
    | builtin b =>
      simp only at hv
      split at hv
      · rename_i l hl
        have hargs : VRs ρ l (args.map act.eval).toList := by simpa using A.evList hl
        unfold builtin' at hv
        split at hv
        · have := does_value (append_run (ty := ty) H hargs hv)
          simpa [execOp, resolve, invoke, builtin] using this
        · have := does_value (copy_run (ty := ty) H hargs hv)
          simpa [execOp, resolve, invoke, builtin] using this
        · split at hv
          · rename_i t tr m k r ht
            obtain ⟨m', k', a0, a1, hm, hk⟩ := two_args hargs rfl
            have ht0 : ats[0]? = some t := by rw [← Array.getElem?_toList, ht]; rfl
            have := does_value (delete_run (ty := ty) W H ht0 a0 a1 hm hk hv)
            simpa [execOp, resolve, invoke, builtin] using this
          · cases hv
        · cases hv
      · cases hv

end Go.Ev
