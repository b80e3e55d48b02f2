/- For every grammar, rule, items and number, Ways answers exactly the document's trees in their order, where the document's search takes at most 20,000 steps (no condition on the arguments): part 2 of 6. -/
import Derived.Test.YtcnllhnhinmokaaWA0
import Derived.Laws.BytesArg
import Derived.LoopN
import Derived.Scope
import Derived.KernelRfl
import Derived.Test.YtcnllhnhinmokaaProg
section
namespace Go.Ev
open Go.RowKit
variable {P : Program} {ρ : Rho} {N : Bs} {h : Hp} {w : World} {a : A} {act : Act}
def Lands (nx : Next) (v : Value) : Prop := nx = .value v ∨ (nx = .skip ∧ v = undef)
def Does (P : Program) (ρ : Rho) (N : Bs) (w : World) (r : Result Next) (v : Value) (h1 : Hp) : Prop :=
 ∃ ρ1 w1 nx v', ρ.le ρ1 ∧ r = .ok nx w1 ∧ Lands nx v' ∧ VR ρ1 v v' ∧ HR P ρ1 N h1 w1 ∧ Below N w w1
theorem does_value {s : Sem Value} {v : Value} {h1 : Hp} (hs : ∃ ρ1 w1 v', ρ.le ρ1 ∧ s.run P w = .ok v' w1 ∧ VR ρ1 v v' ∧ HR P ρ1 N h1 w1 ∧ Below N w w1) :
  Does P ρ N w ((do pure (.value (← s)) : Sem Next).run P w) v h1 := by
 obtain ⟨ρ1, w1, v', h1, h2, h3, h4, h5⟩ := hs
 exact ⟨ρ1, w1, _, v', h1, by simp [h2], .inl rfl, h3, h4, h5⟩
theorem does_unit {s : Sem Unit} {h1 : Hp} (hs : ∃ w1, s.run P w = .ok () w1 ∧ HR P ρ N h1 w1 ∧ Below N w w1) :
  Does P ρ N w ((do s; pure .skip : Sem Next).run P w) undef' h1 := by
 obtain ⟨w1, h2, h4, h5⟩ := hs
 exact ⟨ρ, w1, .skip, undef, Rho.le_refl ρ, by simp [h2], .inr ⟨rfl, rfl⟩, .tuple .nil, h4, h5⟩
theorem alloc_push (w : World) (o : Obj) : { w with heap := w.heap.push o } = w.alloc o := rfl
theorem newRow_eq (e : TypeId) (c' : Array Value) (w : World) : (newRow e c').run P w = .ok ⟨w.heap.size, 0, none⟩ (w.alloc (.cells c' e)) := rfl
def Makes (P : Program) (ρ : Rho) (s : Sem Value) (ob : CObj) (f : Nat → Value) : Prop :=
 ∃ (o' : Obj) (m : Nat) (f' : Nat → Value), (∀ w : World, s.run P w = .ok (f' w.heap.size) (w.alloc o')) ∧ (∀ (ρ1 : Rho) (b : Nat), ρ.le ρ1 → ObjR P ρ1 ⟨b, 0, m, 0, true⟩ ob o') ∧
  (∀ (ρ1 : Rho) (g b : Nat), ρ1 g = some ⟨b, 0, m, 0, true⟩ → VR ρ1 (f g) (f' b)) ∧ famFree ob = true
theorem famFree_eq {ob : CObj} (h : famFree ob = true) (r : Row) (e : ob = .cells r) : r.fam = 0 := by
 subst e
 simpa [famFree] using h
theorem makes_row {s : Sem Value} {e : TypeId} {c : List Value} {c' : Array Value} (hc : VRs ρ c c'.toList) {f f' : Nat → Value} (hs : ∀ w : World, s.run P w = .ok (f' w.heap.size) (w.alloc (.cells c' e)))
  (hf : ∀ (ρ1 : Rho) (g b : Nat) (i : Img), AR ρ1 ⟨g, 0, none⟩ ⟨b, 0, none⟩ i → VR ρ1 (f g) (f' b)) : Makes P ρ s (.cells ⟨c, e, 0, 0, false⟩) f := by
 refine ⟨_, c'.size, f', hs, fun ρ1 b hle => ?_, fun ρ1 g b hg => hf ρ1 g b _ ⟨rfl, hg, by simp⟩, rfl⟩
 have hl : c'.size = c.length := by rw [← Array.length_toList]; exact hc.length
 refine ⟨rfl, by simp [hl], by simp, fun k v hk => ?_, fun k _ => by simp, fun _ => ⟨rfl, rfl⟩, fun hx => by cases hx⟩
 obtain ⟨v', h1, h2⟩ := hc.get hk
 exact ⟨v', by simpa using h1, h2.mono hle⟩
theorem size_of_VRs {c : List Value} {c' : Array Value} (hc : VRs ρ c c'.toList) : c'.size = c.length := by rw [← Array.length_toList]; exact hc.length
theorem repeat_get (z : List Value) (hz : 0 < z.length) : ∀ (n k : Nat), (repeatN z n)[k]? = if k < n * z.length then z[k % z.length]? else none
 | 0, k => by simp [repeatN]
 | n + 1, k => by
   have hs : (n + 1) * z.length = n * z.length + z.length := Nat.succ_mul _ _
   simp only [repeatN]
   by_cases hk : k < z.length
   · rw [List.getElem?_append_left hk, if_pos (by omega), Nat.mod_eq_of_lt hk]
   · rw [List.getElem?_append_right (by omega), repeat_get z hz n]
     by_cases h2 : k - z.length < n * z.length
     · rw [if_pos h2, if_pos (by omega)]
       congr 1
       conv => rhs; rw [show k = (k - z.length) + z.length by omega]
       rw [Nat.add_mod_right]
     · rw [if_neg h2, if_neg (by omega)]
theorem range_repeat (z : Array Value) (hz : 0 < z.size) (n : Nat) : ((Array.range (n * z.size)).map (fun i => z[i % z.size]!)).toList = repeatN z.toList n := by
 apply List.ext_getElem?
 intro k
 rw [repeat_get z.toList (by simpa using hz) n k]
 simp only [Array.toList_map, Array.toList_range, List.getElem?_map, Array.length_toList, List.getElem?_range]
 by_cases hk : k < n * z.size
 · have hlt : k % z.size < z.size := Nat.mod_lt _ hz
   simp [hk, Array.getElem?_eq_getElem hlt, getElem!_pos z (k % z.size) hlt]
 · simp [hk]
theorem range0 {α : Type} (f : Nat → α) : (Array.range 0).map f = #[] := by
 apply Array.ext'
 simp
theorem repeat_VRs {z : List Value} (hz : VRs ρ z z) : ∀ n, VRs ρ (repeatN z n) (repeatN z n)
 | 0 => .nil
 | n + 1 => hz.append (repeat_VRs hz n)
theorem zero_VR {t : TypeId} {z : Value} (h : zero' P t = some z) : VR ρ z z := by
 unfold zero' at h
 split at h
 · split at h
   · split at h
     · rename_i hp
       injection h with h
       subst h
       exact plain_VR 9 _ hp
     · cases h
   · cases h
 · cases h
theorem buildSlice_makes {t : TypeId} {len : Nat} {ps : List (Nat × Value)} {ps' : Array (Nat × Value)} (hps : PRs ρ ps ps'.toList) {ob : CObj} {f : Nat → Value} (hv : buildRow' P t len ps = some (ob, f)) :
  Makes P ρ (Instr.buildSlice t len ps') ob f := by
 unfold buildRow' at hv
 split at hv
 · rename_i e hu
   split at hv
   · rename_i s z hs hz
     split at hv
     · rename_i hlen hpos hbig
       split at hv
       · rename_i c hf
         injection hv with hv
         injection hv with hv1 hv2
         subst hv1
         subst hv2
         have hzv : VR ρ z z := zero_VR hz
         have e1 : z.cells.size = s := by rw [← Array.length_toList]; exact nbeq_true hlen
         have e2 : 0 < s := by simpa [Nat.blt_eq] using hpos
         have e3 : len * s ≤ 100000 := by simpa using hbig
         have hrange := range_repeat z.cells (by omega) len
         rw [e1] at hrange
         obtain ⟨c', h3, h4⟩ := fill_run (place' := fun i => some (i * s, s)) (fun _ _ hp => hp) hps (c' := (Array.range (len * s)).map (fun i => z.cells[i % z.cells.size]!)) hf
          (by rw [e1, hrange]; exact repeat_VRs hzv.cells len)
         refine makes_row (c' := c') (f' := fun b => .slice (some ⟨b, 0, none⟩) len len) h4 (fun w => ?_) (fun ρ1 g b i ha => .sl ha (.inl rfl))
         obtain ⟨hzr, _⟩ := zero_run (w := w) (ρ := ρ) hz
         obtain ⟨hsr, _⟩ := size_some (w := w) hs
         have r1 := newRow_eq (P := P) e c' w
         have hno : ¬ (len * s > 2 ^ 24) := by
          have : (2 : Nat) ^ 24 = 16777216 := by decide
          omega
         by_cases h0 : len * s = 0
         · rw [h0, range0] at h3
           simp only [Instr.buildSlice, Sem.run_bind, run_und hu, Result.andThen_ok, hsr]
           rw [if_neg hno, if_pos h0]
           simp only [Sem.run_bind, Sem.run_pure, Result.andThen_ok, h0, range0, h3, r1]
         · simp only [Instr.buildSlice, Sem.run_bind, run_und hu, Result.andThen_ok, hsr]
           rw [if_neg hno, if_neg h0]
           simp [hzr, h3, r1]
       · cases hv
     · cases hv
   · cases hv
 · cases hv
theorem makeSlice_makes {t : TypeId} {l c l' c' : Value} (hl : VR ρ l l') (hc : VR ρ c c') {ob : CObj} {f : Nat → Value} (hv : makeRow' P t l c = some (ob, f)) :
  Makes P ρ (Instr.makeSlice t l' c') ob f := by
 unfold makeRow' at hv
 split at hv
 · rename_i e n m hu hn hm
   obtain ⟨k1, rfl⟩ := natOf_VR hl hn
   obtain ⟨k2, rfl⟩ := natOf_VR hc hm
   split at hv
   · rename_i i z hi hz
     split at hv
     · rename_i hlen hpos hbig hby hle
       split at hv
       · rename_i hmm
         injection hv with hv
         injection hv with hv1 hv2
         subst hv1
         subst hv2
         have hzv : VR ρ z z := zero_VR hz
         have e1 : z.cells.size = i.size := by rw [← Array.length_toList]; exact nbeq_true hlen
         have e2 : 0 < i.size := by simpa [Nat.blt_eq] using hpos
         have e3 : m * i.bytes ≤ 100000000 := by simpa using hby
         have e4 : n ≤ m := by simpa using hle
         have e5 : m ≤ 100000 := by simpa using hmm
         have hrange := range_repeat z.cells (by omega) m
         rw [e1] at hrange
         refine makes_row (c' := (Array.range (m * i.size)).map (fun k => z.cells[k % z.cells.size]!)) (f' := fun b => .slice (some ⟨b, 0, none⟩) n m) (by rw [e1, hrange]; exact repeat_VRs hzv.cells m) (fun w => ?_) (fun ρ1 g b i ha => .sl ha (.inl rfl))
         obtain ⟨hzr, _⟩ := zero_run (w := w) (ρ := ρ) hz
         have r1 := newRow_eq (P := P) e ((Array.range (m * i.size)).map (fun k => z.cells[k % z.cells.size]!)) w
         have w1 : IntKind.i64.wrap (n : Int) = n := by
          unfold IntKind.wrap IntKind.bits IntKind.signed
          simp
          omega
         have w2 : IntKind.i64.wrap (m : Int) = m := by
          unfold IntKind.wrap IntKind.bits IntKind.signed
          simp
          omega
         have t1 : ¬ ((m : Int) < 0 ∨ ((i.bytes : Int) * (m : Int) > 2 ^ 48)) := by
          have h48 : (2 : Int) ^ 48 = 281474976710656 := by decide
          have : (i.bytes : Int) * (m : Int) = ((m * i.bytes : Nat) : Int) := by rw [Nat.mul_comm]; simp
          rw [this, h48]
          omega
         have t2 : ¬ ((n : Int) < 0) := by omega
         have t3 : ¬ ((n : Int) > (m : Int)) := by omega
         simp only [Instr.makeSlice, Sem.run_bind, run_und hu, Result.andThen_ok, asInt, asIntOf, Sem.run_pure, run_info hi, w1, w2]
         have t4 : (decide ((m : Int) < 0) || decide ((i.bytes : Int) * (m : Int) > 2 ^ 48) || decide ((n : Int) < 0) || decide ((n : Int) > (m : Int))) = false := by
          rw [not_or] at t1
          simp only [Bool.or_eq_false_iff, decide_eq_false_iff_not]
          exact ⟨⟨⟨t1.1, t1.2⟩, t2⟩, t3⟩
         rw [t4]
         simp only [Bool.false_eq_true, if_false, Sem.run_bind, run_askRoom, Result.andThen_ok, run_size hi, Int.toNat_natCast, Sem.run_ite]
         by_cases h0 : m * i.size = 0
         · rw [h0, range0] at r1
           rw [if_pos h0]
           simp only [Sem.run_pure, Result.andThen_ok, h0, range0, Sem.run_bind]
           simp [r1]
         · rw [if_neg h0]
           simp [hzr, r1]
       · cases hv
     · cases hv
   · cases hv
 · cases hv
theorem store_run (H : HR P ρ N h w) {t : TypeId} {p p' : Addr} {i : Img} (hp : AR ρ p p' i) {v v' : Value} (hvv : VR ρ v v') {h1 : Hp} (hs : storeVar' P h t p v = some h1) :
  ∃ w1, (Instr.storeAt t (.pointer (some p')) v').run P w = .ok () w1 ∧ HR P ρ N h1 w1 ∧ Below N w w1 := by
 unfold storeVar' at hs
 split at hs
 · rename_i j hj
   split at hs
   · rename_i hl
     have e1 : v'.cells.size = j.size := by rw [size_of_VRs hvv.cells]; exact nbeq_true hl
     obtain ⟨w1, r1, r2, r3⟩ := H.stores (.inr ⟨i, hp⟩) hvv.cells hs
     refine ⟨w1, ?_, r2, r3⟩
     simp [Instr.storeAt, Instr.sureAddr, storeVar, run_size hj, e1, r1]
   · cases hs
 · cases hs
end Go.Ev
end
section
namespace Go.Ev
open Go.RowKit
variable {P : Program} {ρ : Rho} {N : Bs} {h : Hp} {w : World} {a : A} {act : Act}
theorem setObj_run {r : Nat} {o o' : Obj} (hw : w.heap[r]? = some o) (hno : ∀ c e f, o ≠ .cells c e f) : (setObj r o').run P w = .ok () (World.putBlock w r o') := by
 cases o <;> first
  | (exact absurd rfl (hno _ _ _))
  | (simp [setObj, Sem.run, hw, World.putBlock]; done)
theorem sameKey_bits : ∀ (n : Nat) (x y x' y' : Value), sameKey n x y = true → VR ρ x x' → VR ρ y y' → ∀ D, n ≤ D → Instr.sameBits D x' y' = true := by
 intro n
 induction n with
 | zero =>
   intro x y x' y' hs hx hy D hD
   unfold sameKey at hs
   split at hs
   · cases hx; cases hy; cases D <;> simpa [Instr.sameBits] using hs
   · cases hx; cases hy
     simp only [Bool.and_eq_true, intEq_beq] at hs
     have := kindEq_eq hs.1
     subst this
     cases D <;> simp [Instr.sameBits, hs.2] <;> simpa using hs.2
   · cases hx; cases hy
     rw [bytesEq_beq] at hs
     have : ∀ s u : ByteArray, (s.data.toList == u.data.toList) = true → (s == u) = true := by
      intro s u e
      rw [beq_toListBytes, ByteArray.toList_eq, ByteArray.toList_eq]
      exact e
     cases D <;> simpa [Instr.sameBits] using this _ _ hs
   · cases hx; cases hy; cases D <;> rfl
   · rename_i e; cases e
   · rename_i e; cases e
   · cases hs
 | succ n ih =>
   intro x y x' y' hs hx hy D hD
   obtain ⟨D, rfl⟩ : ∃ k, D = k + 1 := ⟨D - 1, by omega⟩
   unfold sameKey at hs
   split at hs
   · cases hx; cases hy; simpa [Instr.sameBits] using hs
   · cases hx; cases hy
     simp only [Bool.and_eq_true, intEq_beq] at hs
     have := kindEq_eq hs.1
     subst this
     simp [Instr.sameBits]
     simpa using hs.2
   · cases hx; cases hy
     rw [bytesEq_beq] at hs
     have : ∀ s u : ByteArray, (s.data.toList == u.data.toList) = true → (s == u) = true := by
      intro s u e
      rw [beq_toListBytes, ByteArray.toList_eq, ByteArray.toList_eq]
      exact e
     simpa [Instr.sameBits] using this _ _ hs
   · cases hx; cases hy; rfl
   · rename_i t v u v2 e
     injection e with e
     subst e
     cases hx with
     | iface hx =>
     cases hy with
     | iface hy =>
     simp only [Bool.and_eq_true] at hs
     have e1 := nbeq_true hs.1
     subst e1
     simp [Instr.sameBits, ih _ _ _ _ hs.2 hx hy D (by omega)]
   · rename_i b c e
     injection e with e
     subst e
     cases hx with
     | agg hx =>
     rename_i b'
     cases hy with
     | agg hy =>
     rename_i c'
     simp only [Bool.and_eq_true] at hs
     have e1 := nbeq_true hs.1
     have e2 : b'.size = c'.size := by rw [size_of_VRs hx, size_of_VRs hy]; exact e1
     have aux : ∀ {l m l' m' : List Value}, VRs ρ l l' → VRs ρ m m' → ((l.zip m).all fun (x, y) => sameKey n x y) = true → ((l'.zip m').all fun (x, y) => Instr.sameBits D x y) = true := by
      intro l
      induction l with
      | nil => intro m l' m' hl hm _; cases hl; simp
      | cons p l ihl =>
        intro m l' m' hl hm hall
        cases hl with
        | cons hp hl =>
        cases hm with
        | nil => simp
        | cons hq hm =>
          simp only [List.zip_cons_cons, List.all_cons, Bool.and_eq_true] at hall ⊢
          exact ⟨ih _ _ _ _ hall.1 hp hq D (by omega), ihl hl hm hall.2⟩
     simp only [Instr.sameBits, e2, beq_self_eq_true, Bool.true_and]
     exact aux hx hy hs.2
   · cases hs
theorem MRs.append {l l' m m' : List MapEntry} (h : MRs ρ l l') (k : MRs ρ m m') : MRs ρ (l ++ m) (l' ++ m') := by
 induction h with
 | nil => exact k
 | cons a b c _ ih => exact .cons a b c ih
theorem MRs.setAt {f f' : MapEntry → MapEntry} (hf : ∀ e e', VR ρ e.key e'.key → VR ρ e.val e'.val → e'.born = e.born → VR ρ (f e).key (f' e').key ∧ VR ρ (f e).val (f' e').val ∧ (f' e').born = (f e).born) :
  ∀ {l l' : List MapEntry}, MRs ρ l l' → ∀ i, MRs ρ (Go.Ev.setAt f l i) (l'.modify i f')
 | _, _, .nil, i => by cases i <;> exact .nil
 | _, _, .cons a b c k, 0 => by
   obtain ⟨h1, h2, h3⟩ := hf _ _ a b c
   exact .cons h1 h2 h3 k
 | _, _, .cons a b c k, i + 1 => by
   have := MRs.setAt hf k i
   exact .cons a b c this
theorem MRs.erase : ∀ {l l' : List MapEntry}, MRs ρ l l' → ∀ i, MRs ρ (l.eraseIdx i) (l'.eraseIdx i)
 | _, _, .nil, i => by simpa using MRs.nil
 | _, _, .cons a b c k, 0 => by simpa using k
 | _, _, .cons a b c k, i + 1 => by simpa using MRs.cons a b c (MRs.erase k i)
theorem keyStays_run {x y x' y' : Value} (hs : sameKey 40 x y = true) (hx : VR ρ x x') (hy : VR ρ y y') : (Instr.keyThatStays x' y').run P w = .ok y' w := by
 simp [Instr.keyThatStays, sameKey_bits 40 x y x' y' hs hx hy 10000 (by omega)]
theorem putMap (H : HR P ρ N h w) {r : Nat} {i : Img} (hi : ρ r = some i) {es es1 : List MapEntry} {k k1 : Nat} {es1' : Array MapEntry} (hget : h.objs.get r = some (.map es k)) (hR : MRs ρ es1 es1'.toList) :
  HR P ρ N (h.put r (.map es1 k1)) (World.putBlock w i.b (.map es1' k1)) ∧ Below N w (World.putBlock w i.b (.map es1' k1)) :=
 H.put_alone hi hget (fun _ e => by cases e) (fun _ e => by cases e) ⟨hR, rfl⟩
theorem mapUpdate_run (W : WfP P) (H : HR P ρ N h w) {t : TypeId} {m m' k k' v v' : Value} (hm : VR ρ m m') (hk : VR ρ k k') (hvv : VR ρ v v') {h1 : Hp} (hs : mapUpdate' P h t m k v = some h1) :
  ∃ w1, (Instr.mapUpdate t m' k' v').run P w = .ok () w1 ∧ HR P ρ N h1 w1 ∧ Below N w w1 := by
 unfold mapUpdate' at hs
 split at hs
 · rename_i kt et r hu
   cases hm with
   | @map _ i hi =>
   split at hs
   · rename_i es clock hmp hko
     obtain ⟨es', hw, hMR, hget⟩ := H.map? hmp hi
     obtain ⟨kind, hkd⟩ := und_of_keyOk hko
     have hck := checkKey_run (w := w) W 40 kt k k' hko hk 10000 (by omega) false
     have hset := fun o' => setObj_run (P := P) (o' := o') hw (fun _ _ _ e => by cases e)
     split at hs
     · rename_i j u hf
       obtain ⟨res', h2, h3⟩ := findKey_run H hk hMR hf hkd
       split at hs
       · rename_i e he
         split at hs
         · rename_i hsk
           injection hs with hs
           subst hs
           cases h3 with
           | some hu3 =>
           obtain ⟨e', g1, g2, g3, g4⟩ := hMR.get he
           have g1' : es'[j]? = some e' := by simpa using g1
           have hR2 : MRs ρ (Go.Ev.setAt (fun e => { e with key := k, val := v }) es j) (es'.modify j fun e => { e with key := k', val := v' }).toList := by
            rw [Array.toList_modify]
            exact MRs.setAt (f := fun e => { e with key := k, val := v }) (f' := fun e => { e with key := k', val := v' }) (fun e e' _ _ hb => ⟨hk, hvv, hb⟩) hMR j
           obtain ⟨r1, r2⟩ := putMap (k1 := clock) H hi hget hR2
           refine ⟨_, ?_, r1, r2⟩
           have hks := keyStays_run (P := P) (w := w) hsk g2 hk
           simp [Instr.mapUpdate, run_und hu, run_getMap hw, hck, h2, g1', hks, hset]
         · cases hs
       · cases hs
     · rename_i hf
       obtain ⟨res', h2, h3⟩ := findKey_run H hk hMR hf hkd
       injection hs with hs
       subst hs
       cases h3 with
       | none =>
       have hR2 : MRs ρ (es ++ [⟨k, v, clock⟩]) (es'.push ⟨k', v', clock⟩).toList := by
        rw [Array.toList_push]
        exact hMR.append (.cons hk hvv rfl .nil)
       obtain ⟨r1, r2⟩ := putMap (k1 := clock + 1) H hi hget hR2
       refine ⟨_, ?_, r1, r2⟩
       simp [Instr.mapUpdate, run_und hu, run_getMap hw, hck, h2, hset]
     · cases hs
   · cases hs
 · cases hs
theorem mapEntry_run (W : WfP P) (H : HR P ρ N h w) {t : TypeId} {m m' k k' : Value} (hm : VR ρ m m') (hk : VR ρ k k') {v : Value} {h1 : Hp} (hs : mapEntry' P h t m k = some (v, h1)) :
  ∃ ρ1 w1 v', ρ.le ρ1 ∧ (Instr.mapEntry t m' k').run P w = .ok v' w1 ∧ VR ρ1 v v' ∧ HR P ρ1 N h1 w1 ∧ Below N w w1 := by
 unfold mapEntry' at hs
 split at hs
 · rename_i kt et r hu
   cases hm with
   | @map _ i hi =>
   split at hs
   · rename_i es clock hmp hko
     obtain ⟨es', hw, hMR, hget⟩ := H.map? hmp hi
     obtain ⟨kind, hkd⟩ := und_of_keyOk hko
     have hck := checkKey_run (w := w) W 40 kt k k' hko hk 10000 (by omega) false
     have hset := fun o' => setObj_run (P := P) (o' := o') hw (fun _ _ _ e => by cases e)
     split at hs
     · rename_i j u hf
       obtain ⟨res', h2, h3⟩ := findKey_run H hk hMR hf hkd
       split at hs
       · rename_i e he
         split at hs
         · rename_i hsk
           injection hs with hs
           injection hs with hs1 hs2
           subst hs1
           subst hs2
           cases h3 with
           | some hu3 =>
           obtain ⟨e', g1, g2, g3, g4⟩ := hMR.get he
           have g1' : es'[j]? = some e' := by simpa using g1
           have hR2 : MRs ρ (Go.Ev.setAt (fun e => { e with key := k }) es j) (es'.modify j fun e => { e with key := k' }).toList := by
            rw [Array.toList_modify]
            exact MRs.setAt (f := fun e => { e with key := k }) (f' := fun e => { e with key := k' }) (fun e e' _ hv hb => ⟨hk, hv, hb⟩) hMR j
           obtain ⟨r1, r2⟩ := putMap (k1 := clock) H hi hget hR2
           have hks := keyStays_run (P := P) (w := w) hsk g2 hk
           refine ⟨ρ, _, _, Rho.le_refl ρ, ?_, .tuple (c := #[u, .int .i64 e.born]) (c' := #[_, .int .i64 e.born]) (.cons hu3 (.cons (.int _ _) .nil)), r1, r2⟩
           simp [Instr.mapEntry, run_und hu, run_getMap hw, hck, h2, g1', hks, hset, goInt, g4]
         · cases hs
       · cases hs
     · rename_i hf
       obtain ⟨res', h2, h3⟩ := findKey_run H hk hMR hf hkd
       split at hs
       · rename_i z hz
         injection hs with hs
         injection hs with hs1 hs2
         subst hs1
         subst hs2
         obtain ⟨hzr, hzv⟩ := zero_run (w := w) (ρ := ρ) hz
         cases h3 with
         | none =>
         have hR2 : MRs ρ (es ++ [⟨k, z, clock⟩]) (es'.push ⟨k', z, clock⟩).toList := by
          rw [Array.toList_push]
          exact hMR.append (.cons hk hzv rfl .nil)
         obtain ⟨r1, r2⟩ := putMap (k1 := clock + 1) H hi hget hR2
         refine ⟨ρ, _, _, Rho.le_refl ρ, ?_, .tuple (c := #[z, .int .i64 clock]) (c' := #[z, .int .i64 clock]) (.cons hzv (.cons (.int _ _) .nil)), r1, r2⟩
         simp [Instr.mapEntry, run_und hu, run_getMap hw, hck, h2, hset, hzr, goInt]
       · cases hs
     · cases hs
   · cases hs
 · cases hs
theorem entryStore_run (H : HR P ρ N h w) {t : TypeId} {m m' s s' v v' : Value} (hm : VR ρ m m') (hss : VR ρ s s') (hvv : VR ρ v v') {h1 : Hp} (hs : entryStore' h m s v = some h1) :
  ∃ w1, (Instr.entryStore t m' s' v').run P w = .ok () w1 ∧ HR P ρ N h1 w1 ∧ Below N w w1 := by
 unfold entryStore' at hs
 split at hs
 · rename_i r b hb
   cases hm with
   | @map _ i hi =>
   obtain ⟨kk, rfl⟩ := natOf_VR hss hb
   split at hs
   · rename_i es clock hmp
     obtain ⟨es', hw, hMR, hget⟩ := H.map? hmp hi
     have hset := fun o' => setObj_run (P := P) (o' := o') hw (fun _ _ _ e => by cases e)
     split at hs
     · rename_i j hj
       injection hs with hs
       subst hs
       obtain ⟨_, e, e', g1, g2, g3, g4, _⟩ := bornAt_spec hMR hj
       rw [Nat.sub_zero] at g4
       have hidx : es'.findIdx? (fun e => (e.born : Int) == (b : Int)) = some j := by
        have hfn : (fun e : MapEntry => (e.born : Int) == (b : Int)) = fun e => e.born == b := by
         funext e
         rw [Bool.eq_iff_iff]
         simp
         omega
        rw [hfn]
        rw [← g4]
        cases es'
        simp
       have hR2 : MRs ρ (Go.Ev.setAt (fun e => { e with val := v }) es j) (es'.modify j fun e => { e with val := v' }).toList := by
        rw [Array.toList_modify]
        exact MRs.setAt (f := fun e => { e with val := v }) (f' := fun e => { e with val := v' }) (fun e e' hk _ hb => ⟨hk, hvv, hb⟩) hMR j
       obtain ⟨r1, r2⟩ := putMap (k1 := clock) H hi hget hR2
       refine ⟨_, ?_, r1, r2⟩
       simp [Instr.entryStore, run_getMap hw, asInt, asIntOf, hidx, hset]
     · cases hs
   · cases hs
 · cases hs
theorem delete_run (W : WfP P) (H : HR P ρ N h w) {ts : Array TypeId} {ty : TypeId} {t : TypeId} (ht : ts[0]? = some t) {l' : Array Value} {m m' k k' : Value} (h0 : l'[0]? = some m') (h1' : l'[1]? = some k') (hm : VR ρ m m') (hk : VR ρ k k') {v : Value} {h1 : Hp} (hs : delete' P h t m k = some (v, h1)) :
  ∃ ρ1 w1 v', ρ.le ρ1 ∧ (Builtin.delete_ ts ty l').run P w = .ok v' w1 ∧ VR ρ1 v v' ∧ HR P ρ1 N h1 w1 ∧ Below N w w1 := by
 unfold delete' at hs
 split at hs
 · rename_i kt et hu
   cases hm
   split at hs
   · rename_i hko
     injection hs with hs
     injection hs with hs1 hs2
     subst hs1
     subst hs2
     have hck := checkKey_run (w := w) W 40 kt k k' hko hk 10000 (by omega) true
     refine ⟨ρ, w, _, Rho.le_refl ρ, ?_, .tuple (c := #[]) (c' := #[]) .nil, H, Below.refl _ _⟩
     simp [Builtin.delete_, ht, h0, h1', run_und hu, hck]
   · cases hs
 · rename_i kt et r hu
   cases hm with
   | @map _ i hi =>
   split at hs
   · rename_i es clock hmp hko
     obtain ⟨es', hw, hMR, hget⟩ := H.map? hmp hi
     obtain ⟨kind, hkd⟩ := und_of_keyOk hko
     have hck := fun em => checkKey_run (w := w) W 40 kt k k' hko hk 10000 (by omega) em
     have hset := fun o' => setObj_run (P := P) (o' := o') hw (fun _ _ _ e => by cases e)
     split at hs
     · rename_i j u hf
       obtain ⟨res', h2, h3⟩ := findKey_run H hk hMR hf hkd
       injection hs with hs
       injection hs with hs1 hs2
       subst hs1
       subst hs2
       cases h3 with
       | some hu3 =>
       have hR2 : MRs ρ (es.eraseIdx j) (es'.eraseIdxIfInBounds j).toList := by
        have : (es'.eraseIdxIfInBounds j).toList = es'.toList.eraseIdx j := by
         unfold Array.eraseIdxIfInBounds
         split
         · simp
         · rename_i hge
           rw [List.eraseIdx_of_length_le (by simpa using hge)]
        rw [this]
        exact hMR.erase j
       obtain ⟨r1, r2⟩ := putMap (k1 := clock) H hi hget hR2
       refine ⟨ρ, _, _, Rho.le_refl ρ, ?_, .tuple (c := #[]) (c' := #[]) .nil, r1, r2⟩
       simp [Builtin.delete_, ht, h0, h1', run_und hu, run_getMap hw, hck, h2, hset]
     · rename_i hf
       obtain ⟨res', h2, h3⟩ := findKey_run H hk hMR hf hkd
       injection hs with hs
       injection hs with hs1 hs2
       subst hs1
       subst hs2
       cases h3 with
       | none =>
       refine ⟨ρ, w, _, Rho.le_refl ρ, ?_, .tuple (c := #[]) (c' := #[]) .nil, H, Below.refl _ _⟩
       simp [Builtin.delete_, ht, h0, h1', run_und hu, run_getMap hw, hck, h2, hset, putBlock_same w _ _ hw]
     · cases hs
   · cases hs
 · cases hs
end Go.Ev
end
section
namespace Go.Ev
open Go.RowKit
variable {P : Program} {ρ : Rho} {N : Bs} {h : Hp} {w : World} {a : A} {act : Act}
theorem new_next {o : CObj} {b : Nat} {h1 : Hp} (hn : h.new o = some (b, h1)) : b = h.next := by
 unfold Hp.new at hn
 injection hn with hn; injection hn with e1 e2; exact e1.symm
theorem newObj_run (H : HR P ρ N h w) {o : CObj} {b : Nat} {h1 : Hp} (hn : h.new o = some (b, h1)) {o' : Obj} (hR : ∀ ρ' : Rho, ρ.le ρ' → ObjR P ρ' ⟨w.heap.size, 0, 0, 0, true⟩ o o') (hno : ∀ r, o ≠ .cells r) :
  ∃ ρ1 : Rho, (newObj o').run P w = .ok w.heap.size (w.alloc o') ∧ ρ.le ρ1 ∧ HR P ρ1 N h1 (w.alloc o') ∧ Below N w (w.alloc o') ∧ ρ1 b = some ⟨w.heap.size, 0, 0, 0, true⟩ := by
 have hb := new_next hn
 subst hb
 have hle := H.le_put ⟨w.heap.size, 0, 0, 0, true⟩
 obtain ⟨_, h2, h3⟩ := H.new hn ⟨w.heap.size, 0, 0, 0, true⟩ rfl (hR _ hle) (fun r e => absurd e (hno r))
 exact ⟨_, rfl, hle, h2, h3, by simp [Rho.put]⟩
theorem range_run (H : HR P ρ N h w) {t : TypeId} {x x' : Value} (hx : VR ρ x x') {v : Value} {h1 : Hp} (hv : range' P h t x = some (v, h1)) :
  ∃ ρ1 w1 v', ρ.le ρ1 ∧ (Instr.range t x').run P w = .ok v' w1 ∧ VR ρ1 v v' ∧ HR P ρ1 N h1 w1 ∧ Below N w w1 := by
 have fin : ∀ {ρ1 : Rho} {b : Nat}, ρ1 b = some ⟨w.heap.size, 0, 0, 0, true⟩ → VR ρ1 (.pointer (some ⟨b, 0, none⟩)) (.pointer (some ⟨w.heap.size, 0, none⟩)) := by
  intro ρ1 b hb
  exact .ptr (i := ⟨w.heap.size, 0, 0, 0, true⟩) ⟨rfl, hb, rfl⟩
 unfold range' at hv
 split at hv
 · rename_i s hu
   cases hx
   split at hv
   · rename_i b h2 hn
     injection hv with hv
     injection hv with hv1 hv2
     subst hv1; subst hv2
     obtain ⟨ρ1, r1, r2, r3, r4, r5⟩ := newObj_run (o' := .stringIter s 0) H hn (fun _ _ => ⟨rfl, rfl, rfl⟩) (fun _ e => by cases e)
     exact ⟨ρ1, _, _, r2, by simp [Instr.range, run_und hu, alloc_push], fin r5, r3, r4⟩
   · cases hv
 · rename_i k e hu
   cases hx
   split at hv
   · rename_i b h2 hn
     injection hv with hv
     injection hv with hv1 hv2
     subst hv1; subst hv2
     obtain ⟨ρ1, r1, r2, r3, r4, r5⟩ := newObj_run (o' := .mapIter none 0 #[] 0) H hn (fun _ _ => ⟨trivial, rfl, rfl, rfl, rfl⟩) (fun _ e => by cases e)
     exact ⟨ρ1, _, _, r2, by simp [Instr.range, run_und hu, alloc_push], fin r5, r3, r4⟩
   · cases hv
 · rename_i k e m hu
   cases hx with
   | @map _ i hi =>
   split at hv
   · rename_i es clock hm
     obtain ⟨es', hw, hMR, hget⟩ := H.map? hm hi
     split at hv
     · rename_i b h2 hn
       injection hv with hv
       injection hv with hv1 hv2
       subst hv1; subst hv2
       obtain ⟨ρ1, r1, r2, r3, r4, r5⟩ := newObj_run (o' := .mapIter (some i.b) clock #[] clock) H hn (fun ρ' hle => ⟨⟨i, hle _ _ hi, rfl⟩, rfl, rfl, rfl, rfl⟩) (fun _ e => by cases e)
       exact ⟨ρ1, _, _, r2, by simp [Instr.range, run_und hu, run_getMap hw, alloc_push], fin r5, r3, r4⟩
     · cases hv
   · cases hv
 · cases hv
theorem MRs.filter {p p' : MapEntry → Bool} (hp : ∀ e e', e'.born = e.born → p' e' = p e) : ∀ {l l' : List MapEntry}, MRs ρ l l' → MRs ρ (l.filter p) (l'.filter p')
 | _, _, .nil => by simpa using MRs.nil
 | _, _, .cons (e := e) (e' := e') (l := l) a b c k => by
   have := hp _ _ c
   by_cases h : p e = true
   · rw [List.filter_cons_of_pos h, List.filter_cons_of_pos (by rw [this]; exact h)]
     exact .cons a b c (MRs.filter hp k)
   · rw [List.filter_cons_of_neg h, List.filter_cons_of_neg (by rw [this]; exact h)]
     exact MRs.filter hp k
theorem run_getObj {r : Nat} {o : Obj} (hw : w.heap[r]? = some o) (hno : ∀ c e f, o ≠ .cells c e f) : (getObj r).run P w = .ok o w := by
 cases o <;> first
  | (exact absurd rfl (hno _ _ _))
  | (simp [getObj, Sem.run, hw]; done)
theorem contains_any (l : List Nat) (b : Nat) : l.contains b = l.any (fun x => Nat.beq x b) := by
 induction l with
 | nil => rfl
 | cons x l ih =>
   rw [List.contains_cons, List.any_cons, ih]
   congr 1
   rw [Bool.eq_iff_iff]
   simp
   exact eq_comm
theorem all_MRs {p p' : MapEntry → Bool} (hp : ∀ e e', e'.born = e.born → p' e' = p e) : ∀ {l l' : List MapEntry}, MRs ρ l l' → l'.all p' = l.all p
 | _, _, .nil => rfl
 | _, _, .cons a b c k => by simp [hp _ _ c, all_MRs hp k]
theorem next_run (H : HR P ρ N h w) {x x' : Value} (hx : VR ρ x x') {s : Bool} {ty : TypeId} {v : Value} {h1 : Hp} (hv : next' h x s = some (v, h1)) :
  ∃ ρ1 w1 v', ρ.le ρ1 ∧ (Instr.next x' s ty).run P w = .ok v' w1 ∧ VR ρ1 v v' ∧ HR P ρ1 N h1 w1 ∧ Below N w w1 := by
 unfold next' at hv
 split at hv
 · rename_i p
   cases hx with
   | @ptr _ p' i hp =>
   have hi := hp.2.1
   have objOf : ∀ {o : CObj}, h.objs.get p.block = some o → (∀ r, o ≠ .cells r) → ∃ o', w.heap[i.b]? = some o' ∧ ObjR P ρ i o o' := by
    intro o ho hno
    exact H.obj p.block o i ho (fun r hr => by rw [ho] at hr; injection hr with hr; exact absurd hr (hno r)) hi
   split at hv
   ·
     rename_i str pos hoff hobj
     obtain ⟨o', ho, hR⟩ := objOf hobj (fun _ e => by cases e)
     cases o' <;> simp only [ObjR] at hR
     obtain ⟨rfl, rfl, hs0⟩ := hR
     rename_i s' pos'
     have hz : i.s + p.off = 0 := by omega
     have hget := run_getObj (P := P) ho (fun _ _ _ e => by cases e)
     have hset := fun o' => setObj_run (P := P) (o' := o') ho (fun _ _ _ e => by cases e)
     rw [hp.fn, hz]
     split at hv
     · rename_i hlt
       have hlt' : pos' < s'.size := by rw [size_data]; simpa [Nat.blt_eq] using hlt
       split at hv
       rename_i c wd hd
       injection hv with hv
       injection hv with hv1 hv2
       subst hv1; subst hv2
       obtain ⟨r1, r2⟩ := H.put_alone (o := .sIter s' (pos' + wd)) (o' := .stringIter s' (pos' + wd)) hi hobj (fun _ e => by cases e) (fun _ e => by cases e) ⟨rfl, rfl, hs0⟩
       refine ⟨ρ, _, _, Rho.le_refl ρ, ?_, .tuple (c := #[.bool true, .int .i64 pos', .int .i32 c]) (c' := #[.bool true, .int .i64 pos', .int .i32 c]) (.cons (.bool _) (.cons (.int _ _) (.cons (.int _ _) .nil))), r1, r2⟩
       simp [Instr.next, hget, hlt', hd, hset, goInt]
     · rename_i hlt
       have hlt' : ¬ pos' < s'.size := by rw [size_data]; intro hh; rw [show Nat.blt pos' s'.data.toList.length = true by rw [Nat.blt_eq]; exact hh] at hlt; cases hlt
       injection hv with hv
       injection hv with hv1 hv2
       subst hv1; subst hv2
       refine ⟨ρ, _, _, Rho.le_refl ρ, ?_, .tuple (c := #[.bool false]) (c' := #[.bool false]) (.cons (.bool _) .nil), H, Below.refl _ _⟩
       simp [Instr.next, hget, hlt']
   ·
     rename_i since seen last hoff hobj
     obtain ⟨o', ho, hR⟩ := objOf hobj (fun _ e => by cases e)
     cases o' <;> simp only [ObjR] at hR
     rename_i m' since' seen' st'
     obtain ⟨hm, rfl, hseen, rfl, hs0⟩ := hR
     cases m' with
     | some m' => simp at hm
     | none =>
     have hz : i.s + p.off = 0 := by omega
     have hget := run_getObj (P := P) ho (fun _ _ _ e => by cases e)
     rw [hp.fn, hz]
     injection hv with hv
     injection hv with hv1 hv2
     subst hv1; subst hv2
     refine ⟨ρ, _, _, Rho.le_refl ρ, ?_, .tuple (c := #[.bool false]) (c' := #[.bool false]) (.cons (.bool _) .nil), H, Below.refl _ _⟩
     simp [Instr.next, hget]
   ·
     rename_i m since seen last hoff hobj
     obtain ⟨o', ho, hR⟩ := objOf hobj (fun _ e => by cases e)
     cases o' <;> simp only [ObjR] at hR
     rename_i m' since' seen' st'
     obtain ⟨hm, rfl, hseen, rfl, hs0⟩ := hR
     cases m' with
     | none => simp at hm
     | some m' =>
     obtain ⟨j, hj, rfl⟩ := hm
     have hz : i.s + p.off = 0 := by omega
     have hget := run_getObj (P := P) ho (fun _ _ _ e => by cases e)
     have hset := fun o' => setObj_run (P := P) (o' := o') ho (fun _ _ _ e => by cases e)
     split at hv
     · rename_i es clock hmap
       obtain ⟨es', hw, hMR, _⟩ := H.map? hmap hj
       have hget2 := run_getMap (P := P) hw
       split at hv
       · cases hv
       · rename_i hfresh
         have q1 : (!seen'.isEmpty && !es'.isEmpty && es'.all (fun e => decide (e.born ≥ st'))) = false := by
          have e1 : seen'.isEmpty = seen.isEmpty := by rw [← hseen]; simp
          have e2 : es'.isEmpty = es.isEmpty := by
           have := hMR.length
           rw [Bool.eq_iff_iff, Array.isEmpty_iff, List.isEmpty_iff, ← Array.toList_eq_nil_iff, ← List.length_eq_zero_iff, ← List.length_eq_zero_iff, this]
          have e3 : es'.all (fun e => decide (e.born ≥ st')) = es.all fun e => Nat.ble st' e.born := by
           rw [← Array.all_toList]
           refine all_MRs (fun e e' hb => ?_) hMR
           rw [hb, Bool.eq_iff_iff]
           simp
          rw [e1, e2, e3]
          cases h1 : seen.isEmpty <;> cases h2 : es.isEmpty <;> cases h3 : (es.all fun e => Nat.ble st' e.born) <;> simp_all
         have hleft : MRs ρ (es.filter fun e => !(seen.any fun b => Nat.beq b e.born)) (es'.filter fun e => !seen'.contains e.born).toList := by
          rw [Array.toList_filter]
          refine hMR.filter (fun e e' hb => ?_)
          rw [hb, ← hseen, ← contains_any]
          simp
         generalize hL : (es.filter fun e => !(seen.any fun b => Nat.beq b e.born)) = L at hv hleft
         generalize hL' : (es'.filter fun e => !seen'.contains e.born) = L' at hleft
         have hold : MRs ρ (L.filter fun e => Nat.blt e.born since') (L'.filter fun e => decide (e.born < since')).toList := by
          rw [Array.toList_filter]
          refine hleft.filter (fun e e' hb => ?_)
          rw [hb, Bool.eq_iff_iff]
          simp [Nat.blt_eq]
         have hnew : MRs ρ (L.filter fun e => Nat.ble since' e.born) (L'.filter fun e => decide (e.born ≥ since')).toList := by
          rw [Array.toList_filter]
          refine hleft.filter (fun e e' hb => ?_)
          rw [hb, Bool.eq_iff_iff]
          simp
         have q1' : (!seen'.isEmpty && !es'.isEmpty && es'.all (fun x => decide (x.born ≥ st'))) = false := q1
         simp only [] at hv
         split at hv
         · rename_i h1 h2
           rw [h1] at hold
           rw [h2] at hnew
           injection hv with hv
           injection hv with hv1 hv2
           subst hv1; subst hv2
           have o1 : (L'.filter fun e => decide (e.born < since')) = #[] := by
            apply Array.ext'
            cases hc : (L'.filter fun e => decide (e.born < since')).toList with
            | nil => rfl
            | cons x r => rw [hc] at hold; cases hold
           have o2 : (L'.filter fun e => decide (e.born ≥ since')) = #[] := by
            apply Array.ext'
            cases hc : (L'.filter fun e => decide (e.born ≥ since')).toList with
            | nil => rfl
            | cons x r => rw [hc] at hnew; cases hnew
           refine ⟨ρ, w, _, Rho.le_refl ρ, ?_, .tuple (c := #[.bool false]) (c' := #[.bool false]) (.cons (.bool _) .nil), H, Below.refl _ _⟩
           rw [hp.fn, hz]
           simp only [Instr.next, Sem.run_bind, hget, Result.andThen_ok, hget2, q1', Bool.false_eq_true, if_false, Sem.run_pure, hL', o1, o2]
           simp [Question.forced]
         · rename_i e h1 h2
           rw [h1] at hold
           rw [h2] at hnew
           injection hv with hv
           injection hv with hv1 hv2
           subst hv1; subst hv2
           obtain ⟨e', o1, hek, hev, heb⟩ : ∃ e', (L'.filter fun e => decide (e.born < since')) = #[e'] ∧ VR ρ e.key e'.key ∧ VR ρ e.val e'.val ∧ e'.born = e.born := by
            cases hc : (L'.filter fun e => decide (e.born < since')).toList with
            | nil => rw [hc] at hold; cases hold
            | cons x r =>
              rw [hc] at hold
              cases hold with
              | cons a b c k =>
              cases k
              exact ⟨x, by apply Array.ext'; rw [hc], a, b, c⟩
           have o2 : (L'.filter fun e => decide (e.born ≥ since')) = #[] := by
            apply Array.ext'
            cases hc : (L'.filter fun e => decide (e.born ≥ since')).toList with
            | nil => rfl
            | cons x r => rw [hc] at hnew; cases hnew
           obtain ⟨r1, r2⟩ := H.put_alone (o := .mIter (some m) since' (seen ++ [e.born]) clock) (o' := .mapIter (some j.b) since' (seen'.push e'.born) clock) hi hobj (fun _ e => by cases e) (fun _ e => by cases e)
            ⟨⟨j, hj, rfl⟩, rfl, by rw [Array.toList_push, hseen, heb], rfl, hs0⟩
           refine ⟨ρ, _, _, Rho.le_refl ρ, ?_, .tuple (c := #[.bool true, e.key, e.val]) (c' := #[.bool true, e'.key, e'.val]) (.cons (.bool _) (.cons hek (.cons hev .nil))), r1, r2⟩
           rw [hp.fn, hz]
           simp only [Instr.next, Sem.run_bind, hget, Result.andThen_ok, hget2, q1', Bool.false_eq_true, if_false, Sem.run_pure, hL', o1, o2]
           simp [Question.forced, hset]
         · cases hv
     · cases hv
   · cases hv
 · cases hv
end Go.Ev
end
section
namespace Go.Ev
open Go.RowKit
variable {P : Program} {ρ : Rho} {N : Bs} {h : Hp} {w : World} {a : A} {act : Act}
theorem HR.grow (H : HR P ρ N h w) {B : Nat} {i : Img} {r : Row} {arr : Array Value} {e0 : TypeId} {fr : Nat × Nat} (hi : ρ B = some i) (hr : h.row B = some r)
  (hw : w.heap[i.b]? = some (.cells arr e0 fr)) (top : Nat) {w1 : World} {arr1 : Array Value} (hw1 : w1.heap[i.b]? = some (.cells arr1 e0 fr)) (hsz : arr1.size = arr.size)
  (hsame : ∀ k, k + r.base < i.s + top → arr1[k]? = arr[k]?) (hoth : ∀ k, k < w.heap.size → k ≠ i.b → w1.heap[k]? = w.heap[k]?) (hgrow : w.heap.size ≤ w1.heap.size)
  (q1 : Row) (i1 : Img) (o1 : Obj) (ho1 : w1.heap[i1.b]? = some o1) (hR1 : ObjR P (ρ.put h.next i1) i1 (.cells q1) o1)
  (hi1 : (i1.b = i.b ∧ i1.s + r.base = i.s + q1.base) ∨ (w.heap.size ≤ i1.b ∧ i1.b < w1.heap.size)) (f : Nat) (hf : q1.fam = f)
  (hff : (f = r.fam ∧ r.fam ≠ 0) ∨ (r.fam = 0 ∧ f = h.nfam)) {h1 : Hp} (hobj : ∀ d, h1.objs.get d = if d = h.next then some (.cells q1) else if d = B then some (.cells { r with fam := f }) else h.objs.get d)
  {l1 : List Mem} (hl1 : h1.fams.get f = some l1) (hfam : ∀ g, g ≠ f → h1.fams.get g = h.fams.get g)
  (hmem : ∀ m ∈ l1, m = ⟨h.next, q1.base, q1.base + q1.c.length⟩ ∨ (m.hi ≤ top ∧ (m = ⟨B, r.base, r.base + r.c.length⟩ ∨ ∃ l0, h.fams.get f = some l0 ∧ r.fam = f ∧ m ∈ l0)))
  (hnx : h1.next = h.next + 1) (hbs : h1.base = h.base) (hro : h1.ro = h.ro) (hnf : f < h1.nfam) (hnf1 : h.nfam ≤ h1.nfam) (hnf3 : ∀ g, g < h1.nfam → g ≠ f → g < h.nfam) : HR P (ρ.put h.next i1) N h1 w1 := by
 obtain ⟨hget, hfams⟩ := row_get hr
 have hBn : B < h.next := H.cover _ _ hget
 have hf0 : f ≠ 0 := by
  rcases hff with ⟨h1, h2⟩ | ⟨_, h2⟩
  · rw [h1]; exact h2
  · have := H.nf0; omega
 have hib := H.lo B i hi
 have cs : ∀ d j, (ρ.put h.next i1) d = some j → (d = h.next ∧ j = i1) ∨ (d ≠ h.next ∧ ρ d = some j) := by
  intro d j hj
  unfold Rho.put at hj
  by_cases hd : d = h.next
  · rw [if_pos hd] at hj; injection hj with hj; exact .inl ⟨hd, hj.symm⟩
  · rw [if_neg hd] at hj; exact .inr ⟨hd, hj⟩
 have hle := H.le_put i1
 have below : ∀ (d : Nat) (j : Img) (q : Row), ρ d = some j → h.objs.get d = some (.cells q) → h.alive d → (d = B ∨ (d ≠ B ∧ j.b = i.b ∧ i.s + q.base = j.s + r.base)) → q.base + q.c.length ≤ top → ∃ o', w1.heap[j.b]? = some o' ∧ ∀ f', ObjR P (ρ.put h.next i1) j (.cells { q with fam := f' }) o' := by
  intro d j q hj hq hal hdB hhi
  obtain ⟨o', g1, g2⟩ := H.obj d _ j hq hal hj
  have hjb : j.b = i.b ∧ i.s + q.base = j.s + r.base := by
   rcases hdB with rfl | ⟨_, h1, h2⟩
   · rw [hi] at hj
     injection hj with hj
     subst hj
     rw [hget] at hq
     injection hq with hq
     injection hq with hq
     subst hq
     exact ⟨rfl, rfl⟩
   · exact ⟨h1, h2⟩
  rw [hjb.1, hw] at g1
  injection g1 with g1
  subst g1
  refine ⟨_, by rw [hjb.1]; exact hw1, fun f' => ?_⟩
  have g3 := g2.mono hle
  simp only [ObjR] at g3 ⊢
  refine ⟨g3.1, by rw [hsz]; exact g3.2.1, by rw [hsz]; exact g3.2.2.1, fun k v hk => ?_, by rw [hsz]; exact g3.2.2.2.2.1, g3.2.2.2.2.2⟩
  have hkl : k < q.c.length := by
   rcases Nat.lt_or_ge k q.c.length with h | h
   · exact h
   · have hk' : q.c[k]? = some v := hk
     rw [List.getElem?_eq_none h] at hk'; cases hk'
  rw [hsame _ (by omega)]
  exact g3.2.2.2.1 k v hk
 refine ⟨?_, ?_, ?_, ?_, ?_, ?_, ?_, by omega, by have := H.base; omega, fun d hd => ⟨by unfold Rho.put; rw [if_neg (by have := (H.gho d hd).2; omega)]; exact (H.gho d hd).1, by rw [hnx]; have := (H.gho d hd).2; omega⟩, by rw [hbs]; exact H.bn, fun d hd => hle _ _ (H.rid d (by rw [← hbs]; exact hd)), fun d q hq => ?_, fun b k v hb hv => ?_⟩
 ·
   intro d o j ho hal hj
   rw [hobj] at ho
   rcases cs d j hj with ⟨rfl, rfl⟩ | ⟨hd, hj'⟩
   · rw [if_pos rfl] at ho
     injection ho with ho
     subst ho
     exact ⟨o1, ho1, hR1⟩
   · rw [if_neg hd] at ho
     have live : ∀ q, h1.objs.get d = some (.cells q) → q.fam = f → ∃ m, m ∈ l1 ∧ m.b = d ∧ m.hi ≤ top ∧ (m = ⟨B, r.base, r.base + r.c.length⟩ ∨ ∃ l0, h.fams.get f = some l0 ∧ r.fam = f ∧ m ∈ l0) := by
      intro q hq hqf
      have := (row_get (hal q hq)).2
      rw [hqf] at this
      obtain ⟨l2, e1, m, hm, e2⟩ := this.resolve_left hf0
      rw [hl1] at e1
      injection e1 with e1
      subst e1
      rcases hmem m hm with rfl | ⟨g1, g2⟩
      · exact absurd e2.symm hd
      · exact ⟨m, hm, e2, g1, g2⟩
     by_cases hdB : d = B
     · rw [if_pos hdB] at ho
       injection ho with ho
       subst ho
       obtain ⟨m, hm, e2, g1, g2⟩ := live _ (by rw [hobj, if_neg hd, if_pos hdB]) rfl
       have hhi : m.hi = r.base + r.c.length := by
        rcases g2 with rfl | ⟨l0, h0, h2, h3⟩
        · rfl
        · obtain ⟨q, k1, k2, k3, k4⟩ := H.mem f l0 m h0 h3 (by rw [← h2]; exact H.famlt _ _ hget) (by first | exact hf0 | omega)
          rw [e2, hdB, hget] at k1
          injection k1 with k1
          injection k1 with k1
          subst k1
          exact k4
       have hal' : h.alive d := by
        intro q hq
        rw [hdB, hget] at hq
        injection hq with hq
        injection hq with hq
        subst hq
        rw [hdB]
        exact hr
       obtain ⟨o', e3, e4⟩ := below d j r hj' (by rw [hdB]; exact hget) hal' (.inl hdB) (by omega)
       exact ⟨o', e3, e4 f⟩
     · rw [if_neg hdB] at ho
       by_cases hcell : ∃ q, o = .cells q ∧ q.fam = f
       · obtain ⟨q, rfl, hqf⟩ := hcell
         obtain ⟨m, hm, e2, g1, g2⟩ := live q (by rw [hobj, if_neg hd, if_neg hdB]; exact ho) hqf
         rcases g2 with rfl | ⟨l0, h0, h2, h3⟩
         · exact absurd e2.symm hdB
         · obtain ⟨q2, k1, k2, k3, k4⟩ := H.mem f l0 m h0 h3 (by rw [← h2]; exact H.famlt _ _ hget) (by first | exact hf0 | omega)
           rw [e2, ho] at k1
           injection k1 with k1
           injection k1 with k1
           subst k1
           have hal' : h.alive d := by
            intro q' hq'
            rw [ho] at hq'
            injection hq' with hq'
            injection hq' with hq'
            subst hq'
            exact row_mk ho (.inr ⟨l0, by rw [hqf]; exact h0, m, h3, e2⟩)
           by_cases ejb : j.b = i.b
           · obtain ⟨r0, q0, t1, t2, t3, t4, t5⟩ := H.inj B d i j hi hj' (fun e => hdB e.symm) ejb.symm
             rw [hget] at t1
             injection t1 with t1
             injection t1 with t1
             subst t1
             rw [ho] at t2
             injection t2 with t2
             injection t2 with t2
             subst t2
             obtain ⟨o', e3, e4⟩ := below d j q hj' ho hal' (.inr ⟨hdB, ejb, t5⟩) (by omega)
             exact ⟨o', e3, e4 q.fam⟩
           · obtain ⟨o', e3, e4⟩ := H.obj d _ j ho hal' hj'
             exact ⟨o', by rw [hoth _ (H.lo d j hj').2 ejb]; exact e3, e4.mono hle⟩
       ·
         have hal' : h.alive d := by
          intro q hq
          have hq1 : h1.objs.get d = some (.cells q) := by rw [hobj, if_neg hd, if_neg hdB]; exact hq
          have hne : q.fam ≠ f := by
           intro e
           rw [ho] at hq
           injection hq with hq
           exact hcell ⟨q, hq, e⟩
          rcases (row_get (hal q hq1)).2 with h0 | ⟨l2, e1, m, hm, e2⟩
          · exact row_mk hq (.inl h0)
          · rw [hfam _ hne] at e1
            exact row_mk hq (.inr ⟨l2, e1, m, hm, e2⟩)
         obtain ⟨o', e3, e4⟩ := H.obj d o j ho hal' hj'
         have hjb : j.b ≠ i.b := by
          intro e
          obtain ⟨r0, q0, t1, t2, t3, t4, t5⟩ := H.inj B d i j hi hj' (fun e => hdB e.symm) e.symm
          rw [hget] at t1
          injection t1 with t1
          injection t1 with t1
          subst t1
          rw [ho] at t2
          injection t2 with t2
          rcases hff with ⟨u1, u2⟩ | ⟨u1, u2⟩
          · exact hcell ⟨q0, t2, by omega⟩
          · exact t4 u1
         exact ⟨o', by rw [hoth _ (H.lo d j hj').2 hjb]; exact e3, e4.mono hle⟩
 · intro d j hj
   rw [hnx]
   rcases cs d j hj with ⟨rfl, _⟩ | ⟨_, hj'⟩
   · omega
   · have := H.dom d j hj'; omega
 · intro d j hj
   rcases cs d j hj with ⟨rfl, rfl⟩ | ⟨_, hj'⟩
   · rcases hi1 with ⟨e, _⟩ | ⟨e1, e2⟩
     · exact ⟨fun _ => by rw [e]; exact hib.1 (H.low _ _ hget), by have := hib.2; omega⟩
     · exact ⟨fun _ => by have := H.base; omega, e2⟩
   · have := H.lo d j hj'
     exact ⟨fun hb => this.1 (by rw [← hbs]; exact hb), by omega⟩
 ·
   intro d g j k hj hk hne ejk
   have withNew : ∀ d j, d ≠ h.next → ρ d = some j → j.b = i1.b → Together h1 h.next d i1 j := by
    intro d j hd hj' e
    have hlo := H.lo d j hj'
    rcases hi1 with ⟨e1, e2⟩ | ⟨e1, _⟩
    · by_cases hdB : d = B
      · subst hdB
        rw [hi] at hj'
        injection hj' with hj'
        subst hj'
        exact ⟨q1, { r with fam := f }, by rw [hobj, if_pos rfl], by rw [hobj, if_neg hd, if_pos rfl], hf, by rw [hf]; exact hf0, e2⟩
      · obtain ⟨r0, q0, t1, t2, t3, t4, t5⟩ := H.inj B d i j hi hj' (fun e => hdB e.symm) (by omega)
        rw [hget] at t1
        injection t1 with t1
        injection t1 with t1
        subst t1
        have hrf : r.fam = f := by
         rcases hff with ⟨u1, u2⟩ | ⟨u1, u2⟩
         · exact u1.symm
         · exact absurd u1 t4
        exact ⟨q1, q0, by rw [hobj, if_pos rfl], by rw [hobj, if_neg hd, if_neg hdB]; exact t2, by omega, by rw [hf]; exact hf0, by omega⟩
    · omega
   rcases cs d j hj with ⟨e1, e2⟩ | ⟨e1, e2⟩ <;> rcases cs g k hk with ⟨f1, f2⟩ | ⟨f1, f2⟩
   · exact absurd (e1.trans f1.symm) hne
   · subst e1; subst e2
     exact withNew g k f1 f2 ejk.symm
   · subst f1; subst f2
     obtain ⟨x, y, t1, t2, t3, t4, t5⟩ := withNew d j e1 e2 ejk
     exact ⟨y, x, t2, t1, t3.symm, by omega, t5.symm⟩
   · obtain ⟨x, y, t1, t2, t3, t4, t5⟩ := H.inj d g j k e2 f2 hne ejk
     by_cases hdB : d = B
     · have hgB : g ≠ B := fun e => hne (hdB.trans e.symm)
       rw [hdB, hget] at t1
       injection t1 with t1
       injection t1 with t1
       subst t1
       have hrf : r.fam = f := by
        rcases hff with ⟨u1, u2⟩ | ⟨u1, u2⟩
        · exact u1.symm
        · exact absurd u1 t4
       exact ⟨{ r with fam := f }, y, by rw [hobj, if_neg e1, if_pos hdB], by rw [hobj, if_neg f1, if_neg hgB]; exact t2, by show f = y.fam; omega, hf0, t5⟩
     · by_cases hgB : g = B
       · rw [hgB, hget] at t2
         injection t2 with t2
         injection t2 with t2
         subst t2
         have hrf : r.fam = f := by
          rcases hff with ⟨u1, u2⟩ | ⟨u1, u2⟩
          · exact u1.symm
          · exact absurd u1 (by omega)
         exact ⟨x, { r with fam := f }, by rw [hobj, if_neg e1, if_neg hdB]; exact t1, by rw [hobj, if_neg f1, if_pos hgB], by show x.fam = f; omega, t4, t5⟩
       · exact ⟨x, y, by rw [hobj, if_neg e1, if_neg hdB]; exact t1, by rw [hobj, if_neg f1, if_neg hgB]; exact t2, t3, t4, t5⟩
 · intro d q hq
   rw [hobj] at hq
   by_cases hd : d = h.next
   · rw [if_pos hd] at hq
     injection hq with hq
     injection hq with hq
     subst hq
     omega
   · rw [if_neg hd] at hq
     by_cases hdB : d = B
     · rw [if_pos hdB] at hq
       injection hq with hq
       injection hq with hq
       subst hq
       exact hnf
     · rw [if_neg hdB] at hq
       have := H.famlt d q hq
       omega
 · intro g l m hl hm hg hg0
   by_cases hgf : g = f
   · subst hgf
     rw [hl1] at hl
     injection hl with hl
     subst hl
     rcases hmem m hm with rfl | ⟨_, rfl | ⟨l0, h0, h2, h3⟩⟩
     · exact ⟨q1, by rw [hobj, if_pos rfl], hf, rfl, rfl⟩
     · exact ⟨{ r with fam := g }, by rw [hobj, if_neg (by show B ≠ h.next; omega), if_pos rfl], rfl, rfl, rfl⟩
     · obtain ⟨q, k1, k2, k3, k4⟩ := H.mem g l0 m h0 h3 (by rw [← h2]; exact H.famlt _ _ hget) (by first | exact hf0 | omega)
       have hmn := H.cover _ _ k1
       by_cases hmB : m.b = B
       · rw [hmB, hget] at k1
         injection k1 with k1
         injection k1 with k1
         subst k1
         exact ⟨{ r with fam := g }, by rw [hobj, if_neg (by omega), if_pos hmB], rfl, k3, k4⟩
       · exact ⟨q, by rw [hobj, if_neg (by omega), if_neg hmB]; exact k1, k2, k3, k4⟩
   · rw [hfam g hgf] at hl
     obtain ⟨q, k1, k2, k3, k4⟩ := H.mem g l m hl hm (hnf3 g hg hgf) hg0
     have hmn := H.cover _ _ k1
     by_cases hmB : m.b = B
     · rw [hmB, hget] at k1
       injection k1 with k1
       injection k1 with k1
       subst k1
       exfalso
       rcases hff with ⟨u1, u2⟩ | ⟨u1, u2⟩
       · omega
       · omega
     · exact ⟨q, by rw [hobj, if_neg (by omega), if_neg hmB]; exact k1, k2, k3, k4⟩
 · intro d o ho
   rw [hobj] at ho
   rw [hnx]
   by_cases hd : d = h.next
   · omega
   · rw [if_neg hd] at ho
     by_cases hdB : d = B
     · omega
     · rw [if_neg hdB] at ho
       have := H.cover d o ho
       omega
 · rw [hobj] at hq
   rw [hbs]
   by_cases hd : d = h.next
   · rw [hd]; exact H.base_next
   · rw [if_neg hd] at hq
     by_cases hdB : d = B
     · rw [hdB]; exact H.low _ _ hget
     · rw [if_neg hdB] at hq
       exact H.low d q hq
 · rw [hbs] at hb
   rw [hro] at hv
   obtain ⟨v', e1, e2⟩ := H.rom b k v hb hv
   have hlt := (H.lo b _ (H.rid b hb)).2
   have hge := hib.1 (H.low _ _ hget)
   have := H.bn
   refine ⟨v', ?_, e2.mono hle⟩
   rw [← e1]
   unfold World.cell?
   rw [hoth b hlt (by omega)]
end Go.Ev
end
section
namespace Go.Ev
open Go.RowKit
variable {P : Program} {ρ : Rho} {N : Bs} {h : Hp} {w : World} {a : A} {act : Act}
theorem bytes_take (s : ByteArray) (n : Nat) : ((s.extract 0 n).data.map fun b => Value.int .u8 b.toNat).toList = (s.data.toList.take n).map fun b => .int .u8 b.toNat := by
 rw [extract_eq]
 simp
theorem ints_VRs : ∀ l : List UInt8, VRs ρ (l.map fun b => Value.int .u8 b.toNat) (l.map fun b => Value.int .u8 b.toNat)
 | [] => .nil
 | _ :: l => .cons (.int _ _) (ints_VRs l)
theorem first_run (H : HR P ρ N h w) {size n : Nat} {x x' : Value} (hx : VR ρ x x') (hn : ∀ b len c, x = .slice b len c → n ≤ len) {l : List Value} (hl : first' h size n x = some l) :
  ∃ l' : Array Value, (Builtin.firstCells size n x').run P w = .ok l' w ∧ VRs ρ l l'.toList := by
 unfold first' at hl
 split at hl
 · rename_i p m c
   cases hx with
   | @sl _ p' i _ _ c' hp hc =>
     obtain ⟨l', h1, h2, _⟩ := H.loads (.inr ⟨i, hp⟩) hl
     exact ⟨l', by simp [Builtin.firstCells, h1], h2⟩
   | slZero _ p' =>
     have := hn _ _ _ rfl
     have hz : n * size = 0 := by
      have : n = 0 := by omega
      rw [this, Nat.zero_mul]
     obtain ⟨l', h1, h2, _⟩ := H.loads (a' := p') (.inl hz) hl
     exact ⟨l', by simp [Builtin.firstCells, h1], h2⟩
 · cases hx
   injection hl with hl
   subst hl
   exact ⟨#[], by simp [Builtin.firstCells], .nil⟩
 · rename_i s
   cases hx
   injection hl with hl
   subst hl
   refine ⟨(s.extract 0 n).data.map fun b => .int .u8 b.toNat, by simp [Builtin.firstCells], ?_⟩
   rw [bytes_take]
   exact ints_VRs _
 · cases hl
theorem growBy_le (n c : Nat) (hc : c ≤ 1000000) : Builtin.growBy n 4 c ≤ 3000000 := by
 simp only [Builtin.growBy]
 repeat' split
 all_goals omega
theorem cap_le {n c : Nat} (hn : n ≤ 1000000) (hc : c < n) : Builtin.nextslicecap n c ≤ 3000000 := by
 unfold Builtin.nextslicecap
 split
 · omega
 · split
   · omega
   · exact growBy_le n c (by omega)
theorem all_VRs {x y : List Value} (hxy : VRs ρ x y) (h : x.all oneCell = true) : y.all oneCell = true := by
 induction x generalizing y with
 | nil => cases hxy; rfl
 | cons p x ih =>
   cases hxy with
   | cons hp hx =>
     simp only [List.all_cons, Bool.and_eq_true] at h ⊢
     exact ⟨by rw [hp.oneCell]; exact h.1, ih hx h.2⟩
structure AppendAsks (P : Program) (ts : Array TypeId) (e : TypeId) (i : TypeInfo) (z : Value) : Prop where
 t : ∃ t, ts[0]? = some t ∧ P.underlying t = some (.slice e)
 noInt : ts[1]? = none ∨ (∃ u e, ts[1]? = some u ∧ P.underlying u = some (.slice e)) ∨ ∃ u, ts[1]? = some u ∧ P.underlying u = some .string
 info : P.info? e = some i
 zero : ∀ w, (zeroValue e).run P w = .ok z w
 zs : z.cells.size = i.size
 s0 : 0 < i.size
 b0 : 0 < i.bytes
 b1 : i.bytes ≤ 100000
theorem append_room {ts : Array TypeId} {ty e : TypeId} {i : TypeInfo} {z : Value} (K : AppendAsks P ts e i z) {args : Array Value} {base : Option Addr} {len cap n : Nat} {x : Value}
  (h0 : args[0]? = some (.slice base len cap)) (h1 : args[1]? = some x) (hn : (Builtin.lenOf x).run P w = .ok n w) {new : Array Value} (hnew : (Builtin.firstCells i.size n x).run P w = .ok new w) (hle : len + n ≤ cap)
  {w1 : World} (hst : ∀ a, base = some a → (storeCells (a.add (len * i.size)) new.toList).run P w = .ok () w1) (hnil : base = none → w1 = w) :
  (Builtin.append_ ts ty args).run P w = .ok (.slice base (len + n) cap) w1 := by
 obtain ⟨t, ht, hu⟩ := K.t
 cases base with
 | none =>
   have := hnil rfl
   subst this
   rcases K.noInt with h | ⟨u, q, h, hq⟩ | ⟨u, h, hq⟩
   · simp [Builtin.append_, ht, h0, h1, h, run_und hu, run_size K.info, hn, hle, hnew]
   · simp [Builtin.append_, ht, h0, h1, h, run_und hu, run_und hq, run_size K.info, hn, hle, hnew]
   · simp [Builtin.append_, ht, h0, h1, h, run_und hu, run_und hq, run_size K.info, hn, hle, hnew]
 | some a =>
   have := hst a rfl
   rcases K.noInt with h | ⟨u, q, h, hq⟩ | ⟨u, h, hq⟩
   · simp [Builtin.append_, ht, h0, h1, h, run_und hu, run_size K.info, hn, hle, hnew, this]
   · simp [Builtin.append_, ht, h0, h1, h, run_und hu, run_und hq, run_size K.info, hn, hle, hnew, this]
   · simp [Builtin.append_, ht, h0, h1, h, run_und hu, run_und hq, run_size K.info, hn, hle, hnew, this]
theorem append_new {ts : Array TypeId} {ty e : TypeId} {i : TypeInfo} {z : Value} (K : AppendAsks P ts e i z) {args : Array Value} {base : Option Addr} {len cap n : Nat} {x : Value}
  (h0 : args[0]? = some (.slice base len cap)) (h1 : args[1]? = some x) (hn : (Builtin.lenOf x).run P w = .ok n w) {old new : Array Value} (hold : (Builtin.firstCells i.size len (.slice base len cap)).run P w.drew = .ok old w.drew)
  (hnew : (Builtin.firstCells i.size n x).run P w.drew = .ok new w.drew) (hle : ¬ len + n ≤ cap) (hbig : len + n ≤ 1000000) :
  ∃ newCap, len + n ≤ newCap ∧ (Builtin.append_ ts ty args).run P w = .ok (.slice (some ⟨w.heap.size, 0, none⟩) (len + n) newCap) (w.drew.alloc (.cells (old ++ new ++ Builtin.zeroCells z.cells (newCap - (len + n))) e)) := by
 obtain ⟨t, ht, hu⟩ := K.t
 refine ⟨(Question.appendCap (len + n) cap e).cut (w.tape w.drawn (.appendCap (len + n) cap e)), by simp only [Question.cut]; omega, ?_⟩
 have c1 : ¬ (((len + n : Nat) : Int) > IntKind.i64.max ∧ (False ∨ i.bytes = 0)) := by
  rintro ⟨_, h | h⟩
  · exact h
  · have := K.b0; omega
 have c2 : ¬ (Builtin.nextslicecap (len + n) cap * i.bytes > 2 ^ 48) := by
  have h1 := cap_le hbig (show cap < len + n by omega)
  have h2 := K.b1
  have h3 : Builtin.nextslicecap (len + n) cap * i.bytes ≤ 3000000 * 100000 := Nat.mul_le_mul h1 h2
  have h48 : (2 : Nat) ^ 48 = 281474976710656 := by decide
  omega
 have c3 : i.bytes ≠ 0 := by have := K.b0; omega
 have c4 : ¬ ((2 : Nat) ^ 48 < Builtin.nextslicecap (len + n) cap * i.bytes) := c2
 have c5 : ¬ (281474976710656 < Builtin.nextslicecap (len + n) cap * i.bytes) := c2
 have hz := K.zero w.drew
 have hsz : w.drew.heap.size = w.heap.size := rfl
 rcases K.noInt with h | ⟨u, q, h, hq⟩ | ⟨u, h, hq⟩
 · simp [Builtin.append_, ht, h0, h1, h, run_und hu, run_size K.info, run_info K.info, hn, hle, c3, c5, hold, hnew, hz, Question.forced, newRow, alloc_push]
 · simp [Builtin.append_, ht, h0, h1, h, run_und hu, run_und hq, run_size K.info, run_info K.info, hn, hle, c3, c5, hold, hnew, hz, Question.forced, newRow, alloc_push]
 · simp [Builtin.append_, ht, h0, h1, h, run_und hu, run_und hq, run_size K.info, run_info K.info, hn, hle, c3, c5, hold, hnew, hz, Question.forced, newRow, alloc_push]
end Go.Ev
end
section
namespace Go.Ev
open Go.RowKit
variable {P : Program} {ρ : Rho} {N : Bs} {h : Hp} {w : World} {a : A} {act : Act}
theorem grow_HR (H : HR P ρ N h w) {e : TypeId} {sz len n : Nat} {p : Addr} {cells : List Value} {r : Row} {v : Value} {h1 : Hp} (hg : grow' h e sz p len n cells r = some (v, h1))
  {i : Img} {arr : Array Value} {e0 : TypeId} {fr : Nat × Nat} (hi : ρ p.block = some i) (hr : h.row p.block = some r) (hw : w.heap[i.b]? = some (.cells arr e0 fr))
  {w1 : World} {arr1 : Array Value} (hw1 : w1.heap[i.b]? = some (.cells arr1 e0 fr)) (hsz : arr1.size = arr.size)
  (hsame : ∀ k, k < i.s + p.off + len * sz → arr1[k]? = arr[k]?) (hoth : ∀ k, k < w.heap.size → k ≠ i.b → w1.heap[k]? = w.heap[k]?) (hgrow : w.heap.size ≤ w1.heap.size)
  (i1 : Img) (o1 : Obj) (ho1 : w1.heap[i1.b]? = some o1) (hR1 : ∀ f, ObjR P (ρ.put h.next i1) i1 (.cells ⟨cells, e, f, r.base + p.off, true⟩) o1)
  (hi1 : (i1.b = i.b ∧ i1.s = i.s + p.off) ∨ (w.heap.size ≤ i1.b ∧ i1.b < w1.heap.size)) :
  v = .slice (some ⟨h.next, 0, none⟩) (len + n) (len + n) ∧ HR P (ρ.put h.next i1) N h1 w1 := by
 obtain ⟨hget, hfams⟩ := row_get hr
 have hBn : p.block < h.next := H.cover _ _ hget
 have hi1' : ∀ b, b = r.base + p.off → (i1.b = i.b ∧ i1.s + r.base = i.s + b) ∨ (w.heap.size ≤ i1.b ∧ i1.b < w1.heap.size) := by
  intro b hb
  rcases hi1 with ⟨e1, e2⟩ | h
  · exact .inl ⟨e1, by omega⟩
  · exact .inr h
 unfold grow' at hg
 split at hg
 · rename_i hf0
   · injection hg with hg
     injection hg with hg1 hg2
     subst hg1
     subst hg2
     refine ⟨rfl, ?_⟩
     refine H.grow hi hr hw (r.base + p.off + len * sz) hw1 hsz (fun k hk => hsame k (by omega)) hoth hgrow ⟨cells, e, h.nfam, r.base + p.off, true⟩ i1 o1 ho1 (hR1 _) (hi1' _ rfl) h.nfam rfl (.inr ⟨hf0, rfl⟩)
      (fun d => ?_) (l1 := (⟨h.next, r.base + p.off, r.base + p.off + cells.length⟩ :: stays p.block r.base (r.base + r.c.length) (r.base + p.off + len * sz))) ?_ (fun g hg => ?_) (fun m hm => ?_) rfl rfl rfl (by show h.nfam < h.nfam + 1; omega) (by show h.nfam ≤ h.nfam + 1; omega) (fun g hg hne => by have hg' : g < h.nfam + 1 := hg; omega)
     · simp only []
       rw [Tr.get_put _ _ _ _, Tr.get_put _ _ _ _]
     · simp only []
       rw [Tr.get_put _ _ _ _, if_pos rfl]
     · simp only []
       rw [Tr.get_put _ _ _ _, if_neg hg]
     · rcases List.mem_cons.1 hm with rfl | hm
       · exact .inl rfl
       · unfold stays at hm
         split at hm
         · rename_i hle
           have hle' : r.base + r.c.length ≤ r.base + p.off + len * sz := by simpa using hle
           rw [List.mem_singleton] at hm
           subst hm
           exact .inr ⟨hle', .inl rfl⟩
         · cases hm
 · rename_i f hf0
   have hfl := H.famlt _ _ hget
   split at hg
   · rename_i l hl
     injection hg with hg
     injection hg with hg1 hg2
     subst hg1
     subst hg2
     refine ⟨rfl, ?_⟩
     refine H.grow hi hr hw (r.base + p.off + len * sz) hw1 hsz (fun k hk => hsame k (by omega)) hoth hgrow ⟨cells, e, f + 1, r.base + p.off, true⟩ i1 o1 ho1 (hR1 _) (hi1' _ rfl) (f + 1) rfl (.inl ⟨hf0.symm, by omega⟩)
      (fun d => ?_) (l1 := (⟨h.next, r.base + p.off, r.base + p.off + cells.length⟩ :: l.filter fun m => Nat.ble m.hi (r.base + p.off + len * sz))) ?_ (fun g hg => ?_) (fun m hm => ?_) rfl rfl rfl (by show f + 1 < h.nfam; omega) (Nat.le_refl _) (fun g hg hne => hg)
     · simp only []
       rw [Tr.get_put _ _ _ _]
       by_cases hd : d = h.next
       · rw [if_pos hd, if_pos hd]
       · rw [if_neg hd, if_neg hd]
         by_cases hdB : d = p.block
         · rw [if_pos hdB, hdB, hget]
           congr 2
           cases r
           simp only at hf0
           rw [hf0]
         · rw [if_neg hdB]
     · simp only []
       rw [Tr.get_put _ _ _ _, if_pos rfl]
     · simp only []
       rw [Tr.get_put _ _ _ _, if_neg hg]
     · rcases List.mem_cons.1 hm with rfl | hm
       · exact .inl rfl
       · rw [List.mem_filter] at hm
         have : m.hi ≤ r.base + p.off + len * sz := by simpa using hm.2
         exact .inr ⟨this, .inr ⟨l, hl, hf0, hm.1⟩⟩
   · cases hg
theorem zeroCells_size (z : Array Value) (n : Nat) : (Builtin.zeroCells z n).size = n * z.size := by simp [Builtin.zeroCells]
theorem put_next (ρ : Rho) (b : Nat) (i : Img) : (ρ.put b i) b = some i := by simp [Rho.put]
set_option maxHeartbeats 1000000 in
theorem apd_run (H : HR P ρ N h w) {ts : Array TypeId} {ty e : TypeId} {i : TypeInfo} {z : Value} (K : AppendAsks P ts e i z) {args : Array Value} {base : Option Addr} {len cap n : Nat} {s' x x' : Value} {new : List Value}
  (h0 : args[0]? = some s') (h1' : args[1]? = some x') (hs : VR ρ (.slice base len cap) s') (hx : VR ρ x x') (hn : lenOf' x = some n) (hnew : first' h i.size n x = some new) (hone : new.all oneCell = true) (hnl : new.length = n * i.size)
  (hlc : len ≤ cap) (hbig : len + n ≤ 1000000) {v : Value} {h1 : Hp} (hv : apd h e i.size base len cap n new = some (v, h1)) :
  ∃ ρ1 w1 v', ρ.le ρ1 ∧ (Builtin.append_ ts ty args).run P w = .ok v' w1 ∧ VR ρ1 v v' ∧ HR P ρ1 N h1 w1 ∧ Below N w w1 := by
 have hnr := lenOf_run (P := P) (w := w) hx hn
 have hfirst : ∀ b len c, x = .slice b len c → n ≤ len := by
  intro b len c e
  subst e
  simp only [lenOf', Option.some.injEq] at hn
  omega
 unfold apd at hv
 split at hv
 · rename_i hle
   have hle' : len + n ≤ cap := by simpa using hle
   obtain ⟨new', f1, f2⟩ := first_run H hx hfirst hnew
   split at hv
   · injection hv with hv
     injection hv with hv1 hv2
     subst hv1
     subst hv2
     cases hs
     exact ⟨ρ, w, _, Rho.le_refl ρ, append_room K h0 h1' hnr f1 (by omega) (w1 := w) (fun _ e => by cases e) (fun _ => rfl), by
      have : n = 0 := by omega
      subst this
      exact .slNil, H, Below.refl _ _⟩
   · rename_i p
     split at hv
     · rename_i h2 hst
       injection hv with hv
       injection hv with hv1 hv2
       subst hv1
       subst hv2
       cases hs with
       | @sl _ p' j _ _ c' hp hc =>
         obtain ⟨w1, r1, r2, r3⟩ := H.stores (P := P) (.inr ⟨j, hp.add _⟩) f2 hst
         have hcc : cap ≤ c' := by rcases hc with h | h <;> omega
         exact ⟨ρ, w1, _, Rho.le_refl ρ, append_room K h0 h1' hnr f1 (by omega) (w1 := w1) (fun q e => by injection e with e; subst e; exact r1) (fun e => by cases e), .sl hp hc, r2, r3⟩
       | slZero p p' hz =>
         have hn0 : n = 0 := by omega
         subst hn0
         have hnil : new = [] := by
          cases new with
          | nil => rfl
          | cons y l => simp at hnl
         subst hnil
         obtain ⟨w1, r1, r2, r3⟩ := H.stores (P := P) (a' := p'.add (0 * i.size)) (.inl rfl) f2 hst
         exact ⟨ρ, w1, _, Rho.le_refl ρ, append_room K h0 h1' hnr f1 (by omega) (w1 := w1) (fun q e => by injection e with e; subst e; exact r1) (fun e => by cases e), .slZero _ _ hz, r2, r3⟩
     · cases hv
 · rename_i hle
   have hle' : ¬ len + n ≤ cap := by
    intro hh
    rw [show Nat.ble (len + n) cap = true by rw [Nat.ble_eq]; exact hh] at hle
    cases hle
   have H2 : HR P ρ N h w.drew := H.drewn _
   obtain ⟨new', f1, f2⟩ := first_run (w := w.drew) H2 hx hfirst hnew
   have hnl' : new'.size = n * i.size := by rw [size_of_VRs f2]; exact hnl
   have hB2 : Below N w w.drew := (Below.refl _ _).drew
   split at hv
   · split at hv
     · split at hv
       · rename_i p h2 hgr
         injection hv with hv
         injection hv with hv1 hv2
         subst hv1
         subst hv2
         cases hs
         obtain ⟨newCap, c1, c2⟩ := append_new (P := P) (w := w) (ty := ty) (old := #[]) K h0 h1' hnr (by simp [Builtin.firstCells]) f1 hle' hbig
         unfold Hp.grownRow at hgr
         split at hgr
         · rename_i b h3 hnw
           injection hgr with hgr
           injection hgr with hg1 hg2
           subst hg1
           subst hg2
           have hb := new_next hnw
           subst hb
           generalize harr : (#[] ++ new' ++ Builtin.zeroCells z.cells (newCap - (0 + n))) = arr at c2
           have hasz : arr.size = newCap * i.size := by
            rw [← harr, Array.size_append, zeroCells_size, K.zs]
            simp only [Array.empty_append, hnl']
            rw [← Nat.add_mul]
            congr 1
            omega
           have hle3 := H2.le_put ⟨w.heap.size, 0, arr.size, i.size, false⟩
           have hR : ObjR P (ρ.put h.next ⟨w.heap.size, 0, arr.size, i.size, false⟩) ⟨w.heap.size, 0, arr.size, i.size, false⟩ (.cells ⟨new, e, 0, 0, true⟩) (.cells arr e) := by
            refine ⟨rfl, ?_, by simp, fun k v hk => ?_, fun k _ => by simp, fun hx => (by cases hx), fun _ => by simp [Program.cellsOf, K.info]⟩
            · simp only [hnl, hasz, Nat.zero_add]
              exact Nat.mul_le_mul_right _ (by omega)
            · obtain ⟨v', g1, g2⟩ := f2.get hk
              refine ⟨v', ?_, g2.mono hle3⟩
              have hlt : k < new'.size := by
               rcases Nat.lt_or_ge k new'.size with h | h
               · exact h
               · rw [List.getElem?_eq_none (by simpa using h)] at g1; cases g1
              simp only [Nat.zero_add]
              rw [← harr, Array.empty_append, Array.getElem?_append_left hlt]
              simpa using g1
           obtain ⟨_, g3, g4⟩ := H2.new hnw ⟨w.heap.size, 0, arr.size, i.size, false⟩ rfl hR (fun r hr => by injection hr with hr; subst hr; rfl)
           refine ⟨_, _, _, hle3, c2, ?_, g3, hB2.trans g4⟩
           have hv2 : VR (ρ.put h.next ⟨w.heap.size, 0, arr.size, i.size, false⟩) (.slice (some ⟨h.next, 0, none⟩) n n) (.slice (some ⟨w.heap.size, 0, none⟩) n newCap) :=
            .sl (i := ⟨w.heap.size, 0, arr.size, i.size, false⟩) ⟨rfl, put_next _ _ _, by simp⟩ (.inr ⟨rfl, by omega, by simp [hasz]⟩)
           simpa using hv2
         · cases hgr
       · cases hv
     · cases hv
   · rename_i p
     split at hv
     · rename_i r old hr hold
       split at hv
       · rename_i hre
         have hre' : r.e = e := nbeq_true hre
         have way2 : ∀ (p' : Addr) (c' : Nat) (j : Img), s' = .slice (some p') len c' → ρ p.block = some j → (len = 0 ∨ AR ρ p p' j) → ¬ len + n ≤ c' →
           ∃ ρ1 w1 v', ρ.le ρ1 ∧ (Builtin.append_ ts ty args).run P w = .ok v' w1 ∧ VR ρ1 v v' ∧ HR P ρ1 N h1 w1 ∧ Below N w w1 := by
          intro p' c' j es hj hpj hnc
          subst es
          obtain ⟨arr0, e0, fr, hw, hR0, hget⟩ := H2.row hr hj
          obtain ⟨old', g1, g2, g3⟩ := H2.loads (a' := p') (n := len * i.size) (by
           rcases hpj with h | h
           · exact .inl (by rw [h, Nat.zero_mul])
           · exact .inr ⟨j, h⟩) hold
          obtain ⟨newCap, c1, c2⟩ := append_new (P := P) (w := w) (ty := ty) (old := old') K h0 h1' hnr (by simp [Builtin.firstCells, g1]) f1 hnc hbig
          have hol : old'.size = len * i.size := by rw [size_of_VRs g2]; exact g3
          generalize harr : (old' ++ new' ++ Builtin.zeroCells z.cells (newCap - (len + n))) = arr at c2
          have hasz : arr.size = newCap * i.size := by
           rw [← harr, Array.size_append, Array.size_append, zeroCells_size, K.zs, hol, hnl', ← Nat.add_mul, ← Nat.add_mul]
           congr 1
           omega
          let i1 : Img := ⟨w.heap.size, 0, arr.size, i.size, false⟩
          have hle3 := H2.le_put i1
          have hjlt := (H2.lo _ j hj).2
          have hpush : ∀ k, k < w.drew.heap.size → (w.drew.alloc (.cells arr e)).heap[k]? = w.drew.heap[k]? := fun k hk => Below.heap_alloc _ _ k hk
          have hR1 : ∀ f, ObjR P (ρ.put h.next i1) i1 (.cells ⟨old ++ new, e, f, r.base + p.off, true⟩) (.cells arr e) := by
           intro f
           refine ⟨rfl, ?_, by simp [i1], fun k v hk => ?_, fun k _ => by simp, fun hx => (by cases hx), fun _ => by simp [Program.cellsOf, K.info, i1]⟩
           · simp only [List.length_append, g3, hnl, hasz, i1, Nat.zero_add]
             rw [← Nat.add_mul]
             exact Nat.mul_le_mul_right _ (by omega)
           · obtain ⟨v', k1, k2⟩ := (g2.append f2).get hk
             refine ⟨v', ?_, k2.mono hle3⟩
             have hlt : k < (old' ++ new').size := by
              rcases Nat.lt_or_ge k (old' ++ new').size with h | h
              · exact h
              · rw [List.getElem?_eq_none (by simpa using h)] at k1; cases k1
             simp only [i1, Nat.zero_add]
             rw [← harr, Array.getElem?_append_left hlt]
             rw [← Array.getElem?_toList, Array.toList_append]
             exact k1
          have hBA : Below N w.drew (w.drew.alloc (.cells arr e)) := (Below.refl _ _).alloc H2.base _
          obtain ⟨rfl, g5⟩ := grow_HR H2 hv hj hr hw (w1 := w.drew.alloc (.cells arr e)) (arr1 := arr0) (by rw [hpush _ hjlt]; exact hw) rfl (fun _ _ => rfl) (fun k hk _ => hpush k hk) hBA.size i1 (.cells arr e)
           (by show (w.drew.heap.push (.cells arr e))[w.heap.size]? = _; exact Array.getElem?_push_size) hR1 (.inr ⟨Nat.le_refl _, by show w.heap.size < (w.drew.heap.push _).size; rw [Array.size_push]; exact Nat.lt_succ_self _⟩)
          refine ⟨_, _, _, hle3, c2, ?_, g5, hB2.trans hBA⟩
          refine .sl (i := i1) ⟨rfl, put_next _ _ _, by simp [i1]⟩ (.inr ⟨rfl, by omega, ?_⟩)
          simp [hasz, i1]
         cases hs with
         | @sl _ p' j _ _ c' hp hc =>
           by_cases hc' : len + n ≤ c'
           ·
             obtain ⟨hex, hcc, hm⟩ : j.ex = false ∧ cap ≤ c' ∧ p.off + c' * j.z ≤ j.m := by
              rcases hc with rfl | h
              · exact absurd hc' hle'
              · exact h
             obtain ⟨new1, q1, q2⟩ := first_run (w := w) H hx hfirst hnew
             obtain ⟨arr, e0, fr, hw, hR0, hget⟩ := H.row hr hp.2.1
             obtain ⟨old', g1, g2, g3⟩ := H.loads (.inr ⟨j, hp⟩) hold
             have hjz : j.z = i.size := by
              have := hR0.2.2.2.2.2.2 hex
              rw [hre'] at this
              rw [← this]
              simp [Program.cellsOf, K.info]
             have hnl1 : new1.size = n * i.size := by rw [size_of_VRs q2]; exact hnl
             have hmul : (len + n) * i.size ≤ c' * i.size := Nat.mul_le_mul_right _ hc'
             have hin : j.s + (p.off + len * i.size) + new1.toList.length ≤ arr.size := by
              have h1 := hR0.2.2.1
              have h2 := hR0.2.1
              rw [Array.length_toList, hnl1]
              rw [Nat.add_mul] at hmul
              rw [hjz] at hm
              omega
             have hrun := storeCells_run (P := P) (b := j.b) (e := e0) (fr := fr) (j.s + (p.off + len * i.size)) new1.toList 0 w arr hw hR0.2.2.2.2.1 (by omega) (all_VRs q2 hone)
             rw [Nat.add_zero] at hrun
             have hadd : p'.add (len * i.size) = ⟨j.b, j.s + (p.off + len * i.size), none⟩ := by
              have := (hp.add (len * i.size)).fn
              rw [add_off] at this
              exact this
             rw [← hadd] at hrun
             have hlo := H.lo _ j hp.2.1
             let w1 := World.putBlock w j.b (.cells (over arr (j.s + (p.off + len * i.size)) new1.toList) e0 fr)
             let i1 : Img := ⟨j.b, j.s + p.off, j.m - p.off, i.size, false⟩
             have hle3 := H.le_put i1
             have hw1 : w1.heap[j.b]? = some (.cells (over arr (j.s + (p.off + len * i.size)) new1.toList) e0 fr) := by
              show (World.putBlock w j.b _).heap[j.b]? = _
              rw [putBlock_get _ _ _ _ hlo.2, if_pos rfl]
             have hR1 : ∀ f, ObjR P (ρ.put h.next i1) i1 (.cells ⟨old ++ new, e, f, r.base + p.off, true⟩) (.cells (over arr (j.s + (p.off + len * i.size)) new1.toList) e0 fr) := by
              intro f
              refine ⟨by rw [hR0.1, hre'], ?_, ?_, fun k v hk => ?_, by rw [over_size]; exact hR0.2.2.2.2.1, fun hx => (by cases hx), fun _ => by simp [Program.cellsOf, K.info, i1]⟩
              · simp only [over_size, List.length_append, g3, hnl, i1]
                rw [Array.length_toList, hnl1] at hin
                omega
              · simp only [over_size, i1]
                have := hR0.2.2.1
                omega
              · simp only [i1]
                rw [over_get _ _ _ hin]
                have hkl : k < (old ++ new).length := by
                 rcases Nat.lt_or_ge k (old ++ new).length with h | h
                 · exact h
                 · have hk' : (old ++ new)[k]? = some v := hk
                   rw [List.getElem?_eq_none h] at hk'; cases hk'
                rw [List.length_append, g3, hnl] at hkl
                by_cases hko : k < len * i.size
                · have hk' : old[k]? = some v := by
                   have hk2 : (old ++ new)[k]? = some v := hk
                   rwa [List.getElem?_append_left (by rw [g3]; exact hko)] at hk2
                  rw [if_neg (by omega)]
                  have hkc : r.c[p.off + k]? = some v := by
                   have hz : len * i.size ≠ 0 := by omega
                   cases hq : len * i.size with
                   | zero => exact absurd hq hz
                   | succ q =>
                     rw [hq] at hold
                     simp only [Hp.loads] at hold
                     rw [hp.1] at hold
                     have hnb : Nat.blt p.block h.base = false := by
                      have := H.low _ _ hget
                      cases hx : Nat.blt p.block h.base with
                      | false => rfl
                      | true =>
                       have : p.block < h.base := by simpa using hx
                       omega
                     simp only [hr, hnb] at hold
                     obtain ⟨t1, _⟩ := takeN_spec _ _ _ hold
                     rw [t1, List.getElem?_take] at hk'
                     split at hk'
                     · simpa using hk'
                     · cases hk'
                  obtain ⟨v', t1, t2⟩ := hR0.2.2.2.1 _ _ hkc
                  exact ⟨v', by rw [← t1]; congr 1; omega, t2.mono hle3⟩
                · have hk' : new[k - len * i.size]? = some v := by
                   have hk2 : (old ++ new)[k]? = some v := hk
                   rwa [List.getElem?_append_right (by rw [g3]; omega), g3] at hk2
                  obtain ⟨v', t1, t2⟩ := q2.get hk'
                  rw [if_pos (by rw [Array.length_toList, hnl1]; omega)]
                  exact ⟨v', by rw [← t1]; congr 1; omega, t2.mono hle3⟩
             obtain ⟨rfl, g5⟩ := grow_HR H hv hp.2.1 hr hw (w1 := w1) hw1 (by rw [over_size]) (fun k hk => by rw [over_get _ _ _ hin, if_neg (by omega)]) (fun k hk hne => by
              show (World.putBlock w j.b _).heap[k]? = _
              rw [putBlock_get _ _ _ _ hlo.2, if_neg hne]) (by show _ ≤ (World.putBlock w j.b _).heap.size; rw [putBlock_size]; exact Nat.le_refl _) i1 _ hw1 hR1 (.inl ⟨rfl, rfl⟩)
             refine ⟨_, w1, _, hle3, append_room K h0 h1' hnr q1 hc' (w1 := w1) (fun q e => by injection e with e; subst e; exact hrun) (fun e => by cases e), ?_, g5, below_put (hlo.1 (H.low _ _ hget))⟩
             refine .sl (i := i1) ⟨rfl, put_next _ _ _, by rw [hp.fn]; simp [i1]⟩ (.inr ⟨rfl, by omega, ?_⟩)
             simp only [i1]
             rw [hjz] at hm
             omega
           · exact way2 p' c' j rfl hp.2.1 (.inr hp) hc'
         | @slZero p p' j hj =>
           exact way2 p' 0 j rfl hj (.inl rfl) (by omega)
       · cases hv
     · cases hv
end Go.Ev
end
section
namespace Go.Ev
open Go.RowKit
variable {P : Program} {ρ : Rho} {N : Bs} {h : Hp} {w : World} {a : A} {act : Act}
theorem two_args {l : List Value} {l' : Array Value} (hl : VRs ρ l l'.toList) {x y : Value} {r : List Value} (e : l = x :: y :: r) : ∃ x' y', l'[0]? = some x' ∧ l'[1]? = some y' ∧ VR ρ x x' ∧ VR ρ y y' := by
 subst e
 obtain ⟨x', r1, e1, hx, hr⟩ := hl.cons_inv
 obtain ⟨y', r2, e2, hy, _⟩ := hr.cons_inv
 refine ⟨x', y', ?_, ?_, hx, hy⟩
 · rw [← Array.getElem?_toList, e1]; rfl
 · rw [← Array.getElem?_toList, e1, e2]; rfl
theorem append_run (H : HR P ρ N h w) {ts : Array TypeId} {ty : TypeId} {l : List Value} {l' : Array Value} (hl : VRs ρ l l'.toList) {v : Value} {h1 : Hp} (hv : append' P h ts.toList l = some (v, h1)) :
  ∃ ρ1 w1 v', ρ.le ρ1 ∧ (Builtin.append_ ts ty l').run P w = .ok v' w1 ∧ VR ρ1 v v' ∧ HR P ρ1 N h1 w1 ∧ Below N w w1 := by
 unfold append' at hv
 split at hv
 · rename_i t xt base len cap x rest ht
   obtain ⟨s', x', a0, a1, hs, hx⟩ := two_args hl rfl
   have ht0 : ts[0]? = some t := by rw [← Array.getElem?_toList, ht]; rfl
   split at hv
   · rename_i e hu hni
     split at hv
     · rename_i i z hi hz
       split at hv
       · rename_i c1 c2 c3 c4
         split at hv
         · rename_i n hn
           split at hv
           · rename_i new hnew hbig hlc
             split at hv
             · rename_i hone hnl
               have K : AppendAsks P ts e i z := by
                refine ⟨⟨t, ht0, hu⟩, ?_, hi, fun w => (zero_run (w := w) (ρ := ρ) hz).1, by rw [← Array.length_toList]; exact nbeq_true c1, by simpa [Nat.blt_eq] using c2, by simpa [Nat.blt_eq] using c4, by simpa using c3⟩
                cases xt with
                | nil => left; rw [← Array.getElem?_toList, ht]; rfl
                | cons u r =>
                  right
                  have hu1 : ts[1]? = some u := by rw [← Array.getElem?_toList, ht]; rfl
                  simp only [Go.Ev.noInt] at hni
                  split at hni
                  · rename_i e2 hq
                    exact .inl ⟨u, e2, hu1, hq⟩
                  · rename_i hq
                    exact .inr ⟨u, hu1, hq⟩
                  · cases hni
               exact apd_run H K a0 a1 hs hx hn hnew hone (nbeq_true hnl) (by simpa using hlc) (by simpa using hbig) hv
             · cases hv
           · cases hv
         · cases hv
       · cases hv
     · cases hv
   · cases hv
 · cases hv
theorem copy_run (H : HR P ρ N h w) {ts : Array TypeId} {ty : TypeId} {l : List Value} {l' : Array Value} (hl : VRs ρ l l'.toList) {v : Value} {h1 : Hp} (hv : copy' P h ts.toList l = some (v, h1)) :
  ∃ ρ1 w1 v', ρ.le ρ1 ∧ (Builtin.copy_ ts ty l').run P w = .ok v' w1 ∧ VR ρ1 v v' ∧ HR P ρ1 N h1 w1 ∧ Below N w w1 := by
 unfold copy' at hv
 split at hv
 · rename_i t xt d s rest ht
   obtain ⟨d', s', a0, a1, hd, hs⟩ := two_args hl rfl
   have ht0 : ts[0]? = some t := by rw [← Array.getElem?_toList, ht]; rfl
   split at hv
   · rename_i e base dl dc sl hu hsl
     split at hv
     · rename_i z hz
       split at hv
       · rename_i cs hcs
         obtain ⟨hzr, _⟩ := size_some (w := w) hz
         have hlen := lenOf_run (P := P) (w := w) hs hsl
         obtain ⟨cs', f1, f2⟩ := first_run H hs (fun b len c e => by
          subst e
          simp only [lenOf', Option.some.injEq] at hsl
          rw [hsl]
          exact Nat.min_le_left _ _) hcs
         split at hv
         · injection hv with hv
           injection hv with hv1 hv2
           subst hv1; subst hv2
           cases hd
           refine ⟨ρ, w, _, Rho.le_refl ρ, ?_, .int _ _, H, Below.refl _ _⟩
           simp only [Builtin.copy_, ht0, a0, a1, Sem.run_bind, run_und hu, Result.andThen_ok, hlen, hzr, f1, Sem.run_pure]
           rfl
         · rename_i p
           split at hv
           · rename_i h2 hst
             injection hv with hv
             injection hv with hv1 hv2
             subst hv1; subst hv2
             have fin : ∀ p' c' w1, d' = .slice (some p') dl c' → (storeCells p' cs'.toList).run P w = .ok () w1 → HR P ρ N h2 w1 → Below N w w1 →
               ∃ ρ1 w1 v', ρ.le ρ1 ∧ (Builtin.copy_ ts ty l').run P w = .ok v' w1 ∧ VR ρ1 (.int .i64 (Nat.min sl dl : Nat)) v' ∧ HR P ρ1 N h2 w1 ∧ Below N w w1 := by
              intro p' c' w1 e r1 r2 r3
              subst e
              refine ⟨ρ, w1, _, Rho.le_refl ρ, ?_, .int _ _, r2, r3⟩
              simp only [Builtin.copy_, ht0, a0, a1, Sem.run_bind, run_und hu, Result.andThen_ok, hlen, hzr, f1, r1, Sem.run_pure]
              rfl
             cases hd with
             | @sl _ p' j _ _ c' hp hc =>
               obtain ⟨w1, r1, r2, r3⟩ := H.stores (P := P) (.inr ⟨j, hp⟩) f2 hst
               exact fin _ _ w1 rfl r1 r2 r3
             | slZero p p' =>
               have hnil : cs = [] := by
                have hm : Nat.min sl 0 = 0 := Nat.min_zero _
                rw [hm] at hcs
                unfold first' at hcs
                split at hcs
                · rw [Nat.zero_mul] at hcs
                  simp only [Hp.loads, Option.some.injEq] at hcs
                  exact hcs.symm
                · injection hcs with hcs; exact hcs.symm
                · injection hcs with hcs; simpa using hcs.symm
                · cases hcs
               subst hnil
               obtain ⟨w1, r1, r2, r3⟩ := H.stores (P := P) (a' := p') (.inl rfl) f2 hst
               exact fin _ _ w1 rfl r1 r2 r3
           · cases hv
       · cases hv
     · cases hv
   · cases hv
 · cases hv
theorem bytesOf_VRs : ∀ {l l' : List Value}, VRs ρ l l' → ∀ {bs : List UInt8}, bytesOf l = some bs → ∃ xs : List Int, l' = xs.map (Value.int .u8) ∧ bs = xs.map fun n => UInt8.ofNat n.toNat
 | _, _, .nil, bs, hb => by
   simp only [bytesOf, Option.some.injEq] at hb
   subst hb
   exact ⟨[], rfl, rfl⟩
 | _, _, .cons hv hl, bs, hb => by
   unfold bytesOf at hb
   split at hb
   · rename_i e; cases e
   · rename_i n r e
     injection e with e1 e2
     subst e1; subst e2
     cases hv
     split at hb
     · rename_i br hbr
       injection hb with hb
       subst hb
       obtain ⟨xs, e1, e2⟩ := bytesOf_VRs hl hbr
       exact ⟨n :: xs, by rw [e1]; rfl, by rw [e2]; rfl⟩
     · cases hb
   · cases hb
theorem convert_run (H : HR P ρ N h w) {src dst : TypeId} {x x' : Value} (hx : VR ρ x x') {v : Value} {h1 : Hp} (hv : convert' P h src dst x = some (v, h1)) :
  ∃ ρ1 w1 v', ρ.le ρ1 ∧ (convert src dst x').run P w = .ok v' w1 ∧ VR ρ1 v v' ∧ HR P ρ1 N h1 w1 ∧ Below N w w1 := by
 unfold convert' at hv
 split at hv
 · rename_i q k k2 n hs hd
   cases hx
   injection hv with hv
   injection hv with hv1 hv2
   subst hv1; subst hv2
   refine ⟨ρ, w, _, Rho.le_refl ρ, ?_, .int _ _, H, Below.refl _ _⟩
   simp [convert, run_und hs, run_und hd, Conv.intToInt]
 · rename_i q s hs hd
   cases hx
   injection hv with hv
   injection hv with hv1 hv2
   subst hv1; subst hv2
   refine ⟨ρ, w, _, Rho.le_refl ρ, ?_, .string _, H, Below.refl _ _⟩
   simp [convert, run_und hs, run_und hd]
 · rename_i q e s hs hd
   cases hx
   split at hv
   · rename_i he
     split at hv
     · rename_i hlen hsz
       split at hv
       · rename_i p h2 hgr
         injection hv with hv
         injection hv with hv1 hv2
         subst hv1; subst hv2
         obtain ⟨_, hcz⟩ := size_some (w := w) hsz
         unfold Hp.grownRow at hgr
         split at hgr
         · rename_i b h3 hnw
           injection hgr with hgr
           injection hgr with hg1 hg2
           subst hg1; subst hg2
           have hb := new_next hnw
           subst hb
           have H2 : HR P ρ N h w.drew := H.drewn _
           have hB2 : Below N w w.drew := (Below.refl _ _).drew
           let cap := (Question.appendCap s.size 0 e).cut (w.tape w.drawn (.appendCap s.size 0 e))
           have hcap : s.size ≤ cap := by simp only [cap, Question.cut]; omega
           let arr : Array Value := s.data.map (fun b => Value.int .u8 b.toNat) ++ Array.replicate (cap - s.size) (.int .u8 0)
           have hasz : arr.size = cap := by
            simp only [arr, Array.size_append, Array.size_map, Array.size_replicate]
            have : s.data.size = s.size := rfl
            omega
           let i1 : Img := ⟨w.heap.size, 0, arr.size, 1, false⟩
           have hle3 := H2.le_put i1
           have hR : ObjR P (ρ.put h.next i1) i1 (.cells ⟨s.data.toList.map fun b => .int .u8 b.toNat, e, 0, 0, true⟩) (.cells arr e (arr.size, arr.size + 1)) := by
            refine ⟨rfl, ?_, by simp [i1], fun k v hk => ?_, fun k hk => ?_, fun hx => (by cases hx), fun _ => hcz⟩
            · simp only [i1, List.length_map, Nat.zero_add, hasz]
              rw [← size_data]
              exact hcap
            · have hk' : (s.data.toList.map fun b => Value.int .u8 (b.toNat : Int))[k]? = some v := hk
              have hkl : k < s.data.size := by
               rcases Nat.lt_or_ge k s.data.size with h | h
               · exact h
               · rw [List.getElem?_eq_none (by simpa using h)] at hk'; cases hk'
              obtain ⟨v', g1, g2⟩ := (ints_VRs (ρ := ρ.put h.next i1) s.data.toList).get hk'
              refine ⟨v', ?_, g2⟩
              simp only [i1, Nat.zero_add, arr]
              rw [Array.getElem?_append_left (by simpa using hkl)]
              rw [← Array.getElem?_toList, Array.toList_map]
              exact g1
            · simp
              omega
           obtain ⟨_, g3, g4⟩ := H2.new hnw i1 rfl hR (fun r hr => by injection hr with hr; subst hr; rfl)
           have hfz : (w.drew.alloc (.cells arr e)).freeze ⟨w.heap.size, arr.size, none⟩ 1 = w.drew.alloc (.cells arr e (arr.size, arr.size + 1)) := by
            unfold World.freeze
            simp only [Nat.one_ne_zero, if_false]
            show World.mk _ _ _ _ _ = World.mk _ _ _ _ _
            congr 1
            show (w.heap.push (.cells arr e)).modify w.heap.size _ = w.heap.push (.cells arr e (arr.size, arr.size + 1))
            apply Array.ext
            · simp
            · intro k k1 k2
              rw [Array.getElem_modify]
              by_cases hk : w.heap.size = k
              · subst hk
                simp
              · rw [if_neg hk]
                have : k < w.heap.size := by simp at k2; omega
                rw [Array.getElem_push_lt this, Array.getElem_push_lt this]
           have hshape : (w.drew.alloc (.cells arr e)).shape? w.heap.size = some (e, arr.size) := by
            refine shape_of (fr := (0, 0)) ?_
            show (w.heap.push (.cells arr e))[w.heap.size]? = _
            exact Array.getElem?_push_size
           refine ⟨_, _, .slice (some ⟨w.heap.size, 0, none⟩) s.size cap, hle3, ?_, ?_, g3, hB2.trans g4⟩
           · have hrow : (newRow e arr).run P w.drew = .ok ⟨w.heap.size, 0, none⟩ (w.drew.alloc (.cells arr e)) := rfl
             simp [convert, run_und hs, run_und hd, run_und he, Conv.stringToBytes, Question.forced]
             have hrow' : (newRow e (s.data.map (fun b => Value.int .u8 b.toNat) ++ Array.replicate ((Question.appendCap s.size 0 e).cut (w.tape w.drawn (.appendCap s.size 0 e)) - s.size) (.int .u8 0))).run P w.drew = .ok ⟨w.heap.size, 0, none⟩ (w.drew.alloc (.cells arr e)) := rfl
             rw [hrow']
             simp only [Result.andThen_ok, markStringish, Sem.run_bind, run_shape, hshape, run_freeze, Sem.run_pure, hfz, cap]
           · rw [← size_data]
             exact .sl (i := i1) ⟨rfl, put_next _ _ _, by simp [i1]⟩ (.inr ⟨rfl, hcap, by simp [i1, hasz]⟩)
         · cases hgr
       · cases hv
     · cases hv
   · cases hv
 · rename_i e m c hs hd
   split at hv
   · rename_i he
     injection hv with hv
     injection hv with hv1 hv2
     subst hv1; subst hv2
     cases hx
     refine ⟨ρ, w, _, Rho.le_refl ρ, run_convert_bytes_nil w src e hs he _ _ dst hd, ?_, H, Below.refl _ _⟩
     exact .string _
   · cases hv
 · rename_i e p n c hs hd
   split at hv
   · rename_i he
     split at hv
     · rename_i l hl
       split at hv
       · rename_i bs hbs
         injection hv with hv
         injection hv with hv1 hv2
         subst hv1; subst hv2
         have fin : ∀ p' c', (n = 0 ∨ ∃ i, AR ρ p p' i) → x' = .slice (some p') n c' → ∃ ρ1 w1 v', ρ.le ρ1 ∧ (convert src dst x').run P w = .ok v' w1 ∧ VR ρ1 (.string ⟨bs.toArray⟩) v' ∧ HR P ρ1 N h w1 ∧ Below N w w1 := by
          intro p' c' ha e0
          subst e0
          obtain ⟨l', g1, g2, g3⟩ := H.loads ha hl
          obtain ⟨xs, e1, e2⟩ := bytesOf_VRs g2 hbs
          have hl' : l' = (xs.map (Value.int .u8)).toArray := by
           apply Array.ext'
           rw [e1]
          rw [hl'] at g1
          refine ⟨ρ, w, .string ⟨bs.toArray⟩, Rho.le_refl ρ, ?_, .string _, H, Below.refl _ _⟩
          rw [run_convert_bytes_string w src dst e _ n c' hs he hd, run_bytesToString w _ n c' xs g1, foldl_push_bytes, e2]
          congr 2
          simp [ByteArray.empty, ByteArray.emptyWithCapacity]
          rfl
         cases hx with
         | sl hp hc => exact fin _ _ (.inr ⟨_, hp⟩) rfl
         | slZero => exact fin _ _ (.inl rfl) rfl
       · cases hv
     · cases hv
   · cases hv
 · cases hv
set_option maxHeartbeats 4000000 in
theorem maker_run (A : ActR ρ a act) (o : Oper) {ob : CObj} {f : Nat → Value} (hv : maker' P a o.op = some (ob, f)) :
  ∃ s : Sem Value, (∀ w : World, (execOp act.eval o).run P w = (do pure (.value (← s)) : Sem Next).run P w) ∧ Makes P ρ s ob f := by
 obtain ⟨dst, op, ty, pos, after, guard⟩ := o
 simp only at hv
 cases op <;> simp only [maker'] at hv <;> try (cases hv; done)
 case alloc e =>
  split at hv
  · rename_i z hz
    injection hv with hv
    injection hv with hv1 hv2
    subst hv1; subst hv2
    refine ⟨Instr.alloc e true (.tuple #[]), fun w => rfl, makes_row (c' := z.cells) (f' := fun b => .pointer (some ⟨b, 0, none⟩)) (zero_VR (ρ := ρ) hz).cells (fun w => ?_) (fun ρ1 g b i ha => .ptr ha)⟩
    obtain ⟨hzr, _⟩ := zero_run (w := w) (ρ := ρ) hz
    simp [Instr.alloc, hzr, newVar, newRow_eq]
  · cases hv
 case box e x =>
  split at hv
  · rename_i u hu
    injection hv with hv
    injection hv with hv1 hv2
    subst hv1; subst hv2
    refine ⟨Instr.box e (act.eval x), fun w => rfl, makes_row (c' := (act.eval x).cells) (f' := fun b => .pointer (some ⟨b, 0, none⟩)) (A.ev hu).cells (fun w => ?_) (fun ρ1 g b i ha => .ptr ha)⟩
    simp [Instr.box, newVar, newRow_eq]
  · cases hv
 case buildSlice t n parts =>
  split at hv
  · rename_i l hl
    exact ⟨Instr.buildSlice t n (parts.map fun (i, x) => (i, act.eval x)), fun w => rfl, buildSlice_makes (ps' := parts.map fun (i, x) => (i, act.eval x)) (by simpa using A.evPairs hl) hv⟩
  · cases hv
 case makeMap t r =>
  have fin : ∀ {s : Sem Value} , (∀ w : World, s.run P w = .ok (.map (some w.heap.size)) (w.alloc (.map #[] 0))) → Makes P ρ s (.map [] 0) (fun b => .map (some b)) := by
   intro s hs
   exact ⟨.map #[] 0, 0, fun b => .map (some b), hs, fun _ _ _ => ⟨.nil, rfl⟩, fun ρ1 g b hg => .map hg, rfl⟩
  cases r with
  | none =>
    simp only at hv
    injection hv with hv
    injection hv with hv1 hv2
    subst hv1; subst hv2
    exact ⟨Instr.makeMap t none, fun w => rfl, fin (fun w => by simp [Instr.makeMap, alloc_push])⟩
  | some x =>
    simp only at hv
    split at hv
    · rename_i k n kt et hx hu
      have := A.ev hx
      generalize hcv : act.eval x = cv at this
      cases this
      injection hv with hv
      injection hv with hv1 hv2
      subst hv1; subst hv2
      exact ⟨Instr.makeMap t (some (act.eval x)), fun w => rfl, fin (fun w => by simp [Instr.makeMap, run_und hu, hcv, asInt, asIntOf, alloc_push])⟩
    · cases hv
 case makeSlice t l c =>
  split at hv
  · rename_i x y hx hy
    exact ⟨Instr.makeSlice t (act.eval l) (act.eval c), fun w => rfl, makeSlice_makes (A.ev hx) (A.ev hy) hv⟩
  · cases hv
theorem makes_does (H : HR P ρ N h w) {s : Sem Value} {ob : CObj} {f : Nat → Value} (hm : Makes P ρ s ob f) {b : Nat} {h1 : Hp} (hn : h.new ob = some (b, h1)) :
  Does P ρ N w ((do pure (.value (← s)) : Sem Next).run P w) (f b) h1 := by
 obtain ⟨o', m, f', r1, r2, r3, r4⟩ := hm
 have hb := new_next hn
 subst hb
 have hle := H.le_put ⟨w.heap.size, 0, m, 0, true⟩
 obtain ⟨_, h2, h3⟩ := H.new hn ⟨w.heap.size, 0, m, 0, true⟩ rfl (r2 _ _ hle) (fun r e => famFree_eq r4 r e)
 exact does_value ⟨_, _, _, hle, r1 w, r3 _ _ _ (by simp [Rho.put]), h2, h3⟩
set_option maxHeartbeats 4000000 in
theorem writer_run (W : WfP P) (H : HR P ρ N h w) (A : ActR ρ a act) (o : Oper) {v : Value} {h1 : Hp} (hv : writer' P h a o.op = some (v, h1)) : Does P ρ N w ((execOp act.eval o).run P w) v h1 := by
 have mk : (match maker' P a o.op with | some (o, f) => (match h.new o with | some (b, h) => some (f b, h) | none => none) | none => none) = some (v, h1) → Does P ρ N w ((execOp act.eval o).run P w) v h1 := by
  intro hv
  split at hv
  · rename_i ob f hm
    obtain ⟨s, e1, e2⟩ := maker_run A o hm
    split at hv
    · rename_i b h2 hn
      injection hv with hv
      injection hv with hv1 hv2
      subst hv1; subst hv2
      rw [e1]
      exact makes_does H e2 hn
    · cases hv
  · cases hv
 obtain ⟨dst, op, ty, pos, after, guard⟩ := o
 simp only at hv
 cases op <;> simp only [writer'] at hv <;> try (cases hv; done)
 case alloc e => exact mk hv
 case box e x => exact mk hv
 case buildSlice t n parts => exact mk hv
 case makeMap t r => exact mk hv
 case makeSlice t l c => exact mk hv
 case store t x y =>
  split at hv
  · rename_i p u hp hu
    have := A.ev hp
    generalize hcv : act.eval x = cv at this
    cases this with
    | ptr ha =>
    cases hs : storeVar' P h t p u with
    | none => rw [hs] at hv; cases hv
    | some h2 =>
      rw [hs] at hv
      injection hv with hv
      injection hv with hv1 hv2
      subst hv1; subst hv2
      have := does_unit (store_run H ha (A.ev hu) hs)
      simpa [execOp, hcv] using this
  · cases hv
 case mapUpdate t m k x =>
  split at hv
  · rename_i vm vk vx hm hk hx
    cases hs : mapUpdate' P h t vm vk vx with
    | none => rw [hs] at hv; cases hv
    | some h2 =>
      rw [hs] at hv
      injection hv with hv
      injection hv with hv1 hv2
      subst hv1; subst hv2
      exact does_unit (mapUpdate_run W H (A.ev hm) (A.ev hk) (A.ev hx) hs)
  · cases hv
 case insert t m k x =>
  split at hv
  · rename_i vm vk vx hm hk hx
    cases hs : mapUpdate' P h t vm vk vx with
    | none => rw [hs] at hv; cases hv
    | some h2 =>
      rw [hs] at hv
      injection hv with hv
      injection hv with hv1 hv2
      subst hv1; subst hv2
      exact does_unit (mapUpdate_run W H (A.ev hm) (A.ev hk) (A.ev hx) hs)
  · cases hv
 case mapEntry t m k =>
  split at hv
  · rename_i vm vk hm hk
    exact does_value (mapEntry_run W H (A.ev hm) (A.ev hk) hv)
  · cases hv
 case entryStore t m k x =>
  split at hv
  · rename_i vm vk vx hm hk hx
    cases hs : entryStore' h vm vk vx with
    | none => rw [hs] at hv; cases hv
    | some h2 =>
      rw [hs] at hv
      injection hv with hv
      injection hv with hv1 hv2
      subst hv1; subst hv2
      exact does_unit (entryStore_run H (A.ev hm) (A.ev hk) (A.ev hx) hs)
  · cases hv
 case range t x =>
  split at hv
  · rename_i u hu
    exact does_value (range_run H (A.ev hu) hv)
  · cases hv
 case next it s =>
  split at hv
  · rename_i u hu
    exact does_value (next_run H (A.ev hu) hv)
  · cases hv
 case convert s t x =>
  split at hv
  · rename_i u hu
    exact does_value (convert_run H (A.ev hu) hv)
  · cases hv
 case call c =>
  obtain ⟨cal, args, ats⟩ := c
  cases cal with
  | value f => cases hv
  | invoke r m => cases hv
  | builtin b =>
    simp only at hv
    split at hv
    · rename_i l hl
      have hargs : VRs ρ l (args.map act.eval).toList := by simpa using A.evList hl
      unfold builtin' at hv
      split at hv
      · have := does_value (append_run (ty := ty) H hargs hv)
        simpa [execOp, resolve, invoke, builtin] using this
      · have := does_value (copy_run (ty := ty) H hargs hv)
        simpa [execOp, resolve, invoke, builtin] using this
      · split at hv
        · rename_i t tr m k r ht
          obtain ⟨m', k', a0, a1, hm, hk⟩ := two_args hargs rfl
          have ht0 : ats[0]? = some t := by rw [← Array.getElem?_toList, ht]; rfl
          have := does_value (delete_run (ty := ty) W H ht0 a0 a1 hm hk hv)
          simpa [execOp, resolve, invoke, builtin] using this
        · cases hv
      · cases hv
    · cases hv
end Go.Ev
end
section
namespace Go.Ev
open Go.RowKit
variable {P : Program} {ρ : Rho} {N : Bs} {h : Hp} {w : World} {a : A} {act : Act}
def CallerOk (P : Program) (C : Caller) : Prop :=
 ∀ f args h v h1, C f args h = some (v, h1) → (∃ fn c, P.funcs[f]? = some fn ∧ fn.body = some c ∧ (fn.name == "runtime.NumGoroutine") = false) ∧
  ∀ (ρ : Rho) (N : Bs) (w : World) (args' : List Value), HR P ρ N h w → VRs ρ args args' →
   Calls P f args'.toArray w fun e w1 => ∃ ρ1 v', e = .returned v' ∧ ρ.le ρ1 ∧ HR P ρ1 N h1 w1 ∧ VR ρ1 v v' ∧ Below N w w1
theorem oper_wp (W : WfP P) {C : Caller} (HC : CallerOk P C) (H : HR P ρ N h w) (A : ActR ρ a act) (o : Oper) {v : Value} {h1 : Hp} (hv : oper' P C h a o.op = some (v, h1))
  {next : Act → World → Prop} {Q : Exit → Act → World → Prop} (K : ∀ ρ1 w1 v', ρ.le ρ1 → VR ρ1 v v' → HR P ρ1 N h1 w1 → Below N w w1 → next (act.put o.dst v') w1) : o.wp P act w next Q := by
 unfold oper' at hv
 split at hv
 · rename_i hr
   cases hrd : reader' P h a o.op with
   | none => rw [hrd] at hv; cases hv
   | some u =>
     rw [hrd] at hv
     injection hv with hv
     injection hv with hv1 hv2
     subst hv1; subst hv2
     obtain ⟨v', e1, e2⟩ := reader_run W H A o hr hrd
     unfold Oper.wp
     rw [e1]
     exact K ρ w v' (Rho.le_refl ρ) e2 H (Below.refl _ _)
 · split at hv
   · rename_i f args hcal
     obtain ⟨⟨fn, c, hf, hb, hname⟩, hcall⟩ := HC f args h v h1 hv
     obtain ⟨dst, op, ty, pos, after, guard⟩ := o
     simp only at hcal
     unfold callee' at hcal
     split at hcal
     · rename_i cc _
       split at hcal
       · rename_i fo hco
         split at hcal
         · rename_i g first captured l hfo hl
           injection hcal with hcal
           injection hcal with hc1 hc2
           subst hc1; subst hc2
           have hfr := A.ev hfo
           generalize hcv : act.eval fo = cv at hfr
           cases hfr with
           | @func _ _ _ f' c' hfi hca =>
           have hargs : VRs ρ l (cc.args.map act.eval).toList := by simpa using A.evList hl
           have hall : VRs ρ (first.toList ++ l ++ captured.toList) (f' ++ cc.args.map act.eval ++ c').toList := by
            simp only [Array.toList_append]
            exact (hfi.append hargs).append hca
           have hrun : (execOp act.eval { dst := dst, op := .call cc, type := ty, pos := pos, after := after, guard := guard }).run P w = .ok (.enter g (f' ++ cc.args.map act.eval ++ c')) w := by
            have hname' : ¬ fn.name = "runtime.NumGoroutine" := by simpa using hname
            simp [execOp, resolve, hco, hcv, Deferred.ofValue, invoke, callFunc, hf, hname', hb]
           unfold Oper.wp
           rw [hrun, Oper.upon_enter]
           refine (hcall ρ N w _ H hall).mono ?_
           rintro e w1 ⟨ρ1, v', rfl, r1, r2, r3, r4⟩
           exact K ρ1 w1 v' r1 r3 r2 r4
         · cases hcal
       · cases hcal
     · cases hcal
   · obtain ⟨ρ1, w1, nx, v', r1, r2, r3, r4, r5, r6⟩ := writer_run W H A o hv
     unfold Oper.wp
     rw [r2]
     rcases r3 with rfl | ⟨rfl, rfl⟩
     · exact K ρ1 w1 v' r1 r4 r5 r6
     · exact K ρ1 w1 undef r1 r4 r5 r6
theorem wanted_eq (A : ActR ρ a act) (ops : Array Oper) (o : Oper) : wanted' ops.toList a o = Region.wanted o (yielded ops act.tmps) := by
 cases hg : o.guard with
 | none => simp [wanted', Region.wanted, hg]
 | some jw =>
   obtain ⟨j, want⟩ := jw
   simp only [wanted', Region.wanted, hg, yielded, Array.getElem?_toList]
   cases hj : ops[j]? with
   | none => simp
   | some p =>
     cases hd : p.dst with
     | none => simp [hd]
     | some d =>
       have hr := A.get d
       simp only [hd, Option.bind_some]
       by_cases hlt : d < act.tmps.size
       · have he : act.tmps[d]? = some (act.tmps.getD d undef) := by
          simp [Array.getElem?_eq_getElem hlt, Array.getD, hlt]
         rw [he]
         generalize act.tmps.getD d undef = v' at hr
         generalize a.get d = v at hr
         cases hr <;> simp
       · have he : act.tmps[d]? = none := Array.getElem?_eq_none (Nat.le_of_not_lt hlt)
         have hu : act.tmps.getD d undef = undef := by simp [Array.getD, hlt]
         rw [he]
         rw [hu] at hr
         generalize a.get d = v at hr
         unfold undef at hr
         cases hr
         simp
theorem step_wp (W : WfP P) {C : Caller} (HC : CallerOk P C) (H : HR P ρ N h w) (A : ActR ρ a act) {ops : Array Oper} {i : Nat} {o : Oper} (ho : ops[i]? = some o) {a1 : Ev.A} {h1 : Hp} (hs : step' P C ops.toList o a h = some (a1, h1))
  {K : Act → World → Prop} {Q : Exit → Act → World → Prop} (hK : ∀ ρ1 w1 act1, ρ.le ρ1 → ActR ρ1 a1 act1 → HR P ρ1 N h1 w1 → Below N w w1 → K act1 w1) : wpOp P ops Q i K act w := by
 unfold wpOp
 rw [ho]
 simp only []
 unfold step' at hs
 rw [wanted_eq A ops o] at hs
 split at hs
 · rename_i hw
   rw [if_pos hw]
   split at hs
   · rename_i v h2 hv
     split at hs
     · rename_i a2 ha
       injection hs with hs
       injection hs with hs1 hs2
       subst hs1; subst hs2
       refine .inl (oper_wp W HC H A o hv (fun ρ1 w1 v' r1 r2 r3 r4 => hK ρ1 w1 _ r1 ((A.mono r1).put r2 ha) r3 r4))
     · cases hs
   · cases hs
 · rename_i hw
   rw [if_neg (by rw [hw]; simp)]
   split at hs
   · rename_i a2 ha
     injection hs with hs
     injection hs with hs1 hs2
     subst hs1; subst hs2
     exact hK ρ w _ (Rho.le_refl ρ) (A.put (v' := undef) (.tuple .nil) ha) H (Below.refl _ _)
   · cases hs
theorem ops_wp (W : WfP P) {C : Caller} (HC : CallerOk P C) {ops : Array Oper} {Q : Exit → Act → World → Prop} : ∀ (r pre : List Oper), ops.toList = pre ++ r → ∀ {ρ : Rho} {h : Hp} {w : World} {a : Ev.A} {act : Act} {a1 : Ev.A} {h1 : Hp},
  HR P ρ N h w → ActR ρ a act → ops' P C ops.toList r a h = some (a1, h1) →
  (∀ ρ1 w1 act1, ρ.le ρ1 → ActR ρ1 a1 act1 → HR P ρ1 N h1 w1 → Below N w w1 → Q .normal act1 w1) → wpOps P ops Q (List.range' pre.length r.length) act w := by
 intro r
 induction r with
 | nil =>
   intro pre hp ρ h w a act a1 h1 H A hs hQ
   simp only [ops', Option.some.injEq, Prod.mk.injEq] at hs
   obtain ⟨rfl, rfl⟩ := hs
   simp only [List.length_nil, List.range'_zero, wpOps]
   exact hQ ρ w act (Rho.le_refl ρ) A H (Below.refl _ _)
 | cons o r ih =>
   intro pre hp ρ h w a act a1 h1 H A hs hQ
   simp only [ops'] at hs
   split at hs
   · rename_i a2 h2 hst
     have ho : ops[pre.length]? = some o := by
      rw [← Array.getElem?_toList, hp]
      simp
     simp only [List.length_cons, List.range'_succ]
     rw [wpOps_cons]
     refine step_wp W HC H A ho hst (fun ρ1 w1 act1 r1 r2 r3 r4 => ?_)
     have := ih (pre ++ [o]) (by rw [hp]; simp) r3 r2 hs (fun ρ2 w2 act2 s1 s2 s3 s4 => hQ ρ2 w2 act2 (Rho.le_trans r1 s1) s2 s3 (r4.trans s4))
     simpa using this
   · cases hs
end Go.Ev
end
section
namespace Go.Ev
open Go.RowKit
variable {P : Program} {ρ : Rho} {N : Bs} {h : Hp} {w : World} {a : A} {act : Act} {mk : Bool}
theorem has_mem {l : List Nat} {i : Nat} : has l i = true ↔ i ∈ l := by
 unfold has
 rw [List.any_eq_true]
 constructor
 · rintro ⟨x, hx, he⟩
   have := nbeq_true he
   subst this
   exact hx
 · intro hx
   exact ⟨i, hx, by simp⟩
theorem predsGo_old : ∀ (r : List Oper) (acc : List (List Nat)) (i : Nat), i < acc.length → (predsGo acc r)[i]? = acc[i]?
 | [], _, _, _ => rfl
 | o :: r, acc, i, hi => by
   simp only [predsGo]
   rw [predsGo_old r _ i (by simp; omega), List.getElem?_append_left hi]
theorem predsGo_new : ∀ (r : List Oper) (acc : List (List Nat)) (k : Nat) (o : Oper), r[k]? = some o →
  ∃ acc', acc'.length = acc.length + k ∧ (predsGo acc r)[acc.length + k]? = some (predsRow acc' o.after.toList) ∧ ∀ i, i < acc'.length → acc'[i]? = (predsGo acc r)[i]?
 | [], _, _, _, h => by simp at h
 | o :: r, acc, 0, o', h => by
   simp at h
   subst h
   refine ⟨acc, rfl, ?_, fun i hi => ?_⟩
   · simp only [predsGo, Nat.add_zero]
     rw [predsGo_old r _ _ (by simp)]
     simp
   · simp only [predsGo]
     rw [predsGo_old r _ _ (by simp; omega), List.getElem?_append_left hi]
 | o :: r, acc, k + 1, o', h => by
   simp at h
   obtain ⟨acc', h1, h2, h3⟩ := predsGo_new r (acc ++ [predsRow acc o.after.toList]) k o' h
   simp only [List.length_append, List.length_singleton] at h1 h2
   refine ⟨acc', by omega, ?_, ?_⟩
   · simp only [predsGo]
     rw [← h2]
     congr 1
     omega
   · simpa only [predsGo] using h3
theorem predsRow_mem {acc : List (List Nat)} {j : Nat} : ∀ {l : List Edge}, j ∈ predsRow acc l → ∃ e ∈ l, Region.binds .any e = true ∧ (j = e.on ∨ j ∈ (acc[e.on]?).getD [])
 | [], h => by simp [predsRow] at h
 | e :: l, h => by
   simp only [predsRow] at h
   split at h
   · rename_i hb
     simp only [List.cons_append, List.mem_cons, List.mem_append] at h
     rcases h with rfl | h | h
     · exact ⟨e, by simp, hb, .inl rfl⟩
     · exact ⟨e, by simp, hb, .inr h⟩
     · obtain ⟨e', h1, h2⟩ := predsRow_mem h
       exact ⟨e', by simp [h1], h2⟩
   · obtain ⟨e', h1, h2⟩ := predsRow_mem h
     exact ⟨e', by simp [h1], h2⟩
theorem edgesOk_spec {i : Nat} : ∀ {l : List Edge}, edgesOk i l = true → ∀ e ∈ l, Region.binds .any e = true → e.on < i
 | [], _, _, h, _ => by cases h
 | e :: l, h, e', he, hb => by
   simp only [edgesOk] at h
   split at h
   · split at h
     · rename_i hlt
       rcases List.mem_cons.1 he with rfl | he
       · simpa [Nat.blt_eq] using hlt
       · exact edgesOk_spec h e' he hb
     · cases h
   · rename_i hf
     rcases List.mem_cons.1 he with rfl | he
     · rw [hb] at hf; cases hf
     · exact edgesOk_spec h e' he hb
theorem pairOk_spec {arr : Array Oper} {ps : List Nat} {y : Oper} : ∀ {l : List Oper} {k : Nat}, pairOk mk arr ps y k l = true → ∀ i x, l[i]? = some x → has ps (k + i) = true ∨ ((isReader2 mk x.op || isReader2 mk y.op) = true ∧ x.apart arr y = true ∧ y.apart arr x = true)
 | [], _, _, _, _, h => by simp at h
 | x :: l, k, h, i, x', hx => by
   simp only [pairOk] at h
   split at h
   · rename_i hh
     cases i with
     | zero => exact .inl hh
     | succ i =>
       have := pairOk_spec h i x' (by simpa using hx)
       rwa [show k + 1 + i = k + (i + 1) by omega] at this
   · split at h
     · rename_i h1 h2 h3
       cases i with
       | zero =>
         simp at hx
         subst hx
         exact .inr ⟨h1, h2, h3⟩
       | succ i =>
         have := pairOk_spec h i x' (by simpa using hx)
         rwa [show k + 1 + i = k + (i + 1) by omega] at this
     · cases h
theorem orderGo_spec {ops : List Oper} {arr : Array Oper} {ps : List (List Nat)} : ∀ {r : List Oper} {j : Nat}, orderGo mk ops arr ps j r = true → ∀ i y, r[i]? = some y →
  edgesOk (j + i) y.after.toList = true ∧ pairOk mk arr (predsOf ps (j + i)) y 0 (ops.take (j + i)) = true
 | [], _, _, _, _, h => by simp at h
 | y :: r, j, h, i, y', hy => by
   simp only [orderGo] at h
   split at h
   · rename_i h1 h2
     cases i with
     | zero =>
       simp at hy
       subst hy
       exact ⟨h1, h2⟩
     | succ i =>
       have := orderGo_spec h i y' (by simpa using hy)
       rwa [show j + 1 + i = j + (i + 1) by omega] at this
   · cases h
structure Ordered (mk : Bool) (ops : Array Oper) : Prop where
 edge : ∀ i o, ops[i]? = some o → ∀ e ∈ o.after, Region.binds .any e = true → e.on < i
 pair : ∀ i j x y, i < j → ops[i]? = some x → ops[j]? = some y → i ∈ predsOf (preds ops.toList) j ∨ ((isReader2 mk x.op || isReader2 mk y.op) = true ∧ x.apart ops y = true ∧ y.apart ops x = true)
theorem ordered_of {ops : Array Oper} (h : orderOk mk ops.toList = true) : Ordered mk ops := by
 unfold orderOk at h
 constructor
 · intro i o ho e he hb
   have := (orderGo_spec h i o (by simpa using ho)).1
   rw [Nat.zero_add] at this
   exact edgesOk_spec this e (by simpa using he) hb
 · intro i j x y hij hx hy
   have := (orderGo_spec h j y (by simpa using hy)).2
   rw [Nat.zero_add] at this
   have h2 := pairOk_spec this i x (by rw [List.getElem?_take, if_pos hij]; simpa using hx)
   rw [Nat.zero_add, has_mem] at h2
   simpa using h2
def Shut (ops : Array Oper) (O : Nat → Prop) : Prop := ∀ i o, ops[i]? = some o → O i → ∀ e ∈ o.after, Region.binds .any e = true → O e.on
theorem preds_in {ops : Array Oper} (K : Ordered mk ops) {O : Nat → Prop} (hO : Shut ops O) : ∀ (i : Nat) (o : Oper), ops[i]? = some o → (∀ e ∈ o.after, Region.binds .any e = true → O e.on) → ∀ j, j ∈ predsOf (preds ops.toList) i → O j := by
 intro i
 induction i using Nat.strongRecOn with
 | _ i ih =>
   intro o ho hd j hj
   obtain ⟨acc, h1, h2, h3⟩ := predsGo_new ops.toList [] i o (by simpa using ho)
   simp only [List.length_nil, Nat.zero_add] at h1 h2
   unfold predsOf preds at hj
   rw [h2] at hj
   simp only [Option.getD_some] at hj
   obtain ⟨e, he, hb, hje⟩ := predsRow_mem hj
   have he' : e ∈ o.after := by simpa using he
   have hlt := K.edge i o ho e he' hb
   have hOe := hd e he' hb
   rcases hje with rfl | hje
   · exact hOe
   · have hlen : e.on < ops.size := by
      have := (Array.getElem?_eq_some_iff.1 ho).1
      omega
     obtain ⟨p, hp⟩ : ∃ p, ops[e.on]? = some p := ⟨ops[e.on], Array.getElem?_eq_getElem hlen⟩
     rw [h3 e.on (by omega)] at hje
     exact ih e.on hlt p hp (fun e2 he2 hb2 => hO e.on p hp hOe e2 he2 hb2) j hje
theorem sameV_eq : ∀ (n : Nat) (v u : Value), sameV n v u = true → v = u := by
 intro n
 induction n with
 | zero =>
   intro v u h
   unfold sameV at h
   split at h <;> first
    | (have := eq_of_beq h; subst this; rfl)
    | rfl
    | skip
   · simp only [Bool.and_eq_true, intEq_beq] at h
     have h1 := kindEq_eq h.1
     have h2 := eq_of_beq h.2
     subst h1; subst h2; rfl
   · rw [bytesEq_beq] at h
     have := eq_of_beq h
     rename_i a b
     obtain ⟨a⟩ := a
     obtain ⟨b⟩ := b
     have h2 : a = b := Array.ext' this
     rw [h2]
   · simp only [Bool.and_eq_true] at h
     rename_i a b
     obtain ⟨a1, a2, a3⟩ := a
     obtain ⟨b1, b2, b3⟩ := b
     obtain ⟨⟨⟨h1, h2⟩, h3⟩, h4⟩ := h
     have e1 := nbeq_true h1
     have e2 := nbeq_true h2
     simp only at e1 e2
     subst e1; subst e2
     cases a3 <;> cases b3 <;> simp_all
   · simp only [Bool.and_eq_true] at h
     have e1 := nbeq_true h.1
     have e2 := nbeq_true h.2
     subst e1; subst e2; rfl
   · simp only [Bool.and_eq_true] at h
     rename_i a n c b m d
     obtain ⟨a1, a2, a3⟩ := a
     obtain ⟨b1, b2, b3⟩ := b
     obtain ⟨⟨⟨⟨⟨h1, h2⟩, h3⟩, h4⟩, h5⟩, h6⟩ := h
     have e1 := nbeq_true h1
     have e2 := nbeq_true h2
     have e3 := nbeq_true h5
     have e4 := nbeq_true h6
     simp only at e1 e2
     subst e1; subst e2; subst e3; subst e4
     cases a3 <;> cases b3 <;> simp_all
   · have e1 := nbeq_true h
     subst e1; rfl
   · rename_i e; cases e
   · rename_i e; cases e
   · rename_i e; cases e
   · rename_i e; cases e
   · cases h
 | succ n ih =>
   have all : ∀ {l m : List Value}, l.length = m.length → ((l.zip m).all fun (x, y) => sameV n x y) = true → l = m := by
    intro l
    induction l with
    | nil => intro m hl _; cases m <;> simp at hl; rfl
    | cons x l ihl =>
      intro m hl h
      cases m with
      | nil => simp at hl
      | cons y m =>
        simp only [List.zip_cons_cons, List.all_cons, Bool.and_eq_true] at h
        rw [ih _ _ h.1, ihl (by simpa using hl) h.2]
   intro v u h
   unfold sameV at h
   split at h <;> first
    | (have := eq_of_beq h; subst this; rfl)
    | rfl
    | skip
   · simp only [Bool.and_eq_true, intEq_beq] at h
     have h1 := kindEq_eq h.1
     have h2 := eq_of_beq h.2
     subst h1; subst h2; rfl
   · rw [bytesEq_beq] at h
     have := eq_of_beq h
     rename_i a b
     obtain ⟨a⟩ := a
     obtain ⟨b⟩ := b
     have h2 : a = b := Array.ext' this
     rw [h2]
   · simp only [Bool.and_eq_true] at h
     rename_i a b
     obtain ⟨a1, a2, a3⟩ := a
     obtain ⟨b1, b2, b3⟩ := b
     obtain ⟨⟨⟨h1, h2⟩, h3⟩, h4⟩ := h
     have e1 := nbeq_true h1
     have e2 := nbeq_true h2
     simp only at e1 e2
     subst e1; subst e2
     cases a3 <;> cases b3 <;> simp_all
   · simp only [Bool.and_eq_true] at h
     have e1 := nbeq_true h.1
     have e2 := nbeq_true h.2
     subst e1; subst e2; rfl
   · simp only [Bool.and_eq_true] at h
     rename_i a n c b m d
     obtain ⟨a1, a2, a3⟩ := a
     obtain ⟨b1, b2, b3⟩ := b
     obtain ⟨⟨⟨⟨⟨h1, h2⟩, h3⟩, h4⟩, h5⟩, h6⟩ := h
     have e1 := nbeq_true h1
     have e2 := nbeq_true h2
     have e3 := nbeq_true h5
     have e4 := nbeq_true h6
     simp only at e1 e2
     subst e1; subst e2; subst e3; subst e4
     cases a3 <;> cases b3 <;> simp_all
   · have e1 := nbeq_true h
     subst e1; rfl
   · rename_i e
     injection e with e
     subst e
     simp only [Bool.and_eq_true] at h
     obtain ⟨⟨⟨⟨h1, h2⟩, h3⟩, h4⟩, h5⟩ := h
     have e1 := nbeq_true h1
     subst e1
     have e2 := all (nbeq_true h2) h4
     have e3 := all (nbeq_true h3) h5
     rw [Array.ext' e2, Array.ext' e3]
   · rename_i e
     injection e with e
     subst e
     simp only [Bool.and_eq_true] at h
     have e1 := nbeq_true h.1
     subst e1
     rw [ih _ _ h.2]
   · rename_i e
     injection e with e
     subst e
     simp only [Bool.and_eq_true] at h
     rw [Array.ext' (all (nbeq_true h.1) h.2)]
   · rename_i e
     injection e with e
     subst e
     simp only [Bool.and_eq_true] at h
     rw [Array.ext' (all (nbeq_true h.1) h.2)]
   · cases h
theorem evList_congr {a b : A} : ∀ {xs : List Operand}, (∀ x ∈ xs, a.ev x = b.ev x) → evList a xs = evList b xs
 | [], _ => rfl
 | x :: xs, h => by
   have h2 : evList a xs = evList b xs := evList_congr fun y hy => h y (List.mem_cons_of_mem _ hy)
   simp only [evList, h x (by simp), h2]
theorem evPairs_congr {a b : A} : ∀ {xs : List (Nat × Operand)}, (∀ x ∈ xs, a.ev x.2 = b.ev x.2) → evPairs a xs = evPairs b xs
 | [], _ => rfl
 | (i, x) :: xs, h => by
   have h2 : evPairs a xs = evPairs b xs := evPairs_congr fun y hy => h y (List.mem_cons_of_mem _ hy)
   have h3 : a.ev x = b.ev x := h (i, x) (by simp)
   simp only [evPairs, h3, h2]
theorem oper_congr {a b : A} {C : Caller} {op : Op} (hab : ∀ x ∈ op.operands, a.ev x = b.ev x) :
  reader' P h a op = reader' P h b op ∧ oper' P C h a op = oper' P C h b op ∧ maker' P a op = maker' P b op := by
 have key : reader' P h a op = reader' P h b op ∧ writer' P h a op = writer' P h b op ∧ callee' a op = callee' b op ∧ maker' P a op = maker' P b op := by
  cases op <;> simp only [Op.operands] at hab
  case build t ps =>
   have : evPairs a ps.toList = evPairs b ps.toList := evPairs_congr fun x hx => hab x.2 (by
    simp only [List.mem_toArray, List.mem_map]
    exact ⟨x, hx, rfl⟩)
   exact ⟨by simp only [reader', this], rfl, rfl, rfl⟩
  case buildSlice t n ps =>
   have : evPairs a ps.toList = evPairs b ps.toList := evPairs_congr fun x hx => hab x.2 (by
    simp only [List.mem_toArray, List.mem_map]
    exact ⟨x, hx, rfl⟩)
   exact ⟨rfl, by simp only [writer', maker', this], rfl, by simp only [maker', this]⟩
  case makeFunc fn first captured =>
   have h1 : evList a first.toList = evList b first.toList := evList_congr fun x hx => hab x (by simp at hx ⊢; exact .inl hx)
   have h2 : evList a captured.toList = evList b captured.toList := evList_congr fun x hx => hab x (by simp at hx ⊢; exact .inr hx)
   exact ⟨by simp only [reader', h1, h2], rfl, rfl, rfl⟩
  case makeMap t r =>
   cases r with
   | none => exact ⟨rfl, rfl, rfl, rfl⟩
   | some x => exact ⟨rfl, by simp only [writer', maker', hab x (by simp)], rfl, by simp only [maker', hab x (by simp)]⟩
  case slice t x lo hi mx =>
   have h0 := hab x (by simp)
   have hl : ∀ y, lo = some y → a.ev y = b.ev y := fun y hy => hab y (by subst hy; simp)
   have hh : ∀ y, hi = some y → a.ev y = b.ev y := fun y hy => hab y (by subst hy; simp)
   have hm : ∀ y, mx = some y → a.ev y = b.ev y := fun y hy => hab y (by subst hy; simp)
   have hlist : evList a (lo.toList ++ hi.toList ++ mx.toList) = evList b (lo.toList ++ hi.toList ++ mx.toList) := evList_congr fun y hy => by
    simp at hy
    rcases hy with hy | hy | hy
    · exact hl y hy
    · exact hh y hy
    · exact hm y hy
   have bl : lo.bind a.ev = lo.bind b.ev := by cases lo with
    | none => rfl
    | some y => exact hl y rfl
   have bh : hi.bind a.ev = hi.bind b.ev := by cases hi with
    | none => rfl
    | some y => exact hh y rfl
   have bm : mx.bind a.ev = mx.bind b.ev := by cases mx with
    | none => rfl
    | some y => exact hm y rfl
   exact ⟨by simp only [reader', h0, hlist, bl, bh, bm], rfl, rfl, rfl⟩
  case call c =>
   obtain ⟨cal, args, ats⟩ := c
   have hargs : evList a args.toList = evList b args.toList := evList_congr fun x hx => hab x (by simp [Call.operands]; right; simpa using hx)
   cases cal with
   | value f =>
     have hf := hab f (by simp [Call.operands])
     exact ⟨rfl, rfl, by simp only [callee', hf, hargs], rfl⟩
   | invoke r m => exact ⟨rfl, rfl, rfl, rfl⟩
   | builtin bb =>
     refine ⟨?_, by simp only [writer', hargs], rfl, rfl⟩
     cases bb <;> first | rfl | simp only [reader', hargs]
  all_goals
   refine ⟨?_, ?_, rfl, ?_⟩ <;> first
    | rfl
    | (simp only [reader']; done)
    | (simp only [writer']; done)
    | (simp_all [reader']; done)
    | (simp_all [writer', maker']; done)
    | (simp_all [maker']; done)
 refine ⟨key.1, ?_, key.2.2.2⟩
 unfold oper'
 rw [key.1, key.2.1, key.2.2.1]
end Go.Ev
end
section
namespace Go.Ev
open Go.RowKit
variable {P : Program} {ρ : Rho} {N : Bs} {h : Hp} {w : World} {a : A} {act : Act} {C : Caller} {mk : Bool} {base g : Nat}
theorem A.get_put {a b : A} {d : Option Nat} {v : Value} (hn : True) (h : a.put d v = some b) : b.n = a.n ∧ ∀ t, b.get t = if d = some t then v else a.get t := by
 cases d with
 | none => simp only [A.put, Option.some.injEq] at h; subst h; simp
 | some d =>
   simp only [A.put] at h
   split at h
   · rename_i hlt
     injection h with h
     subst h
     have hlt' : d < a.n := by simpa [Nat.blt_eq] using hlt
     refine ⟨rfl, fun t => ?_⟩
     simp only [A.get]
     rw [Tr.get_put _ _ _ _]
     by_cases e : t = d
     · subst e; simp
     · have : ¬ d = t := fun h => e h.symm
       simp [e, this]
   · cases h
theorem A.put_same {a b a1 : A} {d : Option Nat} {v : Value} (hn : b.n = a.n) (h : a.put d v = some a1) : ∃ b1, b.put d v = some b1 := by
 cases d with
 | none => exact ⟨b, rfl⟩
 | some d =>
   simp only [A.put] at h ⊢
   rw [hn]
   split at h
   · rename_i hlt
     exact ⟨_, rfl⟩
   · cases h
structure Turned (P : Program) (C : Caller) (mk : Bool) (g : Nat) (ops : List Oper) (o : Oper) (a : A) (h : Hp) (a1 : A) (h1 : Hp) (v : Value) : Prop where
 put : a.put o.dst v = some a1
 val : (wanted' ops a o = true ∧ oper2' P C mk g h a o.op = some (v, h1)) ∨ (wanted' ops a o = false ∧ v = undef' ∧ h1 = h)
theorem turned {ops : List Oper} {o : Oper} {a1 : A} {h1 : Hp} (h0 : step2' P C mk ops g o a h = some (a1, h1)) : ∃ v, Turned P C mk g ops o a h a1 h1 v := by
 unfold step2' at h0
 split at h0
 · rename_i hw
   split at h0
   · rename_i v h2 hv
     split at h0
     · rename_i a2 ha
       injection h0 with h0
       injection h0 with e1 e2
       subst e1; subst e2
       exact ⟨v, ha, .inl ⟨hw, hv⟩⟩
     · cases h0
   · cases h0
 · rename_i hw
   split at h0
   · rename_i a2 ha
     injection h0 with h0
     injection h0 with e1 e2
     subst e1; subst e2
     exact ⟨undef', ha, .inr ⟨hw, rfl, rfl⟩⟩
   · cases h0
theorem Turned.step {ops : List Oper} {o : Oper} {a1 : A} {h1 : Hp} {v : Value} (t : Turned P C mk g ops o a h a1 h1 v) : step2' P C mk ops g o a h = some (a1, h1) := by
 unfold step2'
 rcases t.val with ⟨hw, hv⟩ | ⟨hw, rfl, rfl⟩
 · rw [hw, hv]
   simp only [t.put]
 · rw [hw]
   simp only [t.put]
theorem oper_reader {op : Op} {v : Value} {h1 : Hp} (hr : isReader2 mk op = true) (h0 : oper2' P C mk g h a op = some (v, h1)) : reader2' P g h a op = some v ∧ h1 = h := by
 unfold oper2' at h0
 rw [hr] at h0
 simp only [withH] at h0
 split at h0
 · injection h0 with h0
   injection h0 with e1 e2
   subst e1; subst e2
   exact ⟨by assumption, rfl⟩
 · cases h0
theorem Turned.heap {ops : List Oper} {o : Oper} {a1 : A} {h1 : Hp} {v : Value} (t : Turned P C mk g ops o a h a1 h1 v) (hr : isReader2 mk o.op = true) : h1 = h := by
 rcases t.val with ⟨_, hv⟩ | ⟨_, _, e⟩
 · exact (oper_reader hr hv).2
 · exact e
theorem wanted_congr {ops : Array Oper} {o : Oper} {a b : A} (h : ∀ t ∈ o.looksAt ops, b.get t = a.get t) : wanted' ops.toList b o = wanted' ops.toList a o := by
 unfold wanted'
 split
 · rfl
 · rename_i j want hg
   split
   · rfl
   · rename_i p hp
     split
     · rfl
     · rename_i d hd
       rw [h d]
       unfold Oper.looksAt
       rw [List.mem_append]
       refine .inr ?_
       have hp' : ops[j]? = some p := by simpa using hp
       simp [hg, hp', hd]
theorem ev_congr {ops : Array Oper} {o : Oper} {a b : A} (h : ∀ t ∈ o.looksAt ops, b.get t = a.get t) : ∀ x ∈ o.op.operands, b.ev x = a.ev x := by
 intro x hx
 cases x with
 | tmp t =>
   simp only [A.ev]
   rw [h t]
   unfold Oper.looksAt
   rw [List.mem_append]
   refine .inl ?_
   rw [List.mem_filterMap]
   exact ⟨.tmp t, by simpa using hx, rfl⟩
 | const v => rfl
 | global g => rfl
 | func f => rfl
theorem oper2_congr {a b : A} {C : Caller} {op : Op} (hab : ∀ x ∈ op.operands, a.ev x = b.ev x) :
  reader2' P g h a op = reader2' P g h b op ∧ oper2' P C mk g h a op = oper2' P C mk g h b op := by
 have k := oper_congr (P := P) (h := h) (C := C) hab
 have kr : reader2' P g h a op = reader2' P g h b op := by
  unfold reader2'
  rw [k.1, k.2.2]
 refine ⟨kr, ?_⟩
 unfold oper2'
 rw [kr, k.2.1]
theorem check_spec {ops : List Oper} {ps : List (List Nat)} {gs : List (Nat × Hp)} : ∀ (r : List Oper) (i : Nat) (a : A) (h : Hp) (a1 : A) (h1 : Hp), check P C mk base ops ps gs i r a h = some (a1, h1) →
  ∃ st : Nat → A × Hp, st 0 = (a, h) ∧ st r.length = (a1, h1) ∧ ∀ k o, r[k]? = some o → step2' P C mk ops (base + (i + k)) o (st k).1 (st k).2 = some (st (k + 1)) ∧
   (isReader2 mk o.op = true → wanted' ops (st k).1 o = true → ∃ v, reader2' P (base + (i + k)) (st k).2 (st k).1 o.op = some v ∧ stable P (base + (i + k)) (st k).1 o.op v (i + k) ps gs = true)
 | [], i, a, h, a1, h1, hc => by
   simp only [check, Option.some.injEq, Prod.mk.injEq] at hc
   obtain ⟨rfl, rfl⟩ := hc
   exact ⟨fun _ => (a, h), rfl, rfl, fun k o ho => by simp at ho⟩
 | o :: r, i, a, h, a1, h1, hc => by
   simp only [check] at hc
   split at hc
   · cases hc
   · rename_i a2 h2 hs
     have step : ∀ (hrest : check P C mk base ops ps gs (i + 1) r a2 h2 = some (a1, h1)) (hst : isReader2 mk o.op = true → wanted' ops a o = true → ∃ v, reader2' P (base + i) h a o.op = some v ∧ stable P (base + i) a o.op v i ps gs = true),
       ∃ st : Nat → A × Hp, st 0 = (a, h) ∧ st (o :: r).length = (a1, h1) ∧ ∀ k o', (o :: r)[k]? = some o' → step2' P C mk ops (base + (i + k)) o' (st k).1 (st k).2 = some (st (k + 1)) ∧
        (isReader2 mk o'.op = true → wanted' ops (st k).1 o' = true → ∃ v, reader2' P (base + (i + k)) (st k).2 (st k).1 o'.op = some v ∧ stable P (base + (i + k)) (st k).1 o'.op v (i + k) ps gs = true) := by
      intro hrest hst
      obtain ⟨st, s0, s1, s2⟩ := check_spec r (i + 1) a2 h2 a1 h1 hrest
      refine ⟨fun k => match k with | 0 => (a, h) | k + 1 => st k, rfl, s1, ?_⟩
      intro k o' ho'
      cases k with
      | zero =>
        simp at ho'
        subst ho'
        refine ⟨by simpa [s0] using hs, hst⟩
      | succ k =>
        simp at ho'
        have := s2 k o' ho'
        rw [show i + 1 + k = i + (k + 1) by omega] at this
        exact this
     split at hc
     · rename_i hr hw
       split at hc
       · rename_i v hv
         split at hc
         · rename_i hst
           exact step hc fun _ _ => ⟨v, hv, hst⟩
         · cases hc
       · cases hc
     · rename_i hne
       exact step hc fun e1 e2 => absurd e2 (by
        intro e2
        exact hne e1 e2)
theorem heaps_spec {ops : List Oper} : ∀ (r : List Oper) (i : Nat) (st : Nat → A × Hp) (gs : List (Nat × Hp)),
  (∀ k o, r[k]? = some o → step2' P C mk ops (base + (i + k)) o (st k).1 (st k).2 = some (st (k + 1))) → heaps P C mk base ops i r (st 0).1 (st 0).2 = some gs →
  ∀ m, m ≤ r.length → (m = r.length ∨ ∃ o, r[m]? = some o ∧ isReader2 mk o.op = false) →
   ∃ l1 l2, gs = l1 ++ (i + m, (st m).2) :: l2 ∧ ∀ e ∈ l1, ∃ j o, e.1 = i + j ∧ j < m ∧ r[j]? = some o ∧ isReader2 mk o.op = false
 | [], i, st, gs, hst, hh, m, hm, _ => by
   simp only [heaps, Option.some.injEq] at hh
   simp at hm
   subst hm
   exact ⟨[], [], by simp [← hh], by simp⟩
 | o :: r, i, st, gs, hst, hh, m, hm, hk => by
   simp only [heaps] at hh
   have h0 := hst 0 o (by simp)
   rw [Nat.add_zero] at h0
   rw [h0] at hh
   simp only at hh
   split at hh
   · rename_i l hl
     have rec' := heaps_spec r (i + 1) (fun k => st (k + 1)) l (fun k o' ho' => by
      have := hst (k + 1) o' (by simpa using ho')
      rwa [show i + (k + 1) = i + 1 + k by omega] at this) hl
     cases m with
     | zero =>
       rcases hk with hk | ⟨o', ho', hr⟩
       · simp at hk
       · simp at ho'
         subst ho'
         rw [hr] at hh
         simp only [Option.some.injEq] at hh
         exact ⟨[], l, by simp [← hh], by simp⟩
     | succ m =>
       obtain ⟨l1, l2, e1, e2⟩ := rec' m (by simpa using hm) (by simpa using hk)
       rw [show i + 1 + m = i + (m + 1) by omega] at e1
       have lift : ∀ e ∈ l1, ∃ j o', e.1 = i + j ∧ j < m + 1 ∧ (o :: r)[j]? = some o' ∧ isReader2 mk o'.op = false := by
        intro e he
        obtain ⟨j, o', f1, f2, f3, f4⟩ := e2 e he
        exact ⟨j + 1, o', by omega, by omega, by simpa using f3, f4⟩
       split at hh
       · injection hh with hh
         subst hh
         exact ⟨l1, l2, e1, lift⟩
       · rename_i hr
         injection hh with hh
         subst hh
         refine ⟨(i, (st 0).2) :: l1, l2, by simp [e1], ?_⟩
         intro e he
         rcases List.mem_cons.1 he with rfl | he
         · exact ⟨0, o, rfl, by omega, by simp, hr⟩
         · exact lift e he
   · cases hh
theorem stable_spec {op : Op} {v : Value} {i : Nat} {ps : List (List Nat)} : ∀ {gs l1 : List (Nat × Hp)} {m : Nat} {hm : Hp} {l2 : List (Nat × Hp)}, stable P g a op v i ps gs = true → gs = l1 ++ (m, hm) :: l2 →
  (∀ e ∈ l1, i ∉ predsOf ps e.1) → m ∉ predsOf ps i → reader2' P g hm a op = some v := by
 intro gs l1
 induction l1 generalizing gs with
 | nil =>
   intro m hm l2 hs hg _ hp
   subst hg
   simp only [List.nil_append, stable] at hs
   split at hs
   · rename_i hh
     exact absurd (has_mem.1 hh) hp
   · split at hs
     · rename_i u hu
       split at hs
       · rename_i hv
         rw [hu, sameV_eq _ _ _ hv]
       · cases hs
     · cases hs
 | cons e l1 ih =>
   intro m hm l2 hs hg hl hp
   subst hg
   obtain ⟨e, he⟩ := e
   simp only [List.cons_append, stable] at hs
   split at hs
   · exact ih hs rfl (fun e he => hl e (List.mem_cons_of_mem _ he)) hp
   · split at hs
     · split at hs
       · split at hs
         · rename_i hh
           exact absurd (has_mem.1 hh) (hl (e, he) (by simp))
         · exact ih hs rfl (fun e he => hl e (List.mem_cons_of_mem _ he)) hp
       · cases hs
     · cases hs
def cnt (f : Nat → Bool) : Nat → Nat
 | 0 => 0
 | n + 1 => cnt f n + (if f n = true then 1 else 0)
theorem cnt_le (f : Nat → Bool) : ∀ n, cnt f n ≤ n
 | 0 => Nat.le_refl 0
 | n + 1 => by
   have := cnt_le f n
   simp only [cnt]
   split <;> omega
theorem cnt_all {f : Nat → Bool} : ∀ {n : Nat}, cnt f n = n → ∀ i, i < n → f i = true
 | 0, _, i, hi => by omega
 | n + 1, h, i, hi => by
   have := cnt_le f n
   simp only [cnt] at h
   split at h
   · rename_i hn
     by_cases e : i = n
     · subst e; exact hn
     · exact cnt_all (n := n) (by omega) i (by omega)
   · omega
theorem cnt_same {f g : Nat → Bool} : ∀ {n : Nat}, (∀ j, j < n → g j = f j) → cnt g n = cnt f n
 | 0, _ => rfl
 | n + 1, h => by simp only [cnt, h n (by omega), cnt_same (fun j hj => h j (Nat.lt_succ_of_lt hj))]
theorem cnt_set {f g : Nat → Bool} {i : Nat} (h0 : f i = false) (h1 : g i = true) (h2 : ∀ j, j ≠ i → g j = f j) : ∀ {n : Nat}, i < n → cnt g n = cnt f n + 1
 | 0, h => by omega
 | n + 1, h => by
   simp only [cnt]
   by_cases e : i = n
   · subst e
     rw [h0, h1, cnt_same (fun j hj => h2 j (by omega))]
     simp
   · rw [h2 n (fun h => e h.symm), cnt_set h0 h1 h2 (by omega)]
     omega
structure Course (P : Program) (C : Caller) (mk : Bool) (base : Nat) (ops : Array Oper) (st : Nat → A × Hp) (gs : List (Nat × Hp)) : Prop where
 ordered : Ordered mk ops
 go : ∀ k o, ops[k]? = some o → step2' P C mk ops.toList (base + k) o (st k).1 (st k).2 = some (st (k + 1)) ∧
  (isReader2 mk o.op = true → wanted' ops.toList (st k).1 o = true → ∃ v, reader2' P (base + k) (st k).2 (st k).1 o.op = some v ∧ stable P (base + k) (st k).1 o.op v k (preds ops.toList) gs = true)
 heaps : ∀ m, m ≤ ops.size → (m = ops.size ∨ ∃ o, ops[m]? = some o ∧ isReader2 mk o.op = false) →
  ∃ l1 l2, gs = l1 ++ (m, (st m).2) :: l2 ∧ ∀ e ∈ l1, ∃ o, e.1 < m ∧ ops[e.1]? = some o ∧ isReader2 mk o.op = false
 small : True
theorem course_of {ops : Array Oper} {a1 : A} {h1 : Hp} (hn : True) (hord : orderOk mk ops.toList = true) (h0 : drawn P C mk base ops.toList a h = some (a1, h1)) :
  ∃ st gs, Course P C mk base ops st gs ∧ st 0 = (a, h) ∧ st ops.size = (a1, h1) := by
 unfold drawn at h0
 split at h0
 · rename_i gs hgs
   obtain ⟨st, s0, s1, s2⟩ := check_spec _ _ _ _ _ _ h0
   refine ⟨st, gs, ⟨ordered_of hord, ?_, ?_, trivial⟩, s0, by simpa using s1⟩
   · intro k o ho
     have := s2 k o (by simpa using ho)
     rwa [Nat.zero_add] at this
   · intro m hm hk
     obtain ⟨l1, l2, e1, e2⟩ := heaps_spec ops.toList 0 st gs (fun k o ho => (s2 k o ho).1) (by rw [s0]; exact hgs) m (by simpa using hm) (by simpa using hk)
     rw [Nat.zero_add] at e1
     refine ⟨l1, l2, e1, fun e he => ?_⟩
     obtain ⟨j, o, f1, f2, f3, f4⟩ := e2 e he
     rw [Nat.zero_add] at f1
     subst f1
     exact ⟨o, f2, by simpa using f3, f4⟩
 · cases h0
namespace Course
variable {ops : Array Oper} {st : Nat → A × Hp} {gs : List (Nat × Hp)}
theorem n_same (c : Course P C mk base ops st gs) : ∀ k, k ≤ ops.size → (st k).1.n = (st 0).1.n
 | 0, _ => rfl
 | k + 1, hk => by
   have ih := n_same c k (by omega)
   obtain ⟨o, ho⟩ : ∃ o, ops[k]? = some o := ⟨ops[k], Array.getElem?_eq_getElem (by omega)⟩
   obtain ⟨v, t⟩ := turned (c.go k o ho).1
   have := c.small
   rw [(A.get_put (by omega) t.put).1, ih]
theorem get_same (c : Course P C mk base ops st gs) {t : Nat} {k : Nat} : ∀ d, k + d ≤ ops.size → (∀ j o, k ≤ j → j < k + d → ops[j]? = some o → o.dst ≠ some t) → (st (k + d)).1.get t = (st k).1.get t
 | 0, _, _ => rfl
 | d + 1, hd, hno => by
   have ih := get_same c (t := t) (k := k) d (by omega) (fun j o h1 h2 => hno j o h1 (by omega))
   obtain ⟨o, ho⟩ : ∃ o, ops[k + d]? = some o := ⟨ops[k + d], Array.getElem?_eq_getElem (by omega)⟩
   obtain ⟨v, tt⟩ := turned (c.go (k + d) o ho).1
   have := c.small
   have hns := c.n_same (k + d) (by omega)
   have e := (A.get_put (by omega) tt.put).2 t
   rw [if_neg (hno _ o (by omega) (by omega) ho)] at e
   rw [← ih, ← e]
   rfl
theorem heap_same (c : Course P C mk base ops st gs) {k : Nat} : ∀ d, k + d ≤ ops.size → (∀ j o, k ≤ j → j < k + d → ops[j]? = some o → isReader2 mk o.op = true) → (st (k + d)).2 = (st k).2
 | 0, _, _ => rfl
 | d + 1, hd, hno => by
   have ih := heap_same c (k := k) d (by omega) (fun j o h1 h2 => hno j o h1 (by omega))
   obtain ⟨o, ho⟩ : ∃ o, ops[k + d]? = some o := ⟨ops[k + d], Array.getElem?_eq_getElem (by omega)⟩
   obtain ⟨v, tt⟩ := turned (c.go (k + d) o ho).1
   have e := tt.heap (hno _ o (by omega) (by omega) ho)
   rw [← ih, ← e]
   rfl
theorem next_effect (_c : Course P C mk base ops st gs) {k : Nat} : ∀ d, k + d = ops.size → ∃ m, k ≤ m ∧ m ≤ ops.size ∧ (m = ops.size ∨ ∃ o, ops[m]? = some o ∧ isReader2 mk o.op = false) ∧
  ∀ j o, k ≤ j → j < m → ops[j]? = some o → isReader2 mk o.op = true
 | 0, hd => ⟨k, Nat.le_refl k, by omega, .inl (by omega), fun j o h1 h2 => by omega⟩
 | d + 1, hd => by
   obtain ⟨o, ho⟩ : ∃ o, ops[k]? = some o := ⟨ops[k], Array.getElem?_eq_getElem (by omega)⟩
   cases hr : isReader2 mk o.op with
   | false => exact ⟨k, Nat.le_refl k, by omega, .inr ⟨o, ho, hr⟩, fun j o h1 h2 => by omega⟩
   | true =>
     obtain ⟨m, m1, m2, m3, m4⟩ := next_effect _c (k := k + 1) d (by omega)
     refine ⟨m, by omega, m2, m3, fun j o' h1 h2 h3 => ?_⟩
     by_cases e : j = k
     · subst e
       rw [ho] at h3
       injection h3 with h3
       subst h3
       exact hr
     · exact m4 j o' (by omega) h2 h3
end Course
structure Stands (mk : Bool) (ops : Array Oper) (st : Nat → A × Hp) (O : Nat → Prop) (b : A) (hp : Hp) : Prop where
 shut : Shut ops O
 inside : ∀ i, O i → i < ops.size
 n : b.n = (st 0).1.n
 get : ∀ t k, k ≤ ops.size → (∀ j o, ops[j]? = some o → o.dst = some t → (j < k ↔ O j)) → b.get t = (st k).1.get t
 heap : ∃ k, k ≤ ops.size ∧ (∀ j o, ops[j]? = some o → isReader2 mk o.op = false → (j < k ↔ O j)) ∧ hp = (st k).2
theorem stands_ready {ops : Array Oper} {st : Nat → A × Hp} {gs : List (Nat × Hp)} (c : Course P C mk base ops st gs) {O O' : Nat → Prop} {b : A} {hp : Hp} (S : Stands mk ops st O b hp) {i : Nat} {o : Oper}
  (ho : ops[i]? = some o) (hi : ¬ O i) (hd : ∀ e ∈ o.after, Region.binds .any e = true → O e.on) (hO : ∀ j, O' j ↔ (j = i ∨ O j)) :
  ∃ b' hp', step2' P C mk ops.toList (base + i) o b hp = some (b', hp') ∧ Stands mk ops st O' b' hp' := by
 have hlt : i < ops.size := (Array.getElem?_eq_some_iff.1 ho).1
 have hpre := preds_in c.ordered S.shut i o ho hd
 have hanti : ∀ j p, ops[j]? = some p → O j → i ∉ predsOf (preds ops.toList) j := by
  intro j p hp hj hc
  exact hi (preds_in c.ordered S.shut j p hp (fun e he hb => S.shut j p hp hj e he hb) i hc)
 have before : ∀ j p, ops[j]? = some p → (∃ d, p.dst = some d ∧ (d ∈ o.looksAt ops ∨ o.dst = some d)) → j ≠ i → (j < i ↔ O j) := by
  intro j p hp ⟨d, hpd, hdd⟩ hne
  constructor
  · intro hji
    rcases c.ordered.pair j i p o hji hp ho with h1 | ⟨_, h1, h2⟩
    · exact hpre j h1
    · have s := Oper.apart_spec h1
      rcases hdd with h3 | h3
      · exact absurd h3 (s.1 d hpd)
      · exact absurd h3 (s.2.1 d hpd)
  · intro hj
    rcases Nat.lt_or_ge j i with h0 | h0
    · exact h0
    · exfalso
      rcases c.ordered.pair i j o p (by omega) ho hp with h1 | ⟨_, h1, h2⟩
      · exact hanti j p hp hj h1
      · have s := Oper.apart_spec h2
        rcases hdd with h3 | h3
        · exact s.1 d hpd h3
        · exact s.2.1 d hpd h3
 have looks : ∀ t ∈ o.looksAt ops, b.get t = (st i).1.get t := by
  intro t ht
  refine S.get t i (by omega) (fun j p hp hpd => ?_)
  by_cases e : j = i
  · subst e
    simp [hi]
  · exact before j p hp ⟨t, hpd, .inl ht⟩ e
 obtain ⟨hstep, hstab⟩ := c.go i o ho
 obtain ⟨v, T⟩ := turned hstep
 have hsmall := c.small
 have hni := c.n_same i (by omega)
 obtain ⟨b', hb'⟩ := A.put_same (b := b) (by rw [S.n, hni]) T.put
 have hbn := A.get_put trivial hb'
 have hw : wanted' ops.toList b o = wanted' ops.toList (st i).1 o := wanted_congr looks
 have hev := oper2_congr (P := P) (h := (st i).2) (C := C) (mk := mk) (g := base + i) (ev_congr looks)
 have frame : ∀ t k, k ≤ ops.size → (∀ j p, ops[j]? = some p → p.dst = some t → (j < k ↔ O' j)) → b'.get t = (st k).1.get t := by
  intro t k hk hall
  rw [hbn.2 t]
  by_cases e : o.dst = some t
  · rw [if_pos e]
    have hik : i < k := (hall i o ho e).2 ((hO i).2 (.inl rfl))
    have h1 : (st (i + 1)).1.get t = v := by
     rw [(A.get_put (by omega) T.put).2 t, if_pos e]
    have h2 := c.get_same (t := t) (k := i + 1) (k - (i + 1)) (by omega) (fun j p hj1 hj2 hp hpd => by
     have h3 : O' j := (hall j p hp hpd).1 (by omega)
     have h4 : O j := by
      rcases (hO j).1 h3 with h5 | h5
      · omega
      · exact h5
     have := (before j p hp ⟨t, hpd, .inr e⟩ (by omega)).2 h4
     omega)
    rw [show i + 1 + (k - (i + 1)) = k by omega] at h2
    rw [h2, h1]
  · rw [if_neg e]
    refine S.get t k hk (fun j p hp hpd => ?_)
    have hji : j ≠ i := by
     intro h0
     subst h0
     rw [ho] at hp
     injection hp with hp
     subst hp
     exact e hpd
    rw [hall j p hp hpd, hO]
    simp [hji]
 have shut' : Shut ops O' := by
  intro j p hp hj e he hb
  rw [hO]
  rcases (hO j).1 hj with h1 | h1
  · subst h1
    rw [ho] at hp
    injection hp with hp
    subst hp
    exact .inr (hd e he hb)
  · exact .inr (S.shut j p hp h1 e he hb)
 have inside' : ∀ j, O' j → j < ops.size := by
  intro j hj
  rcases (hO j).1 hj with h1 | h1
  · omega
  · exact S.inside j h1
 obtain ⟨k, hk, heff, hhp⟩ := S.heap
 cases hr : isReader2 mk o.op with
 | true =>
   refine ⟨b', hp, ?_, shut', inside', by rw [hbn.1, S.n], frame, k, hk, ?_, hhp⟩
   · refine Turned.step (v := v) ⟨hb', ?_⟩
     rw [hw]
     rcases T.val with ⟨h1, h2⟩ | ⟨h1, h2, h3⟩
     · refine .inl ⟨h1, ?_⟩
       obtain ⟨u, hu, hst⟩ := hstab hr h1
       have hv := (oper_reader hr h2).1
       rw [hu] at hv
       injection hv with hv
       subst hv
       obtain ⟨m, m1, m2, m3, m4⟩ := c.next_effect (k := k) (ops.size - k) (by omega)
       have hsame := c.heap_same (k := k) (m - k) (by omega) (fun j p hj1 hj2 hp => m4 j p hj1 (by omega) hp)
       rw [show k + (m - k) = m by omega] at hsame
       obtain ⟨l1, l2, e1, e2⟩ := c.heaps m m2 m3
       have hm := stable_spec hst e1 (fun e he => by
         obtain ⟨p, f1, f2, f3⟩ := e2 e he
         have : e.1 < k := by
          rcases Nat.lt_or_ge e.1 k with h0 | h0
          · exact h0
          · have := m4 e.1 p h0 f1 f2
            rw [f3] at this
            cases this
         exact hanti e.1 p f2 ((heff e.1 p f2 f3).1 this))
        (fun hc => by
         have h5 := hpre m hc
         rcases m3 with rfl | ⟨p, hp, hpr⟩
         · exact absurd (S.inside _ h5) (by omega)
         · have := (heff m p hp hpr).2 h5
           omega)
       rw [hhp, ← hsame]
       have hcr := (oper2_congr (P := P) (h := (st m).2) (C := C) (mk := mk) (g := base + i) (ev_congr looks)).1
       unfold oper2'
       rw [hr]
       simp only
       rw [hcr, hm]
       rfl
     · exact .inr ⟨h1, h2, rfl⟩
   · intro j p hp hpr
     rw [heff j p hp hpr, hO]
     constructor
     · exact .inr
     · rintro (h1 | h1)
       · subst h1
         rw [ho] at hp
         injection hp with hp
         subst hp
         rw [hr] at hpr
         cases hpr
       · exact h1
 | false =>
   have hge : k ≤ i := by
    rcases Nat.lt_or_ge i k with h0 | h0
    · exact absurd ((heff i o ho hr).1 h0) hi
    · exact h0
   have hprev : ∀ j p, ops[j]? = some p → isReader2 mk p.op = false → j < i → O j := by
    intro j p hp hpr hji
    rcases c.ordered.pair j i p o hji hp ho with h1 | ⟨h1, _⟩
    · exact hpre j h1
    · rw [hpr, hr] at h1
      cases h1
   have hsame := c.heap_same (k := k) (i - k) (by omega) (fun j p hj1 hj2 hp => by
    cases hpr : isReader2 mk p.op with
    | true => rfl
    | false =>
      have := (heff j p hp hpr).2 (hprev j p hp hpr (by omega))
      omega)
   rw [show k + (i - k) = i by omega] at hsame
   have hhi : hp = (st i).2 := by rw [hhp, hsame]
   refine ⟨b', (st (i + 1)).2, ?_, shut', inside', by rw [hbn.1, S.n], frame, i + 1, by omega, ?_, rfl⟩
   · refine Turned.step (v := v) ⟨hb', ?_⟩
     rw [hw, hhi, hev.2]
     exact T.val
   · intro j p hp hpr
     rw [hO]
     constructor
     · intro h1
       by_cases e : j = i
       · exact .inl e
       · exact .inr (hprev j p hp hpr (by omega))
     · rintro (h1 | h1)
       · omega
       · have := (heff j p hp hpr).2 h1
         omega
def Wait (N : Bs) (mk : Bool) (base : Nat) (ops : Array Oper) (listed : Array Bool) (b : Nat) : Prop :=
 N.g b ∨ (mk = true ∧ ∃ i o, b = base + i ∧ ops[i]? = some o ∧ isMaker o.op = true ∧ listed.getD i false = false)
theorem step2_plain {ops : List Oper} {o : Oper} (ho : isReader o.op = true ∨ isReader2 mk o.op = false) : step2' P C mk ops g o a h = step' P C ops o a h := by
 have : oper2' P C mk g h a o.op = oper' P C h a o.op := by
  unfold oper2' oper'
  rcases ho with h1 | h1
  · have h2 : isReader2 mk o.op = true := by unfold isReader2; rw [h1]
    rw [h2, h1]
    simp only
    unfold reader2'
    rw [h1]
  · rw [h1]
 unfold step2' step'
 rw [this]
theorem laidAs_eq {o o' : CObj} (h : laidAs o o' = true) : o = o' := by
 have vs : ∀ {l m : List Value}, sameVs l m = true → l = m := by
  intro l
  induction l with
  | nil => intro m h; cases m <;> simp [sameVs] at h; rfl
  | cons x l ih =>
    intro m h
    cases m with
    | nil => simp [sameVs] at h
    | cons y m =>
      simp only [sameVs] at h
      split at h
      · rename_i hx
        rw [sameV_eq _ _ _ hx, ih h]
      · cases h
 unfold laidAs at h
 split at h
 · split at h
   · rename_i he
     have := nbeq_true he
     subst this
     rw [vs h]
   · cases h
 · rfl
 · cases h
theorem ghost_wp (W : WfP P) {n : Nat} {G G' : Nat → Prop} (H : HR P ρ ⟨n, G⟩ h w) (A : ActR ρ a act) {ops : Array Oper} {i : Nat} {o : Oper} (ho : ops[i]? = some o) (hr : isReader o.op = false) (hr2 : isReader2 mk o.op = true)
  (hg : G g) (hG : ∀ b, G' b → G b ∧ b ≠ g) {a1 : Ev.A} {h1 : Hp} (hs : step2' P C mk ops.toList g o a h = some (a1, h1))
  {K : Act → World → Prop} {Q : Exit → Act → World → Prop} (hK : ∀ ρ1 w1 act1, ρ.le ρ1 → ActR ρ1 a1 act1 → HR P ρ1 ⟨n, G'⟩ h1 w1 → Below n w w1 → K act1 w1) : wpOp P ops Q i K act w := by
 unfold wpOp
 rw [ho]
 simp only []
 unfold step2' at hs
 rw [wanted_eq A ops o] at hs
 split at hs
 · rename_i hw
   rw [if_pos hw]
   split at hs
   · rename_i v h2 hv
     split at hs
     · rename_i a2 ha
       injection hs with hs
       injection hs with hs1 hs2
       subst hs1; subst hs2
       obtain ⟨hv1, rfl⟩ := oper_reader hr2 hv
       unfold reader2' at hv1
       rw [hr] at hv1
       simp only at hv1
       split at hv1
       · rename_i ob f hm
         split at hv1
         · rename_i ob' hget
           split at hv1
           · rename_i hla
             have := laidAs_eq hla
             subst this
             injection hv1 with hv1
             subst hv1
             obtain ⟨s, e1, o', m, f', r1, r2, r3, r4⟩ := maker_run A o hm
             obtain ⟨k1, k2, k3⟩ := H.ghost hg hget (famFree_eq r4) (o' := o') ⟨w.heap.size, 0, m, 0, true⟩ rfl (fun hle => r2 _ _ hle) hG
             refine .inl ?_
             have hrun : (execOp act.eval o).run P w = .ok (.value (f' w.heap.size)) (w.alloc o') := by
              rw [e1]
              simp [r1]
             unfold Oper.wp
             rw [hrun]
             exact hK _ _ _ k1 ((A.mono k1).put (r3 _ _ _ (by simp [Rho.put])) ha) k2 k3
           · cases hv1
         · cases hv1
       · cases hv1
     · cases hs
   · cases hs
 · rename_i hw
   rw [if_neg (by rw [hw]; simp)]
   split at hs
   · rename_i a2 ha
     injection hs with hs
     injection hs with hs1 hs2
     subst hs1; subst hs2
     exact hK ρ w _ (Rho.le_refl ρ) (A.put (v' := undef) (.tuple .nil) ha) (H.less (fun b hb => (hG b hb).1)) (Below.refl _ _)
   · cases hs
theorem any_wp (W : WfP P) (HC : CallerOk P C) {ops : Array Oper} {st : Nat → A × Hp} {gs : List (Nat × Hp)} (c : Course P C mk base ops st gs) (hN : mk = true → ∀ b, N.g b → b < base) {Q : Exit → Act → World → Prop} :
  ∀ (fuel : Nat) (listed : Array Bool) (b : A) (hp : Hp) (ρ : Rho) (w : World) (act : Act), listed.size = ops.size → cnt (fun i => listed.getD i false) ops.size + fuel = ops.size →
  Stands mk ops st (fun i => listed.getD i false = true) b hp → HR P ρ ⟨N.n, Wait N mk base ops listed⟩ hp w → ActR ρ b act →
  (∀ ρ1 w1 act1, ρ.le ρ1 → ActR ρ1 (st ops.size).1 act1 → HR P ρ1 N (st ops.size).2 w1 → Below N w w1 → Q .normal act1 w1) → wpAny P .any ops Q fuel listed act w := by
 intro fuel
 have fin : ∀ (listed : Array Bool) (b : A) (hp : Hp) (ρ : Rho) (w : World) (act : Act), (∀ i, i < ops.size → listed.getD i false = true) →
   Stands mk ops st (fun i => listed.getD i false = true) b hp → HR P ρ ⟨N.n, Wait N mk base ops listed⟩ hp w → ActR ρ b act →
   (∀ ρ1 w1 act1, ρ.le ρ1 → ActR ρ1 (st ops.size).1 act1 → HR P ρ1 N (st ops.size).2 w1 → Below N w w1 → Q .normal act1 w1) → Q .normal act w := by
  intro listed b hp ρ w act hall S H A hQ
  refine hQ ρ w act (Rho.le_refl ρ) ?_ ?_ (Below.refl _ _)
  · have hsz := c.n_same ops.size (Nat.le_refl _)
    refine ⟨fun t => ?_, ?_, A.defers, ?_⟩
    · rw [← S.get t ops.size (Nat.le_refl _) (fun j o ho _ => ⟨fun h => hall j h, fun h => S.inside j h⟩)]
      exact A.get t
    · rw [A.size, S.n, hsz]
    · trivial
  · obtain ⟨k, hk, heff, hhp⟩ := S.heap
    have := c.heap_same (k := k) (ops.size - k) (by omega) (fun j p hj1 hj2 hp => by
     cases hpr : isReader2 mk p.op with
     | true => rfl
     | false =>
       have := (heff j p hp hpr).2 (hall j (by omega))
       omega)
    rw [show k + (ops.size - k) = ops.size by omega] at this
    rw [this, ← hhp]
    exact H.less (n := N.n) (g' := N.g) (fun b hb => .inl hb)
 have none_ready : ∀ (listed : Array Bool), listed.size = ops.size → Region.ready .any ops listed = [] → ∀ i, i < ops.size → listed.getD i false = true := by
  intro listed hsz hr i
  induction i using Nat.strongRecOn with
  | _ i ih =>
    intro hi
    cases hl : listed.getD i false with
    | true => rfl
    | false =>
      exfalso
      obtain ⟨o, ho⟩ : ∃ o, ops[i]? = some o := ⟨ops[i], Array.getElem?_eq_getElem hi⟩
      have : i ∈ Region.ready .any ops listed := by
       rw [mem_ready]
       refine ⟨?_, o, ho, fun e he hb => ?_⟩
       · have : i < listed.size := by omega
         simpa [Array.getD, this] using hl
       · have hlt := c.ordered.edge i o ho e he hb
         exact ih e.on hlt (by omega)
      rw [hr] at this
      cases this
 induction fuel with
 | zero =>
   intro listed b hp ρ w act hsz hcnt S H A hQ
   have hall := cnt_all (f := fun i => listed.getD i false) (n := ops.size) (by omega)
   refine ⟨?_, fin listed b hp ρ w act hall S H A hQ⟩
   cases hr : Region.ready .any ops listed with
   | nil => rfl
   | cons i r =>
     have : i ∈ Region.ready .any ops listed := by rw [hr]; simp
     obtain ⟨h1, o, ho, _⟩ := mem_ready.1 this
     have hlt : i < ops.size := (Array.getElem?_eq_some_iff.1 ho).1
     have h2 := hall i hlt
     have : i < listed.size := by omega
     simp [Array.getD, this] at h1 h2
     rw [h1] at h2
     cases h2
 | succ fuel ih =>
   intro listed b hp ρ w act hsz hcnt S H A hQ
   refine ⟨fun hr => fin listed b hp ρ w act (none_ready listed hsz hr) S H A hQ, fun i hi => ?_⟩
   obtain ⟨h1, o, ho, hd⟩ := mem_ready.1 hi
   have hlt : i < ops.size := (Array.getElem?_eq_some_iff.1 ho).1
   have hli : i < listed.size := by omega
   have hOi : listed.getD i false = false := by simpa [Array.getD, hli] using h1
   have hset : ∀ j, (listed.setIfInBounds i true).getD j false = false → listed.getD j false = false ∧ j ≠ i := by
    intro j hj
    by_cases e : i = j
    · subst e
      simp [hli] at hj
    · rw [getD_set_ne false e] at hj
      exact ⟨hj, fun h => e h.symm⟩
   have hless : ∀ d, Wait N mk base ops (listed.setIfInBounds i true) d → Wait N mk base ops listed d := by
    rintro d (hd | ⟨hm, j, p, e1, e2, e3, e4⟩)
    · exact .inl hd
    · exact .inr ⟨hm, j, p, e1, e2, e3, (hset j e4).1⟩
   obtain ⟨b', hp', hstep, S'⟩ := stands_ready c S (O' := fun j => (listed.setIfInBounds i true).getD j false = true) ho (by simp [hOi]) hd (fun j => by
    by_cases e : i = j
    · subst e
      simp [hli]
    · rw [getD_set_ne false e]
      simp [show ¬ j = i from fun h => e h.symm])
   have go : ∀ ρ1 w1 act1, ρ.le ρ1 → ActR ρ1 b' act1 → HR P ρ1 ⟨N.n, Wait N mk base ops (listed.setIfInBounds i true)⟩ hp' w1 → Below N.n w w1 → wpAny P .any ops Q fuel (listed.setIfInBounds i true) act1 w1 := by
    intro ρ1 w1 act1 r1 r2 r3 r4
    refine ih _ b' hp' ρ1 w1 act1 (by simp [hsz]) ?_ S' r3 r2 (fun ρ2 w2 act2 s1 s2 s3 s4 => hQ ρ2 w2 act2 (Rho.le_trans r1 s1) s2 s3 (r4.trans s4))
    rw [cnt_set (f := fun i => listed.getD i false) (i := i) hOi (by simp [hli]) (fun j hj => getD_set_ne false (Ne.symm hj)) hlt]
    omega
   by_cases hpl : isReader o.op = true ∨ isReader2 mk o.op = false
   · rw [step2_plain hpl] at hstep
     exact step_wp W HC H A ho hstep (fun ρ1 w1 act1 r1 r2 r3 r4 => go ρ1 w1 act1 r1 r2 (r3.less hless) r4)
   · rw [not_or] at hpl
     have hr : isReader o.op = false := by simpa using hpl.1
     have hr2 : isReader2 mk o.op = true := by simpa using hpl.2
     have hmk : mk = true ∧ isMaker o.op = true := by
      unfold isReader2 at hr2
      rw [hr] at hr2
      cases mk
      · cases hr2
      · exact ⟨rfl, hr2⟩
     refine ghost_wp W H A ho hr hr2 (.inr ⟨hmk.1, i, o, rfl, ho, hmk.2, hOi⟩) (fun d hd => ⟨hless d hd, fun e => ?_⟩) hstep (fun ρ1 w1 act1 r1 r2 r3 r4 => go ρ1 w1 act1 r1 r2 r3 r4)
     subst e
     rcases hd with hd | ⟨_, j, p, e1, e2, e3, e4⟩
     · have := hN hmk.1 _ hd
       omega
     · exact (hset j e4).2 (by omega)
theorem drawn_wp (W : WfP P) (HC : CallerOk P C) {ops : Array Oper} {id : Nat} {a1 : A} {h1 : Hp} (hord : orderOk mk ops.toList = true) (hN : mk = true → ∀ b, N.g b → b < base)
  (H : HR P ρ ⟨N.n, Wait N mk base ops (Array.replicate ops.size false)⟩ h w) (A : ActR ρ a act) (h0 : drawn P C mk base ops.toList a h = some (a1, h1)) {Q : Exit → Act → World → Prop}
  (hQ : ∀ ρ1 w1 act1, ρ.le ρ1 → ActR ρ1 a1 act1 → HR P ρ1 N h1 w1 → Below N w w1 → Q .normal act1 w1) : (Code.region id ops true).wp P Q act w := by
 obtain ⟨st, gs, c, s0, s1⟩ := course_of A.n hord h0
 refine wp_region_any W.mixed ?_
 refine any_wp (N := N) W HC c hN ops.size _ a h ρ _ act (by simp) ?_ ?_ (H.drewn _) A (fun ρ1 w1 act1 r1 r2 r3 r4 => hQ ρ1 w1 act1 r1 (by rw [s1] at r2; exact r2) (by rw [s1] at r3; exact r3) ((Below.refl N.n w).drew.trans r4))
 · have : cnt (fun i => (Array.replicate ops.size false).getD i false) ops.size = cnt (fun _ => false) ops.size := cnt_same (fun j hj => by simp [hj])
   rw [this]
   have h0 : ∀ n, cnt (fun _ => false) n = 0 := by
    intro n
    induction n with
    | zero => rfl
    | succ n ih => simp [cnt, ih]
   rw [h0]
   omega
 · have nope : ∀ j, ¬ (Array.replicate ops.size false).getD j false = true := by
    intro j
    by_cases hj : j < ops.size <;> simp [Array.getD, hj]
   refine ⟨fun i o _ hi => absurd hi (nope i), fun i hi => absurd hi (nope i), by rw [s0], fun t k hk hall => ?_, 0, by omega, fun j o _ _ => ⟨fun h => by omega, fun h => absurd h (nope j)⟩, by rw [s0]⟩
   have := c.get_same (t := t) (k := 0) k (by omega) (fun j o _ hj ho hod => nope j ((hall j o ho hod).1 (by omega)))
   rw [Nat.zero_add, s0] at this
   exact this.symm
theorem draw_wp (W : WfP P) (HC : CallerOk P C) {ops : Array Oper} {id : Nat} {a1 : A} {h1 : Hp} (H : HR P ρ N h w) (A : ActR ρ a act) (h0 : draw' P C ops.toList a h = some (a1, h1)) {Q : Exit → Act → World → Prop}
  (hQ : ∀ ρ1 w1 act1, ρ.le ρ1 → ActR ρ1 a1 act1 → HR P ρ1 N h1 w1 → Below N w w1 → Q .normal act1 w1) : (Code.region id ops true).wp P Q act w := by
 unfold draw' at h0
 split at h0
 · rename_i hord
   refine drawn_wp (mk := false) (N := N) W HC hord (fun e => by cases e) (H.less (n := N.n) (g := N.g) (fun b hb => ?_)) A h0 hQ
   rcases hb with hb | ⟨e, _⟩
   · exact hb
   · cases e
 · split at h0
   · rename_i hord
     have H1 := HR.room (n := N.n) (g := N.g) H ops.size
     have H2 := layAll_HR (base := h.next) (k := ops.size) (fun i hi => .inr ⟨by omega, by omega⟩) (guess P C (makersWait ops.toList (preds ops.toList)) h.next ops.toList 0 ops.toList a { h with next := h.next + ops.size }) _ H1 (fun i hi r hr => by
      have := H.cover _ _ hr
      omega)
     refine drawn_wp (mk := true) (base := h.next) (N := N) W HC hord (fun _ b hb => (H.gho b hb).2) (H2.less (fun b hb => ?_)) A (by simpa using h0) hQ
     rcases hb with hb | ⟨_, i, o, e1, e2, _, _⟩
     · exact .inl hb
     · have : i < ops.size := (Array.getElem?_eq_some_iff.1 e2).1
       exact .inr ⟨by omega, by omega⟩
   · cases h0
end Go.Ev
end
section
namespace Go.Ev
open Go.RowKit
variable {P : Program} {ρ : Rho} {N : Bs} {h : Hp} {w : World} {a : A} {act : Act} {C : Caller}
def Ex.to : Ex → Exit
 | .normal => .normal
 | .exit id => .exit id
 | .ret => .ret
theorem code_both (W : WfP P) (HC : CallerOk P C) : ∀ (n : Nat),
  (∀ (c : Code) (ρ : Rho) (h : Hp) (w : World) (a : Ev.A) (act : Act) (e : Ex) (a1 : Ev.A) (h1 : Hp), HR P ρ N h w → ActR ρ a act → code' P C n c a h = some (e, a1, h1) →
   ∀ Q : Exit → Act → World → Prop, (∀ ρ1 w1 act1, ρ.le ρ1 → ActR ρ1 a1 act1 → HR P ρ1 N h1 w1 → Below N w w1 → Q e.to act1 w1) → c.wp P Q act w) ∧
  (∀ (c : Code) (ρ : Rho) (h : Hp) (w : World) (a : Ev.A) (act : Act) (e : Ex) (a1 : Ev.A) (h1 : Hp), HR P ρ N h w → ActR ρ a act → code' P C n (.loop c) a h = some (e, a1, h1) →
   ∀ Q : Exit → Act → World → Prop, (∀ ρ1 w1 act1, ρ.le ρ1 → ActR ρ1 a1 act1 → HR P ρ1 N h1 w1 → Below N w w1 → Q e.to act1 w1) → Code.rounds P c Q n act w) := by
 intro n
 induction n with
 | zero =>
   refine ⟨?_, ?_⟩ <;> intro c ρ h w a act e a1 h1 H A hc <;> simp [code'] at hc
 | succ n ih =>
   have L : ∀ (c : Code) (ρ : Rho) (h : Hp) (w : World) (a : Ev.A) (act : Act) (e : Ex) (a1 : Ev.A) (h1 : Hp), HR P ρ N h w → ActR ρ a act → code' P C (n + 1) (.loop c) a h = some (e, a1, h1) →
     ∀ Q : Exit → Act → World → Prop, (∀ ρ1 w1 act1, ρ.le ρ1 → ActR ρ1 a1 act1 → HR P ρ1 N h1 w1 → Below N w w1 → Q e.to act1 w1) → Code.rounds P c Q (n + 1) act w := by
    intro c ρ h w a act e a1 h1 H A hc Q hQ
    rw [rounds_succ]
    simp only [code'] at hc
    split at hc
    · rename_i a2 h2 hb
      refine ih.1 c ρ h w a act .normal a2 h2 H A hb _ (fun ρ1 w1 act1 r1 r2 r3 r4 => ?_)
      exact ih.2 c ρ1 h2 w1 a2 act1 e a1 h1 r3 r2 hc Q (fun ρ2 w2 act2 s1 s2 s3 s4 => hQ ρ2 w2 act2 (Rho.le_trans r1 s1) s2 s3 (r4.trans s4))
    · rename_i hne
      refine ih.1 c ρ h w a act e a1 h1 H A hc _ (fun ρ1 w1 act1 r1 r2 r3 r4 => ?_)
      cases e with
      | normal => exact absurd hc (hne a1 h1)
      | exit id => exact hQ ρ1 w1 act1 r1 r2 r3 r4
      | ret => exact hQ ρ1 w1 act1 r1 r2 r3 r4
   refine ⟨?_, L⟩
   intro c ρ h w a act e a1 h1 H A hc Q hQ
   cases c with
   | skip =>
     simp only [code', Option.some.injEq, Prod.mk.injEq] at hc
     obtain ⟨rfl, rfl, rfl⟩ := hc
     exact wp_skip (hQ ρ w act (Rho.le_refl ρ) A H (Below.refl _ _))
   | label l =>
     simp only [code', Option.some.injEq, Prod.mk.injEq] at hc
     obtain ⟨rfl, rfl, rfl⟩ := hc
     exact wp_label (hQ ρ w act (Rho.le_refl ρ) A H (Below.refl _ _))
   | region id ops d =>
     cases d with
     | false =>
       simp only [code'] at hc
       split at hc
       · rename_i a2 h2 hs
         simp only [Option.some.injEq, Prod.mk.injEq] at hc
         obtain ⟨rfl, rfl, rfl⟩ := hc
         refine wp_region ?_
         have := ops_wp (N := N) W HC (ops := ops) (Q := Q) ops.toList [] (by simp) H A hs (fun ρ1 w1 act1 r1 r2 r3 r4 => hQ ρ1 w1 act1 r1 r2 r3 r4)
         simpa [List.range_eq_range'] using this
       · cases hc
     | true =>
       simp only [code'] at hc
       split at hc
       · rename_i a2 h2 hs
         simp only [Option.some.injEq, Prod.mk.injEq] at hc
         obtain ⟨rfl, rfl, rfl⟩ := hc
         exact draw_wp W HC H A hs (fun ρ1 w1 act1 r1 r2 r3 r4 => hQ ρ1 w1 act1 r1 r2 r3 r4)
       · cases hc
   | seq x y =>
     simp only [code'] at hc
     refine wp_seq ?_
     split at hc
     · rename_i a2 h2 hb
       refine ih.1 x ρ h w a act .normal a2 h2 H A hb _ (fun ρ1 w1 act1 r1 r2 r3 r4 => ?_)
       exact ih.1 y ρ1 h2 w1 a2 act1 e a1 h1 r3 r2 hc Q (fun ρ2 w2 act2 s1 s2 s3 s4 => hQ ρ2 w2 act2 (Rho.le_trans r1 s1) s2 s3 (r4.trans s4))
     · rename_i hne
       refine ih.1 x ρ h w a act e a1 h1 H A hc _ (fun ρ1 w1 act1 r1 r2 r3 r4 => ?_)
       cases e with
       | normal => exact absurd hc (hne a1 h1)
       | exit id => exact hQ ρ1 w1 act1 r1 r2 r3 r4
       | ret => exact hQ ρ1 w1 act1 r1 r2 r3 r4
   | cond x t f =>
     simp only [code'] at hc
     split at hc
     · rename_i hx
       have hv := A.ev hx
       generalize hcv : act.eval x = cv at hv
       cases hv with
       | bool b => exact wp_cond_true hcv (ih.1 t ρ h w a act e a1 h1 H A hc Q hQ)
     · rename_i hx
       have hv := A.ev hx
       generalize hcv : act.eval x = cv at hv
       cases hv with
       | bool b => exact wp_cond_false hcv (ih.1 f ρ h w a act e a1 h1 H A hc Q hQ)
     · cases hc
   | block id b =>
     simp only [code'] at hc
     refine wp_block ?_
     split at hc
     · rename_i j a2 h2 hb
       refine ih.1 b ρ h w a act (.exit j) a2 h2 H A hb _ (fun ρ1 w1 act1 r1 r2 r3 r4 => ?_)
       split at hc
       · rename_i hj
         have hj := nbeq_true hj
         simp only [Option.some.injEq, Prod.mk.injEq] at hc
         obtain ⟨rfl, rfl, rfl⟩ := hc
         simp only [Ex.to, Exit.inBlock, hj, if_true]
         exact hQ ρ1 w1 act1 r1 r2 r3 r4
       · rename_i hj
         have hj' : j ≠ id := by
          intro e
          subst e
          simp at hj
         simp only [Option.some.injEq, Prod.mk.injEq] at hc
         obtain ⟨rfl, rfl, rfl⟩ := hc
         simp only [Ex.to, Exit.inBlock, hj', if_false]
         exact hQ ρ1 w1 act1 r1 r2 r3 r4
     · rename_i hne
       refine ih.1 b ρ h w a act e a1 h1 H A hc _ (fun ρ1 w1 act1 r1 r2 r3 r4 => ?_)
       cases e with
       | normal => exact hQ ρ1 w1 act1 r1 r2 r3 r4
       | exit id => exact absurd hc (hne id a1 h1)
       | ret => exact hQ ρ1 w1 act1 r1 r2 r3 r4
   | loop b => exact wp_loop_rounds (n + 1) (L b ρ h w a act e a1 h1 H A hc Q hQ)
   | scope b =>
     simp only [code'] at hc
     refine wp_scope_straight ?_
     refine ih.1 b ρ h w a act e a1 h1 H A hc _ (fun ρ1 w1 act1 r1 r2 r3 r4 => ?_)
     cases e with
     | normal => exact hQ ρ1 w1 act1 r1 r2 r3 r4
     | exit id => exact hQ ρ1 w1 act1 r1 r2 r3 r4
     | ret => exact hQ ρ1 w1 act1 r1 r2 r3 r4
   | exit id =>
     simp only [code', Option.some.injEq, Prod.mk.injEq] at hc
     obtain ⟨rfl, rfl, rfl⟩ := hc
     exact wp_exit (hQ ρ w act (Rho.le_refl ρ) A H (Below.refl _ _))
   | ret =>
     simp only [code', Option.some.injEq, Prod.mk.injEq] at hc
     obtain ⟨rfl, rfl, rfl⟩ := hc
     exact wp_ret (hQ ρ w act (Rho.le_refl ρ) A H (Below.refl _ _))
   | _ => simp [code'] at hc
theorem argsOf_get {ρ : Rho} : ∀ {l l' : List Value} (i : Nat) (t : Tr Value), VRs ρ l l' → ∀ k,
  (i ≤ k → k < i + l.length → ∃ v v', (argsOf l i t).get k = some v ∧ l'[k - i]? = some v' ∧ VR ρ v v') ∧ (k < i ∨ i + l.length ≤ k → (argsOf l i t).get k = t.get k)
 | [], _, i, t, .nil, k => by
   refine ⟨fun h1 h2 => by simp at h2; omega, fun _ => rfl⟩
 | v :: l, _, i, t, .cons (v' := v') (l' := l') hv hl, k => by
   have rec' := argsOf_get (i + 1) (t.put i v) hl k
   simp only [argsOf]
   constructor
   · intro h1 h2
     simp only [List.length_cons] at h2
     by_cases e : k = i
     · subst e
       rw [rec'.2 (.inl (by omega)), Tr.get_put _ _ _ _]
       exact ⟨v, v', by simp, by simp, hv⟩
     · obtain ⟨u, u', r1, r2, r3⟩ := rec'.1 (by omega) (by omega)
       refine ⟨u, u', r1, ?_, r3⟩
       rw [show k - i = (k - (i + 1)) + 1 by omega, List.getElem?_cons_succ]
       exact r2
   · intro h0
     simp only [List.length_cons] at h0
     rw [rec'.2 (by omega), Tr.get_put _ _ _ _, if_neg (by omega)]
theorem act_enter {ρ : Rho} {args args' : List Value} {n : Nat} (hA : VRs ρ args args') (h1 : args.length ≤ n) :
  ActR ρ ⟨argsOf args 0 .lf, n⟩ { tmps := args'.toArray ++ Array.replicate (n - args'.toArray.size) undef, defers := [] } := by
 have hl := hA.length
 refine ⟨fun t => ?_, by simp; omega, rfl, trivial⟩
 have := argsOf_get 0 (.lf : Tr Value) hA t
 simp only [A.get, Nat.zero_add] at this ⊢
 by_cases ht : t < args.length
 · obtain ⟨v, v', r1, r2, r3⟩ := this.1 (by omega) ht
   rw [r1]
   simp only [Nat.sub_zero] at r2
   have ht' : t < args'.length := by omega
   have : (args'.toArray ++ Array.replicate (n - args'.toArray.size) undef).getD t undef = v' := by
    rw [Array.getD_eq_getD_getElem?, Array.getElem?_append_left (by simpa using ht')]
    simp [r2]
   rw [this]
   exact r3
 · rw [this.2 (.inr (by omega)), Tr.get_lf]
   have : (args'.toArray ++ Array.replicate (n - args'.toArray.size) undef).getD t undef = undef := by
    rw [Array.getD_eq_getD_getElem?, Array.getElem?_append_right (by simp; omega)]
    rw [Array.getElem?_replicate]
    split <;> rfl
   rw [this]
   exact .tuple .nil
theorem result_run (H : HR P ρ N h w) (A : ActR ρ a act) {r : ResultVar} {v : Value} (hv : result' P h a r = some v) :
  ∃ v', ((match r with | .tmp t => pure (act.tmps.getD t undef) | .cell a t => do loadVar t (← asAddr (act.tmps.getD a undef)) : Sem Value)).run P w = .ok v' w ∧ VR ρ v v' := by
 cases r with
 | tmp t =>
   simp only [result', Option.some.injEq] at hv
   subst hv
   exact ⟨_, by simp, A.get t⟩
 | cell t ty =>
   simp only [result'] at hv
   split at hv
   · rename_i p hp
     have := A.get t
     rw [hp] at this
     generalize hcv : act.tmps.getD t undef = cv at this
     cases this with
     | ptr ha =>
       obtain ⟨v', h1, h2⟩ := loadVar_run H ha hv
       refine ⟨v', ?_, h2⟩
       simp only [hcv]
       simp [asAddr, h1]
   · cases hv
theorem results_run (H : HR P ρ N h w) (A : ActR ρ a act) : ∀ {l : List ResultVar} {vs : List Value}, results' P h a l = some vs →
  ∃ vs', (l.mapM (fun | .tmp t => pure (act.tmps.getD t undef) | .cell a t => do loadVar t (← asAddr (act.tmps.getD a undef)) : ResultVar → Sem Value)).run P w = .ok vs' w ∧ VRs ρ vs vs'
 | [], vs, hv => by
   simp only [results', Option.some.injEq] at hv
   subst hv
   exact ⟨[], by simp, .nil⟩
 | r :: l, vs, hv => by
   simp only [results'] at hv
   split at hv
   · rename_i v r' hv1 hr
     injection hv with hv
     subst hv
     obtain ⟨v', e1, e2⟩ := result_run H A hv1
     obtain ⟨vs', f1, f2⟩ := results_run H A hr
     refine ⟨v' :: vs', ?_, .cons e2 f2⟩
     rw [List.mapM_cons]
     simp only [Sem.run_bind]
     erw [e1]
     simp only [Result.andThen_ok]
     erw [f1]
     simp
   · cases hv
theorem call_ok (W : WfP P) : ∀ n, CallerOk P (call' P n)
 | 0 => by intro f args h v h1 hv; simp [call'] at hv
 | n + 1 => by
   intro f args h v h1 hv
   simp only [call'] at hv
   split at hv
   · cases hv
   · rename_i fn hf
     split at hv
     · cases hv
     · rename_i c hb
       split at hv
       · rename_i hlen hname
         refine ⟨⟨fn, c, hf, hb, hname⟩, ?_⟩
         intro ρ N w args' H hA
         have h1' : args.length ≤ fn.ntmps := by simpa using hlen
         have A := act_enter hA h1'
         refine calls_of_wp hf hb ?_
         have fin : ∀ (e : Ex) (a1 : Ev.A) (h2 : Hp), code' P (call' P n) 20000 c ⟨argsOf args 0 .lf, fn.ntmps⟩ h = some (e, a1, h2) → (e.to = .normal ∨ e.to = .ret) →
           (match results' P h2 a1 fn.results.toList with | some [v] => some (v, h2) | some vs => some (.tuple vs.toArray, h2) | none => none) = some (v, h1) →
           c.wp P (bodyPost P fn fun e w1 => ∃ ρ1 v', e = .returned v' ∧ ρ.le ρ1 ∧ HR P ρ1 N h1 w1 ∧ VR ρ1 v v' ∧ Below N w w1) { tmps := args'.toArray ++ Array.replicate (fn.ntmps - args'.toArray.size) undef, defers := [] } w := by
          intro e a1 h2 hc he hr
          refine (code_both (N := N) W (call_ok W n) 20000).1 c ρ h w _ _ e a1 h2 H A hc _ (fun ρ1 w1 act1 r1 r2 r3 r4 => ?_)
          have key : act1.defers = [] ∧ ∃ v', (results fn act1.tmps).run P w1 = .ok v' w1 ∧ ∃ ρ1 v'', Ending.returned v' = .returned v'' ∧ ρ.le ρ1 ∧ HR P ρ1 N h1 w1 ∧ VR ρ1 v v'' ∧ Below N w w1 := by
           refine ⟨r2.defers, ?_⟩
           cases hrs : results' P h2 a1 fn.results.toList with
           | none => rw [hrs] at hr; cases hr
           | some vs =>
             rw [hrs] at hr
             obtain ⟨vs', f1, f2⟩ := results_run r3 r2 hrs
             have hl := f2.length
             have harr : ((fn.results.mapM (fun | .tmp t => pure (act1.tmps.getD t undef) | .cell a t => do loadVar t (← asAddr (act1.tmps.getD a undef)) : ResultVar → Sem Value))).run P w1 = .ok vs'.toArray w1 := by
              rw [Array.mapM_eq_mapM_toList, Sem.run_map]
              erw [f1]
              rfl
             unfold results
             simp only [Sem.run_bind]
             erw [harr]
             simp only [Result.andThen_ok]
             cases f2 with
             | nil =>
               simp only [Option.some.injEq, Prod.mk.injEq] at hr
               obtain ⟨rfl, rfl⟩ := hr
               exact ⟨_, by simp, ρ1, _, rfl, r1, r3, .tuple .nil, r4⟩
             | @cons u u' l l' hu hl2 =>
               cases hl2 with
               | nil =>
                 simp only [Option.some.injEq, Prod.mk.injEq] at hr
                 obtain ⟨rfl, rfl⟩ := hr
                 exact ⟨_, by simp, ρ1, _, rfl, r1, r3, hu, r4⟩
               | @cons u2 u2' l2 l2' hu2 hl3 =>
                 simp only [Option.some.injEq, Prod.mk.injEq] at hr
                 obtain ⟨rfl, rfl⟩ := hr
                 exact ⟨.tuple (u' :: u2' :: l2').toArray, by simp, ρ1, _, rfl, r1, r3, .tuple (.cons hu (.cons hu2 hl3)), r4⟩
          rcases he with he | he <;> rw [he] <;> exact key
         split at hv
         · cases hv
         · rename_i e a1 h2 hne hc
           cases e with
           | normal => exact fin .normal a1 h2 hc (.inl rfl) hv
           | exit id => first | exact absurd rfl (hne id) | exact (hne id rfl).elim
           | ret => exact fin .ret a1 h2 hc (.inr rfl) hv
         · cases hv
       · cases hv
theorem HR.start (P : Program) (w : World) : HR P (fun _ => none) ⟨w.heap.size, fun _ => False⟩ Hp.nil w := by
 refine ⟨?_, ?_, ?_, ?_, ?_, ?_, ?_, ?_, Nat.le_refl _, fun _ hb => hb.elim, Nat.zero_le _, ?_, ?_, ?_⟩ <;> simp [Hp.nil, Tr.get_lf]
theorem closed_call (W : WfP P) {n : Nat} {f : FuncId} {b : Bool} {h1 : Hp} (hc : call' P n f [] Hp.nil = some (.bool b, h1)) (w : World) :
  Calls P f #[] w fun e w1 => e = .returned (.bool b) ∧ Below w.heap.size w w1 := by
 refine ((call_ok W n f [] Hp.nil _ h1 hc).2 (fun _ => none) ⟨w.heap.size, fun _ => False⟩ w [] (HR.start P w) .nil).mono ?_
 rintro e w1 ⟨ρ1, v', rfl, _, _, r3, r4⟩
 cases r3
 exact ⟨rfl, r4⟩
def truly (P : Program) (n : Nat) (f : FuncId) : Bool := match call' P n f [] Hp.nil with
 | some (.bool true, _) => true
 | _ => false
theorem closed_true (W : WfP P) {n : Nat} {f : FuncId} (hc : truly P n f = true) (w : World) :
  Calls P f #[] w fun e w1 => e = .returned (.bool true) ∧ Below w.heap.size w w1 := by
 unfold truly at hc
 split at hc
 · rename_i h1 hh
   exact closed_call W hh w
 · cases hc
end Go.Ev
end
section
namespace Go.Ev
open Go.RowKit
variable {P : Program} {ρ : Rho} {N : Bs} {h : Hp} {w : World} {a : A} {act : Act} {C : Caller}
def Snd (P : Program) (f : FuncId) (args : List Value) (h : Hp) (v : Value) (h1 : Hp) : Prop :=
 (∃ fn c, P.funcs[f]? = some fn ∧ fn.body = some c ∧ (fn.name == "runtime.NumGoroutine") = false) ∧
  ∀ (ρ : Rho) (N : Bs) (w : World) (args' : List Value), HR P ρ N h w → VRs ρ args args' →
   Calls P f args'.toArray w fun e w1 => ∃ ρ1 v', e = .returned v' ∧ ρ.le ρ1 ∧ HR P ρ1 N h1 w1 ∧ VR ρ1 v v' ∧ Below N w w1
theorem callerOk_none : CallerOk P (fun _ _ _ => none) := fun _ _ _ _ _ e => by cases e
noncomputable def orc (f : FuncId) (args : List Value) (h : Hp) (v : Value) (h1 : Hp) (C : Caller) : Caller := fun g b k =>
 open Classical in if g = f ∧ b = args ∧ k = h then some (v, h1) else C g b k
theorem orc_same {f : FuncId} {args : List Value} {h h1 : Hp} {v : Value} : orc f args h v h1 C f args h = some (v, h1) := by simp [orc]
theorem orc_ok {f : FuncId} {args : List Value} {h h1 : Hp} {v : Value} (s : Snd P f args h v h1) (HC : CallerOk P C) : CallerOk P (orc f args h v h1 C) := by
 intro g b k u k1 e
 unfold orc at e
 split at e
 · rename_i c
   obtain ⟨rfl, rfl, rfl⟩ := c
   injection e with e
   injection e with e1 e2
   subst e1; subst e2
   exact s
 · exact HC g b k u k1 e
def opsR (P : Program) (all : List Oper) : List Oper → Ev.A → Hp → Ev.A → Hp → Prop
 | [], a, h, a1, h1 => a1 = a ∧ h1 = h
 | o :: r, a, h, a1, h1 => ∃ C a2 h2, CallerOk P C ∧ step' P C all o a h = some (a2, h2) ∧ opsR P all r a2 h2 a1 h1
theorem opsR_wp (W : WfP P) {ops : Array Oper} {Q : Exit → Act → World → Prop} : ∀ (r pre : List Oper), ops.toList = pre ++ r → ∀ {ρ : Rho} {h : Hp} {w : World} {a : Ev.A} {act : Act} {a1 : Ev.A} {h1 : Hp},
  HR P ρ N h w → ActR ρ a act → opsR P ops.toList r a h a1 h1 →
  (∀ ρ1 w1 act1, ρ.le ρ1 → ActR ρ1 a1 act1 → HR P ρ1 N h1 w1 → Below N w w1 → Q .normal act1 w1) → wpOps P ops Q (List.range' pre.length r.length) act w := by
 intro r
 induction r with
 | nil =>
   intro pre hp ρ h w a act a1 h1 H A hs hQ
   obtain ⟨rfl, rfl⟩ := hs
   simp only [List.length_nil, List.range'_zero, wpOps]
   exact hQ ρ w act (Rho.le_refl ρ) A H (Below.refl _ _)
 | cons o r ih =>
   intro pre hp ρ h w a act a1 h1 H A hs hQ
   obtain ⟨C, a2, h2, HC, hst, hr⟩ := hs
   have ho : ops[pre.length]? = some o := by
    rw [← Array.getElem?_toList, hp]
    simp
   rw [List.length_cons, List.range'_succ, wpOps]
   refine step_wp W HC H A ho hst (fun ρ1 w1 act1 r1 r2 r3 r4 => ?_)
   have := ih (pre ++ [o]) (by rw [hp]; simp) r3 r2 hr (fun ρ2 w2 act2 s1 s2 s3 s4 => hQ ρ2 w2 act2 (Rho.le_trans r1 s1) s2 s3 (r4.trans s4))
   simpa using this
inductive Runs (P : Program) : Code → Ev.A → Hp → Ex → Ev.A → Hp → Prop
 | skip {a : Ev.A} {h : Hp} : Runs P .skip a h .normal a h
 | label {l : _} {a : Ev.A} {h : Hp} : Runs P (.label l) a h .normal a h
 | region {id : Nat} {ops : Array Oper} {a : Ev.A} {h : Hp} {a1 : Ev.A} {h1 : Hp} (hs : opsR P ops.toList ops.toList a h a1 h1) : Runs P (.region id ops false) a h .normal a1 h1
 | draw {id : Nat} {ops : Array Oper} {a : Ev.A} {h : Hp} {a1 : Ev.A} {h1 : Hp} (C : Caller) (HC : CallerOk P C) (hs : draw' P C ops.toList a h = some (a1, h1)) : Runs P (.region id ops true) a h .normal a1 h1
 | seqN {x : Code} {y : Code} {a : Ev.A} {h : Hp} {a1 : Ev.A} {h1 : Hp} {e : Ex} {a2 : Ev.A} {h2 : Hp} (r : Runs P x a h .normal a1 h1) (s : Runs P y a1 h1 e a2 h2) : Runs P (.seq x y) a h e a2 h2
 | seqE {x : Code} {y : Code} {a : Ev.A} {h : Hp} {e : Ex} {a1 : Ev.A} {h1 : Hp} (r : Runs P x a h e a1 h1) (he : e ≠ .normal) : Runs P (.seq x y) a h e a1 h1
 | condT {x : Operand} {t : Code} {f : Code} {a : Ev.A} {h : Hp} {e : Ex} {a1 : Ev.A} {h1 : Hp} (hx : a.ev x = some (.bool true)) (r : Runs P t a h e a1 h1) : Runs P (.cond x t f) a h e a1 h1
 | condF {x : Operand} {t : Code} {f : Code} {a : Ev.A} {h : Hp} {e : Ex} {a1 : Ev.A} {h1 : Hp} (hx : a.ev x = some (.bool false)) (r : Runs P f a h e a1 h1) : Runs P (.cond x t f) a h e a1 h1
 | blockX {id : Nat} {b : Code} {a : Ev.A} {h : Hp} {a1 : Ev.A} {h1 : Hp} (r : Runs P b a h (.exit id) a1 h1) : Runs P (.block id b) a h .normal a1 h1
 | blockE {id : Nat} {b : Code} {a : Ev.A} {h : Hp} {e : Ex} {a1 : Ev.A} {h1 : Hp} (r : Runs P b a h e a1 h1) (he : e ≠ .exit id) : Runs P (.block id b) a h e a1 h1
 | loopN {b : Code} {a : Ev.A} {h : Hp} {a1 : Ev.A} {h1 : Hp} {e : Ex} {a2 : Ev.A} {h2 : Hp} (r : Runs P b a h .normal a1 h1) (s : Runs P (.loop b) a1 h1 e a2 h2) : Runs P (.loop b) a h e a2 h2
 | loopE {b : Code} {a : Ev.A} {h : Hp} {e : Ex} {a1 : Ev.A} {h1 : Hp} (r : Runs P b a h e a1 h1) (he : e ≠ .normal) : Runs P (.loop b) a h e a1 h1
 | scope {b : Code} {a : Ev.A} {h : Hp} {e : Ex} {a1 : Ev.A} {h1 : Hp} (r : Runs P b a h e a1 h1) : Runs P (.scope b) a h e a1 h1
 | exit {id : Nat} {a : Ev.A} {h : Hp} : Runs P (.exit id) a h (.exit id) a h
 | ret {a : Ev.A} {h : Hp} : Runs P .ret a h .ret a h
theorem runs_both (W : WfP P) {c : Code} {a : Ev.A} {h : Hp} {e : Ex} {a1 : Ev.A} {h1 : Hp} (r : Runs P c a h e a1 h1) :
  (∀ (ρ : Rho) (w : World) (act : Act), HR P ρ N h w → ActR ρ a act → ∀ Q : Exit → Act → World → Prop, (∀ ρ1 w1 act1, ρ.le ρ1 → ActR ρ1 a1 act1 → HR P ρ1 N h1 w1 → Below N w w1 → Q e.to act1 w1) → c.wp P Q act w) ∧
  (∀ b, c = .loop b → ∃ n, ∀ (ρ : Rho) (w : World) (act : Act), HR P ρ N h w → ActR ρ a act → ∀ Q : Exit → Act → World → Prop, (∀ ρ1 w1 act1, ρ.le ρ1 → ActR ρ1 a1 act1 → HR P ρ1 N h1 w1 → Below N w w1 → Q e.to act1 w1) → Code.rounds P b Q n act w) := by
 induction r with
 | skip => exact ⟨fun ρ w act H A Q hQ => wp_skip (hQ ρ w act (Rho.le_refl ρ) A H (Below.refl _ _)), fun b hb => by cases hb⟩
 | label => exact ⟨fun ρ w act H A Q hQ => wp_label (hQ ρ w act (Rho.le_refl ρ) A H (Below.refl _ _)), fun b hb => by cases hb⟩
 | @region id ops a h a1 h1 hs =>
   refine ⟨fun ρ w act H A Q hQ => ?_, fun b hb => by cases hb⟩
   refine wp_region ?_
   have := opsR_wp (N := N) W (ops := ops) (Q := Q) ops.toList [] (by simp) H A hs (fun ρ1 w1 act1 r1 r2 r3 r4 => hQ ρ1 w1 act1 r1 r2 r3 r4)
   simpa [List.range_eq_range'] using this
 | draw C HC hs => exact ⟨fun ρ w act H A Q hQ => draw_wp W HC H A hs (fun ρ1 w1 act1 r1 r2 r3 r4 => hQ ρ1 w1 act1 r1 r2 r3 r4), fun b hb => by cases hb⟩
 | seqN r s ihr ihs =>
   refine ⟨fun ρ w act H A Q hQ => wp_seq ?_, fun b hb => by cases hb⟩
   refine ihr.1 ρ w act H A _ (fun ρ1 w1 act1 r1 r2 r3 r4 => ?_)
   exact ihs.1 ρ1 w1 act1 r3 r2 Q (fun ρ2 w2 act2 s1 s2 s3 s4 => hQ ρ2 w2 act2 (Rho.le_trans r1 s1) s2 s3 (r4.trans s4))
 | @seqE x y a h e a1 h1 r he ihr =>
   refine ⟨fun ρ w act H A Q hQ => wp_seq ?_, fun b hb => by cases hb⟩
   refine ihr.1 ρ w act H A _ (fun ρ1 w1 act1 r1 r2 r3 r4 => ?_)
   cases e with
   | normal => exact absurd rfl he
   | exit id => exact hQ ρ1 w1 act1 r1 r2 r3 r4
   | ret => exact hQ ρ1 w1 act1 r1 r2 r3 r4
 | condT hx r ihr =>
   refine ⟨fun ρ w act H A Q hQ => ?_, fun b hb => by cases hb⟩
   have hv := A.ev hx
   generalize hcv : act.eval _ = cv at hv
   cases hv with
   | bool b => exact wp_cond_true hcv (ihr.1 ρ w act H A Q hQ)
 | condF hx r ihr =>
   refine ⟨fun ρ w act H A Q hQ => ?_, fun b hb => by cases hb⟩
   have hv := A.ev hx
   generalize hcv : act.eval _ = cv at hv
   cases hv with
   | bool b => exact wp_cond_false hcv (ihr.1 ρ w act H A Q hQ)
 | blockX r ihr =>
   refine ⟨fun ρ w act H A Q hQ => wp_block ?_, fun b hb => by cases hb⟩
   refine ihr.1 ρ w act H A _ (fun ρ1 w1 act1 r1 r2 r3 r4 => ?_)
   simp only [Ex.to, Exit.inBlock, if_true]
   exact hQ ρ1 w1 act1 r1 r2 r3 r4
 | @blockE id b a h e a1 h1 r he ihr =>
   refine ⟨fun ρ w act H A Q hQ => wp_block ?_, fun b hb => by cases hb⟩
   refine ihr.1 ρ w act H A _ (fun ρ1 w1 act1 r1 r2 r3 r4 => ?_)
   cases e with
   | normal => exact hQ ρ1 w1 act1 r1 r2 r3 r4
   | exit j =>
     have hj' : j ≠ id := fun e => he (by rw [e])
     simp only [Ex.to, Exit.inBlock, hj', if_false]
     exact hQ ρ1 w1 act1 r1 r2 r3 r4
   | ret => exact hQ ρ1 w1 act1 r1 r2 r3 r4
 | @loopN b a h a1 h1 e a2 h2 r s ihr ihs =>
   have key : ∃ n, ∀ (ρ : Rho) (w : World) (act : Act), HR P ρ N h w → ActR ρ a act → ∀ Q : Exit → Act → World → Prop, (∀ ρ1 w1 act1, ρ.le ρ1 → ActR ρ1 a2 act1 → HR P ρ1 N h2 w1 → Below N w w1 → Q e.to act1 w1) → Code.rounds P b Q n act w := by
    obtain ⟨n, hn⟩ := ihs.2 b rfl
    refine ⟨n + 1, fun ρ w act H A Q hQ => ?_⟩
    rw [rounds_succ]
    refine ihr.1 ρ w act H A _ (fun ρ1 w1 act1 r1 r2 r3 r4 => ?_)
    exact hn ρ1 w1 act1 r3 r2 Q (fun ρ2 w2 act2 s1 s2 s3 s4 => hQ ρ2 w2 act2 (Rho.le_trans r1 s1) s2 s3 (r4.trans s4))
   refine ⟨fun ρ w act H A Q hQ => ?_, fun b' hb => by cases hb; exact key⟩
   obtain ⟨n, hn⟩ := key
   exact wp_loop_rounds n (hn ρ w act H A Q hQ)
 | @loopE b a h e a1 h1 r he ihr =>
   have key : ∃ n, ∀ (ρ : Rho) (w : World) (act : Act), HR P ρ N h w → ActR ρ a act → ∀ Q : Exit → Act → World → Prop, (∀ ρ1 w1 act1, ρ.le ρ1 → ActR ρ1 a1 act1 → HR P ρ1 N h1 w1 → Below N w w1 → Q e.to act1 w1) → Code.rounds P b Q n act w := by
    refine ⟨1, fun ρ w act H A Q hQ => ?_⟩
    rw [rounds_succ]
    refine ihr.1 ρ w act H A _ (fun ρ1 w1 act1 r1 r2 r3 r4 => ?_)
    cases e with
    | normal => exact absurd rfl he
    | exit id => exact hQ ρ1 w1 act1 r1 r2 r3 r4
    | ret => exact hQ ρ1 w1 act1 r1 r2 r3 r4
   refine ⟨fun ρ w act H A Q hQ => ?_, fun b' hb => by cases hb; exact key⟩
   obtain ⟨n, hn⟩ := key
   exact wp_loop_rounds n (hn ρ w act H A Q hQ)
 | @scope b a h e a1 h1 r ihr =>
   refine ⟨fun ρ w act H A Q hQ => wp_scope_straight ?_, fun b hb => by cases hb⟩
   refine ihr.1 ρ w act H A _ (fun ρ1 w1 act1 r1 r2 r3 r4 => ?_)
   cases e with
   | normal => exact hQ ρ1 w1 act1 r1 r2 r3 r4
   | exit id => exact hQ ρ1 w1 act1 r1 r2 r3 r4
   | ret => exact hQ ρ1 w1 act1 r1 r2 r3 r4
 | exit => exact ⟨fun ρ w act H A Q hQ => wp_exit (hQ ρ w act (Rho.le_refl ρ) A H (Below.refl _ _)), fun b hb => by cases hb⟩
 | ret => exact ⟨fun ρ w act H A Q hQ => wp_ret (hQ ρ w act (Rho.le_refl ρ) A H (Below.refl _ _)), fun b hb => by cases hb⟩
end Go.Ev
end
section
namespace Go.Ev
open Go.RowKit
variable {P : Program} {ρ : Rho} {N : Bs} {h : Hp} {w : World}
def A.set (a : Ev.A) (d : Option Nat) (v : Value) : Ev.A := match d with
 | none => a
 | some d => { a with tmps := a.tmps.put d v }
theorem A.set_n (a : Ev.A) (d : Option Nat) (v : Value) : (a.set d v).n = a.n := by cases d <;> rfl
theorem A.get_set (a : Ev.A) (d : Nat) (v : Value) (t : Nat) : (a.set (some d) v).get t = if t = d then v else a.get t := by
 simp only [A.set, A.get, Tr.get_put]
 by_cases e : t = d <;> simp [e]
theorem A.get_set_none (a : Ev.A) (v : Value) (t : Nat) : (a.set none v).get t = a.get t := rfl
def dstOk (n : Nat) : Option Nat → Bool
 | none => true
 | some d => Nat.blt d n
theorem A.put_ok {a : Ev.A} {n : Nat} {d : Option Nat} (v : Value) (hd : dstOk n d = true) (hn : a.n = n) : a.put d v = some (a.set d v) := by
 cases d with
 | none => rfl
 | some d =>
   simp only [dstOk] at hd
   simp only [A.put, hn, hd, A.set]
def opt {α : Type} (o : Option α) (K : α → Prop) : Prop := match o with
 | some v => K v
 | none => False
def wif (b : Bool) (x y : Prop) : Prop := match b with
 | true => x
 | false => y
def wcond (b : Bool) (x y : Prop) : Prop := (b = true → x) ∧ (b = false → y)
theorem wcond_in {b : Bool} {x y : Prop} (h1 : b = true → x) (h2 : b = false → y) : wcond b x y := ⟨h1, h2⟩
theorem wcond_true (x y : Prop) : wcond true x y = x := by simp [wcond]
theorem wcond_false (x y : Prop) : wcond false x y = y := by simp [wcond]
theorem opt_some {α : Type} (v : α) (K : α → Prop) : opt (some v) K = K v := rfl
theorem opt_ex {α : Type} {o : Option α} {K : α → Prop} (k : opt o K) : ∃ v, o = some v ∧ K v := by
 cases o with
 | none => exact k.elim
 | some v => exact ⟨v, rfl, k⟩
def isB (v : Value) (K : Bool → Prop) : Prop := match v with
 | .bool b => K b
 | _ => False
theorem isB_ex {v : Value} {K : Bool → Prop} (k : isB v K) : ∃ b, v = .bool b ∧ K b := by
 cases v <;> simp only [isB] at k
 exact ⟨_, rfl, k⟩
def wcall (c : Option (FuncId × List Value)) (x : FuncId → List Value → Prop) (y : Prop) : Prop := match c with
 | some (f, args) => x f args
 | none => y
def operW (P : Program) (op : Op) (a : Ev.A) (h : Hp) (K : Value → Hp → Prop) : Prop :=
 wif (isReader op) (opt (reader' P h a op) fun v => K v h)
  (wcall (callee' a op) (fun f args => ∃ v h1, Snd P f args h v h1 ∧ K v h1) (opt (writer' P h a op) fun p => K p.1 p.2))
def stepW (P : Program) (all : List Oper) (o : Oper) (a : Ev.A) (h : Hp) (K : Ev.A → Hp → Prop) : Prop :=
 wif (wanted' all a o) (operW P o.op a h (fun v h1 => K (a.set o.dst v) h1)) (K (a.set o.dst undef') h)
def opsW (P : Program) (all : List Oper) : List Oper → Ev.A → Hp → (Ev.A → Hp → Prop) → Prop
 | [], a, h, K => K a h
 | o :: r, a, h, K => stepW P all o a h fun a1 h1 => opsW P all r a1 h1 K
theorem operW_ok {op : Op} {a : Ev.A} {K : Value → Hp → Prop} (k : operW P op a h K) : ∃ C v h1, CallerOk P C ∧ oper' P C h a op = some (v, h1) ∧ K v h1 := by
 unfold operW wif wcall at k
 split at k
 · rename_i hr
   obtain ⟨v, h0, hk⟩ := opt_ex k
   exact ⟨_, v, h, callerOk_none, by simp only [oper', hr, h0, withH], hk⟩
 · rename_i hr
   split at k
   · rename_i f args hc
     obtain ⟨v, h1, s, hk⟩ := k
     exact ⟨_, v, h1, orc_ok s callerOk_none, by simp only [oper', hr, hc]; exact orc_same, hk⟩
   · rename_i hc
     obtain ⟨⟨v, h1⟩, s, hk⟩ := opt_ex k
     exact ⟨_, v, h1, callerOk_none, by simp only [oper', hr, hc]; exact s, hk⟩
theorem stepW_ok {all : List Oper} {o : Oper} {a : Ev.A} {n : Nat} (hd : dstOk n o.dst = true) (hn : a.n = n) {K : Ev.A → Hp → Prop} (k : stepW P all o a h K) :
  ∃ C a1 h1, CallerOk P C ∧ step' P C all o a h = some (a1, h1) ∧ a1.n = n ∧ K a1 h1 := by
 unfold stepW wif at k
 split at k
 · rename_i hw
   obtain ⟨C, v, h1, HC, h0, hk⟩ := operW_ok k
   exact ⟨C, _, h1, HC, by simp only [step', hw, h0, A.put_ok v hd hn], (A.set_n _ _ _).trans hn, hk⟩
 · rename_i hw
   exact ⟨_, _, h, callerOk_none, by simp only [step', hw, A.put_ok undef' hd hn], (A.set_n _ _ _).trans hn, k⟩
theorem opsW_ok {all : List Oper} {n : Nat} : ∀ (r : List Oper) {a : Ev.A} {h : Hp} {K : Ev.A → Hp → Prop}, r.all (fun o => dstOk n o.dst) = true → a.n = n → opsW P all r a h K → ∃ a1 h1, opsR P all r a h a1 h1 ∧ a1.n = n ∧ K a1 h1
 | [], a, h, K, _, hn, k => ⟨a, h, ⟨rfl, rfl⟩, hn, k⟩
 | o :: r, a, h, K, hd, hn, k => by
   simp only [List.all_cons, Bool.and_eq_true] at hd
   obtain ⟨C, a2, h2, HC, hs, hn2, k2⟩ := stepW_ok hd.1 hn k
   obtain ⟨a1, h1, r1, hn1, k1⟩ := opsW_ok r hd.2 hn2 k2
   exact ⟨a1, h1, ⟨C, a2, h2, HC, hs, r1⟩, hn1, k1⟩
def Then (P : Program) (c : Code) (a : Ev.A) (h : Hp) (Q : Ex → Ev.A → Hp → Prop) : Prop := ∃ e a1 h1, Runs P c a h e a1 h1 ∧ a1.n = a.n ∧ Q e a1 h1
def dstsOk (n : Nat) : Code → Bool
 | .region _ ops _ => ops.toList.all fun o => dstOk n o.dst
 | .seq x y => match dstsOk n x with
   | true => dstsOk n y
   | false => false
 | .cond _ x y => match dstsOk n x with
   | true => dstsOk n y
   | false => false
 | .block _ b => dstsOk n b
 | .loop b => dstsOk n b
 | .scope b => dstsOk n b
 | _ => true
def drawW (P : Program) (ops : List Oper) (a : Ev.A) (h : Hp) (K : Ev.A → Hp → Prop) : Prop := ∃ C a1 h1, CallerOk P C ∧ draw' P C ops a h = some (a1, h1) ∧ a1.n = a.n ∧ K a1 h1
def wpc (P : Program) : Code → Ev.A → Hp → (Ex → Ev.A → Hp → Prop) → Prop
 | .skip, a, h, Q => Q .normal a h
 | .label _, a, h, Q => Q .normal a h
 | .region _ ops false, a, h, Q => opsW P ops.toList ops.toList a h (Q .normal)
 | .region _ ops true, a, h, Q => drawW P ops.toList a h (Q .normal)
 | .seq x y, a, h, Q => wpc P x a h fun e a1 h1 => match e with
   | .normal => wpc P y a1 h1 Q
   | .exit j => Q (.exit j) a1 h1
   | .ret => Q .ret a1 h1
 | .cond x t f, a, h, Q => opt (a.ev x) fun v => isB v fun b => wcond b (wpc P t a h Q) (wpc P f a h Q)
 | .block id b, a, h, Q => wpc P b a h fun e a1 h1 => match e with
   | .normal => Q .normal a1 h1
   | .exit j => wcond (j == id) (Q .normal a1 h1) (Q (.exit j) a1 h1)
   | .ret => Q .ret a1 h1
 | .loop b, a, h, Q => Then P (.loop b) a h Q
 | .scope b, a, h, Q => wpc P b a h Q
 | .exit id, a, h, Q => Q (.exit id) a h
 | .ret, a, h, Q => Q .ret a h
 | _, _, _, _ => False
theorem wpc_ok {n : Nat} : ∀ (c : Code) {a : Ev.A} {h : Hp} {Q : Ex → Ev.A → Hp → Prop}, dstsOk n c = true → a.n = n → wpc P c a h Q → Then P c a h Q := by
 intro c
 induction c with
 | skip => exact fun _ _ k => ⟨_, _, _, .skip, rfl, k⟩
 | label l => exact fun _ _ k => ⟨_, _, _, .label, rfl, k⟩
 | region id ops d =>
   intro a h Q hd hn k
   cases d with
   | false =>
     obtain ⟨a1, h1, r, hn1, k1⟩ := opsW_ok ops.toList (by simpa [dstsOk] using hd) hn k
     exact ⟨_, _, _, .region r, hn1.trans hn.symm, k1⟩
   | true =>
     obtain ⟨C, a1, h1, HC, hs, hn1, k1⟩ := k
     exact ⟨_, _, _, .draw C HC hs, hn1, k1⟩
 | seq x y ihx ihy =>
   intro a h Q hd hn k
   simp only [dstsOk] at hd
   split at hd
   · rename_i hx
     obtain ⟨e, a1, h1, r, hn1, k1⟩ := ihx hx hn k
     cases e with
     | normal =>
       obtain ⟨e, a2, h2, r2, hn2, k2⟩ := ihy hd (hn1.trans hn) k1
       exact ⟨e, a2, h2, .seqN r r2, hn2.trans hn1, k2⟩
     | exit j => exact ⟨_, _, _, .seqE r (by simp), hn1, k1⟩
     | ret => exact ⟨_, _, _, .seqE r (by simp), hn1, k1⟩
   · cases hd
 | cond x t f iht ihf =>
   intro a h Q hd hn k
   simp only [dstsOk] at hd
   split at hd
   · rename_i hx
     obtain ⟨v, hb, k⟩ := opt_ex k
     obtain ⟨b, rfl, k1, k2⟩ := isB_ex k
     cases b with
     | true =>
       obtain ⟨e, a1, h1, r, hn1, k3⟩ := iht hx hn (k1 rfl)
       exact ⟨e, a1, h1, .condT hb r, hn1, k3⟩
     | false =>
       obtain ⟨e, a1, h1, r, hn1, k3⟩ := ihf hd hn (k2 rfl)
       exact ⟨e, a1, h1, .condF hb r, hn1, k3⟩
   · cases hd
 | block id b ih =>
   intro a h Q hd hn k
   obtain ⟨e, a1, h1, r, hn1, k1⟩ := ih (by simpa [dstsOk] using hd) hn k
   cases e with
   | normal => exact ⟨_, _, _, .blockE r (by simp), hn1, k1⟩
   | exit j =>
     by_cases e : j = id
     · subst e; exact ⟨_, _, _, .blockX r, hn1, k1.1 (by simp)⟩
     · exact ⟨_, _, _, .blockE r (by simpa using e), hn1, k1.2 (by simpa using e)⟩
   | ret => exact ⟨_, _, _, .blockE r (by simp), hn1, k1⟩
 | loop b ih => exact fun _ _ k => k
 | scope b ih =>
   intro a h Q hd hn k
   obtain ⟨e, a1, h1, r, hn1, k1⟩ := ih (by simpa [dstsOk] using hd) hn k
   exact ⟨e, a1, h1, .scope r, hn1, k1⟩
 | exit id => exact fun _ _ k => ⟨_, _, _, .exit, rfl, k⟩
 | ret => exact fun _ _ k => ⟨_, _, _, .ret, rfl, k⟩
 | _ => exact fun _ _ k => k.elim
theorem loop_ok {n : Nat} {b : Code} (hd : dstsOk n b = true) {Q : Ex → Ev.A → Hp → Prop} (I : Nat → Ev.A → Hp → Prop)
  (step : ∀ m a h, a.n = n → I m a h → wpc P b a h fun e a1 h1 => match e with
   | .normal => ∃ m1, m1 < m ∧ I m1 a1 h1
   | .exit j => Q (.exit j) a1 h1
   | .ret => Q .ret a1 h1) : ∀ m a h, a.n = n → I m a h → Then P (.loop b) a h Q := by
 intro m
 induction m using Nat.strongRecOn with
 | _ m ih =>
   intro a h hn hi
   obtain ⟨e, a1, h1, r, hn1, k⟩ := wpc_ok b hd hn (step m a h hn hi)
   cases e with
   | normal =>
     obtain ⟨m1, hlt, hi1⟩ := k
     obtain ⟨e, a2, h2, r2, hn2, k2⟩ := ih m1 hlt a1 h1 (hn1.trans hn) hi1
     exact ⟨e, a2, h2, .loopN r r2, hn2.trans hn1, k2⟩
   | exit j => exact ⟨_, _, _, .loopE r (by simp), hn1, k⟩
   | ret => exact ⟨_, _, _, .loopE r (by simp), hn1, k⟩
def nav : List Nat → Code → Code
 | [], c => c
 | k :: p, c => match k, c with
   | 0, .seq x _ => nav p x
   | _, .seq _ y => nav p y
   | 0, .cond _ x _ => nav p x
   | _, .cond _ _ y => nav p y
   | _, .block _ b => nav p b
   | _, .loop b => nav p b
   | _, .scope b => nav p b
   | _, c => c
def bodyAt (f : Func) (p : List Nat) : Code := match f.body with
 | some c => nav p c
 | none => .skip
theorem args_get : ∀ (l : List Value) (i : Nat) (t : Tr Value) (k : Nat), (argsOf l i t).get k = if i ≤ k then (match l[k - i]? with | some v => some v | none => t.get k) else t.get k
 | [], i, t, k => by simp [argsOf]
 | v :: l, i, t, k => by
   rw [argsOf, args_get l (i + 1) (t.put i v) k, Tr.get_put]
   by_cases h1 : i + 1 ≤ k
   · simp only [if_pos h1, if_pos (show i ≤ k by omega), if_neg (show ¬ k = i by omega), show k - i = (k - (i + 1)) + 1 by omega, List.getElem?_cons_succ]
   · rw [if_neg h1]
     by_cases h2 : k = i
     · subst h2; simp
     · rw [if_neg h2, if_neg (by omega)]
def resOf : List Value → Value
 | [v] => v
 | vs => .tuple vs.toArray
theorem snd_intro (W : WfP P) {f : FuncId} {fn : Func} {c : Code} (hf : P.funcs[f]? = some fn) (hb : fn.body = some c) (hname : (fn.name == "runtime.NumGoroutine") = false) {args : List Value} (hlen : Nat.ble args.length fn.ntmps = true)
  {e : Ex} {a1 : Ev.A} {h1 : Hp} {vs : List Value} (r : Runs P c ⟨argsOf args 0 .lf, fn.ntmps⟩ h e a1 h1) (he : e = .normal ∨ e = .ret) (hv : results' P h1 a1 fn.results.toList = some vs) : Snd P f args h (resOf vs) h1 := by
 refine ⟨⟨fn, c, hf, hb, hname⟩, ?_⟩
 intro ρ N w args' H hA
 have h1' : args.length ≤ fn.ntmps := by simpa using hlen
 have A := act_enter hA h1'
 refine calls_of_wp hf hb ?_
 refine (runs_both (N := N) W r).1 ρ w _ H A _ (fun ρ1 w1 act1 r1 r2 r3 r4 => ?_)
 have key : act1.defers = [] ∧ ∃ v', (results fn act1.tmps).run P w1 = .ok v' w1 ∧ ∃ ρ1 v'', Ending.returned v' = .returned v'' ∧ ρ.le ρ1 ∧ HR P ρ1 N h1 w1 ∧ VR ρ1 (resOf vs) v'' ∧ Below N w w1 := by
  refine ⟨r2.defers, ?_⟩
  obtain ⟨vs', f1, f2⟩ := results_run r3 r2 hv
  have harr : ((fn.results.mapM (fun | .tmp t => pure (act1.tmps.getD t undef) | .cell a t => do loadVar t (← asAddr (act1.tmps.getD a undef)) : ResultVar → Sem Value))).run P w1 = .ok vs'.toArray w1 := by
   rw [Array.mapM_eq_mapM_toList, Sem.run_map]
   erw [f1]
   rfl
  unfold results
  simp only [Sem.run_bind]
  erw [harr]
  simp only [Result.andThen_ok]
  cases f2 with
  | nil => exact ⟨_, by simp, ρ1, _, rfl, r1, r3, .tuple .nil, r4⟩
  | @cons u u' l l' hu hl2 =>
    cases hl2 with
    | nil => exact ⟨_, by simp, ρ1, _, rfl, r1, r3, hu, r4⟩
    | @cons u2 u2' l2 l2' hu2 hl3 => exact ⟨.tuple (u' :: u2' :: l2').toArray, by simp, ρ1, _, rfl, r1, r3, .tuple (.cons hu (.cons hu2 hl3)), r4⟩
 rcases he with rfl | rfl <;> exact key
theorem snd_of (W : WfP P) {f : FuncId} {fn : Func} {c : Code} (hf : P.funcs[f]? = some fn) (hb : fn.body = some c) (hname : (fn.name == "runtime.NumGoroutine") = false) {n : Nat} (hn : fn.ntmps = n) (hd : dstsOk n c = true) {args : List Value}
  (hlen : Nat.ble args.length n = true) {K : Value → Hp → Prop}
  (k : ∀ a : Ev.A, a.n = n → (∀ t, a.get t = match args[t]? with | some v => v | none => undef') → wpc P c a h fun e a1 h1 => match e with
   | .exit _ => False
   | _ => opt (results' P h1 a1 fn.results.toList) fun vs => K (resOf vs) h1) : ∃ v h1, Snd P f args h v h1 ∧ K v h1 := by
 subst hn
 have hg : ∀ t, (⟨argsOf args 0 .lf, fn.ntmps⟩ : Ev.A).get t = match args[t]? with | some v => v | none => undef' := by
  intro t
  simp only [A.get, args_get, Nat.zero_le, if_true, Nat.sub_zero, Tr.get_lf]
  cases args[t]? <;> rfl
 obtain ⟨e, a1, h1, r, _, k1⟩ := wpc_ok c hd rfl (k _ rfl hg)
 cases e with
 | exit j => exact k1.elim
 | normal =>
   obtain ⟨vs, hv, hk⟩ := opt_ex k1
   exact ⟨_, _, snd_intro W hf hb hname hlen r (.inl rfl) hv, hk⟩
 | ret =>
   obtain ⟨vs, hv, hk⟩ := opt_ex k1
   exact ⟨_, _, snd_intro W hf hb hname hlen r (.inr rfl) hv, hk⟩
def drawR (P : Program) (all : List Oper) : List Oper → Ev.A → Hp → (Ev.A → Prop) → Prop
 | [], a, _, K => K a
 | o :: r, a, h, K => wif (wanted' all a o) (opt (reader' P h a o.op) fun v => wcond (sameV 9 v v) (drawR P all r (a.set o.dst v) h K) False) (drawR P all r (a.set o.dst undef') h K)
theorem wcond_f {b : Bool} {x : Prop} (k : wcond b x False) : b = true ∧ x := by
 cases b with
 | true => exact ⟨rfl, k.1 rfl⟩
 | false => exact (k.2 rfl).elim
theorem drawR_fix {all : List Oper} {h : Hp} : ∀ (r : List Oper) {a : Ev.A} {K : Ev.A → Prop}, drawR P all r a h K → ∃ a1, K a1 ∧ ∀ K' : Ev.A → Prop, K' a1 → drawR P all r a h K'
 | [], a, K, k => ⟨a, k, fun _ k' => k'⟩
 | o :: r, a, K, k => by
   simp only [drawR, wif] at k ⊢
   split at k
   · rename_i hw
     obtain ⟨v, hv, k⟩ := opt_ex k
     obtain ⟨hs, k⟩ := wcond_f k
     obtain ⟨a1, k1, k2⟩ := drawR_fix r k
     exact ⟨a1, k1, fun K' k' => by rw [hv, opt_some, hs, wcond_true]; exact k2 K' k'⟩
   · rename_i hw
     obtain ⟨a1, k1, k2⟩ := drawR_fix r k
     exact ⟨a1, k1, k2⟩
theorem drawR_go {C : Caller} {n : Nat} {all : List Oper} {ps : List (List Nat)} {h : Hp} (gs : List (Nat × Hp)) (tl : List Oper) : ∀ (r : List Oper) (i : Nat) {a : Ev.A} {K : Ev.A → Prop},
  (∀ k g a op v, i ≤ k → k < i + r.length → reader2' P g h a op = some v → sameV 9 v v = true → stable P g a op v k ps gs = true) →
  r.all (fun o => isReader o.op && dstOk n o.dst) = true → a.n = n → drawR P all r a h K →
  ∃ a1, heaps P C false 0 all i (r ++ tl) a h = heaps P C false 0 all (i + r.length) tl a1 h ∧ check P C false 0 all ps gs i (r ++ tl) a h = check P C false 0 all ps gs (i + r.length) tl a1 h ∧ a1.n = n ∧ K a1
 | [], i, a, K, _, _, hn, k => ⟨a, rfl, rfl, hn, k⟩
 | o :: r, i, a, K, hst, hd, hn, k => by
   simp only [List.all_cons, Bool.and_eq_true] at hd
   obtain ⟨⟨h1, h2⟩, hd⟩ := hd
   have hr2 : isReader2 false o.op = true := by simp only [isReader2, h1]
   have hst' : ∀ k g a op v, i + 1 ≤ k → k < i + 1 + r.length → reader2' P g h a op = some v → sameV 9 v v = true → stable P g a op v k ps gs = true := fun k g a op v e1 e2 => hst k g a op v (by omega) (by simp only [List.length_cons]; omega)
   simp only [drawR, wif] at k
   split at k
   · rename_i hw
     obtain ⟨v, hv, k⟩ := opt_ex k
     obtain ⟨hs, k⟩ := wcond_f k
     have hrd : ∀ g, reader2' P g h a o.op = some v := fun g => by simp only [reader2', h1, hv]
     have hstep : step2' P C false all (0 + i) o a h = some (a.set o.dst v, h) := by
      simp only [step2', hw, oper2', hr2, hrd, withH, A.put_ok v h2 hn]
     obtain ⟨a1, e1, e2, e3, e4⟩ := drawR_go (C := C) (all := all) (ps := ps) gs tl r (i + 1) hst' hd ((A.set_n _ _ _).trans hn) k
     have hsb := hst i (0 + i) a o.op v (Nat.le_refl _) (by simp only [List.length_cons]; omega) (hrd _) hs
     refine ⟨a1, ?_, ?_, e3, e4⟩
     · simp only [List.cons_append, heaps, hstep, hr2, List.length_cons]
       rw [e1, show i + 1 + r.length = i + (r.length + 1) by omega]
       cases heaps P C false 0 all (i + (r.length + 1)) tl a1 h <;> rfl
     · simp only [List.cons_append, check, hstep, hr2, hw, List.length_cons]
       rw [hrd]
       simp only [hsb]
       rw [e2, show i + 1 + r.length = i + (r.length + 1) by omega]
   · rename_i hw
     have hstep : step2' P C false all (0 + i) o a h = some (a.set o.dst undef', h) := by
      simp only [step2', hw, A.put_ok undef' h2 hn]
     obtain ⟨a1, e1, e2, e3, e4⟩ := drawR_go (C := C) (all := all) (ps := ps) gs tl r (i + 1) hst' hd ((A.set_n _ _ _).trans hn) k
     refine ⟨a1, ?_, ?_, e3, e4⟩
     · simp only [List.cons_append, heaps, hstep, hr2, List.length_cons]
       rw [e1, show i + 1 + r.length = i + (r.length + 1) by omega]
       cases heaps P C false 0 all (i + (r.length + 1)) tl a1 h <;> rfl
     · simp only [List.cons_append, check, hstep, hr2, hw, List.length_cons]
       rw [e2, show i + 1 + r.length = i + (r.length + 1) by omega]
theorem drawR_ok {ops : List Oper} {n : Nat} {a : Ev.A} {h : Hp} {K : Ev.A → Hp → Prop} (hn : a.n = n) (ho : orderOk false ops = true) (hr : ops.all (fun o => isReader o.op && dstOk n o.dst) = true)
  (k : drawR P ops ops a h fun a1 => K a1 h) : drawW P ops a h K := by
 have key := drawR_go (P := P) (C := fun _ _ _ => none) (all := ops) (ps := preds ops) (h := h) [(ops.length, h)] [] ops 0 (a := a) (K := fun a1 => K a1 h) (by
  intro k g a op v _ _ hv hs
  simp only [stable, hv, hs]
  split
  · rfl
  · split <;> rfl) hr hn k
 obtain ⟨a1, e1, e2, e3, e4⟩ := key
 refine ⟨_, a1, h, callerOk_none, ?_, e3.trans hn.symm, e4⟩
 rw [List.append_nil] at e1 e2
 simp only [heaps, check, Nat.zero_add] at e1 e2
 simp only [draw', ho, drawn, e1, e2]
def lastWaits (ops : List Oper) : Bool := match orderOk false ops with
 | true => (List.range (ops.length - 1)).all fun i => has (predsOf (preds ops) (ops.length - 1)) i && !has (predsOf (preds ops) i) (ops.length - 1)
 | false => false
theorem drawE_ok {ops pre : List Oper} {e : Oper} (hops : ops = pre ++ [e]) {n : Nat} {a : Ev.A} {h : Hp} {K : Ev.A → Hp → Prop} (hn : a.n = n) (ho : lastWaits ops = true) (hr : pre.all (fun o => isReader o.op && dstOk n o.dst) = true)
  (he : (isReader e.op == false && dstOk n e.dst && e.guard.isNone) = true) (k : drawR P ops pre a h fun a1 => operW P e.op a1 h fun v h1 => K (a1.set e.dst v) h1) : drawW P ops a h K := by
 unfold lastWaits at ho
 split at ho
 · rename_i hord
   have hlen : ops.length - 1 = pre.length := by rw [hops]; simp
   rw [hlen] at ho
   have hall : ∀ i, i < pre.length → has (predsOf (preds ops) pre.length) i = true ∧ has (predsOf (preds ops) i) pre.length = false := by
    intro i hi
    have := List.all_eq_true.1 ho i (List.mem_range.2 hi)
    simpa using this
   simp only [Bool.and_eq_true, beq_iff_eq] at he
   obtain ⟨⟨he1, he2⟩, he3⟩ := he
   obtain ⟨a1, k1, kf⟩ := drawR_fix pre k
   obtain ⟨C, v, h2, HC, hv, hk⟩ := operW_ok k1
   have key := drawR_go (P := P) (C := C) (all := ops) (ps := preds ops) (h := h) [(pre.length, h), (pre.length + 1, h2)] [e] pre 0 (a := a) (K := fun a' => a' = a1) (by
    intro k g a op v _ hk hv hs
    obtain ⟨q1, q2⟩ := hall k (by omega)
    simp only [stable, hv, hs, q1, q2]) hr hn (kf _ rfl)
   obtain ⟨a2, e1, e2, e3, rfl⟩ := key
   have hw : wanted' ops a2 e = true := by
    unfold wanted'
    cases hg : e.guard with
    | none => rfl
    | some _ => rw [hg] at he3; cases he3
   have hr2 : isReader2 false e.op = false := by simp only [isReader2, he1]
   have hstep : step2' P C false ops (0 + pre.length) e a2 h = some (a2.set e.dst v, h2) := by
    simp only [step2', hw, oper2', hr2, hv, A.put_ok v he2 e3]
   rw [← hops] at e1 e2
   have e1' : heaps P C false 0 ops 0 ops a h = some [(pre.length, h), (pre.length + 1, h2)] := by
    rw [e1]
    simp only [Nat.zero_add, heaps] at hstep ⊢
    simp only [hstep, hr2]
   have e2' : check P C false 0 ops (preds ops) [(pre.length, h), (pre.length + 1, h2)] 0 ops a h = some (a2.set e.dst v, h2) := by
    rw [e2]
    simp only [Nat.zero_add, check] at hstep ⊢
    simp only [hstep, hr2, hw]
   refine ⟨C, a2.set e.dst v, h2, HC, ?_, ((A.set_n _ _ _).trans e3).trans hn.symm, hk⟩
   simp only [draw', hord, drawn, e1', e2']
 · cases ho
theorem same_ptr (b o : Nat) : sameV 9 (.pointer (some ⟨b, o, none⟩)) (.pointer (some ⟨b, o, none⟩)) = true := by simp [sameV]
theorem same_slice (b o n c : Nat) : sameV 9 (.slice (some ⟨b, o, none⟩) n c) (.slice (some ⟨b, o, none⟩) n c) = true := by simp [sameV]
theorem same_slice0 (n c : Nat) : sameV 9 (.slice none n c) (.slice none n c) = true := by simp [sameV]
theorem same_string (s : ByteArray) : sameV 9 (.string s) (.string s) = true := by simp [sameV, bytesEq_beq]
theorem same_int (k : IntKind) (n : Int) : sameV 9 (.int k n) (.int k n) = true := by cases k <;> simp [sameV, kindEq, intEq_beq]
theorem same_bool (b : Bool) : sameV 9 (.bool b) (.bool b) = true := by simp [sameV]
theorem same_map (b : Nat) : sameV 9 (.map (some b)) (.map (some b)) = true := by simp [sameV]
end Go.Ev
end
section
namespace Go.Ev
open Go.RowKit
variable {P : Program} {h : Hp}
theorem nr {α : Sort _} {a b : α} (h : a = b) : a = b := h
structure Tag {β : Sort _} (x : β) : Type where
def Opt {α : Type} (o : Option α) (K : α → Prop) (_ : Tag K) : Prop := opt o K
def Wif (b : Bool) (x y : Prop) (_ : Tag x) (_ : Tag y) : Prop := wif b x y
def Wcond (b : Bool) (x y : Prop) (_ : Tag x) (_ : Tag y) : Prop := wcond b x y
def Wcall (c : Option (FuncId × List Value)) (x : FuncId → List Value → Prop) (y : Prop) (_ : Tag x) (_ : Tag y) : Prop := wcall c x y
def IsB (v : Value) (K : Bool → Prop) (_ : Tag K) : Prop := isB v K
def Wc (P : Program) (c : Code) (a : Ev.A) (h : Hp) (Q : Ex → Ev.A → Hp → Prop) (_ : Tag c) (_ : Tag Q) : Prop := wpc P c a h Q
def Ow (P : Program) (all r : List Oper) (a : Ev.A) (h : Hp) (K : Ev.A → Hp → Prop) (_ : Tag all) (_ : Tag r) (_ : Tag K) : Prop := opsW P all r a h K
def Dr (P : Program) (all r : List Oper) (a : Ev.A) (h : Hp) (K : Ev.A → Prop) (_ : Tag all) (_ : Tag r) (_ : Tag K) : Prop := drawR P all r a h K
def Dw (P : Program) (ops : List Oper) (a : Ev.A) (h : Hp) (K : Ev.A → Hp → Prop) (_ : Tag ops) (_ : Tag K) : Prop := drawW P ops a h K
def Th (P : Program) (c : Code) (a : Ev.A) (h : Hp) (Q : Ex → Ev.A → Hp → Prop) (_ : Tag c) (_ : Tag Q) : Prop := Then P c a h Q
section
theorem Opt_some {α : Type} (v : α) (K : α → Prop) (t : Tag K) : Opt (some v) K t = K v := nr rfl
theorem Wif_true (x y : Prop) (t : Tag x) (u : Tag y) : Wif true x y t u = x := nr rfl
theorem Wif_false (x y : Prop) (t : Tag x) (u : Tag y) : Wif false x y t u = y := nr rfl
theorem Wcond_true (x y : Prop) (t : Tag x) (u : Tag y) : Wcond true x y t u = x := wcond_true x y
theorem Wcond_false (x y : Prop) (t : Tag x) (u : Tag y) : Wcond false x y t u = y := wcond_false x y
theorem Wcond_in {b : Bool} {x y : Prop} {t : Tag x} {u : Tag y} (h1 : b = true → x) (h2 : b = false → y) : Wcond b x y t u := wcond_in h1 h2
theorem Wcall_some (f : FuncId) (args : List Value) (x : FuncId → List Value → Prop) (y : Prop) (t : Tag x) (u : Tag y) : Wcall (some (f, args)) x y t u = x f args := nr rfl
theorem Wcall_none (x : FuncId → List Value → Prop) (y : Prop) (t : Tag x) (u : Tag y) : Wcall none x y t u = y := nr rfl
theorem IsB_bool (b : Bool) (K : Bool → Prop) (t : Tag K) : IsB (.bool b) K t = K b := nr rfl
theorem Wc_skip (a : Ev.A) (h : Hp) (Q : Ex → Ev.A → Hp → Prop) (t : Tag Code.skip) (u : Tag Q) : Wc P .skip a h Q t u = Q .normal a h := nr rfl
theorem Wc_region (id : Nat) (ops : List Oper) (a : Ev.A) (h : Hp) (Q : Ex → Ev.A → Hp → Prop) (t : Tag (Code.region id ops.toArray false)) (u : Tag Q) : Wc P (.region id ops.toArray false) a h Q t u = Ow P ops ops a h (Q .normal) ⟨⟩ ⟨⟩ ⟨⟩ := nr rfl
theorem Wc_draw (id : Nat) (ops : List Oper) (a : Ev.A) (h : Hp) (Q : Ex → Ev.A → Hp → Prop) (t : Tag (Code.region id ops.toArray true)) (u : Tag Q) : Wc P (.region id ops.toArray true) a h Q t u = Dw P ops a h (Q .normal) ⟨⟩ ⟨⟩ := nr rfl
theorem Wc_seq (x y : Code) (a : Ev.A) (h : Hp) (Q : Ex → Ev.A → Hp → Prop) (t : Tag (x.seq y)) (u : Tag Q) : Wc P (.seq x y) a h Q t u = Wc P x a h (fun e a1 h1 => match e with
 | .normal => Wc P y a1 h1 Q ⟨⟩ ⟨⟩
 | .exit j => Q (.exit j) a1 h1
 | .ret => Q .ret a1 h1) ⟨⟩ ⟨⟩ := nr rfl
theorem Wc_cond (x : Operand) (t f : Code) (a : Ev.A) (h : Hp) (Q : Ex → Ev.A → Hp → Prop) (p : Tag (Code.cond x t f)) (u : Tag Q) : Wc P (.cond x t f) a h Q p u = Opt (a.ev x) (fun v => IsB v (fun b => Wcond b (Wc P t a h Q ⟨⟩ ⟨⟩) (Wc P f a h Q ⟨⟩ ⟨⟩) ⟨⟩ ⟨⟩) ⟨⟩) ⟨⟩ := nr rfl
theorem Wc_block (id : Nat) (b : Code) (a : Ev.A) (h : Hp) (Q : Ex → Ev.A → Hp → Prop) (t : Tag (Code.block id b)) (u : Tag Q) : Wc P (.block id b) a h Q t u = Wc P b a h (fun e a1 h1 => match e with
 | .normal => Q .normal a1 h1
 | .exit j => Wcond (j == id) (Q .normal a1 h1) (Q (.exit j) a1 h1) ⟨⟩ ⟨⟩
 | .ret => Q .ret a1 h1) ⟨⟩ ⟨⟩ := nr rfl
theorem Wc_loop (b : Code) (a : Ev.A) (h : Hp) (Q : Ex → Ev.A → Hp → Prop) (t : Tag b.loop) (u : Tag Q) : Wc P (.loop b) a h Q t u = Th P (.loop b) a h Q ⟨⟩ ⟨⟩ := nr rfl
theorem Wc_scope (b : Code) (a : Ev.A) (h : Hp) (Q : Ex → Ev.A → Hp → Prop) (t : Tag b.scope) (u : Tag Q) : Wc P (.scope b) a h Q t u = Wc P b a h Q ⟨⟩ ⟨⟩ := nr rfl
theorem Wc_exit (id : Nat) (a : Ev.A) (h : Hp) (Q : Ex → Ev.A → Hp → Prop) (t : Tag (Code.exit id)) (u : Tag Q) : Wc P (.exit id) a h Q t u = Q (.exit id) a h := nr rfl
theorem Wc_ret (a : Ev.A) (h : Hp) (Q : Ex → Ev.A → Hp → Prop) (t : Tag Code.ret) (u : Tag Q) : Wc P .ret a h Q t u = Q .ret a h := nr rfl
theorem Ow_nil (all : List Oper) (a : Ev.A) (h : Hp) (K : Ev.A → Hp → Prop) (t : Tag all) (s : Tag ([] : List Oper)) (u : Tag K) : Ow P all [] a h K t s u = K a h := nr rfl
theorem Ow_cons (all : List Oper) (o : Oper) (r : List Oper) (a : Ev.A) (h : Hp) (K : Ev.A → Hp → Prop) (t : Tag all) (s : Tag (o :: r)) (u : Tag K) : Ow P all (o :: r) a h K t s u =
 Wif (wanted' all a o) (Wif (isReader o.op) (Opt (reader' P h a o.op) (fun v => Ow P all r (a.set o.dst v) h K ⟨⟩ ⟨⟩ ⟨⟩) ⟨⟩)
  (Wcall (callee' a o.op) (fun f args => ∃ v h1, Snd P f args h v h1 ∧ Ow P all r (a.set o.dst v) h1 K ⟨⟩ ⟨⟩ ⟨⟩) (Opt (writer' P h a o.op) (fun p => Ow P all r (a.set o.dst p.1) p.2 K ⟨⟩ ⟨⟩ ⟨⟩) ⟨⟩) ⟨⟩ ⟨⟩) ⟨⟩ ⟨⟩)
  (Ow P all r (a.set o.dst undef') h K ⟨⟩ ⟨⟩ ⟨⟩) ⟨⟩ ⟨⟩ := nr rfl
theorem Dr_nil (all : List Oper) (a : Ev.A) (h : Hp) (K : Ev.A → Prop) (t : Tag all) (s : Tag ([] : List Oper)) (u : Tag K) : Dr P all [] a h K t s u = K a := nr rfl
theorem Dr_cons (all : List Oper) (o : Oper) (r : List Oper) (a : Ev.A) (h : Hp) (K : Ev.A → Prop) (t : Tag all) (s : Tag (o :: r)) (u : Tag K) : Dr P all (o :: r) a h K t s u =
  Wif (wanted' all a o) (Opt (reader' P h a o.op) (fun v => Wif (sameV 9 v v) (Dr P all r (a.set o.dst v) h K ⟨⟩ ⟨⟩ ⟨⟩) False ⟨⟩ ⟨⟩) ⟨⟩) (Dr P all r (a.set o.dst undef') h K ⟨⟩ ⟨⟩ ⟨⟩) ⟨⟩ ⟨⟩ := by
 show drawR P all (o :: r) a h K = _
 simp only [drawR]
 have : (fun v => wcond (sameV 9 v v) (drawR P all r (a.set o.dst v) h K) False) = fun v => Wif (sameV 9 v v) (Dr P all r (a.set o.dst v) h K ⟨⟩ ⟨⟩ ⟨⟩) False ⟨⟩ ⟨⟩ := by
  funext v
  cases sameV 9 v v with
  | true => rw [wcond_true, Wif_true]; rfl
  | false => rw [wcond_false, Wif_false]
 rw [this]
 rfl
theorem Wc_of {c : Code} {a : Ev.A} {h : Hp} {Q : Ex → Ev.A → Hp → Prop} (k : Wc P c a h Q ⟨⟩ ⟨⟩) : wpc P c a h Q := k
theorem Dw_reads {ops : List Oper} {n : Nat} {a : Ev.A} {h : Hp} {K : Ev.A → Hp → Prop} {t : Tag ops} {u : Tag K} (hn : a.n = n) (ho : orderOk false ops = true) (hr : ops.all (fun o => isReader o.op && dstOk n o.dst) = true)
 (k : Dr P ops ops a h (fun a1 => K a1 h) ⟨⟩ ⟨⟩ ⟨⟩) : Dw P ops a h K t u := drawR_ok hn ho hr k
def Dl (P : Program) (all : List Oper) : List Oper → Ev.A → Hp → (Ev.A → Hp → Prop) → Prop
 | [], _, _, _ => False
 | e :: r, a, h, K => match r with
   | [] => operW P e.op a h fun v h1 => K (a.set e.dst v) h1
   | o :: l => wif (wanted' all a e) (opt (reader' P h a e.op) fun v => wcond (sameV 9 v v) (Dl P all (o :: l) (a.set e.dst v) h K) False) (Dl P all (o :: l) (a.set e.dst undef') h K)
theorem Dl_ok {all : List Oper} : ∀ (r : List Oper) {a : Ev.A} {h : Hp} {K : Ev.A → Hp → Prop}, Dl P all r a h K → ∃ e, r = r.dropLast ++ [e] ∧ r.getLast? = some e ∧ drawR P all r.dropLast a h fun a1 => operW P e.op a1 h fun v h1 => K (a1.set e.dst v) h1
 | [], a, h, K, k => k.elim
 | [e], a, h, K, k => ⟨e, rfl, rfl, k⟩
 | e :: o :: l, a, h, K, k => by
   simp only [Dl, wif] at k
   split at k
   · rename_i hw
     obtain ⟨v, hv, k⟩ := opt_ex k
     obtain ⟨hs, k⟩ := wcond_f k
     obtain ⟨x, h1, h2, h3⟩ := Dl_ok (o :: l) k
     refine ⟨x, by simpa using h1, by simpa using h2, ?_⟩
     simp only [List.dropLast_cons_of_ne_nil (show o :: l ≠ [] by simp), drawR, hw, wif, hv, opt_some, hs, wcond_true]
     exact h3
   · rename_i hw
     obtain ⟨x, h1, h2, h3⟩ := Dl_ok (o :: l) k
     refine ⟨x, by simpa using h1, by simpa using h2, ?_⟩
     simp only [List.dropLast_cons_of_ne_nil (show o :: l ≠ [] by simp), drawR, hw, wif]
     exact h3
def DL (P : Program) (all r : List Oper) (a : Ev.A) (h : Hp) (K : Ev.A → Hp → Prop) (_ : Tag all) (_ : Tag r) (_ : Tag K) : Prop := Dl P all r a h K
theorem DL_one (all : List Oper) (e : Oper) (a : Ev.A) (h : Hp) (K : Ev.A → Hp → Prop) (t : Tag all) (s : Tag [e]) (u : Tag K) : DL P all [e] a h K t s u = Wif (isReader e.op) (Opt (reader' P h a e.op) (fun v => K (a.set e.dst v) h) ⟨⟩)
 (Wcall (callee' a e.op) (fun f args => ∃ v h1, Snd P f args h v h1 ∧ K (a.set e.dst v) h1) (Opt (writer' P h a e.op) (fun p => K (a.set e.dst p.1) p.2) ⟨⟩) ⟨⟩ ⟨⟩) ⟨⟩ ⟨⟩ := nr rfl
theorem DL_cons (all : List Oper) (e o : Oper) (l : List Oper) (a : Ev.A) (h : Hp) (K : Ev.A → Hp → Prop) (t : Tag all) (s : Tag (e :: o :: l)) (u : Tag K) : DL P all (e :: o :: l) a h K t s u =
  Wif (wanted' all a e) (Opt (reader' P h a e.op) (fun v => Wif (sameV 9 v v) (DL P all (o :: l) (a.set e.dst v) h K ⟨⟩ ⟨⟩ ⟨⟩) False ⟨⟩ ⟨⟩) ⟨⟩) (DL P all (o :: l) (a.set e.dst undef') h K ⟨⟩ ⟨⟩ ⟨⟩) ⟨⟩ ⟨⟩ := by
 show Dl P all (e :: o :: l) a h K = _
 simp only [Dl]
 have : (fun v => wcond (sameV 9 v v) (Dl P all (o :: l) (a.set e.dst v) h K) False) = fun v => Wif (sameV 9 v v) (DL P all (o :: l) (a.set e.dst v) h K ⟨⟩ ⟨⟩ ⟨⟩) False ⟨⟩ ⟨⟩ := by
  funext v
  cases sameV 9 v v with
  | true => rw [wcond_true, Wif_true]; rfl
  | false => rw [wcond_false, Wif_false]
 rw [this]
 rfl
def lastFine (n : Nat) (ops : List Oper) : Bool := match lastWaits ops, ops.dropLast.all (fun o => isReader o.op && dstOk n o.dst), ops.getLast? with
 | true, true, some e => isReader e.op == false && dstOk n e.dst && e.guard.isNone
 | _, _, _ => false
theorem Dw_last {ops : List Oper} {n : Nat} {a : Ev.A} {h : Hp} {K : Ev.A → Hp → Prop} {t : Tag ops} {u : Tag K} (hn : a.n = n) (ho : lastFine n ops = true) (k : DL P ops ops a h K ⟨⟩ ⟨⟩ ⟨⟩) : Dw P ops a h K t u := by
 obtain ⟨e, h1, h2, h3⟩ := Dl_ok ops k
 unfold lastFine at ho
 rw [h2] at ho
 split at ho
 · rename_i e' q1 q2 q3
   injection q3 with q3
   subst q3
   exact drawE_ok h1 hn q1 q2 ho h3
 · cases ho
end
theorem loop_go {n : Nat} {b : Code} (hd : dstsOk n b = true) {Q : Ex → Ev.A → Hp → Prop} {t : Tag b.loop} {u : Tag Q} (I : Nat → Ev.A → Hp → Prop)
  (step : ∀ m a h, a.n = n → I m a h → Wc P b a h (fun e a1 h1 => match e with
   | .normal => ∃ m1, m1 < m ∧ I m1 a1 h1
   | .exit j => Q (.exit j) a1 h1
   | .ret => Q .ret a1 h1) ⟨⟩ ⟨⟩) (m : Nat) (a : Ev.A) (h : Hp) (hn : a.n = n) (hi : I m a h) : Th P (.loop b) a h Q t u :=
 loop_ok hd I (fun m a h hn hi => Wc_of (step m a h hn hi)) m a h hn hi
theorem snd_go (W : WfP P) {f : FuncId} {fn : Func} {c : Code} (hf : P.funcs[f]? = some fn) (hb : fn.body = some c) (hname : (fn.name == "runtime.NumGoroutine") = false) {n : Nat} (hn : fn.ntmps = n) (hd : dstsOk n c = true) {args : List Value}
  (hlen : Nat.ble args.length n = true) {K : Value → Hp → Prop}
  (k : ∀ a : Ev.A, a.n = n → (∀ t, a.get t = match args[t]? with | some v => v | none => undef') → Wc P c a h (fun e a1 h1 => match e with
   | .exit _ => False
   | _ => Opt (results' P h1 a1 fn.results.toList) (fun vs => K (resOf vs) h1) ⟨⟩) ⟨⟩ ⟨⟩) : ∃ v h1, Snd P f args h v h1 ∧ K v h1 :=
 snd_of W hf hb hname hn hd hlen (fun a hn hg => Wc_of (k a hn hg))
attribute [irreducible] Opt Wif Wcond Wcall IsB Wc Ow Dr Dw DL Th
end Go.Ev
end
section
namespace Go.Ev
open Go.RowKit
variable {P : Program} {h : Hp}
theorem kindEq_self (k : IntKind) : kindEq k k = true := by cases k <;> rfl
theorem intEq_dec (a b : Int) : intEq a b = decide (a = b) := by rw [intEq_beq, Bool.eq_iff_iff]; simp
theorem bytesEq_dec (a b : List UInt8) : bytesEq a b = decide (a = b) := by rw [bytesEq_beq, Bool.eq_iff_iff]; simp
section
variable {t : TypeId} {x y : Operand} {k : IntKind} {a b : Int} {s u : ByteArray}
theorem bin_add : binOp' P h .add t x y (.int k a) (.int k b) = some (.int k (k.wrap (a + b))) := by simp [binOp', kindEq_self, intOp]
theorem bin_sub : binOp' P h .sub t x y (.int k a) (.int k b) = some (.int k (k.wrap (a - b))) := by simp [binOp', kindEq_self, intOp]
theorem bin_mul : binOp' P h .mul t x y (.int k a) (.int k b) = some (.int k (k.wrap (a * b))) := by simp [binOp', kindEq_self, intOp]
theorem bin_eql : binOp' P h .eql t x y (.int k a) (.int k b) = some (.bool (decide (a = b))) := by simp [binOp', kindEq_self, intOp, intEq_dec]
theorem bin_neq : binOp' P h .neq t x y (.int k a) (.int k b) = some (.bool (!decide (a = b))) := by simp [binOp', kindEq_self, intOp, intEq_dec]
theorem bin_lss : binOp' P h .lss t x y (.int k a) (.int k b) = some (.bool (decide (a < b))) := by simp [binOp', kindEq_self, intOp, intLt_lt]
theorem bin_leq : binOp' P h .leq t x y (.int k a) (.int k b) = some (.bool (decide (a ≤ b))) := by simp [binOp', kindEq_self, intOp, intLe_le]
theorem bin_gtr : binOp' P h .gtr t x y (.int k a) (.int k b) = some (.bool (decide (b < a))) := by simp [binOp', kindEq_self, intOp, intLt_lt]
theorem bin_geq : binOp' P h .geq t x y (.int k a) (.int k b) = some (.bool (decide (b ≤ a))) := by simp [binOp', kindEq_self, intOp, intLe_le]
theorem str_eql : binOp' P h .eql t x y (.string s) (.string u) = some (.bool (decide (s.data.toList = u.data.toList))) := by simp [binOp', strOp, bytesEq_dec]
theorem str_neq : binOp' P h .neq t x y (.string s) (.string u) = some (.bool (!decide (s.data.toList = u.data.toList))) := by simp [binOp', strOp, bytesEq_dec]
theorem un_not {c : Bool} : unOp' .not (.bool c) = some (.bool (!c)) := rfl
theorem un_neg : unOp' .neg (.int k a) = some (.int k (k.wrap (0 - a))) := rfl
end
theorem load_struct {t : TypeId} {fs : Array Field} {s : Nat} (hu : P.underlying t = some (.struct fs)) (hs : sizeOf' P t = some s) (h : Hp) (a : Addr) :
  loadVar' P h t a = match h.loads a s with | some l => some (.agg l.toArray) | none => none := by
 unfold loadVar'
 rw [hu]
 unfold sizeOf' at hs
 split at hs
 · rename_i i hi
   injection hs with hs
   simp only [hs]
   cases h.loads a s <;> rfl
 · cases hs
def cellType : TypeDesc → Bool
 | .struct _ => false
 | .array _ _ => false
 | _ => true
theorem load_cell {t : TypeId} {d : TypeDesc} (hu : P.underlying t = some d) (hd : cellType d = true) (h : Hp) (a : Addr) : loadVar' P h t a = h.load a := by
 unfold loadVar'
 rw [hu]
 cases d <;> simp_all [cellType]
theorem store_var {t : TypeId} {s : Nat} (hs : sizeOf' P t = some s) (h : Hp) (a : Addr) (v : Value) : storeVar' P h t a v = match Nat.beq v.cells.toList.length s with | true => h.stores a v.cells.toList | false => none := by
 unfold storeVar'
 unfold sizeOf' at hs
 split at hs
 · rename_i i hi
   injection hs with hs
   simp only [hs]
   cases Nat.beq v.cells.toList.length s <;> rfl
 · cases hs
theorem add_mk (b o n : Nat) : (⟨b, o, none⟩ : Addr).add n = ⟨b, o + n, none⟩ := by
 unfold Addr.add
 split <;> simp_all
theorem field_addr {t : TypeId} {fs : Array Field} {k : Nat} (ft off : Nat) {s : Nat} (hu : P.underlying t = some (.struct fs)) (hf : (fs.toList[k]?).map (fun f => (f.type, f.offset)) = some (ft, off)) (hs : sizeOf' P ft = some (s + 1)) (b o : Nat) :
  fieldAddr' P t (.pointer (some ⟨b, o, none⟩)) k = some (.pointer (some ⟨b, o + off, none⟩)) := by
 cases hk : fs.toList[k]? with
 | none => rw [hk] at hf; cases hf
 | some f =>
   rw [hk] at hf
   simp only [Option.map_some, Option.some.injEq, Prod.mk.injEq] at hf
   simp only [fieldAddr', hu, hk, hf.1, hs, hf.2]
   rw [add_mk]
theorem index_addr {t e : TypeId} {s : Nat} (hu : P.underlying t = some (.slice e)) (hs : sizeOf' P e = some s) {b o n c : Nat} {k : IntKind} {i : Nat} (hi : i < n) :
  indexAddr' P t (.slice (some ⟨b, o, none⟩) n c) (.int k (i : Int)) = some (.pointer (some ⟨b, o + i * s, none⟩)) := by
 have : Nat.blt i n = true := by simpa using hi
 have e : natOf (.int k (i : Int)) = some i := rfl
 simp only [indexAddr', hu, e, this, hs]
 rw [add_mk]
theorem len_slice {t e : TypeId} (hu : P.underlying t = some (.slice e)) (h : Hp) (b : Option Addr) (n c : Nat) (r : List TypeId) : len' P h (t :: r) [.slice b n c] = some (.int .i64 n) := by
 simp only [len', hu]
theorem len_string {t : TypeId} (hu : P.underlying t = some .string) (h : Hp) (s : ByteArray) (r : List TypeId) : len' P h (t :: r) [.string s] = some (.int .i64 s.data.toList.length) := by
 simp only [len', hu]
def placeOf (P : Program) (fs : List Field) (i : Nat) : Option (Nat × Nat) := match fs[i]? with
 | some f => match sizeOf' P f.type with
   | some s => some (f.offset, s)
   | none => none
 | none => none
theorem build_of {t : TypeId} {z : List Value} {fs : Array Field} {tab : List (Nat × Nat)} (hz : zero' P t = some (.agg z.toArray)) (hu : P.underlying t = some (.struct fs)) (hall : fs.toList.all (fun f => (P.info? f.type).isSome) = true)
  (htab : ∀ i, placeOf P fs.toList i = tab[i]?) (ps : List (Nat × Value)) :
  build' P t ps = match fill' (fun i => tab[i]?) z ps with | some c => some (.agg c.toArray) | none => none := by
 have h0 : build' P t ps = match fill' (placeOf P fs.toList) z ps with | some c => some (.agg c.toArray) | none => none := by
  unfold build'
  rw [hz]
  simp only [hu, hall, Value.cells, List.toList_toArray]
  cases h : fill' (placeOf P fs.toList) z ps <;> (erw [h])
 rw [h0, show placeOf P fs.toList = fun i => tab[i]? from funext htab]
theorem buildRow_of {t e : TypeId} {s n : Nat} {zv : Value} {z : List Value} (hu : P.underlying t = some (.slice e)) (hs : sizeOf' P e = some s) (hz : zero' P e = some zv) (hc : zv.cells.toList = z) (hp : Nat.beq z.length s = true ∧ 0 < s) (hn : n * s ≤ 100000) (ps : List (Nat × Value)) :
  buildRow' P t n ps = match fill' (fun i => some (i * s, s)) (repeatN z n) ps with
   | some c => some (.cells ⟨c, e, 0, 0, false⟩, fun b => .slice (some ⟨b, 0, none⟩) n n)
   | none => none := by
 have h1 : Nat.blt 0 s = true := by simpa using hp.2
 have h2 : Nat.ble (n * s) 100000 = true := by simpa using hn
 simp only [buildRow', hu, hs, hz, hc, hp.1, h1, h2]
 cases fill' (fun i => some (i * s, s)) (repeatN z n) ps <;> rfl
theorem makeRow_of {t e : TypeId} {s l c : Nat} {zv : Value} {z : List Value} (hu : P.underlying t = some (.slice e)) (hs : sizeOf' P e = some s) (hz : zero' P e = some zv) (hcz : zv.cells.toList = z) (hp : Nat.beq z.length s = true ∧ 0 < s)
  (hby : (match P.info? e with | some i => Nat.ble (100000 * i.bytes) 100000000 | none => false) = true) (hl : l ≤ c) (hc : c * s ≤ 100000) :
  makeRow' P t (.int .i64 (l : Int)) (.int .i64 (c : Int)) = some (.cells ⟨repeatN z c, e, 0, 0, false⟩, fun b => .slice (some ⟨b, 0, none⟩) l c) := by
 have h1 : Nat.blt 0 s = true := by simpa using hp.2
 have h2 : Nat.ble (c * s) 100000 = true := by simpa using hc
 have h3 : Nat.ble l c = true := by simpa using hl
 have hc1 : c ≤ 100000 := Nat.le_trans (Nat.le_mul_of_pos_right c hp.2) hc
 have h4 : Nat.ble c 100000 = true := by simpa using hc1
 have e1 : natOf (.int .i64 (l : Int)) = some l := rfl
 have e2 : natOf (.int .i64 (c : Int)) = some c := rfl
 cases hi : P.info? e with
 | none => rw [hi] at hby; cases hby
 | some i =>
   rw [hi] at hby
   have hsz : i.size = s := by unfold sizeOf' at hs; rw [hi] at hs; injection hs
   have h5 : Nat.ble (c * i.bytes) 100000000 = true := by
    have hb : 100000 * i.bytes ≤ 100000000 := by simpa using hby
    have : c * i.bytes ≤ 100000 * i.bytes := Nat.mul_le_mul_right _ hc1
    simp
    omega
   simp only [makeRow', hu, e1, e2, hi, hz, hcz, hsz, hp.1, h1, h2, h3, h4, h5]
def Hp.newH (h : Hp) (o : CObj) : Hp := { h with objs := h.objs.put h.next o, next := h.next + 1 }
theorem new_eq (h : Hp) (o : CObj) : h.new o = some (h.next, h.newH o) := rfl
theorem get_newH (h : Hp) (o : CObj) (b : Nat) : (h.newH o).objs.get b = if b = h.next then some o else h.objs.get b := Tr.get_put _ _ _ _
theorem get_putH (h : Hp) (c : Nat) (o : CObj) (b : Nat) : (h.put c o).objs.get b = if b = c then some o else h.objs.get b := Tr.get_put _ _ _ _
theorem next_newH (h : Hp) (o : CObj) : (h.newH o).next = h.next + 1 := rfl
def Hp.own (h : Hp) (b : Nat) (e : TypeId) (c : List Value) : Prop := h.base ≤ b ∧ b < h.next ∧ h.objs.get b = some (.cells ⟨c, e, 0, 0, false⟩)
theorem blt_false {a b : Nat} (h : b ≤ a) : Nat.blt a b = false := by
 cases e : Nat.blt a b with
 | false => rfl
 | true =>
   have : a < b := by simpa using e
   omega
theorem blt_true {a b : Nat} (h : a < b) : Nat.blt a b = true := by simpa using h
theorem row_own {b : Nat} {e : TypeId} {c : List Value} (k : h.own b e c) : h.row b = some ⟨c, e, 0, 0, false⟩ := by simp only [Hp.row, k.2.2]
theorem load_own {b o : Nat} {e : TypeId} {c : List Value} (k : h.own b e c) : h.load ⟨b, o, none⟩ = c[o]? := by
 simp only [Hp.load, blt_false k.1, row_own k]
theorem loads_own {b o n : Nat} {e : TypeId} {c : List Value} (k : h.own b e c) : h.loads ⟨b, o, none⟩ n = takeN (c.drop o) n := by
 cases n with
 | zero => simp [Hp.loads, takeN]
 | succ n => simp only [Hp.loads, blt_false k.1, row_own k]
theorem stores_own {b o : Nat} {e : TypeId} {c vs c1 : List Value} (k : h.own b e c) (h1 : vs.all oneCell = true) (h2 : splice c o vs = some c1) (h3 : vs ≠ []) :
  h.stores ⟨b, o, none⟩ vs = some (h.put b (.cells ⟨c1, e, 0, 0, false⟩)) := by
 cases vs with
 | nil => exact absurd rfl h3
 | cons v vs => simp only [Hp.stores, h1, row_own k, h2]
theorem own_new (hb : h.base ≤ h.next) (e : TypeId) (c : List Value) : (h.newH (.cells ⟨c, e, 0, 0, false⟩)).own h.next e c :=
 ⟨hb, Nat.lt_succ_self _, by rw [get_newH, if_pos rfl]⟩
theorem own_newH {b : Nat} {e : TypeId} {c : List Value} (k : h.own b e c) (o : CObj) : (h.newH o).own b e c :=
 ⟨k.1, Nat.lt_succ_of_lt k.2.1, by rw [get_newH, if_neg (Nat.ne_of_lt k.2.1)]; exact k.2.2⟩
theorem own_put {b : Nat} {e : TypeId} {c : List Value} (k : h.own b e c) {d : Nat} (hd : b ≠ d) (o : CObj) : (h.put d o).own b e c :=
 ⟨k.1, k.2.1, by rw [get_putH, if_neg hd]; exact k.2.2⟩
theorem own_put_same {b : Nat} {e : TypeId} {c : List Value} (k : h.own b e c) (c1 : List Value) : (h.put b (.cells ⟨c1, e, 0, 0, false⟩)).own b e c1 :=
 ⟨k.1, k.2.1, by rw [get_putH, if_pos rfl]⟩
structure Ext (h h1 : Hp) : Prop where
 base : h1.base = h.base
 ro : h1.ro = h.ro
 next : h.next ≤ h1.next
 objs : ∀ b, b < h.next → h1.objs.get b = h.objs.get b
 nfam : h.nfam ≤ h1.nfam
 fams : ∀ f, f < h.nfam → h1.fams.get f = h.fams.get f
theorem Ext.refl (h : Hp) : Ext h h := ⟨rfl, rfl, Nat.le_refl _, fun _ _ => rfl, Nat.le_refl _, fun _ _ => rfl⟩
theorem Ext.trans {a b c : Hp} (h : Ext a b) (k : Ext b c) : Ext a c :=
 ⟨k.base.trans h.base, k.ro.trans h.ro, Nat.le_trans h.next k.next, fun b hb => (k.objs b (Nat.lt_of_lt_of_le hb h.next)).trans (h.objs b hb), Nat.le_trans h.nfam k.nfam, fun f hf => (k.fams f (Nat.lt_of_lt_of_le hf h.nfam)).trans (h.fams f hf)⟩
theorem Ext.new (h : Hp) (o : CObj) : Ext h (h.newH o) := ⟨rfl, rfl, Nat.le_succ _, fun b hb => by rw [get_newH, if_neg (Nat.ne_of_lt hb)], Nat.le_refl _, fun _ _ => rfl⟩
theorem Ext.put {h h1 : Hp} (k : Ext h h1) {b : Nat} (hb : h.next ≤ b) (o : CObj) : Ext h (h1.put b o) :=
 ⟨k.base, k.ro, k.next, fun d hd => by rw [get_putH, if_neg (by omega)]; exact k.objs d hd, k.nfam, k.fams⟩
theorem own_ext {h1 : Hp} (x : Ext h h1) {b : Nat} {e : TypeId} {c : List Value} (k : h.own b e c) : h1.own b e c :=
 ⟨by rw [x.base]; exact k.1, Nat.lt_of_lt_of_le k.2.1 x.next, by rw [x.objs b k.2.1]; exact k.2.2⟩
structure ExtS (S : Nat → Prop) (h h1 : Hp) : Prop where
 base : h1.base = h.base
 ro : h1.ro = h.ro
 next : h.next ≤ h1.next
 objs : ∀ b, b < h.next → ¬ S b → h1.objs.get b = h.objs.get b
 nfam : h.nfam ≤ h1.nfam
 fams : ∀ f, f < h.nfam → h1.fams.get f = h.fams.get f
variable {S : Nat → Prop}
theorem Ext.toS {h h1 : Hp} (x : Ext h h1) : ExtS S h h1 := ⟨x.base, x.ro, x.next, fun b hb _ => x.objs b hb, x.nfam, x.fams⟩
theorem ExtS.trans {a b c : Hp} (h : ExtS S a b) (k : ExtS S b c) : ExtS S a c :=
 ⟨k.base.trans h.base, k.ro.trans h.ro, Nat.le_trans h.next k.next, fun b hb hs => (k.objs b (Nat.lt_of_lt_of_le hb h.next) hs).trans (h.objs b hb hs), Nat.le_trans h.nfam k.nfam, fun f hf => (k.fams f (Nat.lt_of_lt_of_le hf h.nfam)).trans (h.fams f hf)⟩
theorem ExtS.put {h h1 : Hp} (k : ExtS S h h1) {b : Nat} (hb : h.next ≤ b ∨ S b) (o : CObj) : ExtS S h (h1.put b o) :=
 ⟨k.base, k.ro, k.next, fun d hd hs => by
  rw [get_putH, if_neg (by
   intro e; subst e
   rcases hb with hb | hb
   · omega
   · exact hs hb)]
  exact k.objs d hd hs, k.nfam, k.fams⟩
theorem ExtS.ext {h h1 : Hp} (x : ExtS S h h1) (hS : ∀ b, b < h.next → ¬ S b) : Ext h h1 := ⟨x.base, x.ro, x.next, fun b hb => x.objs b hb (hS b hb), x.nfam, x.fams⟩
theorem ExtS.mono {T : Nat → Prop} {h h1 : Hp} (x : ExtS S h h1) (hS : ∀ b, b < h.next → S b → T b) : ExtS T h h1 := ⟨x.base, x.ro, x.next, fun b hb ht => x.objs b hb (fun hs => ht (hS b hb hs)), x.nfam, x.fams⟩
theorem own_extS {h1 : Hp} (x : ExtS S h h1) {b : Nat} {e : TypeId} {c : List Value} (k : h.own b e c) (hS : ¬ S b) : h1.own b e c :=
 ⟨by rw [x.base]; exact k.1, Nat.lt_of_lt_of_le k.2.1 x.next, by rw [x.objs b k.2.1 hS]; exact k.2.2⟩
structure Ro where
 b : Nat
 f : Nat → Nat → Option Value
def Hp.rom (h : Hp) : Ro := ⟨h.base, h.ro⟩
theorem ExtS.rom {h h1 : Hp} (x : ExtS S h h1) : h1.rom = h.rom := by simp only [Hp.rom, x.base, x.ro]
theorem Ext.rom {h h1 : Hp} (x : Ext h h1) : h1.rom = h.rom := by simp only [Hp.rom, x.base, x.ro]
def roAt (r : Ro) (b o : Nat) (cs : List Value) : Prop := b < r.b ∧ ∀ j v, cs[j]? = some v → r.f b (o + j) = some v
theorem load_ro {r : Ro} (hr : h.rom = r) {b o j : Nat} {cs : List Value} (k : roAt r b o cs) {v : Value} (hj : cs[j]? = some v) : h.load ⟨b, o + j, none⟩ = some v := by
 subst hr
 have k1 : b < h.base := k.1
 have k2 : h.ro b (o + j) = some v := k.2 j v hj
 simp only [Hp.load, blt_true k1, k2]
theorem roTake_at {f : Nat → Option Value} : ∀ (cs : List Value) (o : Nat), (∀ j v, cs[j]? = some v → f (o + j) = some v) → roTake f o cs.length = some cs
 | [], _, _ => rfl
 | c :: cs, o, hf => by
   have h0 := hf 0 c rfl
   simp only [Nat.add_zero] at h0
   have hr := roTake_at cs (o + 1) (fun j v hj => by rw [show o + 1 + j = o + (j + 1) by omega]; exact hf (j + 1) v (by simpa using hj))
   simp only [List.length_cons, roTake, h0, hr]
theorem loads_ro {r : Ro} (hr : h.rom = r) {b o n : Nat} {cs : List Value} (k : roAt r b o cs) (hn : cs.length = n) : h.loads ⟨b, o, none⟩ n = some cs := by
 subst hr
 subst hn
 have k1 : b < h.base := k.1
 cases cs with
 | nil => rfl
 | cons c cs => exact (by simp only [List.length_cons, Hp.loads, blt_true k1]; exact roTake_at (c :: cs) o k.2)
def Hp.var (h : Hp) (e : TypeId) (c0 c1 : List Value) : Hp := (h.newH (.cells ⟨c0, e, 0, 0, false⟩)).put h.next (.cells ⟨c1, e, 0, 0, false⟩)
theorem var_ok {h : Hp} (hb : h.base ≤ h.next) {e : TypeId} {c0 c1 : List Value} (hs : splice c0 0 c1 = some c1) (h1 : c1.all oneCell = true) (hne : c1 ≠ []) :
  (h.newH (.cells ⟨c0, e, 0, 0, false⟩)).stores ⟨h.next, 0, none⟩ c1 = some (h.var e c0 c1) ∧ (h.var e c0 c1).own h.next e c1 ∧ Ext h (h.var e c0 c1) ∧ (h.var e c0 c1).base ≤ (h.var e c0 c1).next ∧ (h.var e c0 c1).rom = h.rom :=
 ⟨stores_own (own_new hb e c0) h1 hs hne, own_put_same (own_new hb e c0) c1, (Ext.new h _).put (Nat.le_refl _) _, Nat.le_succ_of_le hb, rfl⟩
theorem resOf_one (v : Value) : resOf [v] = v := rfl
theorem resOf_nil : resOf [] = .tuple #[] := rfl
theorem resOf_more (v u : Value) (l : List Value) : resOf (v :: u :: l) = .tuple (v :: u :: l).toArray := rfl
theorem wrap64_nat {n : Nat} (h : n < 9223372036854775808) : IntKind.i64.wrap (n : Int) = (n : Int) := by
 rw [IntKind.wrap_i64]; omega
theorem wrap64_succ {n m : Nat} (h : n < m) (hm : m ≤ 9223372036854775807) : IntKind.i64.wrap ((n : Int) + 1) = ((n + 1 : Nat) : Int) := by
 rw [IntKind.wrap_i64]; omega
theorem beq_nat (n : Nat) : Nat.beq n n = true := by simp
attribute [go_sem] Opt_some Wif_true Wif_false Wcond_true Wcond_false Wcall_some Wcall_none IsB_bool Wc_skip Wc_region Wc_draw Wc_seq Wc_cond Wc_block Wc_loop Wc_scope Wc_exit Wc_ret Ow_nil Ow_cons Dr_nil Dr_cons DL_one DL_cons Nat.reduceBEq isReader wanted' callee' reader' writer' maker' A.ev A.get_set A.get_set_none A.set_n new_eq plain Value.cells evList onlyH resOf_one resOf_nil resOf_more results' result' takeN List.drop_zero List.drop_succ_cons
 bin_add bin_sub bin_mul bin_eql bin_neq bin_lss bin_leq bin_gtr bin_geq str_eql str_neq un_not un_neg Nat.reduceEqDiff reduceIte reduceCtorEq false_imp_iff true_imp_iff forall_const Bool.false_eq_true Bool.true_eq_false beq_self_eq_true
 and_true true_and if_true if_false List.getElem?_cons_zero List.getElem?_cons_succ List.toList_toArray List.length_cons List.length_nil beq_nat Nat.zero_add List.nil_append List.append_nil List.cons_append
 beq_true beq_false Bool.not_true Bool.not_false same_ptr same_slice same_slice0 same_string same_int same_bool same_map
end Go.Ev
end
section
namespace Go.Ev
open Go.RowKit
variable {P : Program} {h : Hp}
def usesHeap : Op → Bool
 | .load .. => true
 | .binOp .. => true
 | .slice .. => true
 | .lookup .. => true
 | .entry .. => true
 | .call .. => true
 | _ => false
theorem heapless {op : Op} (hu : usesHeap op = false) (h h1 : Hp) (a : Ev.A) : reader' P h a op = reader' P h1 a op := by
 cases op <;> first | rfl | cases hu
structure Pd where
 i : Nat
 a : Ev.A
 op : Op
 v : Value
structure Cl where
 f : FuncId
 args : List Value
 h : Hp
 v : Value
 h1 : Hp
def hasL : List Nat → Nat → Bool
 | [], _ => false
 | x :: l, i => (i == x) || hasL l i
theorem hasL_eq (l : List Nat) (i : Nat) : hasL l i = has l i := by
 induction l with
 | nil => rfl
 | cons x l ih =>
   have e : (i == x) = Nat.beq i x := by rw [Bool.eq_iff_iff]; simp
   simp only [hasL, ih, has, List.any_cons, e]
def dropP (w : List Nat) : List Pd → List Pd
 | [] => []
 | p :: l => match hasL w p.i with
   | true => dropP w l
   | false => p :: dropP w l
def pdW (P : Program) (h : Hp) : List Pd → Prop → Prop
 | [], K => K
 | p :: l, K => opt (reader' P h p.a p.op) fun u => wif (sameV 9 p.v u) (pdW P h l K) False
def pastW (P : Program) (a : Ev.A) (op : Op) (v : Value) (w : List Nat) : List (Nat × Hp) → Prop → Prop
 | [], K => K
 | (e, h) :: l, K => wif (hasL w e) (pastW P a op v w l K) (opt (reader' P h a op) fun u => wif (sameV 9 v u) (pastW P a op v w l K) False)
def Fresh (f : FuncId) (args : List Value) (h : Hp) : List Cl → Prop
 | [] => True
 | c :: l => (c.f = f → c.args = args → c.h = h → False) ∧ Fresh f args h l
def DT (P : Program) (all : List Oper) : List (List Nat) → Nat → List Oper → List (Nat × Hp) → List Cl → List Pd → Ev.A → Hp → (Ev.A → Hp → Prop) → Prop
 | _, _, [], _, _, _, a, h, K => K a h
 | [], _, _ :: _, _, _, _, _, _, _ => False
 | w :: ws, i, o :: r, gp, cs, pend, a, h, K =>
   wif (wanted' all a o)
    (wif (isReader o.op)
     (opt (reader' P h a o.op) fun v => wif (sameV 9 v v) (wif (usesHeap o.op) (pastW P a o.op v w gp (DT P all ws (i + 1) r gp cs (⟨i, a, o.op, v⟩ :: pend) (a.set o.dst v) h K)) (DT P all ws (i + 1) r gp cs pend (a.set o.dst v) h K)) False)
     (wcall (callee' a o.op) (fun f args => ∃ v h1, Snd P f args h v h1 ∧ Fresh f args h cs ∧ pdW P h1 (dropP w pend) (DT P all ws (i + 1) r (gp ++ [(i, h)]) (⟨f, args, h, v, h1⟩ :: cs) (dropP w pend) (a.set o.dst v) h1 K))
      (opt (writer' P h a o.op) fun p => pdW P p.2 (dropP w pend) (DT P all ws (i + 1) r (gp ++ [(i, h)]) cs (dropP w pend) (a.set o.dst p.1) p.2 K))))
    (wif (isReader o.op) (DT P all ws (i + 1) r gp cs pend (a.set o.dst undef') h K) (DT P all ws (i + 1) r (gp ++ [(i, h)]) cs (dropP w pend) (a.set o.dst undef') h K))
def Alike (P : Program) (h : Hp) (a : Ev.A) (op : Op) (v : Value) : Prop := ∃ u, reader' P h a op = some u ∧ sameV 9 v u = true
def pdsOk (P : Program) (h : Hp) (l : List Pd) : Prop := ∀ p ∈ l, Alike P h p.a p.op p.v
theorem pdW_ok {K : Prop} : ∀ {l : List Pd}, pdW P h l K → pdsOk P h l ∧ K
 | [], k => ⟨fun p hp => (by cases hp), k⟩
 | p :: l, k => by
   obtain ⟨u, hu, k⟩ := opt_ex k
   unfold wif at k
   split at k
   · rename_i hs
     obtain ⟨k1, k2⟩ := pdW_ok k
     refine ⟨fun q hq => ?_, k2⟩
     cases hq with
     | head => exact ⟨u, hu, hs⟩
     | tail _ hq => exact k1 q hq
   · exact k.elim
theorem pastW_ok {a : Ev.A} {op : Op} {v : Value} {w : List Nat} {K : Prop} : ∀ {l : List (Nat × Hp)}, pastW P a op v w l K → (∀ g ∈ l, has w g.1 = true ∨ Alike P g.2 a op v) ∧ K
 | [], k => ⟨fun p hp => (by cases hp), k⟩
 | (e, h) :: l, k => by
   simp only [pastW, wif] at k
   split at k
   · rename_i hw
     obtain ⟨k1, k2⟩ := pastW_ok k
     refine ⟨fun q hq => ?_, k2⟩
     cases hq with
     | head => exact .inl (by rw [← hasL_eq]; exact hw)
     | tail _ hq => exact k1 q hq
   · obtain ⟨u, hu, k⟩ := opt_ex k
     split at k
     · rename_i hs
       obtain ⟨k1, k2⟩ := pastW_ok k
       refine ⟨fun q hq => ?_, k2⟩
       cases hq with
       | head => exact .inr ⟨u, hu, hs⟩
       | tail _ hq => exact k1 q hq
     · exact k.elim
theorem mem_dropP {w : List Nat} {p : Pd} : ∀ {l : List Pd}, p ∈ dropP w l → p ∈ l
 | [], h => by cases h
 | q :: l, h => by
   simp only [dropP] at h
   split at h
   · exact .tail _ (mem_dropP h)
   · cases h with
     | head => exact .head _
     | tail _ h => exact .tail _ (mem_dropP h)
theorem not_dropP {w : List Nat} {p : Pd} : ∀ {l : List Pd}, p ∈ l → p ∈ dropP w l ∨ has w p.i = true
 | q :: l, h => by
   simp only [dropP]
   cases h with
   | head =>
     cases hw : hasL w p.i with
     | true => exact .inr (by rw [← hasL_eq]; exact hw)
     | false => exact .inl (.head _)
   | tail _ h =>
     rcases not_dropP (w := w) h with k | k
     · left
       cases hw : hasL w q.i with
       | true => exact k
       | false => exact .tail _ k
     · exact .inr k
theorem fresh_ok {f : FuncId} {args : List Value} {h : Hp} : ∀ {l : List Cl}, Fresh f args h l → ∀ c ∈ l, ¬ (c.f = f ∧ c.args = args ∧ c.h = h)
 | c :: l, k, d, hd => by
   cases hd with
   | head => exact fun ⟨x, y, z⟩ => k.1 x y z
   | tail _ hd => exact fresh_ok k.2 d hd
theorem stable_app {ps : List (List Nat)} {g i : Nat} {a : Ev.A} {op : Op} {v : Value} (hr : isReader op = true) : ∀ (gp gs : List (Nat × Hp)), (∀ x ∈ gp, has (predsOf ps i) x.1 = true ∨ Alike P x.2 a op v) → stable P g a op v i ps gs = true → stable P g a op v i ps (gp ++ gs) = true
 | [], gs, _, k => k
 | (e, h) :: gp, gs, hp, k => by
   have ih := stable_app (g := g) hr gp gs (fun x hx => hp x (.tail _ hx)) k
   rw [List.cons_append]
   unfold stable
   split
   · exact ih
   · rename_i hw
     rcases hp _ (.head _) with q | ⟨u, q1, q2⟩
     · rw [q] at hw; cases hw
     · have : reader2' P g h a op = some u := by simp only [reader2', hr]; exact q1
       simp only [this, q2]
       split
       · rfl
       · exact ih
theorem stable_all {ps : List (List Nat)} {g i : Nat} {a : Ev.A} {op : Op} {v : Value} (hr : isReader op = true) (gs : List (Nat × Hp)) (hp : ∀ x ∈ gs, Alike P x.2 a op v) : stable P g a op v i ps gs = true := by
 have := stable_app (P := P) (ps := ps) (g := g) (i := i) hr gs [] (fun x hx => .inr (hp x hx)) rfl
 simpa using this
def fwdOk (ps : List (List Nat)) : Bool := (List.range ps.length).all fun j => (predsOf ps j).all fun e => Nat.blt e j
theorem fwd {ps : List (List Nat)} (k : fwdOk ps = true) {j e : Nat} (hj : j ≤ e) : has (predsOf ps j) e = false := by
 cases hh : has (predsOf ps j) e with
 | false => rfl
 | true =>
   exfalso
   unfold has at hh
   rw [List.any_eq_true] at hh
   obtain ⟨x, hx, hxe⟩ := hh
   have hxe' : e = x := by simpa using hxe
   subst hxe'
   by_cases hl : j < ps.length
   · have := List.all_eq_true.1 k j (List.mem_range.2 hl)
     have := List.all_eq_true.1 this e hx
     have : e < j := by simpa using this
     omega
   · unfold predsOf at hx
     rw [List.getElem?_eq_none (by omega)] at hx
     cases hx
def Known (P : Program) (L cs : List Cl) : Prop := (∀ c ∈ L, Snd P c.f c.args c.h c.v c.h1) ∧ L.Pairwise (fun c d => ¬ (c.f = d.f ∧ c.args = d.args ∧ c.h = d.h)) ∧ ∀ c ∈ L, ∀ d ∈ cs, ¬ (d.f = c.f ∧ d.args = c.args ∧ d.h = c.h)
def Knows (C : Caller) (L : List Cl) : Prop := ∀ c ∈ L, C c.f c.args c.h = some (c.v, c.h1)
theorem known_caller : ∀ (L : List Cl) {cs : List Cl}, Known P L cs → ∃ C, CallerOk P C ∧ Knows C L
 | [], _, _ => ⟨_, callerOk_none, fun c hc => by cases hc⟩
 | c :: L, cs, ⟨k1, k2, k3⟩ => by
   rw [List.pairwise_cons] at k2
   obtain ⟨C, HC, hk⟩ := known_caller L (cs := []) ⟨fun d hd => k1 d (.tail _ hd), k2.2, fun _ _ d hd => by cases hd⟩
   refine ⟨orc c.f c.args c.h c.v c.h1 C, orc_ok (k1 c (.head _)) HC, fun d hd => ?_⟩
   cases hd with
   | head => exact orc_same
   | tail _ hd =>
     have := k2.1 d hd
     unfold orc
     rw [if_neg (fun ⟨x, y, z⟩ => this ⟨x.symm, y.symm, z.symm⟩)]
     exact hk d hd
theorem DT_go {all : List Oper} {ps : List (List Nat)} (hf : fwdOk ps = true) {n : Nat} : ∀ (r : List Oper) (ws pre : List (List Nat)) (i : Nat) {gp : List (Nat × Hp)} {cs : List Cl} {pend : List Pd} {a : Ev.A} {h : Hp} {K : Ev.A → Hp → Prop},
  ps = pre ++ ws → pre.length = i → r.all (fun o => dstOk n o.dst) = true → a.n = n → pdsOk P h pend → (∀ p ∈ pend, isReader p.op = true ∧ p.i < i) → DT P all ws i r gp cs pend a h K →
  ∃ L a1 h1 gs, a1.n = n ∧ K a1 h1 ∧ Known P L cs ∧ (∀ p ∈ pend, ∀ g, stable P g p.a p.op p.v p.i ps gs = true) ∧
   ∀ C, Knows C L → heaps P C false 0 all i r a h = some gs ∧ check P C false 0 all ps (gp ++ gs) i r a h = some (a1, h1)
 | [], ws, pre, i, gp, cs, pend, a, h, K, _, _, _, hn, hp, hpi, k => by
   have k' : K a h := by
    cases ws <;> exact k
   refine ⟨[], a, h, [(i, h)], hn, k', ⟨fun _ hc => (by cases hc), .nil, fun _ hc => (by cases hc)⟩, ?_, fun C _ => ⟨rfl, rfl⟩⟩
   intro p hpm g
   exact stable_all (hpi p hpm).1 _ (fun x hx => by
    cases hx with
    | head => exact hp p hpm
    | tail _ hx => cases hx)
 | o :: r, [], _, _, _, _, _, _, _, _, _, _, _, _, _, _, k => k.elim
 | o :: r, w :: ws, pre, i, gp, cs, pend, a, h, K, hps, hpre, hd, hn, hp, hpi, k => by
   simp only [List.all_cons, Bool.and_eq_true] at hd
   obtain ⟨hd1, hd2⟩ := hd
   have hw : predsOf ps i = w := by
    unfold predsOf
    rw [hps, List.getElem?_append_right (by omega), ← hpre]
    simp
   have hps' : ps = (pre ++ [w]) ++ ws := by rw [hps]; simp
   have hpre' : (pre ++ [w]).length = i + 1 := by simp [hpre]
   have hpi' : ∀ p ∈ pend, isReader p.op = true ∧ p.i < i + 1 := fun p hp => ⟨(hpi p hp).1, Nat.lt_succ_of_lt (hpi p hp).2⟩
   have eff : ∀ {C' : List Cl} {v : Value} {h2 : Hp}, isReader o.op = false → pdsOk P h2 (dropP w pend) → DT P all ws (i + 1) r (gp ++ [(i, h)]) C' (dropP w pend) (a.set o.dst v) h2 K →
     ∃ L a1 h1 gs, a1.n = n ∧ K a1 h1 ∧ Known P L C' ∧ (∀ p ∈ pend, ∀ g, stable P g p.a p.op p.v p.i ps gs = true) ∧
      ∀ C, Knows C L → step2' P C false all (0 + i) o a h = some (a.set o.dst v, h2) → heaps P C false 0 all i (o :: r) a h = some gs ∧ check P C false 0 all ps (gp ++ gs) i (o :: r) a h = some (a1, h1) := by
    intro C' v h2 hr hpd hk
    obtain ⟨L, a1, h1, gs, q1, q2, q3, q4, q5⟩ := DT_go hf r ws (pre ++ [w]) (i + 1) (n := n) hps' hpre' hd2 ((A.set_n _ _ _).trans hn) hpd (fun p hp => hpi' p (mem_dropP hp)) hk
    have hr2 : isReader2 false o.op = false := by simp only [isReader2, hr]
    refine ⟨L, a1, h1, (i, h) :: gs, q1, q2, q3, ?_, ?_⟩
    · intro p hpm g
      have hfw := fwd hf (Nat.le_of_lt (hpi p hpm).2)
      obtain ⟨u, u1, u2⟩ := hp p hpm
      have : reader2' P g h p.a p.op = some u := by simp only [reader2', (hpi p hpm).1]; exact u1
      simp only [stable, hfw, this, u2, hw]
      rcases not_dropP (w := w) hpm with q | q
      · split
        · rfl
        · exact q4 p q g
      · rw [q]
    · intro C hC hs
      obtain ⟨z1, z2⟩ := q5 C hC
      refine ⟨?_, ?_⟩
      · simp only [heaps, hs, z1, hr2]
      · simp only [check, hs, hr2]
        rw [show gp ++ (i, h) :: gs = gp ++ [(i, h)] ++ gs by simp]
        exact z2
   have rd : ∀ {pend' : List Pd} {v : Value}, isReader o.op = true → pdsOk P h pend' → (∀ p ∈ pend', isReader p.op = true ∧ p.i < i + 1) → (∀ p ∈ pend, p ∈ pend') → DT P all ws (i + 1) r gp cs pend' (a.set o.dst v) h K →
     (∀ gs, (∀ p ∈ pend', ∀ g, stable P g p.a p.op p.v p.i ps gs = true) → wanted' all a o = true → ∃ v, reader' P h a o.op = some v ∧ stable P (0 + i) a o.op v i ps (gp ++ gs) = true) →
     (∀ C, step2' P C false all (0 + i) o a h = some (a.set o.dst v, h)) →
     ∃ L a1 h1 gs, a1.n = n ∧ K a1 h1 ∧ Known P L cs ∧ (∀ p ∈ pend, ∀ g, stable P g p.a p.op p.v p.i ps gs = true) ∧
      ∀ C, Knows C L → heaps P C false 0 all i (o :: r) a h = some gs ∧ check P C false 0 all ps (gp ++ gs) i (o :: r) a h = some (a1, h1) := by
    intro pend' v hr hpd hpi2 hsub hk hst hstep
    obtain ⟨L, a1, h1, gs, q1, q2, q3, q4, q5⟩ := DT_go hf r ws (pre ++ [w]) (i + 1) (n := n) hps' hpre' hd2 ((A.set_n _ _ _).trans hn) hpd hpi2 hk
    have hr2 : isReader2 false o.op = true := by simp only [isReader2, hr]
    refine ⟨L, a1, h1, gs, q1, q2, q3, fun p hp => q4 p (hsub p hp), fun C hC => ?_⟩
    obtain ⟨z1, z2⟩ := q5 C hC
    have hs := hstep C
    refine ⟨by simp only [heaps, hs, z1, hr2], ?_⟩
    simp only [check, hs, hr2]
    cases hwd : wanted' all a o with
    | false => exact z2
    | true =>
      obtain ⟨u, u1, u2⟩ := hst gs q4 hwd
      have : reader2' P (0 + i) h a o.op = some u := by simp only [reader2', hr]; exact u1
      simp only [this, u2]
      exact z2
   simp only [DT, wif, wcall] at k
   split at k
   · rename_i hwd
     split at k
     · rename_i hr
       obtain ⟨v, hv, k⟩ := opt_ex k
       split at k
       · rename_i hs
         have hr2 : isReader2 false o.op = true := by simp only [isReader2, hr]
         have hstep : ∀ C, step2' P C false all (0 + i) o a h = some (a.set o.dst v, h) := by
          intro C
          have : reader2' P (0 + i) h a o.op = some v := by simp only [reader2', hr]; exact hv
          simp only [step2', hwd, oper2', hr2, this, withH, A.put_ok v hd1 hn]
         split at k
         · obtain ⟨k1, k⟩ := pastW_ok k
           refine rd hr ?_ ?_ (fun p hp => .tail _ hp) k ?_ hstep
           · intro p hpm
             cases hpm with
             | head => exact ⟨v, hv, hs⟩
             | tail _ hpm => exact hp p hpm
           · intro p hpm
             cases hpm with
             | head => exact ⟨hr, Nat.lt_succ_self _⟩
             | tail _ hpm => exact hpi' p hpm
           · intro gs hst _
             refine ⟨v, hv, stable_app hr gp gs ?_ (hst _ (.head _) _)⟩
             intro x hx
             rw [hw]
             exact k1 x hx
         · rename_i hu
           refine rd hr hp hpi' (fun p hp => hp) k ?_ hstep
           intro gs _ _
           exact ⟨v, hv, stable_all hr _ (fun x _ => ⟨v, (heapless hu _ _ _).trans hv, hs⟩)⟩
       · exact k.elim
     · rename_i hr
       have hr2 : isReader2 false o.op = false := by simp only [isReader2, hr]
       split at k
       · rename_i f args hc
         obtain ⟨v, h2, s, hfr, k⟩ := k
         obtain ⟨k1, k⟩ := pdW_ok k
         obtain ⟨L, a1, h1, gs, q1, q2, q3, q4, q5⟩ := eff hr k1 k
         refine ⟨⟨f, args, h, v, h2⟩ :: L, a1, h1, gs, q1, q2, ⟨?_, ?_, ?_⟩, q4, ?_⟩
         · intro c hc
           cases hc with
           | head => exact s
           | tail _ hc => exact q3.1 c hc
         · refine .cons (fun d hd => q3.2.2 d hd _ (.head _)) q3.2.1
         · intro c hc d hd
           cases hc with
           | head => exact fresh_ok hfr d hd
           | tail _ hc => exact q3.2.2 c hc d (.tail _ hd)
         · intro C hC
           refine q5 C (fun c hc => hC c (.tail _ hc)) ?_
           have hcall := hC _ (.head _)
           simp only at hcall
           simp only [step2', hwd, oper2', hr2, oper', hr, hc, hcall, A.put_ok v hd1 hn]
       · rename_i hc
         obtain ⟨⟨v, h2⟩, s, k⟩ := opt_ex k
         obtain ⟨k1, k⟩ := pdW_ok k
         obtain ⟨L, a1, h1, gs, q1, q2, q3, q4, q5⟩ := eff hr k1 k
         refine ⟨L, a1, h1, gs, q1, q2, q3, q4, fun C hC => q5 C hC ?_⟩
         simp only [step2', hwd, oper2', hr2, oper', hr, hc, s, A.put_ok v hd1 hn]
   · rename_i hwd
     have hstep : ∀ C, step2' P C false all (0 + i) o a h = some (a.set o.dst undef', h) := by
      intro C
      simp only [step2', hwd, A.put_ok undef' hd1 hn]
     split at k
     · rename_i hr
       exact rd hr hp hpi' (fun p hp => hp) k (fun _ _ e => by rw [hwd] at e; cases e) hstep
     · rename_i hr
       obtain ⟨L, a1, h1, gs, q1, q2, q3, q4, q5⟩ := eff hr (fun p hpm => hp p (mem_dropP hpm)) k
       exact ⟨L, a1, h1, gs, q1, q2, q3, q4, fun C hC => q5 C hC (hstep C)⟩
def sameSets (ps qs : List (List Nat)) : Bool := match Nat.beq ps.length qs.length with
 | true => (List.range ps.length).all fun j => (predsOf ps j).all (has (predsOf qs j)) && (predsOf qs j).all (has (predsOf ps j))
 | false => false
theorem sameSets_ok {ps qs : List (List Nat)} (k : sameSets ps qs = true) (j e : Nat) : has (predsOf ps j) e = has (predsOf qs j) e := by
 unfold sameSets at k
 split at k
 · rename_i hl
   have hl' : ps.length = qs.length := by simpa using hl
   by_cases hj : j < ps.length
   · have := List.all_eq_true.1 k j (List.mem_range.2 hj)
     rw [Bool.and_eq_true] at this
     have one : ∀ {l m : List Nat}, l.all (has m) = true → has l e = true → has m e = true := by
      intro l m h1 h2
      unfold has at h2
      rw [List.any_eq_true] at h2
      obtain ⟨x, hx, hxe⟩ := h2
      have : e = x := by simpa using hxe
      subst this
      exact List.all_eq_true.1 h1 _ hx
     rw [Bool.eq_iff_iff]
     exact ⟨one this.1, one this.2⟩
   · unfold predsOf
     rw [List.getElem?_eq_none (by omega), List.getElem?_eq_none (by omega)]
 · cases k
theorem stable_sets {ps qs : List (List Nat)} (k : ∀ j e, has (predsOf ps j) e = has (predsOf qs j) e) (g : Nat) (a : Ev.A) (op : Op) (v : Value) (i : Nat) : ∀ gs, stable P g a op v i ps gs = stable P g a op v i qs gs
 | [] => rfl
 | (e, h) :: r => by simp only [stable, k, stable_sets k g a op v i r]
theorem check_sets {C : Caller} {all : List Oper} {ps qs : List (List Nat)} (k : ∀ j e, has (predsOf ps j) e = has (predsOf qs j) e) (gs : List (Nat × Hp)) : ∀ (r : List Oper) (i : Nat) (a : Ev.A) (h : Hp), check P C false 0 all ps gs i r a h = check P C false 0 all qs gs i r a h
 | [], _, _, _ => rfl
 | o :: r, i, a, h => by
   simp only [check, stable_sets k]
   cases step2' P C false all (0 + i) o a h with
   | none => rfl
   | some p => simp only [check_sets k gs r]
def textOk (n : Nat) (ps : List (List Nat)) (ops : List Oper) : Bool := match orderOk false ops, fwdOk ps, ops.all (fun o => dstOk n o.dst), sameSets (preds ops) ps with
 | true, true, true, true => true
 | _, _, _, _ => false
theorem DT_ok {ops : List Oper} {n : Nat} {ps : List (List Nat)} {a : Ev.A} {h : Hp} {K : Ev.A → Hp → Prop} (hn : a.n = n) (ho : textOk n ps ops = true) (k : DT P ops ps 0 ops [] [] [] a h K) : drawW P ops a h K := by
 unfold textOk at ho
 split at ho
 · rename_i h1 h2 h3 hps
   obtain ⟨L, a1, h1', gs, q1, q2, q3, _, q5⟩ := DT_go h2 ops ps [] 0 (n := n) rfl rfl h3 hn (fun _ hp => by cases hp) (fun _ hp => by cases hp) k
   obtain ⟨C, HC, hk⟩ := known_caller L q3
   obtain ⟨z1, z2⟩ := q5 C hk
   refine ⟨C, a1, h1', HC, ?_, q1.trans hn.symm, q2⟩
   rw [List.nil_append] at z2
   simp only [draw', h1, drawn, z1, check_sets (sameSets_ok hps), z2]
 · cases ho
def spotless : Option Addr → Bool
 | none => true
 | some a => a.spot.isNone
theorem sameN_ptr (n b o : Nat) : sameV n (.pointer (some ⟨b, o, none⟩)) (.pointer (some ⟨b, o, none⟩)) = true := by cases n <;> simp [sameV]
theorem sameN_ptr0 (n : Nat) : sameV n (.pointer none) (.pointer none) = true := by cases n <;> rfl
theorem sameN_slice (n b o k c : Nat) : sameV n (.slice (some ⟨b, o, none⟩) k c) (.slice (some ⟨b, o, none⟩) k c) = true := by cases n <;> simp [sameV]
theorem sameN_slice0 (n k c : Nat) : sameV n (.slice none k c) (.slice none k c) = true := by cases n <;> simp [sameV]
theorem sameN_sliceA {A : Option Addr} (hA : spotless A = true) (n k c : Nat) : sameV n (.slice A k c) (.slice A k c) = true := by
 cases A with
 | none => exact sameN_slice0 n k c
 | some a =>
   obtain ⟨b, o, s⟩ := a
   cases s with
   | none => exact sameN_slice n b o k c
   | some s => cases hA
theorem sameN_string (n : Nat) (s : ByteArray) : sameV n (.string s) (.string s) = true := by cases n <;> simp [sameV, bytesEq_beq]
theorem sameN_int (n : Nat) (k : IntKind) (i : Int) : sameV n (.int k i) (.int k i) = true := by cases n <;> cases k <;> simp [sameV, kindEq, intEq_beq]
theorem sameN_bool (n : Nat) (b : Bool) : sameV n (.bool b) (.bool b) = true := by cases n <;> simp [sameV]
theorem sameN_map (n b : Nat) : sameV n (.map (some b)) (.map (some b)) = true := by cases n <;> simp [sameV]
theorem sameN_map0 (n : Nat) : sameV n (.map none) (.map none) = true := by cases n <;> rfl
theorem zip_self : ∀ (l : List Value) (f : Value → Value → Bool), ((l.zip l).all fun p => f p.1 p.2) = l.all fun v => f v v
 | [], _ => rfl
 | v :: l, f => by simp only [List.zip_cons_cons, List.all_cons, zip_self l f]
def allSame (n : Nat) : List Value → Bool
 | [] => true
 | v :: l => sameV n v v && allSame n l
theorem allSame_eq (n : Nat) (l : List Value) : allSame n l = l.all fun v => sameV n v v := by
 induction l with
 | nil => rfl
 | cons v l ih => simp only [allSame, List.all_cons, ih]
theorem sameN_agg (n : Nat) (l : List Value) : sameV (n + 1) (.agg l.toArray) (.agg l.toArray) = allSame n l := by
 have := zip_self l (fun x y => sameV n x y)
 simp only [sameV, List.toList_toArray, beq_nat, Bool.true_and, allSame_eq, ← this]
theorem sameN_tuple (n : Nat) (l : List Value) : sameV (n + 1) (.tuple l.toArray) (.tuple l.toArray) = allSame n l := by
 have := zip_self l (fun x y => sameV n x y)
 simp only [sameV, List.toList_toArray, beq_nat, Bool.true_and, allSame_eq, ← this]
def PdW (P : Program) (h : Hp) (l : List Pd) (K : Prop) (_ : Tag K) : Prop := pdW P h l K
def PastW (P : Program) (a : Ev.A) (op : Op) (v : Value) (w : List Nat) (l : List (Nat × Hp)) (K : Prop) (_ : Tag K) : Prop := pastW P a op v w l K
def DTt (P : Program) (all : List Oper) (ws : List (List Nat)) (i : Nat) (r : List Oper) (gp : List (Nat × Hp)) (cs : List Cl) (pend : List Pd) (a : Ev.A) (h : Hp) (K : Ev.A → Hp → Prop) (_ : Tag all) (_ : Tag ws) (_ : Tag r) (_ : Tag K) : Prop := DT P all ws i r gp cs pend a h K
section
attribute [local semireducible] Opt Wif Wcall Dw
theorem PdW_nil (K : Prop) (t : Tag K) : PdW P h [] K t = K := nr rfl
theorem PdW_cons (p : Pd) (l : List Pd) (K : Prop) (t : Tag K) : PdW P h (p :: l) K t = Opt (reader' P h p.a p.op) (fun u => Wif (sameV 9 p.v u) (PdW P h l K ⟨⟩) False ⟨⟩ ⟨⟩) ⟨⟩ := nr rfl
theorem PastW_nil (a : Ev.A) (op : Op) (v : Value) (w : List Nat) (K : Prop) (t : Tag K) : PastW P a op v w [] K t = K := nr rfl
theorem PastW_cons (a : Ev.A) (op : Op) (v : Value) (w : List Nat) (e : Nat) (h : Hp) (l : List (Nat × Hp)) (K : Prop) (t : Tag K) : PastW P a op v w ((e, h) :: l) K t =
 Wif (hasL w e) (PastW P a op v w l K ⟨⟩) (Opt (reader' P h a op) (fun u => Wif (sameV 9 v u) (PastW P a op v w l K ⟨⟩) False ⟨⟩ ⟨⟩) ⟨⟩) ⟨⟩ ⟨⟩ := nr rfl
theorem DTt_nil (all : List Oper) (ws : List (List Nat)) (i : Nat) (gp : List (Nat × Hp)) (cs : List Cl) (pend : List Pd) (a : Ev.A) (h : Hp) (K : Ev.A → Hp → Prop) (t1 : Tag all) (t2 : Tag ws) (t3 : Tag ([] : List Oper)) (t4 : Tag K) :
  DTt P all ws i [] gp cs pend a h K t1 t2 t3 t4 = K a h := by
 cases ws <;> exact nr rfl
theorem DTt_cons (all : List Oper) (w : List Nat) (ws : List (List Nat)) (i : Nat) (o : Oper) (r : List Oper) (gp : List (Nat × Hp)) (cs : List Cl) (pend : List Pd) (a : Ev.A) (h : Hp) (K : Ev.A → Hp → Prop) (t1 : Tag all) (t2 : Tag (w :: ws)) (t3 : Tag (o :: r)) (t4 : Tag K) :
 DTt P all (w :: ws) i (o :: r) gp cs pend a h K t1 t2 t3 t4 =
 Wif (wanted' all a o)
  (Wif (isReader o.op)
   (Opt (reader' P h a o.op) (fun v => Wif (sameV 9 v v) (Wif (usesHeap o.op) (PastW P a o.op v w gp (DTt P all ws (i + 1) r gp cs (⟨i, a, o.op, v⟩ :: pend) (a.set o.dst v) h K ⟨⟩ ⟨⟩ ⟨⟩ ⟨⟩) ⟨⟩) (DTt P all ws (i + 1) r gp cs pend (a.set o.dst v) h K ⟨⟩ ⟨⟩ ⟨⟩ ⟨⟩) ⟨⟩ ⟨⟩) False ⟨⟩ ⟨⟩) ⟨⟩)
   (Wcall (callee' a o.op) (fun f args => ∃ v h1, Snd P f args h v h1 ∧ Fresh f args h cs ∧ PdW P h1 (dropP w pend) (DTt P all ws (i + 1) r (gp ++ [(i, h)]) (⟨f, args, h, v, h1⟩ :: cs) (dropP w pend) (a.set o.dst v) h1 K ⟨⟩ ⟨⟩ ⟨⟩ ⟨⟩) ⟨⟩)
    (Opt (writer' P h a o.op) (fun p => PdW P p.2 (dropP w pend) (DTt P all ws (i + 1) r (gp ++ [(i, h)]) cs (dropP w pend) (a.set o.dst p.1) p.2 K ⟨⟩ ⟨⟩ ⟨⟩ ⟨⟩) ⟨⟩) ⟨⟩) ⟨⟩ ⟨⟩) ⟨⟩ ⟨⟩)
  (Wif (isReader o.op) (DTt P all ws (i + 1) r gp cs pend (a.set o.dst undef') h K ⟨⟩ ⟨⟩ ⟨⟩ ⟨⟩) (DTt P all ws (i + 1) r (gp ++ [(i, h)]) cs (dropP w pend) (a.set o.dst undef') h K ⟨⟩ ⟨⟩ ⟨⟩ ⟨⟩) ⟨⟩ ⟨⟩) ⟨⟩ ⟨⟩ := nr rfl
theorem Dw_text {ops : List Oper} {n : Nat} (ps : List (List Nat)) {a : Ev.A} {h : Hp} {K : Ev.A → Hp → Prop} {t : Tag ops} {u : Tag K} (hn : a.n = n) (ho : textOk n ps ops = true)
 (k : DTt P ops ps 0 ops [] [] [] a h K ⟨⟩ ⟨⟩ ⟨⟩ ⟨⟩) : Dw P ops a h K t u := DT_ok hn ho k
end
attribute [irreducible] PdW PastW DTt
attribute [go_sem] Nat.reduceAdd evPairs fill' splice sameN_ptr sameN_ptr0 sameN_slice sameN_slice0 sameN_string sameN_int sameN_bool sameN_map sameN_map0 sameN_agg sameN_tuple allSame Bool.and_true Bool.true_and PdW_nil PdW_cons PastW_nil PastW_cons DTt_nil DTt_cons usesHeap hasL dropP Fresh Bool.or_false Bool.or_true Bool.false_or Bool.true_or
end Go.Ev
end
section
namespace Go.Ev
theorem wfp_of {P : Program} (h0 : P.follows .mixedOrders = true) : WfP P := ⟨h0⟩
end Go.Ev
end
section
set_option linter.unusedVariables false
namespace Go.Ev.G24
open Go.RowKit Go.Proofs
theorem wf : WfP Try.prog := wfp_of (by kernel_rfl)
theorem sz3 : sizeOf' Try.prog 3 = some 1 := by kernel_rfl
theorem sz4 : sizeOf' Try.prog 4 = some 1 := by kernel_rfl
theorem sz9 : sizeOf' Try.prog 9 = some 1 := by kernel_rfl
theorem sz22 : sizeOf' Try.prog 22 = some 1 := by kernel_rfl
theorem sz24 : sizeOf' Try.prog 24 = some 1 := by kernel_rfl
theorem sz25 : sizeOf' Try.prog 25 = some 1 := by kernel_rfl
theorem sz29 : sizeOf' Try.prog 29 = some 1 := by kernel_rfl
theorem sz31 : sizeOf' Try.prog 31 = some 3 := by kernel_rfl
theorem sz50 : sizeOf' Try.prog 50 = some 1 := by kernel_rfl
theorem sz52 : sizeOf' Try.prog 52 = some 3 := by kernel_rfl
theorem sz54 : sizeOf' Try.prog 54 = some 4 := by kernel_rfl
theorem sz75 : sizeOf' Try.prog 75 = some 3 := by kernel_rfl
theorem sz87 : sizeOf' Try.prog 87 = some 1 := by kernel_rfl
theorem sz105 : sizeOf' Try.prog 105 = some 1 := by kernel_rfl
theorem sz113 : sizeOf' Try.prog 113 = some 1 := by kernel_rfl
theorem sz126 : sizeOf' Try.prog 126 = some 1 := by kernel_rfl
theorem sz145 : sizeOf' Try.prog 145 = some 2 := by kernel_rfl
@[go_sem] theorem z4 : zero' Try.prog 4 = some (.bool false) := by kernel_rfl
@[go_sem] theorem z9 : zero' Try.prog 9 = some (.string ⟨#[]⟩) := by kernel_rfl
@[go_sem] theorem z31 : zero' Try.prog 31 = some (.agg #[.string ⟨#[]⟩, .string ⟨#[]⟩, .slice none 0 0]) := by kernel_rfl
@[go_sem] theorem z52 : zero' Try.prog 52 = some (.agg #[.string ⟨#[]⟩, .string ⟨#[]⟩, .slice none 0 0]) := by kernel_rfl
@[go_sem] theorem z54 : zero' Try.prog 54 = some (.agg #[.string ⟨#[]⟩, .string ⟨#[]⟩, .string ⟨#[]⟩, .slice none 0 0]) := by kernel_rfl
@[go_sem] theorem z71 : zero' Try.prog 71 = some (.agg #[.slice none 0 0, .slice none 0 0, .int .i64 0, .int .i64 0]) := by kernel_rfl
@[go_sem] theorem z75 : zero' Try.prog 75 = some (.agg #[.bool false, .int .i64 0, .slice none 0 0]) := by kernel_rfl
@[go_sem] theorem z105 : zero' Try.prog 105 = some (.slice none 0 0) := by kernel_rfl
@[go_sem] theorem z115 : zero' Try.prog 115 = some (.agg #[.slice none 0 0, .map none, .slice none 0 0]) := by kernel_rfl
@[go_sem] theorem z128 : zero' Try.prog 128 = some (.agg #[.pointer none, .slice none 0 0, .map none, .int .i64 0]) := by kernel_rfl
@[go_sem] theorem z145 : zero' Try.prog 145 = some (.agg #[.int .i64 0, .int .i64 0]) := by kernel_rfl
@[go_sem] theorem ld3 (h : Hp) (a : Addr) : loadVar' Try.prog h 3 a = h.load a := load_cell Try.underlying3 rfl h a
@[go_sem] theorem ld4 (h : Hp) (a : Addr) : loadVar' Try.prog h 4 a = h.load a := load_cell Try.underlying4 rfl h a
@[go_sem] theorem ld9 (h : Hp) (a : Addr) : loadVar' Try.prog h 9 a = h.load a := load_cell Try.underlying9 rfl h a
@[go_sem] theorem ld22 (h : Hp) (a : Addr) : loadVar' Try.prog h 22 a = h.load a := load_cell Try.underlying22 rfl h a
@[go_sem] theorem ld24 (h : Hp) (a : Addr) : loadVar' Try.prog h 24 a = match h.loads a 1 with | some l => some (.agg l.toArray) | none => none := load_struct Try.underlying24 sz24 h a
@[go_sem] theorem ld25 (h : Hp) (a : Addr) : loadVar' Try.prog h 25 a = h.load a := load_cell Try.underlying25 rfl h a
@[go_sem] theorem ld29 (h : Hp) (a : Addr) : loadVar' Try.prog h 29 a = h.load a := load_cell Try.underlying29 rfl h a
@[go_sem] theorem ld31 (h : Hp) (a : Addr) : loadVar' Try.prog h 31 a = match h.loads a 3 with | some l => some (.agg l.toArray) | none => none := load_struct Try.underlying31 sz31 h a
@[go_sem] theorem ld50 (h : Hp) (a : Addr) : loadVar' Try.prog h 50 a = h.load a := load_cell Try.underlying50 rfl h a
@[go_sem] theorem ld52 (h : Hp) (a : Addr) : loadVar' Try.prog h 52 a = match h.loads a 3 with | some l => some (.agg l.toArray) | none => none := load_struct Try.underlying52 sz52 h a
@[go_sem] theorem ld54 (h : Hp) (a : Addr) : loadVar' Try.prog h 54 a = match h.loads a 4 with | some l => some (.agg l.toArray) | none => none := load_struct Try.underlying54 sz54 h a
@[go_sem] theorem ld75 (h : Hp) (a : Addr) : loadVar' Try.prog h 75 a = match h.loads a 3 with | some l => some (.agg l.toArray) | none => none := load_struct Try.underlying75 sz75 h a
@[go_sem] theorem ld87 (h : Hp) (a : Addr) : loadVar' Try.prog h 87 a = h.load a := load_cell Try.underlying87 rfl h a
@[go_sem] theorem ld105 (h : Hp) (a : Addr) : loadVar' Try.prog h 105 a = h.load a := load_cell Try.underlying105 rfl h a
@[go_sem] theorem ld113 (h : Hp) (a : Addr) : loadVar' Try.prog h 113 a = h.load a := load_cell Try.underlying113 rfl h a
@[go_sem] theorem ld126 (h : Hp) (a : Addr) : loadVar' Try.prog h 126 a = h.load a := load_cell Try.underlying126 rfl h a
@[go_sem] theorem ld145 (h : Hp) (a : Addr) : loadVar' Try.prog h 145 a = match h.loads a 2 with | some l => some (.agg l.toArray) | none => none := load_struct Try.underlying145 sz145 h a
@[go_sem] theorem st3 (h : Hp) (a : Addr) (v : Value) : storeVar' Try.prog h 3 a v = match Nat.beq v.cells.toList.length 1 with | true => h.stores a v.cells.toList | false => none := store_var sz3 h a v
@[go_sem] theorem st4 (h : Hp) (a : Addr) (v : Value) : storeVar' Try.prog h 4 a v = match Nat.beq v.cells.toList.length 1 with | true => h.stores a v.cells.toList | false => none := store_var sz4 h a v
@[go_sem] theorem st29 (h : Hp) (a : Addr) (v : Value) : storeVar' Try.prog h 29 a v = match Nat.beq v.cells.toList.length 1 with | true => h.stores a v.cells.toList | false => none := store_var sz29 h a v
@[go_sem] theorem st31 (h : Hp) (a : Addr) (v : Value) : storeVar' Try.prog h 31 a v = match Nat.beq v.cells.toList.length 3 with | true => h.stores a v.cells.toList | false => none := store_var sz31 h a v
@[go_sem] theorem st52 (h : Hp) (a : Addr) (v : Value) : storeVar' Try.prog h 52 a v = match Nat.beq v.cells.toList.length 3 with | true => h.stores a v.cells.toList | false => none := store_var sz52 h a v
@[go_sem] theorem st54 (h : Hp) (a : Addr) (v : Value) : storeVar' Try.prog h 54 a v = match Nat.beq v.cells.toList.length 4 with | true => h.stores a v.cells.toList | false => none := store_var sz54 h a v
@[go_sem] theorem st75 (h : Hp) (a : Addr) (v : Value) : storeVar' Try.prog h 75 a v = match Nat.beq v.cells.toList.length 3 with | true => h.stores a v.cells.toList | false => none := store_var sz75 h a v
@[go_sem] theorem st105 (h : Hp) (a : Addr) (v : Value) : storeVar' Try.prog h 105 a v = match Nat.beq v.cells.toList.length 1 with | true => h.stores a v.cells.toList | false => none := store_var sz105 h a v
@[go_sem] theorem st113 (h : Hp) (a : Addr) (v : Value) : storeVar' Try.prog h 113 a v = match Nat.beq v.cells.toList.length 1 with | true => h.stores a v.cells.toList | false => none := store_var sz113 h a v
@[go_sem] theorem st145 (h : Hp) (a : Addr) (v : Value) : storeVar' Try.prog h 145 a v = match Nat.beq v.cells.toList.length 2 with | true => h.stores a v.cells.toList | false => none := store_var sz145 h a v
@[go_sem] theorem fa24_0 (b o : Nat) : fieldAddr' Try.prog 24 (.pointer (some ⟨b, o, none⟩)) 0 = some (.pointer (some ⟨b, o, none⟩)) := field_addr 22 0 Try.underlying24 rfl sz22 b o
@[go_sem] theorem fa31_0 (b o : Nat) : fieldAddr' Try.prog 31 (.pointer (some ⟨b, o, none⟩)) 0 = some (.pointer (some ⟨b, o, none⟩)) := field_addr 9 0 Try.underlying31 rfl sz9 b o
@[go_sem] theorem fa31_1 (b o : Nat) : fieldAddr' Try.prog 31 (.pointer (some ⟨b, o, none⟩)) 1 = some (.pointer (some ⟨b, o + 1, none⟩)) := field_addr 9 1 Try.underlying31 rfl sz9 b o
@[go_sem] theorem fa31_2 (b o : Nat) : fieldAddr' Try.prog 31 (.pointer (some ⟨b, o, none⟩)) 2 = some (.pointer (some ⟨b, o + 2, none⟩)) := field_addr 29 2 Try.underlying31 rfl sz29 b o
@[go_sem] theorem fa52_0 (b o : Nat) : fieldAddr' Try.prog 52 (.pointer (some ⟨b, o, none⟩)) 0 = some (.pointer (some ⟨b, o, none⟩)) := field_addr 9 0 Try.underlying52 rfl sz9 b o
@[go_sem] theorem fa52_1 (b o : Nat) : fieldAddr' Try.prog 52 (.pointer (some ⟨b, o, none⟩)) 1 = some (.pointer (some ⟨b, o + 1, none⟩)) := field_addr 9 1 Try.underlying52 rfl sz9 b o
@[go_sem] theorem fa52_2 (b o : Nat) : fieldAddr' Try.prog 52 (.pointer (some ⟨b, o, none⟩)) 2 = some (.pointer (some ⟨b, o + 2, none⟩)) := field_addr 50 2 Try.underlying52 rfl sz50 b o
@[go_sem] theorem fa54_0 (b o : Nat) : fieldAddr' Try.prog 54 (.pointer (some ⟨b, o, none⟩)) 0 = some (.pointer (some ⟨b, o, none⟩)) := field_addr 9 0 Try.underlying54 rfl sz9 b o
@[go_sem] theorem fa54_1 (b o : Nat) : fieldAddr' Try.prog 54 (.pointer (some ⟨b, o, none⟩)) 1 = some (.pointer (some ⟨b, o + 1, none⟩)) := field_addr 52 1 Try.underlying54 rfl sz52 b o
@[go_sem] theorem fa71_0 (b o : Nat) : fieldAddr' Try.prog 71 (.pointer (some ⟨b, o, none⟩)) 0 = some (.pointer (some ⟨b, o, none⟩)) := field_addr 24 0 Try.underlying71 rfl sz24 b o
@[go_sem] theorem fa71_1 (b o : Nat) : fieldAddr' Try.prog 71 (.pointer (some ⟨b, o, none⟩)) 1 = some (.pointer (some ⟨b, o + 1, none⟩)) := field_addr 25 1 Try.underlying71 rfl sz25 b o
@[go_sem] theorem fa71_2 (b o : Nat) : fieldAddr' Try.prog 71 (.pointer (some ⟨b, o, none⟩)) 2 = some (.pointer (some ⟨b, o + 2, none⟩)) := field_addr 3 2 Try.underlying71 rfl sz3 b o
@[go_sem] theorem fa71_3 (b o : Nat) : fieldAddr' Try.prog 71 (.pointer (some ⟨b, o, none⟩)) 3 = some (.pointer (some ⟨b, o + 3, none⟩)) := field_addr 3 3 Try.underlying71 rfl sz3 b o
@[go_sem] theorem fa75_0 (b o : Nat) : fieldAddr' Try.prog 75 (.pointer (some ⟨b, o, none⟩)) 0 = some (.pointer (some ⟨b, o, none⟩)) := field_addr 4 0 Try.underlying75 rfl sz4 b o
@[go_sem] theorem fa75_1 (b o : Nat) : fieldAddr' Try.prog 75 (.pointer (some ⟨b, o, none⟩)) 1 = some (.pointer (some ⟨b, o + 1, none⟩)) := field_addr 3 1 Try.underlying75 rfl sz3 b o
@[go_sem] theorem fa75_2 (b o : Nat) : fieldAddr' Try.prog 75 (.pointer (some ⟨b, o, none⟩)) 2 = some (.pointer (some ⟨b, o + 2, none⟩)) := field_addr 29 2 Try.underlying75 rfl sz29 b o
@[go_sem] theorem fa115_0 (b o : Nat) : fieldAddr' Try.prog 115 (.pointer (some ⟨b, o, none⟩)) 0 = some (.pointer (some ⟨b, o, none⟩)) := field_addr 24 0 Try.underlying115 rfl sz24 b o
@[go_sem] theorem fa115_1 (b o : Nat) : fieldAddr' Try.prog 115 (.pointer (some ⟨b, o, none⟩)) 1 = some (.pointer (some ⟨b, o + 1, none⟩)) := field_addr 113 1 Try.underlying115 rfl sz113 b o
@[go_sem] theorem fa115_2 (b o : Nat) : fieldAddr' Try.prog 115 (.pointer (some ⟨b, o, none⟩)) 2 = some (.pointer (some ⟨b, o + 2, none⟩)) := field_addr 105 2 Try.underlying115 rfl sz105 b o
@[go_sem] theorem fa128_0 (b o : Nat) : fieldAddr' Try.prog 128 (.pointer (some ⟨b, o, none⟩)) 0 = some (.pointer (some ⟨b, o, none⟩)) := field_addr 87 0 Try.underlying128 rfl sz87 b o
@[go_sem] theorem fa128_1 (b o : Nat) : fieldAddr' Try.prog 128 (.pointer (some ⟨b, o, none⟩)) 1 = some (.pointer (some ⟨b, o + 1, none⟩)) := field_addr 25 1 Try.underlying128 rfl sz25 b o
@[go_sem] theorem fa128_2 (b o : Nat) : fieldAddr' Try.prog 128 (.pointer (some ⟨b, o, none⟩)) 2 = some (.pointer (some ⟨b, o + 2, none⟩)) := field_addr 126 2 Try.underlying128 rfl sz126 b o
@[go_sem] theorem fa128_3 (b o : Nat) : fieldAddr' Try.prog 128 (.pointer (some ⟨b, o, none⟩)) 3 = some (.pointer (some ⟨b, o + 3, none⟩)) := field_addr 3 3 Try.underlying128 rfl sz3 b o
@[go_sem] theorem fa145_0 (b o : Nat) : fieldAddr' Try.prog 145 (.pointer (some ⟨b, o, none⟩)) 0 = some (.pointer (some ⟨b, o, none⟩)) := field_addr 3 0 Try.underlying145 rfl sz3 b o
@[go_sem] theorem ia22 {b o n c i : Nat} (hi : i < n) : indexAddr' Try.prog 22 (.slice (some ⟨b, o, none⟩) n c) (.int .i64 (i : Int)) = some (.pointer (some ⟨b, o + i * 4, none⟩)) := index_addr Try.underlying22 sz54 hi
@[go_sem] theorem ia25 {b o n c i : Nat} (hi : i < n) : indexAddr' Try.prog 25 (.slice (some ⟨b, o, none⟩) n c) (.int .i64 (i : Int)) = some (.pointer (some ⟨b, o + i, none⟩)) := by rw [index_addr Try.underlying25 sz9 hi, Nat.mul_one]
@[go_sem] theorem ia29 {b o n c i : Nat} (hi : i < n) : indexAddr' Try.prog 29 (.slice (some ⟨b, o, none⟩) n c) (.int .i64 (i : Int)) = some (.pointer (some ⟨b, o + i * 3, none⟩)) := index_addr Try.underlying29 sz31 hi
@[go_sem] theorem ia50 {b o n c i : Nat} (hi : i < n) : indexAddr' Try.prog 50 (.slice (some ⟨b, o, none⟩) n c) (.int .i64 (i : Int)) = some (.pointer (some ⟨b, o + i * 3, none⟩)) := index_addr Try.underlying50 sz52 hi
@[go_sem] theorem ia105 {b o n c i : Nat} (hi : i < n) : indexAddr' Try.prog 105 (.slice (some ⟨b, o, none⟩) n c) (.int .i64 (i : Int)) = some (.pointer (some ⟨b, o + i, none⟩)) := by rw [index_addr Try.underlying105 sz4 hi, Nat.mul_one]
@[go_sem] theorem ia108 {b o n c i : Nat} (hi : i < n) : indexAddr' Try.prog 108 (.slice (some ⟨b, o, none⟩) n c) (.int .i64 (i : Int)) = some (.pointer (some ⟨b, o + i, none⟩)) := by rw [index_addr Try.underlying108 sz105 hi, Nat.mul_one]
@[go_sem] theorem len9 (h : Hp) (s : ByteArray) (r : List TypeId) : len' Try.prog h (9 :: r) [.string s] = some (.int .i64 s.data.toList.length) := len_string Try.underlying9 h s r
@[go_sem] theorem len22 (h : Hp) (b : Option Addr) (n c : Nat) (r : List TypeId) : len' Try.prog h (22 :: r) [.slice b n c] = some (.int .i64 n) := len_slice Try.underlying22 h b n c r
@[go_sem] theorem len25 (h : Hp) (b : Option Addr) (n c : Nat) (r : List TypeId) : len' Try.prog h (25 :: r) [.slice b n c] = some (.int .i64 n) := len_slice Try.underlying25 h b n c r
@[go_sem] theorem len29 (h : Hp) (b : Option Addr) (n c : Nat) (r : List TypeId) : len' Try.prog h (29 :: r) [.slice b n c] = some (.int .i64 n) := len_slice Try.underlying29 h b n c r
@[go_sem] theorem len50 (h : Hp) (b : Option Addr) (n c : Nat) (r : List TypeId) : len' Try.prog h (50 :: r) [.slice b n c] = some (.int .i64 n) := len_slice Try.underlying50 h b n c r
@[go_sem] theorem len105 (h : Hp) (b : Option Addr) (n c : Nat) (r : List TypeId) : len' Try.prog h (105 :: r) [.slice b n c] = some (.int .i64 n) := len_slice Try.underlying105 h b n c r
@[go_sem] theorem len108 (h : Hp) (b : Option Addr) (n c : Nat) (r : List TypeId) : len' Try.prog h (108 :: r) [.slice b n c] = some (.int .i64 n) := len_slice Try.underlying108 h b n c r
@[go_sem] theorem bd31 (ps : List (Nat × Value)) : build' Try.prog 31 ps = match fill' (fun i => ([(0, 1), (1, 1), (2, 1)] : List (Nat × Nat))[i]?) [.string ⟨#[]⟩, .string ⟨#[]⟩, .slice none 0 0] ps with | some c => some (.agg c.toArray) | none => none := build_of z31 Try.underlying31 (by kernel_rfl) (fun i => by
 match i with
 | 0 => exact by simp only [placeOf, List.getElem?_cons_zero, List.getElem?_cons_succ, sz9]
 | 1 => exact by simp only [placeOf, List.getElem?_cons_zero, List.getElem?_cons_succ, sz9]
 | 2 => exact by simp only [placeOf, List.getElem?_cons_zero, List.getElem?_cons_succ, sz29]
 | _ + 3 => rfl) ps
@[go_sem] theorem bd52 (ps : List (Nat × Value)) : build' Try.prog 52 ps = match fill' (fun i => ([(0, 1), (1, 1), (2, 1)] : List (Nat × Nat))[i]?) [.string ⟨#[]⟩, .string ⟨#[]⟩, .slice none 0 0] ps with | some c => some (.agg c.toArray) | none => none := build_of z52 Try.underlying52 (by kernel_rfl) (fun i => by
 match i with
 | 0 => exact by simp only [placeOf, List.getElem?_cons_zero, List.getElem?_cons_succ, sz9]
 | 1 => exact by simp only [placeOf, List.getElem?_cons_zero, List.getElem?_cons_succ, sz9]
 | 2 => exact by simp only [placeOf, List.getElem?_cons_zero, List.getElem?_cons_succ, sz50]
 | _ + 3 => rfl) ps
@[go_sem] theorem bd71 (ps : List (Nat × Value)) : build' Try.prog 71 ps = match fill' (fun i => ([(0, 1), (1, 1), (2, 1), (3, 1)] : List (Nat × Nat))[i]?) [.slice none 0 0, .slice none 0 0, .int .i64 0, .int .i64 0] ps with | some c => some (.agg c.toArray) | none => none := build_of z71 Try.underlying71 (by kernel_rfl) (fun i => by
 match i with
 | 0 => exact by simp only [placeOf, List.getElem?_cons_zero, List.getElem?_cons_succ, sz24]
 | 1 => exact by simp only [placeOf, List.getElem?_cons_zero, List.getElem?_cons_succ, sz25]
 | 2 => exact by simp only [placeOf, List.getElem?_cons_zero, List.getElem?_cons_succ, sz3]
 | 3 => exact by simp only [placeOf, List.getElem?_cons_zero, List.getElem?_cons_succ, sz3]
 | _ + 4 => rfl) ps
@[go_sem] theorem bd75 (ps : List (Nat × Value)) : build' Try.prog 75 ps = match fill' (fun i => ([(0, 1), (1, 1), (2, 1)] : List (Nat × Nat))[i]?) [.bool false, .int .i64 0, .slice none 0 0] ps with | some c => some (.agg c.toArray) | none => none := build_of z75 Try.underlying75 (by kernel_rfl) (fun i => by
 match i with
 | 0 => exact by simp only [placeOf, List.getElem?_cons_zero, List.getElem?_cons_succ, sz4]
 | 1 => exact by simp only [placeOf, List.getElem?_cons_zero, List.getElem?_cons_succ, sz3]
 | 2 => exact by simp only [placeOf, List.getElem?_cons_zero, List.getElem?_cons_succ, sz29]
 | _ + 3 => rfl) ps
@[go_sem] theorem bd115 (ps : List (Nat × Value)) : build' Try.prog 115 ps = match fill' (fun i => ([(0, 1), (1, 1), (2, 1)] : List (Nat × Nat))[i]?) [.slice none 0 0, .map none, .slice none 0 0] ps with | some c => some (.agg c.toArray) | none => none := build_of z115 Try.underlying115 (by kernel_rfl) (fun i => by
 match i with
 | 0 => exact by simp only [placeOf, List.getElem?_cons_zero, List.getElem?_cons_succ, sz24]
 | 1 => exact by simp only [placeOf, List.getElem?_cons_zero, List.getElem?_cons_succ, sz113]
 | 2 => exact by simp only [placeOf, List.getElem?_cons_zero, List.getElem?_cons_succ, sz105]
 | _ + 3 => rfl) ps
@[go_sem] theorem bd128 (ps : List (Nat × Value)) : build' Try.prog 128 ps = match fill' (fun i => ([(0, 1), (1, 1), (2, 1), (3, 1)] : List (Nat × Nat))[i]?) [.pointer none, .slice none 0 0, .map none, .int .i64 0] ps with | some c => some (.agg c.toArray) | none => none := build_of z128 Try.underlying128 (by kernel_rfl) (fun i => by
 match i with
 | 0 => exact by simp only [placeOf, List.getElem?_cons_zero, List.getElem?_cons_succ, sz87]
 | 1 => exact by simp only [placeOf, List.getElem?_cons_zero, List.getElem?_cons_succ, sz25]
 | 2 => exact by simp only [placeOf, List.getElem?_cons_zero, List.getElem?_cons_succ, sz126]
 | 3 => exact by simp only [placeOf, List.getElem?_cons_zero, List.getElem?_cons_succ, sz3]
 | _ + 4 => rfl) ps
@[go_sem] theorem bd145 (ps : List (Nat × Value)) : build' Try.prog 145 ps = match fill' (fun i => ([(0, 1), (1, 1)] : List (Nat × Nat))[i]?) [.int .i64 0, .int .i64 0] ps with | some c => some (.agg c.toArray) | none => none := build_of z145 Try.underlying145 (by kernel_rfl) (fun i => by
 match i with
 | 0 => exact by simp only [placeOf, List.getElem?_cons_zero, List.getElem?_cons_succ, sz3]
 | 1 => exact by simp only [placeOf, List.getElem?_cons_zero, List.getElem?_cons_succ, sz3]
 | _ + 2 => rfl) ps
@[go_sem] theorem bs25 (n : Nat) (hn : n ≤ 1000) (ps : List (Nat × Value)) : buildRow' Try.prog 25 n ps = match fill' (fun i => some (i * 1, 1)) (repeatN [.string ⟨#[]⟩] n) ps with | some c => some (.cells ⟨c, 9, 0, 0, false⟩, fun b => .slice (some ⟨b, 0, none⟩) n n) | none => none := buildRow_of Try.underlying25 sz9 z9 rfl (by decide) (by omega) ps
@[go_sem] theorem bs29 (n : Nat) (hn : n ≤ 1000) (ps : List (Nat × Value)) : buildRow' Try.prog 29 n ps = match fill' (fun i => some (i * 3, 3)) (repeatN [.string ⟨#[]⟩, .string ⟨#[]⟩, .slice none 0 0] n) ps with | some c => some (.cells ⟨c, 31, 0, 0, false⟩, fun b => .slice (some ⟨b, 0, none⟩) n n) | none => none := buildRow_of Try.underlying29 sz31 z31 rfl (by decide) (by omega) ps
@[go_sem] theorem bs108 (n : Nat) (hn : n ≤ 1000) (ps : List (Nat × Value)) : buildRow' Try.prog 108 n ps = match fill' (fun i => some (i * 1, 1)) (repeatN [.slice none 0 0] n) ps with | some c => some (.cells ⟨c, 105, 0, 0, false⟩, fun b => .slice (some ⟨b, 0, none⟩) n n) | none => none := buildRow_of Try.underlying108 sz105 z105 rfl (by decide) (by omega) ps
@[go_sem] theorem ms105 (l c : Nat) (hl : l ≤ c) (hc : c ≤ 1000) : makeRow' Try.prog 105 (.int .i64 (l : Int)) (.int .i64 (c : Int)) = some (.cells ⟨repeatN [.bool false] c, 4, 0, 0, false⟩, fun b => .slice (some ⟨b, 0, none⟩) l c) := makeRow_of Try.underlying105 sz4 z4 rfl (by decide) (by kernel_rfl) hl (by omega)
@[go_sem] theorem ms108 (l c : Nat) (hl : l ≤ c) (hc : c ≤ 1000) : makeRow' Try.prog 108 (.int .i64 (l : Int)) (.int .i64 (c : Int)) = some (.cells ⟨repeatN [.slice none 0 0] c, 105, 0, 0, false⟩, fun b => .slice (some ⟨b, 0, none⟩) l c) := makeRow_of Try.underlying108 sz105 z105 rfl (by decide) (by kernel_rfl) hl (by omega)
end Go.Ev.G24
end
section
namespace Go.Ev.G24
open Go.RowKit Go.Proofs
structure Part where
 d : ByteArray
 t : ByteArray
 l : List Part
inductive RoPart (r : Ro) : Part → List Value → Prop
 | mk (d t : ByteArray) (l : List Part) (Av : Option Addr) (c b o : Nat) (css : Nat → List Value) (hc : l.length ≤ c) (hb : l.length ≤ 9223372036854775807) (hA : l ≠ [] → Av = some ⟨b, o, none⟩)
  (hat : ∀ (i : Nat) (p : Part), l[i]? = some p → roAt r b (o + i * 3) (css i)) (hk : ∀ (i : Nat) (p : Part), l[i]? = some p → RoPart r p (css i)) (hs : spotless Av = true) : RoPart r ⟨d, t, l⟩ [.string d, .string t, .slice Av l.length c]
theorem RoPart.shape {r : Ro} {p : Part} {cs : List Value} (h : RoPart r p cs) : ∃ Av c, cs = [.string p.d, .string p.t, .slice Av p.l.length c] := by
 cases h with
 | mk d t l Av c => exact ⟨_, _, rfl⟩
theorem RoPart.same {r : Ro} {d t : ByteArray} {Av : Option Addr} {n c : Nat} {p : Part} (h : RoPart r p [.string d, .string t, .slice Av n c]) : spotless Av = true := by
 cases h with
 | mk d t l Av c b o css hc hb hA hat hk hs => exact hs
theorem ne_nil {α : Type} {l : List α} {i : Nat} (h : i < l.length) : l ≠ [] := by
 intro e; rw [e] at h; exact absurd h (Nat.not_lt_zero _)
mutual
def mayB (em : ByteArray → Bool) : Part → Bool
 | ⟨d, t, l⟩ => if d.data.toList = [105, 115] then false else if d.data.toList = [97, 110, 121] then false else if d.data.toList = [114, 117, 108, 101] then em t
   else if d.data.toList = [115, 101, 113] then mayAll em l else if d.data.toList = [111, 114] then mayAny em l else true
def mayAll (em : ByteArray → Bool) : List Part → Bool
 | [] => true
 | x :: l => mayB em x && mayAll em l
def mayAny (em : ByteArray → Bool) : List Part → Bool
 | [] => false
 | x :: l => mayB em x || mayAny em l
end
theorem mayAll_iff (em : ByteArray → Bool) : ∀ l : List Part, mayAll em l = true ↔ ∀ (i : Nat) (p : Part), l[i]? = some p → mayB em p = true
 | [] => by simp [mayAll]
 | x :: l => by
   rw [mayAll, Bool.and_eq_true, mayAll_iff em l]
   constructor
   · rintro ⟨h1, h2⟩ i p hp
     cases i with
     | zero => simp at hp; subst hp; exact h1
     | succ i => exact h2 i p (by simpa using hp)
   · exact fun h => ⟨h 0 x rfl, fun i p hp => h (i + 1) p (by simpa using hp)⟩
theorem mayAny_iff (em : ByteArray → Bool) : ∀ l : List Part, mayAny em l = false ↔ ∀ (i : Nat) (p : Part), l[i]? = some p → mayB em p = false
 | [] => by simp [mayAny]
 | x :: l => by
   rw [mayAny, Bool.or_eq_false_iff, mayAny_iff em l]
   constructor
   · rintro ⟨h1, h2⟩ i p hp
     cases i with
     | zero => simp at hp; subst hp; exact h1
     | succ i => exact h2 i p (by simpa using hp)
   · exact fun h => ⟨h 0 x rfl, fun i p hp => h (i + 1) p (by simpa using hp)⟩
def idxOf (names : List ByteArray) (s : ByteArray) : Nat := names.findIdx (fun x => decide (x.data.toList = s.data.toList))
def entries : List ByteArray → Nat → List MapEntry
 | [], _ => []
 | n :: l, i => ⟨.string n, .int .i64 (i : Int), i⟩ :: entries l (i + 1)
set_option maxRecDepth 10000 in
theorem find_entries (h : Hp) (s : ByteArray) : ∀ (l : List ByteArray) (i k : Nat), find' Try.prog h 9 (.string s) (entries l i) k =
  some (if l.findIdx (fun x => decide (x.data.toList = s.data.toList)) < l.length then some (k + l.findIdx (fun x => decide (x.data.toList = s.data.toList)), .int .i64 ((i + l.findIdx (fun x => decide (x.data.toList = s.data.toList)) : Nat) : Int)) else none)
 | [], i, k => by simp [entries, find']
 | n :: l, i, k => by
   have he : eqv Try.prog h 40 9 (.string s) (.string n) = some (decide (n.data.toList = s.data.toList)) := by
    simp only [eqv, Try.underlying9, bytesEq_dec]
    congr 1
    rw [Bool.eq_iff_iff]; simp [eq_comm]
   simp only [entries, find', he, List.findIdx_cons]
   by_cases c : n.data.toList = s.data.toList
   · simp [c]
   · simp only [c, decide_false, cond_false, List.length_cons]
     rw [find_entries h s l (i + 1) (k + 1)]
     simp only [Nat.add_lt_add_iff_right]
     split
     · rw [show k + 1 + List.findIdx (fun x => decide (x.data.toList = s.data.toList)) l = k + (List.findIdx (fun x => decide (x.data.toList = s.data.toList)) l + 1) by omega, show i + 1 + List.findIdx (fun x => decide (x.data.toList = s.data.toList)) l = i + (List.findIdx (fun x => decide (x.data.toList = s.data.toList)) l + 1) by omega]
     · rfl
structure Book (h : Hp) (bk m eb : Nat) (G : Value) (names : List ByteArray) (em : List Bool) : Prop where
 own : h.own bk 115 [G, .map (some m), .slice (some ⟨eb, 0, none⟩) names.length names.length]
 row : h.own eb 4 (em.map .bool)
 len : em.length = names.length
 map : m < h.next ∧ h.objs.get m = some (.map (entries names 0) names.length)
theorem Book.ext {h h1 : Hp} (x : Ext h h1) {bk m eb : Nat} {G : Value} {names : List ByteArray} {em : List Bool} (k : Book h bk m eb G names em) : Book h1 bk m eb G names em :=
 ⟨own_ext x k.own, own_ext x k.row, k.len, Nat.lt_of_lt_of_le k.map.1 x.next, by rw [x.objs m k.map.1]; exact k.map.2⟩
theorem Book.extS {S : Nat → Prop} {h h1 : Hp} (x : ExtS S h h1) {bk m eb : Nat} {G : Value} {names : List ByteArray} {em : List Bool} (k : Book h bk m eb G names em) (h0 : ¬ S bk) (h2 : ¬ S m) (h3 : ¬ S eb) : Book h1 bk m eb G names em :=
 ⟨own_extS x k.own h0, own_extS x k.row h3, k.len, Nat.lt_of_lt_of_le k.map.1 x.next, by rw [x.objs m k.map.1 h2]; exact k.map.2⟩
theorem Book.lookup {h : Hp} {bk m eb : Nat} {G : Value} {names : List ByteArray} {em : List Bool} (k : Book h bk m eb G names em) {s : ByteArray} (hs : idxOf names s < names.length) (ok : Bool) :
  lookup' Try.prog h 113 (.map (some m)) (.string s) ok = some (if ok then .tuple #[.int .i64 (idxOf names s : Int), .bool true] else .int .i64 (idxOf names s : Int)) := by
 have hm : h.map? m = some (entries names 0, names.length) := by simp only [Hp.map?, k.map.2]
 have hk : keyOk Try.prog 40 9 (.string s) = true := by simp only [keyOk, Try.underlying9]
 have hf := find_entries h s names 0 0
 unfold idxOf at hs
 rw [if_pos hs] at hf
 simp only [lookup', Try.underlying113, entriesOf, hm, hk, hf, Nat.zero_add]
 rfl
def oneKid (d : ByteArray) : Prop := d.data.toList = [109, 97, 110, 121] ∨ d.data.toList = [111, 112, 116] ∨ d.data.toList = [110, 111, 116]
mutual
def named (names : List ByteArray) : Part → Prop
 | ⟨d, t, l⟩ => (d.data.toList = [114, 117, 108, 101] → idxOf names t < names.length) ∧ (oneKid d → l.length = 1) ∧ namedL names l
def namedL (names : List ByteArray) : List Part → Prop
 | [] => True
 | x :: l => named names x ∧ namedL names l
end
theorem namedL_get {names : List ByteArray} : ∀ {l : List Part}, namedL names l → ∀ (i : Nat) (p : Part), l[i]? = some p → named names p
 | x :: l, h, 0, p, hp => by simp at hp; subst hp; exact h.1
 | x :: l, h, i + 1, p, hp => namedL_get h.2 i p (by simpa using hp)
mutual
def idleB (em : ByteArray → Bool) : Part → Bool
 | ⟨d, t, l⟩ => (decide (d.data.toList = [109, 97, 110, 121]) && mayHead em l) || idleL em l
def idleL (em : ByteArray → Bool) : List Part → Bool
 | [] => false
 | x :: l => idleB em x || idleL em l
def mayHead (em : ByteArray → Bool) : List Part → Bool
 | [] => false
 | x :: _ => mayB em x
end
theorem idleL_iff (em : ByteArray → Bool) : ∀ l : List Part, idleL em l = false ↔ ∀ (i : Nat) (p : Part), l[i]? = some p → idleB em p = false
 | [] => by simp [idleL]
 | x :: l => by
   rw [idleL, Bool.or_eq_false_iff, idleL_iff em l]
   constructor
   · rintro ⟨h1, h2⟩ i p hp
     cases i with
     | zero => simp at hp; subst hp; exact h1
     | succ i => exact h2 i p (by simpa using hp)
   · exact fun h => ⟨h 0 x rfl, fun i p hp => h (i + 1) p (by simpa using hp)⟩
mutual
def startB (em : ByteArray → Bool) (ix : ByteArray → Nat) : Part → List Bool → List Bool
 | ⟨d, t, l⟩, bs => startL em ix (decide (d.data.toList = [115, 101, 113])) l (if d.data.toList = [114, 117, 108, 101] then bs.set (ix t) true else bs)
def startL (em : ByteArray → Bool) (ix : ByteArray → Nat) (sq : Bool) : List Part → List Bool → List Bool
 | [], bs => bs
 | x :: l, bs => if (sq && !mayB em x) = true then startB em ix x bs else startL em ix sq l (startB em ix x bs)
end
mutual
theorem startB_len (em : ByteArray → Bool) (ix : ByteArray → Nat) : ∀ (p : Part) (bs : List Bool), (startB em ix p bs).length = bs.length
 | ⟨d, t, l⟩, bs => by
   unfold startB
   rw [startL_len em ix _ l]
   split <;> simp
theorem startL_len (em : ByteArray → Bool) (ix : ByteArray → Nat) (sq : Bool) : ∀ (l : List Part) (bs : List Bool), (startL em ix sq l bs).length = bs.length
 | [], bs => by simp [startL]
 | x :: l, bs => by
   unfold startL
   split
   · exact startB_len em ix x bs
   · rw [startL_len em ix sq l, startB_len em ix x bs]
end
end Go.Ev.G24
end
