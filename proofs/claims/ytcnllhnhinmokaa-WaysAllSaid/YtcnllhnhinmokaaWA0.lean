/- For every grammar, rule, items and number, Ways answers exactly the document's trees in their order, where the document's search takes at most 20,000 steps (no condition on the arguments): part 1 of 6. -/
import Derived.Below
import Derived.Deep.Draws
import Derived.Deep.AppendLies
import Derived.Maps.AppendAt
import Derived.OwnWalk
import Derived.Laws.BytesArg
import Derived.Laws.MakeOwn
import Derived.Laws.OwnMore
import Derived.Deep.OwnRows
import Derived.Tactics
import Derived.Lib.ConvBytes
import Derived.Laws.Slices
import Derived.WalkKit
import Derived.KernelRfl
import Derived.RowKit3
import Derived.Deep.LoopGhost
import Derived.Deep.QuietTactic
import Derived.BigQuiet
import Derived.WideLaws
import Derived.Deep.DeepCutAuto
import Derived.Deep.CutBlock
import Derived.Deep.RegionHeld3
import Derived.Laws.Rows
import Derived.Lib.AppendStr
import Derived.ArgAppend
import Derived.Laws.IdiomCopy
import Derived.RowKit
import Derived.OrdersHeld
import Derived.Laws.BitsLemmas
import Derived.Laws.StructEq
import Derived.Orders
import Derived.Laws.Sem
import Derived.ChangeKeysEq
section
set_option linter.unusedVariables false
set_option linter.unusedSimpArgs false
namespace Go.Proofs.YtcnllhnhinmokaaW.PrintWords
open Go.RowKit
structure Aside0 (p : Prop) : Prop where mk :: (out : p)
structure Drawn0 (w w' : World) : Prop where mk :: (out : ∃ n, w' = w.drewN n)
theorem Drawn0.refl (w : World) : Drawn0 w w := ⟨⟨0, rfl⟩⟩
theorem Drawn0.step {w w' : World} (h : Drawn0 w w') (n : Nat) : Drawn0 w (w'.drewN n) := by
 obtain ⟨m, rfl⟩ := h
 exact ⟨⟨m + n, World.drewN_drewN ..⟩⟩
theorem Drawn0.grown {w w' : World} (h : Drawn0 w w') : Grown w w' := by
 obtain ⟨n, rfl⟩ := h
 induction n with
 | zero => exact Grown.refl _
 | succ n ih => rw [← World.drew_drewN]; exact Grown.drew ih
theorem Drawn0.below {w w' : World} (h : Drawn0 w w') : Below w.heap.size w w' := by
 obtain ⟨n, rfl⟩ := h
 induction n with
 | zero => exact Below.refl _ _
 | succ n ih => rw [← World.drew_drewN]; exact ih.drew
def rd (xs : List Int) (i : Int) : Int := xs.getD i.toNat 0
def bt (s : ByteArray) (i : Int) : Int := if h : i.toNat < s.size then ((s[i.toNat]'h).toNat : Int) else 0
theorem bt_at (s : ByteArray) (i : Int) : ∀ h : i.toNat < s.size, ((s[i.toNat]'h).toNat : Int) = bt s i := fun h => by simp [bt, h]
theorem bt_range (s : ByteArray) (i : Int) : 0 ≤ bt s i ∧ bt s i ≤ 255 := by
 unfold bt
 split
 · rename_i h
   have := (s[i.toNat]'h).toNat_lt
   omega
 · omega
def nums (k : IntKind) (xs : List Int) : List Value := xs.map fun x => .int k x
theorem below_alloc {w W : World} (h : Below w.heap.size w W) (o : Obj) : Below w.heap.size w (W.alloc o) := h.alloc h.size o
theorem pw_below_drewN {B : Nat} {w W : World} (h : Below B w W) (n : Nat) : Below B w (W.drewN n) := ⟨h.os, h.tape, h.output, h.size, h.block⟩
theorem below_then {B : Nat} {w w1 w2 : World} (h : Below B w w1) (hB : B ≤ w1.heap.size) (k : Below w1.heap.size w1 w2) : Below B w w2 :=
 h.trans ⟨k.os, k.tape, k.output, k.size, fun i hi => k.block i (Nat.lt_of_lt_of_le hi hB)⟩
theorem grown_of_below {w w1 : World} (h : Below w.heap.size w w1) (row : Option Nat) : w.grownBy w1 row := ⟨h.os, h.tape, h.output, h.size, fun i hi _ => h.block i hi⟩
theorem pw_cell_below {w w1 : World} (h : Below w.heap.size w w1) {a : Addr} {v : Value} (hc : w.cell? a = some v) : w1.cell? a = some v := (h.cell (World.block_lt_of_cell? w a hc)).trans hc
def ReadsInt (w : World) (k : IntKind) (A : Option Addr) (n : Nat) (xs : List Int) : Prop :=
 xs.length = n ∧ n ≤ 9223372036854775807 ∧ (0 < n → ∃ ad, A = some ad ∧ ∀ j, j < n → w.cell? (ad.add j) = some (.int k (xs.getD j 0)))
theorem ReadsInt.below {w w1 : World} {k : IntKind} {A : Option Addr} {n : Nat} {xs : List Int} (h : ReadsInt w k A n xs) (hb : Below w.heap.size w w1) : ReadsInt w1 k A n xs :=
 ⟨h.1, h.2.1, fun hn => by
  obtain ⟨ad, e, hc⟩ := h.2.2 hn
  exact ⟨ad, e, fun j hj => pw_cell_below hb (hc j hj)⟩⟩
theorem own_base {w : World} {base : Nat} {e : TypeId} {size n : Nat} {v : Value} {xs : List Value} (h : w.ownsRow base e size v n xs) (k : Nat) (hk : v.ownBlock = some k) : base ≤ k := by
 rcases h.2 with ⟨rfl, _⟩ | ⟨g, cap, cur, rfl, hb, _⟩
 · simp [Value.ownBlock] at hk
 · have : g = k := by simpa [Value.ownBlock] using hk
   omega
theorem own_lt {w : World} {base : Nat} {e : TypeId} {size n : Nat} {v : Value} {xs : List Value} (h : w.ownsRow base e size v n xs) (k : Nat) (hk : v.ownBlock = some k) : k < w.heap.size := by
 rcases h.2 with ⟨rfl, _⟩ | ⟨g, cap, cur, rfl, hb, hh, _⟩
 · simp [Value.ownBlock] at hk
 · have : g = k := by simpa [Value.ownBlock] using hk
   subst this
   exact (Array.getElem?_eq_some_iff.1 hh).1
theorem pw_own_below {w w1 : World} {base : Nat} {e : TypeId} {size n : Nat} {v : Value} {xs : List Value} (h : w.ownsRow base e size v n xs) (hb : Below w.heap.size w w1) : w1.ownsRow base e size v n xs :=
 h.kept (grown_of_below hb none) (by cases v.ownBlock <;> simp)
theorem own_other {w w1 : World} {base : Nat} {e : TypeId} {size n : Nat} {v : Value} {xs : List Value} (h : w.ownsRow base e size v n xs) {row : Option Nat} (hg : w.grownBy w1 row) (hne : v.ownBlock = none ∨ v.ownBlock ≠ row) : w1.ownsRow base e size v n xs := h.kept hg hne
theorem own_slice {w : World} {base n : Nat} {e : TypeId} {size : Nat} {v : Value} {xs : List Value} (h : w.ownsRow base e size v n xs) : ∃ A c, v = .slice A n c := by
 rcases h.2 with ⟨rfl, rfl⟩ | ⟨g, cap, cur, rfl, _⟩
 · exact ⟨none, 0, rfl⟩
 · exact ⟨_, cap, rfl⟩
section
variable {P : Program} {ops : Array Oper} {rest : List Oper} {o : Oper} {a : Act} {Q : Exit → Act → World → Prop}
end
section
variable {P : Program}
end
theorem own_store {W : World} {base g n cap : Nat} {e : TypeId} {k : IntKind} {xs : List Int} (h : W.ownsRow base e 1 (.slice (some ⟨g, 0, none⟩) n cap) n (nums k xs)) (i x : Int) :
  (W.setCell ⟨g, i.toNat, none⟩ (.int k x)).ownsRow base e 1 (.slice (some ⟨g, 0, none⟩) n cap) n (nums k (xs.set i.toNat x)) ∧ W.grownBy (W.setCell ⟨g, i.toNat, none⟩ (.int k x)) (some g) := by
 have hs := h.stored i.toNat (.int k x)
 have he : (nums k xs).set i.toNat (.int k x) = nums k (xs.set i.toNat x) := by simp [nums, List.map_set]
 rwa [he] at hs
section
variable {P : Program} {ops : Array Oper} {rest : List Oper} {o : Oper} {a : Act} {Q : Exit → Act → World → Prop}
end
def bytesOf (s : ByteArray) : List Int := s.data.toList.map fun b => (b.toNat : Int)
def LeO {α : Type} (a b : Option α) : Prop := ∀ r, a = some r → b = some r
theorem LeO.refl {α : Type} (a : Option α) : LeO a a := fun _ h => h
theorem LeO.none {α : Type} (b : Option α) : LeO Option.none b := fun _ h => by cases h
theorem LeO.trans {α : Type} {a b c : Option α} (h : LeO a b) (k : LeO b c) : LeO a c := fun r hr => k r (h r hr)
theorem LeO.bind {α β : Type} {a a' : Option α} {f f' : α → Option β} (h : LeO a a') (k : ∀ x, LeO (f x) (f' x)) : LeO (a.bind f) (a'.bind f') := by
 intro r hr
 obtain ⟨x, hx, hf⟩ := Option.bind_eq_some_iff.1 hr
 exact Option.bind_eq_some_iff.2 ⟨x, h x hx, k x r hf⟩
theorem LeO.map {α β : Type} {a a' : Option α} (f : α → β) (h : LeO a a') : LeO (a.map f) (a'.map f) := by
 intro r hr
 obtain ⟨x, hx, hf⟩ := Option.map_eq_some_iff.1 hr
 exact Option.map_eq_some_iff.2 ⟨x, h x hx, hf⟩
theorem more_rounds {α : Type} {g : Nat → Option α} (h : ∀ k, LeO (g k) (g (k + 1))) (k : Nat) : ∀ j, LeO (g k) (g (k + j))
 | 0 => LeO.refl _
 | j + 1 => (more_rounds h k j).trans (h (k + j))
theorem at_rounds {α : Type} {g : Nat → Option α} (h : ∀ k, LeO (g k) (g (k + 1))) {k k' : Nat} (hk : k ≤ k') {r : α} (hr : g k = some r) : g k' = some r := by
 have := more_rounds h k (k' - k) r hr
 rwa [Nat.add_sub_cancel' hk] at this
theorem together {α β : Type} {g : Nat → Option α} {f : Nat → Option β} (hg : ∀ k, LeO (g k) (g (k + 1))) (hf : ∀ k, LeO (f k) (f (k + 1))) {r : α} {q : β} (h : ∃ k, g k = some r) (h' : ∃ k, f k = some q) : ∃ k, g k = some r ∧ f k = some q := by
 obtain ⟨k, hk⟩ := h
 obtain ⟨k', hk'⟩ := h'
 exact ⟨max k k', at_rounds hg (Nat.le_max_left _ _) hk, at_rounds hf (Nat.le_max_right _ _) hk'⟩
def Reps {α : Type} (R : α → List Value → Prop) (size : Nat) (ps : List α) (cs : List Value) : Prop :=
 cs.length = ps.length * size ∧ ∀ j p, ps[j]? = some p → R p ((cs.drop (j * size)).take size)
theorem Reps.none {α : Type} (R : α → List Value → Prop) (size : Nat) : Reps R size [] [] := ⟨by simp, fun j p h => by simp at h⟩
theorem Reps.snoc {α : Type} {R : α → List Value → Prop} {size : Nat} {ps : List α} {cs c : List Value} {p : α} (h : Reps R size ps cs) (hp : R p c) (hc : c.length = size) : Reps R size (ps ++ [p]) (cs ++ c) := by
 refine ⟨by rw [List.length_append, h.1, hc, List.length_append, List.length_singleton, Nat.add_mul, Nat.one_mul], fun j q hq => ?_⟩
 rcases Nat.lt_or_ge j ps.length with hj | hj
 · rw [List.getElem?_append_left hj] at hq
   have h1 : j * size + size ≤ cs.length := by rw [h.1, ← Nat.succ_mul]; exact Nat.mul_le_mul_right _ hj
   have h2 := h.2 j q hq
   rw [List.drop_append_of_le_length (by omega), List.take_append_of_le_length (by rw [List.length_drop]; omega)]
   exact h2
 · have hj' : j = ps.length := by
    have := (List.getElem?_eq_some_iff.1 hq).1
    rw [List.length_append, List.length_singleton] at this
    omega
   subst hj'
   have hq' : p = q := by simpa using hq
   subst hq'
   rw [← h.1, List.drop_left, ← hc, List.take_length]
   exact hp
theorem Reps.imp_ {α : Type} {R R' : α → List Value → Prop} {size : Nat} {ps : List α} {cs : List Value} (h : Reps R size ps cs) (hR : ∀ p c, R p c → R' p c) : Reps R' size ps cs := ⟨h.1, fun j p hj => hR _ _ (h.2 j p hj)⟩
def ReadsRow {α : Type} (R : α → List Value → Prop) (size : Nat) (w : World) (A : Option Addr) (n : Nat) (ps : List α) : Prop :=
 ps.length = n ∧ n ≤ 9223372036854775807 ∧ (0 < n → ∃ ad, A = some ad ∧ ∀ j p, ps[j]? = some p → ∃ c, c.length = size ∧ R p c ∧ ∀ i u, c[i]? = some u → w.cell? (ad.add (j * size + i)) = some u)
theorem ReadsRow.imp_ {α : Type} {R R' : α → List Value → Prop} {size : Nat} {w w1 : World} {A : Option Addr} {n : Nat} {ps : List α} (h : ReadsRow R size w A n ps) (hb : Below w.heap.size w w1) (hR : ∀ p c, R p c → R' p c) : ReadsRow R' size w1 A n ps :=
 ⟨h.1, h.2.1, fun hn => by
  obtain ⟨ad, e, hc⟩ := h.2.2 hn
  refine ⟨ad, e, fun j p hj => ?_⟩
  obtain ⟨c, hs, hr, hcell⟩ := hc j p hj
  exact ⟨c, hs, hR _ _ hr, fun i u hu => pw_cell_below hb (hcell i u hu)⟩⟩
theorem own_reads_row {α : Type} {R : α → List Value → Prop} {w : World} {base n size : Nat} {e : TypeId} {v : Value} {ps : List α} {cs : List Value} (h : w.ownsRow base e size v n cs) (hR : Reps R size ps cs) (hn : ps.length = n) :
  ∃ A c, v = .slice A n c ∧ ReadsRow R size w A n ps := by
 rcases Nat.eq_zero_or_pos n with h0 | h0
 · rcases h.2 with ⟨rfl, rfl⟩ | ⟨g, cap, cur, rfl, _⟩
   · exact ⟨none, 0, rfl, hn, by omega, fun hp => absurd hp (by omega)⟩
   · exact ⟨_, cap, rfl, hn, by omega, fun hp => absurd hp (by omega)⟩
 · obtain ⟨g, cap, rfl, _, _⟩ := h.form h0
   have hm : n ≤ 9223372036854775807 := by
    rcases h.2 with ⟨_, h1⟩ | ⟨g', cap', cur, he, _, _, h1, h2, _⟩
    · omega
    · simp only [maxLen] at h2
      omega
   refine ⟨_, cap, rfl, hn, hm, fun _ => ⟨_, rfl, fun j p hj => ⟨(cs.drop (j * size)).take size, ?_, hR.2 j p hj, fun i u hu => ?_⟩⟩⟩
   · have hjl := (List.getElem?_eq_some_iff.1 hj).1
     have h1 : j * size + size ≤ cs.length := by rw [hR.1, ← Nat.succ_mul]; exact Nat.mul_le_mul_right _ hjl
     rw [List.length_take, List.length_drop]
     omega
   · refine h.cells (g := g) rfl _ u ?_
     rw [List.getElem?_take] at hu
     split at hu
     · rw [List.getElem?_drop] at hu
       exact hu
     · cases hu
section
variable {P : Program} {ops : Array Oper} {rest : List Oper} {o : Oper} {a : Act} {Q : Exit → Act → World → Prop}
theorem print_append_cells {w0 W : World} (base : Nat) (hgd : o.guard = none) (s x : Operand) (t e : TypeId) (z : Value) (size bytes : Nat)
  (ho : o.op = .call { callee := .builtin .append, args := #[s, x], argTypes := #[t, t] })
  (ht : P.underlying t = some (.slice e)) (hinfo : (P.info? e).map (fun i => (i.zero, i.size, i.bytes)) = some (some z, size, bytes)) (hz : z.cells.size = size) (hs0 : 0 < size) (hb0 : 0 < bytes)
  (v : Value) (n : Nat) (xs ys : List Value) (hs : a.eval s = v) (hx : a.eval x = .slice (some ⟨W.heap.size, 0, none⟩) 1 1) (hys : ys.length = size) (h1 : ∀ u ∈ ys, u.oneCell' = true)
  (HO : W.ownsRow base e size v n xs) (HB : Below base w0 W) (hbase : base ≤ W.heap.size) (hl : (n + 1) * bytes ≤ 140737488355328)
  (h : ∀ v1 w1, w1.ownsRow base e size v1 (n + 1) (xs ++ ys) → Below base w0 w1 → W.grownBy w1 v.ownBlock → (v1.ownBlock = v.ownBlock ∨ ∃ b, v1.ownBlock = some b ∧ W.heap.size ≤ b) → wpList P ops Q rest (a.put o.dst v1) w1) :
  wpList P ops Q (o :: rest) a (W.alloc (.cells ys.toArray e)) := by
 obtain ⟨i0, hi, hzz⟩ := Option.map_eq_some_iff.1 hinfo
 simp only [Prod.mk.injEq] at hzz
 obtain ⟨hz0, hz1, hz2⟩ := hzz
 have hlen : n + 1 ≤ 140737488355328 := Nat.le_trans (Nat.le_mul_of_pos_right _ hb0) hl
 refine wpList_append_own_at (W.alloc (.cells ys.toArray e)) hgd s x t ho base e i0 z size bytes ht hi hz0 hz1 hz2 hz hs0 v n xs hs (HO.alloc _) ⟨W.heap.size, 0, none⟩ 1 1 ys hx (by rw [hys]; simp)
  (by simpa using World.news_of_block (cs := ys.toArray) (t := e) (fr := (0, 0)) (heap_alloc_new W (.cells ys.toArray e))) h1 (by simp only [maxLen]; omega) hl (by simp; omega) ?_
 intro v1 w1 hown hg _ hat
 refine h v1 w1 hown ((HB.alloc hbase _).grown hg (by simp; omega) (own_base HO)) (World.grownBy.trans (World.grownBy_alloc W _ _) hg) ?_
 rcases hat with hat | hat
 · exact .inl hat
 · exact .inr ⟨_, hat, by simp⟩
end
theorem own_ne {w : World} {base : Nat} {e t : TypeId} {size n g : Nat} {v : Value} {xs : List Value} {cs : Array Value} (h : w.ownsRow base e size v n xs) (hg : w.heap[g]? = some (.cells cs t (0, 0))) (hne : e ≠ t) : some g ≠ v.ownBlock := by
 rcases h.2 with ⟨rfl, _⟩ | ⟨g', cap, cur, rfl, _, hh, _⟩
 · simp [Value.ownBlock]
 · intro he
   have : g = g' := by simpa [Value.ownBlock] using he
   subst this
   rw [hg] at hh
   injection hh with hh
   injection hh with _ ht
   exact hne ht.symm
theorem blk_set {w : World} {g : Nat} {t : TypeId} {cs : Array Value} (h : w.heap[g]? = some (.cells cs t (0, 0))) (i : Nat) (u : Value) : (w.setCell ⟨g, i, none⟩ u).heap[g]? = some (.cells (cs.setIfInBounds i u) t (0, 0)) := by
 simp [World.setCell, Array.getElem?_modify, h]
theorem blk_lt {w : World} {g : Nat} {o : Obj} (h : w.heap[g]? = some o) : g < w.heap.size := (Array.getElem?_eq_some_iff.1 h).1
theorem blk_cell {w : World} {g : Nat} {t : TypeId} {cs : Array Value} (h : w.heap[g]? = some (.cells cs t (0, 0))) (i : Nat) : w.cell? ⟨g, i, none⟩ = cs[i]? := cell_of_row w g i cs t (0, 0) h
theorem blk_frozen {w : World} {g : Nat} {t : TypeId} {cs : Array Value} (h : w.heap[g]? = some (.cells cs t (0, 0))) (i : Nat) : w.frozen? ⟨g, i, none⟩ = false := by simp [World.frozen?, h]
def KeepBut (w w' : World) (g : Nat) (row : Option Nat) : Prop := w.heap.size ≤ w'.heap.size ∧ ∀ i, i < w.heap.size → i ≠ g → some i ≠ row → w'.heap[i]? = w.heap[i]?
theorem KeepBut.refl (w : World) (g : Nat) (row : Option Nat) : KeepBut w w g row := ⟨Nat.le_refl _, fun _ _ _ _ => rfl⟩
theorem KeepBut.of_below {w w1 : World} (h : Below w.heap.size w w1) (g : Nat) (row : Option Nat) : KeepBut w w1 g row := ⟨h.size, fun i hi _ _ => h.block i hi⟩
theorem KeepBut.trans {w w1 w2 : World} {g : Nat} {row row1 : Option Nat} (h : KeepBut w w1 g row) (k : KeepBut w1 w2 g row1) (hr : row1 = row ∨ ∃ b, row1 = some b ∧ w.heap.size ≤ b) : KeepBut w w2 g row :=
 ⟨Nat.le_trans h.1 k.1, fun i hi hg hn => by
  refine (k.2 i (Nat.lt_of_lt_of_le hi h.1) hg ?_).trans (h.2 i hi hg hn)
  rcases hr with rfl | ⟨b, rfl, hb⟩
  · exact hn
  · intro e
    injection e with e
    omega⟩
theorem KeepBut.blk {w w1 : World} {g g' : Nat} {row : Option Nat} {o : Obj} (h : KeepBut w w1 g row) (hb : w.heap[g']? = some o) (hg : g' ≠ g) (hr : some g' ≠ row) : w1.heap[g']? = some o := (h.2 g' (blk_lt hb) hg hr).trans hb
theorem KeepBut.own {w w1 : World} {g : Nat} {row : Option Nat} {base : Nat} {e : TypeId} {size n : Nat} {v : Value} {xs : List Value} (h : KeepBut w w1 g row) (ho : w.ownsRow base e size v n xs) (hg : v.ownBlock ≠ some g) (hr : v.ownBlock = none ∨ v.ownBlock ≠ row) : w1.ownsRow base e size v n xs := by
 obtain ⟨h1, h2⟩ := ho
 refine ⟨h1, ?_⟩
 rcases h2 with h2 | ⟨b, cap, cur, rfl, hb, hh, r⟩
 · exact .inl h2
 · refine .inr ⟨b, cap, cur, rfl, hb, h.blk hh ?_ ?_, r⟩
   · intro e
     exact hg (by rw [← e]; rfl)
   · rcases hr with hr | hr
     · simp [Value.ownBlock] at hr
     · exact hr
def Ev {α : Type} (g : Nat → Option α) (r : α) : Prop := ∃ K, ∀ k, K ≤ k → g k = some r
theorem Ev.of {α : Type} {g : Nat → Option α} {r : α} (hg : ∀ k, LeO (g k) (g (k + 1))) {k : Nat} (h : g k = some r) : Ev g r := ⟨k, fun _ hk => at_rounds hg hk h⟩
theorem Ev.now {α : Type} (r : α) : Ev (fun _ => some r) r := ⟨0, fun _ _ => rfl⟩
theorem Ev.rounds {α : Type} {g : Nat → Option α} {r : α} (h : Ev g r) : ∃ k, g k = some r := by
 obtain ⟨K, h⟩ := h
 exact ⟨K, h K (Nat.le_refl _)⟩
theorem Ev.bind {α β : Type} {g : Nat → Option α} {f : Nat → α → Option β} {a : α} {r : β} (h : Ev g a) (k : Ev (fun n => f n a) r) : Ev (fun n => (g n).bind (f n)) r := by
 obtain ⟨K, h⟩ := h
 obtain ⟨K', k⟩ := k
 refine ⟨max K K', fun n hn => ?_⟩
 have h1 := h n (by omega)
 have h2 := k n (by omega)
 simp only [h1, Option.bind_some]
 exact h2
theorem Ev.step {α : Type} {g f : Nat → Option α} {r : α} (h : ∀ k, g (k + 1) = f k) (k : Ev f r) : Ev g r := by
 obtain ⟨K, k⟩ := k
 refine ⟨K + 1, fun n hn => ?_⟩
 obtain ⟨m, rfl⟩ : ∃ m, n = m + 1 := ⟨n - 1, by omega⟩
 rw [h]
 exact k m (by omega)
theorem Ev.congr {α : Type} {g f : Nat → Option α} {r : α} (h : ∀ k, g k = f k) (k : Ev f r) : Ev g r := by
 obtain ⟨K, k⟩ := k
 exact ⟨K, fun n hn => (h n).trans (k n hn)⟩
section
variable {P : Program} {ops : Array Oper} {o : Oper} {a : Act} {Q : Exit → Act → World → Prop} {K : Act → World → Prop}
end
theorem own_weaken {w : World} {base base' : Nat} {e : TypeId} {size n : Nat} {v : Value} {xs : List Value} (h : w.ownsRow base e size v n xs) (hb : base' ≤ base) : w.ownsRow base' e size v n xs := by
 obtain ⟨h1, h2⟩ := h
 refine ⟨h1, ?_⟩
 rcases h2 with h2 | ⟨g, cap, cur, rfl, hg, r⟩
 · exact .inl h2
 · exact .inr ⟨g, cap, cur, rfl, Nat.le_trans hb hg, r⟩
section
variable {α : Type} {enc : α → Value} {d : α}
def rdOf (d : α) (xs : List α) (i : Int) : α := xs.getD i.toNat d
def ReadsOf (enc : α → Value) (d : α) (w : World) (A : Option Addr) (n : Nat) (xs : List α) : Prop :=
 xs.length = n ∧ n ≤ 9223372036854775807 ∧ (0 < n → ∃ ad, A = some ad ∧ ∀ j, j < n → w.cell? (ad.add j) = some (enc (xs.getD j d)))
theorem ReadsOf.below {w w1 : World} {A : Option Addr} {n : Nat} {xs : List α} (h : ReadsOf enc d w A n xs) (hb : Below w.heap.size w w1) : ReadsOf enc d w1 A n xs :=
 ⟨h.1, h.2.1, fun hn => by
  obtain ⟨ad, e, hc⟩ := h.2.2 hn
  exact ⟨ad, e, fun j hj => pw_cell_below hb (hc j hj)⟩⟩
end
section
variable {α : Type} {P : Program} {ops : Array Oper} {rest : List Oper} {o : Oper} {a : Act} {Q : Exit → Act → World → Prop}
end
def NeRow (v v' : Value) : Prop := ∀ k, v.ownBlock = some k → v'.ownBlock ≠ some k
theorem ne_nil (v' : Value) : NeRow (.slice none 0 0) v' := fun k hk => by simp [Value.ownBlock] at hk
theorem blk_new (w : World) (o : Obj) : (w.alloc o).heap[w.heap.size]? = some o := heap_alloc_new w o
section
variable {P : Program}
end
theorem own_le {w : World} {base n m c size : Nat} {e : TypeId} {A : Option Addr} {xs : List Value} (h : w.ownsRow base e size (.slice A m c) n xs) : m ≤ c := by
 rcases h.2 with ⟨he, _⟩ | ⟨g, cap, cur, he, _, _, hnc, _⟩
 · injection he with _ h2 h3
   omega
 · injection he with _ h2 h3
   omega
def OwnRow {α : Type} (R : α → List Value → Prop) (e : TypeId) (size : Nat) (w : World) (base : Nat) (v : Value) (ps : List α) : Prop :=
 ∃ inner, w.ownsRow base e size v ps.length inner ∧ Reps R size ps inner
section
variable {α : Type} {R R' : α → List Value → Prop} {e : TypeId} {size : Nat} {w w1 : World} {base : Nat} {v : Value} {ps : List α}
theorem OwnRow.imp_ (h : OwnRow R e size w base v ps) (hR : ∀ p c, R p c → R' p c) : OwnRow R' e size w base v ps := by
 obtain ⟨inner, ho, hr⟩ := h
 exact ⟨inner, ho, hr.imp_ hR⟩
theorem OwnRow.below (h : OwnRow R e size w base v ps) (hb : Below w.heap.size w w1) : OwnRow R e size w1 base v ps := by
 obtain ⟨inner, ho, hr⟩ := h
 exact ⟨inner, pw_own_below ho hb, hr⟩
theorem OwnRow.other (h : OwnRow R e size w base v ps) {row : Option Nat} (hg : w.grownBy w1 row) (hne : v.ownBlock = none ∨ v.ownBlock ≠ row) : OwnRow R e size w1 base v ps := by
 obtain ⟨inner, ho, hr⟩ := h
 exact ⟨inner, own_other ho hg hne, hr⟩
theorem OwnRow.keep (h : OwnRow R e size w base v ps) {g : Nat} {t : TypeId} {cells : Array Value} (hb : w.heap[g]? = some (.cells cells t (0, 0))) (ht : e ≠ t) (hk : KeepBut w w1 g none) : OwnRow R e size w1 base v ps := by
 obtain ⟨inner, ho, hr⟩ := h
 exact ⟨inner, hk.own ho (Ne.symm (own_ne ho hb ht)) (by cases v.ownBlock <;> simp), hr⟩
theorem OwnRow.reads (h : OwnRow R e size w base v ps) : ∃ A c, v = .slice A ps.length c ∧ ps.length ≤ c ∧ ReadsRow R size w A ps.length ps := by
 obtain ⟨inner, ho, hr⟩ := h
 obtain ⟨A, c, rfl, hrow⟩ := own_reads_row ho hr rfl
 exact ⟨A, c, rfl, own_le ho, hrow⟩
theorem OwnRow.lit (W : World) (base : Nat) {inner : List Value} (hr : Reps R size ps inner) (hb : base ≤ W.heap.size) (hm : ps.length ≤ 9223372036854775807) :
  OwnRow R e size (W.alloc (.cells inner.toArray e)) base (.slice (some ⟨W.heap.size, 0, none⟩) ps.length ps.length) ps := by
 have h := World.ownsRow_lit (base := base) (e := e) (size := size) W inner.toArray ps.length hb (by simpa [maxLen] using hm) (by simpa using hr.1)
 exact ⟨inner, by simpa using h, hr⟩
end
section
variable {P : Program} {ops : Array Oper} {rest : List Oper} {o : Oper} {a : Act} {Q : Exit → Act → World → Prop} {α : Type} {R : α → List Value → Prop}
theorem OwnRow.append {w0 W : World} (base : Nat) (hgd : o.guard = none) (s x : Operand) (t e : TypeId) (z : Value) (size bytes : Nat)
  (ho : o.op = .call { callee := .builtin .append, args := #[s, x], argTypes := #[t, t] })
  (ht : P.underlying t = some (.slice e)) (hinfo : (P.info? e).map (fun i => (i.zero, i.size, i.bytes)) = some (some z, size, bytes)) (hz : z.cells.size = size) (hs0 : 0 < size) (hb0 : 0 < bytes)
  (v : Value) (ps : List α) (p : α) (cs : List Value) (hs : a.eval s = v) (hx : a.eval x = .slice (some ⟨W.heap.size, 0, none⟩) 1 1) (hp : R p cs) (hcs : cs.length = size) (h1 : ∀ u ∈ cs, u.oneCell' = true)
  (HO : OwnRow R e size W base v ps) (HB : Below base w0 W) (hbase : base ≤ W.heap.size) (hl : (ps.length + 1) * bytes ≤ 140737488355328)
  (h : ∀ v1 w1, OwnRow R e size w1 base v1 (ps ++ [p]) → Below base w0 w1 → W.grownBy w1 v.ownBlock → (v1.ownBlock = v.ownBlock ∨ ∃ b, v1.ownBlock = some b ∧ W.heap.size ≤ b) → wpList P ops Q rest (a.put o.dst v1) w1) :
  wpList P ops Q (o :: rest) a (W.alloc (.cells cs.toArray e)) := by
 obtain ⟨inner, hown, hr⟩ := HO
 refine print_append_cells base hgd s x t e z size bytes ho ht hinfo hz hs0 hb0 v ps.length inner cs hs hx hcs h1 hown HB hbase hl ?_
 intro v1 w1 hown1 hb1 hg1 hat1
 exact h v1 w1 ⟨inner ++ cs, by rw [List.length_append, List.length_singleton]; exact hown1, hr.snoc hp hcs⟩ hb1 hg1 hat1
end
section
variable {P : Program} {ops : Array Oper} {o : Oper} {a : Act} {Q : Exit → Act → World → Prop} {K : Act → World → Prop} {α : Type} {R : α → List Value → Prop}
end
section
variable {α : Type} {P : Program}
theorem ReadsOf.len_ {enc : α → Value} {d : α} {w : World} {A : Option Addr} {n : Nat} {xs : List α} (h : ReadsOf enc d w A n xs) : ReadsOf enc d w A xs.length xs := by rw [h.1]; exact h
end
section
variable {P : Program} {ops : Array Oper} {rest : List Oper} {o : Oper} {a : Act} {Q : Exit → Act → World → Prop}
end
structure Kd (α : Type) where
 sz : Nat
 E : List Nat
 K : World → α → List Value → Prop
 M : World → Nat → (Nat → Prop) → α → List Value → Prop
 K_len : ∀ {w x cs}, K w x cs → cs.length = sz
 K_one : ∀ {w x cs}, K w x cs → ∀ u ∈ cs, u.oneCell' = true
 K_below : ∀ {w w1 : World} {x cs}, Below w.heap.size w w1 → K w x cs → K w1 x cs
 K_of_M : ∀ {w base ok x cs}, M w base ok x cs → K w x cs
 M_mono : ∀ {w base ok ok' x cs}, (∀ k, ok k → ok' k) → M w base ok x cs → M w base ok' x cs
 M_bound : ∀ {w : World} {base ok x cs}, M w base ok x cs → M w base (fun k => ok k ∧ base ≤ k ∧ k < w.heap.size ∧ ∃ q, q ∈ E ∧ ∃ cells, w.heap[k]? = some (.cells cells q (0, 0))) x cs
 M_move : ∀ {w w1 : World} {base ok x cs}, (∀ k, ok k → w1.heap[k]? = w.heap[k]?) → M w base ok x cs → M w1 base ok x cs
 M_lower : ∀ {w base base' ok x cs}, base' ≤ base → M w base ok x cs → M w base' ok x cs
theorem own_move {w w1 : World} {base : Nat} {e : TypeId} {size n : Nat} {v : Value} {xs : List Value} (h : w.ownsRow base e size v n xs) (hm : ∀ k, v.ownBlock = some k → w1.heap[k]? = w.heap[k]?) : w1.ownsRow base e size v n xs := by
 obtain ⟨h1, h2⟩ := h
 refine ⟨h1, ?_⟩
 rcases h2 with h2 | ⟨g, cap, cur, rfl, hg, hh, r⟩
 · exact .inl h2
 · exact .inr ⟨g, cap, cur, rfl, hg, (hm g (by simp [Value.ownBlock])).trans hh, r⟩
theorem own_typed {w : World} {base : Nat} {e : TypeId} {size n : Nat} {v : Value} {xs : List Value} (h : w.ownsRow base e size v n xs) (k : Nat) (hk : v.ownBlock = some k) : ∃ cells, w.heap[k]? = some (.cells cells e (0, 0)) := by
 rcases h.2 with ⟨rfl, _⟩ | ⟨g, cap, cur, rfl, hg, hh, r⟩
 · simp [Value.ownBlock] at hk
 · have : g = k := by simpa [Value.ownBlock] using hk
   subst this
   exact ⟨cur, hh⟩
namespace Kd
def C {α : Type} (d : Kd α) (w : World) (A : Option Addr) (n : Nat) (xs : List α) : Prop := ReadsRow (d.K w) d.sz w A n xs
def R {α : Type} (d : Kd α) (e : Nat) (w : World) (base : Nat) (ok : Nat → Prop) (v : Value) (xs : List α) : Prop :=
 (∀ k, v.ownBlock = some k → ok k) ∧ OwnRow (d.M w base (fun k => ok k ∧ some k ≠ v.ownBlock)) e d.sz w base v xs
section
variable {α : Type} {d : Kd α} {e : Nat} {w w1 : World} {base : Nat} {ok ok' : Nat → Prop} {v : Value} {xs : List α}
theorem C_below {A : Option Addr} {n : Nat} (h : d.C w A n xs) (hb : Below w.heap.size w w1) : d.C w1 A n xs := ReadsRow.imp_ h hb (fun _ _ hp => d.K_below hb hp)
theorem R_mono (h : d.R e w base ok v xs) (hok : ∀ k, ok k → ok' k) : d.R e w base ok' v xs := ⟨fun k hk => hok k (h.1 k hk), h.2.imp_ (fun _ _ hp => d.M_mono (fun k hk => ⟨hok k hk.1, hk.2⟩) hp)⟩
theorem R_bound (h : d.R e w base ok v xs) : d.R e w base (fun k => ok k ∧ base ≤ k ∧ k < w.heap.size ∧ ∃ q, q ∈ e :: d.E ∧ ∃ cells, w.heap[k]? = some (.cells cells q (0, 0))) v xs := by
 obtain ⟨h0, inner, ho, hr⟩ := h
 refine ⟨fun k hk => ?_, inner, ho, hr.imp_ (fun _ _ hp => d.M_mono (fun k hk => ?_) (d.M_bound hp))⟩
 · obtain ⟨cells, hc⟩ := own_typed ho k hk
   exact ⟨h0 k hk, own_base ho k hk, own_lt ho k hk, e, List.mem_cons_self, cells, hc⟩
 · obtain ⟨⟨h1, h2⟩, h3, h4, q, hq, hc⟩ := hk
   exact ⟨⟨h1, h3, h4, q, List.mem_cons_of_mem _ hq, hc⟩, h2⟩
theorem R_move (h : d.R e w base ok v xs) (hm : ∀ k, ok k → w1.heap[k]? = w.heap[k]?) : d.R e w1 base ok v xs := by
 obtain ⟨h0, inner, ho, hr⟩ := h
 exact ⟨h0, inner, own_move ho (fun k hk => hm k (h0 k hk)), hr.imp_ (fun _ _ hp => d.M_move (fun k hk => hm k hk.1) hp)⟩
theorem R_lower {base' : Nat} (h : d.R e w base ok v xs) (hb : base' ≤ base) : d.R e w base' ok v xs := by
 obtain ⟨h0, inner, ho, hr⟩ := h
 exact ⟨h0, inner, own_weaken ho hb, hr.imp_ (fun _ _ hp => d.M_lower hb hp)⟩
theorem R_reads (h : d.R e w base ok v xs) : ∃ A c, v = .slice A xs.length c ∧ xs.length ≤ c ∧ d.C w A xs.length xs := by
 obtain ⟨A, c, he, hl, hr⟩ := OwnRow.reads h.2
 exact ⟨A, c, he, hl, hr.imp_ (Below.refl _ _) (fun _ _ hp => d.K_of_M hp)⟩
theorem R_own (h : d.R e w base ok v xs) : ∃ inner, w.ownsRow base e d.sz v xs.length inner := by
 obtain ⟨_, inner, ho, _⟩ := h
 exact ⟨inner, ho⟩
end
def scalar {α : Type} (enc : α → Value) (h1 : ∀ x, (enc x).oneCell' = true) : Kd α where
 sz := 1
 E := []
 K := fun _ x cs => cs = [enc x]
 M := fun _ _ _ x cs => cs = [enc x]
 K_len := fun h => by rw [h]; rfl
 K_one := fun h u hu => by
  rw [h] at hu
  rw [List.mem_singleton.1 hu]
  exact h1 _
 K_below := fun _ h => h
 K_of_M := fun h => h
 M_mono := fun _ h => h
 M_bound := fun h => h
 M_move := fun _ h => h
 M_lower := fun _ h => h
def int (k : IntKind) : Kd Int := scalar (Value.int k) (fun _ => rfl)
def bool : Kd Bool := scalar Value.bool (fun _ => rfl)
def string : Kd ByteArray := scalar Value.string (fun _ => rfl)
def slice {α : Type} (e : Nat) (d : Kd α) : Kd (List α) where
 sz := 1
 E := e :: d.E
 K := fun w xs cs => ∃ A c, cs = [.slice A xs.length c] ∧ xs.length ≤ c ∧ d.C w A xs.length xs
 M := fun w base ok xs cs => ∃ v, cs = [v] ∧ d.R e w base ok v xs
 K_len := by
  rintro w x cs ⟨A, c, rfl, _⟩
  rfl
 K_one := by
  rintro w x cs ⟨A, c, rfl, _⟩ u hu
  rw [List.mem_singleton.1 hu]
  rfl
 K_below := by
  rintro w w1 x cs hb ⟨A, c, rfl, hl, hr⟩
  exact ⟨A, c, rfl, hl, C_below hr hb⟩
 K_of_M := by
  rintro w base ok x cs ⟨v, rfl, h⟩
  obtain ⟨A, c, rfl, hl, hr⟩ := R_reads h
  exact ⟨A, c, rfl, hl, hr⟩
 M_mono := by
  rintro w base ok ok' x cs hok ⟨v, rfl, h⟩
  exact ⟨v, rfl, R_mono h hok⟩
 M_bound := by
  rintro w base ok x cs ⟨v, rfl, h⟩
  exact ⟨v, rfl, R_bound h⟩
 M_move := by
  rintro w w1 base ok x cs hm ⟨v, rfl, h⟩
  exact ⟨v, rfl, R_move h hm⟩
 M_lower := by
  rintro w base base' ok x cs hb ⟨v, rfl, h⟩
  exact ⟨v, rfl, R_lower h hb⟩
def pair {α β : Type} (a : Kd α) (b : Kd β) : Kd (α × β) where
 sz := a.sz + b.sz
 E := a.E ++ b.E
 K := fun w x cs => ∃ c0 c1, cs = c0 ++ c1 ∧ a.K w x.1 c0 ∧ b.K w x.2 c1
 M := fun w base ok x cs => ∃ c0 c1, cs = c0 ++ c1 ∧ a.M w base ok x.1 c0 ∧ b.M w base ok x.2 c1
 K_len := by
  rintro w x cs ⟨c0, c1, rfl, h0, h1⟩
  rw [List.length_append, a.K_len h0, b.K_len h1]
 K_one := by
  rintro w x cs ⟨c0, c1, rfl, h0, h1⟩ u hu
  rcases List.mem_append.1 hu with hu | hu
  · exact a.K_one h0 u hu
  · exact b.K_one h1 u hu
 K_below := by
  rintro w w1 x cs hb ⟨c0, c1, rfl, h0, h1⟩
  exact ⟨c0, c1, rfl, a.K_below hb h0, b.K_below hb h1⟩
 K_of_M := by
  rintro w base ok x cs ⟨c0, c1, rfl, h0, h1⟩
  exact ⟨c0, c1, rfl, a.K_of_M h0, b.K_of_M h1⟩
 M_mono := by
  rintro w base ok ok' x cs hok ⟨c0, c1, rfl, h0, h1⟩
  exact ⟨c0, c1, rfl, a.M_mono hok h0, b.M_mono hok h1⟩
 M_bound := by
  rintro w base ok x cs ⟨c0, c1, rfl, h0, h1⟩
  refine ⟨c0, c1, rfl, a.M_mono ?_ (a.M_bound h0), b.M_mono ?_ (b.M_bound h1)⟩
  · rintro k ⟨h2, h3, h4, q, hq, hc⟩
    exact ⟨h2, h3, h4, q, List.mem_append_left _ hq, hc⟩
  · rintro k ⟨h2, h3, h4, q, hq, hc⟩
    exact ⟨h2, h3, h4, q, List.mem_append_right _ hq, hc⟩
 M_move := by
  rintro w w1 base ok x cs hm ⟨c0, c1, rfl, h0, h1⟩
  exact ⟨c0, c1, rfl, a.M_move hm h0, b.M_move hm h1⟩
 M_lower := by
  rintro w base base' ok x cs hb ⟨c0, c1, rfl, h0, h1⟩
  exact ⟨c0, c1, rfl, a.M_lower hb h0, b.M_lower hb h1⟩
def iso {α β : Type} (d : Kd α) (f : β → α) : Kd β where
 sz := d.sz
 E := d.E
 K := fun w x cs => d.K w (f x) cs
 M := fun w base ok x cs => d.M w base ok (f x) cs
 K_len := d.K_len
 K_one := d.K_one
 K_below := d.K_below
 K_of_M := d.K_of_M
 M_mono := d.M_mono
 M_bound := d.M_bound
 M_move := d.M_move
 M_lower := d.M_lower
def bot {α : Type} (sz : Nat) (E : List Nat) : Kd α where
 sz := sz
 E := E
 K := fun _ _ _ => False
 M := fun _ _ _ _ _ => False
 K_len := fun h => h.elim
 K_one := fun h => h.elim
 K_below := fun _ h => h
 K_of_M := fun h => h
 M_mono := fun _ h => h
 M_bound := fun h => h
 M_move := fun _ h => h
 M_lower := fun _ h => h
def upto {α : Type} (F : Kd α → Kd α) (sz : Nat) (E : List Nat) : Nat → Kd α
 | 0 => bot sz E
 | n + 1 => F (upto F sz E n)
section
variable {P : Program} {ops : Array Oper} {rest : List Oper} {o : Oper} {a : Act} {Q : Exit → Act → World → Prop} {α : Type}
end
section
variable {P : Program} {ops : Array Oper} {o : Oper} {a : Act} {Q : Exit → Act → World → Prop} {Kc : Act → World → Prop} {α : Type}
end
end Kd
namespace Kd
theorem upto_sz {α : Type} {F : Kd α → Kd α} {sz : Nat} {E : List Nat} (h : ∀ d : Kd α, (F d).sz = sz) : ∀ n, (upto F sz E n).sz = sz
 | 0 => rfl
 | _ + 1 => h _
section
variable {α : Type} {F : Kd α → Kd α} {sz : Nat} {E : List Nat} {hs : ∀ n, (upto F sz E n).sz = sz} {hE : ∀ n q, q ∈ (upto F sz E n).E → q ∈ E}
end
end Kd
namespace Kd
end Kd
namespace Kd
section
variable {α β : Type} {d : Kd α} {d' : Kd β} {e e' : Nat} {w w1 W : World} {base b b' : Nat} {ok ok' okv oku : Nat → Prop} {v u : Value} {xs : List α} {ys : List β}
theorem R_lt (h : d.R e w base ok v xs) : ∀ k, v.ownBlock = some k → k < w.heap.size := by
 obtain ⟨inner, ho⟩ := R_own h
 exact own_lt ho
theorem fresh_ok (hu : d'.R e' W b oku u ys) : ∀ k, W.heap.size ≤ k → some k ≠ u.ownBlock := fun k hk he => by have := R_lt hu k he.symm; omega
end
section
variable {w W : World} {A : Option Addr} {n : Nat}
variable {α : Type} {enc : α → Value} {h1 : ∀ x, (enc x).oneCell' = true} {e base g cap : Nat} {ok : Nat → Prop} {xs : List α}
end
section
variable {P : Program} {ops : Array Oper} {rest : List Oper} {o : Oper} {a : Act} {Q : Exit → Act → World → Prop}
theorem event_run {W w1 : World} {v : Value} (hgd : o.guard = none) (hrun : (execOp a.eval o).run P W = .ok (.value v) w1) (h : wpList P ops Q rest (a.put o.dst v) w1) : wpList P ops Q (o :: rest) a W := by
 refine wpList_plain hgd fun K hK => ?_
 unfold Oper.wp
 rw [hrun]
 exact hK _ _ h
variable {α : Type}
end
end Kd
theorem own_take {w : World} {base n m c size : Nat} {e : TypeId} {A : Option Addr} {xs : List Value} (h : w.ownsRow base e size (.slice A n c) n xs) (hm : m ≤ n) : w.ownsRow base e size (.slice A m c) m (xs.take (m * size)) := by
 obtain ⟨h1, h2⟩ := h
 refine ⟨by rw [List.length_take, h1]; exact Nat.min_eq_left (Nat.mul_le_mul_right _ hm), ?_⟩
 rcases h2 with ⟨he, h0⟩ | ⟨g, cap, cur, he, hb, hh, hnc, hcm, hcs, ht⟩
 · injection he with ha _ hc
   subst ha; subst hc
   exact .inl ⟨by rw [show m = 0 by omega], by omega⟩
 · injection he with ha _ hc
   subst ha; subst hc
   refine .inr ⟨g, c, cur, rfl, hb, hh, by omega, hcm, hcs, ?_⟩
   rw [← ht, List.take_take, Nat.min_eq_left (Nat.mul_le_mul_right _ hm)]
section
variable {P : Program}
end
def QRow (w : World) (base : Nat) (e : TypeId) (size : Nat) (v : Value) (n : Nat) (xs : List Value) : Prop :=
 xs.length = n * size ∧
 ((n = 0 ∧ ∃ A, v = .slice A 0 0 ∧ ∀ a, A = some a → base ≤ a.block ∧ ∃ cur, w.heap[a.block]? = some (.cells cur e (0, 0))) ∨
  ∃ g off cap cur, v = .slice (some ⟨g, off * size, none⟩) n cap ∧ base ≤ g ∧ w.heap[g]? = some (.cells cur e (0, 0)) ∧ n ≤ cap ∧ off + cap ≤ maxLen ∧ cur.size = (off + cap) * size ∧ (cur.toList.drop (off * size)).take (n * size) = xs)
section
variable {w w1 : World} {base n size : Nat} {e : TypeId} {v : Value} {xs : List Value}
theorem q_typed (h : QRow w base e size v n xs) (k : Nat) (hk : v.ownBlock = some k) : base ≤ k ∧ ∃ cells, w.heap[k]? = some (.cells cells e (0, 0)) := by
 rcases h.2 with ⟨_, A, rfl, hA⟩ | ⟨g, off, cap, cur, rfl, hg, hh, r⟩
 · cases A with
   | none => simp [Value.ownBlock] at hk
   | some a =>
     have : a.block = k := by simpa [Value.ownBlock] using hk
     subst this
     exact hA a rfl
 · have : g = k := by simpa [Value.ownBlock] using hk
   subst this
   exact ⟨hg, cur, hh⟩
theorem q_slice (h : QRow w base e size v n xs) : ∃ A c, v = .slice A n c ∧ n ≤ c := by
 rcases h.2 with ⟨h0, A, rfl, _⟩ | ⟨g, off, cap, cur, rfl, hg, hh, hnc, r⟩
 · exact ⟨A, 0, by rw [h0], by omega⟩
 · exact ⟨_, cap, rfl, hnc⟩
theorem q_max (h : QRow w base e size v n xs) : n ≤ 9223372036854775807 := by
 rcases h.2 with ⟨h0, _⟩ | ⟨g, off, cap, cur, rfl, hg, hh, hnc, hm, r⟩
 · omega
 · simp only [maxLen] at hm
   omega
theorem add_at (g o j : Nat) : (⟨g, o, none⟩ : Addr).add j = ⟨g, o + j, none⟩ := by unfold Addr.add; split <;> simp_all
theorem q_cells {A : Option Addr} {c : Nat} (h : QRow w base e size (.slice A n c) n xs) (hn : 0 < n) : ∃ ad, A = some ad ∧ ∀ j u, xs[j]? = some u → w.cell? (ad.add j) = some u := by
 rcases h.2 with ⟨h0, _⟩ | ⟨g, off, cap, cur, he, hg, hh, hnc, hm, hcs, ht⟩
 · omega
 · injection he with ha _ hc
   subst ha
   refine ⟨_, rfl, fun j u hu => ?_⟩
   rw [add_at, cell_of_row w g _ cur e (0, 0) hh]
   rw [← ht, List.getElem?_take] at hu
   split at hu
   · rw [List.getElem?_drop] at hu
     rw [← Array.getElem?_toList]
     exact hu
   · cases hu
theorem setCells_far {g : Nat} : ∀ (vs : List Value) (o : Nat) {w : World} (k : Nat), k ≠ g → (w.setCells g o vs).heap[k]? = w.heap[k]?
 | [], _, _, _, _ => rfl
 | v :: r, o, w, k, hk => by
   rw [World.setCells, setCells_far r (o + 1) k hk]
   exact Below.heap_setCell w ⟨g, o, none⟩ v k hk
theorem setCells_same (g : Nat) : ∀ (vs : List Value) (o : Nat) (w : World), (w.setCells g o vs).os = w.os ∧ (w.setCells g o vs).tape = w.tape ∧ (w.setCells g o vs).output = w.output ∧ (w.setCells g o vs).heap.size = w.heap.size
 | [], _, _ => ⟨rfl, rfl, rfl, rfl⟩
 | v :: r, o, w => by
   obtain ⟨h1, h2, h3, h4⟩ := setCells_same g r (o + 1) (w.setCell ⟨g, o, none⟩ v)
   rw [World.setCells]
   exact ⟨h1, h2, h3, by rw [h4]; simp [World.setCell]⟩
theorem setCells_row {g : Nat} {e : TypeId} : ∀ (vs : List Value) (o : Nat) (w : World) (cur : Array Value), w.heap[g]? = some (.cells cur e (0, 0)) → o + vs.length ≤ cur.size →
  ∃ cur', (w.setCells g o vs).heap[g]? = some (.cells cur' e (0, 0)) ∧ cur'.size = cur.size ∧ cur'.toList = cur.toList.take o ++ vs ++ cur.toList.drop (o + vs.length)
 | [], o, w, cur, h, _ => ⟨cur, h, rfl, by simp⟩
 | v :: r, o, w, cur, h, hl => by
   have h2 := blk_set h o v
   simp only [List.length_cons] at hl
   obtain ⟨cur', h3, h4, h5⟩ := setCells_row r (o + 1) (w.setCell ⟨g, o, none⟩ v) _ h2 (by simp; omega)
   refine ⟨cur', h3, by rw [h4]; simp, ?_⟩
   rw [h5, Array.toList_setIfInBounds]
   have ho : o < cur.toList.length := by rw [Array.length_toList]; omega
   rw [List.take_set, List.drop_set_of_lt (by omega)]
   simp only [List.length_cons]
   rw [show o + 1 + r.length = o + (r.length + 1) by omega]
   congr 1
   rw [List.take_succ_eq_append_getElem ho, List.set_append_right _ _ (by rw [List.length_take]; omega)]
   have ho' : o < cur.size := by omega
   simp [Nat.min_eq_left (Nat.le_of_lt ho')]
end
section
variable {P : Program}
end
namespace Kd
theorem reps_take {α : Type} {R : α → List Value → Prop} {size m : Nat} {ps : List α} {cs : List Value} (h : Reps R size ps cs) (hm : m ≤ ps.length) : Reps R size (ps.take m) (cs.take (m * size)) := by
 refine ⟨by rw [List.length_take, List.length_take, h.1, Nat.min_eq_left hm, Nat.min_eq_left (Nat.mul_le_mul_right _ hm)], fun j p hj => ?_⟩
 rw [List.getElem?_take] at hj
 split at hj
 · rename_i hjm
   have := h.2 j p hj
   have hle : j * size + size ≤ m * size := by rw [← Nat.succ_mul]; exact Nat.mul_le_mul_right _ hjm
   rw [List.drop_take, List.take_take, Nat.min_eq_left (by omega)]
   exact this
 · cases hj
theorem R_take {α : Type} {d : Kd α} {e m n c : Nat} {w : World} {base : Nat} {ok : Nat → Prop} {A : Option Addr} {xs : List α} (h : d.R e w base ok (.slice A n c) xs) (hm : m ≤ xs.length) : d.R e w base ok (.slice A m c) (xs.take m) := by
 obtain ⟨h0, inner, ho, hr⟩ := h
 have hn : n = xs.length := by
  obtain ⟨A', c', he⟩ := own_slice ho
  injection he
 subst hn
 have hb : ∀ x y : Nat, (Value.slice A x c).ownBlock = (Value.slice A y c).ownBlock := by
  intro x y
  cases A <;> rfl
 refine ⟨fun k hk => h0 k (by rw [hb _ m]; exact hk), inner.take (m * d.sz), ?_, ?_⟩
 · rw [List.length_take, Nat.min_eq_left hm]
   exact own_take ho hm
 · rw [hb m xs.length]
   exact reps_take hr hm
def Q {α : Type} (d : Kd α) (e : Nat) (w : World) (base : Nat) (ok : Nat → Prop) (v : Value) (xs : List α) : Prop :=
 (∀ k, v.ownBlock = some k → ok k) ∧ ∃ inner, QRow w base e d.sz v xs.length inner ∧ Reps (d.M w base (fun k => ok k ∧ some k ≠ v.ownBlock)) d.sz xs inner
section
variable {α : Type} {d : Kd α} {e : Nat} {w w1 W : World} {base : Nat} {ok ok' : Nat → Prop} {v : Value} {xs : List α}
theorem Q_reads' {A : Option Addr} {n c : Nat} (h : d.Q e w base ok (.slice A n c) xs) : n = xs.length ∧ n ≤ c ∧ d.C w A xs.length xs := by
 obtain ⟨_, inner, ho, hr⟩ := h
 obtain ⟨A', c', he, hl⟩ := q_slice ho
 injection he with h1 h2 h3
 subst h1; subst h2; subst h3
 refine ⟨rfl, hl, rfl, q_max ho, fun hp => ?_⟩
 obtain ⟨ad, ha, hc⟩ := q_cells ho hp
 refine ⟨ad, ha, fun j p hj => ⟨(inner.drop (j * d.sz)).take d.sz, ?_, d.K_of_M (hr.2 j p hj), fun i u hu => ?_⟩⟩
 · have hjl := (List.getElem?_eq_some_iff.1 hj).1
   have h1 : j * d.sz + d.sz ≤ inner.length := by rw [hr.1, ← Nat.succ_mul]; exact Nat.mul_le_mul_right _ hjl
   rw [List.length_take, List.length_drop]
   omega
 · refine hc _ u ?_
   rw [List.getElem?_take] at hu
   split at hu
   · rw [List.getElem?_drop] at hu
     exact hu
   · cases hu
end
section
variable {P : Program} {ops : Array Oper} {rest : List Oper} {o : Oper} {a : Act} {Q' : Exit → Act → World → Prop} {Kc : Act → World → Prop} {α : Type}
end
end Kd
namespace Kd
section
variable {α : Type} {d : Kd α} {e e' : Nat} {w w1 W : World} {base : Nat} {ok : Nat → Prop} {u v : Value} {xs : List α}
end
end Kd
theorem seg_get {α : Type} (a seg : List α) (o : Nat) (h : o + seg.length ≤ a.length) (q : Nat) :
  (a.take o ++ seg ++ a.drop (o + seg.length))[q]? = if q < o then a[q]? else if q < o + seg.length then seg[q - o]? else a[q]? := by
 have hl : (a.take o).length = o := by rw [List.length_take]; omega
 rw [List.append_assoc]
 by_cases h1 : q < o
 · rw [if_pos h1, List.getElem?_append_left (by omega), List.getElem?_take, if_pos h1]
 · rw [if_neg h1, List.getElem?_append_right (by omega), hl]
   by_cases h2 : q < o + seg.length
   · rw [if_pos h2, List.getElem?_append_left (by omega)]
   · rw [if_neg h2, List.getElem?_append_right (by omega), List.getElem?_drop]
     congr 1
     omega
namespace Kd
section
variable {α : Type} {d : Kd α} {e base g n cap : Nat} {ok okp : Nat → Prop} {W : World} {xs : List α}
end
end Kd
namespace Kd
def fixed {α : Type} (d : Kd α) (w0 : World) : Kd α where
 sz := d.sz
 E := []
 K := fun _ x cs => d.K w0 x cs
 M := fun _ _ _ x cs => d.K w0 x cs
 K_len := d.K_len
 K_one := d.K_one
 K_below := fun _ h => h
 K_of_M := fun h => h
 M_mono := fun _ h => h
 M_bound := fun h => h
 M_move := fun _ h => h
 M_lower := fun _ h => h
def or_ {α : Type} (a b : Kd α) (h : b.sz = a.sz) : Kd α where
 sz := a.sz
 E := a.E ++ b.E
 K := fun w x cs => a.K w x cs ∨ b.K w x cs
 M := fun w base ok x cs => a.M w base ok x cs ∨ b.M w base ok x cs
 K_len := fun hk => hk.elim a.K_len (fun hk => (b.K_len hk).trans h)
 K_one := fun hk => hk.elim a.K_one b.K_one
 K_below := fun hb hk => hk.imp (a.K_below hb) (b.K_below hb)
 K_of_M := fun hk => hk.imp a.K_of_M b.K_of_M
 M_mono := fun hok hk => hk.imp (a.M_mono hok) (b.M_mono hok)
 M_bound := fun hk => hk.imp
  (fun hk => a.M_mono (fun _ ⟨h1, h2, h3, q, hq, hc⟩ => ⟨h1, h2, h3, q, List.mem_append_left _ hq, hc⟩) (a.M_bound hk))
  (fun hk => b.M_mono (fun _ ⟨h1, h2, h3, q, hq, hc⟩ => ⟨h1, h2, h3, q, List.mem_append_right _ hq, hc⟩) (b.M_bound hk))
 M_move := fun hm hk => hk.imp (a.M_move hm) (b.M_move hm)
 M_lower := fun hb hk => hk.imp (a.M_lower hb) (b.M_lower hb)
section
variable {α : Type} {F : Kd α → Kd α} {sz : Nat} {E : List Nat} {hs : ∀ n, (upto F sz E n).sz = sz} {hE : ∀ n q, q ∈ (upto F sz E n).E → q ∈ E}
end
end Kd
namespace Kd
section
variable {P : Program} {ops : Array Oper} {rest : List Oper} {o : Oper} {a : Act} {Q : Exit → Act → World → Prop} {α : Type}
end
end Kd
namespace Kd
section
variable {P : Program} {ops : Array Oper} {rest : List Oper} {o : Oper} {a : Act} {Q : Exit → Act → World → Prop} {α : Type}
end
end Kd
namespace Kd
section
variable {α : Type} {k : Kd α} {w : World} {A : Option Addr} {xs : List α} {m c : Nat}
end
end Kd
section
variable {P : Program}
end
theorem below_size {w W : World} (h : Below w.heap.size w W) : w.heap.size ≤ W.heap.size := h.size
theorem below_step {w W w2 : World} (h : Below w.heap.size w W) (k : Below W.heap.size W w2) : Below w.heap.size w w2 := below_then h h.size k
theorem ReadsInt.nil (W : World) (k : IntKind) : ReadsInt W k none ([] : List Int).length [] := ⟨rfl, by simp, fun h => absurd h (Nat.lt_irrefl 0)⟩
theorem ReadsInt.drewN {W : World} {k : IntKind} {A : Option Addr} {n : Nat} {xs : List Int} (h : ReadsInt W k A n xs) (m : Nat) : ReadsInt (W.drewN m) k A n xs := h
theorem keep_cell {w W : World} {g : Nat} (h : KeepBut w W g none) {a : Addr} {v : Value} (hc : w.cell? a = some v) (hne : a.block ≠ g) : W.cell? a = some v := by
 have := h.2 a.block (World.block_lt_of_cell? w a hc) hne (by simp)
 simpa [World.cell?, this] using hc
theorem add_block (a : Addr) (i : Nat) : (a.add i).block = a.block := by unfold Addr.add; split <;> rfl
theorem ReadsOf.nil {α : Type} (enc : α → Value) (d : α) (W : World) : ReadsOf enc d W none ([] : List α).length [] := ⟨rfl, by simp, fun h => absurd h (Nat.lt_irrefl 0)⟩
theorem ReadsOf.drewN {α : Type} {enc : α → Value} {d : α} {W : World} {A : Option Addr} {n : Nat} {xs : List α} (h : ReadsOf enc d W A n xs) (m : Nat) : ReadsOf enc d (W.drewN m) A n xs := h
theorem ReadsInt.keep {w W : World} {k : IntKind} {A : Option Addr} {n g : Nat} {xs : List Int} (h : ReadsInt w k A n xs) (hk : KeepBut w W g none) (hf : ∀ ad, A = some ad → 0 < n → ad.block ≠ g) : ReadsInt W k A n xs :=
 ⟨h.1, h.2.1, fun hn => by
  obtain ⟨ad, e, hc⟩ := h.2.2 hn
  exact ⟨ad, e, fun j hj => keep_cell hk (hc j hj) (by rw [add_block]; exact hf ad e hn)⟩⟩
theorem ReadsOf.keep {α : Type} {enc : α → Value} {d : α} {w W : World} {A : Option Addr} {n g : Nat} {xs : List α} (h : ReadsOf enc d w A n xs) (hk : KeepBut w W g none) (hf : ∀ ad, A = some ad → 0 < n → ad.block ≠ g) : ReadsOf enc d W A n xs :=
 ⟨h.1, h.2.1, fun hn => by
  obtain ⟨ad, e, hc⟩ := h.2.2 hn
  exact ⟨ad, e, fun j hj => keep_cell hk (hc j hj) (by rw [add_block]; exact hf ad e hn)⟩⟩
theorem own_put {W : World} {base g cap : Nat} {e : TypeId} {k : IntKind} {xs : List Int} (h : W.ownsRow base e 1 (.slice (some ⟨g, 0, none⟩) xs.length cap) xs.length (nums k xs)) (i x : Int) :
  (W.setCell ⟨g, i.toNat, none⟩ (.int k x)).ownsRow base e 1 (.slice (some ⟨g, 0, none⟩) xs.length cap) (xs.set i.toNat x).length (nums k (xs.set i.toNat x)) := by
 have := (own_store h i x).1
 rwa [show (xs.set i.toNat x).length = xs.length by simp]
namespace Kd
section
variable {α β : Type} {d : Kd α} {d' : Kd β} {e e' base base' n : Nat} {ok ok' : Nat → Prop} {w W w1 W1 : World} {v u : Value} {xs : List α} {ys : List β} {A : Option Addr} {c : Nat}
end
section
variable {α : Type} {enc : α → Value} {h1 : ∀ x, (enc x).oneCell' = true} {w W : World} {A : Option Addr} {n g : Nat} {xs : List α}
end
end Kd
namespace Kd
section
variable {α : Type} {d : Kd α} {e base g : Nat} {ok : Nat → Prop} {w w1 : World} {v : Value} {xs : List α} {o : Obj}
end
end Kd
section
variable {P : Program} {ops : Array Oper} {rest : List Oper} {o : Oper} {a : Act} {Q : Exit → Act → World → Prop}
theorem box_event {W : World} (hgd : o.guard = none) {N : Tmp} (_hd : o.dst = some N) {cs : Array Value} {t : TypeId}
  (hrun : (execOp a.eval o).run P W = .ok (.value (.pointer (some ⟨W.heap.size, 0, none⟩))) (W.alloc (.cells cs t (0, 0))))
  (h : ∀ g, g = W.heap.size → ∀ w1, w1.heap[g]? = some (.cells cs t (0, 0)) → Below W.heap.size W w1 → wpList P ops Q rest (a.put o.dst (.pointer (some ⟨g, 0, none⟩))) w1) : wpList P ops Q (o :: rest) a W :=
 Kd.event_run hgd hrun (h _ rfl _ (blk_new W _) (below_alloc (Below.refl _ _) _))
end
namespace Kd
section
variable {α : Type} {enc : α → Value} {h1 : ∀ x, (enc x).oneCell' = true} {e base g n cap : Nat} {ok : Nat → Prop} {W : World} {xs : List α}
end
end Kd
section
variable {P : Program} {ops : Array Oper} {rest : List Oper} {o : Oper} {a : Act} {Q : Exit → Act → World → Prop}
end
namespace Kd
section
variable {α : Type} {enc : α → Value} {h1 : ∀ x, (enc x).oneCell' = true} {e base g n cap : Nat} {ok : Nat → Prop} {W : World} {xs : List α}
end
end Kd
section
variable {P : Program} {ops : Array Oper} {rest : List Oper} {o : Oper} {a : Act} {Q : Exit → Act → World → Prop} {W : World}
theorem gate_dst {N : Tmp} (_hN : o.dst = some N) (h : wpList P ops Q (o :: rest) a W) : wpList P ops Q (o :: rest) a W := h
end
section
variable {P : Program} {ops : Array Oper} {o : Oper} {a : Act} {Q : Exit → Act → World → Prop} {Kc : Act → World → Prop}
namespace Kd
variable {α : Type}
end Kd
end
section
variable {P : Program} {tmps : Array Value} {w : World}
end
namespace Kd
section
variable {P : Program} {α : Type}
end
section
variable {P : Program} {ops : Array Oper} {rest : List Oper} {o : Oper} {a : Act} {Q : Exit → Act → World → Prop} {Kc : Act → World → Prop} {α : Type}
end
end Kd
end Go.Proofs.YtcnllhnhinmokaaW.PrintWords
end
section
namespace Go.Proofs.YtcnllhnhinmokaaW.PrintLast
section
variable {P : Program} {ops : Array Oper} {Q : Exit → Act → World → Prop} {md : Region.Mode} {S : World → Prop} {ds : List Nat}
def Region.reachB (md : Region.Mode) (ops : Array Oper) (i : Nat) : Nat → Nat → Bool
 | 0, _ => false
 | fuel + 1, d => match ops[d]? with
   | some o => o.after.any fun e => Region.binds md e && (e.on == i || Region.reachB md ops i fuel e.on)
   | none => false
def Region.lastB (md : Region.Mode) (ops : Array Oper) (listed : Array Bool) (ds : List Nat) (i : Nat) : Bool :=
 ds.all fun d => listed.getD d true || Region.reachB md ops i ops.size d
def ListedClosed (md : Region.Mode) (ops : Array Oper) (listed : Array Bool) : Prop :=
 ∀ j oj, ops[j]? = some oj → listed.getD j false = true → ∀ e ∈ oj.after, Region.binds md e = true → listed.getD e.on false = true
theorem ListedClosed.set {listed : Array Bool} {i : Nat} (h : ListedClosed md ops listed) (hi : i ∈ Region.ready md ops listed) : ListedClosed md ops (listed.setIfInBounds i true) := by
 obtain ⟨_, oi, hoi, hall⟩ := mem_ready.1 hi
 intro j oj hj hl e he hb
 by_cases hij : i = j
 · subst hij
   have : oj = oi := Option.some.inj (hj.symm.trans hoi)
   subst this
   exact getD_set_true (hall e he hb)
 · rw [getD_set_ne false hij] at hl
   exact getD_set_true (h j oj hj hl e he hb)
def wpAnyLast (P : Program) (md : Region.Mode) (ops : Array Oper) (Q : Exit → Act → World → Prop) (S : World → Prop) (ds : List Nat) : Nat → Array Bool → Act → World → Prop
 | 0, listed, a, w => Region.ready md ops listed = [] ∧ Q .normal a w
 | fuel + 1, listed, a, w =>
   (Region.ready md ops listed = [] → Q .normal a w) ∧
   ∀ i ∈ Region.ready md ops listed, wpOp P ops Q i (fun a' w' => (i ∉ ds → S w → S w') ∧ wpAnyLast P md ops Q S ds fuel (listed.setIfInBounds i true) a' w') a w
theorem wpAnyLast_all {rs : List Nat} {fuel : Nat} {listed : Array Bool} {a : Act} {w : World} (hr : Region.ready md ops listed = rs) (hne : rs ≠ [])
  (h : ∀ i ∈ rs, wpOp P ops Q i (fun a' w' => (i ∉ ds → S w → S w') ∧ wpAnyLast P md ops Q S ds fuel (listed.setIfInBounds i true) a' w') a w) : wpAnyLast P md ops Q S ds (fuel + 1) listed a w :=
 ⟨fun h0 => absurd (hr ▸ h0) hne, hr ▸ h⟩
end
section
variable {P : Program} {ops : Array Oper} {Q : Exit → Act → World → Prop} {md : Region.Mode} {S : World → Prop} {ds : List Nat}
def AllReadyL (P : Program) (md : Region.Mode) (ops : Array Oper) (Q : Exit → Act → World → Prop) (S : World → Prop) (ds : List Nat) (fuel : Nat) (listed : Array Bool) (a : Act) (w : World) (rs : List Nat) : Prop :=
 ∀ i ∈ rs, wpOp P ops Q i (fun a' w' => (i ∉ ds → S w → S w') ∧ wpAnyLast P md ops Q S ds fuel (listed.setIfInBounds i true) a' w') a w
theorem AllReadyL.nil {fuel : Nat} {listed : Array Bool} {a : Act} {w : World} : AllReadyL P md ops Q S ds fuel listed a w [] := fun _ h => by cases h
theorem AllReadyL.cons {fuel : Nat} {listed : Array Bool} {a : Act} {w : World} {i : Nat} {o : Oper} {rs : List Nat} (ho : ops[i]? = some o) (hd : i ∉ ds)
  (h : ∀ K' : Act → World → Prop, Shut (∀ a w, S w → (S w → wpAnyLast P md ops Q S ds fuel (listed.setIfInBounds i true) a w) → K' a w) → if Region.wanted o (yielded ops a.tmps) = true then Oper.wp P o a w K' Q else K' (a.put o.dst undef) w)
  (hs : AllReadyL P md ops Q S ds fuel listed a w rs) : AllReadyL P md ops Q S ds fuel listed a w (i :: rs) := fun j hj => by
 rcases List.mem_cons.1 hj with rfl | hj
 · exact wpOp_step ho (fun K' hK => h K' (fun a w hS hW => hK a w ⟨fun _ _ => hS, hW hS⟩))
 · exact hs j hj
theorem wpAnyLast_ready {rs : List Nat} {fuel : Nat} {listed : Array Bool} {a : Act} {w : World} (hr : Region.ready md ops listed = rs) (hne : rs ≠ [])
 (h : AllReadyL P md ops Q S ds fuel listed a w rs) : wpAnyLast P md ops Q S ds (fuel + 1) listed a w := wpAnyLast_all hr hne h
def readyB (md : Region.Mode) (ops : Array Oper) (l l' : Array Bool) (i : Nat) : Bool := (Region.ready md ops l == [i]) && (l.setIfInBounds i true == l')
theorem one_ {i : Nat} {N : Option Tmp} {oi : Oper} {fuel : Nat} {l : Array Bool} {a : Act} {w : World} (l' : Array Bool) (hi : ops[i]? = some oi) (hN : oi.dst = N) (hc : readyB md ops l l' i = true) (hd : i ∉ ds)
  (h : ∀ K : Act → World → Prop, Shut (∀ a' w', S w' → (S w' → wpAnyLast P md ops Q S ds fuel l' a' w') → K a' w') → if Region.wanted oi (yielded ops a.tmps) = true then Oper.wp P oi a w K Q else K (a.put N undef) w) :
  wpAnyLast P md ops Q S ds (fuel + 1) l a w := by
 subst hN
 simp only [readyB, Bool.and_eq_true, beq_iff_eq] at hc
 obtain ⟨h1, h2⟩ := hc
 subst h2
 exact wpAnyLast_ready h1 (by simp) (AllReadyL.cons hi hd (fun K hK => h K hK) AllReadyL.nil)
theorem two_ {i j : Nat} {Ni Nj : Option Tmp} {oi oj : Oper} {fuel : Nat} {l : Array Bool} {a : Act} {w : World} (li lj : Array Bool) (hi : ops[i]? = some oi) (hj : ops[j]? = some oj) (hNi : oi.dst = Ni) (hNj : oj.dst = Nj)
  (hc : (Region.ready md ops l == [i, j] && l.setIfInBounds i true == li && l.setIfInBounds j true == lj) = true) (hdi : i ∉ ds) (hdj : j ∉ ds)
  (h1 : ∀ K : Act → World → Prop, Shut (∀ a' w', S w' → (S w' → wpAnyLast P md ops Q S ds fuel li a' w') → K a' w') → if Region.wanted oi (yielded ops a.tmps) = true then Oper.wp P oi a w K Q else K (a.put Ni undef) w)
  (h2 : ∀ K : Act → World → Prop, Shut (∀ a' w', S w' → (S w' → wpAnyLast P md ops Q S ds fuel lj a' w') → K a' w') → if Region.wanted oj (yielded ops a.tmps) = true then Oper.wp P oj a w K Q else K (a.put Nj undef) w) :
  wpAnyLast P md ops Q S ds (fuel + 1) l a w := by
 subst hNi
 subst hNj
 simp only [Bool.and_eq_true, beq_iff_eq] at hc
 obtain ⟨⟨h3, h4⟩, h5⟩ := hc
 subst h4
 subst h5
 exact wpAnyLast_ready h3 (by simp) (AllReadyL.cons hi hdi (fun K hK => h1 K hK) (AllReadyL.cons hj hdj (fun K hK => h2 K hK) AllReadyL.nil))
theorem three_ {i j k : Nat} {Ni Nj Nk : Option Tmp} {oi oj ok : Oper} {fuel : Nat} {l : Array Bool} {a : Act} {w : World} (li lj lk : Array Bool) (hi : ops[i]? = some oi) (hj : ops[j]? = some oj) (hk : ops[k]? = some ok) (hNi : oi.dst = Ni) (hNj : oj.dst = Nj) (hNk : ok.dst = Nk)
  (hc : (Region.ready md ops l == [i, j, k] && l.setIfInBounds i true == li && l.setIfInBounds j true == lj && l.setIfInBounds k true == lk) = true) (hdi : i ∉ ds) (hdj : j ∉ ds) (hdk : k ∉ ds)
  (h1 : ∀ K : Act → World → Prop, Shut (∀ a' w', S w' → (S w' → wpAnyLast P md ops Q S ds fuel li a' w') → K a' w') → if Region.wanted oi (yielded ops a.tmps) = true then Oper.wp P oi a w K Q else K (a.put Ni undef) w)
  (h2 : ∀ K : Act → World → Prop, Shut (∀ a' w', S w' → (S w' → wpAnyLast P md ops Q S ds fuel lj a' w') → K a' w') → if Region.wanted oj (yielded ops a.tmps) = true then Oper.wp P oj a w K Q else K (a.put Nj undef) w)
  (h3 : ∀ K : Act → World → Prop, Shut (∀ a' w', S w' → (S w' → wpAnyLast P md ops Q S ds fuel lk a' w') → K a' w') → if Region.wanted ok (yielded ops a.tmps) = true then Oper.wp P ok a w K Q else K (a.put Nk undef) w) :
  wpAnyLast P md ops Q S ds (fuel + 1) l a w := by
 subst hNi
 subst hNj
 subst hNk
 simp only [Bool.and_eq_true, beq_iff_eq] at hc
 obtain ⟨⟨⟨h4, h5⟩, h6⟩, h7⟩ := hc
 subst h5
 subst h6
 subst h7
 exact wpAnyLast_ready h4 (by simp) (AllReadyL.cons hi hdi (fun K hK => h1 K hK) (AllReadyL.cons hj hdj (fun K hK => h2 K hK) (AllReadyL.cons hk hdk (fun K hK => h3 K hK) AllReadyL.nil)))
def putAll : Act → List (Tmp × Value) → Act
 | a, [] => a
 | a, (n, v) :: r => putAll (a.put (some n) v) r
theorem join_ {σ : Type} {fuel : Nat} {l : Array Bool} {a : Act} {w : World} (fuel' : Nat) (l' : Array Bool) (ns : σ → List (Tmp × Value)) (F : σ → World → Prop)
 (hcont : ∀ s w', F s w' → wpAnyLast P md ops Q S ds fuel' l' (putAll a (ns s)) w')
 (h : (∀ s w', F s w' → wpAnyLast P md ops Q S ds fuel' l' (putAll a (ns s)) w') → wpAnyLast P md ops Q S ds fuel l a w) : wpAnyLast P md ops Q S ds fuel l a w := h hcont
theorem enters_ {f : FuncId} {fn : Func} (hf : P.funcs[f]? = some fn) (hname : (fn.name == "runtime.NumGoroutine") = false) (hb : fn.body.isSome = true) (args : Array Value) (w : World) : (callFunc f args).run P w = .ok (.enter f args) w := by
 have h1 : fn.name ≠ "runtime.NumGoroutine" := by simpa using hname
 obtain ⟨c, hc⟩ := Option.isSome_iff_exists.1 hb
 simp [callFunc, hf, h1, hc]
theorem goesL_ {rest : List Oper} {oi : Oper} {a : Act} {w : World} (N : Option Tmp) (hd : oi.dst = N) (hg : oi.guard = none) {f : FuncId} {fn : Func} {as : Array Operand} {ts : Array TypeId} (hf : P.funcs[f]? = some fn) (hname : (fn.name == "runtime.NumGoroutine") = false) (hb : fn.body.isSome = true) (args : Array Value)
  (hop : oi.op = .call { callee := .value (.func f), args := as, argTypes := ts }) (hargs : as.map a.eval = args)
  (h : Calls P f args w fun e w' => ∃ v, e = .returned v ∧ wpList P ops Q rest (a.put N v) w') : wpList P ops Q (oi :: rest) a w := by
 refine wpList_plain hg fun K hK => ?_
 have he := enters_ hf hname hb args w
 have hrun : (execOp a.eval oi).run P w = .ok (.enter f args) w := by
  unfold execOp
  simp [hop, resolve, Deferred.ofValue, invoke, Act.eval, hargs, he]
 unfold Oper.wp
 rw [hrun, Oper.upon_enter]
 refine h.mono fun e w'' hh => ?_
 obtain ⟨v, rfl, hk⟩ := hh
 subst hd
 exact hK _ _ hk
end
end Go.Proofs.YtcnllhnhinmokaaW.PrintLast
end
section
namespace Go.Proofs.YtcnllhnhinmokaaW.PrintLast
open Go.Proofs.YtcnllhnhinmokaaW.PrintWords (Aside0)
section
variable {md : Region.Mode} {ops : Array Oper} {T : Bool × List (List Nat × List Nat)} {l l' li lj lk : Array Bool} {ds : List Nat} {i j k : Nat}
theorem gd (l : Array Bool) (j : Nat) (b : Bool) : l.getD j b = l.toList.getD j b := by simp [Array.getD_eq_getD_getElem?, List.getD_eq_getElem?_getD]
end
end Go.Proofs.YtcnllhnhinmokaaW.PrintLast
end
section
namespace Go.Proofs.YtcnllhnhinmokaaW.PrintLast
section
variable {P : Program} {ops : Array Oper} {Q : Exit → Act → World → Prop} {md : Region.Mode} {S : World → Prop} {ds : List Nat} {T : Bool × List (List Nat × List Nat)}
end
end Go.Proofs.YtcnllhnhinmokaaW.PrintLast
end
section
namespace Go.Proofs.YtcnllhnhinmokaaW.PrintWords
open Go.RowKit
namespace Kd
section
variable {α : Type} {d : Kd α} {e base g o n cap : Nat} {ok okp : Nat → Prop} {w W : World} {v : Value} {xs : List α}
theorem Q_form (h : d.Q e w base ok v xs) (hp : 0 < xs.length) : ∃ g o cap, v = .slice (some ⟨g, o, none⟩) xs.length cap ∧ base ≤ g ∧ g < w.heap.size ∧ ∃ cells, w.heap[g]? = some (.cells cells e (0, 0)) := by
 obtain ⟨h0, inner, hq, hr⟩ := h
 rcases hq.2 with ⟨h1, _⟩ | ⟨g, off, cap, cur, rfl, hb, hh, r⟩
 · omega
 · exact ⟨g, off * d.sz, cap, rfl, hb, blk_lt hh, cur, hh⟩
theorem Q_elem (h : d.Q e W base ok (.slice (some ⟨g, o, none⟩) n cap) xs) (z : α) (i : Int) (h0 : 0 ≤ i) (h1 : i < n) :
  ∃ c, c.length = d.sz ∧ d.M W base (fun k => ok k ∧ k ≠ g) (xs.getD i.toNat z) c ∧ (∀ j u, c[j]? = some u → W.cell? ⟨g, o + i.toNat * d.sz + j, none⟩ = some u) ∧ ∀ j, W.frozen? ⟨g, o + i.toNat * d.sz + j, none⟩ = false := by
 obtain ⟨hn, hnc, hC⟩ := Q_reads' h
 obtain ⟨_, inner, ho, hr⟩ := h
 have hil : i.toNat < xs.length := by omega
 have hseg : i.toNat * d.sz + d.sz ≤ inner.length := by rw [hr.1, ← Nat.succ_mul]; exact Nat.mul_le_mul_right _ hil
 have hM := hr.2 i.toNat _ (List.getElem?_eq_getElem hil)
 refine ⟨(inner.drop (i.toNat * d.sz)).take d.sz, by rw [List.length_take, List.length_drop]; omega, ?_, fun j u hu => ?_, fun j => ?_⟩
 · rw [List.getD_eq_getElem?_getD, List.getElem?_eq_getElem hil]
   exact d.M_mono (fun k hk => ⟨hk.1, fun he => hk.2 (by rw [he]; simp [Value.ownBlock])⟩) hM
 · rw [List.getElem?_take] at hu
   split at hu
   · rw [List.getElem?_drop] at hu
     subst hn
     obtain ⟨ad, he, hc⟩ := q_cells ho (by omega)
     injection he with he
     subst he
     have := hc _ u hu
     rwa [add_at, ← Nat.add_assoc] at this
   · cases hu
 · obtain ⟨_, cells, hc⟩ := q_typed ho g (by simp [Value.ownBlock])
   exact blk_frozen hc _
theorem Q_seg (h : d.Q e W base ok (.slice (some ⟨g, o, none⟩) n cap) xs) (i : Int) (h0 : 0 ≤ i) (h1 : i < n) {c seg : List Value} {j : Nat} (hcl : c.length = d.sz) (hcc : ∀ j u, c[j]? = some u → W.cell? ⟨g, o + i.toNat * d.sz + j, none⟩ = some u)
  (hj : j + seg.length ≤ d.sz) {x' : α} (hM : d.M W base okp x' (c.take j ++ seg ++ c.drop (j + seg.length))) (hokp : ∀ k, okp k → ok k ∧ k ≠ g) :
  d.Q e (W.setCells g (o + i.toNat * d.sz + j) seg) base ok (.slice (some ⟨g, o, none⟩) n cap) (xs.set i.toNat x') ∧ W.grownBy (W.setCells g (o + i.toNat * d.sz + j) seg) (some g) := by
 obtain ⟨hn, hnc, _⟩ := Q_reads' h
 obtain ⟨hok, inner, ho, hr⟩ := h
 have hil : i.toNat < xs.length := by omega
 have hseg : i.toNat * d.sz + d.sz ≤ inner.length := by rw [hr.1, ← Nat.succ_mul]; exact Nat.mul_le_mul_right _ hil
 have hin : inner.length = n * d.sz := by rw [hr.1, hn]
 obtain ⟨ho1, ho2⟩ := ho
 rcases ho2 with ⟨hz, _⟩ | ⟨g', off, cap', cur, hv, hb, hh, hnc', hcm, hcs, ht⟩
 · omega
 injection hv with ha _ hc
 injection ha with ha
 injection ha with hg hoff
 subst hg; subst hc; subst hoff
 have hcap : n * d.sz ≤ cap * d.sz := Nat.mul_le_mul_right _ hnc
 have hcs' : cur.size = off * d.sz + cap * d.sz := by rw [hcs, Nat.add_mul]
 have hfit : off * d.sz + i.toNat * d.sz + j + seg.length ≤ cur.size := by omega
 obtain ⟨cur', h3, h4, h5⟩ := setCells_row seg (off * d.sz + i.toNat * d.sz + j) W cur hh hfit
 obtain ⟨s1, s2, s3, s4⟩ := setCells_same g seg (off * d.sz + i.toNat * d.sz + j) W
 have hfar : ∀ k, k ≠ g → (W.setCells g (off * d.sz + i.toNat * d.sz + j) seg).heap[k]? = W.heap[k]? := fun k hk => setCells_far seg _ k hk
 rw [← hn] at ht
 have hat : ∀ q, q < n * d.sz → cur.toList[off * d.sz + q]? = inner[q]? := by
  intro q hq
  rw [← ht, List.getElem?_take, if_pos hq, List.getElem?_drop]
 have hcin : ∀ q, q < d.sz → c[q]? = inner[i.toNat * d.sz + q]? := by
  intro q hq
  have hq' : q < c.length := by omega
  have h6 := hcc q _ (List.getElem?_eq_getElem hq')
  rw [cell_of_row W g _ cur e (0, 0) hh] at h6
  rw [List.getElem?_eq_getElem hq', ← h6, ← hat _ (by omega), Array.getElem?_toList, Nat.add_assoc]
 refine ⟨⟨hok, inner.take (i.toNat * d.sz + j) ++ seg ++ inner.drop (i.toNat * d.sz + j + seg.length), ⟨?_, .inr ⟨g, off, cap, cur', by rw [List.length_set, hn], hb, h3, by rw [List.length_set, ← hn]; exact hnc, hcm, by rw [h4, hcs], ?_⟩⟩, ?_⟩,
  ⟨s1, s2, s3, by rw [s4]; exact Nat.le_refl _, fun k _ hk => hfar k (fun he => hk (by rw [he]))⟩⟩
 · rw [List.length_set]
   simp only [List.length_append, List.length_take, List.length_drop]
   rw [hr.1] at hseg ⊢
   omega
 · rw [List.length_set, ← hn]
   apply List.ext_getElem?
   intro q
   rw [List.getElem?_take, List.getElem?_drop, h5]
   rw [seg_get cur.toList seg (off * d.sz + i.toNat * d.sz + j) (by rw [Array.length_toList]; omega) (off * d.sz + q), seg_get inner seg (i.toNat * d.sz + j) (by omega) q]
   by_cases hq : q < n * d.sz
   · rw [if_pos hq]
     by_cases hq1 : q < i.toNat * d.sz + j
     · rw [if_pos (by omega), if_pos hq1, hat q hq]
     · rw [if_neg (by omega), if_neg hq1]
       by_cases hq2 : q < i.toNat * d.sz + j + seg.length
       · rw [if_pos (by omega), if_pos hq2]
         congr 1
         omega
       · rw [if_neg (by omega), if_neg hq2, hat q hq]
   · rw [if_neg hq, if_neg (by omega), if_neg (by omega), List.getElem?_eq_none (by omega)]
 · refine ⟨?_, fun m p hm => ?_⟩
   · rw [List.length_set]
     simp only [List.length_append, List.length_take, List.length_drop]
     rw [hr.1] at hseg ⊢
     omega
   · have hml : m < xs.length := by
      have := (List.getElem?_eq_some_iff.1 hm).1
      rwa [List.length_set] at this
     have hmfit : m * d.sz + d.sz ≤ inner.length := by rw [hr.1, ← Nat.succ_mul]; exact Nat.mul_le_mul_right _ hml
     have hgo : some g = (Value.slice (some ⟨g, off * d.sz, none⟩) n cap).ownBlock := by simp [Value.ownBlock]
     by_cases hmi : m = i.toNat
     · subst hmi
       rw [List.getElem?_set_self (by omega)] at hm
       injection hm with hm
       subst hm
       have hcells : ((inner.take (i.toNat * d.sz + j) ++ seg ++ inner.drop (i.toNat * d.sz + j + seg.length)).drop (i.toNat * d.sz)).take d.sz = c.take j ++ seg ++ c.drop (j + seg.length) := by
        apply List.ext_getElem?
        intro q
        rw [List.getElem?_take, List.getElem?_drop, seg_get inner seg _ (by omega), seg_get c seg j (by omega) q]
        by_cases hq : q < d.sz
        · rw [if_pos hq, hcin q hq]
          by_cases hq1 : q < j
          · rw [if_pos (by omega), if_pos hq1]
          · rw [if_neg (by omega), if_neg hq1]
            by_cases hq2 : q < j + seg.length
            · rw [if_pos (by omega), if_pos hq2]
              congr 1
              omega
            · rw [if_neg (by omega), if_neg hq2]
        · rw [if_neg hq, if_neg (by omega), if_neg (by omega), List.getElem?_eq_none (by omega)]
       rw [hcells]
       refine d.M_mono (fun k hk => ?_) (d.M_move (w1 := W.setCells g (off * d.sz + i.toNat * d.sz + j) seg) (fun k hk => hfar k (hokp k hk).2) hM)
       exact ⟨(hokp k hk).1, fun he => (hokp k hk).2 (by rw [← hgo] at he; injection he)⟩
     · rw [List.getElem?_set_ne (by omega)] at hm
       have hold := hr.2 m p hm
       have hcells : ((inner.take (i.toNat * d.sz + j) ++ seg ++ inner.drop (i.toNat * d.sz + j + seg.length)).drop (m * d.sz)).take d.sz = (inner.drop (m * d.sz)).take d.sz := by
        apply List.ext_getElem?
        intro q
        rw [List.getElem?_take, List.getElem?_take, List.getElem?_drop, List.getElem?_drop, seg_get inner seg _ (by omega)]
        by_cases hq : q < d.sz
        · rw [if_pos hq, if_pos hq]
          rcases Nat.lt_or_gt_of_ne hmi with hlt | hgt
          · have : m * d.sz + d.sz ≤ i.toNat * d.sz := by rw [← Nat.succ_mul]; exact Nat.mul_le_mul_right _ hlt
            rw [if_pos (by omega)]
          · have : i.toNat * d.sz + d.sz ≤ m * d.sz := by rw [← Nat.succ_mul]; exact Nat.mul_le_mul_right _ hgt
            rw [if_neg (by omega), if_neg (by omega)]
        · rw [if_neg hq, if_neg hq]
       rw [hcells]
       refine d.M_move (fun k hk => hfar k (fun he => hk.2 (by rw [he]; exact hgo))) hold
end
section
variable {α : Type} {enc : α → Value} {h1 : ∀ x, (enc x).oneCell' = true} {e base g o n cap : Nat} {ok : Nat → Prop} {W : World} {xs : List α}
theorem Q_cell (d : α) (h : (scalar enc h1).Q e W base ok (.slice (some ⟨g, o, none⟩) n cap) xs) (i : Int) (h0 : 0 ≤ i) (hi : i < n) : W.cell? ⟨g, o + i.toNat, none⟩ = some (enc (rdOf d xs i)) ∧ W.frozen? ⟨g, o + i.toNat, none⟩ = false := by
 obtain ⟨c, _, hM, hcc, hf⟩ := Q_elem h d i h0 hi
 have hM' : c = [enc (xs.getD i.toNat d)] := hM
 subst hM'
 have h2 := hcc 0 _ rfl
 have h3 := hf 0
 rw [show (scalar enc h1).sz = 1 from rfl, Nat.mul_one, Nat.add_zero] at h2 h3
 exact ⟨h2, h3⟩
theorem Q_putg (h : (scalar enc h1).Q e W base ok (.slice (some ⟨g, o, none⟩) n cap) xs) (i : Int) (h0 : 0 ≤ i) (hi : i < n) (x : α) : (scalar enc h1).Q e (W.setCell ⟨g, o + i.toNat, none⟩ (enc x)) base ok (.slice (some ⟨g, o, none⟩) n cap) (xs.set i.toNat x) ∧ W.grownBy (W.setCell ⟨g, o + i.toNat, none⟩ (enc x)) (some g) := by
 have hp : 0 < xs.length := by have := (Q_reads' h).1; omega
 obtain ⟨c, hcl, _, hcc, _⟩ := Q_elem h (xs[0]'hp) i h0 hi
 have h2 := Q_seg h i h0 hi (c := c) (seg := [enc x]) (j := 0) (okp := fun _ => False) (x' := x) hcl hcc (Nat.le_refl 1) (by
  have hl : c.length = 1 := hcl
  show c.take 0 ++ [enc x] ++ c.drop (0 + 1) = [enc x]
  rw [List.drop_eq_nil_of_le (by omega)]
  rfl) (fun _ hk => hk.elim)
 rw [show (scalar enc h1).sz = 1 from rfl, Nat.mul_one, Nat.add_zero] at h2
 exact h2
end
end Kd
end Go.Proofs.YtcnllhnhinmokaaW.PrintWords
end
section
namespace Go.Proofs.YtcnllhnhinmokaaW.PrintWords
open Go.RowKit
namespace Kd
def tag {α : Type} (f : Nat → Nat) (d : Kd α) : Kd (α × Nat) where
 sz := d.sz
 E := d.E
 K := fun w x cs => d.K w x.1 cs
 M := fun w base ok x cs => d.M w base (fun k => ok k ∧ f k = x.2) x.1 cs
 K_len := fun h => d.K_len h
 K_one := fun h => d.K_one h
 K_below := fun hb h => d.K_below hb h
 K_of_M := fun h => d.K_of_M h
 M_mono := fun hok h => d.M_mono (fun k hk => ⟨hok k hk.1, hk.2⟩) h
 M_bound := fun h => d.M_mono (fun _ hk => ⟨⟨hk.1.1, hk.2⟩, hk.1.2⟩) (d.M_bound h)
 M_move := fun hm h => d.M_move (fun k hk => hm k hk.1) h
 M_lower := fun hb h => d.M_lower hb h
def raw (sz : Nat) : Kd (List Value) where
 sz := sz
 E := []
 K := fun _ x cs => cs = x ∧ cs.length = sz ∧ ∀ u ∈ cs, u.oneCell' = true
 M := fun _ _ _ x cs => cs = x ∧ cs.length = sz ∧ ∀ u ∈ cs, u.oneCell' = true
 K_len := fun h => h.2.1
 K_one := fun h => h.2.2
 K_below := fun _ h => h
 K_of_M := fun h => h
 M_mono := fun _ h => h
 M_bound := fun h => h
 M_move := fun _ h => h
 M_lower := fun _ h => h
def S {α : Type} (d : Kd α) (e : Nat) (w : World) (base : Nat) (ok : Nat → Prop) (v : Value) (xs : List α) : Prop := ∃ f, (tag f d).R e w base ok v xs.zipIdx
section
variable {α β : Type} {d : Kd α} {d' : Kd β} {e e' : Nat} {w w1 W : World} {base b : Nat} {ok ok' okv oku : Nat → Prop} {u v : Value} {xs : List α} {ys : List β}
end
section
variable {α β : Type} {d : Kd α} {d' : Kd β} {e e' g : Nat} {w w1 W : World} {base b : Nat} {ok ok' okv oku : Nat → Prop} {u v : Value} {xs : List α} {ys : List β}
end
section
open Classical in
variable {P : Program} {ops : Array Oper} {rest : List Oper} {o : Oper} {a : Act} {Q : Exit → Act → World → Prop} {Kc : Act → World → Prop} {α : Type}
end
def gap {α : Type} (f : Nat → Nat) (d : Kd α) (i : Nat) (c : List Value) : Kd (α × Nat) where
 sz := d.sz
 E := d.E
 K := fun w x cs => (x.2 = i → cs = c ∧ cs.length = d.sz ∧ ∀ u ∈ cs, u.oneCell' = true) ∧ (x.2 ≠ i → d.K w x.1 cs)
 M := fun w base ok x cs => (x.2 = i → cs = c ∧ cs.length = d.sz ∧ ∀ u ∈ cs, u.oneCell' = true) ∧ (x.2 ≠ i → d.M w base (fun k => ok k ∧ f k = x.2) x.1 cs)
 K_len := fun {w x cs} h => by
  by_cases hx : x.2 = i
  · exact (h.1 hx).2.1
  · exact d.K_len (h.2 hx)
 K_one := fun {w x cs} h => by
  by_cases hx : x.2 = i
  · exact (h.1 hx).2.2
  · exact d.K_one (h.2 hx)
 K_below := fun hb h => ⟨h.1, fun hx => d.K_below hb (h.2 hx)⟩
 K_of_M := fun h => ⟨h.1, fun hx => d.K_of_M (h.2 hx)⟩
 M_mono := fun hok h => ⟨h.1, fun hx => d.M_mono (fun k hk => ⟨hok k hk.1, hk.2⟩) (h.2 hx)⟩
 M_bound := fun h => ⟨h.1, fun hx => d.M_mono (fun _ hk => ⟨⟨hk.1.1, hk.2⟩, hk.1.2⟩) (d.M_bound (h.2 hx))⟩
 M_move := fun hm h => ⟨h.1, fun hx => d.M_move (fun k hk => hm k hk.1) (h.2 hx)⟩
 M_lower := fun hb h => ⟨h.1, fun hx => d.M_lower hb (h.2 hx)⟩
def H {α : Type} (d : Kd α) (e : Nat) (w : World) (base : Nat) (ok : Nat → Prop) (v : Value) (xs : List α) (i : Int) (oki : Nat → Prop) (c : List Value) : Prop :=
 (∀ k, oki k → ok k) ∧ ∃ f, (gap f d i.toNat c).R e w base (fun k => ok k ∧ ¬ oki k) v xs.zipIdx
section
variable {α β : Type} {d : Kd α} {e e' g n cap : Nat} {w w1 W : World} {base : Nat} {ok ok' oki okp : Nat → Prop} {u v : Value} {xs : List α} {i : Int} {c : List Value}
open Classical in
end
section
variable {P : Program} {ops : Array Oper} {rest : List Oper} {o : Oper} {a : Act} {Q : Exit → Act → World → Prop} {α : Type}
end
end Kd
end Go.Proofs.YtcnllhnhinmokaaW.PrintWords
end
section
namespace Go.Proofs.YtcnllhnhinmokaaW.PrintWords
open Go.RowKit
namespace Kd
theorem reps_one {α : Type} {R : α → List Value → Prop} {size : Nat} {ps : List α} {cs : List Value} (h : Reps R size ps cs) (hs0 : 0 < size) (hR : ∀ p c, R p c → ∀ u ∈ c, u.oneCell' = true) : ∀ u ∈ cs, u.oneCell' = true := by
 intro u hu
 obtain ⟨q, hq, rfl⟩ := List.mem_iff_getElem.1 hu
 have hql : q / size < ps.length := by
  rw [Nat.div_lt_iff_lt_mul hs0, ← h.1]
  exact hq
 refine hR _ _ (h.2 (q / size) _ (List.getElem?_eq_getElem hql)) _ ?_
 rw [List.mem_iff_getElem?]
 refine ⟨q % size, ?_⟩
 rw [List.getElem?_take, if_pos (Nat.mod_lt _ hs0), List.getElem?_drop, Nat.mul_comm, Nat.div_add_mod, List.getElem?_eq_getElem hq]
def arr {α : Type} (n : Nat) (d : Kd α) (hs : 0 < d.sz) : Kd (List α) where
 sz := n * d.sz
 E := d.E
 K := fun w xs cs => xs.length = n ∧ Reps (d.K w) d.sz xs cs
 M := fun w base ok xs cs => xs.length = n ∧ Reps (d.M w base ok) d.sz xs cs
 K_len := fun h => by rw [← h.1]; exact h.2.1
 K_one := fun h => reps_one h.2 hs (fun _ _ hk => d.K_one hk)
 K_below := fun hb h => ⟨h.1, h.2.imp_ (fun _ _ hk => d.K_below hb hk)⟩
 K_of_M := fun h => ⟨h.1, h.2.imp_ (fun _ _ hk => d.K_of_M hk)⟩
 M_mono := fun hok h => ⟨h.1, h.2.imp_ (fun _ _ hk => d.M_mono hok hk)⟩
 M_bound := fun h => ⟨h.1, h.2.imp_ (fun _ _ hk => d.M_bound hk)⟩
 M_move := fun hm h => ⟨h.1, h.2.imp_ (fun _ _ hk => d.M_move hm hk)⟩
 M_lower := fun hb h => ⟨h.1, h.2.imp_ (fun _ _ hk => d.M_lower hb hk)⟩
section
variable {α : Type} {n : Nat} {d : Kd α} {hs : 0 < d.sz} {w : World} {base : Nat} {ok : Nat → Prop} {xs : List α} {cs : List Value}
end
section
variable {α : Type} {n : Nat} {enc : α → Value} {h1 : ∀ x, (enc x).oneCell' = true} {hs : 0 < (scalar enc h1).sz} {w : World} {base : Nat} {ok : Nat → Prop} {xs : List α} {cs : List Value}
end
end Kd
end Go.Proofs.YtcnllhnhinmokaaW.PrintWords
end
section
namespace Go.Proofs.YtcnllhnhinmokaaW.PrintWords
open Go.RowKit
section
variable {P : Program}
end
namespace Kd
section
variable {P : Program} {ops : Array Oper} {rest : List Oper} {o : Oper} {a : Act} {Q : Exit → Act → World → Prop} {Kc : Act → World → Prop} {α : Type}
end
section
variable {α : Type} {d : Kd α} {e : Nat} {w : World} {base : Nat} {ok : Nat → Prop} {v : Value} {xs : List α}
end
section
variable {P : Program} {ops : Array Oper} {rest : List Oper} {o : Oper} {a : Act} {Q : Exit → Act → World → Prop} {Kc : Act → World → Prop} {α : Type}
end
end Kd
end Go.Proofs.YtcnllhnhinmokaaW.PrintWords
end
section
namespace Go.Proofs.YtcnllhnhinmokaaW.PrintWords
open Go.RowKit
namespace Kd
structure Heap {α : Type} (d : Kd α) : Prop where
 K : ∀ {w w1 : World} {x : α} {cs : List Value}, (∀ k, k < w.heap.size → w1.heap[k]? = w.heap[k]?) → d.K w x cs → d.K w1 x cs
theorem cell_heap {w w1 : World} (hb : ∀ k, k < w.heap.size → w1.heap[k]? = w.heap[k]?) {a : Addr} {v : Value} (h : w.cell? a = some v) : w1.cell? a = some v := by
 have := hb a.block (World.block_lt_of_cell? w a h)
 simpa [World.cell?, this] using h
theorem Heap.C {α : Type} {d : Kd α} (hd : Heap d) {w w1 : World} {A : Option Addr} {n : Nat} {xs : List α} (hb : ∀ k, k < w.heap.size → w1.heap[k]? = w.heap[k]?) (h : d.C w A n xs) : d.C w1 A n xs :=
 ⟨h.1, h.2.1, fun hn => by
  obtain ⟨ad, e, hc⟩ := h.2.2 hn
  refine ⟨ad, e, fun j p hj => ?_⟩
  obtain ⟨c, hs, hr, hcell⟩ := hc j p hj
  exact ⟨c, hs, hd.K hb hr, fun i u hu => cell_heap hb (hcell i u hu)⟩⟩
section
variable {α : Type} {d : Kd α} {e base g n c : Nat} {ok : Nat → Prop} {w w0 W : World} {A : Option Addr} {xs : List α}
end
end Kd
end Go.Proofs.YtcnllhnhinmokaaW.PrintWords
end
section
namespace Go.Proofs.YtcnllhnhinmokaaW.PrintWords
open Go.RowKit
def Kept (w W : World) (S : Nat → Prop) : Prop := w.heap.size ≤ W.heap.size ∧ ∀ i, i < w.heap.size → ¬ S i → W.heap[i]? = w.heap[i]?
section
variable {w W W2 : World} {S S2 S' : Nat → Prop}
theorem Kept.refl (w : World) (S : Nat → Prop) : Kept w w S := ⟨Nat.le_refl _, fun _ _ _ => rfl⟩
theorem Kept.of_below (h : Below w.heap.size w W) (S : Nat → Prop) : Kept w W S := ⟨h.size, fun i hi _ => h.block i hi⟩
theorem Kept.mono (h : Kept w W S) (hs : ∀ k, S k → S' k) : Kept w W S' := ⟨h.1, fun i hi hn => h.2 i hi (fun hk => hn (hs i hk))⟩
theorem Kept.then_ (h : Kept w W S) (k : Kept W W2 S2) (hs : ∀ k, S2 k → S k ∨ w.heap.size ≤ k) : Kept w W2 S :=
 ⟨Nat.le_trans h.1 k.1, fun i hi hn => (k.2 i (Nat.lt_of_lt_of_le hi h.1) (fun h2 => (hs i h2).elim hn (fun h3 => by omega))).trans (h.2 i hi hn)⟩
theorem Kept.below (h : Kept w W S) (hb : Below W.heap.size W W2) : Kept w W2 S := h.then_ (Kept.of_below hb (fun _ => False)) (fun _ hk => hk.elim)
theorem Kept.alloc (h : Kept w W S) (o : Obj) : Kept w (W.alloc o) S := h.below (below_alloc (Below.refl _ _) o)
theorem Kept.drew (h : Kept w W S) : Kept w W.drew S := h
theorem Kept.drewN (h : Kept w W S) (m : Nat) : Kept w (W.drewN m) S := h
theorem Kept.setCell (h : Kept w W S) {p : Addr} (hp : S p.block ∨ w.heap.size ≤ p.block) (u : Value) : Kept w (W.setCell p u) S :=
 h.then_ (S2 := fun k => k = p.block) ⟨by simp [World.setCell], fun i _ hn => Below.heap_setCell W p u i hn⟩ (fun k hk => by rw [hk]; exact hp)
theorem Kept.keep {g : Nat} (h : KeepBut w W g none) (k : Kept W W2 S2) (hs : ∀ k, S2 k → w.heap.size ≤ k) : KeepBut w W2 g none :=
 ⟨Nat.le_trans h.1 k.1, fun i hi hg hr => (k.2 i (Nat.lt_of_lt_of_le hi h.1) (fun h2 => by have := hs i h2; omega)).trans (h.2 i hi hg hr)⟩
end
namespace Kd
section
variable {α : Type} {d : Kd α} {e base n c : Nat} {ok oki S S2 : Nat → Prop} {w w0 W W1 W2 : World} {v : Value} {A : Option Addr} {xs : List α} {i : Int} {cs : List Value}
end
end Kd
end Go.Proofs.YtcnllhnhinmokaaW.PrintWords
end
section
namespace Go.Proofs.YtcnllhnhinmokaaW.PrintWords
open Go.RowKit
def Foot (P : World → Prop) (W : World) (ok : Nat → Prop) : Prop := ∀ W' : World, (∀ k, ok k → k < W.heap.size → W'.heap[k]? = W.heap[k]?) → P W'
theorem heap_lt {W W1 : World} {k : Nat} (h : W1.heap[k]? = W.heap[k]?) (hlt : k < W.heap.size) : k < W1.heap.size := by
 rw [Array.getElem?_eq_getElem hlt] at h
 exact (Array.getElem?_eq_some_iff.1 h).1
namespace Foot
variable {P Q : World → Prop} {W W1 : World} {ok ok' : Nat → Prop}
theorem now (h : Foot P W ok) : P W := h W (fun _ _ _ => rfl)
theorem mono (h : Foot P W ok) (hok : ∀ k, ok k → ok' k) : Foot P W ok' := fun W' hW => h W' (fun k hk hlt => hW k (hok k hk) hlt)
theorem bound (h : Foot P W ok) : Foot P W (fun k => ok k ∧ k < W.heap.size) := fun W' hW => h W' (fun k hk hlt => hW k ⟨hk, hlt⟩ hlt)
theorem step (h : Foot P W ok) (hm : ∀ k, ok k → k < W.heap.size → W1.heap[k]? = W.heap[k]?) : Foot P W1 ok := fun W' hW => h W' (fun k hk hlt => (hW k hk (heap_lt (hm k hk hlt) hlt)).trans (hm k hk hlt))
theorem imp (h : Foot P W ok) (hi : ∀ W', P W' → Q W') : Foot Q W ok := fun W' hW => hi W' (h W' hW)
theorem old (h : Foot P W ok) (hb : Below W.heap.size W W1) : Foot P W1 (fun k => ok k ∧ k < W.heap.size) := (h.bound).step (fun k _ hlt => hb.block k hlt)
end Foot
namespace Kd
def F {α : Type} (d : Kd α) (W : World) (ok : Nat → Prop) (A : Option Addr) (n : Nat) (xs : List α) : Prop := Foot (fun W => d.C W A n xs) W ok
def FK {α : Type} (d : Kd α) (W : World) (ok : Nat → Prop) (x : α) (c : List Value) : Prop := Foot (fun W => d.K W x c) W ok
section
variable {α β : Type} {d : Kd α} {e base n n' cc g N : Nat} {ok ok' okp S : Nat → Prop} {w w0 w1 W W1 : World} {A A' : Option Addr} {u v v1 : Value} {xs : List α} {xs' : List β} {d' : Kd β} {x : α} {c : List Value}
end
end Kd
end Go.Proofs.YtcnllhnhinmokaaW.PrintWords
end
section
namespace Go.Proofs.YtcnllhnhinmokaaW.PrintWords
open Go.RowKit
namespace Kd
section
variable {α : Type} {d : Kd α} {e base n cc g : Nat} {ok ok' okp S : Nat → Prop} {w w1 W W1 : World} {A : Option Addr} {u v v1 : Value} {xs : List α} {x : α} {c : List Value}
def N {α : Type} (d : Kd α) (e : Nat) (w : World) (base : Nat) (ok : Nat → Prop) (v : Value) (xs : List α) : Prop :=
 (∀ k, v.ownBlock = some k → ok k) ∧ ∃ rows : List (List Value), rows.length = xs.length ∧ (raw d.sz).R e w base (fun k => some k = v.ownBlock) v rows ∧ ∀ (j : Nat) (x : α) (c : List Value), xs[j]? = some x → rows[j]? = some c → FK d w (fun k => ok k ∧ some k ≠ v.ownBlock) x c
end
end Kd
end Go.Proofs.YtcnllhnhinmokaaW.PrintWords
end
section
namespace Go.Proofs.YtcnllhnhinmokaaW.PrintWords
open Go.RowKit
namespace Kd
section
variable {α : Type} {d : Kd α} {W : World} {g n : Nat} {S ok : Nat → Prop} {A : Option Addr} {ad : Addr} {xs : List α}
end
end Kd
end Go.Proofs.YtcnllhnhinmokaaW.PrintWords
end
section
namespace Go.Proofs.YtcnllhnhinmokaaW.PrintWords
open Go.RowKit
section
variable {w w' u : World} {m B g : Nat} {o : Obj} {row : Option Nat} {S : Nat → Prop} {a : Addr} {v : Value}
end
namespace Kd
section
variable {α : Type} {d : Kd α} {e base n m : Nat} {ok : Nat → Prop} {w w' : World} {v : Value} {A : Option Addr} {xs : List α}
end
end Kd
end Go.Proofs.YtcnllhnhinmokaaW.PrintWords
end
section
namespace Go.Proofs.YtcnllhnhinmokaaW.PrintWords
open Go.RowKit
section
variable {P : Program} {d : Nat} {xs ys : Array Value} {f : Field} {fs : List Field} {a b : Value} {r s : Bool} {w : World}
end
end Go.Proofs.YtcnllhnhinmokaaW.PrintWords
end
section
namespace Go.Proofs.YtcnllhnhinmokaaW.PrintWords
theorem Reps.one {α : Type} {R : α → List Value → Prop} {ps : List α} {cs : List Value} {p : α} {v : Value} (hp : R p [v]) (h : Reps R 1 ps cs) : Reps R 1 (p :: ps) (v :: cs) := by
 refine ⟨by simp [h.1], fun j q hq => ?_⟩
 cases j with
 | zero =>
   simp only [List.getElem?_cons_zero, Option.some.injEq] at hq
   subst hq
   simpa using hp
 | succ j =>
   simp only [List.getElem?_cons_succ] at hq
   have h1 := h.2 j q hq
   simpa [Nat.mul_one] using h1
theorem Reps.front {α : Type} {R : α → List Value → Prop} {size : Nat} {ps : List α} {cs c all : List Value} {p : α} (hp : R p c) (hc : c.length = size) (h : Reps R size ps cs) (ha : c ++ cs = all) : Reps R size (p :: ps) all := by
 subst ha
 refine ⟨by rw [List.length_append, hc, h.1, List.length_cons, Nat.succ_mul, Nat.add_comm], fun j q hq => ?_⟩
 cases j with
 | zero =>
   simp only [List.getElem?_cons_zero, Option.some.injEq] at hq
   subst hq
   rw [Nat.zero_mul, List.drop_zero, List.take_append_of_le_length (by omega), List.take_of_length_le (by omega)]
   exact hp
 | succ j =>
   simp only [List.getElem?_cons_succ] at hq
   have h1 := h.2 j q hq
   rw [Nat.succ_mul, List.drop_append, List.drop_of_length_le (by rw [hc]; exact Nat.le_add_left _ _), List.nil_append, hc, Nat.add_sub_cancel]
   exact h1
theorem Reps.c2 {α : Type} {R : α → List Value → Prop} {ps : List α} {cs : List Value} {p : α} {va vb : Value} (hp : R p [va, vb]) (h : Reps R 2 ps cs) : Reps R 2 (p :: ps) (va :: vb :: cs) := Reps.front hp rfl h rfl
theorem Reps.c3 {α : Type} {R : α → List Value → Prop} {ps : List α} {cs : List Value} {p : α} {va vb vc : Value} (hp : R p [va, vb, vc]) (h : Reps R 3 ps cs) : Reps R 3 (p :: ps) (va :: vb :: vc :: cs) := Reps.front hp rfl h rfl
theorem Reps.c4 {α : Type} {R : α → List Value → Prop} {ps : List α} {cs : List Value} {p : α} {va vb vc vd : Value} (hp : R p [va, vb, vc, vd]) (h : Reps R 4 ps cs) : Reps R 4 (p :: ps) (va :: vb :: vc :: vd :: cs) := Reps.front hp rfl h rfl
theorem Reps.c5 {α : Type} {R : α → List Value → Prop} {ps : List α} {cs : List Value} {p : α} {va vb vc vd ve : Value} (hp : R p [va, vb, vc, vd, ve]) (h : Reps R 5 ps cs) : Reps R 5 (p :: ps) (va :: vb :: vc :: vd :: ve :: cs) := Reps.front hp rfl h rfl
theorem Reps.c6 {α : Type} {R : α → List Value → Prop} {ps : List α} {cs : List Value} {p : α} {va vb vc vd ve vf : Value} (hp : R p [va, vb, vc, vd, ve, vf]) (h : Reps R 6 ps cs) : Reps R 6 (p :: ps) (va :: vb :: vc :: vd :: ve :: vf :: cs) := Reps.front hp rfl h rfl
theorem Reps.c7 {α : Type} {R : α → List Value → Prop} {ps : List α} {cs : List Value} {p : α} {va vb vc vd ve vf vg : Value} (hp : R p [va, vb, vc, vd, ve, vf, vg]) (h : Reps R 7 ps cs) : Reps R 7 (p :: ps) (va :: vb :: vc :: vd :: ve :: vf :: vg :: cs) := Reps.front hp rfl h rfl
theorem Reps.c8 {α : Type} {R : α → List Value → Prop} {ps : List α} {cs : List Value} {p : α} {va vb vc vd ve vf vg vh : Value} (hp : R p [va, vb, vc, vd, ve, vf, vg, vh]) (h : Reps R 8 ps cs) : Reps R 8 (p :: ps) (va :: vb :: vc :: vd :: ve :: vf :: vg :: vh :: cs) := Reps.front hp rfl h rfl
theorem Reps.c9 {α : Type} {R : α → List Value → Prop} {ps : List α} {cs : List Value} {p : α} {va vb vc vd ve vf vg vh vi : Value} (hp : R p [va, vb, vc, vd, ve, vf, vg, vh, vi]) (h : Reps R 9 ps cs) : Reps R 9 (p :: ps) (va :: vb :: vc :: vd :: ve :: vf :: vg :: vh :: vi :: cs) := Reps.front hp rfl h rfl
theorem Reps.c10 {α : Type} {R : α → List Value → Prop} {ps : List α} {cs : List Value} {p : α} {va vb vc vd ve vf vg vh vi vj : Value} (hp : R p [va, vb, vc, vd, ve, vf, vg, vh, vi, vj]) (h : Reps R 10 ps cs) : Reps R 10 (p :: ps) (va :: vb :: vc :: vd :: ve :: vf :: vg :: vh :: vi :: vj :: cs) := Reps.front hp rfl h rfl
end Go.Proofs.YtcnllhnhinmokaaW.PrintWords
end
section
namespace Go.Proofs.YtcnllhnhinmokaaW.PrintLast
def up (b : Nat → Bool) (i : Nat) : Nat → Bool := fun j => if j = i then true else b j
section
variable {P : Program} {ops : Array Oper} {Q : Exit → Act → World → Prop} {md : Region.Mode} {T : Bool × List (List Nat × List Nat)} {B : List Nat} {O : List Nat} {b : Nat → Bool} {i j n : Nat}
end
end Go.Proofs.YtcnllhnhinmokaaW.PrintLast
end
section
namespace Go.Proofs.YtcnllhnhinmokaaW.PrintWords
open Go.RowKit
end Go.Proofs.YtcnllhnhinmokaaW.PrintWords
namespace Go.Proofs.YtcnllhnhinmokaaW.PrintLast
section
variable {ops : Array Oper} {a : Act} {o og : Oper} {g : Nat} {t : Tmp} {u : Bool}
end
end Go.Proofs.YtcnllhnhinmokaaW.PrintLast
end
section
namespace Go.Proofs.YtcnllhnhinmokaaW.PrintWords
open Go.RowKit
section
variable {P : Program} {ops : Array Oper} {rest : List Oper} {o : Oper} {a : Act} {Q : Exit → Act → World → Prop} {W : World}
theorem gate_guard (hw : Region.wanted o (yielded ops a.tmps) = true) (h : wpList P ops Q ({ o with guard := none } :: rest) a W) : wpList P ops Q (o :: rest) a W := by
 have h1 : Region.wanted { o with guard := none } (yielded ops a.tmps) = true := rfl
 unfold wpList at h ⊢
 rw [if_pos h1] at h
 rw [if_pos hw]
 exact h
end
end Go.Proofs.YtcnllhnhinmokaaW.PrintWords
end
section
namespace Go.Proofs.YtcnllhnhinmokaaW.PrintWords
open Go.RowKit
namespace Kd
section
variable {α : Type} {d : Kd α} {e base n cap g : Nat} {ok ok' okp : Nat → Prop} {w w1 W : World} {v v1 : Value} {xs ys : List α}
end
section
variable {P : Program} {ops : Array Oper} {rest : List Oper} {o : Oper} {a : Act} {Q : Exit → Act → World → Prop} {Kc : Act → World → Prop} {α : Type}
end
end Kd
end Go.Proofs.YtcnllhnhinmokaaW.PrintWords
end
section
namespace Go.Proofs.YtcnllhnhinmokaaW.PrintMore
open Go.RowKit Go.Proofs.YtcnllhnhinmokaaW.PrintWords
namespace Kd
open Go.Proofs.YtcnllhnhinmokaaW.PrintWords.Kd
end Kd
namespace Kd
open Go.Proofs.YtcnllhnhinmokaaW.PrintWords.Kd
section
variable {α : Type} {d : Kd α} {e base g N : Nat} {ok : Nat → Prop} {W w1 : World} {u v : Value} {xs : List α}
end
end Kd
theorem max2_int (k k' : IntKind) (x y : Int) : Builtin.max2 (.int k x) (.int k' y) = pure (.int k (if x < y then y else x)) := by simp only [Builtin.max2, gt_iff_lt]
theorem min2_int (k k' : IntKind) (x y : Int) : Builtin.min2 (.int k x) (.int k' y) = pure (.int k (if y < x then y else x)) := by simp only [Builtin.min2]
theorem max_two (ats : Array TypeId) (ty : TypeId) (a b : Value) : Builtin.max_ ats ty #[a, b] = (Builtin.max2 a b >>= fun s => pure s) := by simp only [Builtin.max_, List.foldlM_cons, List.foldlM_nil]
theorem min_two (ats : Array TypeId) (ty : TypeId) (a b : Value) : Builtin.min_ ats ty #[a, b] = (Builtin.min2 a b >>= fun s => pure s) := by simp only [Builtin.min_, List.foldlM_cons, List.foldlM_nil]
theorem max_three (ats : Array TypeId) (ty : TypeId) (a b c : Value) : Builtin.max_ ats ty #[a, b, c] = (Builtin.max2 a b >>= fun s => Builtin.max2 s c >>= fun s => pure s) := by simp only [Builtin.max_, List.foldlM_cons, List.foldlM_nil]
theorem min_three (ats : Array TypeId) (ty : TypeId) (a b c : Value) : Builtin.min_ ats ty #[a, b, c] = (Builtin.min2 a b >>= fun s => Builtin.min2 s c >>= fun s => pure s) := by simp only [Builtin.min_, List.foldlM_cons, List.foldlM_nil]
theorem max_four (ats : Array TypeId) (ty : TypeId) (a b c d : Value) : Builtin.max_ ats ty #[a, b, c, d] = (Builtin.max2 a b >>= fun s => Builtin.max2 s c >>= fun s => Builtin.max2 s d >>= fun s => pure s) := by simp only [Builtin.max_, List.foldlM_cons, List.foldlM_nil]
theorem min_four (ats : Array TypeId) (ty : TypeId) (a b c d : Value) : Builtin.min_ ats ty #[a, b, c, d] = (Builtin.min2 a b >>= fun s => Builtin.min2 s c >>= fun s => Builtin.min2 s d >>= fun s => pure s) := by simp only [Builtin.min_, List.foldlM_cons, List.foldlM_nil]
end Go.Proofs.YtcnllhnhinmokaaW.PrintMore
namespace Go.Proofs.YtcnllhnhinmokaaW.PrintWords
open Go.RowKit
section
variable {P : Program} {ops : Array Oper} {rest : List Oper} {o : Oper} {a : Act} {Q : Exit → Act → World → Prop} {W : World}
theorem gate_callee {f : FuncId} {as : Array Operand} {ts : Array TypeId} (_ho : o.op = .call { callee := .value (.func f), args := as, argTypes := ts }) (h : wpList P ops Q (o :: rest) a W) : wpList P ops Q (o :: rest) a W := h
end
def mx (a b : Int) : Int := if a < b then b else a
def shl (k : IntKind) (x y : Int) : Int := k.wrap (x * 2 ^ min y.toNat k.bits)
def shr (k : IntKind) (x y : Int) : Int := x / 2 ^ min y.toNat k.bits
namespace Kd
section
variable {α : Type} {d : Kd α} {e base : Nat} {ok : Nat → Prop} {W w1 : World} {v : Value} {xs : List α}
end
section
variable {α : Type} {d : Kd α} {e base g n cap : Nat} {ok oki okp : Nat → Prop} {W : World} {xs : List α} {i : Int} {c : List Value}
end
section
variable {α : Type} {d : Kd α} {e base b b' g N : Nat} {ok ok1 : Nat → Prop} {W W2 w1 : World} {u v : Value} {xs ys : List α} {S : Nat → Prop}
end
end Kd
end Go.Proofs.YtcnllhnhinmokaaW.PrintWords
namespace Go.Proofs.YtcnllhnhinmokaaW.PrintWords
open Go.RowKit
namespace Kd
section
variable {α β : Type} {d : Kd α} {e base base' n m c g N' lo hi : Nat} {ok ok' S : Nat → Prop} {w W w1 : World} {A : Option Addr} {ad : Addr} {u v v1 : Value} {xs : List α}
end
end Kd
end Go.Proofs.YtcnllhnhinmokaaW.PrintWords
end
section
namespace Go.Ev
inductive Tr (α : Type) where
 | lf : Tr α
 | nd : Option α → Tr α → Tr α → Tr α
def Tr.get {α : Type} : Tr α → Nat → Option α
 | .lf, _ => none
 | .nd o l r, k => match k with
   | 0 => o
   | k + 1 => match Nat.beq (k % 2) 0 with
     | true => l.get (k / 2)
     | false => r.get (k / 2)
def Tr.set {α : Type} : Nat → Tr α → Nat → α → Tr α
 | 0, t, _, _ => t
 | f + 1, t, k, v => match t with
   | .lf => match k with
     | 0 => .nd (some v) .lf .lf
     | k + 1 => match Nat.beq (k % 2) 0 with
       | true => .nd none (Tr.set f .lf (k / 2) v) .lf
       | false => .nd none .lf (Tr.set f .lf (k / 2) v)
   | .nd o l r => match k with
     | 0 => .nd (some v) l r
     | k + 1 => match Nat.beq (k % 2) 0 with
       | true => .nd o (Tr.set f l (k / 2) v) r
       | false => .nd o l (Tr.set f r (k / 2) v)
def Tr.put {α : Type} (t : Tr α) (k : Nat) (v : α) : Tr α := Tr.set (k + 1) t k v
structure Row where
 c : List Value
 e : TypeId
 fam : Nat
 base : Nat
 grown : Bool
inductive CObj where
 | cells (r : Row)
 | map (es : List MapEntry) (clock : Nat)
 | sIter (s : ByteArray) (pos : Nat)
 | mIter (map : Option Nat) (since : Nat) (seen : List Nat) (stepped : Nat)
structure Mem where
 b : Nat
 lo : Nat
 hi : Nat
structure Hp where
 objs : Tr CObj
 next : Nat
 fams : Tr (List Mem)
 nfam : Nat
 base : Nat
 ro : Nat → Nat → Option Value
def Hp.nil : Hp := ⟨.lf, 0, .lf, 1, 0, fun _ _ => none⟩
def Hp.row (h : Hp) (b : Nat) : Option Row :=
 match h.objs.get b with
 | some (.cells r) => match r.fam with
   | 0 => some r
   | f + 1 => match h.fams.get (f + 1) with
     | some l => match l.any (fun m => Nat.beq m.b b) with
       | true => some r
       | false => Option.none
     | Option.none => Option.none
 | _ => Option.none
def Hp.map? (h : Hp) (b : Nat) : Option (List MapEntry × Nat) :=
 match h.objs.get b with
 | some (.map es k) => some (es, k)
 | _ => Option.none
def Hp.put (h : Hp) (b : Nat) (o : CObj) : Hp := { h with objs := h.objs.put b o }
def Hp.new (h : Hp) (o : CObj) : Option (Nat × Hp) := some (h.next, { h with objs := h.objs.put h.next o, next := h.next + 1 })
def Hp.newRow (h : Hp) (e : TypeId) (c : List Value) : Option (Addr × Hp) :=
 match h.new (.cells ⟨c, e, 0, 0, false⟩) with
 | some (b, h) => some (⟨b, 0, Option.none⟩, h)
 | Option.none => Option.none
def takeN : List Value → Nat → Option (List Value)
 | _, 0 => some []
 | [], _ + 1 => none
 | x :: l, n + 1 => match takeN l n with
   | some r => some (x :: r)
   | none => none
def splice : List Value → Nat → List Value → Option (List Value)
 | c, 0, [] => some c
 | _ :: c, 0, v :: vs => match splice c 0 vs with
   | some r => some (v :: r)
   | none => none
 | x :: c, o + 1, vs => match splice c o vs with
   | some r => some (x :: r)
   | none => none
 | [], 0, _ :: _ => none
 | [], _ + 1, _ => none
def oneCell : Value → Bool
 | .agg _ | .tuple _ => false
 | _ => true
def roTake (f : Nat → Option Value) : Nat → Nat → Option (List Value)
 | _, 0 => some []
 | o, n + 1 => match f o, roTake f (o + 1) n with
   | some v, some l => some (v :: l)
   | _, _ => none
def Hp.load (h : Hp) (a : Addr) : Option Value :=
 match a.spot with
 | some _ => none
 | Option.none => match Nat.blt a.block h.base with
   | true => h.ro a.block a.off
   | false => match h.row a.block with
     | some r => r.c[a.off]?
     | Option.none => Option.none
def Hp.loads (h : Hp) (a : Addr) (n : Nat) : Option (List Value) :=
 match n with
 | 0 => some []
 | n + 1 => match a.spot with
   | some _ => Option.none
   | Option.none => match Nat.blt a.block h.base with
     | true => roTake (h.ro a.block) a.off (n + 1)
     | false => match h.row a.block with
       | some r => takeN (r.c.drop a.off) (n + 1)
       | Option.none => Option.none
def kill (l : List Mem) (b lo hi : Nat) : List Mem :=
 l.filter fun m => Nat.beq m.b b || Nat.ble hi m.lo || Nat.ble m.hi lo
def Hp.stores (h : Hp) (a : Addr) (vs : List Value) : Option Hp :=
 match vs with
 | [] => some h
 | _ :: _ => match a.spot with
   | some _ => Option.none
   | Option.none => match vs.all oneCell with
     | false => Option.none
     | true => match h.row a.block with
       | Option.none => Option.none
       | some r => match splice r.c a.off vs with
         | Option.none => Option.none
         | some c =>
           let h' := h.put a.block (.cells { r with c := c })
           match r.fam with
           | 0 => some h'
           | f + 1 => match h.fams.get (f + 1) with
             | Option.none => Option.none
             | some l => some { h' with fams := h.fams.put (f + 1) (kill l a.block (r.base + a.off) (r.base + a.off + vs.length)) }
def plain : Nat → Value → Bool
 | _, .bool _ | _, .int .. | _, .float .. | _, .complex .. | _, .string _ | _, .nilFunc | _, .nilIface => true
 | _, .pointer none | _, .map none | _, .chan none | _, .slice none 0 0 => true
 | n + 1, .agg cs => cs.toList.all (plain n)
 | n + 1, .tuple cs => cs.toList.all (plain n)
 | n + 1, .iface _ v => plain n v
 | _, _ => false
def undef' : Value := .tuple #[]
structure A where
 tmps : Tr Value
 n : Nat
def A.get (a : A) (t : Nat) : Value := match a.tmps.get t with
 | some v => v
 | none => undef'
def A.ev (a : A) : Operand → Option Value
 | .tmp t => some (a.get t)
 | .const v => match plain 9 v with
   | true => some v
   | false => none
 | .global _ => none
 | .func f => some (.func (.func f) #[] #[])
def A.put (a : A) (d : Option Nat) (v : Value) : Option A :=
 match d with
 | none => some a
 | some d => match Nat.blt d a.n with
   | true => some { a with tmps := a.tmps.put d v }
   | false => none
def bytesEq : List UInt8 → List UInt8 → Bool
 | [], [] => true
 | a :: x, b :: y => match Nat.beq a.toNat b.toNat with
   | true => bytesEq x y
   | false => false
 | _, _ => false
def bytesLt : List UInt8 → List UInt8 → Bool
 | _, [] => false
 | [], _ :: _ => true
 | a :: x, b :: y => match Nat.blt a.toNat b.toNat with
   | true => true
   | false => match Nat.beq a.toNat b.toNat with
     | true => bytesLt x y
     | false => false
def kindEq : IntKind → IntKind → Bool
 | .i8, .i8 | .i16, .i16 | .i32, .i32 | .i64, .i64 | .u8, .u8 | .u16, .u16 | .u32, .u32 | .u64, .u64 => true
 | _, _ => false
def intEq : Int → Int → Bool
 | .ofNat a, .ofNat b => Nat.beq a b
 | .negSucc a, .negSucc b => Nat.beq a b
 | _, _ => false
def intLe (a b : Int) : Bool := match b - a with
 | .ofNat _ => true
 | .negSucc _ => false
def intLt (a b : Int) : Bool := intLe (a + 1) b
def part (P : Program) (t : TypeId) (cs : List Value) (off : Nat) : Option Value :=
 match P.underlying t with
 | some (.struct _) | some (.array _ _) => match P.info? t with
   | some i => some (.agg ((cs.drop off).take i.size).toArray)
   | none => none
 | some _ => cs[off]?
 | none => none
def eqv (P : Program) (h : Hp) : Nat → TypeId → Value → Value → Option Bool
 | 0, _, _, _ => none
 | d + 1, t, x, y => match P.underlying t, x, y with
   | some .bool, .bool a, .bool b => some (a == b)
   | some (.int _), .int k a, .int k' b => match kindEq k k' with
     | true => some (intEq a b)
     | false => none
   | some .string, .string a, .string b => some (bytesEq a.data.toList b.data.toList)
   | some (.pointer _), .pointer none, .pointer b => some b.isNone
   | some (.pointer _), .pointer (some _), .pointer none => some false
   | some (.pointer e), .pointer (some a), .pointer (some b) => match a.spot, b.spot, P.info? e with
     | none, none, some i => match Nat.beq i.size 0 with
       | true => none
       | false => match Nat.beq a.block b.block with
         | true => match h.row a.block with
           | some _ => some (Nat.beq a.off b.off)
           | none => none
         | false => match h.row a.block, h.row b.block with
           | some r, some q => match Nat.beq r.fam 0, r.grown, Nat.beq q.fam 0, q.grown with
             | true, false, true, false => some false
             | _, _, _, _ => none
           | _, _ => none
     | _, _, _ => none
   | some (.interface _), .nilIface, .nilIface => some true
   | some (.interface _), .nilIface, .iface _ _ | some (.interface _), .iface _ _, .nilIface => some false
   | some (.interface _), .iface tx vx, .iface ty vy => match Nat.beq tx ty with
     | false => some false
     | true => match P.info? tx with
       | some i => match i.comparable with
         | true => eqv P h d tx vx vy
         | false => none
       | none => none
   | some (.struct fields), .agg xs, .agg ys => match P.stoodInHeld t with
     | true => none
     | false => fields.toList.foldr (fun f k => match f.name == "_" with
      | true => k
      | false => match part P f.type xs.toList f.offset, part P f.type ys.toList f.offset with
        | some p, some q => match eqv P h d f.type p q with
          | some true => k
          | r => r
        | _, _ => none) (some true)
   | some (.slice _), .slice none _ _, .slice b _ _ => some b.isNone
   | some (.slice _), .slice (some _) _ _, .slice none _ _ => some false
   | some (.map _ _), .map none, .map b => some b.isNone
   | some (.map _ _), .map (some _), .map none => some false
   | some (.func _ _ _), .nilFunc, .nilFunc => some true
   | some (.func _ _ _), .nilFunc, .func _ _ _ | some (.func _ _ _), .func _ _ _, .nilFunc => some false
   | _, _, _ => none
def intOp (op : BinOp) (k : IntKind) (a b : Int) : Option Value :=
 match op with
 | .add => some (.int k (k.wrap (a + b)))
 | .sub => some (.int k (k.wrap (a - b)))
 | .mul => some (.int k (k.wrap (a * b)))
 | .quo => match intEq b 0 with
   | true => none
   | false => some (.int k (k.wrap (a.tdiv b)))
 | .rem => match intEq b 0 with
   | true => none
   | false => some (.int k (a.tmod b))
 | .eql => some (.bool (intEq a b))
 | .neq => some (.bool (!intEq a b))
 | .lss => some (.bool (intLt a b))
 | .leq => some (.bool (intLe a b))
 | .gtr => some (.bool (intLt b a))
 | .geq => some (.bool (intLe b a))
 | _ => none
def strOp (op : BinOp) (x y : ByteArray) : Option Value :=
 match op with
 | .add => match Nat.ble (x.data.toList.length + y.data.toList.length) 1000000000 with
   | true => some (.string ⟨(x.data.toList ++ y.data.toList).toArray⟩)
   | false => none
 | .eql => some (.bool (bytesEq x.data.toList y.data.toList))
 | .neq => some (.bool (!bytesEq x.data.toList y.data.toList))
 | .lss => some (.bool (bytesLt x.data.toList y.data.toList))
 | .leq => some (.bool (bytesLt x.data.toList y.data.toList || bytesEq x.data.toList y.data.toList))
 | .gtr => some (.bool (!(bytesLt x.data.toList y.data.toList || bytesEq x.data.toList y.data.toList)))
 | .geq => some (.bool (!bytesLt x.data.toList y.data.toList))
 | _ => none
def nilsApart (x y : Operand) (a b : Value) : Bool :=
 match a, b with
 | .nilIface, .nilIface => match x, y with
   | .const _, _ => true
   | _, .const _ => true
   | _, _ => false
 | .agg _, .agg _ => false
 | _, _ => true
def binOp' (P : Program) (h : Hp) (op : BinOp) (t : TypeId) (x y : Operand) (a b : Value) : Option Value :=
 match op, a, b with
 | .shl, .int k n, .int _ m => match m with
   | .ofNat m => some (.int k (k.wrap (n * 2 ^ min m k.bits)))
   | .negSucc _ => none
 | .shr, .int k n, .int _ m => match m with
   | .ofNat m => some (.int k (n.fdiv (2 ^ min m k.bits)))
   | .negSucc _ => none
 | _, .int k n, .int k' m => match kindEq k k' with
   | true => intOp op k n m
   | false => none
 | _, .string s, .string u => strOp op s u
 | .eql, a, b => match nilsApart x y a b with
   | true => match eqv P h 40 t a b with
     | some r => some (.bool r)
     | none => none
   | false => none
 | .neq, a, b => match nilsApart x y a b with
   | true => match eqv P h 40 t a b with
     | some r => some (.bool (!r))
     | none => none
   | false => none
 | _, _, _ => none
def unOp' (op : UnOp) (x : Value) : Option Value :=
 match op, x with
 | .neg, .int k n => some (.int k (k.wrap (0 - n)))
 | .not, .bool b => some (.bool (!b))
 | _, _ => none
def bytesOf : List Value → Option (List UInt8)
 | [] => some []
 | .int .u8 n :: l => match bytesOf l with
   | some r => some (UInt8.ofNat n.toNat :: r)
   | none => none
 | _ :: _ => none
def Hp.grownRow (h : Hp) (e : TypeId) (c : List Value) : Option (Addr × Hp) :=
 match h.new (.cells ⟨c, e, 0, 0, true⟩) with
 | some (b, h) => some (⟨b, 0, none⟩, h)
 | none => none
def sizeOf' (P : Program) (t : TypeId) : Option Nat := match P.info? t with
 | some i => some i.size
 | none => none
def convert' (P : Program) (h : Hp) (src dst : TypeId) (x : Value) : Option (Value × Hp) :=
 match P.underlying src, P.underlying dst, x with
 | some _, some (.int k), .int _ n => some (.int k (k.wrap n), h)
 | some _, some .string, .string s => some (.string s, h)
 | some _, some (.slice e), .string s => match P.underlying e with
   | some (.int .u8) => match Nat.ble s.data.toList.length 1000000, sizeOf' P e with
     | true, some 1 => match h.grownRow e (s.data.toList.map fun b => .int .u8 b.toNat) with
       | some (a, h) => some (.slice (some a) s.data.toList.length s.data.toList.length, h)
       | none => none
     | _, _ => none
   | _ => none
 | some (.slice e), some .string, .slice none _ _ => match P.underlying e with
   | some (.int .u8) => some (.string ⟨#[]⟩, h)
   | _ => none
 | some (.slice e), some .string, .slice (some a) n _ => match P.underlying e with
   | some (.int .u8) => match h.loads a n with
     | some l => match bytesOf l with
       | some bs => some (.string ⟨bs.toArray⟩, h)
       | none => none
     | none => none
   | _ => none
 | _, _, _ => none
def zero' (P : Program) (t : TypeId) : Option Value :=
 match P.info? t with
 | some i => match i.zero with
   | some v => match plain 9 v with
     | true => some v
     | false => none
   | none => none
 | none => none
def loadVar' (P : Program) (h : Hp) (t : TypeId) (a : Addr) : Option Value :=
 match P.underlying t with
 | some (.struct _) | some (.array _ _) => match P.info? t with
   | some i => match h.loads a i.size with
     | some l => some (.agg l.toArray)
     | none => none
   | none => none
 | some _ => h.load a
 | none => none
def storeVar' (P : Program) (h : Hp) (t : TypeId) (a : Addr) (v : Value) : Option Hp :=
 match P.info? t with
 | some i => match Nat.beq v.cells.toList.length i.size with
   | true => h.stores a v.cells.toList
   | false => none
 | none => none
def fill' (place : Nat → Option (Nat × Nat)) (cells : List Value) : List (Nat × Value) → Option (List Value)
 | [] => some cells
 | (i, v) :: rest => match place i with
   | none => none
   | some (off, size) => match Nat.beq v.cells.toList.length size with
     | false => none
     | true => match splice cells off v.cells.toList with
       | some c => fill' place c rest
       | none => none
def evPairs (a : A) : List (Nat × Operand) → Option (List (Nat × Value))
 | [] => some []
 | (i, x) :: r => match a.ev x, evPairs a r with
   | some v, some l => some ((i, v) :: l)
   | _, _ => none
def evList (a : A) : List Operand → Option (List Value)
 | [] => some []
 | x :: r => match a.ev x, evList a r with
   | some v, some l => some (v :: l)
   | _, _ => none
def build' (P : Program) (t : TypeId) (parts : List (Nat × Value)) : Option Value :=
 match zero' P t with
 | none => none
 | some z => match P.underlying t with
   | some (.struct fields) => match fields.toList.all (fun f => (P.info? f.type).isSome) with
     | true => match fill' (fun i => match fields.toList[i]? with
       | some f => match sizeOf' P f.type with
         | some s => some (f.offset, s)
         | none => none
       | none => none) z.cells.toList parts with
       | some c => some (.agg c.toArray)
       | none => none
     | false => none
   | some (.array _ e) => match sizeOf' P e with
     | some s => match fill' (fun i => some (i * s, s)) z.cells.toList parts with
       | some c => some (.agg c.toArray)
       | none => none
     | none => none
   | _ => none
def repeatN (z : List Value) : Nat → List Value
 | 0 => []
 | n + 1 => z ++ repeatN z n
def buildRow' (P : Program) (t : TypeId) (len : Nat) (parts : List (Nat × Value)) : Option (CObj × (Nat → Value)) :=
 match P.underlying t with
 | some (.slice e) => match sizeOf' P e, zero' P e with
   | some s, some z => match Nat.beq z.cells.toList.length s, Nat.blt 0 s, Nat.ble (len * s) 100000 with
     | true, true, true => match fill' (fun i => some (i * s, s)) (repeatN z.cells.toList len) parts with
       | some c => some (.cells ⟨c, e, 0, 0, false⟩, fun b => .slice (some ⟨b, 0, none⟩) len len)
       | none => none
     | _, _, _ => none
   | _, _ => none
 | _ => none
def natOf : Value → Option Nat
 | .int _ (.ofNat n) => some n
 | _ => none
def makeRow' (P : Program) (t : TypeId) (l c : Value) : Option (CObj × (Nat → Value)) :=
 match P.underlying t, natOf l, natOf c with
 | some (.slice e), some l, some c => match P.info? e, zero' P e with
   | some i, some z => match Nat.beq z.cells.toList.length i.size, Nat.blt 0 i.size, Nat.ble (c * i.size) 100000, Nat.ble (c * i.bytes) 100000000, Nat.ble l c with
     | true, true, true, true, true => match Nat.ble c 100000 with
       | true => some (.cells ⟨repeatN z.cells.toList c, e, 0, 0, false⟩, fun b => .slice (some ⟨b, 0, none⟩) l c)
       | false => none
     | _, _, _, _, _ => none
   | _, _ => none
 | _, _, _ => none
def bound' (x : Option Value) (d top : Nat) : Option Nat :=
 match x with
 | none => some d
 | some (.int _ (.ofNat n)) => match Nat.ble n top with
   | true => some n
   | false => none
 | some _ => none
def slice' (P : Program) (h : Hp) (t : TypeId) (x : Value) (lo hi mx : Option Value) : Option Value :=
 match P.underlying t, x with
 | some .string, .string s => match mx with
   | some _ => none
   | none => match bound' hi s.data.toList.length s.data.toList.length with
     | some hh => match bound' lo 0 hh with
       | some l => some (.string ⟨((s.data.toList.take hh).drop l).toArray⟩)
       | none => none
     | none => none
 | some (.slice e), .slice b len cap => match sizeOf' P e with
   | none => none
   | some sz =>
     let ok : Bool := match b with
      | none => true
      | some a => match Nat.blt a.block h.base with
        | true => a.spot.isNone
        | false => match a.spot, h.row a.block with
          | none, some r => match r.grown with
            | true => match sizeOf' P r.e with
              | some z => Nat.beq z sz
              | none => false
            | false => true
          | _, _ => false
     match ok, Nat.ble len cap with
     | false, _ => none
     | true, false => none
     | true, true => match mx with
       | some _ => match bound' mx cap cap with
         | some m => match hi with
           | none => none
           | some _ => match bound' hi len m with
             | some hh => match bound' lo 0 hh with
               | some l => some (.slice (b.map (·.add (l * sz))) (hh - l) (m - l))
               | none => none
             | none => none
         | none => none
       | none => match bound' hi len cap with
         | some hh => match bound' lo 0 hh with
           | some l => some (.slice (b.map (·.add (l * sz))) (hh - l) (cap - l))
           | none => none
         | none => none
 | some (.array n e), .pointer (some a) => match sizeOf' P e, a.spot, h.row a.block with
   | some sz, none, some r => match r.grown, mx with
     | false, none => match bound' hi n n with
       | some hh => match bound' lo 0 hh with
         | some l => some (.slice (some (a.add (l * sz))) (hh - l) (n - l))
         | none => none
       | none => none
     | _, _ => none
   | _, _, _ => none
 | _, _ => none
def fieldAddr' (P : Program) (t : TypeId) (x : Value) (f : Nat) : Option Value :=
 match P.underlying t, x with
 | some (.struct fields), .pointer (some a) => match fields.toList[f]?, a.spot with
   | some f, none => match sizeOf' P f.type with
     | some (_ + 1) => some (.pointer (some (a.add f.offset)))
     | _ => none
   | _, _ => none
 | _, _ => none
def indexAddr' (P : Program) (t : TypeId) (x ix : Value) : Option Value :=
 match P.underlying t, x, natOf ix with
 | some (.slice e), .slice (some a) len _, some i => match Nat.blt i len, sizeOf' P e, a.spot with
   | true, some s, none => some (.pointer (some (a.add (i * s))))
   | _, _, _ => none
 | some (.array len e), .pointer (some a), some i => match Nat.blt i len, sizeOf' P e, a.spot with
   | true, some s, none => some (.pointer (some (a.add (i * s))))
   | _, _, _ => none
 | _, _, _ => none
def index' (P : Program) (t : TypeId) (x ix : Value) : Option Value :=
 match P.underlying t, x, natOf ix with
 | some (.array len e), .agg cs, some i => match Nat.blt i len, sizeOf' P e with
   | true, some s => part P e cs.toList (i * s)
   | _, _ => none
 | some .string, .string s, some i => match s.data.toList[i]? with
   | some b => some (.int .u8 b.toNat)
   | none => none
 | _, _, _ => none
def keyOk (P : Program) : Nat → TypeId → Value → Bool
 | 0, _, _ => false
 | d + 1, t, v => match P.underlying t, v with
   | some (.interface _), .nilIface => true
   | some (.interface _), .iface u x => match P.info? u with
     | some i => match i.comparable with
       | true => keyOk P d u x
       | false => false
     | none => false
   | some (.struct fields), .agg cs => fields.toList.all fun f => match f.name == "_" with
     | true => true
     | false => match part P f.type cs.toList f.offset with
       | some p => keyOk P d f.type p
       | none => false
   | some (.interface _), _ | some (.array _ _), _ | some (.struct _), _ => false
   | some _, _ => true
   | none, _ => false
def find' (P : Program) (h : Hp) (t : TypeId) (k : Value) : List MapEntry → Nat → Option (Option (Nat × Value))
 | [], _ => some none
 | e :: es, i => match eqv P h 40 t k e.key with
   | some true => some (some (i, e.val))
   | some false => find' P h t k es (i + 1)
   | none => none
def entriesOf (h : Hp) : Value → Option (List MapEntry)
 | .map none => some []
 | .map (some r) => match h.map? r with
   | some (es, _) => some es
   | none => none
 | _ => none
def lookup' (P : Program) (h : Hp) (t : TypeId) (x k : Value) (ok : Bool) : Option Value :=
 match P.underlying t with
 | some (.map kt et) => match entriesOf h x, keyOk P 40 kt k with
   | some es, true => match find' P h kt k es 0 with
     | some (some (_, v)) => some (if ok then .tuple #[v, .bool true] else v)
     | some none => match zero' P et with
       | some z => some (if ok then .tuple #[z, .bool false] else z)
       | none => none
     | none => none
   | _, _ => none
 | _ => none
def sameKey : Nat → Value → Value → Bool
 | _, .bool a, .bool b => a == b
 | _, .int j a, .int k b => kindEq j k && intEq a b
 | _, .string a, .string b => bytesEq a.data.toList b.data.toList
 | _, .nilIface, .nilIface => true
 | n + 1, .iface t v, .iface u w => Nat.beq t u && sameKey n v w
 | n + 1, .agg a, .agg b => Nat.beq a.toList.length b.toList.length && (a.toList.zip b.toList).all fun (x, y) => sameKey n x y
 | _, _, _ => false
def setAt (f : MapEntry → MapEntry) : List MapEntry → Nat → List MapEntry
 | [], _ => []
 | e :: es, 0 => f e :: es
 | e :: es, i + 1 => e :: setAt f es i
def mapUpdate' (P : Program) (h : Hp) (t : TypeId) (m k v : Value) : Option Hp :=
 match P.underlying t, m with
 | some (.map kt _), .map (some r) => match h.map? r, keyOk P 40 kt k with
   | some (es, clock), true => match find' P h kt k es 0 with
     | some (some (i, _)) => match es[i]? with
       | some e => match sameKey 40 e.key k with
         | true => some (h.put r (.map (setAt (fun e => { e with key := k, val := v }) es i) clock))
         | false => none
       | none => none
     | some none => some (h.put r (.map (es ++ [⟨k, v, clock⟩]) (clock + 1)))
     | none => none
   | _, _ => none
 | _, _ => none
def mapEntry' (P : Program) (h : Hp) (t : TypeId) (m k : Value) : Option (Value × Hp) :=
 match P.underlying t, m with
 | some (.map kt et), .map (some r) => match h.map? r, keyOk P 40 kt k with
   | some (es, clock), true => match find' P h kt k es 0 with
     | some (some (i, v)) => match es[i]? with
       | some e => match sameKey 40 e.key k with
         | true => some (.tuple #[v, .int .i64 e.born], h.put r (.map (setAt (fun e => { e with key := k }) es i) clock))
         | false => none
       | none => none
     | some none => match zero' P et with
       | some z => some (.tuple #[z, .int .i64 clock], h.put r (.map (es ++ [⟨k, z, clock⟩]) (clock + 1)))
       | none => none
     | none => none
   | _, _ => none
 | _, _ => none
def bornAt (b : Nat) : List MapEntry → Nat → Option Nat
 | [], _ => none
 | e :: es, i => match Nat.beq e.born b with
   | true => some i
   | false => bornAt b es (i + 1)
def entryStore' (h : Hp) (m s v : Value) : Option Hp :=
 match m, natOf s with
 | .map (some r), some b => match h.map? r with
   | some (es, clock) => match bornAt b es 0 with
     | some i => some (h.put r (.map (setAt (fun e => { e with val := v }) es i) clock))
     | none => none
   | none => none
 | _, _ => none
def delete' (P : Program) (h : Hp) (t : TypeId) (m k : Value) : Option (Value × Hp) :=
 match P.underlying t, m with
 | some (.map kt _), .map none => match keyOk P 40 kt k with
   | true => some (.tuple #[], h)
   | false => none
 | some (.map kt _), .map (some r) => match h.map? r, keyOk P 40 kt k with
   | some (es, clock), true => match find' P h kt k es 0 with
     | some (some (i, _)) => some (.tuple #[], h.put r (.map (es.eraseIdx i) clock))
     | some none => some (.tuple #[], h)
     | none => none
   | _, _ => none
 | _, _ => none
def range' (P : Program) (h : Hp) (t : TypeId) (x : Value) : Option (Value × Hp) :=
 match P.underlying t, x with
 | some .string, .string s => match h.new (.sIter s 0) with
   | some (b, h) => some (.pointer (some ⟨b, 0, none⟩), h)
   | none => none
 | some (.map _ _), .map none => match h.new (.mIter none 0 [] 0) with
   | some (b, h) => some (.pointer (some ⟨b, 0, none⟩), h)
   | none => none
 | some (.map _ _), .map (some m) => match h.map? m with
   | some (_, clock) => match h.new (.mIter (some m) clock [] clock) with
     | some (b, h) => some (.pointer (some ⟨b, 0, none⟩), h)
     | none => none
   | none => none
 | _, _ => none
def next' (h : Hp) (it : Value) (isString : Bool) : Option (Value × Hp) :=
 match it with
 | .pointer (some a) => match a.off, h.objs.get a.block, isString with
   | 0, some (.sIter s pos), true => match Nat.blt pos s.data.toList.length with
     | true => match (Utf8.decode s pos) with
       | (c, w) => some (.tuple #[.bool true, .int .i64 pos, .int .i32 c], h.put a.block (.sIter s (pos + w)))
     | false => some (.tuple #[.bool false], h)
   | 0, some (.mIter none _ _ _), false => some (.tuple #[.bool false], h)
   | 0, some (.mIter (some m) since seen last), false => match h.map? m with
     | some (es, clock) => match seen.isEmpty || es.isEmpty || !(es.all fun e => Nat.ble last e.born) with
       | false => none
       | true =>
         let left := es.filter fun e => !(seen.any fun b => Nat.beq b e.born)
         let old := left.filter fun e => Nat.blt e.born since
         let new := left.filter fun e => Nat.ble since e.born
         match old, new with
         | [], [] => some (.tuple #[.bool false], h)
         | [e], [] => some (.tuple #[.bool true, e.key, e.val], h.put a.block (.mIter (some m) since (seen ++ [e.born]) clock))
         | _, _ => none
     | none => none
   | _, _, _ => none
 | _ => none
def entry' (h : Hp) (it : Value) : Option Value :=
 match it with
 | .pointer (some a) => match a.off, h.objs.get a.block with
   | 0, some (.mIter (some m) _ seen stepped) => match seen.getLast?, h.map? m with
     | some b, some (es, clock) => match Nat.beq clock stepped, bornAt b es 0 with
       | true, some i => match es[i]? with
         | some e => some (.tuple #[e.key, e.val])
         | none => none
       | _, _ => none
     | _, _ => none
   | _, _ => none
 | _ => none
def typeAssert' (P : Program) (x : Value) (asserted : TypeId) (ok : Bool) : Option Value :=
 match P.underlying asserted, x with
 | some (.interface want), .iface t v => match P.info? t with
   | some i => match want.toList.all fun (n, s) => i.methods.toList.any fun m => m.name == n && Nat.beq m.sig s with
     | true => some (if ok then .tuple #[.iface t v, .bool true] else .iface t v)
     | false => match ok, zero' P asserted with
       | true, some z => some (.tuple #[z, .bool false])
       | _, _ => none
   | none => none
 | some _, .nilIface => match ok, zero' P asserted with
   | true, some z => some (.tuple #[z, .bool false])
   | _, _ => none
 | some (.interface _), _ => none
 | some _, .iface t v => match Nat.beq t asserted with
   | true => some (if ok then .tuple #[v, .bool true] else v)
   | false => match ok, zero' P asserted with
     | true, some z => some (.tuple #[z, .bool false])
     | _, _ => none
 | _, _ => none
def lenOf' : Value → Option Nat
 | .slice _ n _ => some n
 | .string s => some s.data.toList.length
 | _ => none
def first' (h : Hp) (size n : Nat) : Value → Option (List Value)
 | .slice (some a) _ _ => h.loads a (n * size)
 | .slice none _ _ => some []
 | .string s => some ((s.data.toList.take n).map fun b => .int .u8 b.toNat)
 | _ => none
def stays (b lo hi top : Nat) : List Mem :=
 match Nat.ble hi top with
 | true => [⟨b, lo, hi⟩]
 | false => []
def grow' (h : Hp) (e : TypeId) (sz : Nat) (a : Addr) (len n : Nat) (cells : List Value) (r : Row) : Option (Value × Hp) :=
 match r.fam with
 | 0 => some (.slice (some ⟨h.next, 0, none⟩) (len + n) (len + n),
  { h with
    objs := (h.objs.put a.block (.cells { r with fam := h.nfam })).put h.next (.cells ⟨cells, e, h.nfam, r.base + a.off, true⟩)
    next := h.next + 1
    fams := h.fams.put h.nfam (⟨h.next, r.base + a.off, r.base + a.off + cells.length⟩ ::
     stays a.block r.base (r.base + r.c.length) (r.base + a.off + len * sz))
    nfam := h.nfam + 1 })
 | f + 1 => match h.fams.get (f + 1) with
   | some l => some (.slice (some ⟨h.next, 0, none⟩) (len + n) (len + n),
    { h with
      objs := h.objs.put h.next (.cells ⟨cells, e, f + 1, r.base + a.off, true⟩)
      next := h.next + 1
      fams := h.fams.put (f + 1) (⟨h.next, r.base + a.off, r.base + a.off + cells.length⟩ :: l.filter fun m => Nat.ble m.hi (r.base + a.off + len * sz)) })
   | none => none
def apd (h : Hp) (e : TypeId) (sz : Nat) (base : Option Addr) (len cap n : Nat) (new : List Value) : Option (Value × Hp) :=
 match Nat.ble (len + n) cap with
 | true => match base with
   | none => some (.slice none (len + n) cap, h)
   | some a => match h.stores (a.add (len * sz)) new with
     | some h => some (.slice (some a) (len + n) cap, h)
     | none => none
 | false => match base with
   | none => match len with
     | 0 => match h.grownRow e new with
       | some (a, h) => some (.slice (some a) n n, h)
       | none => none
     | _ + 1 => none
   | some a => match h.row a.block, h.loads a (len * sz) with
     | some r, some old => match Nat.beq r.e e with
       | true => grow' h e sz a len n (old ++ new) r
       | false => none
     | _, _ => none
def noInt (P : Program) : List TypeId → Bool
 | u :: _ => match P.underlying u with
   | some (.slice _) => true
   | some .string => true
   | _ => false
 | [] => true
def append' (P : Program) (h : Hp) (ts : List TypeId) (args : List Value) : Option (Value × Hp) :=
 match ts, args with
 | t :: xt, .slice base len cap :: x :: _ => match P.underlying t, noInt P xt with
   | some (.slice e), true => match P.info? e, zero' P e with
     | some i, some z => match Nat.beq z.cells.toList.length i.size, Nat.blt 0 i.size, Nat.ble i.bytes 100000, Nat.blt 0 i.bytes with
       | true, true, true, true => match lenOf' x with
         | some n => match first' h i.size n x, Nat.ble (len + n) 1000000, Nat.ble len cap with
           | some new, true, true => match new.all oneCell, Nat.beq new.length (n * i.size) with
             | true, true => apd h e i.size base len cap n new
             | _, _ => none
           | _, _, _ => none
         | none => none
       | _, _, _, _ => none
     | _, _ => none
   | _, _ => none
 | _, _ => none
def len' (P : Program) (h : Hp) (ts : List TypeId) (args : List Value) : Option Value :=
 match ts, args with
 | t :: _, x :: _ => match P.underlying t, x with
   | some .string, .string s => some (.int .i64 s.data.toList.length)
   | some (.array n _), _ => some (.int .i64 n)
   | some (.slice _), .slice _ n _ => some (.int .i64 n)
   | some (.map _ _), .map none => some (.int .i64 0)
   | some (.map _ _), .map (some r) => match h.map? r with
     | some (es, _) => some (.int .i64 es.length)
     | none => none
   | _, _ => none
 | _, _ => none
def cap' (P : Program) (h : Hp) (ts : List TypeId) (args : List Value) : Option Value :=
 match ts, args with
 | t :: _, x :: _ => match P.underlying t, x with
   | some (.slice _), .slice none _ n => some (.int .i64 n)
   | some (.slice _), .slice (some a) _ n => match h.row a.block with
     | some r => match r.grown with
       | false => some (.int .i64 n)
       | true => none
     | none => none
   | _, _ => none
 | _, _ => none
def copy' (P : Program) (h : Hp) (ts : List TypeId) (args : List Value) : Option (Value × Hp) :=
 match ts, args with
 | t :: _, d :: s :: _ => match P.underlying t, d, lenOf' s with
   | some (.slice e), .slice base dl _, some sl => match sizeOf' P e with
     | some z => match first' h z (Nat.min sl dl) s with
       | some cs => match base with
         | none => some (.int .i64 (Nat.min sl dl : Nat), h)
         | some a => match h.stores a cs with
           | some h => some (.int .i64 (Nat.min sl dl : Nat), h)
           | none => none
       | none => none
     | none => none
   | _, _, _ => none
 | _, _ => none
def mm (big : Bool) (x y : Int) : Int :=
 match big with
 | true => match intLt x y with
   | true => y
   | false => x
 | false => match intLt y x with
   | true => y
   | false => x
def minmax' (big : Bool) : Value → List Value → Option Value
 | x, [] => some x
 | .int k x, .int _ y :: r => minmax' big (.int k (mm big x y)) r
 | _, _ => none
def builtin' (P : Program) (h : Hp) (b : Builtin) (ts : List TypeId) (args : List Value) : Option (Value × Hp) :=
 match b with
 | .append => append' P h ts args
 | .copy => copy' P h ts args
 | .delete => match ts, args with
   | t :: _, m :: k :: _ => delete' P h t m k
   | _, _ => none
 | _ => none
def withH (h : Hp) : Option Value → Option (Value × Hp)
 | some v => some (v, h)
 | none => none
def onlyH : Option Hp → Option (Value × Hp)
 | some h => some (undef', h)
 | none => none
def reader' (P : Program) (h : Hp) (a : A) (op : Op) : Option Value :=
 match op with
 | .move x | .assign x => a.ev x
 | .pick c x y => match a.ev c with
   | some (.bool true) => a.ev x
   | some (.bool false) => a.ev y
   | _ => none
 | .build t parts => match evPairs a parts.toList with
   | some l => build' P t l
   | none => none
 | .load t x => match a.ev x with
   | some (.pointer (some p)) => loadVar' P h t p
   | _ => none
 | .nilCheck x => match a.ev x with
   | some (.pointer (some p)) => some (.pointer (some p))
   | some (.func (.func f) x y) => some (.func (.func f) x y)
   | some (.iface t v) => some (.iface t v)
   | _ => none
 | .binOp op t x y _ => match a.ev x, a.ev y with
   | some v, some u => binOp' P h op t x y v u
   | _, _ => none
 | .unOp op _ x => match a.ev x with
   | some v => unOp' op v
   | none => none
 | .makeInterface t x => match a.ev x, P.underlying t with
   | some _, some (.interface _) => none
   | some v, some _ => some (.iface t v)
   | _, _ => none
 | .makeFunc fn first captured => match evList a first.toList, evList a captured.toList with
   | some l, some r => some (.func fn l.toArray r.toArray)
   | _, _ => none
 | .slice t x lo hi mx => match a.ev x, evList a (lo.toList ++ hi.toList ++ mx.toList) with
   | some v, some _ => slice' P h t v (lo.bind a.ev) (hi.bind a.ev) (mx.bind a.ev)
   | _, _ => none
 | .fieldAddr t x f => match a.ev x with
   | some v => fieldAddr' P t v f
   | none => none
 | .field t x f => match a.ev x, P.underlying t with
   | some (.agg cs), some (.struct fields) => match fields.toList[f]? with
     | some f => part P f.type cs.toList f.offset
     | none => none
   | _, _ => none
 | .indexAddr t x i => match a.ev x, a.ev i with
   | some v, some u => indexAddr' P t v u
   | _, _ => none
 | .index t x i => match a.ev x, a.ev i with
   | some v, some u => index' P t v u
   | _, _ => none
 | .lookup t x i ok => match a.ev x, a.ev i with
   | some v, some u => lookup' P h t v u ok
   | _, _ => none
 | .extract x i => match a.ev x with
   | some (.tuple vs) => vs.toList[i]?
   | _ => none
 | .typeAssert x _ t ok => match a.ev x with
   | some v => typeAssert' P v t ok
   | none => none
 | .entry x => match a.ev x with
   | some v => entry' h v
   | none => none
 | .call c => match c.callee with
   | .builtin .len => match evList a c.args.toList with
     | some l => len' P h c.argTypes.toList l
     | none => none
   | .builtin .cap => match evList a c.args.toList with
     | some l => cap' P h c.argTypes.toList l
     | none => none
   | .builtin .max => match evList a c.args.toList with
     | some (x :: r) => minmax' true x r
     | _ => none
   | .builtin .min => match evList a c.args.toList with
     | some (x :: r) => minmax' false x r
     | _ => none
   | _ => none
 | _ => none
def isReader : Op → Bool
 | .move _ | .assign _ | .pick .. | .build .. | .load .. | .nilCheck _ | .binOp .. | .unOp .. | .makeInterface .. | .makeFunc .. | .slice .. | .fieldAddr .. | .field .. | .indexAddr .. | .index .. | .lookup .. | .extract .. | .typeAssert .. | .entry _ => true
 | .call { callee := .builtin b, .. } => match b with
   | .len | .cap | .max | .min => true
   | _ => false
 | _ => false
def isMaker : Op → Bool
 | .alloc _ | .box .. | .buildSlice .. | .makeMap .. | .makeSlice .. => true
 | _ => false
def maker' (P : Program) (a : A) (op : Op) : Option (CObj × (Nat → Value)) :=
 match op with
 | .alloc e => match zero' P e with
   | some z => some (.cells ⟨z.cells.toList, e, 0, 0, false⟩, fun b => .pointer (some ⟨b, 0, none⟩))
   | none => none
 | .box e x => match a.ev x with
   | some v => some (.cells ⟨v.cells.toList, e, 0, 0, false⟩, fun b => .pointer (some ⟨b, 0, none⟩))
   | none => none
 | .buildSlice t n parts => match evPairs a parts.toList with
   | some l => buildRow' P t n l
   | none => none
 | .makeMap _ none => some (.map [] 0, fun b => .map (some b))
 | .makeMap t (some x) => match a.ev x, P.underlying t with
   | some (.int _ _), some (.map _ _) => some (.map [] 0, fun b => .map (some b))
   | _, _ => none
 | .makeSlice t l c => match a.ev l, a.ev c with
   | some x, some y => makeRow' P t x y
   | _, _ => none
 | _ => none
def writer' (P : Program) (h : Hp) (a : A) (op : Op) : Option (Value × Hp) :=
 match op with
 | .alloc _ | .box .. | .buildSlice .. | .makeMap .. | .makeSlice .. => match maker' P a op with
   | some (o, f) => match h.new o with
     | some (b, h) => some (f b, h)
     | none => none
   | none => none
 | .store t x y => match a.ev x, a.ev y with
   | some (.pointer (some p)), some v => onlyH (storeVar' P h t p v)
   | _, _ => none
 | .mapUpdate t m k v | .insert t m k v => match a.ev m, a.ev k, a.ev v with
   | some m, some k, some v => onlyH (mapUpdate' P h t m k v)
   | _, _, _ => none
 | .mapEntry t m k => match a.ev m, a.ev k with
   | some m, some k => mapEntry' P h t m k
   | _, _ => none
 | .entryStore _ m s v => match a.ev m, a.ev s, a.ev v with
   | some m, some s, some v => onlyH (entryStore' h m s v)
   | _, _, _ => none
 | .range t x => match a.ev x with
   | some v => range' P h t v
   | none => none
 | .next it s => match a.ev it with
   | some v => next' h v s
   | none => none
 | .convert s t x => match a.ev x with
   | some v => convert' P h s t v
   | none => none
 | .call c => match c.callee with
   | .builtin b => match evList a c.args.toList with
     | some l => builtin' P h b c.argTypes.toList l
     | none => none
   | _ => none
 | _ => none
def callee' (a : A) (op : Op) : Option (FuncId × List Value) :=
 match op with
 | .call c => match c.callee with
   | .value f => match a.ev f, evList a c.args.toList with
     | some (.func (.func g) first captured), some l => some (g, first.toList ++ l ++ captured.toList)
     | _, _ => none
   | _ => none
 | _ => none
abbrev Caller := FuncId → List Value → Hp → Option (Value × Hp)
def oper' (P : Program) (C : Caller) (h : Hp) (a : A) (op : Op) : Option (Value × Hp) :=
 match isReader op with
 | true => withH h (reader' P h a op)
 | false => match callee' a op with
   | some (f, args) => C f args h
   | none => writer' P h a op
def wanted' (ops : List Oper) (a : A) (o : Oper) : Bool :=
 match o.guard with
 | none => true
 | some (j, want) => match ops[j]? with
   | none => false
   | some p => match p.dst with
     | none => false
     | some d => match a.get d with
       | .bool b => b == want
       | _ => false
def step' (P : Program) (C : Caller) (ops : List Oper) (o : Oper) (a : A) (h : Hp) : Option (A × Hp) :=
 match wanted' ops a o with
 | true => match oper' P C h a o.op with
   | some (v, h) => match a.put o.dst v with
     | some a => some (a, h)
     | none => none
   | none => none
 | false => match a.put o.dst undef' with
   | some a => some (a, h)
   | none => none
def ops' (P : Program) (C : Caller) (ops : List Oper) : List Oper → A → Hp → Option (A × Hp)
 | [], a, h => some (a, h)
 | o :: r, a, h => match step' P C ops o a h with
   | some (a, h) => ops' P C ops r a h
   | none => none
def predsRow (acc : List (List Nat)) : List Edge → List Nat
 | [] => []
 | e :: l => match Region.binds .any e with
   | true => e.on :: ((acc[e.on]?).getD []) ++ predsRow acc l
   | false => predsRow acc l
def predsGo (acc : List (List Nat)) : List Oper → List (List Nat)
 | [] => acc
 | o :: r => predsGo (acc ++ [predsRow acc o.after.toList]) r
def preds (ops : List Oper) : List (List Nat) := predsGo [] ops
def predsOf (ps : List (List Nat)) (i : Nat) : List Nat := (ps[i]?).getD []
def has (l : List Nat) (i : Nat) : Bool := l.any (Nat.beq i)
def edgesOk (i : Nat) : List Edge → Bool
 | [] => true
 | e :: l => match Region.binds .any e with
   | true => match Nat.blt e.on i with
     | true => edgesOk i l
     | false => false
   | false => edgesOk i l
def isReader2 (m : Bool) (op : Op) : Bool :=
 match isReader op with
 | true => true
 | false => match m with
   | true => isMaker op
   | false => false
def pairOk (m : Bool) (arr : Array Oper) (ps : List Nat) (y : Oper) : Nat → List Oper → Bool
 | _, [] => true
 | i, x :: l => match has ps i with
   | true => pairOk m arr ps y (i + 1) l
   | false => match isReader2 m x.op || isReader2 m y.op, x.apart arr y, y.apart arr x with
     | true, true, true => pairOk m arr ps y (i + 1) l
     | _, _, _ => false
def orderGo (m : Bool) (ops : List Oper) (arr : Array Oper) (ps : List (List Nat)) : Nat → List Oper → Bool
 | _, [] => true
 | j, y :: r => match edgesOk j y.after.toList, pairOk m arr (predsOf ps j) y 0 (ops.take j) with
   | true, true => orderGo m ops arr ps (j + 1) r
   | _, _ => false
def orderOk (m : Bool) (ops : List Oper) : Bool := orderGo m ops ops.toArray (preds ops) 0 ops
def sameV : Nat → Value → Value → Bool
 | _, .bool a, .bool b => a == b
 | _, .int j a, .int k b => kindEq j k && intEq a b
 | _, .string a, .string b => bytesEq a.data.toList b.data.toList
 | _, .nilIface, .nilIface => true
 | _, .nilFunc, .nilFunc => true
 | _, .pointer none, .pointer none => true
 | _, .pointer (some a), .pointer (some b) => Nat.beq a.block b.block && Nat.beq a.off b.off && a.spot.isNone && b.spot.isNone
 | _, .slice none n c, .slice none m d => Nat.beq n m && Nat.beq c d
 | _, .slice (some a) n c, .slice (some b) m d => Nat.beq a.block b.block && Nat.beq a.off b.off && a.spot.isNone && b.spot.isNone && Nat.beq n m && Nat.beq c d
 | _, .map none, .map none => true
 | _, .map (some a), .map (some b) => Nat.beq a b
 | n + 1, .func (.func f) x y, .func (.func g) z w => Nat.beq f g && Nat.beq x.toList.length z.toList.length && Nat.beq y.toList.length w.toList.length && (x.toList.zip z.toList).all (fun (p, q) => sameV n p q) && (y.toList.zip w.toList).all (fun (p, q) => sameV n p q)
 | n + 1, .iface t v, .iface u w => Nat.beq t u && sameV n v w
 | n + 1, .agg a, .agg b => Nat.beq a.toList.length b.toList.length && (a.toList.zip b.toList).all fun (x, y) => sameV n x y
 | n + 1, .tuple a, .tuple b => Nat.beq a.toList.length b.toList.length && (a.toList.zip b.toList).all fun (x, y) => sameV n x y
 | _, _, _ => false
def sameVs : List Value → List Value → Bool
 | [], [] => true
 | x :: l, y :: m => match sameV 9 x y with
   | true => sameVs l m
   | false => false
 | _, _ => false
def laidAs : CObj → CObj → Bool
 | .cells ⟨c, e, 0, 0, false⟩, .cells ⟨d, u, 0, 0, false⟩ => match Nat.beq e u with
   | true => sameVs c d
   | false => false
 | .map [] 0, .map [] 0 => true
 | _, _ => false
def reader2' (P : Program) (g : Nat) (h : Hp) (a : A) (op : Op) : Option Value :=
 match isReader op with
 | true => reader' P h a op
 | false => match maker' P a op with
   | some (o, f) => match h.objs.get g with
     | some o' => match laidAs o o' with
       | true => some (f g)
       | false => none
     | none => none
   | none => none
def oper2' (P : Program) (C : Caller) (m : Bool) (g : Nat) (h : Hp) (a : A) (op : Op) : Option (Value × Hp) :=
 match isReader2 m op with
 | true => withH h (reader2' P g h a op)
 | false => oper' P C h a op
def step2' (P : Program) (C : Caller) (m : Bool) (ops : List Oper) (g : Nat) (o : Oper) (a : A) (h : Hp) : Option (A × Hp) :=
 match wanted' ops a o with
 | true => match oper2' P C m g h a o.op with
   | some (v, h) => match a.put o.dst v with
     | some a => some (a, h)
     | none => none
   | none => none
 | false => match a.put o.dst undef' with
   | some a => some (a, h)
   | none => none
def heaps (P : Program) (C : Caller) (m : Bool) (base : Nat) (ops : List Oper) : Nat → List Oper → A → Hp → Option (List (Nat × Hp))
 | i, [], _, h => some [(i, h)]
 | i, o :: r, a, h => match step2' P C m ops (base + i) o a h with
   | some (a', h') => match heaps P C m base ops (i + 1) r a' h' with
     | some l => match isReader2 m o.op with
       | true => some l
       | false => some ((i, h) :: l)
     | none => none
   | none => none
def stable (P : Program) (g : Nat) (a : A) (op : Op) (v : Value) (i : Nat) (ps : List (List Nat)) : List (Nat × Hp) → Bool
 | [] => true
 | (e, h) :: r => match has (predsOf ps i) e with
   | true => stable P g a op v i ps r
   | false => match reader2' P g h a op with
     | some u => match sameV 9 v u with
       | true => match has (predsOf ps e) i with
         | true => true
         | false => stable P g a op v i ps r
       | false => false
     | none => false
def check (P : Program) (C : Caller) (m : Bool) (base : Nat) (ops : List Oper) (ps : List (List Nat)) (gs : List (Nat × Hp)) : Nat → List Oper → A → Hp → Option (A × Hp)
 | _, [], a, h => some (a, h)
 | i, o :: r, a, h => match step2' P C m ops (base + i) o a h with
   | none => none
   | some (a', h') => match isReader2 m o.op, wanted' ops a o with
     | true, true => match reader2' P (base + i) h a o.op with
       | some v => match stable P (base + i) a o.op v i ps gs with
         | true => check P C m base ops ps gs (i + 1) r a' h'
         | false => none
       | none => none
     | _, _ => check P C m base ops ps gs (i + 1) r a' h'
def guess (P : Program) (C : Caller) (calls : Bool) (base : Nat) (ops : List Oper) : Nat → List Oper → A → Hp → List (Nat × CObj)
 | _, [], _, _ => []
 | i, o :: r, a, h => match wanted' ops a o, isMaker o.op with
   | true, true => match maker' P a o.op with
     | some (ob, f) => match a.put o.dst (f (base + i)) with
       | some a => (i, ob) :: guess P C calls base ops (i + 1) r a (h.put (base + i) ob)
       | none => []
     | none => guess P C calls base ops (i + 1) r a h
   | true, false => match isReader o.op || calls with
     | true => match step' P C ops o a h with
       | some (a, h) => guess P C calls base ops (i + 1) r a h
       | none => guess P C calls base ops (i + 1) r a h
     | false => guess P C calls base ops (i + 1) r a h
   | false, _ => match a.put o.dst undef' with
     | some a => guess P C calls base ops (i + 1) r a h
     | none => []
def famFree : CObj → Bool
 | .cells r => Nat.beq r.fam 0
 | _ => true
def layAll (base k : Nat) : List (Nat × CObj) → Hp → Hp
 | [], h => h
 | (i, o) :: l, h => match Nat.blt i k, famFree o with
   | true, true => layAll base k l (h.put (base + i) o)
   | _, _ => layAll base k l h
def makersWaitGo (ops : List Oper) : List (List Nat) → List Oper → Bool
 | p :: ps, o :: r => match isMaker o.op with
   | true => (p.any fun j => match ops[j]? with
     | some x => !isReader2 true x.op
     | none => false) || makersWaitGo ops ps r
   | false => makersWaitGo ops ps r
 | _, _ => false
def makersWait (ops : List Oper) (ps : List (List Nat)) : Bool := makersWaitGo ops ps ops
def drawn (P : Program) (C : Caller) (m : Bool) (base : Nat) (ops : List Oper) (a : A) (h : Hp) : Option (A × Hp) :=
 match heaps P C m base ops 0 ops a h with
 | some gs => check P C m base ops (preds ops) gs 0 ops a h
 | none => none
def draw' (P : Program) (C : Caller) (ops : List Oper) (a : A) (h : Hp) : Option (A × Hp) :=
 match orderOk false ops with
 | true => drawn P C false 0 ops a h
 | false => match orderOk true ops with
   | true => drawn P C true h.next ops a
    (layAll h.next ops.length (guess P C (makersWait ops (preds ops)) h.next ops 0 ops a { h with next := h.next + ops.length }) { h with next := h.next + ops.length })
   | false => none
inductive Ex where
 | normal
 | exit (id : Nat)
 | ret
def code' (P : Program) (C : Caller) : Nat → Code → A → Hp → Option (Ex × A × Hp)
 | 0, _, _, _ => none
 | n + 1, c, a, h => match c with
   | .skip => some (.normal, a, h)
   | .label _ => some (.normal, a, h)
   | .region _ ops false => match ops' P C ops.toList ops.toList a h with
     | some (a, h) => some (.normal, a, h)
     | none => none
   | .region _ ops true => match draw' P C ops.toList a h with
     | some (a, h) => some (.normal, a, h)
     | none => none
   | .seq x y => match code' P C n x a h with
     | some (.normal, a, h) => code' P C n y a h
     | r => r
   | .cond x t e => match a.ev x with
     | some (.bool true) => code' P C n t a h
     | some (.bool false) => code' P C n e a h
     | _ => none
   | .block id b => match code' P C n b a h with
     | some (.exit j, a, h) => match Nat.beq j id with
       | true => some (.normal, a, h)
       | false => some (.exit j, a, h)
     | r => r
   | .loop b => match code' P C n b a h with
     | some (.normal, a, h) => code' P C n (.loop b) a h
     | r => r
   | .scope b => code' P C n b a h
   | .exit id => some (.exit id, a, h)
   | .ret => some (.ret, a, h)
   | _ => none
def argsOf : List Value → Nat → Tr Value → Tr Value
 | [], _, t => t
 | v :: r, i, t => argsOf r (i + 1) (t.put i v)
def result' (P : Program) (h : Hp) (a : A) : ResultVar → Option Value
 | .tmp t => some (a.get t)
 | .cell t ty => match a.get t with
   | .pointer (some p) => loadVar' P h ty p
   | _ => none
def results' (P : Program) (h : Hp) (a : A) : List ResultVar → Option (List Value)
 | [] => some []
 | r :: l => match result' P h a r, results' P h a l with
   | some v, some vs => some (v :: vs)
   | _, _ => none
def call' (P : Program) : Nat → Caller
 | 0, _, _, _ => none
 | n + 1, f, args, h => match P.funcs[f]? with
   | none => none
   | some fn => match fn.body with
     | none => none
     | some c => match Nat.ble args.length fn.ntmps, fn.name == "runtime.NumGoroutine" with
       | true, false => match code' P (call' P n) 20000 c ⟨argsOf args 0 .lf, fn.ntmps⟩ h with
         | some (.exit _, _, _) => none
         | some (_, a, h) => match results' P h a fn.results.toList with
           | some [v] => some (v, h)
           | some vs => some (.tuple vs.toArray, h)
           | none => none
         | none => none
       | _, _ => none
end Go.Ev
end
section
namespace Go.Ev
open Go.RowKit
theorem beq0 (n : Nat) : Nat.beq n 0 = decide (n = 0) := by
 cases n <;> simp [Nat.beq]
theorem Tr.get_lf {α : Type} (k : Nat) : (Tr.lf : Tr α).get k = none := by cases k <;> rfl
theorem Tr.get_nd_zero {α : Type} (o : Option α) (l r : Tr α) : (Tr.nd o l r).get 0 = o := rfl
theorem Tr.get_nd_succ {α : Type} (o : Option α) (l r : Tr α) (k : Nat) : (Tr.nd o l r).get (k + 1) = if k % 2 = 0 then l.get (k / 2) else r.get (k / 2) := by
 show (match Nat.beq (k % 2) 0 with | true => l.get (k / 2) | false => r.get (k / 2)) = _
 rw [beq0]
 by_cases h : k % 2 = 0 <;> simp [h]
theorem Tr.get_set {α : Type} : ∀ (f : Nat) (t : Tr α) (k : Nat) (v : α) (j : Nat), k + 1 < 2 ^ f → (Tr.set f t k v).get j = if j = k then some v else t.get j
 | 0, t, k, v, j, h => by simp at h
 | f + 1, t, k, v, j, h => by
   have ih := fun (t : Tr α) (k' j' : Nat) (hk : k' + 1 < 2 ^ f) => Tr.get_set f t k' v j' hk
   cases k with
   | zero =>
     cases t with
     | lf => cases j with
       | zero => rfl
       | succ j => simp [Tr.set, Tr.get_nd_succ, Tr.get_lf]
     | nd o l r => cases j with
       | zero => rfl
       | succ j => simp [Tr.set, Tr.get_nd_succ]
   | succ k =>
     have hk : k / 2 + 1 < 2 ^ f := by rw [Nat.pow_succ] at h; omega
     cases t with
     | lf =>
       simp only [Tr.set, beq0]
       by_cases hp : k % 2 = 0
       · simp only [hp, decide_true]
         cases j with
         | zero => simp [Tr.get_nd_zero, Tr.get_lf]
         | succ j =>
           rw [Tr.get_nd_succ, ih _ _ _ hk]
           by_cases hj : j % 2 = 0
           · rw [if_pos hj]
             by_cases e : j / 2 = k / 2
             · rw [if_pos e, if_pos (by omega)]
             · rw [if_neg e, if_neg (by omega), Tr.get_lf, Tr.get_lf]
           · rw [if_neg hj, if_neg (by omega), Tr.get_lf, Tr.get_lf]
       · simp only [hp, decide_false]
         cases j with
         | zero => simp [Tr.get_nd_zero, Tr.get_lf]
         | succ j =>
           rw [Tr.get_nd_succ, ih _ _ _ hk]
           by_cases hj : j % 2 = 0
           · rw [if_pos hj, if_neg (by omega), Tr.get_lf, Tr.get_lf]
           · rw [if_neg hj]
             by_cases e : j / 2 = k / 2
             · rw [if_pos e, if_pos (by omega)]
             · rw [if_neg e, if_neg (by omega), Tr.get_lf, Tr.get_lf]
     | nd o l r =>
       simp only [Tr.set, beq0]
       by_cases hp : k % 2 = 0
       · simp only [hp, decide_true]
         cases j with
         | zero => simp [Tr.get_nd_zero]
         | succ j =>
           rw [Tr.get_nd_succ, ih _ _ _ hk]
           by_cases hj : j % 2 = 0
           · rw [if_pos hj]
             by_cases e : j / 2 = k / 2
             · rw [if_pos e, if_pos (by omega)]
             · rw [if_neg e, if_neg (by omega), Tr.get_nd_succ, if_pos hj]
           · rw [if_neg hj, if_neg (by omega), Tr.get_nd_succ, if_neg hj]
       · simp only [hp, decide_false]
         cases j with
         | zero => simp [Tr.get_nd_zero]
         | succ j =>
           rw [Tr.get_nd_succ, ih _ _ _ hk]
           by_cases hj : j % 2 = 0
           · rw [if_pos hj, if_neg (by omega), Tr.get_nd_succ, if_pos hj]
           · rw [if_neg hj]
             by_cases e : j / 2 = k / 2
             · rw [if_pos e, if_pos (by omega)]
             · rw [if_neg e, if_neg (by omega), Tr.get_nd_succ, if_neg hj]
theorem lt_two_pow (k : Nat) : k + 1 < 2 ^ (k + 1) := by
 induction k with
 | zero => decide
 | succ k ih => rw [Nat.pow_succ]; omega
theorem Tr.get_put {α : Type} (t : Tr α) (k : Nat) (v : α) (j : Nat) : (t.put k v).get j = if j = k then some v else t.get j :=
 Tr.get_set _ _ _ _ _ (lt_two_pow k)
structure Img where
 b : Nat
 s : Nat
 m : Nat
 z : Nat
 ex : Bool
abbrev Rho := Nat → Option Img
def Rho.le (ρ ρ' : Rho) : Prop := ∀ b i, ρ b = some i → ρ' b = some i
theorem Rho.le_refl (ρ : Rho) : ρ.le ρ := fun _ _ h => h
theorem Rho.le_trans {a b c : Rho} (h : a.le b) (k : b.le c) : a.le c := fun _ _ e => k _ _ (h _ _ e)
def AR (ρ : Rho) (a a' : Addr) (i : Img) : Prop := a.spot = none ∧ ρ a.block = some i ∧ a' = ⟨i.b, i.s + a.off, none⟩
def CapOk (i : Img) (off c c' : Nat) : Prop := c' = c ∨ (i.ex = false ∧ c ≤ c' ∧ off + c' * i.z ≤ i.m)
mutual
inductive VR (ρ : Rho) : Value → Value → Prop
 | bool (b : Bool) : VR ρ (.bool b) (.bool b)
 | int (k : IntKind) (n : Int) : VR ρ (.int k n) (.int k n)
 | float (k : FloatKind) (n : Nat) : VR ρ (.float k n) (.float k n)
 | complex (k : FloatKind) (a b : Nat) : VR ρ (.complex k a b) (.complex k a b)
 | string (s : ByteArray) : VR ρ (.string s) (.string s)
 | ptrNil : VR ρ (.pointer none) (.pointer none)
 | ptr {a a' : Addr} {i : Img} (h : AR ρ a a' i) : VR ρ (.pointer (some a)) (.pointer (some a'))
 | slNil : VR ρ (.slice none 0 0) (.slice none 0 0)
 | sl {a a' : Addr} {i : Img} {n c c' : Nat} (h : AR ρ a a' i) (hc : CapOk i a.off c c') : VR ρ (.slice (some a) n c) (.slice (some a') n c')
 | slZero (a a' : Addr) {i : Img} (h : ρ a.block = some i) : VR ρ (.slice (some a) 0 0) (.slice (some a') 0 0)
 | mapNil : VR ρ (.map none) (.map none)
 | map {r : Nat} {i : Img} (h : ρ r = some i) : VR ρ (.map (some r)) (.map (some i.b))
 | chanNil : VR ρ (.chan none) (.chan none)
 | func {fn : Fn} {f c f' c' : Array Value} (h : VRs ρ f.toList f'.toList) (k : VRs ρ c.toList c'.toList) : VR ρ (.func fn f c) (.func fn f' c')
 | nilFunc : VR ρ .nilFunc .nilFunc
 | iface {t : TypeId} {v v' : Value} (h : VR ρ v v') : VR ρ (.iface t v) (.iface t v')
 | nilIface : VR ρ .nilIface .nilIface
 | agg {c c' : Array Value} (h : VRs ρ c.toList c'.toList) : VR ρ (.agg c) (.agg c')
 | tuple {c c' : Array Value} (h : VRs ρ c.toList c'.toList) : VR ρ (.tuple c) (.tuple c')
inductive VRs (ρ : Rho) : List Value → List Value → Prop
 | nil : VRs ρ [] []
 | cons {v v' : Value} {l l' : List Value} (h : VR ρ v v') (k : VRs ρ l l') : VRs ρ (v :: l) (v' :: l')
end
theorem AR.mono {ρ ρ' : Rho} (hr : ρ.le ρ') {a a' : Addr} {i : Img} (h : AR ρ a a' i) : AR ρ' a a' i := ⟨h.1, hr _ _ h.2.1, h.2.2⟩
mutual
theorem VR.mono {ρ ρ' : Rho} (hr : ρ.le ρ') : ∀ {v v' : Value}, VR ρ v v' → VR ρ' v v'
 | _, _, .bool b => .bool b
 | _, _, .int k n => .int k n
 | _, _, .float k n => .float k n
 | _, _, .complex k a b => .complex k a b
 | _, _, .string s => .string s
 | _, _, .ptrNil => .ptrNil
 | _, _, .ptr h => .ptr (h.mono hr)
 | _, _, .slNil => .slNil
 | _, _, .sl h hc => .sl (h.mono hr) hc
 | _, _, .slZero a a' h => .slZero a a' (hr _ _ h)
 | _, _, .mapNil => .mapNil
 | _, _, .map h => .map (hr _ _ h)
 | _, _, .chanNil => .chanNil
 | _, _, .func h k => .func (VRs.mono hr h) (VRs.mono hr k)
 | _, _, .nilFunc => .nilFunc
 | _, _, .iface h => .iface (VR.mono hr h)
 | _, _, .nilIface => .nilIface
 | _, _, .agg h => .agg (VRs.mono hr h)
 | _, _, .tuple h => .tuple (VRs.mono hr h)
theorem VRs.mono {ρ ρ' : Rho} (hr : ρ.le ρ') : ∀ {l l' : List Value}, VRs ρ l l' → VRs ρ' l l'
 | _, _, .nil => .nil
 | _, _, .cons h k => .cons (VR.mono hr h) (VRs.mono hr k)
end
theorem VRs.length {ρ : Rho} : ∀ {l l' : List Value}, VRs ρ l l' → l'.length = l.length
 | _, _, .nil => rfl
 | _, _, .cons _ k => by simp [VRs.length k]
theorem VRs.get {ρ : Rho} : ∀ {l l' : List Value}, VRs ρ l l' → ∀ {k : Nat} {v : Value}, l[k]? = some v → ∃ v', l'[k]? = some v' ∧ VR ρ v v'
 | _, _, .nil, k, v, h => by simp at h
 | _, _, .cons (v' := v') h0 r, 0, v, h => by simp at h; subst h; exact ⟨v', rfl, h0⟩
 | _, _, .cons h0 r, k + 1, v, h => by simp at h; simpa using VRs.get r h
theorem VRs.append {ρ : Rho} : ∀ {l l' m m' : List Value}, VRs ρ l l' → VRs ρ m m' → VRs ρ (l ++ m) (l' ++ m')
 | _, _, _, _, .nil, k => k
 | _, _, _, _, .cons h r, k => .cons h (VRs.append r k)
theorem VRs.of_get {ρ : Rho} : ∀ {l l' : List Value}, l'.length = l.length → (∀ (k : Nat) (v : Value), l[k]? = some v → ∃ v', l'[k]? = some v' ∧ VR ρ v v') → VRs ρ l l'
 | [], [], _, _ => .nil
 | [], _ :: _, hl, _ => by simp at hl
 | _ :: _, [], hl, _ => by simp at hl
 | x :: l, y :: l', hl, h => by
   obtain ⟨v', h1, h2⟩ := h 0 x rfl
   simp at h1
   subst h1
   exact .cons h2 (VRs.of_get (by simpa using hl) fun k v hk => by simpa using h (k + 1) v (by simpa using hk))
theorem VRs.drop {ρ : Rho} : ∀ {l l' : List Value} (n : Nat), VRs ρ l l' → VRs ρ (l.drop n) (l'.drop n)
 | _, _, 0, h => by simpa using h
 | _, _, n + 1, .nil => by simpa using VRs.nil
 | _, _, n + 1, .cons _ k => by simpa using VRs.drop n k
theorem VRs.take {ρ : Rho} : ∀ {l l' : List Value} (n : Nat), VRs ρ l l' → VRs ρ (l.take n) (l'.take n)
 | _, _, 0, h => by simpa using VRs.nil
 | _, _, n + 1, .nil => by simpa using VRs.nil
 | _, _, n + 1, .cons h k => by simpa using VRs.cons h (VRs.take n k)
theorem VR.oneCell {ρ : Rho} {v v' : Value} (h : VR ρ v v') : oneCell v' = oneCell v := by cases h <;> rfl
theorem oneCell_eq (v : Value) : oneCell v = v.oneCell' := by cases v <;> rfl
theorem VR.cells {ρ : Rho} {v v' : Value} (h : VR ρ v v') : VRs ρ v.cells.toList v'.cells.toList := by
 have h0 := h
 cases h with
 | agg h => exact h
 | _ => exact .cons h0 .nil
theorem plain_VR {ρ : Rho} : ∀ (n : Nat) (v : Value), plain n v = true → VR ρ v v := by
 intro n
 induction n with
 | zero =>
   intro v h
   cases v with
   | bool b => exact .bool b
   | int k n => exact .int k n
   | float k n => exact .float k n
   | complex k a b => exact .complex k a b
   | string s => exact .string s
   | pointer a => cases a with
     | none => exact .ptrNil
     | some a => simp [plain] at h
   | slice a n c => cases a with
     | none => cases n <;> cases c <;> first | exact .slNil | simp [plain] at h
     | some a => simp [plain] at h
   | map r => cases r with
     | none => exact .mapNil
     | some r => simp [plain] at h
   | chan r => cases r with
     | none => exact .chanNil
     | some r => simp [plain] at h
   | func => simp [plain] at h
   | nilFunc => exact .nilFunc
   | iface => simp [plain] at h
   | nilIface => exact .nilIface
   | agg => simp [plain] at h
   | tuple => simp [plain] at h
 | succ n ih =>
   have all : ∀ l : List Value, l.all (plain n) = true → VRs ρ l l := by
    intro l
    induction l with
    | nil => exact fun _ => .nil
    | cons x l ihl =>
      intro h
      simp only [List.all_cons, Bool.and_eq_true] at h
      exact .cons (ih x h.1) (ihl h.2)
   intro v h
   cases v with
   | bool b => exact .bool b
   | int k n => exact .int k n
   | float k n => exact .float k n
   | complex k a b => exact .complex k a b
   | string s => exact .string s
   | pointer a => cases a with
     | none => exact .ptrNil
     | some a => simp [plain] at h
   | slice a n c => cases a with
     | none => cases n <;> cases c <;> first | exact .slNil | simp [plain] at h
     | some a => simp [plain] at h
   | map r => cases r with
     | none => exact .mapNil
     | some r => simp [plain] at h
   | chan r => cases r with
     | none => exact .chanNil
     | some r => simp [plain] at h
   | func => simp [plain] at h
   | nilFunc => exact .nilFunc
   | iface t v => exact .iface (ih v (by simpa [plain] using h))
   | nilIface => exact .nilIface
   | agg c => exact .agg (all _ (by simpa [plain] using h))
   | tuple c => exact .tuple (all _ (by simpa [plain] using h))
inductive MRs (ρ : Rho) : List MapEntry → List MapEntry → Prop
 | nil : MRs ρ [] []
 | cons {e e' : MapEntry} {l l' : List MapEntry} (hk : VR ρ e.key e'.key) (hv : VR ρ e.val e'.val) (hb : e'.born = e.born) (k : MRs ρ l l') : MRs ρ (e :: l) (e' :: l')
theorem MRs.mono {ρ ρ' : Rho} (hr : ρ.le ρ') : ∀ {l l' : List MapEntry}, MRs ρ l l' → MRs ρ' l l'
 | _, _, .nil => .nil
 | _, _, .cons hk hv hb k => .cons (hk.mono hr) (hv.mono hr) hb (MRs.mono hr k)
def RowR (P : Program) (ρ : Rho) (i : Img) (r : Row) (arr : Array Value) (e : TypeId) (fr : Nat × Nat) : Prop :=
 e = r.e ∧ i.s + r.c.length ≤ arr.size ∧ i.m = arr.size - i.s ∧
 (∀ k v, r.c[k]? = some v → ∃ v', arr[i.s + k]? = some v' ∧ VR ρ v v') ∧
 (∀ k, k < arr.size → (fr.1 ≤ k && k < fr.2) = false) ∧
 (r.grown = false → i.ex = true ∧ fr = (0, 0)) ∧
 (i.ex = false → P.cellsOf r.e = i.z)
def ObjR (P : Program) (ρ : Rho) (i : Img) : CObj → Obj → Prop
 | .cells r, .cells arr e fr => RowR P ρ i r arr e fr
 | .map es k, .map es' k' => MRs ρ es es'.toList ∧ k' = k
 | .sIter s p, .stringIter s' p' => s' = s ∧ p' = p ∧ i.s = 0
 | .mIter m since seen st, .mapIter m' since' seen' st' => (match m, m' with
  | none, none => True
  | some m, some m' => ∃ j, ρ m = some j ∧ m' = j.b
  | _, _ => False) ∧ since' = since ∧ seen'.toList = seen ∧ st' = st ∧ i.s = 0
 | _, _ => False
def Hp.alive (h : Hp) (b : Nat) : Prop := ∀ r, h.objs.get b = some (.cells r) → h.row b = some r
def Together (h : Hp) (b d : Nat) (i j : Img) : Prop :=
 ∃ r q, h.objs.get b = some (.cells r) ∧ h.objs.get d = some (.cells q) ∧ r.fam = q.fam ∧ r.fam ≠ 0 ∧ i.s + q.base = j.s + r.base
structure Bs where
 n : Nat
 g : Nat → Prop
instance : Coe Bs Nat := ⟨Bs.n⟩
structure HR (P : Program) (ρ : Rho) (N : Bs) (h : Hp) (w : World) : Prop where
 obj : ∀ b o i, h.objs.get b = some o → h.alive b → ρ b = some i → ∃ o', w.heap[i.b]? = some o' ∧ ObjR P ρ i o o'
 dom : ∀ b i, ρ b = some i → b < h.next
 lo : ∀ b i, ρ b = some i → (h.base ≤ b → N.n ≤ i.b) ∧ i.b < w.heap.size
 inj : ∀ b d i j, ρ b = some i → ρ d = some j → b ≠ d → i.b = j.b → Together h b d i j
 famlt : ∀ b r, h.objs.get b = some (.cells r) → r.fam < h.nfam
 mem : ∀ f l m, h.fams.get f = some l → m ∈ l → f < h.nfam → f ≠ 0 → ∃ q, h.objs.get m.b = some (.cells q) ∧ q.fam = f ∧ m.lo = q.base ∧ m.hi = q.base + q.c.length
 cover : ∀ b o, h.objs.get b = some o → b < h.next
 nf0 : 0 < h.nfam
 base : N.n ≤ w.heap.size
 gho : ∀ b, N.g b → ρ b = none ∧ b < h.next
 bn : h.base ≤ N.n
 rid : ∀ b, b < h.base → ρ b = some ⟨b, 0, 0, 0, true⟩
 low : ∀ b o, h.objs.get b = some o → h.base ≤ b
 rom : ∀ b k v, b < h.base → h.ro b k = some v → ∃ v', w.cell? ⟨b, k, none⟩ = some v' ∧ VR ρ v v'
theorem ro_below {n : Nat} {w w1 : World} (B : Below n w w1) {b k : Nat} (hb : b < n) : w1.cell? ⟨b, k, none⟩ = w.cell? ⟨b, k, none⟩ := by
 unfold World.cell?
 rw [B.block b hb]
theorem ObjR.mono {P : Program} {ρ ρ' : Rho} (hr : ρ.le ρ') {i : Img} {o : CObj} {o' : Obj} (h : ObjR P ρ i o o') : ObjR P ρ' i o o' := by
 cases o <;> cases o' <;> simp only [ObjR] at h ⊢ <;> try exact h
 · obtain ⟨h1, h2, h3, h4, h5, h6⟩ := h
   exact ⟨h1, h2, h3, fun k v hk => let ⟨v', a, b⟩ := h4 k v hk; ⟨v', a, b.mono hr⟩, h5, h6⟩
 · exact ⟨h.1.mono hr, h.2⟩
 · rename_i m since seen st m' since' seen' st'
   refine ⟨?_, h.2⟩
   have h1 := h.1
   cases m <;> cases m' <;> simp only at h1 ⊢
   obtain ⟨j, hj, e⟩ := h1
   exact ⟨j, hr _ _ hj, e⟩
theorem HR.drewn {P : Program} {ρ : Rho} {N : Bs} {h : Hp} {w : World} (H : HR P ρ N h w) (n : Nat) : HR P ρ N h { w with drawn := n } :=
 ⟨H.obj, H.dom, H.lo, H.inj, H.famlt, H.mem, H.cover, H.nf0, H.base, H.gho, H.bn, H.rid, H.low, H.rom⟩
theorem HR.row {P : Program} {ρ : Rho} {N : Bs} {h : Hp} {w : World} (H : HR P ρ N h w) {b : Nat} {r : Row} (hr : h.row b = some r) {i : Img} (hi : ρ b = some i) :
  ∃ arr e fr, w.heap[i.b]? = some (.cells arr e fr) ∧ RowR P ρ i r arr e fr ∧ h.objs.get b = some (.cells r) := by
 have hget : h.objs.get b = some (.cells r) := by
  unfold Hp.row at hr
  split at hr
  · rename_i q hq
    rw [hq]
    split at hr
    · injection hr with hr; rw [hr]
    · split at hr
      · split at hr
        · injection hr with hr; rw [hr]
        · cases hr
      · cases hr
  · cases hr
 obtain ⟨o', ho, hR⟩ := H.obj b _ i hget (fun q hq => by rw [hget] at hq; injection hq with hq; injection hq with hq; rw [← hq]; exact hr) hi
 cases o' <;> simp only [ObjR] at hR
 exact ⟨_, _, _, ho, hR, hget⟩
theorem HR.map? {P : Program} {ρ : Rho} {N : Bs} {h : Hp} {w : World} (H : HR P ρ N h w) {b : Nat} {es : List MapEntry} {k : Nat} (hr : h.map? b = some (es, k)) {i : Img} (hi : ρ b = some i) :
  ∃ es', w.heap[i.b]? = some (.map es' k) ∧ MRs ρ es es'.toList ∧ h.objs.get b = some (.map es k) := by
 have hget : h.objs.get b = some (.map es k) := by
  unfold Hp.map? at hr
  split at hr
  · rename_i es' k' hq
    injection hr with hr
    injection hr with h1 h2
    rw [hq, h1, h2]
  · cases hr
 obtain ⟨o', ho, hR⟩ := H.obj b _ i hget (fun q hq => by rw [hget] at hq; cases hq) hi
 cases o' <;> simp only [ObjR] at hR
 obtain ⟨h1, rfl⟩ := hR
 exact ⟨_, ho, h1, hget⟩
end Go.Ev
end
section
namespace Go.Ev
open Go.RowKit
theorem splice_spec : ∀ (c : List Value) (o : Nat) (vs c' : List Value), splice c o vs = some c' →
  c'.length = c.length ∧ o + vs.length ≤ c.length ∧ ∀ j, c'[j]? = if o ≤ j ∧ j < o + vs.length then vs[j - o]? else c[j]?
 | c, 0, [], c', h => by
   simp only [splice] at h
   injection h with h
   subst h
   exact ⟨rfl, by simp, fun j => by rw [if_neg (by simp)]⟩
 | x :: c, 0, v :: vs, c', h => by
   simp only [splice] at h
   split at h
   · rename_i r hr
     injection h with h
     subst h
     obtain ⟨h1, h2, h3⟩ := splice_spec c 0 vs r hr
     refine ⟨by simp [h1], by simpa using h2, fun j => ?_⟩
     cases j with
     | zero => simp
     | succ j =>
       have h4 := h3 j
       simp only [List.getElem?_cons_succ, h4]
       simp
   · cases h
 | x :: c, o + 1, vs, c', h => by
   simp only [splice] at h
   split at h
   · rename_i r hr
     injection h with h
     subst h
     obtain ⟨h1, h2, h3⟩ := splice_spec c o vs r hr
     refine ⟨by simp [h1], by simp; omega, fun j => ?_⟩
     cases j with
     | zero => simp
     | succ j =>
       have h4 := h3 j
       simp only [List.getElem?_cons_succ, h4]
       by_cases hj : o ≤ j ∧ j < o + vs.length
       · rw [if_pos hj, if_pos (by omega), show j + 1 - (o + 1) = j - o by omega]
       · rw [if_neg hj, if_neg (by omega)]
   · cases h
 | [], 0, _ :: _, c', h => by simp [splice] at h
 | [], _ + 1, _, c', h => by simp [splice] at h
theorem takeN_spec : ∀ (c : List Value) (n : Nat) (l : List Value), takeN c n = some l → l = c.take n ∧ n ≤ c.length
 | c, 0, l, h => by
   cases c <;> simp [takeN] at h <;> simp [h]
 | [], n + 1, l, h => by simp [takeN] at h
 | x :: c, n + 1, l, h => by
   simp only [takeN] at h
   split at h
   · rename_i r hr
     injection h with h
     subst h
     obtain ⟨h1, h2⟩ := takeN_spec c n r hr
     exact ⟨by simp [h1], by simpa using h2⟩
   · cases h
theorem AR.fn {ρ : Rho} {a a' : Addr} {i : Img} (h : AR ρ a a' i) : a' = ⟨i.b, i.s + a.off, none⟩ := h.2.2
theorem AR.add {ρ : Rho} {a a' : Addr} {i : Img} (h : AR ρ a a' i) (n : Nat) : AR ρ (a.add n) (a'.add n) i := by
 obtain ⟨h1, h2, rfl⟩ := h
 unfold Addr.add
 by_cases hn : n = 0
 · simp only [hn, if_true]
   exact ⟨h1, h2, rfl⟩
 · simp only [hn, if_false]
   exact ⟨rfl, h2, by simp [Nat.add_assoc]⟩
theorem add_block (a : Addr) (n : Nat) : (a.add n).block = a.block := by unfold Addr.add; split <;> rfl
theorem add_off (a : Addr) (n : Nat) : (a.add n).off = a.off + n := by unfold Addr.add; split <;> simp_all
variable {P : Program} {ρ : Rho} {N : Bs} {h : Hp} {w : World}
theorem HR.load (H : HR P ρ N h w) {a a' : Addr} {i : Img} (ha : AR ρ a a' i) {v : Value} (hv : h.load a = some v) : ∃ v', w.cell? a' = some v' ∧ VR ρ v v' := by
 unfold Hp.load at hv
 split at hv
 · cases hv
 · split at hv
   · rename_i hb
     have hb' : a.block < h.base := by simpa using hb
     obtain ⟨v', e1, e2⟩ := H.rom _ _ _ hb' hv
     refine ⟨v', ?_, e2⟩
     have h2 := ha.2.1
     rw [H.rid _ hb'] at h2
     injection h2 with h2
     rw [ha.fn, ← h2, Nat.zero_add]
     exact e1
   split at hv
   · rename_i r hr
     obtain ⟨arr, e, fr, hw, hR, _⟩ := H.row hr ha.2.1
     obtain ⟨v', h1, h2⟩ := hR.2.2.2.1 _ _ hv
     refine ⟨v', ?_, h2⟩
     rw [ha.fn]
     simp [World.cell?, hw, h1]
   · cases hv
theorem run_load_cell {a : Addr} {v : Value} (hc : w.cell? a = some v) : (load a).run P w = .ok v w := by
 rw [run_load, hc]
theorem loadCellsFrom_run {a : Addr} (l : List Value) : ∀ (i : Nat) (acc : Array Value), (∀ k v, l[k]? = some v → w.cell? (a.add (i + k)) = some v) →
  (loadCellsFrom a i l.length acc).run P w = .ok (acc ++ l.toArray) w := by
 induction l with
 | nil => intro i acc _; simp [loadCellsFrom]
 | cons v l ih =>
   intro i acc hc
   have h0 := hc 0 v rfl
   simp only [Nat.add_zero] at h0
   simp only [List.length_cons, loadCellsFrom, Sem.run_bind, run_load_cell h0, Result.andThen_ok]
   rw [ih (i + 1) (acc.push v) (fun k u hk => by
    have := hc (k + 1) u (by simpa using hk)
    rwa [show i + (k + 1) = i + 1 + k by omega] at this)]
   simp
theorem roTake_spec {f : Nat → Option Value} : ∀ (n o : Nat) {l : List Value}, roTake f o n = some l → l.length = n ∧ ∀ k v, l[k]? = some v → f (o + k) = some v
 | 0, o, l, h => by
   simp only [roTake, Option.some.injEq] at h
   subst h
   exact ⟨rfl, fun k v hk => by simp at hk⟩
 | n + 1, o, l, h => by
   simp only [roTake] at h
   split at h
   · rename_i v l0 h1 h2
     injection h with h
     subst h
     obtain ⟨e1, e2⟩ := roTake_spec n (o + 1) h2
     refine ⟨by simp [e1], fun k u hk => ?_⟩
     cases k with
     | zero => simp at hk; subst hk; exact h1
     | succ k => rw [show o + (k + 1) = o + 1 + k by omega]; exact e2 k u (by simpa using hk)
   · cases h
theorem ro_list {Q : Nat → Value → Prop} {R : Value → Value → Prop} : ∀ (l : List Value), (∀ (k : Nat) (v : Value), l[k]? = some v → ∃ v', Q k v' ∧ R v v') → ∃ l' : List Value, l'.length = l.length ∧ (∀ (k : Nat) (v : Value), l'[k]? = some v → Q k v) ∧ ∀ (k : Nat) (v : Value), l[k]? = some v → ∃ v', l'[k]? = some v' ∧ R v v'
 | [], _ => ⟨[], rfl, fun k v h => by simp at h, fun k v h => by simp at h⟩
 | v :: l, h => by
   obtain ⟨v', a1, a2⟩ := h 0 v rfl
   obtain ⟨l', b1, b2, b3⟩ := ro_list (Q := fun k => Q (k + 1)) l (fun k u hk => h (k + 1) u (by simpa using hk))
   refine ⟨v' :: l', by simp [b1], fun k u hk => ?_, fun k u hk => ?_⟩
   · cases k with
     | zero => simp at hk; subst hk; exact a1
     | succ k => exact b2 k u (by simpa using hk)
   · cases k with
     | zero => simp at hk; subst hk; exact ⟨v', rfl, a2⟩
     | succ k => simpa using b3 k u (by simpa using hk)
theorem HR.loads (H : HR P ρ N h w) {a a' : Addr} {n : Nat} (ha : n = 0 ∨ ∃ i, AR ρ a a' i) {l : List Value} (hv : h.loads a n = some l) :
  ∃ l' : Array Value, (loadCells a' n).run P w = .ok l' w ∧ VRs ρ l l'.toList ∧ l.length = n := by
 cases n with
 | zero =>
   simp only [Hp.loads, Option.some.injEq] at hv
   subst hv
   exact ⟨#[], by simp [loadCells, loadCellsFrom], .nil, rfl⟩
 | succ n =>
   obtain ⟨i, ha⟩ := ha.resolve_left (by simp)
   simp only [Hp.loads] at hv
   split at hv
   · cases hv
   · split at hv
     · rename_i hb
       have hb' : a.block < h.base := by simpa using hb
       obtain ⟨e1, e2⟩ := roTake_spec _ _ hv
       have h2 := ha.2.1
       rw [H.rid _ hb'] at h2
       injection h2 with h2
       have ha' : a' = ⟨a.block, a.off, none⟩ := by rw [ha.fn, ← h2, Nat.zero_add]
       obtain ⟨l', l1, l2, l3⟩ := ro_list (Q := fun k v => w.cell? ⟨a.block, a.off + k, none⟩ = some v) (R := VR ρ) l (fun k v hk => by
        obtain ⟨v', q1, q2⟩ := H.rom _ _ _ hb' (e2 k v hk)
        exact ⟨v', q1, q2⟩)
       refine ⟨l'.toArray, ?_, VRs.of_get l1 l3, e1⟩
       have := loadCellsFrom_run (P := P) (w := w) (a := a') l' 0 #[] (fun k v hk => by
        rw [(ha.add (0 + k)).fn, ← h2]
        simp only [add_off, Nat.zero_add]
        exact l2 k v hk)
       rw [l1, e1] at this
       simpa [loadCells] using this
     split at hv
     · rename_i r hr
       obtain ⟨arr, e, fr, hw, hR, _⟩ := H.row hr ha.2.1
       obtain ⟨h1, h2⟩ := takeN_spec _ _ _ hv
       have hlen : l.length = n + 1 := by rw [h1, List.length_take]; omega
       have hle : a.off + (n + 1) ≤ r.c.length := by simp only [List.length_drop] at h2; omega
       have hle' : i.s + a.off + (n + 1) ≤ arr.size := by have := hR.2.1; omega
       let l' : List Value := (arr.toList.drop (i.s + a.off)).take (n + 1)
       have hl' : l'.length = n + 1 := by simp [l']; omega
       have hg : ∀ k v, l'[k]? = some v → arr[i.s + a.off + k]? = some v := by
        intro k v hk
        simp only [l', List.getElem?_take, List.getElem?_drop] at hk
        split at hk
        · simpa using hk
        · cases hk
       refine ⟨l'.toArray, ?_, VRs.of_get (by simp [hl', hlen]) (fun k v hk => ?_), hlen⟩
       · have := loadCellsFrom_run (P := P) (w := w) (a := a') l' 0 #[] (fun k v hk => by
          rw [(ha.add (0 + k)).fn]
          simp only [World.cell?, hw, add_off]
          have := hg k v hk
          simpa [Nat.add_assoc] using this)
         rw [hl'] at this
         simpa [loadCells] using this
       · have hk' : r.c[a.off + k]? = some v := by
          rw [h1, List.getElem?_take] at hk
          split at hk
          · simpa using hk
          · cases hk
         obtain ⟨v', h3, h4⟩ := hR.2.2.2.1 _ _ hk'
         have hkn : k < n + 1 := by
          rcases Nat.lt_or_ge k (n + 1) with h | h
          · exact h
          · rw [List.getElem?_eq_none (by omega)] at hk; cases hk
         refine ⟨v', ?_, h4⟩
         simp only [l', List.getElem?_take, List.getElem?_drop, hkn, if_true]
         simpa [Nat.add_assoc] using h3
     · cases hv
def over (arr : Array Value) (k : Nat) : List Value → Array Value
 | [] => arr
 | v :: vs => over (arr.setIfInBounds k v) (k + 1) vs
theorem over_size : ∀ (vs : List Value) (arr : Array Value) (k : Nat), (over arr k vs).size = arr.size
 | [], _, _ => rfl
 | v :: vs, arr, k => by simp [over, over_size vs]
theorem over_get : ∀ (vs : List Value) (arr : Array Value) (k : Nat), k + vs.length ≤ arr.size → ∀ j, (over arr k vs)[j]? = if k ≤ j ∧ j < k + vs.length then vs[j - k]? else arr[j]?
 | [], arr, k, _, j => by rw [if_neg (by simp)]; rfl
 | v :: vs, arr, k, hk, j => by
   simp only [List.length_cons] at hk
   rw [over, over_get vs _ _ (by simp; omega)]
   by_cases h0 : j = k
   · subst h0
     rw [if_neg (by omega), if_pos (by simp)]
     simp only [Nat.sub_self, List.getElem?_cons_zero]
     rw [Array.getElem?_setIfInBounds_self_of_lt (by omega)]
   · by_cases h1 : k + 1 ≤ j ∧ j < k + 1 + vs.length
     · rw [if_pos h1, if_pos (by simp; omega), show j - k = (j - (k + 1)) + 1 by omega, List.getElem?_cons_succ]
     · rw [if_neg h1, if_neg (by simp; omega), Array.getElem?_setIfInBounds_ne (by omega)]
def World.putBlock (w : World) (b : Nat) (o : Obj) : World := { w with heap := w.heap.setIfInBounds b o }
theorem putBlock_get (w : World) (b : Nat) (o : Obj) (k : Nat) (hb : b < w.heap.size) : (World.putBlock w b o).heap[k]? = if k = b then some o else w.heap[k]? := by
 unfold World.putBlock
 simp only []
 by_cases hk : k = b
 · subst hk; rw [if_pos rfl, Array.getElem?_setIfInBounds_self_of_lt hb]
 · rw [if_neg hk, Array.getElem?_setIfInBounds_ne (fun e => hk e.symm)]
theorem putBlock_size (w : World) (b : Nat) (o : Obj) : (World.putBlock w b o).heap.size = w.heap.size := by simp [World.putBlock]
theorem putBlock_same (w : World) (b : Nat) (o : Obj) (h : w.heap[b]? = some o) : World.putBlock w b o = w := by
 obtain ⟨hb, he⟩ := Array.getElem?_eq_some_iff.1 h
 unfold World.putBlock
 have : w.heap.setIfInBounds b o = w.heap := by
  apply Array.ext
  · simp
  · intro k h1 h2
    by_cases hk : b = k
    · subst hk; simp [he]
    · rw [Array.getElem_setIfInBounds (by simpa using h1), if_neg hk]
 rw [this]
theorem setCell_put {w : World} {b : Nat} {arr : Array Value} {e : TypeId} {fr : Nat × Nat} (hb : w.heap[b]? = some (.cells arr e fr)) (o : Nat) (v : Value) :
  w.setCell ⟨b, o, none⟩ v = World.putBlock w b (.cells (arr.setIfInBounds o v) e fr) := by
 obtain ⟨hlt, he⟩ := Array.getElem?_eq_some_iff.1 hb
 unfold World.setCell World.putBlock
 congr 1
 apply Array.ext
 · simp
 · intro k h1 h2
   by_cases hk : b = k
   · subst hk
     simp [Array.getElem_modify, he]
   · rw [Array.getElem_setIfInBounds (by simpa using h2), if_neg hk]
     simp [Array.getElem_modify, hk]
theorem storeCells_run {b : Nat} {e : TypeId} {fr : Nat × Nat} (off : Nat) : ∀ (vs : List Value) (i : Nat) (w : World) (arr : Array Value), w.heap[b]? = some (.cells arr e fr) →
  (∀ k, k < arr.size → (fr.1 ≤ k && k < fr.2) = false) → off + i + vs.length ≤ arr.size → vs.all oneCell = true →
  (storeCells ⟨b, off, none⟩ vs i).run P w = .ok () (World.putBlock w b (.cells (over arr (off + i) vs) e fr))
 | [], i, w, arr, hb, _, _, _ => by
   simp only [storeCells, over, Sem.run_pure]
   rw [putBlock_same w b _ hb]
 | v :: vs, i, w, arr, hb, hf, hl, hone => by
   simp only [List.length_cons] at hl
   simp only [List.all_cons, Bool.and_eq_true] at hone
   have hlt : b < w.heap.size := (Array.getElem?_eq_some_iff.1 hb).1
   have ha : (⟨b, off, none⟩ : Addr).add i = ⟨b, off + i, none⟩ := by unfold Addr.add; split <;> simp_all
   have hc : w.cell? ⟨b, off + i, none⟩ = some (arr[off + i]'(by omega)) := by
    simp [World.cell?, hb, Array.getElem?_eq_getElem (show off + i < arr.size by omega)]
   have hfz : w.frozen? ⟨b, off + i, none⟩ = false := by
    simp only [World.frozen?, hb]
    exact hf _ (by omega)
   simp only [storeCells, ha, Sem.run_bind, run_store P w _ _ _ (by rw [← oneCell_eq]; exact hone.1), hc, hfz, Bool.false_eq_true, if_false, Result.andThen_ok]
   rw [setCell_put hb]
   rw [storeCells_run off vs (i + 1) _ (arr.setIfInBounds (off + i) v) (by rw [putBlock_get _ _ _ _ hlt, if_pos rfl]) (fun k hk => hf k (by simpa using hk)) (by simp; omega) hone.2]
   simp only [over]
   unfold World.putBlock
   simp [Nat.add_assoc, Array.setIfInBounds_setIfInBounds]
theorem kill_sub {l : List Mem} {b lo hi : Nat} {m : Mem} (h : m ∈ kill l b lo hi) : m ∈ l ∧ (m.b = b ∨ hi ≤ m.lo ∨ m.hi ≤ lo) := by
 unfold kill at h
 rw [List.mem_filter] at h
 refine ⟨h.1, ?_⟩
 have h2 := h.2
 simp only [Bool.or_eq_true, Nat.ble_eq] at h2
 rcases h2 with (h2 | h2) | h2
 · exact .inl (by simpa using h2)
 · exact .inr (.inl h2)
 · exact .inr (.inr h2)
theorem row_get {h : Hp} {b : Nat} {r : Row} (hr : h.row b = some r) : h.objs.get b = some (.cells r) ∧ (r.fam = 0 ∨ ∃ l, h.fams.get r.fam = some l ∧ ∃ m ∈ l, m.b = b) := by
 unfold Hp.row at hr
 split at hr
 · rename_i q hq
   split at hr
   · rename_i h0
     injection hr with hr
     subst hr
     exact ⟨hq, .inl h0⟩
   · rename_i f h0
     split at hr
     · rename_i l hl
       split at hr
       · rename_i ha
         injection hr with hr
         subst hr
         refine ⟨hq, .inr ⟨l, by rw [h0]; exact hl, ?_⟩⟩
         rw [List.any_eq_true] at ha
         obtain ⟨m, hm, he⟩ := ha
         exact ⟨m, hm, by simpa using he⟩
       · cases hr
     · cases hr
 · cases hr
theorem row_mk {h : Hp} {b : Nat} {r : Row} (hg : h.objs.get b = some (.cells r)) (hf : r.fam = 0 ∨ ∃ l, h.fams.get r.fam = some l ∧ ∃ m ∈ l, m.b = b) : h.row b = some r := by
 unfold Hp.row
 rw [hg]
 simp only []
 split
 · rfl
 · rename_i f h0
   obtain ⟨l, hl, m, hm, he⟩ := hf.resolve_left (by omega)
   rw [h0] at hl
   rw [hl]
   simp only []
   have : (l.any fun m => Nat.beq m.b b) = true := List.any_eq_true.2 ⟨m, hm, by simpa using he⟩
   rw [this]
end Go.Ev
end
section
namespace Go.Ev
open Go.RowKit
variable {P : Program} {ρ : Rho} {N : Bs} {h : Hp} {w : World}
theorem HR.rom_next (H : HR P ρ N h w) {ρ1 : Rho} (hle : ρ.le ρ1) {w1 : World} (B : Below N w w1) : ∀ b k v, b < h.base → h.ro b k = some v → ∃ v', w1.cell? ⟨b, k, none⟩ = some v' ∧ VR ρ1 v v' := fun b k v hb hv =>
 let ⟨v', e, r⟩ := H.rom b k v hb hv
 ⟨v', (ro_below B (Nat.lt_of_lt_of_le hb H.bn)).trans e, r.mono hle⟩
theorem below_put {b : Nat} {o : Obj} (hb : N.n ≤ b) : Below N w (World.putBlock w b o) :=
 ⟨rfl, rfl, rfl, by rw [putBlock_size]; exact Nat.le_refl _, fun k hk => by
  unfold World.putBlock
  rw [Array.getElem?_setIfInBounds_ne (by omega)]⟩
theorem HR.put_alone (H : HR P ρ N h w) {b : Nat} {i : Img} (hi : ρ b = some i) {o0 o : CObj} {o' : Obj} (hget : h.objs.get b = some o0)
  (hno : ∀ r, o0 ≠ .cells r) (hno' : ∀ r, o ≠ .cells r) (hR : ObjR P ρ i o o') : HR P ρ N (h.put b o) (World.putBlock w i.b o') ∧ Below N w (World.putBlock w i.b o') := by
 have hlo := H.lo b i hi
 have hobjs : ∀ d, (h.put b o).objs.get d = if d = b then some o else h.objs.get d := fun d => Tr.get_put _ _ _ _
 refine ⟨⟨?_, H.dom, fun d j hj => by rw [putBlock_size]; exact H.lo d j hj, ?_, ?_, ?_, ?_, H.nf0, by rw [putBlock_size]; exact H.base, H.gho, H.bn, H.rid, fun d q hq => ?_, H.rom_next (Rho.le_refl _) (below_put (hlo.1 (H.low _ _ hget)))⟩, below_put (hlo.1 (H.low _ _ hget))⟩
 · intro d q j hq hal hj
   rw [hobjs] at hq
   by_cases hd : d = b
   · subst hd
     rw [if_pos rfl] at hq
     injection hq with hq
     subst hq
     rw [hi] at hj
     injection hj with hj
     subst hj
     exact ⟨o', by rw [putBlock_get _ _ _ _ hlo.2, if_pos rfl], hR⟩
   · rw [if_neg hd] at hq
     have hal' : h.alive d := by
      intro r hr
      have := hal r (by rw [hobjs, if_neg hd]; exact hr)
      obtain ⟨h1, h2⟩ := row_get this
      rw [hobjs, if_neg hd] at h1
      exact row_mk h1 h2
     obtain ⟨q', h1, h2⟩ := H.obj d q j hq hal' hj
     by_cases e : j.b = i.b
     · obtain ⟨r, _, h3, _⟩ := H.inj b d i j hi hj (fun e => hd e.symm) e.symm
       rw [hget] at h3
       injection h3 with h3
       exact absurd h3 (hno r)
     · exact ⟨q', by rw [putBlock_get _ _ _ _ hlo.2, if_neg e]; exact h1, h2⟩
 · intro d f j k hj hk hne e
   obtain ⟨r, q, h1, h2, h3⟩ := H.inj d f j k hj hk hne e
   refine ⟨r, q, ?_, ?_, h3⟩
   · rw [hobjs, if_neg (fun e => by subst e; rw [hget] at h1; injection h1 with h1; exact hno r h1)]; exact h1
   · rw [hobjs, if_neg (fun e => by subst e; rw [hget] at h2; injection h2 with h2; exact hno q h2)]; exact h2
 · intro d r hr
   rw [hobjs] at hr
   by_cases hd : d = b
   · subst hd; rw [if_pos rfl] at hr; injection hr with hr; exact absurd hr (hno' r)
   · rw [if_neg hd] at hr; exact H.famlt d r hr
 · intro f l m hl hm hf hf0
   obtain ⟨q, h1, h2⟩ := H.mem f l m hl hm hf hf0
   refine ⟨q, ?_, h2⟩
   rw [hobjs, if_neg (fun e => by rw [e] at h1; rw [hget] at h1; injection h1 with h1; exact hno q h1)]
   exact h1
 · intro d q hq
   rw [hobjs] at hq
   by_cases hd : d = b
   · rw [hd]; exact H.cover b _ hget
   · rw [if_neg hd] at hq; exact H.cover d q hq
 · rw [hobjs] at hq
   by_cases hd : d = b
   · rw [hd]; exact H.low b _ hget
   · rw [if_neg hd] at hq; exact H.low d q hq
theorem HR.stores (H : HR P ρ N h w) {a a' : Addr} {vs vs' : List Value} (ha : vs = [] ∨ ∃ i, AR ρ a a' i) (hvs : VRs ρ vs vs') {h1 : Hp} (hs : h.stores a vs = some h1) :
  ∃ w1, (storeCells a' vs' 0).run P w = .ok () w1 ∧ HR P ρ N h1 w1 ∧ Below N w w1 := by
 cases hvs with
 | nil =>
   simp only [Hp.stores, Option.some.injEq] at hs
   subst hs
   exact ⟨w, by simp [storeCells], H, Below.refl _ _⟩
 | @cons v v' l l' hv hl =>
   obtain ⟨i, ha⟩ := ha.resolve_left (by simp)
   simp only [Hp.stores] at hs
   split at hs
   · cases hs
   split at hs
   · cases hs
   rename_i hone
   split at hs
   · cases hs
   rename_i r hr
   split at hs
   · cases hs
   rename_i c hc
   have hi := ha.2.1
   obtain ⟨arr, e, fr, hw, hR, hget⟩ := H.row hr hi
   obtain ⟨hgr, hfam⟩ := row_get hr
   have hlo := H.lo _ i hi
   obtain ⟨c1, c2, c3⟩ := splice_spec _ _ _ _ hc
   have hvl : (v' :: l').length = (v :: l).length := VRs.length (.cons hv hl)
   have hone' : (v' :: l').all oneCell = true := by
    have aux : ∀ {x y : List Value}, VRs ρ x y → x.all oneCell = true → y.all oneCell = true := by
     intro x y hxy
     induction x generalizing y with
     | nil => cases hxy; exact fun _ => rfl
     | cons p x ih =>
       cases hxy with
       | cons hp hx =>
         intro hh
         simp only [List.all_cons, Bool.and_eq_true] at hh ⊢
         exact ⟨by rw [hp.oneCell]; exact hh.1, ih hx hh.2⟩
    exact aux (.cons hv hl) hone
   have hin : i.s + a.off + (v' :: l').length ≤ arr.size := by have := hR.2.1; omega
   have hrun := storeCells_run (P := P) (b := i.b) (e := e) (fr := fr) (i.s + a.off) (v' :: l') 0 w arr hw hR.2.2.2.2.1 (by omega) hone'
   rw [Nat.add_zero] at hrun
   rw [← ha.fn] at hrun
   have hBP := fun o => below_put (w := w) (o := o) (hlo.1 (H.low _ _ hget))
   refine ⟨_, hrun, ?_, hBP _⟩
   have hRow : RowR P ρ i { r with c := c } (over arr (i.s + a.off) (v' :: l')) e fr := by
    refine ⟨hR.1, by rw [over_size]; simp only [c1]; exact hR.2.1, by rw [over_size]; exact hR.2.2.1, ?_, by rw [over_size]; exact hR.2.2.2.2.1, hR.2.2.2.2.2⟩
    intro k u hk
    have hk' : c[k]? = some u := hk
    rw [c3] at hk'
    rw [over_get _ _ _ hin]
    by_cases hkr : a.off ≤ k ∧ k < a.off + (v :: l).length
    · rw [if_pos hkr] at hk'
      rw [if_pos (by omega), show i.s + k - (i.s + a.off) = k - a.off by omega]
      exact VRs.get (.cons hv hl) hk'
    · rw [if_neg hkr] at hk'
      rw [if_neg (by omega)]
      exact hR.2.2.2.1 k u hk'
   have key : ∀ h1 : Hp, h1.objs = (h.put a.block (.cells { r with c := c })).objs → h1.next = h.next → h1.nfam = h.nfam → h1.base = h.base → h1.ro = h.ro →
     (∀ f l2, h1.fams.get f = some l2 → f < h.nfam → ∃ l1, h.fams.get f = some l1 ∧ (∀ m ∈ l2, m ∈ l1) ∧ (f = r.fam → f ≠ 0 → ∀ m ∈ l2, m.b = a.block ∨ r.base + a.off + (v :: l).length ≤ m.lo ∨ m.hi ≤ r.base + a.off)) →
     HR P ρ N h1 (World.putBlock w i.b (.cells (over arr (i.s + a.off) (v' :: l')) e fr)) := by
    intro h1 e1 e2 e3 e4 e5 hfams
    have hobjs : ∀ d, h1.objs.get d = if d = a.block then some (.cells { r with c := c }) else h.objs.get d := fun d => by rw [e1]; exact Tr.get_put _ _ _ _
    refine ⟨?_, fun d j hj => by rw [e2]; exact H.dom d j hj, fun d j hj => by rw [putBlock_size, e4]; exact H.lo d j hj, ?_, ?_, ?_, ?_, by rw [e3]; exact H.nf0, by rw [putBlock_size]; exact H.base, fun b hb => by rw [e2]; exact H.gho b hb, by rw [e4]; exact H.bn, by rw [e4]; exact H.rid, fun d q hq => ?_, by rw [e4, e5]; exact H.rom_next (Rho.le_refl _) (hBP _)⟩
    · intro d q j hq hal hj
      rw [hobjs] at hq
      by_cases hd : d = a.block
      · subst hd
        rw [if_pos rfl] at hq
        injection hq with hq
        subst hq
        rw [hi] at hj
        injection hj with hj
        subst hj
        exact ⟨.cells (over arr (i.s + a.off) (v' :: l')) e fr, by rw [putBlock_get _ _ _ _ hlo.2, if_pos rfl], hRow⟩
      · rw [if_neg hd] at hq
        have hal2 : ∀ q', h.objs.get d = some (.cells q') → q'.fam = 0 ∨ ∃ l2, h1.fams.get q'.fam = some l2 ∧ ∃ m ∈ l2, m.b = d := by
         intro q' hq'
         have := hal q' (by rw [hobjs, if_neg hd]; exact hq')
         exact (row_get this).2
        have hal' : h.alive d := by
         intro q' hq'
         refine row_mk hq' ?_
         rcases hal2 q' hq' with h0 | ⟨l2, h2, m, hm, he⟩
         · exact .inl h0
         · obtain ⟨l1, h3, h4, _⟩ := hfams _ _ h2 (H.famlt d q' hq')
           exact .inr ⟨l1, h3, m, h4 m hm, he⟩
        obtain ⟨q', g1, g2⟩ := H.obj d q j hq hal' hj
        by_cases ej : j.b = i.b
        · obtain ⟨r0, q0, g3, g4, g5, g6, g7⟩ := H.inj a.block d i j hi hj (fun e => hd e.symm) ej.symm
          rw [hget] at g3
          injection g3 with g3
          injection g3 with g3
          subst g3
          rw [hq] at g4
          injection g4 with g4
          subst g4
          cases q' <;> simp only [ObjR] at g2
          rename_i arr2 e2' fr2
          rw [ej, hw] at g1
          injection g1 with g1
          injection g1 with g1a g1b g1c
          subst g1a
          subst g1b
          subst g1c
          refine ⟨_, by rw [ej, putBlock_get _ _ _ _ hlo.2, if_pos rfl], ?_⟩
          refine ⟨g2.1, by rw [over_size]; exact g2.2.1, by rw [over_size]; exact g2.2.2.1, ?_, by rw [over_size]; exact g2.2.2.2.2.1, g2.2.2.2.2.2⟩
          rcases hal2 q0 hq with h0 | ⟨l2, h2, m, hm, he⟩
          · exact absurd h0 (by omega)
          · obtain ⟨l1, h3, h4, h5⟩ := hfams _ _ h2 (H.famlt d q0 hq)
            obtain ⟨q1, m1, m2, m3, m4⟩ := H.mem _ _ m h3 (h4 m hm) (H.famlt d q0 hq) (by omega)
            rw [he, hq] at m1
            injection m1 with m1
            injection m1 with m1
            subst m1
            have h6 := h5 g5.symm (by omega) m hm
            have h7 := h6.resolve_left (fun e => hd (he.symm.trans e))
            intro k u hk
            have hkl : k < q0.c.length := by
             rcases Nat.lt_or_ge k q0.c.length with h | h
             · exact h
             · rw [List.getElem?_eq_none h] at hk; cases hk
            rw [over_get _ _ _ hin, if_neg (by omega)]
            exact g2.2.2.2.1 k u hk
        · exact ⟨q', by rw [putBlock_get _ _ _ _ hlo.2, if_neg ej]; exact g1, g2⟩
    · intro d f j k hj hk hne ejk
      obtain ⟨r0, q0, g1, g2, g3, g4, g5⟩ := H.inj d f j k hj hk hne ejk
      by_cases hd : d = a.block
      · have hf : f ≠ a.block := fun e => hne (hd.trans e.symm)
        rw [hd, hget] at g1
        injection g1 with g1
        injection g1 with g1
        subst g1
        exact ⟨{ r with c := c }, q0, by rw [hobjs, if_pos hd], by rw [hobjs, if_neg hf]; exact g2, g3, g4, g5⟩
      · by_cases hf : f = a.block
        · rw [hf, hget] at g2
          injection g2 with g2
          injection g2 with g2
          subst g2
          exact ⟨r0, { r with c := c }, by rw [hobjs, if_neg hd]; exact g1, by rw [hobjs, if_pos hf], g3, g4, g5⟩
        · exact ⟨r0, q0, by rw [hobjs, if_neg hd]; exact g1, by rw [hobjs, if_neg hf]; exact g2, g3, g4, g5⟩
    · intro d q hq
      rw [e3]
      rw [hobjs] at hq
      by_cases hd : d = a.block
      · rw [if_pos hd] at hq
        injection hq with hq
        injection hq with hq
        subst hq
        show r.fam < h.nfam
        exact H.famlt _ r hget
      · rw [if_neg hd] at hq
        exact H.famlt d q hq
    · intro f l2 m hl2 hm hf hf0
      rw [e3] at hf
      obtain ⟨l1, h3, h4, _⟩ := hfams f l2 hl2 hf
      obtain ⟨q1, m1, m2, m3, m4⟩ := H.mem f l1 m h3 (h4 m hm) hf hf0
      by_cases hd : m.b = a.block
      · rw [hd, hget] at m1
        injection m1 with m1
        injection m1 with m1
        subst m1
        exact ⟨{ r with c := c }, by rw [hobjs, if_pos hd], m2, m3, by simpa [c1] using m4⟩
      · exact ⟨q1, by rw [hobjs, if_neg hd]; exact m1, m2, m3, m4⟩
    · intro d q hq
      rw [hobjs] at hq
      rw [e2]
      by_cases hd : d = a.block
      · rw [hd]; exact H.cover _ _ hget
      · rw [if_neg hd] at hq; exact H.cover d q hq
    · rw [hobjs] at hq
      rw [e4]
      by_cases hd : d = a.block
      · rw [hd]; exact H.low _ _ hget
      · rw [if_neg hd] at hq; exact H.low d q hq
   split at hs
   · rename_i hf0
     injection hs with hs
     subst hs
     refine key _ rfl rfl rfl rfl rfl (fun f l2 hl2 _ => ⟨l2, hl2, fun _ hm => hm, fun e1 e2 => absurd (e1.trans hf0) e2⟩)
   · rename_i f hf0
     split at hs
     · cases hs
     · rename_i l0 hl0
       injection hs with hs
       subst hs
       have hfl := H.famlt _ _ hget
       have hset : ∀ g, (h.fams.put (f + 1) (kill l0 a.block (r.base + a.off) (r.base + a.off + (v :: l).length))).get g = if g = f + 1 then some (kill l0 a.block (r.base + a.off) (r.base + a.off + (v :: l).length)) else h.fams.get g :=
        fun g => Tr.get_put _ _ _ _
       refine key _ rfl rfl rfl rfl rfl (fun g l2 hl2 _ => ?_)
       simp only [hset] at hl2
       by_cases hg : g = f + 1
       · rw [if_pos hg] at hl2
         injection hl2 with hl2
         subst hl2
         exact ⟨l0, by rw [hg]; exact hl0, fun m hm => (kill_sub hm).1, fun _ _ m hm => (kill_sub hm).2⟩
       · rw [if_neg hg] at hl2
         exact ⟨l2, hl2, fun _ hm => hm, fun e1 _ => absurd (e1.trans hf0) hg⟩
def Rho.put (ρ : Rho) (b : Nat) (i : Img) : Rho := fun d => if d = b then some i else ρ d
theorem HR.le_put (H : HR P ρ N h w) (i : Img) : ρ.le (ρ.put h.next i) := by
 intro b j hj
 have := H.dom b j hj
 unfold Rho.put
 rw [if_neg (by omega)]
 exact hj
theorem alloc_eq (w : World) (o : Obj) : (w.alloc o).heap = w.heap.push o := rfl
theorem HR.base_next (H : HR P ρ N h w) : h.base ≤ h.next := by
 rcases Nat.eq_zero_or_pos h.base with e | e
 · omega
 · have := H.dom _ _ (H.rid (h.base - 1) (by omega))
   omega
theorem HR.new (H : HR P ρ N h w) {o : CObj} {b : Nat} {h1 : Hp} (hn : h.new o = some (b, h1)) {o' : Obj} (i : Img) (hib : i.b = w.heap.size)
  (hR : ObjR P (ρ.put b i) i o o') (hfam : ∀ r, o = .cells r → r.fam = 0) : b = h.next ∧ HR P (ρ.put b i) N h1 (w.alloc o') ∧ Below N w (w.alloc o') := by
 unfold Hp.new at hn
 · injection hn with hn
   injection hn with hn1 hn2
   subst hn1
   subst hn2
   have hle := H.le_put i
   have hobjs : ∀ d, (h.objs.put h.next o).get d = if d = h.next then some o else h.objs.get d := fun d => Tr.get_put _ _ _ _
   have hpush : ∀ k, k < w.heap.size → (w.alloc o').heap[k]? = w.heap[k]? := fun k hk => Below.heap_alloc w o' k hk
   have hsz : (w.alloc o').heap.size = w.heap.size + 1 := by rw [alloc_eq]; simp
   refine ⟨rfl, ⟨?_, ?_, ?_, ?_, ?_, ?_, ?_, H.nf0, by rw [hsz]; have := H.base; omega, fun d hd => ⟨by unfold Rho.put; rw [if_neg (by have := (H.gho d hd).2; omega)]; exact (H.gho d hd).1, by show d < h.next + 1; have := (H.gho d hd).2; omega⟩, H.bn, fun d hd => hle _ _ (H.rid d hd), fun d q hq => ?_, H.rom_next hle ((Below.refl _ _).alloc H.base _)⟩, (Below.refl _ _).alloc H.base _⟩
   · intro d q j hq hal hj
     simp only [hobjs] at hq
     by_cases hd : d = h.next
     · subst hd
       rw [if_pos rfl] at hq
       injection hq with hq
       subst hq
       have : j = i := by unfold Rho.put at hj; rw [if_pos rfl] at hj; injection hj with hj; exact hj.symm
       subst this
       refine ⟨o', ?_, hR⟩
       rw [hib, alloc_eq]
       simp
     · rw [if_neg hd] at hq
       have hj' : ρ d = some j := by unfold Rho.put at hj; rwa [if_neg hd] at hj
       have hal' : h.alive d := by
        intro r hr
        have := hal r (by simp only [hobjs]; rw [if_neg hd]; exact hr)
        exact row_mk hr (row_get this).2
       obtain ⟨q', g1, g2⟩ := H.obj d q j hq hal' hj'
       exact ⟨q', by rw [hpush _ (H.lo d j hj').2]; exact g1, g2.mono hle⟩
   · intro d j hj
     show d < h.next + 1
     by_cases hd : d = h.next
     · omega
     · have hj' : ρ d = some j := by unfold Rho.put at hj; rwa [if_neg hd] at hj
       have := H.dom d j hj'
       omega
   · intro d j hj
     rw [hsz]
     by_cases hd : d = h.next
     · have : j = i := by unfold Rho.put at hj; rw [if_pos hd] at hj; injection hj with hj; exact hj.symm
       subst this
       have := H.base
       exact ⟨fun _ => by omega, by omega⟩
     · have hj' : ρ d = some j := by unfold Rho.put at hj; rwa [if_neg hd] at hj
       have := H.lo d j hj'
       exact ⟨this.1, by omega⟩
   · intro d f j k hj hk hne ejk
     have cs : ∀ d j, (ρ.put h.next i) d = some j → (d = h.next ∧ j = i) ∨ (d ≠ h.next ∧ ρ d = some j) := by
      intro d j hj
      unfold Rho.put at hj
      by_cases hd : d = h.next
      · rw [if_pos hd] at hj; injection hj with hj; exact .inl ⟨hd, hj.symm⟩
      · rw [if_neg hd] at hj; exact .inr ⟨hd, hj⟩
     rcases cs d j hj with ⟨e1, e2⟩ | ⟨e1, e2⟩ <;> rcases cs f k hk with ⟨f1, f2⟩ | ⟨f1, f2⟩
     · exact absurd (e1.trans f1.symm) hne
     · have := (H.lo f k f2).2
       subst e2
       omega
     · have := (H.lo d j e2).2
       subst f2
       omega
     · obtain ⟨r, q, g1, g2, g3⟩ := H.inj d f j k e2 f2 hne ejk
       exact ⟨r, q, by simp only [hobjs]; rw [if_neg e1]; exact g1, by simp only [hobjs]; rw [if_neg f1]; exact g2, g3⟩
   · intro d r hr
     simp only [hobjs] at hr
     by_cases hd : d = h.next
     · rw [if_pos hd] at hr
       injection hr with hr
       rw [hfam r hr]
       exact H.nf0
     · rw [if_neg hd] at hr
       exact H.famlt d r hr
   · intro f l m hl hm hf hf0
     obtain ⟨q, g1, g2⟩ := H.mem f l m hl hm hf hf0
     by_cases hd : m.b = h.next
     · have := H.cover _ _ g1
       omega
     · exact ⟨q, by simp only [hobjs]; rw [if_neg hd]; exact g1, g2⟩
   · intro d q hq
     simp only [hobjs] at hq
     show d < h.next + 1
     by_cases hd : d = h.next
     · omega
     · rw [if_neg hd] at hq
       have := H.cover d q hq
       omega
   · simp only [hobjs] at hq
     show h.base ≤ d
     by_cases hd : d = h.next
     · rw [hd]; exact H.base_next
     · rw [if_neg hd] at hq
       exact H.low d q hq
theorem HR.less {n : Nat} {g g' : Nat → Prop} (H : HR P ρ ⟨n, g⟩ h w) (hg : ∀ b, g' b → g b) : HR P ρ ⟨n, g'⟩ h w :=
 ⟨H.obj, H.dom, H.lo, H.inj, H.famlt, H.mem, H.cover, H.nf0, H.base, fun b hb => H.gho b (hg b hb), H.bn, H.rid, H.low, H.rom⟩
theorem HR.room {n : Nat} {g : Nat → Prop} (H : HR P ρ ⟨n, g⟩ h w) (k : Nat) :
  HR P ρ ⟨n, fun b => g b ∨ (h.next ≤ b ∧ b < h.next + k)⟩ { h with next := h.next + k } w := by
 refine ⟨fun b o i ho hal hi => H.obj b o i ho (fun r hr => row_mk hr (row_get (hal r hr)).2) hi, fun b i hi => ?_, H.lo, fun b d i j hi hj hne e => H.inj b d i j hi hj hne e, H.famlt, H.mem, fun b o ho => ?_, H.nf0, H.base, fun b hb => ?_, H.bn, H.rid, H.low, H.rom⟩
 · have := H.dom b i hi
   show b < h.next + k
   omega
 · have := H.cover b o ho
   show b < h.next + k
   omega
 · show ρ b = none ∧ b < h.next + k
   rcases hb with hb | hb
   · have := H.gho b hb
     exact ⟨this.1, by omega⟩
   · refine ⟨?_, hb.2⟩
     cases hr : ρ b with
     | none => rfl
     | some i =>
       have := H.dom b i hr
       omega
theorem HR.lay {n : Nat} {g : Nat → Prop} (H : HR P ρ ⟨n, g⟩ h w) {b : Nat} (hb : g b) {o : CObj} (ho : ∀ r, o = .cells r → r.fam = 0) (hold : ∀ r, h.objs.get b = some (.cells r) → r.fam = 0) :
  HR P ρ ⟨n, g⟩ (h.put b o) w := by
 obtain ⟨hnone, hlt⟩ := H.gho b hb
 have hobjs : ∀ d, (h.put b o).objs.get d = if d = b then some o else h.objs.get d := fun d => Tr.get_put _ _ _ _
 have hne : ∀ d i, ρ d = some i → d ≠ b := by
  intro d i hi e
  subst e
  rw [hnone] at hi
  cases hi
 refine ⟨fun d q i hq hal hi => ?_, H.dom, H.lo, fun d f i j hi hj hdf e => ?_, fun d r hr => ?_, fun f l m hl hm hf hf0 => ?_, fun d q hq => ?_, H.nf0, H.base, H.gho, H.bn, H.rid, fun d q hq => ?_, H.rom⟩
 · have hd := hne d i hi
   rw [hobjs, if_neg hd] at hq
   refine H.obj d q i hq (fun r hr => ?_) hi
   have := hal r (by rw [hobjs, if_neg hd]; exact hr)
   exact row_mk hr (row_get this).2
 · obtain ⟨r, q, h1, h2, h3⟩ := H.inj d f i j hi hj hdf e
   exact ⟨r, q, by rw [hobjs, if_neg (hne d i hi)]; exact h1, by rw [hobjs, if_neg (hne f j hj)]; exact h2, h3⟩
 · rw [hobjs] at hr
   by_cases hd : d = b
   · rw [if_pos hd] at hr
     injection hr with hr
     rw [ho r hr]
     exact H.nf0
   · rw [if_neg hd] at hr
     exact H.famlt d r hr
 · obtain ⟨q, h1, h2, h3⟩ := H.mem f l m hl hm hf hf0
   have hd : m.b ≠ b := by
    intro e
    rw [e] at h1
    exact hf0 (h2.symm.trans (hold q h1))
   exact ⟨q, by rw [hobjs, if_neg hd]; exact h1, h2, h3⟩
 · rw [hobjs] at hq
   by_cases hd : d = b
   · subst hd; exact hlt
   · rw [if_neg hd] at hq
     exact H.cover d q hq
 · rw [hobjs] at hq
   by_cases hd : d = b
   · subst hd
     rcases Nat.lt_or_ge d h.base with e | e
     · rw [H.rid d e] at hnone; cases hnone
     · exact e
   · rw [if_neg hd] at hq
     exact H.low d q hq
theorem layAll_HR {n : Nat} {g : Nat → Prop} {base k : Nat} (hg : ∀ i, i < k → g (base + i)) : ∀ (l : List (Nat × CObj)) (h : Hp), HR P ρ ⟨n, g⟩ h w → (∀ i, i < k → ∀ r, h.objs.get (base + i) = some (.cells r) → r.fam = 0) →
  HR P ρ ⟨n, g⟩ (layAll base k l h) w
 | [], h, H, _ => H
 | (i, o) :: l, h, H, hold => by
   simp only [layAll]
   split
   · rename_i h1 h2
     have h1' : i < k := by simpa [Nat.blt_eq] using h1
     have ho : ∀ r, o = .cells r → r.fam = 0 := by
      intro r e
      subst e
      simpa [famFree] using h2
     refine layAll_HR hg l _ (H.lay (hg i h1') ho (hold i h1')) (fun j hj r hr => ?_)
     have : (h.put (base + i) o).objs.get (base + j) = if base + j = base + i then some o else h.objs.get (base + j) := Tr.get_put _ _ _ _
     rw [this] at hr
     split at hr
     · injection hr with hr
       exact ho r hr
     · exact hold j hj r hr
   · exact layAll_HR hg l h H hold
theorem HR.ghost {n : Nat} {g g' : Nat → Prop} (H : HR P ρ ⟨n, g⟩ h w) {b : Nat} (hb : g b) {o : CObj} (hget : h.objs.get b = some o) (hfam : ∀ r, o = .cells r → r.fam = 0) {o' : Obj} (i : Img) (hib : i.b = w.heap.size)
  (hR : ρ.le (ρ.put b i) → ObjR P (ρ.put b i) i o o') (hg : ∀ d, g' d → g d ∧ d ≠ b) : ρ.le (ρ.put b i) ∧ HR P (ρ.put b i) ⟨n, g'⟩ h (w.alloc o') ∧ Below n w (w.alloc o') := by
 obtain ⟨hnone, hlt⟩ := H.gho b hb
 have hle : ρ.le (ρ.put b i) := by
  intro d j hj
  unfold Rho.put
  rw [if_neg (fun e => by subst e; rw [hnone] at hj; cases hj)]
  exact hj
 have hpush : ∀ k, k < w.heap.size → (w.alloc o').heap[k]? = w.heap[k]? := fun k hk => Below.heap_alloc w o' k hk
 have hsz : (w.alloc o').heap.size = w.heap.size + 1 := by rw [alloc_eq]; simp
 have cs : ∀ d j, (ρ.put b i) d = some j → (d = b ∧ j = i) ∨ (d ≠ b ∧ ρ d = some j) := by
  intro d j hj
  unfold Rho.put at hj
  by_cases hd : d = b
  · rw [if_pos hd] at hj; injection hj with hj; exact .inl ⟨hd, hj.symm⟩
  · rw [if_neg hd] at hj; exact .inr ⟨hd, hj⟩
 refine ⟨hle, ⟨fun d q j hq hal hj => ?_, fun d j hj => ?_, fun d j hj => ?_, fun d f j k hj hk hne ejk => ?_, H.famlt, H.mem, H.cover, H.nf0, by rw [hsz]; have := H.base; show n ≤ w.heap.size + 1; exact Nat.le_succ_of_le this, fun d hd => ?_, H.bn, fun d hd => hle _ _ (H.rid d hd), H.low, H.rom_next hle ((Below.refl _ _).alloc H.base _)⟩, (Below.refl _ _).alloc H.base _⟩
 · rcases cs d j hj with ⟨e1, e2⟩ | ⟨e1, e2⟩
   · subst e1; subst e2
     rw [hget] at hq
     injection hq with hq
     subst hq
     refine ⟨o', ?_, hR hle⟩
     rw [hib, alloc_eq]
     simp
   · obtain ⟨q', g1, g2⟩ := H.obj d q j hq hal e2
     exact ⟨q', by rw [hpush _ (H.lo d j e2).2]; exact g1, g2.mono hle⟩
 · rcases cs d j hj with ⟨e1, e2⟩ | ⟨e1, e2⟩
   · subst e1; exact hlt
   · exact H.dom d j e2
 · rw [hsz]
   rcases cs d j hj with ⟨e1, e2⟩ | ⟨e1, e2⟩
   · subst e2
     have := H.base
     rw [hib]
     exact ⟨fun _ => this, by omega⟩
   · have := H.lo d j e2
     exact ⟨this.1, by omega⟩
 · rcases cs d j hj with ⟨e1, e2⟩ | ⟨e1, e2⟩ <;> rcases cs f k hk with ⟨f1, f2⟩ | ⟨f1, f2⟩
   · exact absurd (e1.trans f1.symm) hne
   · have := (H.lo f k f2).2
     subst e2
     omega
   · have := (H.lo d j e2).2
     subst f2
     omega
   · exact H.inj d f j k e2 f2 hne ejk
 · obtain ⟨h1, h2⟩ := hg d hd
   obtain ⟨h3, h4⟩ := H.gho d h1
   exact ⟨by unfold Rho.put; rw [if_neg h2]; exact h3, h4⟩
end Go.Ev
end
section
namespace Go.Ev
open Go.RowKit
theorem kindEq_eq {a b : IntKind} (h : kindEq a b = true) : a = b := by cases a <;> cases b <;> first | rfl | cases h
theorem intEq_beq (a b : Int) : intEq a b = (a == b) := by
 cases a <;> cases b <;> simp only [intEq]
 · rename_i m n
   rw [Bool.eq_iff_iff]
   simp
   omega
 · rfl
 · rfl
 · rename_i m n
   rw [Bool.eq_iff_iff]
   simp
theorem intLe_le (a b : Int) : intLe a b = decide (a ≤ b) := by
 unfold intLe
 split
 · rename_i n hn
   have : 0 ≤ b - a := by rw [hn]; exact Int.natCast_nonneg n
   simp; omega
 · rename_i n hn
   have : b - a < 0 := by rw [hn]; exact Int.negSucc_lt_zero n
   simp; omega
theorem intLt_lt (a b : Int) : intLt a b = decide (a < b) := by
 unfold intLt
 rw [intLe_le]
 rfl
theorem u8_beq (a b : UInt8) : Nat.beq a.toNat b.toNat = (a == b) := by
 rw [Bool.eq_iff_iff]
 simp [UInt8.toNat_inj]
theorem u8_blt (a b : UInt8) : Nat.blt a.toNat b.toNat = decide (a < b) := by
 rw [Bool.eq_iff_iff]
 simp [UInt8.lt_iff_toNat_lt]
theorem bytesEq_beq : ∀ a b : List UInt8, bytesEq a b = (a == b)
 | [], [] => rfl
 | [], _ :: _ => rfl
 | _ :: _, [] => rfl
 | a :: x, b :: y => by
   simp only [bytesEq, u8_beq]
   by_cases h : a = b
   · subst h; simp [bytesEq_beq x y]
   · have : (a == b) = false := by simpa using h
     simp [this]
theorem bytesLt_less : ∀ a b : List UInt8, bytesLt a b = Op.bytesLess a b
 | [], [] => rfl
 | [], _ :: _ => rfl
 | _ :: _, [] => rfl
 | a :: x, b :: y => by
   simp only [bytesLt, u8_beq, u8_blt, Op.bytesLess]
   by_cases h : a < b
   · simp [h]
   · by_cases e : a = b
     · subst e
       simp [bytesLt_less x y]
     · have : (a == b) = false := by simpa using e
       simp [h, this]
variable {P : Program} {ρ : Rho} {N : Bs} {h : Hp} {w : World}
theorem intOp_run {t : TypeId} {op : BinOp} {k : IntKind} {a b : Int} {v : Value} (hv : intOp op k a b = some v) (hs : op ≠ .shl) (hr : op ≠ .shr) :
  (binOp op t (.int k a) (.int k b)).run P w = .ok v w ∧ VR ρ v v := by
 cases op <;> simp only [intOp] at hv <;> first
  | (exact absurd rfl hs)
  | (exact absurd rfl hr)
  | (cases hv; done)
  | (injection hv with hv; subst hv; refine ⟨?_, by constructor⟩; simp [binOp, Op.intArith, Op.intCmp, intEq_beq, intLe_le, intLt_lt, bne]; done)
  | skip
 all_goals
  split at hv
  · cases hv
  · rename_i hb
    injection hv with hv
    subst hv
    rw [intEq_beq] at hb
    have hb' : b ≠ 0 := by simpa using hb
    refine ⟨?_, by constructor⟩
    simp [binOp, Op.intDiv, hb']
theorem strOp_run {op : BinOp} {x y : ByteArray} {v : Value} (hv : strOp op x y = some v) (t : TypeId) : (binOp op t (.string x) (.string y)).run P w = .ok v w ∧ VR ρ v v := by
 have hr : (binOp op t (.string x) (.string y)) = Op.stringOp op x y := by cases op <;> rfl
 rw [hr]
 cases op <;> simp only [strOp] at hv <;> first
  | (cases hv; done)
  | (injection hv with hv; subst hv; refine ⟨?_, by constructor⟩; simp [Op.stringOp, ByteArray.toList_eq, bytesEq_beq, bytesLt_less]; done)
  | skip
 split at hv
 · rename_i hl
   injection hv with hv
   subst hv
   refine ⟨?_, by constructor⟩
   have hl' : x.data.toList.length + y.data.toList.length ≤ 1000000000 := by simpa using hl
   have hx : x.size = x.data.toList.length := by rw [Array.length_toList]; rfl
   have hy : y.size = y.data.toList.length := by rw [Array.length_toList]; rfl
   have hm : ¬ (((x.size + y.size : Nat) : Int) > IntKind.i64.max) := by
    have : IntKind.i64.max = 9223372036854775807 := by decide
    rw [this, hx, hy]
    omega
   have he : x ++ y = ⟨(x.data.toList ++ y.data.toList).toArray⟩ := by
    rw [ByteArray.ext_iff]
    rw [ByteArray.data_append]
    apply Array.ext'
    simp
   simp only [Op.stringOp, if_neg hm, Sem.run_pure, he]
 · cases hv
structure WfP (P : Program) : Prop where
 mixed : P.follows .mixedOrders = true
theorem run_und {t : TypeId} {d : TypeDesc} (h : P.underlying t = some d) : (underlying t).run P w = .ok d w := run_underlying h w
theorem run_info {t : TypeId} {i : TypeInfo} (h : P.info? t = some i) : (typeInfo t).run P w = .ok i w := run_typeInfo w h
theorem run_size {t : TypeId} {i : TypeInfo} (h : P.info? t = some i) : (sizeOf t).run P w = .ok i.size w := by simp [sizeOf, run_info h]
theorem size_some {t : TypeId} {s : Nat} (h : sizeOf' P t = some s) : (sizeOf t).run P w = .ok s w ∧ P.cellsOf t = s := by
 unfold sizeOf' at h
 split at h
 · rename_i i hi
   injection h with h
   subst h
   exact ⟨run_size hi, by simp [Program.cellsOf, hi]⟩
 · cases h
theorem zero_run {t : TypeId} {z : Value} (h : zero' P t = some z) : (zeroValue t).run P w = .ok z w ∧ VR ρ z z := by
 unfold zero' at h
 split at h
 · rename_i i hi
   split at h
   · rename_i v hv
     split at h
     · rename_i hp
       injection h with h
       subst h
       exact ⟨by simp [zeroValue, run_info hi, hv], plain_VR _ _ hp⟩
     · cases h
   · cases h
 · cases h
theorem part_run {t : TypeId} {cs : List Value} {cs' : Array Value} {off : Nat} {v : Value} (hv : part P t cs off = some v) (hc : VRs ρ cs cs'.toList) :
  ∃ v', (Go.part t cs' off).run P w = .ok v' w ∧ VR ρ v v' := by
 unfold part at hv
 cases hu : P.underlying t with
 | none => rw [hu] at hv; cases hv
 | some d =>
   have agg : ∀ i, P.info? t = some i → (∀ w, (isAgg t).run P w = .ok true w) → some (Value.agg ((cs.drop off).take i.size).toArray) = some v →
     ∃ v', (Go.part t cs' off).run P w = .ok v' w ∧ VR ρ v v' := by
    intro i hi ha e
    injection e with e
    subst e
    refine ⟨.agg (cs'.extract off (off + i.size)), by simp [Go.part, ha, run_size hi], .agg ?_⟩
    rw [Array.toList_extract]
    simp only [List.extract_eq_take_drop, Nat.add_sub_cancel_left]
    exact (hc.drop off).take i.size
   have cell : (∀ w, (isAgg t).run P w = .ok false w) → cs[off]? = some v → ∃ v', (Go.part t cs' off).run P w = .ok v' w ∧ VR ρ v v' := by
    intro ha e
    obtain ⟨v', h1, h2⟩ := hc.get e
    refine ⟨v', ?_, h2⟩
    have h1' : cs'[off]? = some v' := by simpa using h1
    simp [Go.part, ha, h1']
   rw [hu] at hv
   cases d <;> simp only [] at hv <;> first
    | exact cell (fun w => by simp [isAgg, run_und hu]) hv
    | (split at hv
       · rename_i i hi
         exact agg i hi (fun w => by simp [isAgg, run_und hu]) hv
       · cases hv)
theorem eqFields_run (d : Nat) (xs ys : List Value) (xs' ys' : Array Value) (hx : VRs ρ xs xs'.toList) (hy : VRs ρ ys ys'.toList) (E : TypeId → Value → Value → Option Bool)
  (ih : ∀ t x y r x' y', E t x y = some r → VR ρ x x' → VR ρ y y' → (Op.equalIn d t x' y').run P w = .ok r w) : ∀ (fs : List Field) (r : Bool),
  fs.foldr (fun f k => match f.name == "_" with
   | true => k
   | false => match part P f.type xs f.offset, part P f.type ys f.offset with
     | some p, some q => match E f.type p q with
       | some true => k
       | r => r
     | _, _ => none) (some true) = some r → (Op.eqFields d xs' ys' fs).run P w = .ok r w
 | [], r, hr => by
   simp only [List.foldr_nil, Option.some.injEq] at hr
   subst hr
   simp [Op.eqFields]
 | f :: fs, r, hr => by
   simp only [List.foldr_cons] at hr
   simp only [Op.eqFields]
   by_cases hn : f.name = "_"
   · have h1 : (f.name == "_") = true := by simpa using hn
     rw [h1] at hr
     simp only [hn, ne_eq, not_true, if_false]
     exact eqFields_run d xs ys xs' ys' hx hy E ih fs r hr
   · have h1 : (f.name == "_") = false := by simpa using hn
     rw [h1] at hr
     simp only [] at hr
     simp only [ne_eq, hn, not_false_eq_true, if_true, Sem.run_bind]
     split at hr
     · rename_i p q hp hq
       obtain ⟨p', h2, h3⟩ := part_run (w := w) hp hx
       obtain ⟨q', h4, h5⟩ := part_run (w := w) hq hy
       rw [h2]
       simp only [Result.andThen_ok]
       rw [h4]
       simp only [Result.andThen_ok]
       split at hr
       · rename_i he
         rw [ih _ _ _ _ _ _ he h3 h5]
         simp only [Result.andThen_ok, Bool.not_true, Bool.false_eq_true, if_false]
         exact eqFields_run d xs ys xs' ys' hx hy E ih fs r hr
       · rename_i he
         cases hE : E f.type p q with
         | none => rw [hE] at hr; cases hr
         | some b =>
           cases b with
           | true => exact absurd hE (by simpa using he)
           | false =>
             rw [hE] at hr
             injection hr with hr
             subst hr
             rw [ih _ _ _ _ _ _ hE h3 h5]
             simp
     · cases hr
end Go.Ev
end
section
namespace Go.Ev
open Go.RowKit
variable {P : Program} {ρ : Rho} {N : Bs} {h : Hp} {w : World}
theorem nbeq_true {a b : Nat} (h : Nat.beq a b = true) : a = b := Nat.eq_of_beq_eq_true h
theorem nbeq_false {a b : Nat} (h : Nat.beq a b = false) : a ≠ b := Nat.ne_of_beq_eq_false h
theorem shape_of {b : Nat} {arr : Array Value} {e : TypeId} {fr : Nat × Nat} (hb : w.heap[b]? = some (.cells arr e fr)) : w.shape? b = some (e, arr.size) := by
 simp [World.shape?, hb]
theorem frozen_none {b o : Nat} {arr : Array Value} {e : TypeId} (hb : w.heap[b]? = some (.cells arr e (0, 0))) : w.frozen? ⟨b, o, none⟩ = false := by
 simp [World.frozen?, hb]
theorem sameAddr_run (H : HR P ρ N h w) {a b a' b' : Addr} {i j : Img} (ha : AR ρ a a' i) (hb : AR ρ b b' j) :
  (a.block = b.block → (sameAddr a' b').run P w = .ok (Nat.beq a.off b.off) w) ∧
  (a.block ≠ b.block → ∀ r q, h.row a.block = some r → h.row b.block = some q → r.fam = 0 → r.grown = false → q.grown = false → (sameAddr a' b').run P w = .ok false w) := by
 constructor
 · intro e
   have : i = j := by
    have h1 := ha.2.1
    have h2 := hb.2.1
    rw [e] at h1
    rw [h1] at h2
    exact Option.some.inj h2
   subst this
   rw [ha.fn, hb.fn]
   simp only [sameAddr, beq_self_eq_true, if_true, Sem.run_pure]
   congr 1
   rw [Bool.eq_iff_iff]
   simp
 · intro e r q hr hq hf hg1 hg2
   obtain ⟨arr, e1, fr, hw, hR, hget⟩ := H.row hr ha.2.1
   obtain ⟨brr, e2, fs, hv, hS, hget2⟩ := H.row hq hb.2.1
   have hne : i.b ≠ j.b := by
    intro e3
    obtain ⟨r0, q0, h1, h2, h3, h4, _⟩ := H.inj _ _ i j ha.2.1 hb.2.1 e e3
    rw [hget] at h1
    injection h1 with h1
    injection h1 with h1
    subst h1
    exact h4 hf
   obtain ⟨_, rfl⟩ := hR.2.2.2.2.2.1 hg1
   obtain ⟨_, rfl⟩ := hS.2.2.2.2.2.1 hg2
   have hbeq : (i.b == j.b) = false := by simpa using hne
   rw [ha.fn, hb.fn]
   simp [sameAddr, hbeq, frozen_none hw, frozen_none hv, noView, viewAt, shape_of hw, shape_of hv, mayBeOne, stringish]
set_option maxHeartbeats 4000000 in
theorem eqv_run (H : HR P ρ N h w) : ∀ (d : Nat) (t : TypeId) (x y : Value) (r : Bool), eqv P h d t x y = some r → ∀ D, d ≤ D → ∀ x' y', VR ρ x x' → VR ρ y y' → (Op.equalIn D t x' y').run P w = .ok r w := by
 intro d
 induction d with
 | zero => intro t x y r hr; simp [eqv] at hr
 | succ d ih =>
   intro t x y r hr D hD x' y' hx hy
   obtain ⟨D, rfl⟩ : ∃ k, D = k + 1 := ⟨D - 1, by omega⟩
   simp only [eqv] at hr
   split at hr
   ·
     rename_i hu
     cases hx; cases hy
     injection hr with hr
     subst hr
     simp [Op.equalIn, run_und hu]
   ·
     rename_i hu
     cases hx; cases hy
     split at hr
     · rename_i hk
       have := kindEq_eq hk
       subst this
       injection hr with hr
       subst hr
       simp [Op.equalIn, run_und hu, intEq_beq]
     · cases hr
   ·
     rename_i hu
     cases hx; cases hy
     injection hr with hr
     subst hr
     rw [run_equalIn_string w D t _ _ hu]
     simp [ByteArray.toList_eq, bytesEq_beq]
   ·
     rename_i hu
     cases hx
     injection hr with hr
     subst hr
     cases hy <;> simp [Op.equalIn, run_und hu]
   · rename_i hu
     cases hx
     cases hy
     injection hr with hr
     subst hr
     simp [Op.equalIn, run_und hu]
   ·
     rename_i hu
     cases hx with
     | ptr ha =>
       cases hy with
       | ptr hb =>
         split at hr
         · rename_i i _ _ hi
           split at hr
           · cases hr
           · rename_i hz
             have hz' : i.size ≠ 0 := nbeq_false hz
             have hs := sameAddr_run H ha hb
             split at hr
             · rename_i hbl
               split at hr
               · injection hr with hr
                 subst hr
                 simp [Op.equalIn, run_und hu, run_size hi, hz', hs.1 (nbeq_true hbl)]
               · cases hr
             · rename_i hbl
               split at hr
               · rename_i r0 q0 hr0 hq0
                 split at hr
                 · rename_i g1 g2 g3 g4
                   injection hr with hr
                   subst hr
                   have hne := hs.2 (nbeq_false hbl) r0 q0 hr0 hq0 (nbeq_true g1) g2 g4
                   simp [Op.equalIn, run_und hu, run_size hi, hz', hne]
                 · cases hr
               · cases hr
         · cases hr
   · rename_i hu
     cases hx; cases hy
     injection hr with hr
     subst hr
     simp [Op.equalIn, run_und hu]
   · rename_i hu
     cases hx; cases hy
     injection hr with hr
     subst hr
     simp [Op.equalIn, run_und hu]
   · rename_i hu
     cases hx; cases hy
     injection hr with hr
     subst hr
     simp [Op.equalIn, run_und hu]
   ·
     rename_i tx vx ty vy hu
     cases hx with
     | iface hx =>
       cases hy with
       | iface hy =>
         split at hr
         · rename_i hb
           injection hr with hr
           subst hr
           have : tx ≠ ty := nbeq_false hb
           simp [Op.equalIn, run_und hu, this]
         · rename_i hb
           have : tx = ty := nbeq_true hb
           subst this
           split at hr
           · rename_i i hi
             split at hr
             · rename_i hc
               have := ih _ _ _ _ hr D (by omega) _ _ hx hy
               simp [Op.equalIn, run_und hu, run_info hi, hc, this]
             · cases hr
           · cases hr
   ·
     rename_i fields xs ys hu
     cases hx with
     | agg hx =>
       cases hy with
       | agg hy =>
         split at hr
         · cases hr
         · rename_i hst
           have hfo : P.fieldsOf t = fields := by simp [Program.fieldsOf, hu]
           rw [run_equalIn_struct w D t _ _ (by rw [hfo]; exact hu) hst, hfo]
           exact eqFields_run D xs.toList ys.toList _ _ hx hy (eqv P h d) (fun t x y r x' y' he hx hy => ih t x y r he D (by omega) x' y' hx hy) _ _ hr
   · rename_i hu
     cases hx
     injection hr with hr
     subst hr
     cases hy <;> simp [Op.equalIn, run_und hu]
   · rename_i hu
     cases hy
     injection hr with hr
     subst hr
     cases hx <;> simp [Op.equalIn, run_und hu]
   · rename_i hu
     cases hx
     injection hr with hr
     subst hr
     cases hy <;> simp [Op.equalIn, run_und hu]
   · rename_i hu
     cases hy
     injection hr with hr
     subst hr
     cases hx <;> simp [Op.equalIn, run_und hu]
   · rename_i hu
     cases hx; cases hy
     injection hr with hr
     subst hr
     simp [Op.equalIn, run_und hu]
   · rename_i hu
     cases hx; cases hy
     injection hr with hr
     subst hr
     simp [Op.equalIn, run_und hu]
   · rename_i hu
     cases hx; cases hy
     injection hr with hr
     subst hr
     simp [Op.equalIn, run_und hu]
   · cases hr
theorem equal_run (H : HR P ρ N h w) {t : TypeId} {x y x' y' : Value} {r : Bool} (hr : eqv P h 40 t x y = some r) (hx : VR ρ x x') (hy : VR ρ y y') : (Op.equal t x' y').run P w = .ok r w :=
 eqv_run H 40 t x y r hr 10000 (by omega) x' y' hx hy
theorem eqv_float {d : Nat} {t : TypeId} {k k' : FloatKind} {n m : Nat} {r : Bool} (hr : eqv P h (d + 1) t (.float k n) (.float k' m) = some r) : False := by
 simp only [eqv] at hr
 split at hr <;> simp_all
theorem eqv_complex {d : Nat} {t : TypeId} {k k' : FloatKind} {n m n' m' : Nat} {r : Bool} (hr : eqv P h (d + 1) t (.complex k n m) (.complex k' n' m') = some r) : False := by
 simp only [eqv] at hr
 split at hr <;> simp_all
theorem eql_op (t : TypeId) {a b a' b' : Value} (ha : VR ρ a a') (hb : VR ρ b b') (hni : ∀ (k : IntKind) (n : Int) (k' : IntKind) (m : Int), a = .int k n → b = .int k' m → False)
  (hns : ∀ (s u : ByteArray), a = .string s → b = .string u → False) {r : Bool} (hr : eqv P h 40 t a b = some r) :
  binOp .eql t a' b' = (do pure (.bool (← Op.equal t a' b')) : Sem Value) ∧ binOp .neq t a' b' = (do pure (.bool (!(← Op.equal t a' b'))) : Sem Value) := by
 cases ha <;> cases hb <;> first
  | exact ⟨rfl, rfl⟩
  | (exact (hni _ _ _ _ rfl rfl).elim)
  | (exact (hns _ _ rfl rfl).elim)
  | (exact (eqv_float hr).elim)
  | (exact (eqv_complex hr).elim)
theorem binOp_run (H : HR P ρ N h w) {op : BinOp} {t : TypeId} {x y : Operand} {a b a' b' v : Value} (hv : binOp' P h op t x y a b = some v) (ha : VR ρ a a') (hb : VR ρ b b') :
  (do eqGuard op t x y a' b'; binOp op t a' b' : Sem Value).run P w = .ok v w ∧ VR ρ v v := by
 have guard : ∀ (op : BinOp), nilsApart x y a b = true → (eqGuard op t x y a' b').run P w = .ok () w := by
  intro op hn
  unfold eqGuard
  cases ha <;> cases hb <;> simp only [nilsApart] at hn <;> cases op <;> simp <;> try (cases hn; done)
  all_goals
   split at hn
   · simp
   · simp
   · cases hn
 unfold binOp' at hv
 split at hv
 · cases ha; cases hb
   split at hv
   · rename_i m
     injection hv with hv
     subst hv
     refine ⟨?_, by constructor⟩
     have hneg : ¬ ((m : Int) < 0) := by omega
     simp [eqGuard, binOp, Op.shift, hneg]
   · cases hv
 · cases ha; cases hb
   split at hv
   · rename_i m
     injection hv with hv
     subst hv
     refine ⟨?_, by constructor⟩
     have hneg : ¬ ((m : Int) < 0) := by omega
     simp [eqGuard, binOp, Op.shift, hneg]
   · cases hv
 · rename_i hs hr
   cases ha; cases hb
   split at hv
   · rename_i hk
     have := kindEq_eq hk
     subst this
     have := intOp_run (P := P) (ρ := ρ) (w := w) (t := t) hv (fun e => hs e) (fun e => hr e)
     refine ⟨?_, this.2⟩
     simp only [Sem.run_bind]
     have hg : ∀ (op : BinOp) (k k' : IntKind) (a b : Int), (eqGuard op t x y (.int k a) (.int k' b)).run P w = .ok () w := by
      intro op _ _ _ _
      unfold eqGuard
      cases op <;> simp
     rw [hg]
     exact this.1
   · cases hv
 · cases ha; cases hb
   have := strOp_run (P := P) (ρ := ρ) (w := w) hv t
   refine ⟨?_, this.2⟩
   simp only [Sem.run_bind]
   have hg : ∀ (op : BinOp) (a b : ByteArray), (eqGuard op t x y (.string a) (.string b)).run P w = .ok () w := by
    intro op _ _
    unfold eqGuard
    cases op <;> simp
   rw [hg]
   exact this.1
 · rename_i hni hns
   split at hv
   · rename_i hn
     split at hv
     · rename_i r hr
       injection hv with hv
       subst hv
       refine ⟨?_, by constructor⟩
       simp only [Sem.run_bind, guard _ hn, Result.andThen_ok]
       rw [(eql_op t ha hb hni hns hr).1]
       simp [equal_run H hr ha hb]
     · cases hv
   · cases hv
 · rename_i hni hns
   split at hv
   · rename_i hn
     split at hv
     · rename_i r hr
       injection hv with hv
       subst hv
       refine ⟨?_, by constructor⟩
       simp only [Sem.run_bind, guard _ hn, Result.andThen_ok]
       rw [(eql_op t ha hb hni hns hr).2]
       simp [equal_run H hr ha hb]
     · cases hv
   · cases hv
 · cases hv
end Go.Ev
end
section
namespace Go.Ev
open Go.RowKit
variable {P : Program} {ρ : Rho} {N : Bs} {h : Hp} {w : World} {a : A} {act : Act}
structure ActR (ρ : Rho) (a : A) (act : Act) : Prop where
 get : ∀ t, VR ρ (a.get t) (act.tmps.getD t undef)
 size : act.tmps.size = a.n
 defers : act.defers = []
 n : True
theorem ActR.mono {ρ' : Rho} (hr : ρ.le ρ') (h : ActR ρ a act) : ActR ρ' a act := ⟨fun t => (h.get t).mono hr, h.size, h.defers, h.n⟩
theorem ActR.ev (h : ActR ρ a act) {x : Operand} {v : Value} (hv : a.ev x = some v) : VR ρ v (act.eval x) := by
 cases x with
 | tmp t => simp only [A.ev, Option.some.injEq] at hv; subst hv; exact h.get t
 | const u =>
   simp only [A.ev] at hv
   split at hv
   · rename_i hp
     injection hv with hv
     subst hv
     exact plain_VR _ _ hp
   · cases hv
 | global g => simp [A.ev] at hv
 | func f => simp only [A.ev, Option.some.injEq] at hv; subst hv; exact .func .nil .nil
theorem ActR.put (h : ActR ρ a act) {d : Option Nat} {v v' : Value} (hv : VR ρ v v') {a1 : A} (ha : a.put d v = some a1) : ActR ρ a1 (act.put d v') := by
 cases d with
 | none => simp only [A.put, Option.some.injEq] at ha; subst ha; exact h
 | some d =>
   simp only [A.put] at ha
   split at ha
   · rename_i hlt
     injection ha with ha
     subst ha
     have hlt' : d < a.n := by simpa [Nat.blt_eq] using hlt
     refine ⟨fun t => ?_, by simp [Act.put, h.size], h.defers, h.n⟩
     have hset := Tr.get_put a.tmps d v t
     unfold A.get
     simp only [hset]
     by_cases e : t = d
     · subst e
       have : t < act.tmps.size := by rw [h.size]; exact hlt'
       simpa [Act.put, Array.getD_eq_getD_getElem?, Array.getElem?_setIfInBounds_self_of_lt this] using hv
     · rw [if_neg e]
       have := h.get t
       unfold A.get at this
       simpa [Act.put, Array.getD_eq_getD_getElem?, Array.getElem?_setIfInBounds_ne (Ne.symm e)] using this
   · cases ha
theorem ActR.evList (h : ActR ρ a act) : ∀ {xs : List Operand} {l : List Value}, evList a xs = some l → VRs ρ l (xs.map act.eval)
 | [], l, hl => by simp only [Go.Ev.evList, Option.some.injEq] at hl; subst hl; exact .nil
 | x :: xs, l, hl => by
   simp only [Go.Ev.evList] at hl
   split at hl
   · rename_i v r hv hr
     injection hl with hl
     subst hl
     exact .cons (h.ev hv) (h.evList hr)
   · cases hl
inductive PRs (ρ : Rho) : List (Nat × Value) → List (Nat × Value) → Prop
 | nil : PRs ρ [] []
 | cons {i : Nat} {v v' : Value} {l l' : List (Nat × Value)} (h : VR ρ v v') (k : PRs ρ l l') : PRs ρ ((i, v) :: l) ((i, v') :: l')
theorem ActR.evPairs (h : ActR ρ a act) : ∀ {xs : List (Nat × Operand)} {l : List (Nat × Value)}, evPairs a xs = some l → PRs ρ l (xs.map fun p => (p.1, act.eval p.2))
 | [], l, hl => by simp only [Go.Ev.evPairs, Option.some.injEq] at hl; subst hl; exact .nil
 | (i, x) :: xs, l, hl => by
   simp only [Go.Ev.evPairs] at hl
   split at hl
   · rename_i v r hv hr
     injection hl with hl
     subst hl
     exact .cons (h.ev hv) (h.evPairs hr)
   · cases hl
theorem foldl_over (off : Nat) : ∀ (vs : List Value) (k : Nat) (cs : Array Value),
  (vs.zipIdx k).foldl (fun cs (x : Value × Nat) => cs.setIfInBounds (off + x.2) x.1) cs = over cs (off + k) vs
 | [], _, _ => rfl
 | v :: vs, k, cs => by
   simp only [List.zipIdx_cons, List.foldl_cons, over]
   rw [foldl_over off vs (k + 1)]
   rfl
theorem over_VRs {c c' vs vs' : List Value} (hc : VRs ρ c c') (hv : VRs ρ vs vs') {off : Nat} {c1 : List Value} (hs : splice c off vs = some c1) :
  off + vs'.length ≤ c'.length ∧ VRs ρ c1 (over c'.toArray off vs').toList := by
 obtain ⟨h1, h2, h3⟩ := splice_spec _ _ _ _ hs
 have l1 := hc.length
 have l2 := hv.length
 refine ⟨by omega, VRs.of_get (by rw [Array.length_toList, over_size]; simp; omega) fun k v hk => ?_⟩
 rw [h3] at hk
 have hg := over_get vs' c'.toArray off (by simp; omega) k
 by_cases hr : off ≤ k ∧ k < off + vs.length
 · rw [if_pos hr] at hk
   rw [if_pos (by omega)] at hg
   obtain ⟨v', e1, e2⟩ := hv.get hk
   exact ⟨v', by simpa [e1] using hg, e2⟩
 · rw [if_neg hr] at hk
   rw [if_neg (by omega)] at hg
   obtain ⟨v', e1, e2⟩ := hc.get hk
   exact ⟨v', by simpa [e1] using hg, e2⟩
theorem fill_run {place place' : Nat → Option (Nat × Nat)} (hp : ∀ i p, place i = some p → place' i = some p) : ∀ {ps ps' : List (Nat × Value)}, PRs ρ ps ps' → ∀ {c c1 : List Value} {c' : Array Value}, fill' place c ps = some c1 → VRs ρ c c'.toList →
  ∃ c1', Instr.fill place' c' ps' = some c1' ∧ VRs ρ c1 c1'.toList := by
 intro ps ps' hps
 induction hps with
 | nil =>
   intro c c1 c' hf hc
   simp only [fill', Option.some.injEq] at hf
   subst hf
   exact ⟨c', rfl, hc⟩
 | @cons i v v' l l' hv hl ih =>
   intro c c1 c' hf hc
   simp only [fill'] at hf
   split at hf
   · cases hf
   · rename_i off size hpl
     split at hf
     · cases hf
     · rename_i hsz
       split at hf
       · rename_i c2 hs
         have hcl := hv.cells.length
         obtain ⟨h1, h2⟩ := over_VRs hc hv.cells hs
         obtain ⟨c1', h3, h4⟩ := ih hf (by simpa using h2)
         refine ⟨c1', ?_, h4⟩
         have hsz' : v'.cells.size = size := by
          rw [← Array.length_toList, hcl]
          exact nbeq_true hsz
         have hle : ¬ (off + v'.cells.size > c'.size) := by
          rw [← Array.length_toList (xs := c'), ← Array.length_toList (xs := v'.cells)]
          omega
         simp only [Instr.fill, hp _ _ hpl]
         rw [if_neg (by simp [hsz']; rw [hsz'] at hle; omega)]
         have hfold : v'.cells.zipIdx.foldl (fun cs (x : Value × Nat) => cs.setIfInBounds (off + x.2) x.1) c' = over c' off v'.cells.toList := by
          rw [← Array.foldl_toList, Array.toList_zipIdx]
          have := foldl_over off v'.cells.toList 0 c'
          simpa using this
         have hfold' : v'.cells.zipIdx.foldl (fun cs (c, j) => cs.setIfInBounds (off + j) c) c' = over c' off v'.cells.toList := hfold
         rw [hfold']
         simpa using h3
       · cases hf
theorem places_run (W : WfP P) {fs : Array Field} (hf : ∀ f ∈ fs.toList, ∃ i, P.info? f.type = some i) :
  (fs.mapM fun f => do pure (f.offset, ← sizeOf f.type) : Sem (Array (Nat × Nat))).run P w = .ok (fs.map fun f => (f.offset, P.cellsOf f.type)) w := by
 rw [Array.mapM_eq_mapM_toList]
 have aux : ∀ l : List Field, (∀ f ∈ l, ∃ i, P.info? f.type = some i) → (l.mapM fun f => do pure (f.offset, ← sizeOf f.type) : Sem (List (Nat × Nat))).run P w = .ok (l.map fun f => (f.offset, P.cellsOf f.type)) w := by
  intro l
  induction l with
  | nil => intro _; simp
  | cons f l ih =>
    intro hl
    obtain ⟨i, hi⟩ := hl f (by simp)
    have h1 : (sizeOf f.type).run P w = .ok (P.cellsOf f.type) w := run_sizeOf w hi
    simp only [List.mapM_cons, Sem.run_bind, h1, Result.andThen_ok, Sem.run_pure]
    rw [ih (fun f hf => hl f (by simp [hf]))]
    simp
 rw [Sem.run_map, aux _ hf]
 simp only [Result.andThen_ok, List.map_toArray]
 congr 1
 apply Array.ext'
 simp
theorem build_run (W : WfP P) {t : TypeId} {ps : List (Nat × Value)} {ps' : Array (Nat × Value)} (hps : PRs ρ ps ps'.toList) {v : Value} (hv : build' P t ps = some v) :
  ∃ v', (Instr.build t ps').run P w = .ok v' w ∧ VR ρ v v' := by
 unfold build' at hv
 split at hv
 · cases hv
 · rename_i z hz
   obtain ⟨hzr, hzv⟩ := zero_run (w := w) (ρ := ρ) hz
   split at hv
   · rename_i fields hu
     split at hv
     case h_2 => cases hv
     rename_i hall
     rw [List.all_eq_true] at hall
     split at hv
     · rename_i c hc
       injection hv with hv
       subst hv
       obtain ⟨c', h1, h2⟩ := fill_run (place' := fun i => (fields.map fun f => (f.offset, P.cellsOf f.type))[i]?) (fun i p hp => by
        split at hp
        · rename_i f hf
          split at hp
          · rename_i s hs
            have := (size_some (w := w) hs).2
            injection hp with hp
            subst hp
            have hf' : fields[i]? = some f := by simpa using hf
            simp [hf', this]
          · cases hp
        · cases hp) hps hc hzv.cells
       refine ⟨.agg c', ?_, .agg h2⟩
       simp only [Instr.build, Sem.run_bind, hzr, Result.andThen_ok, run_und hu, places_run W (fun f hf => Option.isSome_iff_exists.1 (hall f hf))]
       rw [h1]
       simp
     · cases hv
   · rename_i n e hu
     split at hv
     · rename_i s hs
       split at hv
       · rename_i c hc
         injection hv with hv
         subst hv
         obtain ⟨c', h1, h2⟩ := fill_run (place' := fun i => some (i * s, s)) (fun i p hp => hp) hps hc hzv.cells
         refine ⟨.agg c', ?_, .agg h2⟩
         simp only [Instr.build, Sem.run_bind, hzr, Result.andThen_ok, run_und hu, (size_some (w := w) hs).1]
         rw [h1]
         simp
       · cases hv
     · cases hv
   · cases hv
theorem loadVar_run (H : HR P ρ N h w) {t : TypeId} {p p' : Addr} {i : Img} (hp : AR ρ p p' i) {v : Value} (hv : loadVar' P h t p = some v) :
  ∃ v', (loadVar t p').run P w = .ok v' w ∧ VR ρ v v' := by
 unfold loadVar' at hv
 cases hu : P.underlying t with
 | none => rw [hu] at hv; cases hv
 | some d =>
   have agg : ∀ j, P.info? t = some j → (∀ w, (isAgg t).run P w = .ok true w) → ∀ l, h.loads p j.size = some l → v = Value.agg l.toArray → ∃ v', (loadVar t p').run P w = .ok v' w ∧ VR ρ v v' := by
    intro j hj ha l hl e
    subst e
    obtain ⟨l', h1, h2, _⟩ := H.loads (.inr ⟨i, hp⟩) hl
    exact ⟨.agg l', by simp [loadVar, ha, run_size hj, h1], .agg (by simpa using h2)⟩
   have cell : (∀ w, (isAgg t).run P w = .ok false w) → h.load p = some v → ∃ v', (loadVar t p').run P w = .ok v' w ∧ VR ρ v v' := by
    intro ha e
    obtain ⟨v', h1, h2⟩ := H.load hp e
    exact ⟨v', by simp only [loadVar, Sem.run_bind, ha, Result.andThen_ok, Bool.false_eq_true, if_false, run_load_cell h1], h2⟩
   rw [hu] at hv
   cases d <;> simp only [] at hv <;> first
    | exact cell (fun w => by simp [isAgg, run_und hu]) hv
    | (split at hv
       · rename_i j hj
         split at hv
         · rename_i l hl
           injection hv with hv
           exact agg j hj (fun w => by simp [isAgg, run_und hu]) l hl hv.symm
         · cases hv
       · cases hv)
end Go.Ev
end
section
namespace Go.Ev
open Go.RowKit
variable {P : Program} {ρ : Rho} {N : Bs} {h : Hp} {w : World} {a : A} {act : Act}
theorem natOf_VR {x x' : Value} (hx : VR ρ x x') {n : Nat} (hn : natOf x = some n) : ∃ k, x' = .int k n := by
 unfold natOf at hn
 split at hn
 · injection hn with hn
   subst hn
   cases hx
   exact ⟨_, rfl⟩
 · cases hn
inductive OVR (ρ : Rho) : Option Value → Option Value → Prop
 | none : OVR ρ none none
 | some {v v' : Value} (h : VR ρ v v') : OVR ρ (some v) (some v')
theorem bound_run {v v' : Value} (hv : VR ρ v v') {d top n : Nat} (hb : bound' (some v) d top = some n) (top' : Nat) (ht : top ≤ top') (code : BoundsCode) :
  (Instr.sliceBound v' top' code).run P w = .ok n w ∧ n ≤ top := by
 unfold bound' at hb
 split at hb
 · rename_i e; cases e
 · rename_i k m e
   injection e with e
   subst e
   cases hv
   split at hb
   · rename_i hle
     injection hb with hb
     subst hb
     have : m ≤ top := by simpa using hle
     refine ⟨?_, this⟩
     have hc : (0 : Int) ≤ (m : Int) ∧ (m : Int) ≤ (top' : Int) := by omega
     simp only [Instr.sliceBound, asIntOf, Sem.run_bind, Sem.run_pure, Result.andThen_ok, Sem.run_ite]
     rw [if_pos (by exact hc)]
     simp
   · cases hb
 · cases hb
theorem size_data (s : ByteArray) : s.size = s.data.toList.length := by rw [Array.length_toList]; rfl
theorem extract_eq (s : ByteArray) (l hh : Nat) : s.extract l hh = ⟨((s.data.toList.take hh).drop l).toArray⟩ := by
 rw [ByteArray.ext_iff, ByteArray.data_extract]
 apply Array.ext'
 rw [Array.toList_extract, List.extract_eq_take_drop]
 simp [List.drop_take]
theorem bounds_run {isS : Bool} {len cap cap' : Nat} {lo hi lo' hi' : Option Value} (hlo : OVR ρ lo lo') (hhi : OVR ρ hi hi')
  (hc : cap ≤ cap') (hlen : len ≤ cap) {hh l : Nat} (h1 : bound' hi len cap = some hh) (h2 : bound' lo 0 hh = some l) :
  (Instr.sliceBounds isS len cap' lo' hi' none).run P w = .ok (l, hh, cap') w ∧ l ≤ hh ∧ hh ≤ cap := by
 cases hhi with
 | none =>
   simp only [bound', Option.some.injEq] at h1
   subst h1
   cases hlo with
   | none =>
     simp only [bound', Option.some.injEq] at h2
     subst h2
     exact ⟨by simp [Instr.sliceBounds], by omega, hlen⟩
   | some hl =>
     have r := bound_run (P := P) (w := w) hl h2 len (Nat.le_refl _) .sliceB
     exact ⟨by simp [Instr.sliceBounds, r.1], r.2, hlen⟩
 | some hhv =>
   have q := fun code => bound_run (P := P) (w := w) hhv h1 cap' hc code
   cases hlo with
   | none =>
     simp only [bound', Option.some.injEq] at h2
     subst h2
     exact ⟨by simp [Instr.sliceBounds, (q _).1], by omega, (q .sliceB).2⟩
   | some hl =>
     have r := bound_run (P := P) (w := w) hl h2 hh (Nat.le_refl _) .sliceB
     exact ⟨by simp [Instr.sliceBounds, (q _).1, r.1], r.2, (q .sliceB).2⟩
theorem AR.add_zero {p p' : Addr} {i : Img} (hp : AR ρ p p' i) : AR ρ (p.add 0) p' i := by simpa [Addr.add] using hp
theorem cut_VR {p p' : Addr} {i : Img} (hp : AR ρ p p' i) {c c' l hh sz : Nat} (hc : CapOk i p.off c c') (h1 : l ≤ hh) (h2 : hh ≤ c) (hz : c' ≠ c → i.z = sz) :
  VR ρ (.slice (some (p.add (l * sz))) (hh - l) (c - l)) (.slice (if c' = l then some p' else some (p'.add (l * sz))) (hh - l) (c' - l)) := by
 by_cases hl : c' = l
 · have hcc : c ≤ c' := by rcases hc with h | h <;> omega
   have e1 : hh - l = 0 := by omega
   have e2 : c - l = 0 := by omega
   have e3 : c' - l = 0 := by omega
   rw [if_pos hl, e1, e2, e3]
   exact .slZero _ _ (i := i) (show ρ (Addr.add p _).block = some i by rw [add_block]; exact hp.2.1)
 · rw [if_neg hl]
   refine .sl (hp.add _) ?_
   rcases hc with rfl | ⟨he, hcc, hm⟩
   · exact .inl rfl
   · by_cases hcc' : c' = c
     · exact .inl (by rw [hcc'])
     · have hz' := hz hcc'
       subst hz'
       refine .inr ⟨he, by omega, ?_⟩
       rw [add_off]
       have : l * i.z + (c' - l) * i.z = c' * i.z := by rw [← Nat.add_mul]; congr 1; omega
       omega
theorem slice_run (H : HR P ρ N h w) {t : TypeId} {x x' : Value} {lo hi mx lo' hi' mx' : Option Value} (hx : VR ρ x x')
  (hlo : OVR ρ lo lo') (hhi : OVR ρ hi hi') (hmx : OVR ρ mx mx') {v : Value} (hv : slice' P h t x lo hi mx = some v) :
  ∃ v', (Instr.sliceAt t x' lo' hi' mx').run P w = .ok v' w ∧ VR ρ v v' := by
 unfold slice' at hv
 split at hv
 ·
   rename_i s hu
   cases hx
   split at hv
   · cases hv
   · cases hmx
     split at hv
     · rename_i hh h1
       split at hv
       · rename_i l h2
         injection hv with hv
         subst hv
         obtain ⟨hb, _, _⟩ := bounds_run (P := P) (w := w) (isS := false) (cap' := s.data.toList.length) hlo hhi (Nat.le_refl _) (Nat.le_refl _) h1 h2
         refine ⟨.string (s.extract l hh), ?_, by rw [extract_eq]; exact .string _⟩
         rw [← size_data] at hb
         simp [Instr.sliceAt, run_und hu, Instr.slice, hb]
       · cases hv
     · cases hv
 ·
   rename_i e b len cap hu
   split at hv
   · cases hv
   · rename_i sz hsz
     obtain ⟨hszr, hszc⟩ := size_some (w := w) hsz
     simp only [] at hv
     split at hv
     · cases hv
     · cases hv
     · rename_i hok hle0
       have hle : len ≤ cap := by simpa using hle0
       split at hv
       ·
         rename_i mv
         cases hmx with
         | @some _ mv' hmv =>
         split at hv
         · rename_i m h0
           split at hv
           · cases hv
           · rename_i hiv
             cases hhi with
             | @some _ hv' hhv =>
             split at hv
             · rename_i hh h1
               split at hv
               · rename_i l h2
                 injection hv with hv
                 subst hv
                 have base : ∀ b' c', x' = .slice b' len c' → cap ≤ c' →
                   VR ρ (.slice (b.map (·.add (l * sz))) (hh - l) (m - l)) (.slice (if m = l then b' else b'.map (·.add (l * sz))) (hh - l) (m - l)) →
                   ∃ v', (Instr.sliceAt t x' lo' (some hv') (some mv')).run P w = .ok v' w ∧ VR ρ (.slice (b.map (·.add (l * sz))) (hh - l) (m - l)) v' := by
                  intro b' c' ex hcc hvr
                  subst ex
                  refine ⟨_, ?_, hvr⟩
                  have r0 := bound_run (P := P) (w := w) hmv h0 c' hcc .slice3Acap
                  have r1 := bound_run (P := P) (w := w) hhv h1 m (Nat.le_refl _) .slice3B
                  cases hlo with
                  | none =>
                    simp only [bound', Option.some.injEq] at h2
                    subst h2
                    simp [Instr.sliceAt, run_und hu, Instr.slice, Instr.sliceBounds, r0.1, r1.1, hszr]
                  | some hlv =>
                    have r2 := bound_run (P := P) (w := w) hlv h2 hh (Nat.le_refl _) .slice3C
                    simp [Instr.sliceAt, run_und hu, Instr.slice, Instr.sliceBounds, r0.1, r1.1, r2.1, hszr]
                 have hm1 : m ≤ cap := (bound_run (P := P) (w := w) hmv h0 cap (Nat.le_refl _) .sliceB).2
                 have hh1 : hh ≤ m := (bound_run (P := P) (w := w) hhv h1 m (Nat.le_refl _) .sliceB).2
                 have hl1 : l ≤ hh := by
                  cases hlo with
                  | none => simp only [bound', Option.some.injEq] at h2; omega
                  | some hlv =>
                    exact (bound_run (P := P) (w := w) hlv h2 hh (Nat.le_refl _) .sliceB).2
                 cases hx with
                 | slNil =>
                   refine base none 0 rfl (Nat.le_refl _) ?_
                   have e1 : hh - l = 0 := by omega
                   have e2 : m - l = 0 := by omega
                   rw [e1, e2]
                   simpa using VR.slNil
                 | sl hp hc =>
                   refine base (some _) _ rfl (by rcases hc with h | h <;> omega) ?_
                   have := cut_VR (c := m) (c' := m) (l := l) (hh := hh) (sz := sz) hp (.inl rfl) hl1 hh1 (fun e => absurd rfl e)
                   simpa using this
                 | slZero p p' hz =>
                   refine base (some _) _ rfl (Nat.le_refl _) ?_
                   have e1 : hh - l = 0 := by omega
                   have e2 : m - l = 0 := by omega
                   have e3 : m = l := by omega
                   rw [e1, e2, if_pos e3]
                   exact .slZero _ _ (show ρ (Addr.add p _).block = some _ by rw [add_block]; exact hz)
               · cases hv
             · cases hv
         · cases hv
       · cases hmx
         split at hv
         · rename_i hh h1
           split at hv
           · rename_i l h2
             injection hv with hv
             subst hv
             have base : ∀ b' c', x' = .slice b' len c' → cap ≤ c' → (l ≤ hh → hh ≤ cap →
               VR ρ (.slice (b.map (·.add (l * sz))) (hh - l) (cap - l)) (.slice (if c' = l then b' else b'.map (·.add (l * sz))) (hh - l) (c' - l))) →
               ∃ v', (Instr.sliceAt t x' lo' hi' none).run P w = .ok v' w ∧ VR ρ (.slice (b.map (·.add (l * sz))) (hh - l) (cap - l)) v' := by
              intro b' c' ex hcc hvr
              subst ex
              obtain ⟨hb, g1, g2⟩ := bounds_run (P := P) (w := w) (isS := true) (cap' := c') hlo hhi hcc hle h1 h2
              exact ⟨_, by simp [Instr.sliceAt, run_und hu, Instr.slice, hb, hszr], hvr g1 g2⟩
             cases hx with
             | slNil =>
               refine base none 0 rfl (Nat.le_refl _) (fun g1 g2 => ?_)
               have e1 : hh - l = 0 := by omega
               have e2 : 0 - l = 0 := by omega
               rw [e1, e2]
               simpa using VR.slNil
             | @sl p p' i n c c' hp hc =>
               refine base (some _) _ rfl (by rcases hc with h | h <;> omega) (fun g1 g2 => ?_)
               refine cut_VR hp hc g1 g2 (fun hne => ?_)
               rcases hc with h | ⟨hex, _, _⟩
               · exact absurd h hne
               · simp only [] at hok
                 split at hok
                 · rename_i hb
                   have h2 := hp.2.1
                   rw [H.rid _ (by simpa using hb)] at h2
                   injection h2 with h2
                   rw [← h2] at hex
                   cases hex
                 split at hok
                 · rename_i r hsp hr
                   obtain ⟨arr, e0, fr, hw, hR, _⟩ := H.row hr hp.2.1
                   split at hok
                   · split at hok
                     · rename_i z0 hz0
                       have h5 := (size_some (w := w) hz0).2
                       have h6 := hR.2.2.2.2.2.2 hex
                       have h7 : z0 = sz := nbeq_true (by simpa using hok)
                       omega
                     · cases hok
                   · rename_i hgr
                     have := (hR.2.2.2.2.2.1 hgr).1
                     rw [this] at hex
                     cases hex
                 · cases hok
             | slZero p p' hz =>
               refine base (some _) _ rfl (Nat.le_refl _) (fun g1 g2 => ?_)
               have e1 : hh - l = 0 := by omega
               have e2 : 0 - l = 0 := by omega
               have e3 : 0 = l := by omega
               rw [e1, e2, if_pos e3]
               exact .slZero _ _ (show ρ (Addr.add p _).block = some _ by rw [add_block]; exact hz)
           · cases hv
         · cases hv
 ·
   rename_i n e p hu
   cases hx with
   | ptr hp =>
     split at hv
     · rename_i sz r hsz hsp hr
       obtain ⟨hszr, _⟩ := size_some (w := w) hsz
       split at hv
       · rename_i hgr
         cases hmx
         split at hv
         · rename_i hh h1
           split at hv
           · rename_i l h2
             injection hv with hv
             subst hv
             obtain ⟨hb, g1, g2⟩ := bounds_run (P := P) (w := w) (isS := false) (cap' := n) hlo hhi (Nat.le_refl _) (Nat.le_refl _) h1 h2
             have := cut_VR (c := n) (c' := n) (l := l) (hh := hh) (sz := sz) hp (.inl rfl) g1 g2 (fun e => absurd rfl e)
             refine ⟨_, ?_, this⟩
             simp only [Instr.sliceAt, Sem.run_bind, run_und hu, Result.andThen_ok, Instr.sureAddr, Sem.run_pure, hb, hszr]
             by_cases hnl : n = l <;> simp [hnl]
           · cases hv
         · cases hv
       · cases hv
     · cases hv
 · cases hv
theorem fieldAddr_run (H : HR P ρ N h w) {t : TypeId} {x x' : Value} {f : Nat} (hx : VR ρ x x') {v : Value} (hv : fieldAddr' P t x f = some v) :
  ∃ v', (Instr.fieldAt t x' f).run P w = .ok v' w ∧ VR ρ v v' := by
 unfold fieldAddr' at hv
 split at hv
 · rename_i fields p hu
   cases hx with
   | ptr hp =>
     split at hv
     · rename_i fd hf hsp
       split at hv
       · rename_i s hs
         injection hv with hv
         subst hv
         obtain ⟨hsr, _⟩ := size_some (w := w) hs
         have hf' : fields[f]? = some fd := by simpa using hf
         refine ⟨_, ?_, .ptr (hp.add fd.offset)⟩
         simp [Instr.fieldAt, run_und hu, hf', Instr.sureAddr, fieldPlace, hsr]
       · cases hv
     · cases hv
 · cases hv
theorem indexAddr_run (H : HR P ρ N h w) {t : TypeId} {x x' y y' : Value} (hx : VR ρ x x') (hy : VR ρ y y') {v : Value} (hv : indexAddr' P t x y = some v) :
  ∃ v', (Instr.indexAt t x' y').run P w = .ok v' w ∧ VR ρ v v' := by
 unfold indexAddr' at hv
 split at hv
 · rename_i e p len c k hu hk
   obtain ⟨kk, rfl⟩ := natOf_VR hy hk
   have one : ∀ p' c', x' = .slice (some p') len c' → k < len → ∀ s, sizeOf' P e = some s → ∀ i, AR ρ p p' i → ∃ v', (Instr.indexAt t x' (.int kk k)).run P w = .ok v' w ∧ VR ρ (.pointer (some (p.add (k * s)))) v' := by
    intro p' c' ex hlt s hs i hp
    subst ex
    obtain ⟨hsr, _⟩ := size_some (w := w) hs
    refine ⟨_, ?_, .ptr (hp.add (k * s))⟩
    have hc : (0 : Int) ≤ (k : Int) ∧ (k : Int) < (len : Int) := by omega
    simp [Instr.indexAt, asIntOf, run_und hu, hsr, hlt]
   split at hv
   · rename_i s hlt hs hsp
     injection hv with hv
     subst hv
     have hlt' : k < len := by simpa [Nat.blt_eq] using hlt
     cases hx with
     | sl hp hc => exact one _ _ rfl hlt' s hs _ hp
     | slZero => omega
   · cases hv
 · rename_i len e p k hu hk
   obtain ⟨kk, rfl⟩ := natOf_VR hy hk
   split at hv
   · rename_i s hlt hs hsp
     injection hv with hv
     subst hv
     have hlt' : k < len := by simpa [Nat.blt_eq] using hlt
     cases hx with
     | ptr hp =>
       obtain ⟨hsr, _⟩ := size_some (w := w) hs
       refine ⟨_, ?_, .ptr (hp.add (k * s))⟩
       simp [Instr.indexAt, asIntOf, run_und hu, hsr, hlt', Instr.sureAddr]
   · cases hv
 · cases hv
theorem index_run {t : TypeId} {x x' y y' : Value} (hx : VR ρ x x') (hy : VR ρ y y') {v : Value} (hv : index' P t x y = some v) :
  ∃ v', (Instr.index t x' y').run P w = .ok v' w ∧ VR ρ v v' := by
 unfold index' at hv
 split at hv
 · rename_i len e cs k hu hk
   obtain ⟨kk, rfl⟩ := natOf_VR hy hk
   split at hv
   · rename_i s hlt hs
     have hlt' : k < len := by simpa [Nat.blt_eq] using hlt
     cases hx with
     | agg hc =>
       obtain ⟨hsr, _⟩ := size_some (w := w) hs
       obtain ⟨v', h1, h2⟩ := part_run (w := w) hv hc
       refine ⟨v', ?_, h2⟩
       simp [Instr.index, asIntOf, run_und hu, hsr, hlt', h1]
   · cases hv
 · rename_i s k hu hk
   obtain ⟨kk, rfl⟩ := natOf_VR hy hk
   split at hv
   · rename_i b hb
     injection hv with hv
     subst hv
     cases hx
     refine ⟨_, ?_, .int _ _⟩
     have hb' : s[k]? = some b := by
      have hb2 : s.data[k]? = some b := by simpa using hb
      rw [← hb2]
      rfl
     have h0 : (0 : Int) ≤ (k : Int) := by omega
     simp [Instr.index, asIntOf, run_und hu, hb']
   · cases hv
 · cases hv
end Go.Ev
end
section
namespace Go.Ev
open Go.RowKit
variable {P : Program} {ρ : Rho} {N : Bs} {h : Hp} {w : World} {a : A} {act : Act}
theorem checkKey_run (W : WfP P) : ∀ (d : Nat) (t : TypeId) (v v' : Value), keyOk P d t v = true → VR ρ v v' → ∀ D, d ≤ D → ∀ em, (Instr.checkKey em D t v').run P w = .ok () w := by
 intro d
 induction d with
 | zero => intro t v v' hk; simp [keyOk] at hk
 | succ d ih =>
   intro t v v' hk hv D hD em
   obtain ⟨D, rfl⟩ : ∃ k, D = k + 1 := ⟨D - 1, by omega⟩
   cases hu : P.underlying t with
   | none => simp only [keyOk, hu] at hk; cases hk
   | some q =>
   cases q
   case interface ms =>
    simp only [keyOk, hu] at hk
    cases hv <;> simp only [] at hk <;> first
     | (cases hk; done)
     | (simp [Instr.checkKey, run_und hu]; done)
     | skip
    rename_i hx
    split at hk
    · rename_i i hi
      split at hk
      · rename_i hc
        have := ih _ _ _ hk hx D (by omega) em
        simp [Instr.checkKey, run_und hu, run_info hi, hc, this]
      · cases hk
    · cases hk
   case array n e =>
    simp only [keyOk, hu] at hk
    cases hv <;> cases hk
   case struct fields =>
    simp only [keyOk, hu] at hk
    cases hv <;> simp only [] at hk <;> first
     | (cases hk; done)
     | skip
    rename_i cs cs' hc
    simp only [Instr.checkKey, Sem.run_bind, run_und hu, Result.andThen_ok]
    rw [← Array.forIn_toList]
    have aux : ∀ fs : List Field, (fs.all fun f => match f.name == "_" with
      | true => true
      | false => match part P f.type cs.toList f.offset with
        | some p => keyOk P d f.type p
        | none => false) = true →
      (forIn fs PUnit.unit fun f r => (do
       if f.name ≠ "_" then do
        Instr.checkKey em D f.type (← Go.part f.type cs' f.offset)
        pure PUnit.unit
        pure (ForInStep.yield PUnit.unit)
       else do
        pure PUnit.unit
        pure (ForInStep.yield PUnit.unit) : Sem (ForInStep PUnit))).run P w = .ok PUnit.unit w := by
     intro fs
     induction fs with
     | nil => intro _; simp
     | cons f fs ihf =>
       intro hall
       simp only [List.all_cons, Bool.and_eq_true] at hall
       obtain ⟨h1, h2⟩ := hall
       simp only [List.forIn_cons]
       by_cases hn : f.name = "_"
       · simp only [hn, ne_eq, not_true, if_false, Sem.run_bind, Sem.run_pure, Result.andThen_ok]
         exact ihf h2
       · have hb : (f.name == "_") = false := by simpa using hn
         rw [hb] at h1
         simp only [] at h1
         split at h1
         · rename_i p hp
           obtain ⟨p', e1, e2⟩ := part_run (w := w) hp hc
           have := ih _ _ _ h1 e2 D (by omega) em
           simp only [ne_eq, hn, not_false_eq_true, if_true, Sem.run_bind, e1, Result.andThen_ok, this, Sem.run_pure]
           exact ihf h2
         · cases h1
    have := aux fields.toList hk
    simp at this ⊢
    rw [this]
    rfl
   all_goals simp [Instr.checkKey, run_und hu]
end Go.Ev
end
section
namespace Go.Ev
open Go.RowKit
variable {P : Program} {ρ : Rho} {N : Bs} {h : Hp} {w : World} {a : A} {act : Act}
theorem MRs.length : ∀ {l l' : List MapEntry}, MRs ρ l l' → l'.length = l.length
 | _, _, .nil => rfl
 | _, _, .cons _ _ _ k => by simp [MRs.length k]
theorem MRs.get : ∀ {l l' : List MapEntry}, MRs ρ l l' → ∀ {k : Nat} {e : MapEntry}, l[k]? = some e → ∃ e', l'[k]? = some e' ∧ VR ρ e.key e'.key ∧ VR ρ e.val e'.val ∧ e'.born = e.born
 | _, _, .nil, k, e, h => by simp at h
 | _, _, .cons (e' := e') hk hv hb _, 0, e, h => by simp at h; subst h; exact ⟨e', rfl, hk, hv, hb⟩
 | _, _, .cons _ _ _ r, k + 1, e, h => by simp at h; simpa using MRs.get r h
theorem sameNow_eqv {t : TypeId} {kind : TypeDesc} (hu : P.underlying t = some kind) {k k' y y' : Value} (hk : VR ρ k k') (hy : VR ρ y y') {r b : Bool} {d : Nat} (hr : eqv P h (d + 1) t k y = some r) (hb : Instr.sameNow kind k' y' = some b) : b = r := by
 unfold Instr.sameNow at hb
 split at hb
 · cases hk; cases hy
   simp only [eqv, hu] at hr
   split at hr
   · injection hr with hr
     split at hb
     · injection hb with hb
       rw [← hb, ← hr, intEq_beq]
     · cases hb
   · cases hr
 · cases hk; cases hy
   simp only [eqv, hu] at hr
   injection hr with hr
   injection hb with hb
   rw [← hb, ← hr, bytesEq_beq, beq_toListBytes, ByteArray.toList_eq, ByteArray.toList_eq]
 · cases hk; cases hy
   simp only [eqv, hu] at hr
   injection hr with hr
   injection hb with hb
   rw [← hb, ← hr]
 · cases hb
inductive FR (ρ : Rho) : Option (Nat × Value) → Option (Nat × Value) → Prop
 | none : FR ρ none none
 | some {i : Nat} {v v' : Value} (h : VR ρ v v') : FR ρ (some (i, v)) (some (i, v'))
theorem find_run (H : HR P ρ N h w) {t : TypeId} {kind : TypeDesc} (hu : P.underlying t = some kind) {k k' : Value} (hk : VR ρ k k') : ∀ {es es' : List MapEntry}, MRs ρ es es' → ∀ {i : Nat} {res : Option (Nat × Value)}, find' P h t k es i = some res →
  ∃ res', (Instr.findNow kind k' es' i = none ∨ Instr.findNow kind k' es' i = some res') ∧ (Instr.findAsking t k' es' i).run P w = .ok res' w ∧ FR ρ res res' := by
 intro es es' hes
 induction hes with
 | nil =>
   intro i res hf
   simp only [find', Option.some.injEq] at hf
   subst hf
   exact ⟨none, .inr rfl, by simp [Instr.findAsking], .none⟩
 | @cons e e' l l' hke hve hbe hl ih =>
   intro i res hf
   simp only [find'] at hf
   split at hf
   · rename_i he
     injection hf with hf
     subst hf
     refine ⟨some (i, e'.val), ?_, ?_, .some hve⟩
     · simp only [Instr.findNow]
       cases hs : Instr.sameNow kind k' e'.key with
       | none => exact .inl rfl
       | some b =>
         have := sameNow_eqv hu hk hke he hs
         subst this
         exact .inr rfl
     · simp [Instr.findAsking, equal_run H he hk hke]
   · rename_i he
     obtain ⟨res', h1, h2, h3⟩ := ih hf
     refine ⟨res', ?_, ?_, h3⟩
     · simp only [Instr.findNow]
       cases hs : Instr.sameNow kind k' e'.key with
       | none => exact .inl rfl
       | some b =>
         have := sameNow_eqv hu hk hke he hs
         subst this
         exact h1
     · simp [Instr.findAsking, equal_run H he hk hke, h2]
   · cases hf
theorem findKey_run (H : HR P ρ N h w) {t : TypeId} {k k' : Value} (hk : VR ρ k k') {es es' : List MapEntry} (hes : MRs ρ es es') {res : Option (Nat × Value)} (hf : find' P h t k es 0 = some res) {kind : TypeDesc} (hu : P.underlying t = some kind) :
  ∃ res', (Instr.findKey t k' es').run P w = .ok res' w ∧ FR ρ res res' := by
 obtain ⟨res', h1, h2, h3⟩ := find_run H hu hk hes hf
 refine ⟨res', ?_, h3⟩
 simp only [Instr.findKey, Sem.run_bind, run_und hu, Result.andThen_ok]
 rcases h1 with h1 | h1 <;> rw [h1]
 · exact h2
 · simp
theorem run_getMap {r : Nat} {es : Array MapEntry} {k : Nat} (hw : w.heap[r]? = some (.map es k)) : (getObj r).run P w = .ok (.map es k) w := by
 simp [getObj, Sem.run, hw]
theorem entries_run (H : HR P ρ N h w) {x x' : Value} (hx : VR ρ x x') {es : List MapEntry} (he : entriesOf h x = some es) :
  (x' = .map none ∧ es = []) ∨ ∃ (r : Nat) (es' : Array MapEntry) (k : Nat), x' = .map (some r) ∧ (getObj r).run P w = .ok (.map es' k) w ∧ MRs ρ es es'.toList := by
 unfold entriesOf at he
 split at he
 · cases hx
   injection he with he
   subst he
   exact .inl ⟨rfl, rfl⟩
 · rename_i r
   cases hx with
   | map hi =>
     split at he
     · rename_i es1 k hm
       injection he with he
       subst he
       obtain ⟨es', hw, hR, _⟩ := H.map? hm hi
       exact .inr ⟨_, es', k, rfl, run_getMap hw, hR⟩
     · cases he
 · cases he
theorem und_of_keyOk {d : Nat} {t : TypeId} {v : Value} (hk : keyOk P d t v = true) : ∃ kind, P.underlying t = some kind := by
 cases d with
 | zero => simp [keyOk] at hk
 | succ d =>
   cases hu : P.underlying t with
   | none => simp [keyOk, hu] at hk
   | some q => exact ⟨q, rfl⟩
theorem lookup_run (W : WfP P) (H : HR P ρ N h w) {t : TypeId} {x x' k k' : Value} (hx : VR ρ x x') (hk : VR ρ k k') {ok : Bool} {v : Value} (hv : lookup' P h t x k ok = some v) :
  ∃ v', (Instr.lookup t x' k' ok).run P w = .ok v' w ∧ VR ρ v v' := by
 unfold lookup' at hv
 split at hv
 · rename_i kt et hu
   split at hv
   · rename_i es hes hko
     obtain ⟨kind, hkd⟩ := und_of_keyOk hko
     have fin : ∀ (v v' : Value) (b : Bool), VR ρ v v' → VR ρ (if ok then .tuple #[v, .bool b] else v) (if ok then .tuple #[v', .bool b] else v') := by
      intro v v' b hvv
      cases ok
      · simpa using hvv
      · simpa using VR.tuple (c := #[v, .bool b]) (c' := #[v', .bool b]) (.cons hvv (.cons (.bool b) .nil))
     have hck := fun em => checkKey_run (w := w) W 40 kt k k' hko hk 10000 (by omega) em
     have main : ∀ (es' : List MapEntry), MRs ρ es es' → ∃ res', (Instr.findKey kt k' es').run P w = .ok res' w ∧
       ((∃ j u', res' = some (j, u') ∧ VR ρ v (if ok then .tuple #[u', .bool true] else u')) ∨ (res' = none ∧ ∃ z, (zeroValue et).run P w = .ok z w ∧ VR ρ v (if ok then .tuple #[z, .bool false] else z))) := by
      intro es' hR
      split at hv
      · rename_i j u hf
        injection hv with hv
        subst hv
        obtain ⟨res', h1, h2⟩ := findKey_run H hk hR hf hkd
        cases h2 with
        | some hu2 => exact ⟨_, h1, .inl ⟨_, _, rfl, fin _ _ true hu2⟩⟩
      · rename_i hf
        obtain ⟨res', h1, h2⟩ := findKey_run H hk hR hf hkd
        split at hv
        · rename_i z hz
          injection hv with hv
          subst hv
          obtain ⟨hzr, hzv⟩ := zero_run (w := w) (ρ := ρ) hz
          cases h2 with
          | none => exact ⟨_, h1, .inr ⟨rfl, _, hzr, fin _ _ false hzv⟩⟩
        · cases hv
      · cases hv
     rcases entries_run H hx hes with ⟨rfl, rfl⟩ | ⟨r, es', kk, rfl, hg, hR⟩
     · obtain ⟨res', e1, e2⟩ := main [] .nil
       rcases e2 with ⟨j, u', rfl, e2⟩ | ⟨rfl, z, e3, e2⟩
       · exact ⟨_, by simp [Instr.lookup, run_und hu, hck, e1], e2⟩
       · exact ⟨_, by simp [Instr.lookup, run_und hu, hck, e1, e3], e2⟩
     · obtain ⟨res', e1, e2⟩ := main es'.toList hR
       rcases e2 with ⟨j, u', rfl, e2⟩ | ⟨rfl, z, e3, e2⟩
       · exact ⟨_, by simp [Instr.lookup, run_und hu, hck, hg, e1], e2⟩
       · exact ⟨_, by simp [Instr.lookup, run_und hu, hck, hg, e1, e3], e2⟩
   · cases hv
 · cases hv
theorem least_some {l : List String} (h : l ≠ []) : ∃ s, Instr.least l = some s := by
 cases l with
 | nil => exact absurd rfl h
 | cons x r => exact ⟨_, rfl⟩
theorem least_either (dotted : String → Bool) (g : String → String) (l : List String) (hl : l ≠ []) :
  ∃ s, (Instr.least (l.filter (not ∘ dotted)) <|> Instr.least ((l.filter dotted).map g)) = some s := by
 cases l with
 | nil => exact absurd rfl hl
 | cons x r =>
   by_cases hx : dotted x = true
   · have h1 : (x :: r).filter dotted ≠ [] := by
      rw [List.filter_cons_of_pos hx]; simp
     cases hl : Instr.least ((x :: r).filter (not ∘ dotted)) with
     | some s => exact ⟨s, rfl⟩
     | none =>
       obtain ⟨s, hs⟩ := least_some (l := ((x :: r).filter dotted).map g) (by simpa using h1)
       exact ⟨s, by rw [hs]; rfl⟩
   · have h1 : (x :: r).filter (not ∘ dotted) ≠ [] := by
      rw [List.filter_cons_of_pos (by simpa using hx)]; simp
     obtain ⟨s, hs⟩ := least_some h1
     exact ⟨s, by rw [hs]; rfl⟩
theorem missing_iff (want : Array (String × TypeId)) (got : Array Method) :
  ((want.toList.all fun (n, s) => got.toList.any fun m => m.name == n && Nat.beq m.sig s) = true → Instr.missingMethod want got = none) ∧
  ((want.toList.all fun (n, s) => got.toList.any fun m => m.name == n && Nat.beq m.sig s) = false → ∃ s, Instr.missingMethod want got = some s) := by
 have hany : ∀ (n : String) (s : TypeId), (got.any fun m => m.name == n && m.sig == s) = (got.toList.any fun m => m.name == n && Nat.beq m.sig s) := by
  intro n s
  rw [← Array.any_toList]
  congr 1
  funext m
  congr 1
  rw [Bool.eq_iff_iff]
  simp
 constructor
 · intro hall
   have : (want.toList.filter fun (x : String × TypeId) => !got.any fun m => m.name == x.1 && m.sig == x.2) = [] := by
    rw [List.filter_eq_nil_iff]
    intro x hx
    rw [List.all_eq_true] at hall
    have := hall x hx
    simp only [hany]
    simpa using this
   simp only [Instr.missingMethod]
   have h2 : (want.toList.filter fun x => match x with
    | (name, sig) => !got.any fun m => m.name == name && m.sig == sig) = [] := this
   rw [h2]
   rfl
 · intro hall
   have hne : (want.toList.filter fun (x : String × TypeId) => !got.any fun m => m.name == x.1 && m.sig == x.2) ≠ [] := by
    intro e
    rw [List.filter_eq_nil_iff] at e
    have : (want.toList.all fun (n, s) => got.toList.any fun m => m.name == n && Nat.beq m.sig s) = true := by
     rw [List.all_eq_true]
     intro x hx
     have := e x hx
     simp only [hany] at this
     simpa using this
    rw [this] at hall
    cases hall
   simp only [Instr.missingMethod]
   generalize hL : (want.toList.filter fun x => match x with
    | (name, sig) => !got.any fun m => m.name == name && m.sig == sig) = L
   have hL' : L ≠ [] := by rw [← hL]; exact hne
   simp only [List.partition_eq_filter_filter]
   exact least_either _ _ _ (by simpa using hL')
end Go.Ev
end
section
namespace Go.Ev
open Go.RowKit
variable {P : Program} {ρ : Rho} {N : Bs} {h : Hp} {w : World} {a : A} {act : Act}
theorem typeAssert_run {x x' : Value} (hx : VR ρ x x') {xt t : TypeId} {ok : Bool} {v : Value} (hv : typeAssert' P x t ok = some v) :
  ∃ v', (Instr.typeAssert x' xt t ok).run P w = .ok v' w ∧ VR ρ v v' := by
 have fails : ∀ {z : Value}, zero' P t = some z → (zeroValue t).run P w = .ok z w ∧ VR ρ (.tuple #[z, .bool false]) (.tuple #[z, .bool false]) := by
  intro z hz
  obtain ⟨h1, h2⟩ := zero_run (w := w) (ρ := ρ) hz
  exact ⟨h1, .tuple (c := #[z, .bool false]) (c' := #[z, .bool false]) (.cons h2 (.cons (.bool false) .nil))⟩
 have holds : ∀ {u u' : Value}, VR ρ u u' → VR ρ (if ok then .tuple #[u, .bool true] else u) (if ok then .tuple #[u', .bool true] else u') := by
  intro u u' hu
  cases ok
  · simpa using hu
  · simpa using VR.tuple (c := #[u, .bool true]) (c' := #[u', .bool true]) (.cons hu (.cons (.bool true) .nil))
 unfold typeAssert' at hv
 split at hv
 · rename_i want ti u hu
   have hx0 := hx
   cases hx with
   | @iface _ _ u' hxu =>
   split at hv
   · rename_i i hi
     split at hv
     · rename_i hall
       injection hv with hv
       subst hv
       have := (missing_iff want i.methods).1 hall
       exact ⟨_, by simp [Instr.typeAssert, run_und hu, run_info hi, this], holds hx0⟩
     · rename_i hall
       split at hv
       · rename_i z hz
         injection hv with hv
         subst hv
         obtain ⟨s, hs⟩ := (missing_iff want i.methods).2 hall
         exact ⟨_, by simp [Instr.typeAssert, run_und hu, run_info hi, hs, (fails hz).1], (fails hz).2⟩
       · cases hv
   · cases hv
 · rename_i q hu
   cases hx
   split at hv
   · rename_i z hz
     injection hv with hv
     subst hv
     refine ⟨_, ?_, (fails hz).2⟩
     cases q <;> simp [Instr.typeAssert, run_und hu, (fails hz).1]
   · cases hv
 · cases hv
 · rename_i q ti u hni hu
   cases hx with
   | iface hxu =>
   split at hv
   · rename_i he
     injection hv with hv
     subst hv
     have : ti = t := nbeq_true he
     subst this
     refine ⟨_, ?_, holds hxu⟩
     cases q <;> first | (simp [Instr.typeAssert, run_und hu]; done) | (exact absurd rfl (hni _)) | (simp_all; done)
   · rename_i he
     have hne : ti ≠ t := nbeq_false he
     split at hv
     · rename_i z hz
       injection hv with hv
       subst hv
       refine ⟨_, ?_, (fails hz).2⟩
       cases q <;> first | (simp [Instr.typeAssert, run_und hu, hne, (fails hz).1]; done) | (exact absurd rfl (hni _)) | (simp_all; done)
     · cases hv
 · cases hv
theorem bornAt_spec {b : Nat} : ∀ {l l' : List MapEntry}, MRs ρ l l' → ∀ {k j : Nat}, bornAt b l k = some j →
  k ≤ j ∧ ∃ e e', l[j - k]? = some e ∧ l'[j - k]? = some e' ∧ l'.find? (fun e => e.born == b) = some e' ∧ l'.findIdx? (fun e => e.born == b) = some (j - k) ∧ VR ρ e.key e'.key ∧ VR ρ e.val e'.val ∧ e'.born = b ∧ e.born = b := by
 intro l l' hl
 induction hl with
 | nil => intro k j hb; simp [bornAt] at hb
 | @cons e e' l l' hk hv he hl ih =>
   intro k j hb
   simp only [bornAt] at hb
   split at hb
   · rename_i hbe
     injection hb with hb
     subst hb
     have := nbeq_true hbe
     have hbb : (e'.born == b) = true := by simp [he, this]
     exact ⟨Nat.le_refl _, e, e', by simp, by simp, by simp [List.find?, hbb], by simp [List.findIdx?_cons, hbb], hk, hv, by omega, this⟩
   · rename_i hbe
     have hne := nbeq_false hbe
     obtain ⟨h1, e1, e1', h2, h3, h4, h5, h6⟩ := ih hb
     have hbb : (e'.born == b) = false := by simp [he, hne]
     have hj : j - k = (j - (k + 1)) + 1 := by omega
     refine ⟨by omega, e1, e1', by rw [hj]; simpa using h2, by rw [hj]; simpa using h3, by simpa [List.find?, hbb] using h4, by simp [List.findIdx?_cons, hbb, h5]; omega, h6⟩
theorem entry_run (H : HR P ρ N h w) {x x' : Value} (hx : VR ρ x x') {v : Value} (hv : entry' h x = some v) : ∃ v', (Instr.entry x').run P w = .ok v' w ∧ VR ρ v v' := by
 unfold entry' at hv
 split at hv
 · rename_i p
   cases hx with
   | @ptr _ p' i hp =>
   split at hv
   · rename_i m since seen st hoff hobj
     obtain ⟨o', ho, hR⟩ := H.obj p.block _ i hobj (fun r hr => by rw [hobj] at hr; cases hr) hp.2.1
     cases o' <;> simp only [ObjR] at hR
     rename_i m' since' seen' st'
     obtain ⟨hm, rfl, hseen, rfl, hs0⟩ := hR
     cases m' with
     | none => simp at hm
     | some m' =>
     obtain ⟨j, hj, rfl⟩ := hm
     split at hv
     · rename_i b es clock hb hmap
       obtain ⟨es', hw, hMR, _⟩ := H.map? hmap hj
       split at hv
       · rename_i k hc hk
         obtain ⟨h0, e, e', g1, g2, g3, g4, g5, g6, g7, g8⟩ := bornAt_spec hMR hk
         rw [Nat.sub_zero] at g1
         rw [g1] at hv
         injection hv with hv
         subst hv
         have hclock := nbeq_true hc
         have hback : seen'.back? = some b := by rw [← hseen] at hb; simpa using hb
         have hfind : es'.find? (fun e => e.born == b) = some e' := by rw [← Array.find?_toList]; exact g3
         refine ⟨_, ?_, .tuple (c := #[e.key, e.val]) (c' := #[e'.key, e'.val]) (.cons g5 (.cons g6 .nil))⟩
         rw [hp.fn]
         have hz : i.s + p.off = 0 := by omega
         rw [hz]
         simp [Instr.entry, getObj, Sem.run, ho, hback, hw, hclock, hfind]
       · cases hv
     · cases hv
   · cases hv
 · cases hv
theorem minmax_run (big : Bool) : ∀ (l : List Value) (x v : Value) (x' : Value) (l' : List Value), minmax' big x l = some v → VR ρ x x' → VRs ρ l l' →
  (l'.foldlM (if big then Builtin.max2 else Builtin.min2) x').run P w = .ok v w ∧ VR ρ v v ∨ (l = [] ∧ v = x)
 | [], x, v, x', l', hv, hx, hl => by
   cases hl
   simp only [minmax', Option.some.injEq] at hv
   exact .inr ⟨rfl, hv.symm⟩
 | y :: l, x, v, x', l', hv, hx, hl => by
   cases hl with
   | cons hy hl =>
   unfold minmax' at hv
   split at hv
   · rename_i e; cases e
   · rename_i k n k2 m r e
     injection e with e1 e2
     subst e1
     subst e2
     cases hx
     cases hy
     have step : ((if big then Builtin.max2 else Builtin.min2) (.int k n) (.int k2 m)).run P w = .ok (.int k (mm big n m)) w := by
      cases big
      · simp only [mm, intLt_lt, Bool.false_eq_true, if_false, Builtin.min2, Sem.run_pure]
        by_cases hlt : m < n <;> simp [hlt]
      · simp only [mm, intLt_lt, if_true, Builtin.max2, Sem.run_pure]
        by_cases hlt : n < m
        · simp [hlt]
        · simp [hlt]
     rcases minmax_run big l _ v _ _ hv (.int k _) hl with h1 | ⟨rfl, rfl⟩
     · left
       refine ⟨?_, h1.2⟩
       rw [List.foldlM_cons, Sem.run_bind, step]
       exact h1.1
     · cases hl
       left
       refine ⟨?_, .int _ _⟩
       rw [List.foldlM_cons, Sem.run_bind, step]
       simp
   · cases hv
theorem VRs.cons_inv {x : Value} {l m : List Value} (h : VRs ρ (x :: l) m) : ∃ x' l', m = x' :: l' ∧ VR ρ x x' ∧ VRs ρ l l' := by
 cases h with
 | cons h k => exact ⟨_, _, rfl, h, k⟩
theorem lenOf_run {x x' : Value} (hx : VR ρ x x') {n : Nat} (hn : lenOf' x = some n) : (Builtin.lenOf x').run P w = .ok n w := by
 unfold lenOf' at hn
 split at hn
 · injection hn with hn
   subst hn
   cases hx <;> simp [Builtin.lenOf]
 · cases hx
   injection hn with hn
   subst hn
   simp only [Builtin.lenOf, Sem.run_pure, size_data]
 · cases hn
theorem len_run (H : HR P ρ N h w) {ts : Array TypeId} {l : List Value} {l' : Array Value} (hl : VRs ρ l l'.toList) {ty : TypeId} {v : Value} (hv : len' P h ts.toList l = some v) :
  ∃ v', (Builtin.len_ ts ty l').run P w = .ok v' w ∧ VR ρ v v' := by
 unfold len' at hv
 split at hv
 · rename_i t tr x xr ht
   have h0 : ts[0]? = some t := by rw [← Array.getElem?_toList, ht]; rfl
   obtain ⟨x', l2, hl3, hxv, hl2⟩ := hl.cons_inv
   have h1 : l'[0]? = some x' := by rw [← Array.getElem?_toList, hl3]; rfl
   split at hv
   · rename_i s hu
     cases hxv
     injection hv with hv
     subst hv
     exact ⟨.int .i64 s.data.toList.length, by rw [← size_data]; simp [Builtin.len_, h0, h1, run_und hu, goInt], .int _ _⟩
   · rename_i n e hu
     injection hv with hv
     subst hv
     (refine ⟨_, ?_, .int _ _⟩; simp [Builtin.len_, h0, h1, run_und hu, goInt])
   · rename_i e b n c hu
     injection hv with hv
     subst hv
     cases hxv <;> (refine ⟨_, ?_, .int _ _⟩; simp [Builtin.len_, h0, h1, run_und hu, goInt])
   · rename_i k e hu
     cases hxv
     injection hv with hv
     subst hv
     (refine ⟨_, ?_, .int _ _⟩; simp [Builtin.len_, h0, h1, run_und hu, goInt])
   · rename_i k e r hu
     cases hxv with
     | map hi =>
     split at hv
     · rename_i es kk hm
       injection hv with hv
       subst hv
       obtain ⟨es', hw, hMR, _⟩ := H.map? hm hi
       have : es'.size = es.length := by rw [← Array.length_toList]; exact hMR.length
       refine ⟨_, ?_, .int _ _⟩
       simp [Builtin.len_, h0, h1, run_und hu, run_getMap hw, this, goInt]
     · cases hv
   · cases hv
 · cases hv
theorem cap_run (H : HR P ρ N h w) {ts : Array TypeId} {l : List Value} {l' : Array Value} (hl : VRs ρ l l'.toList) {ty : TypeId} {v : Value} (hv : cap' P h ts.toList l = some v) :
  ∃ v', (Builtin.cap_ ts ty l').run P w = .ok v' w ∧ VR ρ v v' := by
 unfold cap' at hv
 split at hv
 · rename_i t tr x xr ht
   have h0 : ts[0]? = some t := by rw [← Array.getElem?_toList, ht]; rfl
   obtain ⟨x', l2, hl3, hxv, hl2⟩ := hl.cons_inv
   have h1 : l'[0]? = some x' := by rw [← Array.getElem?_toList, hl3]; rfl
   split at hv
   · rename_i e m n hu
     injection hv with hv
     subst hv
     cases hxv
     (refine ⟨_, ?_, .int _ _⟩; simp [Builtin.cap_, h0, h1, run_und hu, goInt])
   · rename_i e p m n hu
     split at hv
     · rename_i r hr
       split at hv
       · rename_i hg
         injection hv with hv
         subst hv
         cases hxv with
         | sl hp hc =>
           obtain ⟨arr, e0, fr, hw, hR, _⟩ := H.row hr hp.2.1
           have hex := (hR.2.2.2.2.2.1 hg).1
           rcases hc with rfl | ⟨hx, _⟩
           · (refine ⟨_, ?_, .int _ _⟩; simp [Builtin.cap_, h0, h1, run_und hu, goInt])
           · rw [hex] at hx; cases hx
         | slZero => (refine ⟨_, ?_, .int _ _⟩; simp [Builtin.cap_, h0, h1, run_und hu, goInt])
       · cases hv
     · cases hv
   · cases hv
 · cases hv
end Go.Ev
end
section
namespace Go.Ev
open Go.RowKit
variable {P : Program} {ρ : Rho} {N : Bs} {h : Hp} {w : World} {a : A} {act : Act}
theorem ovr_of (A : ActR ρ a act) {x : Option Operand} (hx : ∀ o, x = some o → ∃ v, a.ev o = some v) : OVR ρ (x.bind a.ev) (x.map act.eval) := by
 cases x with
 | none => exact .none
 | some o =>
   obtain ⟨v, hv⟩ := hx o rfl
   have : (some o).bind a.ev = some v := hv
   rw [this]
   exact .some (A.ev hv)
theorem evList_mem {xs : List Operand} {l : List Value} (h : evList a xs = some l) {o : Operand} (ho : o ∈ xs) : ∃ v, a.ev o = some v := by
 induction xs generalizing l with
 | nil => cases ho
 | cons x xs ih =>
   simp only [evList] at h
   split at h
   · rename_i v r hv hr
     rcases List.mem_cons.1 ho with rfl | ho
     · exact ⟨v, hv⟩
     · exact ih hr ho
   · cases h
theorem reader_run (W : WfP P) (H : HR P ρ N h w) (A : ActR ρ a act) (o : Oper) (hr : isReader o.op = true) {v : Value} (hv : reader' P h a o.op = some v) :
  ∃ v', (execOp act.eval o).run P w = .ok (.value v') w ∧ VR ρ v v' := by
 obtain ⟨dst, op, ty, pos, after, guard⟩ := o
 simp only at hr hv
 have fin : ∀ {s : Sem Value} {v' : Value}, s.run P w = .ok v' w → (do pure (.value (← s)) : Sem Next).run P w = .ok (.value v') w := by
  intro s v' hs
  simp [hs]
 cases op <;> simp only [isReader] at hr <;> try (cases hr; done)
 case move x =>
  simp only [reader'] at hv
  exact ⟨_, by simp [execOp], A.ev hv⟩
 case assign x =>
  simp only [reader'] at hv
  exact ⟨_, by simp [execOp], A.ev hv⟩
 case pick c x y =>
  simp only [reader'] at hv
  split at hv
  · rename_i hc
    have := A.ev hc
    generalize hcv : act.eval c = cv at this
    cases this
    exact ⟨_, by simp [execOp, hcv, asBool], A.ev hv⟩
  · rename_i hc
    have := A.ev hc
    generalize hcv : act.eval c = cv at this
    cases this
    exact ⟨_, by simp [execOp, hcv, asBool], A.ev hv⟩
  · cases hv
 case build t parts =>
  simp only [reader'] at hv
  split at hv
  · rename_i l hl
    obtain ⟨v', h1, h2⟩ := build_run (ps' := parts.map fun (i, x) => (i, act.eval x)) (w := w) W (by simpa using A.evPairs hl) hv
    exact ⟨v', fin h1, h2⟩
  · cases hv
 case load t x =>
  simp only [reader'] at hv
  split at hv
  · rename_i p hp
    have := A.ev hp
    generalize hcv : act.eval x = cv at this
    cases this with
    | ptr ha =>
      obtain ⟨v', h1, h2⟩ := loadVar_run H ha hv
      refine ⟨v', ?_, h2⟩
      simp [execOp, hcv, Instr.loadAt, Instr.sureAddr, h1]
  · cases hv
 case nilCheck x =>
  simp only [reader'] at hv
  split at hv
  · rename_i p hp
    injection hv with hv
    subst hv
    have := A.ev hp
    have h0 := this
    generalize hcv : act.eval x = cv at this h0
    cases this with
    | ptr ha => exact ⟨_, by simp [execOp, hcv], h0⟩
  · rename_i f l r hp
    injection hv with hv
    subst hv
    have := A.ev hp
    have h0 := this
    generalize hcv : act.eval x = cv at this h0
    cases this with
    | func ha hb => exact ⟨_, by simp [execOp, hcv], h0⟩
  · rename_i t u hp
    injection hv with hv
    subst hv
    have := A.ev hp
    have h0 := this
    generalize hcv : act.eval x = cv at this h0
    cases this with
    | iface ha => exact ⟨_, by simp [execOp, hcv], h0⟩
  · cases hv
 case binOp bop t x y t2 =>
  simp only [reader'] at hv
  split at hv
  · rename_i u1 u2 h1 h2
    obtain ⟨h3, h4⟩ := binOp_run H hv (A.ev h1) (A.ev h2)
    exact ⟨v, fin h3, h4⟩
  · cases hv
 case unOp uop t x =>
  simp only [reader'] at hv
  split at hv
  · rename_i u hu
    have := A.ev hu
    generalize hcv : act.eval x = cv at this
    unfold unOp' at hv
    split at hv
    · cases this
      injection hv with hv
      subst hv
      exact ⟨_, by simp [execOp, hcv, Op.unary, Op.intArith], .int _ _⟩
    · cases this
      injection hv with hv
      subst hv
      exact ⟨_, by simp [execOp, hcv, Op.unary], .bool _⟩
    · cases hv
  · cases hv
 case makeInterface t x =>
  simp only [reader'] at hv
  split at hv
  · cases hv
  · rename_i u q hni hu hq
    injection hv with hv
    subst hv
    refine ⟨.iface t (act.eval x), ?_, .iface (A.ev hu)⟩
    cases q <;> first
     | (simp [execOp, Instr.makeInterface, run_und hq]; done)
     | (exfalso; exact hni _ rfl)
     | (simp_all; done)
  · cases hv
 case makeFunc fn first captured =>
  simp only [reader'] at hv
  split at hv
  · rename_i l r hl hr2
    injection hv with hv
    subst hv
    refine ⟨.func fn (first.map act.eval) (captured.map act.eval), by simp [execOp, Instr.makeFunc], .func (by simpa using A.evList hl) (by simpa using A.evList hr2)⟩
  · cases hv
 case slice t x lo hi mx =>
  simp only [reader'] at hv
  split at hv
  · rename_i u l hu hl
    have hm : ∀ (y : Option Operand), (∀ o, y = some o → o ∈ lo.toList ++ hi.toList ++ mx.toList) → OVR ρ (y.bind a.ev) (y.map act.eval) :=
     fun y hy => ovr_of A fun o ho => evList_mem hl (hy o ho)
    obtain ⟨v', h1, h2⟩ := slice_run H (A.ev hu) (hm lo (by intro o ho; subst ho; simp)) (hm hi (by intro o ho; subst ho; simp)) (hm mx (by intro o ho; subst ho; simp)) hv
    exact ⟨v', fin h1, h2⟩
  · cases hv
 case fieldAddr t x f =>
  simp only [reader'] at hv
  split at hv
  · rename_i u hu
    obtain ⟨v', h1, h2⟩ := fieldAddr_run H (A.ev hu) hv
    exact ⟨v', fin h1, h2⟩
  · cases hv
 case field t x f =>
  simp only [reader'] at hv
  split at hv
  · rename_i cs fields hu ht
    split at hv
    · rename_i fd hf
      have := A.ev hu
      generalize hcv : act.eval x = cv at this
      cases this with
      | agg hc =>
        obtain ⟨v', h1, h2⟩ := part_run (w := w) hv hc
        have hf' : fields[f]? = some fd := by simpa using hf
        refine ⟨v', ?_, h2⟩
        simp [execOp, hcv, Instr.field, run_und ht, hf', asAgg, h1]
    · cases hv
  · cases hv
 case indexAddr t x i =>
  simp only [reader'] at hv
  split at hv
  · rename_i u1 u2 h1 h2
    obtain ⟨v', h3, h4⟩ := indexAddr_run H (A.ev h1) (A.ev h2) hv
    exact ⟨v', fin h3, h4⟩
  · cases hv
 case index t x i =>
  simp only [reader'] at hv
  split at hv
  · rename_i u1 u2 h1 h2
    obtain ⟨v', h3, h4⟩ := index_run (w := w) (A.ev h1) (A.ev h2) hv
    exact ⟨v', fin h3, h4⟩
  · cases hv
 case lookup t x i ok =>
  simp only [reader'] at hv
  split at hv
  · rename_i u1 u2 h1 h2
    obtain ⟨v', h3, h4⟩ := lookup_run W H (A.ev h1) (A.ev h2) hv
    exact ⟨v', fin h3, h4⟩
  · cases hv
 case typeAssert x t1 t2 ok =>
  simp only [reader'] at hv
  split at hv
  · rename_i u hu
    obtain ⟨v', h3, h4⟩ := typeAssert_run (w := w) (xt := t1) (A.ev hu) hv
    exact ⟨v', fin h3, h4⟩
  · cases hv
 case extract x i =>
  simp only [reader'] at hv
  split at hv
  · rename_i vs hu
    have := A.ev hu
    generalize hcv : act.eval x = cv at this
    cases this with
    | tuple hc =>
      rename_i vs'
      obtain ⟨v', h1, h2⟩ := hc.get hv
      have h1' : vs'[i]? = some v' := by simpa using h1
      refine ⟨v', ?_, h2⟩
      simp [execOp, hcv, Instr.extract, h1']
  · cases hv
 case entry x =>
  simp only [reader'] at hv
  split at hv
  · rename_i u hu
    obtain ⟨v', h3, h4⟩ := entry_run H (A.ev hu) hv
    exact ⟨v', fin h3, h4⟩
  · cases hv
 case call c =>
  obtain ⟨cal, args, ats⟩ := c
  cases cal with
  | value f => cases hr
  | invoke r m => cases hr
  | builtin b =>
    have hargs : ∀ {l : List Value}, evList a args.toList = some l → VRs ρ l (args.map act.eval).toList := fun hl => by simpa using A.evList hl
    cases b <;> simp only at hr <;> try (cases hr; done)
    ·
      simp only [reader'] at hv
      split at hv
      · rename_i l hl
        obtain ⟨v', h1, h2⟩ := cap_run (ty := ty) H (hargs hl) hv
        exact ⟨v', by simp [execOp, resolve, invoke, builtin, h1], h2⟩
      · cases hv
    ·
      simp only [reader'] at hv
      split at hv
      · rename_i l hl
        obtain ⟨v', h1, h2⟩ := len_run (ty := ty) H (hargs hl) hv
        exact ⟨v', by simp [execOp, resolve, invoke, builtin, h1], h2⟩
      · cases hv
    ·
      simp only [reader'] at hv
      split at hv
      · rename_i x r hl
        obtain ⟨x', r', e, hx, hr'⟩ := (hargs hl).cons_inv
        have hrun : ∀ s, (r'.foldlM Builtin.max2 x').run P w = .ok s w → (Builtin.max_ ats ty (args.map act.eval)).run P w = .ok s w := by
         intro s hs
         simp only [Builtin.max_, e]
         exact hs
        rcases minmax_run (P := P) (w := w) true r x v x' r' hv hx hr' with h1 | ⟨rfl, rfl⟩
        · exact ⟨v, by simp [execOp, resolve, invoke, builtin, hrun _ h1.1], h1.2⟩
        · cases hr'
          exact ⟨x', by simp [execOp, resolve, invoke, builtin, hrun x' (by simp)], hx⟩
      · cases hv
    ·
      simp only [reader'] at hv
      split at hv
      · rename_i x r hl
        obtain ⟨x', r', e, hx, hr'⟩ := (hargs hl).cons_inv
        have hrun : ∀ s, (r'.foldlM Builtin.min2 x').run P w = .ok s w → (Builtin.min_ ats ty (args.map act.eval)).run P w = .ok s w := by
         intro s hs
         simp only [Builtin.min_, e]
         exact hs
        rcases minmax_run (P := P) (w := w) false r x v x' r' hv hx hr' with h1 | ⟨rfl, rfl⟩
        · exact ⟨v, by simp [execOp, resolve, invoke, builtin, hrun _ h1.1], h1.2⟩
        · cases hr'
          exact ⟨x', by simp [execOp, resolve, invoke, builtin, hrun x' (by simp)], hx⟩
      · cases hv
end Go.Ev
end
