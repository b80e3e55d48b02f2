/- The pure law of ItemsOf: both walks of a tree tell the same items. -/
import Derived.Test.YtcnllhnhinmokaaPHItemsOfx
namespace Go.Proofs.Ytcnllhnhinmokaa.PHItemsOf
open Go.RowKit Go.Proofs.YtcnllhnhinmokaaW.PrintWords Go.Proofs.YtcnllhnhinmokaaW.PrintLast Go.Proofs.YtcnllhnhinmokaaW.PrintMore

mutual
def nodes : S31 → Nat
  | ⟨_, _, l⟩ => 1 + nodesL l
def nodesL : List S31 → Nat
  | [] => 0
  | x :: l => nodes x + nodesL l
end
mutual
def items : S31 → List ByteArray
  | ⟨d, t, l⟩ => (if d.toList = ([105, 116, 101, 109] : List UInt8) then [t] else []) ++ itemsL l
def itemsL : List S31 → List ByteArray
  | [] => []
  | x :: l => items x ++ itemsL l
end

theorem nodes_eq (p : S31) : nodes p = 1 + nodesL p.f2 := by cases p; simp [nodes]
theorem items_eq (p : S31) : items p = (if p.f0.toList = ([105, 116, 101, 109] : List UInt8) then [p.f1] else []) ++ itemsL p.f2 := by cases p; simp [items]
theorem nodes_pos (p : S31) : 1 ≤ nodes p := by rw [nodes_eq]; omega
theorem nodesL_len : ∀ l : List S31, l.length ≤ nodesL l
  | [] => by simp [nodesL]
  | x :: l => by
    have := nodesL_len l
    have := nodes_pos x
    simp only [nodesL, List.length_cons]
    omega
mutual
theorem items_le : ∀ p : S31, (items p).length ≤ nodes p
  | ⟨d, t, l⟩ => by
    have := itemsL_le l
    simp only [items, nodes, List.length_append]
    split <;> simp <;> omega
theorem itemsL_le : ∀ l : List S31, (itemsL l).length ≤ nodesL l
  | [] => by simp [itemsL]
  | x :: l => by
    have h1 := items_le x
    have h2 := itemsL_le l
    simp only [itemsL, nodesL, List.length_append]
    omega
end

theorem drop_at {l : List S31} {i : Nat} (h : i < l.length) : l.drop i = rd_T31 l (i : Int) :: l.drop (i + 1) := by
  rw [List.drop_eq_getElem_cons h]
  congr 1
  simp [rd_T31, h]
theorem nodesL_drop {l : List S31} {i : Nat} (h : i < l.length) : nodesL (l.drop i) = nodes (rd_T31 l (i : Int)) + nodesL (l.drop (i + 1)) := by
  rw [drop_at h, nodesL]
theorem itemsL_drop {l : List S31} {i : Nat} (h : i < l.length) : itemsL (l.drop i) = items (rd_T31 l (i : Int)) ++ itemsL (l.drop (i + 1)) := by
  rw [drop_at h, itemsL]
theorem nodesL_drop_le (l : List S31) : ∀ i, nodesL (l.drop i) ≤ nodesL l := by
  intro i
  induction i with
  | zero => simp
  | succ i ih =>
    by_cases h : i < l.length
    · rw [nodesL_drop h] at ih; omega
    · rw [List.drop_eq_nil_of_le (by omega)]; simp [nodesL]
theorem nodes_at {l : List S31} {i : Nat} (h : i < l.length) : nodes (rd_T31 l (i : Int)) ≤ nodesL l := by
  have h1 := nodesL_drop h
  have h2 := nodesL_drop_le l i
  omega

theorem wrap_id {x : Int} (h0 : -1000000 ≤ x) (h1 : x ≤ 1000000) : wrap64 x = x := by unfold wrap64; omega

/-! ### how many nodes -/
theorem size_loop (d : Nat) (hd : d ≤ 39) (B : Nat) (hB : B ≤ 20000)
    (ih : ∀ p : S31, ∃ (k0 r : Nat), (∀ k, k0 ≤ k → manystrandlaw24_size.f k p.f0 p.f1 p.f2 (d : Int) 300 = some (r : Int)) ∧ 1 ≤ r ∧ r ≤ B ∧ (r ≤ 300 → nodes p ≤ r))
    (f0 f1 : ByteArray) (l : List S31) : ∀ (m i n : Nat), l.length - i = m → i ≤ l.length → i < n → n ≤ 300 + B →
    ∃ (k0 r : Nat), (∀ k, k0 ≤ k → manystrandlaw24_size.l0 k ((d : Int) + 1) 300 (n : Int) (i : Int) f0 f1 l = some (r : Int)) ∧ n ≤ r ∧ r ≤ 300 + B ∧ (r ≤ 300 → n + nodesL (l.drop i) ≤ r) := by
  intro m
  induction m with
  | zero =>
    intro i n hm hi hin hn
    refine ⟨1, n, fun k hk => ?_, Nat.le_refl _, hn, fun _ => ?_⟩
    · obtain ⟨k, rfl⟩ : ∃ m, k = m + 1 := ⟨k - 1, by omega⟩
      simp only [manystrandlaw24_size.l0]
      rw [if_neg (by omega)]
    · rw [List.drop_eq_nil_of_le (by omega)]
      simp [nodesL]
  | succ m ihm =>
    intro i n hm hi hin hn
    by_cases hle : n ≤ 300
    · obtain ⟨k1, r1, h1, h2, h3, h4⟩ := ih (rd_T31 l (i : Int))
      obtain ⟨k2, r2, g1, g2, g3, g4⟩ := ihm (i + 1) (n + r1) (by omega) (by omega) (by omega) (by omega)
      refine ⟨max k1 k2 + 1, r2, fun k hk => ?_, by omega, g3, fun hr => ?_⟩
      · obtain ⟨k, rfl⟩ : ∃ m, k = m + 1 := ⟨k - 1, by omega⟩
        simp only [manystrandlaw24_size.l0]
        rw [if_pos (by omega), if_pos (by omega), if_pos (by omega)]
        rw [wrap_id (x := (d : Int) + 1 - 1) (by omega) (by omega), show (d : Int) + 1 - 1 = (d : Int) by omega, h1 k (by omega)]
        simp only [Option.bind_some]
        rw [wrap_id (x := (n : Int) + (r1 : Int)) (by omega) (by omega), wrap_id (x := (i : Int) + 1) (by omega) (by omega)]
        have := g1 k (by omega)
        rwa [show ((n + r1 : Nat) : Int) = (n : Int) + (r1 : Int) by omega, show ((i + 1 : Nat) : Int) = (i : Int) + 1 by omega] at this
      · have := g4 hr
        rw [nodesL_drop (by omega)]
        have := h4 (by omega)
        omega
    · refine ⟨1, n, fun k hk => ?_, Nat.le_refl _, hn, fun hr => by omega⟩
      obtain ⟨k, rfl⟩ : ∃ m, k = m + 1 := ⟨k - 1, by omega⟩
      simp only [manystrandlaw24_size.l0]
      rw [if_pos (by omega), if_neg (by omega)]

theorem size_tells : ∀ (d : Nat), d ≤ 40 → ∀ p : S31, ∃ (k0 r : Nat), (∀ k, k0 ≤ k → manystrandlaw24_size.f k p.f0 p.f1 p.f2 (d : Int) 300 = some (r : Int)) ∧ 1 ≤ r ∧ r ≤ 301 + 300 * d ∧ (r ≤ 300 → nodes p ≤ r) := by
  intro d
  induction d with
  | zero =>
    intro _ p
    refine ⟨1, 301, fun k hk => ?_, by omega, by omega, fun h => by omega⟩
    obtain ⟨k, rfl⟩ : ∃ m, k = m + 1 := ⟨k - 1, by omega⟩
    simp only [manystrandlaw24_size.f]
    rw [if_pos (by omega), wrap_id (by omega) (by omega)]
    rfl
  | succ d ihd =>
    intro hd p
    obtain ⟨k0, r, h1, h2, h3, h4⟩ := size_loop d (by omega) (301 + 300 * d) (by omega) (ihd (by omega)) p.f0 p.f1 p.f2 p.f2.length 0 1 (by omega) (by omega) (by omega) (by omega)
    refine ⟨k0 + 1, r, fun k hk => ?_, h2, by omega, fun hr => ?_⟩
    · obtain ⟨k, rfl⟩ : ∃ m, k = m + 1 := ⟨k - 1, by omega⟩
      simp only [manystrandlaw24_size.f]
      rw [if_neg (by omega)]
      exact h1 k (by omega)
    · have := h4 hr
      rw [List.drop_zero] at this
      rw [nodes_eq]
      exact this

/-! ### is it tidy -/
theorem tidy_loop (l : List S31) (hl : l.length ≤ 300)
    (ih : ∀ i, i < l.length → ∃ k0 b, ∀ k, k0 ≤ k → manystrandlaw24_tidy.f k (rd_T31 l (i : Int)).f0 (rd_T31 l (i : Int)).f1 (rd_T31 l (i : Int)).f2 = some b) :
    ∀ (m i : Nat), l.length - i = m → i ≤ l.length → ∃ k0 b, ∀ k, k0 ≤ k → manystrandlaw24_tidy.l0 k l (l.length : Int) (i : Int) = some b := by
  intro m
  induction m with
  | zero =>
    intro i hm hi
    refine ⟨1, true, fun k hk => ?_⟩
    obtain ⟨k, rfl⟩ : ∃ m, k = m + 1 := ⟨k - 1, by omega⟩
    simp only [manystrandlaw24_tidy.l0]
    rw [if_neg (by omega)]
  | succ m ihm =>
    intro i hm hi
    obtain ⟨k1, b1, h1⟩ := ih i (by omega)
    obtain ⟨k2, b2, h2⟩ := ihm (i + 1) (by omega) (by omega)
    refine ⟨max k1 k2 + 1, if b1 then b2 else false, fun k hk => ?_⟩
    obtain ⟨k, rfl⟩ : ∃ m, k = m + 1 := ⟨k - 1, by omega⟩
    simp only [manystrandlaw24_tidy.l0]
    rw [if_pos (by omega), if_pos (by omega), if_pos (by omega), h1 k (by omega)]
    simp only [Option.bind_some]
    cases b1 with
    | false => simp
    | true =>
      simp only [if_true]
      rw [wrap_id (x := (i : Int) + 1) (by omega) (by omega)]
      have := h2 k (by omega)
      rwa [show ((i + 1 : Nat) : Int) = (i : Int) + 1 by omega] at this

theorem tidy_tells : ∀ (n : Nat) (p : S31), nodes p ≤ n → n ≤ 300 → ∃ k0 b, ∀ k, k0 ≤ k → manystrandlaw24_tidy.f k p.f0 p.f1 p.f2 = some b := by
  intro n
  induction n with
  | zero => intro p hp _; have := nodes_pos p; omega
  | succ n ih =>
    intro p hp hn
    rw [nodes_eq] at hp
    have hlen := nodesL_len p.f2
    obtain ⟨k1, b1, h1⟩ := tidy_loop p.f2 (by omega) (fun i hi => ih _ (by have := nodes_at hi; omega) (by omega)) p.f2.length 0 (by omega) (by omega)
    have hj : ∀ x : Bool, ∃ b, ∀ k, k1 + 1 ≤ k → manystrandlaw24_tidy.j0 k x p.f0 p.f1 p.f2 = some b := by
      intro x
      cases x with
      | true =>
        refine ⟨false, fun k hk => ?_⟩
        obtain ⟨k, rfl⟩ : ∃ m, k = m + 1 := ⟨k - 1, by omega⟩
        simp only [manystrandlaw24_tidy.j0, if_true]
      | false =>
        refine ⟨b1, fun k hk => ?_⟩
        obtain ⟨k, rfl⟩ : ∃ m, k = m + 1 := ⟨k - 1, by omega⟩
        simp only [manystrandlaw24_tidy.j0]
        rw [if_neg (by simp)]
        exact h1 k (by omega)
    have fin : ∀ x : Bool, (∀ k, manystrandlaw24_tidy.f (k + 1) p.f0 p.f1 p.f2 = manystrandlaw24_tidy.j0 k x p.f0 p.f1 p.f2) → ∃ k0 b, ∀ k, k0 ≤ k → manystrandlaw24_tidy.f k p.f0 p.f1 p.f2 = some b := by
      intro x hx
      obtain ⟨b, hb⟩ := hj x
      refine ⟨k1 + 2, b, fun k hk => ?_⟩
      obtain ⟨k, rfl⟩ : ∃ m, k = m + 1 := ⟨k - 1, by omega⟩
      rw [hx k]
      exact hb k (by omega)
    by_cases c1 : p.f0.toList = ([114, 117, 108, 101] : List UInt8)
    · exact fin false (fun k => by simp only [manystrandlaw24_tidy.f]; rw [if_pos c1])
    · by_cases c2 : p.f0.toList = ([109, 97, 110, 121] : List UInt8)
      · exact fin false (fun k => by simp only [manystrandlaw24_tidy.f]; rw [if_neg c1, if_pos c2])
      · by_cases c3 : p.f0.toList = ([105, 116, 101, 109] : List UInt8)
        · exact fin _ (fun k => by simp only [manystrandlaw24_tidy.f]; rw [if_neg c1, if_neg c2, if_pos c3])
        · exact fin true (fun k => by simp only [manystrandlaw24_tidy.f]; rw [if_neg c1, if_neg c2, if_neg c3])

/-! ### the items -/
theorem items_loop (l : List S31) (hl : nodesL l ≤ 300)
    (ih : ∀ i, i < l.length → ∃ k0, ∀ k, k0 ≤ k → grammar_Items.f k (rd_T31 l (i : Int)).f0 (rd_T31 l (i : Int)).f1 (rd_T31 l (i : Int)).f2 = some (items (rd_T31 l (i : Int)))) :
    ∀ (m i : Nat) (x : List ByteArray), l.length - i = m → i ≤ l.length → x.length + nodesL (l.drop i) ≤ 1000 → ∃ k0, ∀ k, k0 ≤ k → grammar_Items.l0 k x l (l.length : Int) (i : Int) = some (x ++ itemsL (l.drop i)) := by
  have hlen := nodesL_len l
  intro m
  induction m with
  | zero =>
    intro i x hm hi hx
    refine ⟨1, fun k hk => ?_⟩
    obtain ⟨k, rfl⟩ : ∃ m, k = m + 1 := ⟨k - 1, by omega⟩
    simp only [grammar_Items.l0]
    rw [if_neg (by omega), List.drop_eq_nil_of_le (by omega)]
    simp [itemsL]
  | succ m ihm =>
    intro i x hm hi hx
    have hlt : i < l.length := by omega
    rw [nodesL_drop hlt] at hx
    have hil := items_le (rd_T31 l (i : Int))
    obtain ⟨k1, h1⟩ := ih i (by omega)
    obtain ⟨k2, h2⟩ := ihm (i + 1) (x ++ items (rd_T31 l (i : Int))) (by omega) (by omega) (by rw [List.length_append]; omega)
    refine ⟨max k1 k2 + 1, fun k hk => ?_⟩
    obtain ⟨k, rfl⟩ : ∃ m, k = m + 1 := ⟨k - 1, by omega⟩
    simp only [grammar_Items.l0]
    rw [if_pos (by omega), if_pos (by omega), if_pos (by omega), h1 k (by omega)]
    simp only [Option.bind_some]
    rw [if_pos (by omega), wrap_id (x := (i : Int) + 1) (by omega) (by omega), itemsL_drop hlt, ← List.append_assoc]
    have := h2 k (by omega)
    rwa [show ((i + 1 : Nat) : Int) = (i : Int) + 1 by omega] at this

theorem items_tells : ∀ (n : Nat) (p : S31), nodes p ≤ n → n ≤ 300 → ∃ k0, ∀ k, k0 ≤ k → grammar_Items.f k p.f0 p.f1 p.f2 = some (items p) := by
  intro n
  induction n with
  | zero => intro p hp _; have := nodes_pos p; omega
  | succ n ih =>
    intro p hp hn
    rw [nodes_eq] at hp
    have hlen := nodesL_len p.f2
    have loop := fun x hx => items_loop p.f2 (by omega) (fun i hi => ih _ (by have := nodes_at hi; omega) (by omega)) p.f2.length 0 x (by omega) (by omega) hx
    by_cases c : p.f0.toList = ([105, 116, 101, 109] : List UInt8)
    · obtain ⟨k1, h1⟩ := loop [p.f1] (by simp; omega)
      refine ⟨k1 + 2, fun k hk => ?_⟩
      obtain ⟨k, rfl⟩ : ∃ m, k = m + 2 := ⟨k - 2, by omega⟩
      simp only [grammar_Items.f]
      rw [if_pos c, if_pos (by simp)]
      simp only [grammar_Items.j0, List.nil_append]
      have := h1 k (by omega)
      rw [List.drop_zero] at this
      rw [items_eq, if_pos c]
      exact this
    · obtain ⟨k1, h1⟩ := loop [] (by simp; omega)
      refine ⟨k1 + 2, fun k hk => ?_⟩
      obtain ⟨k, rfl⟩ : ∃ m, k = m + 2 := ⟨k - 2, by omega⟩
      simp only [grammar_Items.f]
      rw [if_neg c]
      simp only [grammar_Items.j0]
      have := h1 k (by omega)
      rw [List.drop_zero] at this
      rw [items_eq, if_neg c]
      exact this

theorem ref_loop (f0 f1 : ByteArray) (l : List S31) (hl : nodesL l ≤ 300)
    (ih : ∀ i, i < l.length → ∃ k0, ∀ k, k0 ≤ k → manystrandref24_Items.f k (rd_T31 l (i : Int)).f0 (rd_T31 l (i : Int)).f1 (rd_T31 l (i : Int)).f2 = some (items (rd_T31 l (i : Int)))) :
    ∀ (m i : Nat) (x : List ByteArray), l.length - i = m → i ≤ l.length → x.length + nodesL (l.drop i) ≤ 1000 → ∃ k0, ∀ k, k0 ≤ k → manystrandref24_Items.l0 k x (i : Int) f0 f1 l = some (x ++ itemsL (l.drop i)) := by
  have hlen := nodesL_len l
  intro m
  induction m with
  | zero =>
    intro i x hm hi hx
    refine ⟨1, fun k hk => ?_⟩
    obtain ⟨k, rfl⟩ : ∃ m, k = m + 1 := ⟨k - 1, by omega⟩
    simp only [manystrandref24_Items.l0]
    rw [if_neg (by omega), List.drop_eq_nil_of_le (by omega)]
    simp [itemsL]
  | succ m ihm =>
    intro i x hm hi hx
    have hlt : i < l.length := by omega
    rw [nodesL_drop hlt] at hx
    have hil := items_le (rd_T31 l (i : Int))
    obtain ⟨k1, h1⟩ := ih i (by omega)
    obtain ⟨k2, h2⟩ := ihm (i + 1) (x ++ items (rd_T31 l (i : Int))) (by omega) (by omega) (by rw [List.length_append]; omega)
    refine ⟨max k1 k2 + 1, fun k hk => ?_⟩
    obtain ⟨k, rfl⟩ : ∃ m, k = m + 1 := ⟨k - 1, by omega⟩
    simp only [manystrandref24_Items.l0]
    rw [if_pos (by omega), if_pos (by omega), h1 k (by omega)]
    simp only [Option.bind_some]
    rw [if_pos (by omega), wrap_id (x := (i : Int) + 1) (by omega) (by omega), itemsL_drop hlt, ← List.append_assoc]
    have := h2 k (by omega)
    rwa [show ((i + 1 : Nat) : Int) = (i : Int) + 1 by omega] at this

theorem ref_tells : ∀ (n : Nat) (p : S31), nodes p ≤ n → n ≤ 300 → ∃ k0, ∀ k, k0 ≤ k → manystrandref24_Items.f k p.f0 p.f1 p.f2 = some (items p) := by
  intro n
  induction n with
  | zero => intro p hp _; have := nodes_pos p; omega
  | succ n ih =>
    intro p hp hn
    rw [nodes_eq] at hp
    have hlen := nodesL_len p.f2
    have loop := fun x hx => ref_loop p.f0 p.f1 p.f2 (by omega) (fun i hi => ih _ (by have := nodes_at hi; omega) (by omega)) p.f2.length 0 x (by omega) (by omega) hx
    by_cases c : p.f0.toList = ([105, 116, 101, 109] : List UInt8)
    · obtain ⟨k1, h1⟩ := loop [p.f1] (by simp; omega)
      refine ⟨k1 + 2, fun k hk => ?_⟩
      obtain ⟨k, rfl⟩ : ∃ m, k = m + 2 := ⟨k - 2, by omega⟩
      simp only [manystrandref24_Items.f]
      rw [if_pos c, if_pos (by simp)]
      simp only [manystrandref24_Items.j0, List.nil_append]
      have := h1 k (by omega)
      rw [List.drop_zero] at this
      rw [items_eq, if_pos c]
      exact this
    · obtain ⟨k1, h1⟩ := loop [] (by simp; omega)
      refine ⟨k1 + 2, fun k hk => ?_⟩
      obtain ⟨k, rfl⟩ : ∃ m, k = m + 2 := ⟨k - 2, by omega⟩
      simp only [manystrandref24_Items.f]
      rw [if_neg c]
      simp only [manystrandref24_Items.j0]
      have := h1 k (by omega)
      rw [List.drop_zero] at this
      rw [items_eq, if_neg c]
      exact this

/-! ### a list is the same as itself -/
theorem same_loop (l : List ByteArray) (hl : l.length ≤ 1000) : ∀ (m i : Nat), l.length - i = m → i ≤ l.length → ∀ k, m + 1 ≤ k → manystrandlaw24_sameTexts.l0 k l l (l.length : Int) (i : Int) = some true := by
  intro m
  induction m with
  | zero =>
    intro i hm hi k hk
    obtain ⟨k, rfl⟩ : ∃ m, k = m + 1 := ⟨k - 1, by omega⟩
    simp only [manystrandlaw24_sameTexts.l0]
    rw [if_neg (by omega)]
  | succ m ihm =>
    intro i hm hi k hk
    obtain ⟨k, rfl⟩ : ∃ m, k = m + 1 := ⟨k - 1, by omega⟩
    simp only [manystrandlaw24_sameTexts.l0]
    rw [if_pos (by omega), if_pos (by omega), if_pos (by omega), if_pos (by omega), if_pos trivial, wrap_id (x := (i : Int) + 1) (by omega) (by omega)]
    have := ihm (i + 1) (by omega) (by omega) k (by omega)
    rwa [show ((i + 1 : Nat) : Int) = (i : Int) + 1 by omega] at this

/-- The pure law: the two walks of a tree tell the same items. -/
theorem ItemsOf (p : S31) : ∃ k, manystrandlaw24_ItemsOf.f k p.f0 p.f1 p.f2 = some true := by
  have yes : ∀ k, 1 ≤ k → manystrandlaw24_ItemsOf.j0 k true p.f0 p.f1 p.f2 = some true := by
    intro k hk
    obtain ⟨k, rfl⟩ : ∃ m, k = m + 1 := ⟨k - 1, by omega⟩
    simp [manystrandlaw24_ItemsOf.j0, manystrandlaw24_awake.f]
  obtain ⟨k1, r, h1, h2, h3, h4⟩ := size_tells 40 (by omega) p
  have h1' : ∀ k, k1 ≤ k → manystrandlaw24_size.f k p.f0 p.f1 p.f2 40 300 = some (r : Int) := h1
  by_cases hr : r ≤ 300
  · have hn := h4 hr
    obtain ⟨k2, b, g1⟩ := tidy_tells 300 p (by omega) (by omega)
    obtain ⟨k3, g2⟩ := items_tells 300 p (by omega) (by omega)
    obtain ⟨k4, g3⟩ := ref_tells 300 p (by omega) (by omega)
    have hi := items_le p
    refine ⟨k1 + k2 + k3 + k4 + 1002, ?_⟩
    simp only [manystrandlaw24_ItemsOf.f]
    rw [h1' _ (by omega)]
    simp only [Option.bind_some]
    rw [if_neg (by omega), g1 _ (by omega)]
    simp only [Option.bind_some]
    cases b with
    | false => exact yes _ (by omega)
    | true =>
      simp only [Bool.not_true, manystrandlaw24_ItemsOf.j0]
      rw [if_neg (by simp), g2 _ (by omega)]
      simp only [Option.bind_some]
      rw [g3 _ (by omega)]
      simp only [Option.bind_some, manystrandlaw24_sameTexts.f, if_true]
      have := same_loop (items p) (by omega) (items p).length 0 (by omega) (by omega) (k1 + k2 + k3 + k4 + 1001) (by omega)
      rw [show ((0 : Nat) : Int) = 0 from rfl] at this
      rw [this]
      simp [manystrandlaw24_awake.f]
  · refine ⟨k1 + 1, ?_⟩
    simp only [manystrandlaw24_ItemsOf.f]
    rw [h1' _ (by omega)]
    simp only [Option.bind_some]
    rw [if_pos (by omega)]
    exact yes _ (by omega)

end Go.Proofs.Ytcnllhnhinmokaa.PHItemsOf
