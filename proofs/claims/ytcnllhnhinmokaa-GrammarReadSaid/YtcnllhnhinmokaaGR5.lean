/- A text is read as a grammar only if it is the Text of what is read (no condition on the text): part 6 of 6. -/
import Derived.Test.YtcnllhnhinmokaaGR4
import Derived.Test.YtcnllhnhinmokaaRows
import Derived.WalkKit
import Derived.ProofKit
import Derived.OpenShut
import Derived.ShutString
import Derived.ChangeOld
import Derived.Below
import Derived.SizedLaws
section
namespace Go.Proofs.Ytcnllhnhinmokaa.PHGr
open Go.StrMap Go.RowKit Go.Proofs.YtcnllhnhinmokaaW.PrintWords Go.Proofs.YtcnllhnhinmokaaW.PrintLast Go.Proofs.YtcnllhnhinmokaaW.PrintMore
set_option linter.unusedVariables false
set_option linter.unusedSimpArgs false
def hasP (s : ByteArray) (i : Nat) (p : List UInt8) : Bool := decide (p <+: (bs s).drop i)
theorem hasP_le {s : ByteArray} {i : Nat} {p : List UInt8} (hi : i ≤ s.size) (h : hasP s i p = true) : i + p.length ≤ s.size := by
 have := (of_decide_eq_true h).length_le
 rw [List.length_drop, bs_len] at this
 omega
theorem takes_f (s : ByteArray) (i : Nat) (bad : Bool) (p : List UInt8) (hi : i ≤ s.size) (hs : s.size ≤ 1152921504606846976) (hp : p.length ≤ 8) :
 grammar_reader_takes.f s (i : Int) bad (⟨p.toArray⟩ : ByteArray) = some (if hasP s i p = true then (true, s, ((i + p.length : Nat) : Int), bad) else (false, s, (i : Int), bad)) := by
 unfold grammar_reader_takes.f
 have hz : (⟨p.toArray⟩ : ByteArray).size = p.length := size_toB p
 have hw1 : wrap64 ((s.size : Int) - (i : Int)) = ((s.size - i : Nat) : Int) := by rw [w64 (by omega) (by omega)]; omega
 have hw2 : wrap64 ((i : Int) + (p.length : Int)) = ((i + p.length : Nat) : Int) := by rw [w64 (by omega) (by omega)]; omega
 rw [hz, hw1, hw2]
 by_cases c : s.size - i < p.length
 · rw [if_pos (by omega), if_neg]
   intro h
   have := hasP_le hi h
   omega
 rw [if_neg (by omega), if_pos (by omega), if_pos (by omega), if_pos (by omega), ext_bs, Int.toNat_natCast, Int.toNat_natCast, show i + p.length - i = p.length by omega]
 have e : ((⟨p.toArray⟩ : ByteArray)).toList = p := by rw [tl_bs]
 rw [e]
 have hh : (((bs s).drop i).take p.length = p) = (hasP s i p = true) := by
  apply propext
  unfold hasP
  rw [decide_eq_true_eq, List.prefix_iff_eq_take]
  exact eq_comm
 simp only [hh]
 split <;> rfl
theorem must_f (s : ByteArray) (i : Nat) (bad : Bool) (p : List UInt8) (hi : i ≤ s.size) (hs : s.size ≤ 1152921504606846976) (hp : p.length ≤ 8) :
 grammar_reader_must.f s (i : Int) bad (⟨p.toArray⟩ : ByteArray) = some (if hasP s i p = true then (s, ((i + p.length : Nat) : Int), bad) else (s, (i : Int), true)) := by
 unfold grammar_reader_must.f
 rw [takes_f s i bad p hi hs hp]
 by_cases c : hasP s i p = true
 rotate_left
 · simp [c]
 simp [c]
def Tt {α : Type} (g : Nat → Option α) (I : α → Prop) : Prop := ∃ r, Ev g r ∧ I r
theorem Tt.now {α : Type} {I : α → Prop} {r : α} (h : I r) : Tt (fun _ => some r) I := ⟨r, Ev.now r, h⟩
theorem Tt.bind {α β : Type} {g : Nat → Option α} {f : Nat → α → Option β} {I : α → Prop} {J : β → Prop} (h : Tt g I) (k : ∀ r, I r → Tt (fun n => f n r) J) : Tt (fun n => (g n).bind (f n)) J := by
 obtain ⟨r, h, hi⟩ := h
 obtain ⟨q, hq, hj⟩ := k r hi
 exact ⟨q, Ev.bind h hq, hj⟩
theorem Tt.down {α : Type} {g : Nat → Option α} {I : α → Prop} (h : Tt (fun k => g (k + 1)) I) : Tt g I := by
 obtain ⟨r, h, hi⟩ := h
 exact ⟨r, evDown h, hi⟩
theorem Tt.mono {α : Type} {g : Nat → Option α} {I J : α → Prop} (h : Tt g I) (k : ∀ r, I r → J r) : Tt g J := by
 obtain ⟨r, h, hi⟩ := h
 exact ⟨r, h, k r hi⟩
theorem Tt.takes {α : Type} {f : Nat → (Bool × ByteArray × Int × Bool) → Option α} {I : α → Prop} {s : ByteArray} {i : Nat} {bad : Bool} {p : List UInt8} (hi : i ≤ s.size) (hs : s.size ≤ 1152921504606846976) (hp : p.length ≤ 8)
 (h1 : hasP s i p = true → Tt (fun k => f k (true, s, ((i + p.length : Nat) : Int), bad)) I) (h2 : hasP s i p = false → Tt (fun k => f k (false, s, (i : Int), bad)) I) :
 Tt (fun k => (grammar_reader_takes.f s (i : Int) bad (⟨p.toArray⟩ : ByteArray)).bind (f k)) I := by
 simp only [takes_f s i bad p hi hs hp, Option.bind_some]
 by_cases c : hasP s i p = true
 rotate_left
 · simp only [if_neg c]; exact h2 (by simpa using c)
 simp only [if_pos c]; exact h1 c
theorem Tt.must {α : Type} {f : Nat → (ByteArray × Int × Bool) → Option α} {I : α → Prop} {s : ByteArray} {i : Nat} {bad : Bool} {p : List UInt8} (hi : i ≤ s.size) (hs : s.size ≤ 1152921504606846976) (hp : p.length ≤ 8)
 (h1 : hasP s i p = true → Tt (fun k => f k (s, ((i + p.length : Nat) : Int), bad)) I) (h2 : hasP s i p = false → Tt (fun k => f k (s, (i : Int), true)) I) :
 Tt (fun k => (grammar_reader_must.f s (i : Int) bad (⟨p.toArray⟩ : ByteArray)).bind (f k)) I := by
 simp only [must_f s i bad p hi hs hp, Option.bind_some]
 by_cases c : hasP s i p = true
 rotate_left
 · simp only [if_neg c]; exact h2 (by simpa using c)
 simp only [if_pos c]; exact h1 c
def inn (b : UInt8) : Bool := innerC b.toNat
def endN (s : ByteArray) (l : List UInt8) : Nat := s.size - (l.dropWhile inn).length
theorem name_step (k : Nat) (x3 : Int) (s : ByteArray) (i : Int) (bad : Bool) : grammar_reader_name.l0 (k + 1) x3 s i bad =
 if i < (s.size : Int) then (if 0 ≤ i then (if (97 ≤ bt s i ∧ bt s i ≤ 122) ∨ (65 ≤ bt s i ∧ bt s i ≤ 90) ∨ (48 ≤ bt s i ∧ bt s i ≤ 57) ∨ bt s i = 95 then grammar_reader_name.l0 k x3 s (wrap64 (i + 1)) bad else (if bad = true then (if 0 ≤ x3 then (if x3 ≤ i then (if i ≤ (s.size : Int) then (some (s.extract (x3 : Int).toNat (i : Int).toNat, s, i, true)) else (none)) else (none)) else (none)) else (if 0 ≤ x3 then (if x3 ≤ i then (if i ≤ (s.size : Int) then (some (s.extract (x3 : Int).toNat (i : Int).toNat, s, i, (i == x3))) else (none)) else (none)) else (none)))) else none) else (if bad = true then (if 0 ≤ x3 then (if x3 ≤ i then (if i ≤ (s.size : Int) then (some (s.extract (x3 : Int).toNat (i : Int).toNat, s, i, true)) else (none)) else (none)) else (none)) else (if 0 ≤ x3 then (if x3 ≤ i then (if i ≤ (s.size : Int) then (some (s.extract (x3 : Int).toNat (i : Int).toNat, s, i, (i == x3))) else (none)) else (none)) else (none))) := by
 rw [grammar_reader_name.l0]
 generalize bt s i = n
 generalize grammar_reader_name.l0 k x3 s (wrap64 (i + 1)) bad = R
 generalize (if bad = true then (if 0 ≤ x3 then (if x3 ≤ i then (if i ≤ (s.size : Int) then (some (s.extract (x3 : Int).toNat (i : Int).toNat, s, i, true)) else (none)) else (none)) else (none)) else (if 0 ≤ x3 then (if x3 ≤ i then (if i ≤ (s.size : Int) then (some (s.extract (x3 : Int).toNat (i : Int).toNat, s, i, (i == x3))) else (none)) else (none)) else (none))) = X
 by_cases h1 : i < (s.size : Int)
 · rw [if_pos h1, if_pos h1]
   by_cases h2 : 0 ≤ i
   · rw [if_pos h2, if_pos h2]
     by_cases c : (97 ≤ n ∧ n ≤ 122) ∨ (65 ≤ n ∧ n ≤ 90) ∨ (48 ≤ n ∧ n ≤ 57) ∨ n = 95
     rotate_left
     · rw [if_neg c]
       (repeat' split) <;> first | rfl | (exfalso; omega)
     rw [if_pos c]
     (repeat' split) <;> first | rfl | (exfalso; omega)
   · rw [if_neg h2, if_neg h2]
 · rw [if_neg h1, if_neg h1]
theorem inn_iff (b : UInt8) : ((97 ≤ (b.toNat : Int) ∧ (b.toNat : Int) ≤ 122) ∨ (65 ≤ (b.toNat : Int) ∧ (b.toNat : Int) ≤ 90) ∨ (48 ≤ (b.toNat : Int) ∧ (b.toNat : Int) ≤ 57) ∨ (b.toNat : Int) = 95) ↔ inn b = true := by
 unfold inn innerC smallC
 simp only [Bool.or_eq_true, Bool.and_eq_true, decide_eq_true_eq, beq_iff_eq]
 omega
theorem name_end (s : ByteArray) (st i : Nat) (bad : Bool) (h1 : st ≤ i) (h2 : i ≤ s.size) :
 (if bad = true then (if 0 ≤ (st : Int) then (if (st : Int) ≤ (i : Int) then (if (i : Int) ≤ (s.size : Int) then (some (s.extract ((st : Int) : Int).toNat ((i : Int) : Int).toNat, s, (i : Int), true)) else (none)) else (none)) else (none)) else (if 0 ≤ (st : Int) then (if (st : Int) ≤ (i : Int) then (if (i : Int) ≤ (s.size : Int) then (some (s.extract ((st : Int) : Int).toNat ((i : Int) : Int).toNat, s, (i : Int), ((i : Int) == (st : Int)))) else (none)) else (none)) else (none)))
  = some (s.extract st i, s, (i : Int), bad || (i == st)) := by
 have e1 : ((i : Int) == (st : Int)) = (i == st) := by rw [Bool.eq_iff_iff, beq_iff_eq, beq_iff_eq]; omega
 simp only [if_pos (show (0 : Int) ≤ (st : Int) by omega), if_pos (show (st : Int) ≤ (i : Int) by omega), if_pos (show (i : Int) ≤ (s.size : Int) by omega), Int.toNat_natCast, e1]
 cases bad <;> simp
theorem name_l0 (s : ByteArray) (st : Nat) (bad : Bool) (hs : s.size ≤ 1152921504606846976) : ∀ (n i : Nat), i + n = s.size → st ≤ i →
 Ev (fun k => grammar_reader_name.l0 k (st : Int) s (i : Int) bad) (s.extract st (endN s ((bs s).drop i)), s, ((endN s ((bs s).drop i) : Nat) : Int), bad || (endN s ((bs s).drop i) == st)) := by
 intro n
 induction n with
 | zero =>
  intro i hi hst
  have : i = s.size := by omega
  subst this
  refine evDown ?_
  have he : endN s ((bs s).drop s.size) = s.size := by rw [List.drop_eq_nil_of_le (by rw [bs_len]; omega)]; simp [endN]
  rw [he]
  simp only [name_step, Int.lt_irrefl, if_false, name_end s st s.size bad hst (Nat.le_refl _)]
  exact Ev.now _
 | succ n ih =>
  intro i hi hst
  obtain ⟨b, hd, hb⟩ := at_drop s i (by omega)
  have hw : wrap64 ((i : Int) + 1) = ((i + 1 : Nat) : Int) := by rw [w64 (by omega) (by omega)]; omega
  refine evDown ?_
  simp only [name_step, if_pos (show (i : Int) < (s.size : Int) by omega), if_pos (show (0 : Int) ≤ (i : Int) by omega), hb, hw, inn_iff, name_end s st i bad hst (by omega)]
  by_cases c : inn b = true
  · have he : endN s ((bs s).drop i) = endN s ((bs s).drop (i + 1)) := by rw [hd]; simp [endN, c]
    rw [he]
    simp only [if_pos c]
    exact ih (i + 1) (by omega) (by omega)
  have he : endN s ((bs s).drop i) = i := by
   have e2 : ((bs s).drop i).dropWhile inn = (bs s).drop i := by rw [hd, List.dropWhile_cons, if_neg c]
   unfold endN
   rw [e2, List.length_drop, bs_len]; omega
  rw [he]
  simp only [if_neg c]
  exact Ev.now _
theorem endN_le (s : ByteArray) (i : Nat) (hi : i ≤ s.size) : i ≤ endN s ((bs s).drop i) ∧ endN s ((bs s).drop i) ≤ s.size := by
 have h := List.IsSuffix.length_le (List.dropWhile_suffix inn (l := (bs s).drop i))
 rw [List.length_drop, bs_len] at h
 unfold endN
 omega
theorem name_f (s : ByteArray) (i : Nat) (bad : Bool) (hi : i ≤ s.size) (hs : s.size ≤ 1152921504606846976) :
 Ev (fun k => grammar_reader_name.f k s (i : Int) bad) (s.extract i (endN s ((bs s).drop i)), s, ((endN s ((bs s).drop i) : Nat) : Int), bad || (endN s ((bs s).drop i) == i)) := by
 unfold grammar_reader_name.f
 exact name_l0 s i bad hs (s.size - i) i (by omega) (by omega)
def At (s : ByteArray) (i : Nat) (bad : Bool) (m : Nat) (r : ByteArray × ByteArray × Int × Bool) : Prop :=
 r.2.1 = s ∧ ∃ n : Nat, r.2.2.1 = (n : Int) ∧ i ≤ n ∧ n ≤ s.size ∧ (r.2.2.2 = false → bad = false ∧ i < n ∧ r.1.size + i + 1 ≤ n + m)
theorem atom_tot (s : ByteArray) (bad : Bool) (hs : s.size ≤ 1152921504606) : ∀ (n i : Nat) (x : List Int), i ≤ s.size → s.size - i ≤ n → x.length + (s.size - i) ≤ 1152921504606 →
 Tt (fun k => grammar_reader_atom.l0 k x s (i : Int) bad) (At s i bad x.length) := by
 intro n
 induction n with
 | zero =>
  intro i x hi hn hx
  refine Tt.down ?_
  simp only [grammar_reader_atom.l0, if_neg (show ¬ (i : Int) < (s.size : Int) by omega)]
  exact Tt.now ⟨rfl, i, rfl, Nat.le_refl _, hi, by simp⟩
 | succ n ih =>
  intro i x hi hn hx
  refine Tt.down ?_
  by_cases hlt : i < s.size
  · have hw : wrap64 ((i : Int) + 1) = ((i + 1 : Nat) : Int) := by rw [w64 (by omega) (by omega)]; omega
    have step : ∀ (j : Nat) (c : Int), i < j → j ≤ s.size → Tt (fun k => grammar_reader_atom.l0 k (x ++ [c]) s (j : Int) bad) (At s i bad x.length) := by
     intro j c h1 h2
     refine (ih j (x ++ [c]) h2 (by omega) (by simp; omega)).mono ?_
     rintro r ⟨h, m, h3, h4, h5, h6⟩
     refine ⟨h, m, h3, by omega, h5, fun hb => ?_⟩
     have := h6 hb
     simp only [List.length_append, List.length_cons, List.length_nil] at this
     exact ⟨this.1, by omega, by omega⟩
    simp only [grammar_reader_atom.l0, if_pos (show (i : Int) < (s.size : Int) by omega), if_pos (show (0 : Int) ≤ (i : Int) by omega), hw, if_pos (show x.length < 140737488355328 by omega)]
    by_cases c1 : bt s (i : Int) = 39
    · simp only [if_pos c1]
      exact Tt.now ⟨rfl, i + 1, rfl, by omega, by omega, fun hb => ⟨hb, by omega, by rw [strOfNums_size]; omega⟩⟩
    simp only [if_neg c1]
    by_cases c2 : bt s (i : Int) = 92
    rotate_left
    · simp only [if_neg c2]
      exact step _ _ (by omega) (by omega)
    simp only [if_pos c2]
    refine Tt.takes (p := [110]) (by omega) (by omega) (by simp) (fun h => ?_) (fun _ => ?_)
    · have := hasP_le (by omega) h
      simp only [if_true]
      exact step _ _ (by omega) this
    · simp only [Bool.false_eq_true, if_false]
      refine Tt.takes (p := [39]) (by omega) (by omega) (by simp) (fun h => ?_) (fun _ => ?_)
      · have := hasP_le (by omega) h
        simp only [if_true]
        exact step _ _ (by omega) this
      · simp only [Bool.false_eq_true, if_false]
        refine Tt.takes (p := [92]) (by omega) (by omega) (by simp) (fun h => ?_) (fun _ => ?_)
        · have := hasP_le (by omega) h
          simp only [if_true]
          exact step _ _ (by omega) this
        · simp only [Bool.false_eq_true, if_false]
          exact Tt.now ⟨rfl, i + 1, rfl, by omega, by omega, by simp⟩
  · simp only [grammar_reader_atom.l0, if_neg (show ¬ (i : Int) < (s.size : Int) by omega)]
    exact Tt.now ⟨rfl, i, rfl, Nat.le_refl _, hi, by simp⟩
def Bd (s : ByteArray) (i : Nat) (bad : Bool) (r : ByteArray × ByteArray × List S52 × ByteArray × Int × Bool) : Prop :=
 r.2.2.2.1 = s ∧ ∃ n : Nat, r.2.2.2.2.1 = (n : Int) ∧ i ≤ n ∧ n ≤ s.size ∧ (r.2.2.2.2.2 = false → bad = false ∧ i < n ∧ wt ⟨r.1, r.2.1, r.2.2.1⟩ ≤ 60 * (n - i))
def Ld (s : ByteArray) (i : Nat) (bad : Bool) (x : List S52) (r : ByteArray × ByteArray × List S52 × ByteArray × Int × Bool) : Prop :=
 r.2.2.2.1 = s ∧ ∃ n : Nat, r.2.2.2.2.1 = (n : Int) ∧ i ≤ n ∧ n ≤ s.size ∧ (r.2.2.2.2.2 = false → bad = false ∧ r.1.size ≤ 3 ∧ r.2.1.size = 0 ∧ wtL r.2.2.1 ≤ wtL x + 60 * (n - i))
theorem wtL_append (a b : List S52) : wtL (a ++ b) = wtL a + wtL b := by
 induction a with
 | nil => simp [wtL]
 | cons x a ih => simp only [List.cons_append, wtL, ih]; omega
theorem body_bad (s : ByteArray) (i : Nat) (hi : i ≤ s.size) : Tt (fun k => grammar_reader_body.f k s (i : Int) true) (Bd s i true) := by
 refine Tt.down ?_
 simp only [grammar_reader_body.f, if_true]
 exact Tt.now ⟨rfl, i, rfl, Nat.le_refl _, hi, by simp⟩
end Go.Proofs.Ytcnllhnhinmokaa.PHGr
end
section
namespace Go.Proofs.Ytcnllhnhinmokaa.PHGr
open Go.StrMap Go.RowKit Go.Proofs.YtcnllhnhinmokaaW.PrintWords Go.Proofs.YtcnllhnhinmokaaW.PrintLast Go.Proofs.YtcnllhnhinmokaaW.PrintMore
set_option linter.unusedVariables false
set_option linter.unusedSimpArgs false
theorem name_at (s : ByteArray) (i : Nat) (bad : Bool) (hi : i ≤ s.size) (hs : s.size ≤ 1152921504606846976) :
 Tt (fun k => grammar_reader_name.f k s (i : Int) bad) (At s i bad 1) := by
 have h := endN_le s i hi
 refine ⟨_, name_f s i bad hi hs, rfl, _, rfl, h.1, h.2, fun hb => ?_⟩
 simp only [Bool.or_eq_false_iff, beq_eq_false_iff_ne] at hb
 have hz : (s.extract i (endN s ((bs s).drop i))).size = endN s ((bs s).drop i) - i := by
  rw [← bs_len, ← tl_bs, ext_bs, List.length_take, List.length_drop, bs_len]; omega
 exact ⟨hb.1, by omega, by simp only; rw [hz]; omega⟩
theorem body_tot (s : ByteArray) (hs : s.size ≤ 1152921504) : ∀ n : Nat,
 (∀ (i : Nat) (bad : Bool), i ≤ s.size → s.size - i ≤ n → Tt (fun k => grammar_reader_body.f k s (i : Int) bad) (Bd s i bad)) ∧
 (∀ (i : Nat) (bad : Bool) (d : ByteArray) (x : List S52), i ≤ s.size → s.size - i ≤ n → d.size ≤ 3 → x.length + (s.size - i) ≤ 1152921504000 → Tt (fun k => grammar_reader_body.l0 k s (i : Int) bad d (⟨#[]⟩ : ByteArray) x) (Ld s i bad x)) ∧
 (∀ (i : Nat) (bad : Bool) (x : List S52), i ≤ s.size → s.size - i ≤ n → x.length + (s.size - i) ≤ 1152921504000 → Tt (fun k => grammar_reader_body.l1 k x s (i : Int) bad) (Ld s i bad x)) := by
 intro n
 induction n using Nat.strongRecOn with
 | ind n ih =>
  have hl0 : ∀ (i : Nat) (bad : Bool) (d : ByteArray) (x : List S52), i ≤ s.size → s.size - i ≤ n → d.size ≤ 3 → x.length + (s.size - i) ≤ 1152921504000 → Tt (fun k => grammar_reader_body.l0 k s (i : Int) bad d (⟨#[]⟩ : ByteArray) x) (Ld s i bad x) := by
   intro i bad d x hi hn hd hx
   refine Tt.down ?_
   simp only [grammar_reader_body.l0]
   refine Tt.takes (p := [32, 47, 32]) hi (by omega) (by simp) (fun h => ?_) (fun _ => ?_)
   · have hle := hasP_le hi h
     simp only [List.length_cons, List.length_nil] at hle
     simp only [if_true, List.length_cons, List.length_nil]
     refine Tt.bind ((ih (s.size - (i + 3)) (by omega)).1 (i + 3) bad (by omega) (Nat.le_refl _)) ?_
     rintro ⟨d1, t1, l1, s1, i1, b1⟩ ⟨hs1, j, hj, h1, h2, h3⟩
     simp only at hs1 hj h3
     subst s1; subst i1
     simp only [if_pos (show x.length < 2513169434916 by omega)]
     refine ((ih (s.size - j) (by omega)).2.1 j b1 d (x ++ [⟨d1, t1, l1⟩]) h2 (Nat.le_refl _) hd (by simp; omega)).mono ?_
     rintro ⟨d2, t2, l2, s2, i2, b2⟩ ⟨hs2, j2, hj2, h4, h5, h6⟩
     refine ⟨hs2, j2, hj2, by omega, h5, fun hb => ?_⟩
     obtain ⟨g1, g2, g3, g4⟩ := h6 hb
     obtain ⟨g5, g6, g7⟩ := h3 g1
     refine ⟨g5, g2, g3, ?_⟩
     rw [wtL_append] at g4
     simp only [wtL] at g4 ⊢
     omega
   · simp only [Bool.false_eq_true, if_false]
     refine Tt.must (p := [32, 41]) hi (by omega) (by simp) (fun h => ?_) (fun _ => ?_)
     · have hle := hasP_le hi h
       exact Tt.now ⟨rfl, _, rfl, by omega, hle, fun hb => ⟨hb, hd, rfl, by simp only; omega⟩⟩
     · exact Tt.now ⟨rfl, i, rfl, Nat.le_refl _, hi, by simp⟩
  have hl1 : ∀ (i : Nat) (bad : Bool) (x : List S52), i ≤ s.size → s.size - i ≤ n → x.length + (s.size - i) ≤ 1152921504000 → Tt (fun k => grammar_reader_body.l1 k x s (i : Int) bad) (Ld s i bad x) := by
   intro i bad x hi hn hx
   refine Tt.down ?_
   simp only [grammar_reader_body.l1]
   cases bad with
   | true =>
    simp only [if_true]
    refine Tt.down ?_
    simp only [grammar_reader_body.j2, Bool.false_eq_true, if_false]
    exact Tt.now ⟨rfl, i, rfl, Nat.le_refl _, hi, by simp⟩
   | false =>
    simp only [Bool.false_eq_true, if_false]
    refine Tt.takes (p := [32, 41]) hi (by omega) (by simp) (fun h => ?_) (fun _ => ?_)
    · have hle := hasP_le hi h
      refine Tt.down ?_
      simp only [grammar_reader_body.j2, Bool.not_true, Bool.false_eq_true, if_false]
      exact Tt.now ⟨rfl, _, rfl, by omega, hle, fun hb => ⟨rfl, by show (3 : Nat) ≤ 3; omega, rfl, by simp only; omega⟩⟩
    · refine Tt.down ?_
      simp only [grammar_reader_body.j2, Bool.not_false, if_true]
      refine Tt.must (p := [32]) hi (by omega) (by simp) (fun h => ?_) (fun _ => ?_)
      · have hle := hasP_le hi h
        simp only [List.length_cons, List.length_nil] at hle
        simp only [List.length_cons, List.length_nil]
        refine Tt.bind ((ih (s.size - (i + 1)) (by omega)).1 (i + 1) false (by omega) (Nat.le_refl _)) ?_
        rintro ⟨d1, t1, l1, s1, i1, b1⟩ ⟨hs1, j, hj, h1, h2, h3⟩
        simp only at hs1 hj h3
        subst s1; subst i1
        simp only [if_pos (show x.length < 2513169434916 by omega)]
        refine ((ih (s.size - j) (by omega)).2.2 j b1 (x ++ [⟨d1, t1, l1⟩]) h2 (Nat.le_refl _) (by simp; omega)).mono ?_
        rintro ⟨d2, t2, l2, s2, i2, b2⟩ ⟨hs2, j2, hj2, h4, h5, h6⟩
        refine ⟨hs2, j2, hj2, by omega, h5, fun hb => ?_⟩
        obtain ⟨g1, g2, g3, g4⟩ := h6 hb
        obtain ⟨g5, g6, g7⟩ := h3 g1
        refine ⟨rfl, g2, g3, ?_⟩
        rw [wtL_append] at g4
        simp only [wtL] at g4 ⊢
        omega
      · refine Tt.bind (body_bad s i hi) ?_
        rintro ⟨d1, t1, l1, s1, i1, b1⟩ ⟨hs1, j, hj, h1, h2, h3⟩
        simp only at hs1 hj h3
        subst s1; subst i1
        simp only [if_pos (show x.length < 2513169434916 by omega)]
        have hb1 : b1 = true := by cases b1 <;> simp_all
        subst b1
        refine Tt.down ?_
        simp only [grammar_reader_body.l1, if_true]
        refine Tt.down ?_
        simp only [grammar_reader_body.j2, Bool.false_eq_true, if_false]
        exact Tt.now ⟨rfl, j, rfl, h1, h2, by simp⟩
  refine ⟨?_, hl0, hl1⟩
  intro i bad hi hn
  cases bad with
  | true => exact body_bad s i hi
  | false =>
   refine Tt.down ?_
   simp only [grammar_reader_body.f, Bool.false_eq_true, if_false]
   refine Tt.takes (p := [39]) hi (by omega) (by simp) (fun h => ?_) (fun _ => ?_)
   · have hle := hasP_le hi h
     simp only [List.length_cons, List.length_nil] at hle
     simp only [if_true, List.length_cons, List.length_nil]
     refine Tt.bind (atom_tot s false (by omega) (s.size - (i + 1)) (i + 1) [] (by omega) (by omega) (by simp; omega)) ?_
     rintro ⟨t1, s1, i1, b1⟩ ⟨hs1, j, hj, h1, h2, h3⟩
     simp only at hs1 hj h3
     subst s1; subst i1
     refine Tt.now ⟨rfl, j, rfl, by omega, h2, fun hb => ?_⟩
     obtain ⟨g1, g2, g3⟩ := h3 hb
     refine ⟨rfl, by omega, ?_⟩
     simp only [wt, wtL]
     simp only [List.length_nil] at g3
     have : (⟨#[105, 115]⟩ : ByteArray).size = 2 := rfl
     omega
   simp only [Bool.false_eq_true, if_false]
   refine Tt.takes (p := [46]) hi (by omega) (by simp) (fun h => ?_) (fun _ => ?_)
   · have hle := hasP_le hi h
     simp only [List.length_cons, List.length_nil] at hle
     simp only [if_true, List.length_cons, List.length_nil]
     refine Tt.now ⟨rfl, _, rfl, by omega, hle, fun hb => ⟨rfl, by omega, ?_⟩⟩
     simp only [wt, wtL]
     have : (⟨#[97, 110, 121]⟩ : ByteArray).size = 3 := rfl
     have : (⟨#[]⟩ : ByteArray).size = 0 := rfl
     omega
   simp only [Bool.false_eq_true, if_false]
   refine Tt.takes (p := [40, 41]) hi (by omega) (by simp) (fun h => ?_) (fun _ => ?_)
   · have hle := hasP_le hi h
     simp only [List.length_cons, List.length_nil] at hle
     simp only [if_true, List.length_cons, List.length_nil]
     refine Tt.now ⟨rfl, _, rfl, by omega, hle, fun hb => ⟨rfl, by omega, ?_⟩⟩
     simp only [wt, wtL]
     have : (⟨#[110, 111, 116, 104, 105, 110, 103]⟩ : ByteArray).size = 7 := rfl
     have : (⟨#[]⟩ : ByteArray).size = 0 := rfl
     omega
   simp only [Bool.false_eq_true, if_false]
   refine Tt.takes (p := [40, 32, 33, 32]) hi (by omega) (by simp) (fun h => ?_) (fun _ => ?_)
   · have hle := hasP_le hi h
     simp only [List.length_cons, List.length_nil] at hle
     simp only [if_true, List.length_cons, List.length_nil]
     refine Tt.bind ((ih (s.size - (i + 4)) (by omega)).1 (i + 4) false (by omega) (Nat.le_refl _)) ?_
     rintro ⟨d1, t1, l1, s1, i1, b1⟩ ⟨hs1, j, hj, h1, h2, h3⟩
     simp only at hs1 hj h3
     subst s1; subst i1
     dsimp only
     refine Tt.must (p := [32, 41]) h2 (by omega) (by simp) (fun h => ?_) (fun _ => ?_)
     · have hle := hasP_le h2 h
       refine Tt.now ⟨rfl, _, rfl, by omega, hle, fun hb => ⟨rfl, by omega, ?_⟩⟩
       obtain ⟨g1, g2, g3⟩ := h3 hb
       simp only [wt, wtL] at g3 ⊢
       have : (⟨#[110, 111, 116]⟩ : ByteArray).size = 3 := rfl
       have : (⟨#[]⟩ : ByteArray).size = 0 := rfl
       simp only [List.length_cons, List.length_nil]
       omega
     · exact Tt.now ⟨rfl, j, rfl, by omega, h2, by simp⟩
   simp only [Bool.false_eq_true, if_false]
   refine Tt.takes (p := [40, 32, 47, 32]) hi (by omega) (by simp) (fun h => ?_) (fun _ => ?_)
   · have hle := hasP_le hi h
     simp only [List.length_cons, List.length_nil] at hle
     simp only [if_true, List.length_cons, List.length_nil]
     refine Tt.bind ((ih (s.size - (i + 4)) (by omega)).1 (i + 4) false (by omega) (Nat.le_refl _)) ?_
     rintro ⟨d1, t1, l1, s1, i1, b1⟩ ⟨hs1, j, hj, h1, h2, h3⟩
     simp only at hs1 hj h3
     subst s1; subst i1
     refine ((ih (s.size - j) (by omega)).2.1 j b1 (⟨#[111, 114]⟩ : ByteArray) [⟨d1, t1, l1⟩] h2 (Nat.le_refl _) (by show (2 : Nat) ≤ 3; omega) (by simp; omega)).mono ?_
     rintro ⟨d2, t2, l2, s2, i2, b2⟩ ⟨hs2, j2, hj2, h4, h5, h6⟩
     refine ⟨hs2, j2, hj2, by omega, h5, fun hb => ?_⟩
     obtain ⟨g1, g2, g3, g4⟩ := h6 hb
     obtain ⟨g5, g6, g7⟩ := h3 g1
     refine ⟨rfl, by omega, ?_⟩
     simp only [wt, wtL] at g2 g3 g4 g7 ⊢
     omega
   simp only [Bool.false_eq_true, if_false]
   refine Tt.takes (p := [40, 32]) hi (by omega) (by simp) (fun h => ?_) (fun _ => ?_)
   · have hle := hasP_le hi h
     simp only [List.length_cons, List.length_nil] at hle
     simp only [if_true, List.length_cons, List.length_nil]
     refine Tt.bind ((ih (s.size - (i + 2)) (by omega)).1 (i + 2) false (by omega) (Nat.le_refl _)) ?_
     rintro ⟨d1, t1, l1, s1, i1, b1⟩ ⟨hs1, j, hj, h1, h2, h3⟩
     simp only at hs1 hj h3
     subst s1; subst i1
     simp only [Option.bind_some]
     refine Tt.takes (p := [32, 42, 32, 41]) h2 (by omega) (by simp) (fun h => ?_) (fun _ => ?_)
     · have hle := hasP_le h2 h
       simp only [if_true]
       refine Tt.now ⟨rfl, _, rfl, by omega, hle, fun hb => ⟨rfl, by omega, ?_⟩⟩
       obtain ⟨g1, g2, g3⟩ := h3 hb
       simp only [wt, wtL] at g3 ⊢
       have : (⟨#[109, 97, 110, 121]⟩ : ByteArray).size = 4 := rfl
       have : (⟨#[]⟩ : ByteArray).size = 0 := rfl
       simp only [List.length_cons, List.length_nil]
       omega
     simp only [Bool.false_eq_true, if_false]
     refine Tt.takes (p := [32, 63, 32, 41]) h2 (by omega) (by simp) (fun h => ?_) (fun _ => ?_)
     · have hle := hasP_le h2 h
       simp only [if_true]
       refine Tt.now ⟨rfl, _, rfl, by omega, hle, fun hb => ⟨rfl, by omega, ?_⟩⟩
       obtain ⟨g1, g2, g3⟩ := h3 hb
       simp only [wt, wtL] at g3 ⊢
       have : (⟨#[111, 112, 116]⟩ : ByteArray).size = 3 := rfl
       have : (⟨#[]⟩ : ByteArray).size = 0 := rfl
       simp only [List.length_cons, List.length_nil]
       omega
     simp only [Bool.false_eq_true, if_false]
     refine ((ih (s.size - j) (by omega)).2.2 j b1 [⟨d1, t1, l1⟩] h2 (Nat.le_refl _) (by simp; omega)).mono ?_
     rintro ⟨d2, t2, l2, s2, i2, b2⟩ ⟨hs2, j2, hj2, h4, h5, h6⟩
     refine ⟨hs2, j2, hj2, by omega, h5, fun hb => ?_⟩
     obtain ⟨g1, g2, g3, g4⟩ := h6 hb
     obtain ⟨g5, g6, g7⟩ := h3 g1
     refine ⟨rfl, by omega, ?_⟩
     simp only [wt, wtL] at g2 g3 g4 g7 ⊢
     omega
   simp only [Bool.false_eq_true, if_false]
   refine Tt.bind (name_at s i false hi (by omega)) ?_
   rintro ⟨t1, s1, i1, b1⟩ ⟨hs1, j, hj, h1, h2, h3⟩
   simp only at hs1 hj h3
   subst s1; subst i1
   refine Tt.now ⟨rfl, j, rfl, by omega, h2, fun hb => ?_⟩
   obtain ⟨g1, g2, g3⟩ := h3 hb
   refine ⟨rfl, by omega, ?_⟩
   simp only [wt, wtL]
   have : (⟨#[114, 117, 108, 101]⟩ : ByteArray).size = 4 := rfl
   omega
theorem wtG_append (a b : List S54) : wtG (a ++ b) = wtG a + wtG b := by
 induction a with
 | nil => simp [wtG]
 | cons x a ih => simp only [List.cons_append, wtG, ih]; omega
def Gd (s : ByteArray) (r : List S54 × ByteArray × Int × Bool) : Prop := r.2.2.2 = false → wtG r.1 ≤ 100 * s.size
theorem Read_l0 (s : ByteArray) (hs : s.size ≤ 1152921504) : ∀ (n i : Nat) (bad : Bool) (g : List S54), i ≤ s.size → s.size - i ≤ n → g.length ≤ i → (bad = false → wtG g ≤ 100 * i) →
 Tt (fun k => grammar_Read.l0 k s g s (i : Int) bad) (Gd s) := by
 intro n
 induction n using Nat.strongRecOn with
 | ind n ih =>
  intro i bad g hi hn hg hw
  refine Tt.down ?_
  by_cases hlt : i < s.size
  · simp only [grammar_Read.l0, if_pos (show (i : Int) < (s.size : Int) by omega)]
    cases bad with
    | true =>
     simp only [if_true]
     exact Tt.now (fun h => by simp at h)
    | false =>
     simp only [Bool.false_eq_true, if_false]
     refine Tt.bind (name_at s i false hi (by omega)) ?_
     rintro ⟨t1, s1, i1, b1⟩ ⟨hs1, j, hj, h1, h2, h3⟩
     simp only at hs1 hj h3
     subst s1; subst i1
     have rest : ∀ (m : Nat) (b2 : Bool), m ≤ s.size → i ≤ m → (b2 = false → i < m ∧ t1.size + i + 3 ≤ m ∧ 2 * i < 2 * m) →
      Tt (fun k => (grammar_reader_body.f k s (m : Int) b2).bind fun b => (if g.length < 1954687338268 then ((grammar_reader_must.f b.2.2.2.1 b.2.2.2.2.1 b.2.2.2.2.2 (⟨#[32, 59, 10]⟩ : ByteArray)).bind fun n => grammar_Read.l0 k s (g ++ [(⟨t1, ⟨b.1, b.2.1, b.2.2.1⟩⟩ : S54)]) n.1 n.2.1 n.2.2) else none)) (Gd s) := by
      intro m b2 hm him hb2
      refine Tt.bind ((body_tot s hs (s.size - m)).1 m b2 hm (Nat.le_refl _)) ?_
      rintro ⟨d3, t3, l3, s3, i3, b3⟩ ⟨hs3, j3, hj3, h4, h5, h6⟩
      simp only at hs3 hj3 h6
      subst s3; subst i3
      simp only [if_pos (show g.length < 1954687338268 by omega)]
      have bad_end : ∀ (q : Nat) (g' : List S54), Tt (fun k => grammar_Read.l0 k s g' s (q : Int) true) (Gd s) := by
       intro q g'
       refine Tt.down ?_
       simp only [grammar_Read.l0, if_true]
       by_cases c : (q : Int) < (s.size : Int)
       rotate_left
       · simp only [if_neg c]; exact Tt.now (fun h => by simp at h)
       simp only [if_pos c]; exact Tt.now (fun h => by simp at h)
      refine Tt.must (p := [32, 59, 10]) h5 (by omega) (by simp) (fun h => ?_) (fun _ => ?_)
      · have hle := hasP_le h5 h
        simp only [List.length_cons, List.length_nil] at hle
        simp only [List.length_cons, List.length_nil]
        cases b3 with
        | true => exact bad_end _ _
        | false =>
         obtain ⟨g1, g2, g3⟩ := h6 rfl
         obtain ⟨g4, g5, g6⟩ := hb2 g1
         have hwg := hw rfl
         refine ih (s.size - (j3 + 3)) (by omega) (j3 + 3) false _ (by omega) (Nat.le_refl _) (by simp; omega) (fun _ => ?_)
         rw [wtG_append]
         simp only [wtG]
         omega
      · exact bad_end _ _
     dsimp only
     refine Tt.must (p := [32, 61, 32]) h2 (by omega) (by simp) (fun h => ?_) (fun _ => ?_)
     · have hle := hasP_le h2 h
       simp only [List.length_cons, List.length_nil] at hle
       simp only [List.length_cons, List.length_nil]
       refine rest (j + 3) b1 hle (by omega) (fun hb => ?_)
       obtain ⟨-, g2, g3⟩ := h3 hb
       omega
     · exact rest j true h2 h1 (by simp)
  · simp only [grammar_Read.l0, if_neg (show ¬ (i : Int) < (s.size : Int) by omega)]
    exact Tt.now (fun h => by have := hw h; simp only; omega)
def Rd (s : ByteArray) (r : List S54 × Int) : Prop := (r.2 = 0 ∧ wtG r.1 ≤ 100 * s.size ∧ rightG r.1 = true ∧ toB (textG r.1) = s) ∨ (r.2 = 3 ∧ r.1 = [])
theorem Read_f (s : ByteArray) (hs : s.size ≤ 1152921504) : Tt (fun k => grammar_Read.f k s) (Rd s) := by
 unfold grammar_Read.f
 refine Tt.bind (Read_l0 s hs (s.size - 0) 0 false [] (by omega) (Nat.le_refl _) (by simp) (by simp [wtG])) ?_
 rintro ⟨g, s1, i1, b⟩ hg
 dsimp only
 cases b with
 | true =>
  simp only [if_true]
  exact Tt.now (.inr ⟨rfl, rfl⟩)
 | false =>
  have hw := hg rfl
  simp only at hw
  simp only [Bool.false_eq_true, if_false]
  refine Tt.bind (I := fun t => t = if rightG g = true then (toB (textG g), 0) else (toB [], 240)) ⟨_, my_Text g (by omega), rfl⟩ ?_
  rintro t rfl
  by_cases c : rightG g = true
  rotate_left
  · simp only [if_neg c]
    exact Tt.now (.inr ⟨rfl, rfl⟩)
  simp only [if_pos c, if_true]
  by_cases e : (toB (textG g)).toList = s.toList
  · simp only [if_pos e]
    refine Tt.now (.inl ⟨rfl, hw, c, ?_⟩)
    rw [tl_bs, tl_bs] at e
    exact bs_inj.1 e
  · simp only [if_neg e]
    exact Tt.now (.inr ⟨rfl, rfl⟩)
end Go.Proofs.Ytcnllhnhinmokaa.PHGr
end
section
namespace Go.Proofs.Ytcnllhnhinmokaa.PHGr
open Go.StrMap Go.RowKit Go.Proofs.YtcnllhnhinmokaaW.PrintWords Go.Proofs.YtcnllhnhinmokaaW.PrintLast Go.Proofs.YtcnllhnhinmokaaW.PrintMore
theorem GrammarRead : manystrandlaw24_GrammarRead.Pure := by
 intro a0 _
 unfold manystrandlaw24_GrammarRead.f manystrandlaw24_awake.f
 by_cases c : (a0.size : Int) > 3000
 · exact ⟨0, by rw [if_pos c]; rfl⟩
 have hs : a0.size ≤ 1152921504 := by omega
 refine Ev.rounds (r := true) ?_
 simp only [if_neg c, Option.bind_some]
 obtain ⟨r, h, hr⟩ := Read_f a0 hs
 refine Ev.bind h ?_
 rcases hr with ⟨h1, h2, h3, h4⟩ | ⟨h1, h2⟩
 · simp only [h1, if_true]
   refine Ev.bind (ref_Text r.1 (by omega)) ?_
   simp only [if_pos h3, if_true, h4]
   exact Ev.now _
 · rw [h1, h2]
   exact Ev.now _
end Go.Proofs.Ytcnllhnhinmokaa.PHGr
end
section
namespace Go.Proofs.Ytcnllhnhinmokaa.grammarRead
open Go.ChangeShapes Go.WideShapes Go.ChangeAt Go.RowKit
open Go.ChangeMaps (open_string shut_string)
set_option linter.unusedVariables false
theorem own : ownKnob Try.prog.godebug = none := by kernel_rfl
set_option maxRecDepth 100000 in
theorem lifted (os : Os) (started : os.Started) (H : Type) (enc : TypeId × Value → H) :
  ReturnsInHanded {} Try.checked os 8 .any (Rows.grammarReadSpec.pre6 enc Try.prog Try.f8 Rows.grammarReadRow.domain false) (Rows.grammarReadSpec.post enc Try.prog Try.f8 false true false false) := by
 refine returnsInHanded_of_change_sized (C := Try.checked) own started (by kernel_rfl) Try.func8
  (ChangeSpec.witness6 (enc := enc) (C := Try.checked) false ⟨#[], #[.string ByteArray.empty], []⟩ 8 (by kernel_rfl) (by kernel_rfl) (by kernel_rfl) (by kernel_rfl)) ?_
 intro W base args ds gs before hval0 hW hcnd hsz0 _
 have hsz : (DataW.weightsEach Try.prog (Try.f8.params.toList ++ Rows.grammarReadSpec.plain.varTypes Try.prog) (ds ++ gs)).all (· ≤ reachBytes) = true := hsz0
 have hval : ∀ (j : Nat) t v, Try.f8.params[j]? = some t → args[j]? = some v → Value.okWide Try.prog W .any base t v := hval0
 have hW' := hW
 obtain ⟨p, q, hA0, hV, rfl, hfz, hnd⟩ := hW
 have hA : DataW.TrodAll enc Try.prog W 0 (fun _ => true) true Try.f8.params.toList args.toList ds p := hA0
 rw [Try.params8] at hA hval hsz
 obtain ⟨v0, vs0, d0, ds0, p0, q0, hargs, rfl, rfl, h0, r0⟩ := trodAll_cons hA
 obtain ⟨rfl, rfl, rfl⟩ := trodAll_nil r0
 obtain rfl : args = #[v0] := by cases args; simp_all
 obtain ⟨rfl, rfl⟩ := trodVars_none hV
 obtain ⟨a0, rfl, rfl, rfl, y0⟩ := open_string Try.underlying9 (hval 0 9 v0 rfl rfl) h0
 have w0 : a0.size ≤ 140737488351232 := by
  have z := sized_string hsz (j := 0) (t := 9) rfl rfl
  rw [Array.length_toList] at z
  exact z
 clear hA0 hval0 hsz0 hsz
 refine (PHGr.manystrandlaw24_GrammarRead.walk PHGr.GrammarRead a0 W w0).mono fun e W' ⟨he, bel⟩ => ?_
 subst he
 exact ⟨_, rfl, _, _, _, [], _, [], hW', trodAll_mk1 (shut_bool Try.underlying4 _), (trodAll_cons_mk (shut_string Try.underlying9 y0) trodAll_mk0), rfl, bel.frame _, fun h => by cases h⟩
theorem over : Rows.grammarReadRow.holds Try.pinned (OpenSpec.ofChange Rows.grammarReadSpec) :=
 OpenClaim.holds_of_wide 8 Try.f8 rfl rfl rfl rfl rfl rfl rfl ⟨rfl, rfl, rfl, rfl, rfl⟩ rfl rfl rfl rfl rfl (by kernel_rfl) Try.func8 (by kernel_rfl)
  (of_decide_eq_true (by kernel_rfl)) (by unfold Func.isWrapper; first | (rw [if_pos (by decide +kernel)]; kernel_rfl) | (rw [if_neg (by decide +kernel)]; exact ⟨rfl, rfl⟩))
  (fun os started H enc _ => lifted os started H enc)
theorem proved : Rows.GrammarReadSaid := over
#print axioms proved
end Go.Proofs.Ytcnllhnhinmokaa.grammarRead
namespace Go.Proofs.Ytcnllhnhinmokaa
theorem grammarRead_holds : Rows.GrammarReadSaid := grammarRead.proved
end Go.Proofs.Ytcnllhnhinmokaa
end
