/- For every grammar, Text tells what the document's answer tells, and Read of a told Text is the grammar (no condition on the grammar): part 6 of 6. -/
import Derived.Test.YtcnllhnhinmokaaGT4
import Derived.Test.YtcnllhnhinmokaaRows
import Derived.WalkKit
import Derived.ProofKit
import Derived.OpenShut
import Derived.ShutString
import Derived.ChangeOld
import Derived.Below
import Derived.SizedLaws
import Derived.Carry
section
namespace Go.Proofs.Ytcnllhnhinmokaa.PHGr
open Go.StrMap Go.RowKit Go.Proofs.YtcnllhnhinmokaaW.PrintWords Go.Proofs.YtcnllhnhinmokaaW.PrintLast Go.Proofs.YtcnllhnhinmokaaW.PrintMore
set_option linter.unusedVariables false
set_option linter.unusedSimpArgs false
def sepB (d : ByteArray) : List UInt8 := if bs d = [111, 114] then [32, 47] else []
mutual
def textB : S52 → List UInt8
 | ⟨d, t, l⟩ =>
  if bs d = [105, 115] then quoteB (bs t) else if bs d = [97, 110, 121] then [46] else if bs d = [114, 117, 108, 101] then bs t
  else if bs d = [109, 97, 110, 121] then [40, 32] ++ textH l ++ [32, 42, 32, 41] else if bs d = [111, 112, 116] then [40, 32] ++ textH l ++ [32, 63, 32, 41]
  else if bs d = [110, 111, 116] then [40, 32, 33, 32] ++ textH l ++ [32, 41] else if bs d = [110, 111, 116, 104, 105, 110, 103] then [40, 41]
  else 40 :: textL (sepB d) l ++ [32, 41]
def textH : List S52 → List UInt8
 | [] => []
 | x :: _ => textB x
def textL (sep : List UInt8) : List S52 → List UInt8
 | [] => []
 | x :: l => sep ++ 32 :: textB x ++ textL sep l
end
theorem sepB_len (d : ByteArray) : (sepB d).length ≤ 2 := by unfold sepB; split <;> simp
mutual
theorem textB_len : ∀ p : S52, (textB p).length + 3 ≤ wt p
 | ⟨d, t, l⟩ => by
  have h1 := textL_len (sepB d) (sepB_len d) l
  have h2 := textH_len l
  have h3 := qB_len (bs t)
  have h4 := bs_len t
  unfold textB wt
  (repeat' split) <;> (try simp only [List.length_append, List.length_cons, List.length_nil, quoteB]) <;> omega
theorem textH_len : ∀ l : List S52, (textH l).length ≤ wtL l
 | [] => by simp [textH]
 | x :: l => by
  have := textB_len x
  simp only [textH, wtL]
  omega
theorem textL_len (sep : List UInt8) (hs : sep.length ≤ 2) : ∀ l : List S52, (textL sep l).length ≤ wtL l
 | [] => by simp [textL]
 | x :: l => by
  have := textB_len x
  have := textL_len sep hs l
  simp only [textL, wtL, List.length_append, List.length_cons]
  omega
end
theorem textB_eq (p : S52) : textB p = if bs p.f0 = [105, 115] then quoteB (bs p.f1) else if bs p.f0 = [97, 110, 121] then [46] else if bs p.f0 = [114, 117, 108, 101] then bs p.f1
 else if bs p.f0 = [109, 97, 110, 121] then [40, 32] ++ textH p.f2 ++ [32, 42, 32, 41] else if bs p.f0 = [111, 112, 116] then [40, 32] ++ textH p.f2 ++ [32, 63, 32, 41]
 else if bs p.f0 = [110, 111, 116] then [40, 32, 33, 32] ++ textH p.f2 ++ [32, 41] else if bs p.f0 = [110, 111, 116, 104, 105, 110, 103] then [40, 41]
 else 40 :: textL (sepB p.f0) p.f2 ++ [32, 41] := by cases p; simp only [textB]
theorem head_many {names : List ByteArray} {d t : ByteArray} {n : Nat} (h : headB names d t n = true) (c : bs d = [109, 97, 110, 121] ∨ bs d = [111, 112, 116] ∨ bs d = [110, 111, 116]) : n = 1 := by
 unfold headB midB lateB endB at h
 rcases c with c | c | c <;> simp [c] at h <;> exact h.2
theorem mid_cat (a b c : List UInt8) : (toB a ++ toB b) ++ toB c = toB (a ++ b ++ c) := by
 rw [← bs_inj]; simp [app_bs, bs_toB]
theorem lit (l : List UInt8) : (⟨l.toArray⟩ : ByteArray) = toB l := rfl
theorem ref_text_mid {k0 : Nat → Option ByteArray} (x : S52) (pre suf : List UInt8) (np ns : Nat) (hnp : np = pre.length) (hns : ns = suf.length) (hp : pre.length ≤ 4) (hq : suf.length ≤ 4) (hw : wt x ≤ 2305843009213693952)
 (h : Ev k0 (toB (textB x))) :
 Ev (fun k => (k0 k).bind fun t => if np + t.size ≤ 9223372036854775807 then (if (toB pre ++ t).size + ns ≤ 9223372036854775807 then some ((toB pre ++ t) ++ toB suf) else none) else none) (toB (pre ++ textB x ++ suf)) := by
 have := textB_len x
 refine Ev.bind h ?_
 simp only [size_toB, ByteArray.size_append]
 simp only [if_pos (show np + (textB x).length ≤ 9223372036854775807 by omega), if_pos (show pre.length + (textB x).length + ns ≤ 9223372036854775807 by omega), mid_cat]
 exact Ev.now _
mutual
theorem ref_text (names : List ByteArray) : ∀ p : S52, wt p ≤ 2305843009213693952 → rightB names p = true → Ev (fun k => manystrandref24_text.f k p.f0 p.f1 p.f2) (toB (textB p))
 | ⟨d, t, l⟩, hp, hr => by
  simp only [wt] at hp
  simp only [rightB, Bool.and_eq_true] at hr
  have hll := wtL_len l
  have ihl := ref_textL names l (by omega) hr.1
  refine evDown ?_
  simp only [manystrandref24_text.f, tl_bs]
  unfold textB
  have mid : ∀ (pre suf : List UInt8) (np ns : Nat), np = pre.length → ns = suf.length → pre.length ≤ 4 → suf.length ≤ 4 → l.length = 1 →
   Ev (fun k => if 0 < (l.length : Int) then ((manystrandref24_text.f k ((rd_T52 l 0).f0) ((rd_T52 l 0).f1) ((rd_T52 l 0).f2)).bind fun t => if np + t.size ≤ 9223372036854775807 then (if (toB pre ++ t).size + ns ≤ 9223372036854775807 then some ((toB pre ++ t) ++ toB suf) else none) else none) else none) (toB (pre ++ textH l ++ suf)) := by
   intro pre suf np ns h1 h2 h3 h4 h5
   obtain ⟨x, rfl⟩ := List.length_eq_one_iff.1 h5
   simp only [List.length_cons, List.length_nil, show (0 : Int) < ((0 + 1 : Nat) : Int) by omega, if_true, textH]
   exact ref_text_mid x pre suf np ns h1 h2 h3 h4 (by simp only [wtL] at hp; omega) (ihl x (by simp))
  by_cases c1 : bs d = [105, 115]
  · simp only [if_pos c1]
    exact Ev.bind (ref_quoted t (by omega)) (Ev.now _)
  simp only [if_neg c1]
  by_cases c2 : bs d = [97, 110, 121]
  · simp only [if_pos c2]; exact Ev.now _
  simp only [if_neg c2]
  by_cases c3 : bs d = [114, 117, 108, 101]
  · simp only [if_pos c3, toB_bs]; exact Ev.now _
  simp only [if_neg c3]
  by_cases c4 : bs d = [109, 97, 110, 121]
  · simp only [if_pos c4]
    exact mid [40, 32] [32, 42, 32, 41] 2 4 rfl rfl (by simp) (by simp) (head_many hr.2 (.inl c4))
  simp only [if_neg c4]
  by_cases c5 : bs d = [111, 112, 116]
  · simp only [if_pos c5]
    exact mid [40, 32] [32, 63, 32, 41] 2 4 rfl rfl (by simp) (by simp) (head_many hr.2 (.inr (.inl c5)))
  simp only [if_neg c5]
  by_cases c6 : bs d = [110, 111, 116]
  · simp only [if_pos c6]
    exact mid [40, 32, 33, 32] [32, 41] 4 2 rfl rfl (by simp) (by simp) (head_many hr.2 (.inr (.inr c6)))
  simp only [if_neg c6]
  by_cases c7 : bs d = [110, 111, 116, 104, 105, 110, 103]
  · simp only [if_pos c7]; exact Ev.now _
  simp only [if_neg c7]
  have := scanLP (β := ByteArray) l (fun k a i => manystrandref24_text.l0 k a i d t l) (fun a i => a.size + wtL (l.drop i) ≤ 4611686018427387904) (fun a m => a ++ toB (textL (sepB d) m ++ [32, 41])) ?_ ?_ l.length 0 (toB [40]) (by omega) (by rw [size_toB]; simp; omega)
  · exact evTo (by rw [← bs_inj]; simp [app_bs, bs_toB]) this
  · intro a p
    refine evDown ?_
    simp only [manystrandref24_text.l0, Int.lt_irrefl, if_false]
    simp only [if_pos (show a.size + 2 ≤ 9223372036854775807 by omega)]
    exact evTo (by simp [textL, toB]) (Ev.now _)
  · intro a i x p hi hd hx hm ih
    have hw : wrap64 ((i : Int) + 1) = ((i + 1 : Nat) : Int) := by rw [w64 (by omega) (by omega)]; omega
    have hwx : wtL (l.drop i) = wt x + wtL (l.drop (i + 1)) := by rw [hd, wtL]
    have htl := textB_len x
    refine evDown ?_
    simp only [manystrandref24_text.l0, if_pos (show (i : Int) < (l.length : Int) by omega), if_pos (show (0 : Int) ≤ (i : Int) by omega), hw, rd_T52, Int.toNat_natCast, hx, tl_bs, if_pos (show a.size + 2 ≤ 9223372036854775807 by omega)]
    have go : ∀ y : ByteArray, bs y = sepB d ++ 32 :: textB x → Ev (fun k => manystrandref24_text.l0 k (a ++ y) ((i + 1 : Nat) : Int) d t l) (a ++ toB (textL (sepB d) (x :: l.drop (i + 1)) ++ [32, 41])) := by
     intro y hy
     have hs := sepB_len d
     have hz : y.size = (sepB d).length + (1 + (textB x).length) := by rw [← bs_len, hy]; simp; omega
     refine evTo ?_ (ih (a ++ y) (by rw [ByteArray.size_append]; omega))
     rw [← bs_inj]; simp only [app_bs, bs_toB, hy, textL]; simp
    by_cases c8 : bs d = [111, 114]
    rotate_left
    · simp only [if_neg c8]
      refine Ev.bind (ihl x hm) ?_
      simp only [size_toB, ByteArray.size_append, lit, List.length_cons, List.length_nil]
      simp only [if_pos (show 1 + (textB x).length ≤ 9223372036854775807 by omega), if_pos (show a.size + (0 + 1 + (textB x).length) ≤ 9223372036854775807 by omega)]
      exact go (toB [32] ++ toB (textB x)) (by simp [app_bs, bs_toB, sepB, c8])
    simp only [if_pos c8]
    refine Ev.bind (ihl x hm) ?_
    simp only [size_toB, ByteArray.size_append, lit, List.length_cons, List.length_nil]
    simp only [if_pos (show 1 + (textB x).length ≤ 9223372036854775807 by omega), if_pos (show a.size + (0 + 1 + 1) + (0 + 1 + (textB x).length) ≤ 9223372036854775807 by omega)]
    refine evTo rfl (Ev.congr (fun k => ?_) (go (toB [32, 47] ++ (toB [32] ++ toB (textB x))) (by simp [app_bs, bs_toB, sepB, c8])))
    rw [ByteArray.append_assoc]
theorem ref_textL (names : List ByteArray) : ∀ l : List S52, wtL l ≤ 2305843009213693952 → rightL names l = true → ∀ x ∈ l, Ev (fun k => manystrandref24_text.f k x.f0 x.f1 x.f2) (toB (textB x))
 | [], _, _, _, hm => absurd hm (by simp)
 | y :: l, hl, hr, x, hm => by
  simp only [wtL] at hl
  simp only [rightL, Bool.and_eq_true] at hr
  rcases List.mem_cons.1 hm with hm | hm
  · rw [hm]; exact ref_text names y (by omega) hr.1
  · exact ref_textL names l (by omega) hr.2 x hm
end
mutual
theorem my_text (names : List ByteArray) : ∀ p : S52, wt p ≤ 2305843009213693952 → rightB names p = true → Ev (fun k => grammar_text.f k p.f0 p.f1 p.f2) (toB (textB p))
 | ⟨d, t, l⟩, hp, hr => by
  simp only [wt] at hp
  simp only [rightB, Bool.and_eq_true] at hr
  have hll := wtL_len l
  have ihl := my_textL names l (by omega) hr.1
  refine evDown ?_
  simp only [grammar_text.f, tl_bs]
  unfold textB
  have mid : ∀ (pre suf : List UInt8) (np ns : Nat), np = pre.length → ns = suf.length → pre.length ≤ 4 → suf.length ≤ 4 → l.length = 1 →
   Ev (fun k => if 0 < (l.length : Int) then ((grammar_text.f k ((rd_T52 l 0).f0) ((rd_T52 l 0).f1) ((rd_T52 l 0).f2)).bind fun t => if np + t.size ≤ 9223372036854775807 then (if (toB pre ++ t).size + ns ≤ 9223372036854775807 then some ((toB pre ++ t) ++ toB suf) else none) else none) else none) (toB (pre ++ textH l ++ suf)) := by
   intro pre suf np ns h1 h2 h3 h4 h5
   obtain ⟨x, rfl⟩ := List.length_eq_one_iff.1 h5
   simp only [List.length_cons, List.length_nil, show (0 : Int) < ((0 + 1 : Nat) : Int) by omega, if_true, textH]
   exact ref_text_mid x pre suf np ns h1 h2 h3 h4 (by simp only [wtL] at hp; omega) (ihl x (by simp))
  by_cases c1 : bs d = [105, 115]
  · simp only [if_pos c1]
    exact Ev.bind (my_quoted t (by omega)) (Ev.now _)
  simp only [if_neg c1]
  by_cases c2 : bs d = [97, 110, 121]
  · simp only [if_pos c2]; exact Ev.now _
  simp only [if_neg c2]
  by_cases c3 : bs d = [114, 117, 108, 101]
  · simp only [if_pos c3, toB_bs]; exact Ev.now _
  simp only [if_neg c3]
  by_cases c7 : bs d = [110, 111, 116, 104, 105, 110, 103]
  · simp only [if_pos c7]
    refine evTo ?_ (Ev.now _)
    rw [if_neg (by rw [c7]; decide), if_neg (by rw [c7]; decide), if_neg (by rw [c7]; decide)]; rfl
  simp only [if_neg c7]
  by_cases c4 : bs d = [109, 97, 110, 121]
  · simp only [if_pos c4]
    exact mid [40, 32] [32, 42, 32, 41] 2 4 rfl rfl (by simp) (by simp) (head_many hr.2 (.inl c4))
  simp only [if_neg c4]
  by_cases c5 : bs d = [111, 112, 116]
  · simp only [if_pos c5]
    exact mid [40, 32] [32, 63, 32, 41] 2 4 rfl rfl (by simp) (by simp) (head_many hr.2 (.inr (.inl c5)))
  simp only [if_neg c5]
  by_cases c6 : bs d = [110, 111, 116]
  · simp only [if_pos c6]
    exact mid [40, 32, 33, 32] [32, 41] 4 2 rfl rfl (by simp) (by simp) (head_many hr.2 (.inr (.inr c6)))
  simp only [if_neg c6]
  have := scanLP (β := ByteArray) l (fun k a i => grammar_text.l0 k a l (l.length : Int) i d t l) (fun a i => a.size + wtL (l.drop i) ≤ 4611686018427387904) (fun a m => a ++ toB (textL (sepB d) m ++ [32, 41])) ?_ ?_ l.length 0 (toB [40]) (by omega) (by rw [size_toB]; simp; omega)
  · exact evTo (by rw [← bs_inj]; simp [app_bs, bs_toB]) this
  · intro a p
    refine evDown ?_
    simp only [grammar_text.l0, Int.lt_irrefl, if_false]
    simp only [if_pos (show a.size + 2 ≤ 9223372036854775807 by omega)]
    exact evTo (by simp [textL, toB]) (Ev.now _)
  · intro a i x p hi hd hx hm ih
    have hw : wrap64 ((i : Int) + 1) = ((i + 1 : Nat) : Int) := by rw [w64 (by omega) (by omega)]; omega
    have hwx : wtL (l.drop i) = wt x + wtL (l.drop (i + 1)) := by rw [hd, wtL]
    have htl := textB_len x
    refine evDown ?_
    simp only [grammar_text.l0, if_pos (show (i : Int) < (l.length : Int) by omega), if_pos (show (0 : Int) ≤ (i : Int) by omega), hw, rd_T52, Int.toNat_natCast, hx, tl_bs, if_pos (show a.size + 2 ≤ 9223372036854775807 by omega)]
    have go : ∀ y : ByteArray, bs y = sepB d ++ 32 :: textB x → Ev (fun k => grammar_text.l0 k (a ++ y) l (l.length : Int) ((i + 1 : Nat) : Int) d t l) (a ++ toB (textL (sepB d) (x :: l.drop (i + 1)) ++ [32, 41])) := by
     intro y hy
     have hs := sepB_len d
     have hz : y.size = (sepB d).length + (1 + (textB x).length) := by rw [← bs_len, hy]; simp; omega
     refine evTo ?_ (ih (a ++ y) (by rw [ByteArray.size_append]; omega))
     rw [← bs_inj]; simp only [app_bs, bs_toB, hy, textL]; simp
    by_cases c8 : bs d = [111, 114]
    rotate_left
    · simp only [if_neg c8]
      refine Ev.bind (ihl x hm) ?_
      simp only [size_toB, ByteArray.size_append, lit, List.length_cons, List.length_nil]
      simp only [if_pos (show 1 + (textB x).length ≤ 9223372036854775807 by omega), if_pos (show a.size + (0 + 1 + (textB x).length) ≤ 9223372036854775807 by omega)]
      exact go (toB [32] ++ toB (textB x)) (by simp [app_bs, bs_toB, sepB, c8])
    simp only [if_pos c8]
    refine Ev.bind (ihl x hm) ?_
    simp only [size_toB, ByteArray.size_append, lit, List.length_cons, List.length_nil]
    simp only [if_pos (show 1 + (textB x).length ≤ 9223372036854775807 by omega), if_pos (show a.size + (0 + 1 + 1) + (0 + 1 + (textB x).length) ≤ 9223372036854775807 by omega)]
    refine evTo rfl (Ev.congr (fun k => ?_) (go (toB [32, 47] ++ (toB [32] ++ toB (textB x))) (by simp [app_bs, bs_toB, sepB, c8])))
    rw [ByteArray.append_assoc]
theorem my_textL (names : List ByteArray) : ∀ l : List S52, wtL l ≤ 2305843009213693952 → rightL names l = true → ∀ x ∈ l, Ev (fun k => grammar_text.f k x.f0 x.f1 x.f2) (toB (textB x))
 | [], _, _, _, hm => absurd hm (by simp)
 | y :: l, hl, hr, x, hm => by
  simp only [wtL] at hl
  simp only [rightL, Bool.and_eq_true] at hr
  rcases List.mem_cons.1 hm with hm | hm
  · rw [hm]; exact my_text names y (by omega) hr.1
  · exact my_textL names l (by omega) hr.2 x hm
end
def ruleT (x : S54) : List UInt8 := bs x.f0 ++ [32, 61, 32] ++ textB x.f1 ++ [32, 59, 10]
def textG (g : List S54) : List UInt8 := g.flatMap ruleT
theorem ruleT_len (x : S54) : (ruleT x).length + x.f0.size ≤ 20 + 2 * x.f0.size + wt x.f1 := by
 have := textB_len x.f1
 have := bs_len x.f0
 simp only [ruleT, List.length_append, List.length_cons, List.length_nil]
 omega
theorem rightG_mem {g : List S54} (h : rightG g = true) {x : S54} (hm : x ∈ g) : plainB x.f0 = true ∧ rightB (nm g) x.f1 = true := by
 simp only [rightG, Bool.and_eq_true, List.all_eq_true] at h
 have := h.2 x hm
 simpa [okR] using this
theorem ref_Text (g : List S54) (hg : wtG g ≤ 2305843009213693952) : Ev (fun k => manystrandref24_Text.f k g) (if rightG g = true then (toB (textG g), 0) else (toB [], 240)) := by
 have hgl := wtG_len g
 unfold manystrandref24_Text.f
 refine Ev.bind (ref_Right g (by omega)) ?_
 by_cases c : rightG g = true
 rotate_left
 · simp only [if_neg c]
   exact Ev.now _
 simp only [if_pos c]
 have := scanLP (β := ByteArray) g (fun k a i => manystrandref24_Text.l0 k a i g) (fun a i => a.size + wtG (g.drop i) ≤ 4611686018427387904) (fun a m => (a ++ toB (textG m), (0 : Int))) ?_ ?_ g.length 0 (toB []) (by omega) (by rw [size_toB]; simp; omega)
 · exact evTo (by rw [Prod.mk.injEq]; exact ⟨by rw [← bs_inj]; simp [app_bs, bs_toB], rfl⟩) this
 · intro a p
   refine evDown ?_
   simp only [manystrandref24_Text.l0, Int.lt_irrefl, if_false]
   exact evTo (by rw [Prod.mk.injEq]; exact ⟨by rw [← bs_inj]; simp [app_bs, bs_toB, textG], rfl⟩) (Ev.now _)
 · intro a i x p hi hd hx hm ih
   have hw : wrap64 ((i : Int) + 1) = ((i + 1 : Nat) : Int) := by rw [w64 (by omega) (by omega)]; omega
   have hwx : wtG (g.drop i) = 20 + 2 * x.f0.size + wt x.f1 + wtG (g.drop (i + 1)) := by rw [hd, wtG]
   have htl := textB_len x.f1
   have hwm := wtG_mem hm
   refine evDown ?_
   simp only [manystrandref24_Text.l0, if_pos (show (i : Int) < (g.length : Int) by omega), if_pos (show (0 : Int) ≤ (i : Int) by omega), hw, rd_T54, Int.toNat_natCast, hx, if_pos (show x.f0.size + 3 ≤ 9223372036854775807 by omega)]
   refine Ev.bind (ref_text (nm g) x.f1 (by omega) (rightG_mem c hm).2) ?_
   simp only [size_toB, ByteArray.size_append, lit, List.length_cons, List.length_nil]
   simp only [if_pos (show x.f0.size + (0 + 1 + 1 + 1) + (textB x.f1).length ≤ 9223372036854775807 by omega), if_pos (show x.f0.size + (0 + 1 + 1 + 1) + (textB x.f1).length + 3 ≤ 9223372036854775807 by omega), if_pos (show a.size + (x.f0.size + (0 + 1 + 1 + 1) + (textB x.f1).length + (0 + 1 + 1 + 1)) ≤ 9223372036854775807 by omega)]
   refine evTo ?_ (ih _ (by simp only [ByteArray.size_append, size_toB, List.length_cons, List.length_nil]; omega))
   rw [Prod.mk.injEq]
   exact ⟨by rw [← bs_inj]; simp [app_bs, bs_toB, textG, ruleT], rfl⟩
theorem my_Text (g : List S54) (hg : wtG g ≤ 2305843009213693952) : Ev (fun k => grammar_Text.f k g) (if rightG g = true then (toB (textG g), 0) else (toB [], 240)) := by
 have hgl := wtG_len g
 unfold grammar_Text.f
 refine Ev.bind (my_Right g (by omega)) ?_
 by_cases c : rightG g = true
 rotate_left
 · simp only [if_neg c]
   exact Ev.now _
 simp only [if_pos c]
 have := scanLP (β := ByteArray) g (fun k a i => grammar_Text.l0 k a g (g.length : Int) i) (fun a i => a.size + wtG (g.drop i) ≤ 4611686018427387904) (fun a m => (a ++ toB (textG m), (0 : Int))) ?_ ?_ g.length 0 (toB []) (by omega) (by rw [size_toB]; simp; omega)
 · exact evTo (by rw [Prod.mk.injEq]; exact ⟨by rw [← bs_inj]; simp [app_bs, bs_toB], rfl⟩) this
 · intro a p
   refine evDown ?_
   simp only [grammar_Text.l0, Int.lt_irrefl, if_false]
   exact evTo (by rw [Prod.mk.injEq]; exact ⟨by rw [← bs_inj]; simp [app_bs, bs_toB, textG], rfl⟩) (Ev.now _)
 · intro a i x p hi hd hx hm ih
   have hw : wrap64 ((i : Int) + 1) = ((i + 1 : Nat) : Int) := by rw [w64 (by omega) (by omega)]; omega
   have hwx : wtG (g.drop i) = 20 + 2 * x.f0.size + wt x.f1 + wtG (g.drop (i + 1)) := by rw [hd, wtG]
   have htl := textB_len x.f1
   have hwm := wtG_mem hm
   refine evDown ?_
   simp only [grammar_Text.l0, if_pos (show (i : Int) < (g.length : Int) by omega), if_pos (show (0 : Int) ≤ (i : Int) by omega), hw, rd_T54, Int.toNat_natCast, hx, if_pos (show x.f0.size + 3 ≤ 9223372036854775807 by omega)]
   refine Ev.bind (my_text (nm g) x.f1 (by omega) (rightG_mem c hm).2) ?_
   simp only [size_toB, ByteArray.size_append, lit, List.length_cons, List.length_nil]
   simp only [if_pos (show x.f0.size + (0 + 1 + 1 + 1) + (textB x.f1).length ≤ 9223372036854775807 by omega), if_pos (show x.f0.size + (0 + 1 + 1 + 1) + (textB x.f1).length + 3 ≤ 9223372036854775807 by omega), if_pos (show a.size + (x.f0.size + (0 + 1 + 1 + 1) + (textB x.f1).length + (0 + 1 + 1 + 1)) ≤ 9223372036854775807 by omega)]
   refine evTo ?_ (ih _ (by simp only [ByteArray.size_append, size_toB, List.length_cons, List.length_nil]; omega))
   rw [Prod.mk.injEq]
   exact ⟨by rw [← bs_inj]; simp [app_bs, bs_toB, textG, ruleT], rfl⟩
end Go.Proofs.Ytcnllhnhinmokaa.PHGr
end
section
namespace Go.Proofs.Ytcnllhnhinmokaa.PHGr
open Go.StrMap Go.RowKit Go.Proofs.YtcnllhnhinmokaaW.PrintWords Go.Proofs.YtcnllhnhinmokaaW.PrintLast Go.Proofs.YtcnllhnhinmokaaW.PrintMore
set_option linter.unusedVariables false
set_option linter.unusedSimpArgs false
def hasP (s : ByteArray) (i : Nat) (p : List UInt8) : Bool := decide (p <+: (bs s).drop i)
theorem hasP_le {s : ByteArray} {i : Nat} {p : List UInt8} (hi : i ≤ s.size) (h : hasP s i p = true) : i + p.length ≤ s.size := by
 have := (of_decide_eq_true h).length_le
 rw [List.length_drop, bs_len] at this
 omega
theorem takes_f (s : ByteArray) (i : Nat) (bad : Bool) (p : List UInt8) (hi : i ≤ s.size) (hs : s.size ≤ 1152921504606846976) (hp : p.length ≤ 8) :
 grammar_reader_takes.f s (i : Int) bad (⟨p.toArray⟩ : ByteArray) = some (if hasP s i p = true then (true, s, ((i + p.length : Nat) : Int), bad) else (false, s, (i : Int), bad)) := by
 unfold grammar_reader_takes.f
 have hz : (⟨p.toArray⟩ : ByteArray).size = p.length := size_toB p
 have hw1 : wrap64 ((s.size : Int) - (i : Int)) = ((s.size - i : Nat) : Int) := by rw [w64 (by omega) (by omega)]; omega
 have hw2 : wrap64 ((i : Int) + (p.length : Int)) = ((i + p.length : Nat) : Int) := by rw [w64 (by omega) (by omega)]; omega
 rw [hz, hw1, hw2]
 by_cases c : s.size - i < p.length
 · rw [if_pos (by omega), if_neg]
   intro h
   have := hasP_le hi h
   omega
 rw [if_neg (by omega), if_pos (by omega), if_pos (by omega), if_pos (by omega), ext_bs, Int.toNat_natCast, Int.toNat_natCast, show i + p.length - i = p.length by omega]
 have e : ((⟨p.toArray⟩ : ByteArray)).toList = p := by rw [tl_bs]
 rw [e]
 have hh : (((bs s).drop i).take p.length = p) = (hasP s i p = true) := by
  apply propext
  unfold hasP
  rw [decide_eq_true_eq, List.prefix_iff_eq_take]
  exact eq_comm
 simp only [hh]
 split <;> rfl
theorem must_f (s : ByteArray) (i : Nat) (bad : Bool) (p : List UInt8) (hi : i ≤ s.size) (hs : s.size ≤ 1152921504606846976) (hp : p.length ≤ 8) :
 grammar_reader_must.f s (i : Int) bad (⟨p.toArray⟩ : ByteArray) = some (if hasP s i p = true then (s, ((i + p.length : Nat) : Int), bad) else (s, (i : Int), true)) := by
 unfold grammar_reader_must.f
 rw [takes_f s i bad p hi hs hp]
 by_cases c : hasP s i p = true
 rotate_left
 · simp [c]
 simp [c]
def Tt {α : Type} (g : Nat → Option α) (I : α → Prop) : Prop := ∃ r, Ev g r ∧ I r
theorem Tt.now {α : Type} {I : α → Prop} {r : α} (h : I r) : Tt (fun _ => some r) I := ⟨r, Ev.now r, h⟩
theorem Tt.bind {α β : Type} {g : Nat → Option α} {f : Nat → α → Option β} {I : α → Prop} {J : β → Prop} (h : Tt g I) (k : ∀ r, I r → Tt (fun n => f n r) J) : Tt (fun n => (g n).bind (f n)) J := by
 obtain ⟨r, h, hi⟩ := h
 obtain ⟨q, hq, hj⟩ := k r hi
 exact ⟨q, Ev.bind h hq, hj⟩
theorem Tt.mono {α : Type} {g : Nat → Option α} {I J : α → Prop} (h : Tt g I) (k : ∀ r, I r → J r) : Tt g J := by
 obtain ⟨r, h, hi⟩ := h
 exact ⟨r, h, k r hi⟩
theorem Tt.takes {α : Type} {f : Nat → (Bool × ByteArray × Int × Bool) → Option α} {I : α → Prop} {s : ByteArray} {i : Nat} {bad : Bool} {p : List UInt8} (hi : i ≤ s.size) (hs : s.size ≤ 1152921504606846976) (hp : p.length ≤ 8)
 (h1 : hasP s i p = true → Tt (fun k => f k (true, s, ((i + p.length : Nat) : Int), bad)) I) (h2 : hasP s i p = false → Tt (fun k => f k (false, s, (i : Int), bad)) I) :
 Tt (fun k => (grammar_reader_takes.f s (i : Int) bad (⟨p.toArray⟩ : ByteArray)).bind (f k)) I := by
 simp only [takes_f s i bad p hi hs hp, Option.bind_some]
 by_cases c : hasP s i p = true
 rotate_left
 · simp only [if_neg c]; exact h2 (by simpa using c)
 simp only [if_pos c]; exact h1 c
theorem Tt.must {α : Type} {f : Nat → (ByteArray × Int × Bool) → Option α} {I : α → Prop} {s : ByteArray} {i : Nat} {bad : Bool} {p : List UInt8} (hi : i ≤ s.size) (hs : s.size ≤ 1152921504606846976) (hp : p.length ≤ 8)
 (h1 : hasP s i p = true → Tt (fun k => f k (s, ((i + p.length : Nat) : Int), bad)) I) (h2 : hasP s i p = false → Tt (fun k => f k (s, (i : Int), true)) I) :
 Tt (fun k => (grammar_reader_must.f s (i : Int) bad (⟨p.toArray⟩ : ByteArray)).bind (f k)) I := by
 simp only [must_f s i bad p hi hs hp, Option.bind_some]
 by_cases c : hasP s i p = true
 rotate_left
 · simp only [if_neg c]; exact h2 (by simpa using c)
 simp only [if_pos c]; exact h1 c
def inn (b : UInt8) : Bool := innerC b.toNat
def endN (s : ByteArray) (l : List UInt8) : Nat := s.size - (l.dropWhile inn).length
theorem name_step (k : Nat) (x3 : Int) (s : ByteArray) (i : Int) (bad : Bool) : grammar_reader_name.l0 (k + 1) x3 s i bad =
 if i < (s.size : Int) then (if 0 ≤ i then (if (97 ≤ bt s i ∧ bt s i ≤ 122) ∨ (65 ≤ bt s i ∧ bt s i ≤ 90) ∨ (48 ≤ bt s i ∧ bt s i ≤ 57) ∨ bt s i = 95 then grammar_reader_name.l0 k x3 s (wrap64 (i + 1)) bad else (if bad = true then (if 0 ≤ x3 then (if x3 ≤ i then (if i ≤ (s.size : Int) then (some (s.extract (x3 : Int).toNat (i : Int).toNat, s, i, true)) else (none)) else (none)) else (none)) else (if 0 ≤ x3 then (if x3 ≤ i then (if i ≤ (s.size : Int) then (some (s.extract (x3 : Int).toNat (i : Int).toNat, s, i, (i == x3))) else (none)) else (none)) else (none)))) else none) else (if bad = true then (if 0 ≤ x3 then (if x3 ≤ i then (if i ≤ (s.size : Int) then (some (s.extract (x3 : Int).toNat (i : Int).toNat, s, i, true)) else (none)) else (none)) else (none)) else (if 0 ≤ x3 then (if x3 ≤ i then (if i ≤ (s.size : Int) then (some (s.extract (x3 : Int).toNat (i : Int).toNat, s, i, (i == x3))) else (none)) else (none)) else (none))) := by
 rw [grammar_reader_name.l0]
 generalize bt s i = n
 generalize grammar_reader_name.l0 k x3 s (wrap64 (i + 1)) bad = R
 generalize (if bad = true then (if 0 ≤ x3 then (if x3 ≤ i then (if i ≤ (s.size : Int) then (some (s.extract (x3 : Int).toNat (i : Int).toNat, s, i, true)) else (none)) else (none)) else (none)) else (if 0 ≤ x3 then (if x3 ≤ i then (if i ≤ (s.size : Int) then (some (s.extract (x3 : Int).toNat (i : Int).toNat, s, i, (i == x3))) else (none)) else (none)) else (none))) = X
 by_cases h1 : i < (s.size : Int)
 · rw [if_pos h1, if_pos h1]
   by_cases h2 : 0 ≤ i
   · rw [if_pos h2, if_pos h2]
     by_cases c : (97 ≤ n ∧ n ≤ 122) ∨ (65 ≤ n ∧ n ≤ 90) ∨ (48 ≤ n ∧ n ≤ 57) ∨ n = 95
     rotate_left
     · rw [if_neg c]
       (repeat' split) <;> first | rfl | (exfalso; omega)
     rw [if_pos c]
     (repeat' split) <;> first | rfl | (exfalso; omega)
   · rw [if_neg h2, if_neg h2]
 · rw [if_neg h1, if_neg h1]
theorem inn_iff (b : UInt8) : ((97 ≤ (b.toNat : Int) ∧ (b.toNat : Int) ≤ 122) ∨ (65 ≤ (b.toNat : Int) ∧ (b.toNat : Int) ≤ 90) ∨ (48 ≤ (b.toNat : Int) ∧ (b.toNat : Int) ≤ 57) ∨ (b.toNat : Int) = 95) ↔ inn b = true := by
 unfold inn innerC smallC
 simp only [Bool.or_eq_true, Bool.and_eq_true, decide_eq_true_eq, beq_iff_eq]
 omega
theorem name_end (s : ByteArray) (st i : Nat) (bad : Bool) (h1 : st ≤ i) (h2 : i ≤ s.size) :
 (if bad = true then (if 0 ≤ (st : Int) then (if (st : Int) ≤ (i : Int) then (if (i : Int) ≤ (s.size : Int) then (some (s.extract ((st : Int) : Int).toNat ((i : Int) : Int).toNat, s, (i : Int), true)) else (none)) else (none)) else (none)) else (if 0 ≤ (st : Int) then (if (st : Int) ≤ (i : Int) then (if (i : Int) ≤ (s.size : Int) then (some (s.extract ((st : Int) : Int).toNat ((i : Int) : Int).toNat, s, (i : Int), ((i : Int) == (st : Int)))) else (none)) else (none)) else (none)))
  = some (s.extract st i, s, (i : Int), bad || (i == st)) := by
 have e1 : ((i : Int) == (st : Int)) = (i == st) := by rw [Bool.eq_iff_iff, beq_iff_eq, beq_iff_eq]; omega
 simp only [if_pos (show (0 : Int) ≤ (st : Int) by omega), if_pos (show (st : Int) ≤ (i : Int) by omega), if_pos (show (i : Int) ≤ (s.size : Int) by omega), Int.toNat_natCast, e1]
 cases bad <;> simp
theorem name_l0 (s : ByteArray) (st : Nat) (bad : Bool) (hs : s.size ≤ 1152921504606846976) : ∀ (n i : Nat), i + n = s.size → st ≤ i →
 Ev (fun k => grammar_reader_name.l0 k (st : Int) s (i : Int) bad) (s.extract st (endN s ((bs s).drop i)), s, ((endN s ((bs s).drop i) : Nat) : Int), bad || (endN s ((bs s).drop i) == st)) := by
 intro n
 induction n with
 | zero =>
  intro i hi hst
  have : i = s.size := by omega
  subst this
  refine evDown ?_
  have he : endN s ((bs s).drop s.size) = s.size := by rw [List.drop_eq_nil_of_le (by rw [bs_len]; omega)]; simp [endN]
  rw [he]
  simp only [name_step, Int.lt_irrefl, if_false, name_end s st s.size bad hst (Nat.le_refl _)]
  exact Ev.now _
 | succ n ih =>
  intro i hi hst
  obtain ⟨b, hd, hb⟩ := at_drop s i (by omega)
  have hw : wrap64 ((i : Int) + 1) = ((i + 1 : Nat) : Int) := by rw [w64 (by omega) (by omega)]; omega
  refine evDown ?_
  simp only [name_step, if_pos (show (i : Int) < (s.size : Int) by omega), if_pos (show (0 : Int) ≤ (i : Int) by omega), hb, hw, inn_iff, name_end s st i bad hst (by omega)]
  by_cases c : inn b = true
  · have he : endN s ((bs s).drop i) = endN s ((bs s).drop (i + 1)) := by rw [hd]; simp [endN, c]
    rw [he]
    simp only [if_pos c]
    exact ih (i + 1) (by omega) (by omega)
  have he : endN s ((bs s).drop i) = i := by
   have e2 : ((bs s).drop i).dropWhile inn = (bs s).drop i := by rw [hd, List.dropWhile_cons, if_neg c]
   unfold endN
   rw [e2, List.length_drop, bs_len]; omega
  rw [he]
  simp only [if_neg c]
  exact Ev.now _
theorem name_f (s : ByteArray) (i : Nat) (bad : Bool) (hi : i ≤ s.size) (hs : s.size ≤ 1152921504606846976) :
 Ev (fun k => grammar_reader_name.f k s (i : Int) bad) (s.extract i (endN s ((bs s).drop i)), s, ((endN s ((bs s).drop i) : Nat) : Int), bad || (endN s ((bs s).drop i) == i)) := by
 unfold grammar_reader_name.f
 exact name_l0 s i bad hs (s.size - i) i (by omega) (by omega)
end Go.Proofs.Ytcnllhnhinmokaa.PHGr
end
section
namespace Go.Proofs.Ytcnllhnhinmokaa.PHGr
open Go.StrMap Go.RowKit Go.Proofs.YtcnllhnhinmokaaW.PrintWords Go.Proofs.YtcnllhnhinmokaaW.PrintLast Go.Proofs.YtcnllhnhinmokaaW.PrintMore
set_option linter.unusedVariables false
set_option linter.unusedSimpArgs false
end Go.Proofs.Ytcnllhnhinmokaa.PHGr
end
section
namespace Go.Proofs.Ytcnllhnhinmokaa.PHGr
open Go.StrMap Go.RowKit Go.Proofs.YtcnllhnhinmokaaW.PrintWords Go.Proofs.YtcnllhnhinmokaaW.PrintLast Go.Proofs.YtcnllhnhinmokaaW.PrintMore
set_option linter.unusedVariables false
set_option linter.unusedSimpArgs false
theorem drop_to {s : ByteArray} {i : Nat} {p r : List UInt8} (h : (bs s).drop i = p ++ r) : (bs s).drop (i + p.length) = r := by
 rw [← List.drop_drop, h, List.drop_left]
theorem drop_le {s : ByteArray} {i : Nat} {c : UInt8} {l : List UInt8} (h : (bs s).drop i = c :: l) : i + 1 + l.length = s.size := by
 have := congrArg List.length h
 rw [List.length_drop, bs_len, List.length_cons] at this
 omega
theorem has_yes {s : ByteArray} {i : Nat} {p r : List UInt8} (h : (bs s).drop i = p ++ r) : hasP s i p = true := by
 unfold hasP; rw [h]; simp
theorem has_no {s : ByteArray} {i : Nat} {p l : List UInt8} (h : (bs s).drop i = l) (hn : ¬ p <+: l) : hasP s i p = false := by
 unfold hasP; rw [h]; simpa using hn
theorem evYes {α : Type} {f : Nat → (Bool × ByteArray × Int × Bool) → Option α} {r : α} {s : ByteArray} {i : Nat} {bad : Bool} {p l : List UInt8} (hs : s.size ≤ 1152921504) (hi : i ≤ s.size) (hp : p.length ≤ 8) (h : (bs s).drop i = p ++ l)
 (k : Ev (fun k => f k (true, s, ((i + p.length : Nat) : Int), bad)) r) : Ev (fun k => (grammar_reader_takes.f s (i : Int) bad (⟨p.toArray⟩ : ByteArray)).bind (f k)) r := by
 simp only [takes_f s i bad p hi (by omega) hp, Option.bind_some, has_yes h, if_true]; exact k
theorem evNo {α : Type} {f : Nat → (Bool × ByteArray × Int × Bool) → Option α} {r : α} {s : ByteArray} {i : Nat} {bad : Bool} {p l : List UInt8} (hs : s.size ≤ 1152921504) (hi : i ≤ s.size) (hp : p.length ≤ 8) (h : (bs s).drop i = l) (hn : ¬ p <+: l)
 (k : Ev (fun k => f k (false, s, (i : Int), bad)) r) : Ev (fun k => (grammar_reader_takes.f s (i : Int) bad (⟨p.toArray⟩ : ByteArray)).bind (f k)) r := by
 simp only [takes_f s i bad p hi (by omega) hp, Option.bind_some, has_no h hn, Bool.false_eq_true, if_false]; exact k
theorem evMust {α : Type} {f : Nat → (ByteArray × Int × Bool) → Option α} {r : α} {s : ByteArray} {i : Nat} {bad : Bool} {p l : List UInt8} (hs : s.size ≤ 1152921504) (hi : i ≤ s.size) (hp : p.length ≤ 8) (h : (bs s).drop i = p ++ l)
 (k : Ev (fun k => f k (s, ((i + p.length : Nat) : Int), bad)) r) : Ev (fun k => (grammar_reader_must.f s (i : Int) bad (⟨p.toArray⟩ : ByteArray)).bind (f k)) r := by
 simp only [must_f s i bad p hi (by omega) hp, Option.bind_some, has_yes h, if_true]; exact k
theorem plain_inn {s : ByteArray} (h : plainB s = true) : (bs s).all inn = true ∧ ∃ c l, bs s = c :: l ∧ smallC c.toNat = true := by
 unfold plainB at h
 simp only [Bool.and_eq_true, Bool.not_eq_true', List.isEmpty_eq_false_iff] at h
 obtain ⟨⟨⟨⟨h1, _⟩, h2⟩, h3⟩, _⟩ := h
 refine ⟨h3, ?_⟩
 match hb : bs s, h1 with
 | c :: l, _ =>
  refine ⟨c, l, rfl, ?_⟩
  have hz : 0 < s.size := by rw [← bs_len, hb]; simp
  obtain ⟨b, hd, hb2⟩ := at_drop s 0 hz
  rw [List.drop_zero, hb] at hd
  injection hd with hd _
  subst hd
  have : bt s ((0 : Nat) : Int) = bt s 0 := rfl
  rw [this] at hb2
  rw [hb2] at h2
  exact h2
theorem name_rt (s : ByteArray) (hs : s.size ≤ 1152921504) (i : Nat) (t : ByteArray) (rest : List UInt8) (ht : plainB t = true) (h : (bs s).drop i = bs t ++ 32 :: rest) :
 Ev (fun k => grammar_reader_name.f k s (i : Int) false) (t, s, ((i + (bs t).length : Nat) : Int), false) := by
 obtain ⟨h1, c, l, hb, _⟩ := plain_inn ht
 have hl : i + (bs t).length + 1 + rest.length = s.size := by
  have := congrArg List.length h
  rw [hb] at this ⊢
  simp only [List.length_drop, bs_len, List.length_append, List.length_cons] at this ⊢
  omega
 have hd : ((bs s).drop i).dropWhile inn = 32 :: rest := by
  have h2 : ∀ x ∈ bs t, inn x = true := List.all_eq_true.1 h1
  rw [h, List.dropWhile_append_of_pos h2, List.dropWhile_cons, if_neg (by decide)]
 have he : endN s ((bs s).drop i) = i + (bs t).length := by
  unfold endN
  rw [hd, List.length_cons]; omega
 refine evTo ?_ (name_f s i false (by omega) (by omega))
 have hx : s.extract i (i + (bs t).length) = t := by
  rw [← bs_inj, ← tl_bs, ext_bs, h, show i + (bs t).length - i = (bs t).length by omega, List.take_left]
 have h0 : 0 < (bs t).length := by rw [hb]; simp
 rw [he, hx, Bool.false_or, beq_eq_false_iff_ne.2 (by omega)]
theorem nums_back (t : ByteArray) : strOfNums ((bs t).map fun b => (b.toNat : Int)) = t := by
 rw [← bs_inj]
 unfold strOfNums
 show ((bs t).map fun b => (b.toNat : Int)).map (fun n => UInt8.ofNat n.toNat) = bs t
 rw [List.map_map]
 conv => rhs; rw [← List.map_id (bs t)]
 apply List.map_congr_left
 intro b _
 simp
theorem atom_rt (s : ByteArray) (hs : s.size ≤ 1152921504) : ∀ (t : List UInt8) (i : Nat) (x : List Int) (rest : List UInt8), (bs s).drop i = qB t ++ 39 :: rest → x.length ≤ i →
 Ev (fun k => grammar_reader_atom.l0 k x s (i : Int) false) (strOfNums (x ++ t.map fun b => (b.toNat : Int)), s, ((i + (qB t).length + 1 : Nat) : Int), false) := by
 intro t
 induction t with
 | nil =>
  intro i x rest h hx
  have hlt := drop_le (show (bs s).drop i = 39 :: rest from h)
  obtain ⟨b, hd, hb⟩ := at_drop s i (by omega)
  rw [h] at hd
  have hb39 : b = 39 := by have := hd; simp [qB] at this; exact this.1.symm
  subst hb39
  have hw : wrap64 ((i : Int) + 1) = ((i + 1 : Nat) : Int) := by rw [w64 (by omega) (by omega)]; omega
  refine evDown ?_
  simp only [grammar_reader_atom.l0, if_pos (show (i : Int) < (s.size : Int) by omega), if_pos (show (0 : Int) ≤ (i : Int) by omega), hw, hb]
  refine evTo ?_ (Ev.congr (f := fun k => some (strOfNums x, s, ((i + 1 : Nat) : Int), false)) (fun k => by rw [if_pos (by rfl)]) (Ev.now _))
  simp [qB]
 | cons c t ih =>
  intro i x rest h hx
  have hq : qB (c :: t) = q1 c ++ qB t := by simp [qB]
  rw [hq, List.append_assoc] at h
  have hlen := congrArg List.length h
  simp only [List.length_drop, bs_len, List.length_append, List.length_cons] at hlen
  have hq0 : 1 ≤ (q1 c).length := by unfold q1; (repeat' split) <;> simp
  obtain ⟨b, hd, hb⟩ := at_drop s i (by omega)
  have hw : wrap64 ((i : Int) + 1) = ((i + 1 : Nat) : Int) := by rw [w64 (by omega) (by omega)]; omega
  have fin : ∀ (v : Int) (j : Nat), v = (c.toNat : Int) → j = i + (q1 c).length → Ev (fun k => grammar_reader_atom.l0 k (x ++ [v]) s (j : Int) false) (strOfNums (x ++ (c :: t).map fun b => (b.toNat : Int)), s, ((i + (qB (c :: t)).length + 1 : Nat) : Int), false) := by
   rintro v j rfl rfl
   refine evTo ?_ (ih (i + (q1 c).length) (x ++ [(c.toNat : Int)]) rest (drop_to h) (by simp; omega))
   rw [hq]
   simp only [List.append_assoc, List.map_cons, List.singleton_append, List.length_append, Nat.add_assoc]
  have esc : ∀ (e : UInt8) (l : List UInt8), q1 c = [92, e] → (bs s).drop i = [92] ++ (e :: (qB t ++ 39 :: rest)) := by
   intro e l he
   rw [h, he]; rfl
  refine evDown ?_
  simp only [grammar_reader_atom.l0, if_pos (show (i : Int) < (s.size : Int) by omega), if_pos (show (0 : Int) ≤ (i : Int) by omega), hw, if_pos (show x.length < 140737488355328 by omega), hb]
  by_cases c1 : c = 39
  · subst c1
    have e := esc 39 [] rfl
    rw [hd] at e
    obtain rfl : b = 92 := by injection e
    have e2 := drop_to (esc 39 [] rfl)
    simp only [List.length_cons, List.length_nil] at e2
    simp only [if_neg (show ¬ (((92 : UInt8).toNat : Nat) : Int) = 39 by decide), if_pos (show (((92 : UInt8).toNat : Nat) : Int) = 92 by decide)]
    refine evNo (p := [110]) hs (by omega) (by simp) e2 (by simp [List.cons_prefix_cons]) ?_
    simp only [Bool.false_eq_true, if_false]
    refine evYes (p := [39]) hs (by omega) (by simp) e2 ?_
    simp only [if_true]
    exact fin 39 _ rfl rfl
  by_cases c2 : c = 92
  · subst c2
    have e := esc 92 [] rfl
    rw [hd] at e
    obtain rfl : b = 92 := by injection e
    have e2 := drop_to (esc 92 [] rfl)
    simp only [List.length_cons, List.length_nil] at e2
    simp only [if_neg (show ¬ (((92 : UInt8).toNat : Nat) : Int) = 39 by decide), if_pos (show (((92 : UInt8).toNat : Nat) : Int) = 92 by decide)]
    refine evNo (p := [110]) hs (by omega) (by simp) e2 (by simp [List.cons_prefix_cons]) ?_
    simp only [Bool.false_eq_true, if_false]
    refine evNo (p := [39]) hs (by omega) (by simp) e2 (by simp [List.cons_prefix_cons]) ?_
    simp only [Bool.false_eq_true, if_false]
    refine evYes (p := [92]) hs (by omega) (by simp) e2 ?_
    simp only [if_true]
    exact fin 92 _ rfl rfl
  by_cases c3 : c = 10
  · subst c3
    have e := esc 110 [] rfl
    rw [hd] at e
    obtain rfl : b = 92 := by injection e
    have e2 := drop_to (esc 110 [] rfl)
    simp only [List.length_cons, List.length_nil] at e2
    simp only [if_neg (show ¬ (((92 : UInt8).toNat : Nat) : Int) = 39 by decide), if_pos (show (((92 : UInt8).toNat : Nat) : Int) = 92 by decide)]
    refine evYes (p := [110]) hs (by omega) (by simp) e2 ?_
    simp only [if_true]
    exact fin 10 _ rfl rfl
  have hq1 : q1 c = [c] := by unfold q1; rw [if_neg c1, if_neg c2, if_neg c3]
  obtain rfl : b = c := by
   have e := h
   rw [hq1, hd] at e
   injection e
  have n1 : ¬ ((b.toNat : Nat) : Int) = 39 := fun e => c1 ((u8 (n := 39) (by omega)).1 e)
  have n2 : ¬ ((b.toNat : Nat) : Int) = 92 := fun e => c2 ((u8 (n := 92) (by omega)).1 e)
  simp only [if_neg n1, if_neg n2]
  exact fin _ _ rfl (by rw [hq1]; rfl)
theorem text_head {names : List ByteArray} (hn : ∀ x ∈ names, plainB x = true) {p : S52} (h : rightB names p = true) :
 ∃ c r, textB p = c :: r ∧ c ≠ 32 ∧ c ≠ 33 ∧ c ≠ 41 ∧ c ≠ 42 ∧ c ≠ 47 ∧ c ≠ 63 := by
 rw [rightB_eq, Bool.and_eq_true] at h
 rw [textB_eq]
 by_cases c1 : bs p.f0 = [105, 115]
 · rw [if_pos c1]; exact ⟨39, _, rfl, by decide, by decide, by decide, by decide, by decide, by decide⟩
 rw [if_neg c1]
 by_cases c2 : bs p.f0 = [97, 110, 121]
 · rw [if_pos c2]; exact ⟨46, _, rfl, by decide, by decide, by decide, by decide, by decide, by decide⟩
 rw [if_neg c2]
 by_cases c3 : bs p.f0 = [114, 117, 108, 101]
 · rw [if_pos c3]
   have h2 := h.2
   unfold headB at h2
   rw [if_neg c1, if_pos c3, Bool.and_eq_true] at h2
   obtain ⟨x, hx, hx2⟩ := List.any_eq_true.1 (show names.any (fun t => decide (p.f1 = t)) = true from h2.2)
   have hxe : p.f1 = x := of_decide_eq_true hx2
   rw [← hxe] at hx
   obtain ⟨_, c, l, hb, hc⟩ := plain_inn (hn _ hx)
   rw [hb]
   refine ⟨c, l, rfl, ?_, ?_, ?_, ?_, ?_, ?_⟩ <;> rintro rfl <;> revert hc <;> decide
 rw [if_neg c3]
 have key : ∀ (a : UInt8) (r : List UInt8), ∃ c r', (40 :: r) = c :: r' ∧ c ≠ 32 ∧ c ≠ 33 ∧ c ≠ 41 ∧ c ≠ 42 ∧ c ≠ 47 ∧ c ≠ 63 := fun a r => ⟨40, r, rfl, by decide, by decide, by decide, by decide, by decide, by decide⟩
 (repeat' split) <;> exact key 0 _
theorem textL_blank (sep : List UInt8) (hsep : sep = [] ∨ sep = [32, 47]) (l : List S52) (rest : List UInt8) : ∃ r, textL sep l ++ 32 :: 41 :: rest = 32 :: r := by
 cases l with
 | nil => exact ⟨_, rfl⟩
 | cons x l => rcases hsep with rfl | rfl <;> exact ⟨_, rfl⟩
theorem fin6 {d d' t : ByteArray} {l : List S52} {s : ByteArray} {m n : Nat} (h : m = n) (hd : d = d') : ((d, t, l, s, (m : Int), false) : ByteArray × ByteArray × List S52 × ByteArray × Int × Bool) = (d', t, l, s, (n : Int), false) := by
 subst h; subst hd; rfl
theorem S52_eta (p : S52) : (⟨p.f0, p.f1, p.f2⟩ : S52) = p := by cases p; rfl
variable {names : List ByteArray} (hn : ∀ x ∈ names, plainB x = true) {s : ByteArray} (hs : s.size ≤ 1152921504)
include hn hs
mutual
theorem rt_body : ∀ p : S52, rightB names p = true → ∀ (i : Nat) (rest : List UInt8), (bs s).drop i = textB p ++ 32 :: rest →
 Ev (fun k => grammar_reader_body.f k s (i : Int) false) (p.f0, p.f1, p.f2, s, ((i + (textB p).length : Nat) : Int), false)
 | ⟨d, t, l⟩, hr, i, rest, h => by
  simp only [rightB, Bool.and_eq_true] at hr
  obtain ⟨hl, hh⟩ := hr
  have hsz : i < s.size := by
   have := congrArg List.length h
   simp only [List.length_drop, bs_len, List.length_append, List.length_cons] at this
   omega
  have kid : ∀ (y : S52) (l' : List S52), l = y :: l' → ∀ (j : Nat) (rest : List UInt8), (bs s).drop j = textB y ++ 32 :: rest →
   Ev (fun k => grammar_reader_body.f k s (j : Int) false) (y.f0, y.f1, y.f2, s, ((j + (textB y).length : Nat) : Int), false) := by
   rintro y l' rfl j rest hj
   simp only [rightL, Bool.and_eq_true] at hl
   exact rt_body y hl.1 j rest hj
  refine evDown ?_
  simp only [grammar_reader_body.f, Bool.false_eq_true, if_false]
  unfold headB at hh
  by_cases c1 : bs d = [105, 115]
  · obtain rfl : d = toB [105, 115] := by rw [← toB_bs d, c1]
    rw [if_pos (bs_toB _)] at hh
    simp only [Bool.and_eq_true, beq_iff_eq, List.length_eq_zero_iff] at hh
    obtain ⟨rfl, _⟩ := hh
    have ht : textB ⟨toB [105, 115], t, []⟩ = quoteB (bs t) := by rw [textB_eq]; exact if_pos rfl
    rw [ht] at h ⊢
    have h' : (bs s).drop i = [39] ++ (qB (bs t) ++ 39 :: 32 :: rest) := by rw [h]; simp [quoteB]
    refine evYes (p := [39]) hs (by omega) (by simp) h' ?_
    simp only [if_true]
    refine Ev.bind (atom_rt s hs (bs t) (i + 1) [] (32 :: rest) (drop_to h') (by simp)) ?_
    refine evTo ?_ (Ev.now _)
    simp only [List.nil_append, nums_back, quoteB, List.length_cons, List.length_append, List.length_nil]
    refine Prod.mk.injEq .. ▸ ⟨rfl, ?_⟩
    congr 4
    omega
  rw [if_neg c1] at hh
  by_cases c3 : bs d = [114, 117, 108, 101]
  · obtain rfl : d = toB [114, 117, 108, 101] := by rw [← toB_bs d, c3]
    rw [if_pos (bs_toB _)] at hh
    simp only [Bool.and_eq_true, beq_iff_eq, List.length_eq_zero_iff] at hh
    obtain ⟨rfl, hm⟩ := hh
    have ht : textB ⟨toB [114, 117, 108, 101], t, []⟩ = bs t := by rw [textB_eq]; rfl
    rw [ht] at h ⊢
    obtain ⟨y, hy, hy2⟩ := List.any_eq_true.1 (show names.any (fun u => decide (t = u)) = true from hm)
    have hpl : plainB t = true := by rw [show t = y from of_decide_eq_true hy2]; exact hn y hy
    obtain ⟨_, c, u, hb, hc⟩ := plain_inn hpl
    have hne : ∀ m : UInt8, smallC m.toNat = false → m ≠ c := by rintro m hm rfl; rw [hm] at hc; cases hc
    have no : ∀ (m : UInt8) (r : List UInt8), smallC m.toNat = false → ¬ (m :: r) <+: bs t ++ 32 :: rest := by
     intro m r hm
     rw [hb, List.cons_append, List.cons_prefix_cons]
     exact fun e => hne m hm e.1
    refine evNo (p := [39]) hs (by omega) (by simp) h (no _ _ rfl) ?_
    simp only [Bool.false_eq_true, if_false]
    refine evNo (p := [46]) hs (by omega) (by simp) h (no _ _ rfl) ?_
    simp only [Bool.false_eq_true, if_false]
    refine evNo (p := [40, 41]) hs (by omega) (by simp) h (no _ _ rfl) ?_
    simp only [Bool.false_eq_true, if_false]
    refine evNo (p := [40, 32, 33, 32]) hs (by omega) (by simp) h (no _ _ rfl) ?_
    simp only [Bool.false_eq_true, if_false]
    refine evNo (p := [40, 32, 47, 32]) hs (by omega) (by simp) h (no _ _ rfl) ?_
    simp only [Bool.false_eq_true, if_false]
    refine evNo (p := [40, 32]) hs (by omega) (by simp) h (no _ _ rfl) ?_
    simp only [Bool.false_eq_true, if_false]
    exact Ev.bind (name_rt s hs i t rest hpl h) (Ev.now _)
  rw [if_neg c3] at hh
  simp only [Bool.and_eq_true, decide_eq_true_eq] at hh
  obtain ⟨ht0, hh⟩ := hh
  obtain rfl : t = (⟨#[]⟩ : ByteArray) := bs_inj.1 ht0
  unfold midB at hh
  by_cases c2 : bs d = [97, 110, 121]
  · obtain rfl : d = toB [97, 110, 121] := by rw [← toB_bs d, c2]
    rw [if_pos (by simp [bs_toB])] at hh
    obtain rfl : l = [] := by simpa using hh
    have ht : textB ⟨toB [97, 110, 121], ⟨#[]⟩, []⟩ = [46] := by rw [textB_eq]; rfl
    rw [ht] at h ⊢
    refine evNo (p := [39]) hs (by omega) (by simp) h (by simp [List.cons_prefix_cons]) ?_
    simp only [Bool.false_eq_true, if_false]
    refine evYes (p := [46]) hs (by omega) (by simp) h ?_
    simp only [if_true]
    exact Ev.now _
  by_cases c4 : bs d = [110, 111, 116, 104, 105, 110, 103]
  · obtain rfl : d = toB [110, 111, 116, 104, 105, 110, 103] := by rw [← toB_bs d, c4]
    rw [if_pos (by simp [bs_toB])] at hh
    obtain rfl : l = [] := by simpa using hh
    have ht : textB ⟨toB [110, 111, 116, 104, 105, 110, 103], ⟨#[]⟩, []⟩ = [40, 41] := by rw [textB_eq]; rfl
    rw [ht] at h ⊢
    refine evNo (p := [39]) hs (by omega) (by simp) h (by simp [List.cons_prefix_cons]) ?_
    simp only [Bool.false_eq_true, if_false]
    refine evNo (p := [46]) hs (by omega) (by simp) h (by simp [List.cons_prefix_cons]) ?_
    simp only [Bool.false_eq_true, if_false]
    refine evYes (p := [40, 41]) hs (by omega) (by simp) h ?_
    simp only [if_true]
    exact Ev.now _
  rw [if_neg (by simp [c2, c4])] at hh
  have hk : ∃ y l', l = y :: l' := by
   cases l with
   | nil => exfalso; unfold lateB endB at hh; revert hh; (repeat' split) <;> simp
   | cons y l' => exact ⟨y, l', rfl⟩
  obtain ⟨y, l', hyl⟩ := hk
  have hy : rightB names y = true := by subst hyl; simp only [rightL, Bool.and_eq_true] at hl; exact hl.1
  have hl' : rightL names l' = true := by subst hyl; simp only [rightL, Bool.and_eq_true] at hl; exact hl.2
  obtain ⟨c, u, hb, n32, n33, n41, n42, n47, n63⟩ := text_head hn hy
  have kid' := kid y l' hyl
  subst hyl
  clear kid
  by_cases c5 : bs d = [110, 111, 116]
  · obtain rfl : d = toB [110, 111, 116] := by rw [← toB_bs d, c5]
    have hl1 : l' = [] := by
     unfold lateB at hh
     rw [if_neg (by simp [bs_toB])] at hh
     unfold endB at hh
     simpa [bs_toB] using hh
    subst hl1
    have ht : textB ⟨toB [110, 111, 116], ⟨#[]⟩, [y]⟩ = [40, 32, 33, 32] ++ textB y ++ [32, 41] := by rw [textB_eq]; rfl
    rw [ht] at h ⊢
    have h1 : (bs s).drop i = [40, 32, 33, 32] ++ (textB y ++ 32 :: (41 :: 32 :: rest)) := by rw [h]; simp
    have h2 := drop_to h1
    have h3 := drop_to (show (bs s).drop (i + [40, 32, 33, 32].length) = textB y ++ ([32, 41] ++ 32 :: rest) from h2)
    have hi2 : i + [40, 32, 33, 32].length + (textB y).length ≤ s.size := by have := drop_le h3; omega
    refine evNo (p := [39]) hs (by omega) (by simp) h1 (by simp [List.cons_prefix_cons]) ?_
    simp only [Bool.false_eq_true, if_false]
    refine evNo (p := [46]) hs (by omega) (by simp) h1 (by simp [List.cons_prefix_cons]) ?_
    simp only [Bool.false_eq_true, if_false]
    refine evNo (p := [40, 41]) hs (by omega) (by simp) h1 (by simp [List.cons_prefix_cons]) ?_
    simp only [Bool.false_eq_true, if_false]
    refine evYes (p := [40, 32, 33, 32]) hs (by omega) (by simp) h1 ?_
    simp only [if_true]
    refine Ev.bind (kid' _ _ h2) ?_
    refine evMust (p := [32, 41]) hs hi2 (by simp) h3 ?_
    refine evTo ?_ (Ev.now _)
    simp only [List.length_append, List.length_cons, List.length_nil, S52_eta]
    exact fin6 (by omega) rfl
  by_cases c6 : bs d = [111, 114]
  · obtain rfl : d = toB [111, 114] := by rw [← toB_bs d, c6]
    have ht : textB ⟨toB [111, 114], ⟨#[]⟩, y :: l'⟩ = [40, 32, 47, 32] ++ textB y ++ (textL [32, 47] l' ++ [32, 41]) := by
     rw [textB_eq]
     show 40 :: textL (sepB (toB [111, 114])) (y :: l') ++ [32, 41] = _
     have : sepB (toB [111, 114]) = [32, 47] := rfl
     rw [this, textL]; simp
    rw [ht] at h ⊢
    obtain ⟨r, hr⟩ := textL_blank [32, 47] (.inr rfl) l' (32 :: rest)
    have h1 : (bs s).drop i = [40, 32, 47, 32] ++ (textB y ++ 32 :: r) := by rw [h, ← hr]; simp
    have h2 := drop_to h1
    have h3 := drop_to h2
    rw [← hr] at h3
    have hi2 : i + [40, 32, 47, 32].length + (textB y).length ≤ s.size := by rw [hr] at h3; have := drop_le h3; omega
    refine evNo (p := [39]) hs (by omega) (by simp) h1 (by simp [List.cons_prefix_cons]) ?_
    simp only [Bool.false_eq_true, if_false]
    refine evNo (p := [46]) hs (by omega) (by simp) h1 (by simp [List.cons_prefix_cons]) ?_
    simp only [Bool.false_eq_true, if_false]
    refine evNo (p := [40, 41]) hs (by omega) (by simp) h1 (by simp [List.cons_prefix_cons]) ?_
    simp only [Bool.false_eq_true, if_false]
    refine evNo (p := [40, 32, 33, 32]) hs (by omega) (by simp) h1 (by simp [List.cons_prefix_cons]) ?_
    simp only [Bool.false_eq_true, if_false]
    refine evYes (p := [40, 32, 47, 32]) hs (by omega) (by simp) h1 ?_
    simp only [if_true]
    refine Ev.bind (kid' _ _ h2) ?_
    refine evTo ?_ (rt_or l' hl' (⟨#[111, 114]⟩ : ByteArray) [⟨y.f0, y.f1, y.f2⟩] _ _ (by simp; omega) h3)
    simp only [List.length_append, List.length_cons, List.length_nil, S52_eta, List.singleton_append, Nat.add_assoc]
    exact fin6 (by omega) rfl
  have start : ∀ (R : List UInt8) (g : Nat → ByteArray × ByteArray × List S52 × ByteArray × Int × Bool → Option (ByteArray × ByteArray × List S52 × ByteArray × Int × Bool)) (v : ByteArray × ByteArray × List S52 × ByteArray × Int × Bool), (bs s).drop i = [40, 32] ++ (textB y ++ 32 :: R) →
   Ev (fun k => g k (y.f0, y.f1, y.f2, s, ((i + 2 + (textB y).length : Nat) : Int), false)) v →
   Ev (fun k => (grammar_reader_body.f k s (((i + [(40 : UInt8), 32].length : Nat)) : Int) false).bind (g k)) v := by
   intro R g v h1 hg
   exact Ev.bind (kid' _ _ (drop_to h1)) hg
  have pre : ∀ {R : List UInt8}, (bs s).drop i = [40, 32] ++ (textB y ++ 32 :: R) → (¬ [40, 32, 33, 32] <+: [40, 32] ++ (textB y ++ 32 :: R)) ∧ (¬ [40, 32, 47, 32] <+: [40, 32] ++ (textB y ++ 32 :: R)) := by
   intro R _
   rw [hb]
   constructor <;> simp [List.cons_prefix_cons, n33.symm, n47.symm]
  by_cases c7 : bs d = [109, 97, 110, 121]
  · obtain rfl : d = toB [109, 97, 110, 121] := by rw [← toB_bs d, c7]
    have hl1 : l' = [] := by
     unfold lateB at hh
     rw [if_neg (by simp [bs_toB])] at hh
     unfold endB at hh
     simpa [bs_toB] using hh
    subst hl1
    have ht : textB ⟨toB [109, 97, 110, 121], ⟨#[]⟩, [y]⟩ = [40, 32] ++ textB y ++ [32, 42, 32, 41] := by rw [textB_eq]; rfl
    rw [ht] at h ⊢
    have h1 : (bs s).drop i = [40, 32] ++ (textB y ++ 32 :: (42 :: 32 :: 41 :: 32 :: rest)) := by rw [h]; simp
    have h3 := drop_to (show (bs s).drop (i + [40, 32].length) = textB y ++ ([32, 42, 32, 41] ++ 32 :: rest) from drop_to h1)
    have hi2 : i + [40, 32].length + (textB y).length ≤ s.size := by have := drop_le h3; omega
    refine evNo (p := [39]) hs (by omega) (by simp) h1 (by simp [List.cons_prefix_cons]) ?_
    simp only [Bool.false_eq_true, if_false]
    refine evNo (p := [46]) hs (by omega) (by simp) h1 (by simp [List.cons_prefix_cons]) ?_
    simp only [Bool.false_eq_true, if_false]
    refine evNo (p := [40, 41]) hs (by omega) (by simp) h1 (by simp [List.cons_prefix_cons]) ?_
    simp only [Bool.false_eq_true, if_false]
    refine evNo (p := [40, 32, 33, 32]) hs (by omega) (by simp) h1 (pre h1).1 ?_
    simp only [Bool.false_eq_true, if_false]
    refine evNo (p := [40, 32, 47, 32]) hs (by omega) (by simp) h1 (pre h1).2 ?_
    simp only [Bool.false_eq_true, if_false]
    refine evYes (p := [40, 32]) hs (by omega) (by simp) h1 ?_
    simp only [if_true]
    refine start _ _ _ h1 ?_
    simp only [Option.bind_some]
    refine evYes (p := [32, 42, 32, 41]) hs hi2 (by simp) h3 ?_
    simp only [if_true]
    refine evTo ?_ (Ev.now _)
    simp only [List.length_append, List.length_cons, List.length_nil, S52_eta]
    exact fin6 (by omega) rfl
  by_cases c8 : bs d = [111, 112, 116]
  · obtain rfl : d = toB [111, 112, 116] := by rw [← toB_bs d, c8]
    have hl1 : l' = [] := by
     unfold lateB at hh
     rw [if_neg (by simp [bs_toB])] at hh
     unfold endB at hh
     simpa [bs_toB] using hh
    subst hl1
    have ht : textB ⟨toB [111, 112, 116], ⟨#[]⟩, [y]⟩ = [40, 32] ++ textB y ++ [32, 63, 32, 41] := by rw [textB_eq]; rfl
    rw [ht] at h ⊢
    have h1 : (bs s).drop i = [40, 32] ++ (textB y ++ 32 :: (63 :: 32 :: 41 :: 32 :: rest)) := by rw [h]; simp
    have h3 := drop_to (show (bs s).drop (i + [40, 32].length) = textB y ++ ([32, 63, 32, 41] ++ 32 :: rest) from drop_to h1)
    have hi2 : i + [40, 32].length + (textB y).length ≤ s.size := by have := drop_le h3; omega
    refine evNo (p := [39]) hs (by omega) (by simp) h1 (by simp [List.cons_prefix_cons]) ?_
    simp only [Bool.false_eq_true, if_false]
    refine evNo (p := [46]) hs (by omega) (by simp) h1 (by simp [List.cons_prefix_cons]) ?_
    simp only [Bool.false_eq_true, if_false]
    refine evNo (p := [40, 41]) hs (by omega) (by simp) h1 (by simp [List.cons_prefix_cons]) ?_
    simp only [Bool.false_eq_true, if_false]
    refine evNo (p := [40, 32, 33, 32]) hs (by omega) (by simp) h1 (pre h1).1 ?_
    simp only [Bool.false_eq_true, if_false]
    refine evNo (p := [40, 32, 47, 32]) hs (by omega) (by simp) h1 (pre h1).2 ?_
    simp only [Bool.false_eq_true, if_false]
    refine evYes (p := [40, 32]) hs (by omega) (by simp) h1 ?_
    simp only [if_true]
    refine start _ _ _ h1 ?_
    simp only [Option.bind_some]
    refine evNo (p := [32, 42, 32, 41]) hs hi2 (by simp) h3 (by simp [List.cons_prefix_cons]) ?_
    simp only [Bool.false_eq_true, if_false]
    refine evYes (p := [32, 63, 32, 41]) hs hi2 (by simp) h3 ?_
    simp only [if_true]
    refine evTo ?_ (Ev.now _)
    simp only [List.length_append, List.length_cons, List.length_nil, S52_eta]
    exact fin6 (by omega) rfl
  have c9 : bs d = [115, 101, 113] := by
   unfold lateB endB at hh
   rw [if_neg c7, if_neg c8, if_neg c5] at hh
   by_cases c : bs d = [115, 101, 113]
   rotate_left
   · simp [c, c6] at hh
   exact c
  obtain rfl : d = toB [115, 101, 113] := by rw [← toB_bs d, c9]
  have ht : textB ⟨toB [115, 101, 113], ⟨#[]⟩, y :: l'⟩ = [40, 32] ++ textB y ++ (textL [] l' ++ [32, 41]) := by
   rw [textB_eq]
   show 40 :: textL (sepB (toB [115, 101, 113])) (y :: l') ++ [32, 41] = _
   have : sepB (toB [115, 101, 113]) = [] := rfl
   rw [this, textL]; simp
  rw [ht] at h ⊢
  obtain ⟨r, hr⟩ := textL_blank [] (.inl rfl) l' (32 :: rest)
  have h1 : (bs s).drop i = [40, 32] ++ (textB y ++ 32 :: r) := by rw [h, ← hr]; simp
  have h3 := drop_to (drop_to h1)
  have hi2 : i + [40, 32].length + (textB y).length ≤ s.size := by have := drop_le h3; omega
  have hr42 : ∀ m : UInt8, m = 42 ∨ m = 63 → ∀ q, ¬ (32 :: m :: q) <+: 32 :: r := by
   intro m hm q
   cases l' with
   | nil =>
    have e : 32 :: 41 :: 32 :: rest = 32 :: r := hr
    rw [← e]
    rcases hm with rfl | rfl <;> simp [List.cons_prefix_cons]
   | cons z l2 =>
    have hz : rightB names z = true := by simp only [rightL, Bool.and_eq_true] at hl'; exact hl'.1
    obtain ⟨c', u', hb', m32, m33, m41, m42, m47, m63⟩ := text_head hn hz
    rw [textL, hb'] at hr
    have e : 32 :: c' :: (u' ++ (textL [] l2 ++ 32 :: 41 :: 32 :: rest)) = 32 :: r := by rw [← hr]; simp
    rw [← e]
    rcases hm with rfl | rfl <;> simp [List.cons_prefix_cons, m42.symm, m63.symm]
  refine evNo (p := [39]) hs (by omega) (by simp) h1 (by simp [List.cons_prefix_cons]) ?_
  simp only [Bool.false_eq_true, if_false]
  refine evNo (p := [46]) hs (by omega) (by simp) h1 (by simp [List.cons_prefix_cons]) ?_
  simp only [Bool.false_eq_true, if_false]
  refine evNo (p := [40, 41]) hs (by omega) (by simp) h1 (by simp [List.cons_prefix_cons]) ?_
  simp only [Bool.false_eq_true, if_false]
  refine evNo (p := [40, 32, 33, 32]) hs (by omega) (by simp) h1 (pre h1).1 ?_
  simp only [Bool.false_eq_true, if_false]
  refine evNo (p := [40, 32, 47, 32]) hs (by omega) (by simp) h1 (pre h1).2 ?_
  simp only [Bool.false_eq_true, if_false]
  refine evYes (p := [40, 32]) hs (by omega) (by simp) h1 ?_
  simp only [if_true]
  refine start _ _ _ h1 ?_
  simp only [Option.bind_some]
  refine evNo (p := [32, 42, 32, 41]) hs hi2 (by simp) h3 (hr42 42 (.inl rfl) _) ?_
  simp only [Bool.false_eq_true, if_false]
  refine evNo (p := [32, 63, 32, 41]) hs hi2 (by simp) h3 (hr42 63 (.inr rfl) _) ?_
  simp only [Bool.false_eq_true, if_false]
  rw [← hr] at h3
  refine evTo ?_ (rt_seq l' hl' [⟨y.f0, y.f1, y.f2⟩] _ _ (by simp; omega) h3)
  simp only [List.length_append, List.length_cons, List.length_nil, S52_eta, List.singleton_append, Nat.add_assoc]
  exact fin6 (by omega) rfl
theorem rt_or : ∀ (l : List S52), rightL names l = true → ∀ (d : ByteArray) (x : List S52) (i : Nat) (rest : List UInt8), x.length ≤ i → (bs s).drop i = textL [32, 47] l ++ 32 :: 41 :: rest →
 Ev (fun k => grammar_reader_body.l0 k s (i : Int) false d (⟨#[]⟩ : ByteArray) x) (d, (⟨#[]⟩ : ByteArray), x ++ l, s, ((i + (textL [32, 47] l).length + 2 : Nat) : Int), false)
 | [], _, d, x, i, rest, hx, h => by
  have h1 : (bs s).drop i = [32, 41] ++ rest := h
  have := drop_le (show (bs s).drop i = 32 :: (41 :: rest) from h)
  refine evDown ?_
  simp only [grammar_reader_body.l0]
  refine evNo (p := [32, 47, 32]) hs (by omega) (by simp) h1 (by simp [List.cons_prefix_cons]) ?_
  simp only [Bool.false_eq_true, if_false]
  refine evMust (p := [32, 41]) hs (by omega) (by simp) h1 ?_
  refine evTo ?_ (Ev.now _)
  simp [textL]
 | y :: l, hr, d, x, i, rest, hx, h => by
  simp only [rightL, Bool.and_eq_true] at hr
  have hn' := hn
  obtain ⟨r, hrr⟩ := textL_blank [32, 47] (.inr rfl) l rest
  have h1 : (bs s).drop i = [32, 47, 32] ++ (textB y ++ 32 :: r) := by rw [h, ← hrr, textL]; simp
  have h2 := drop_to h1
  have h3 := drop_to h2
  have h0 := drop_le (show (bs s).drop i = 32 :: (47 :: 32 :: (textB y ++ 32 :: r)) from h1)
  rw [← hrr] at h3
  refine evDown ?_
  simp only [grammar_reader_body.l0]
  refine evYes (p := [32, 47, 32]) hs (by omega) (by simp) h1 ?_
  simp only [if_true]
  refine Ev.bind (rt_body y hr.1 _ _ h2) ?_
  simp only [if_pos (show x.length < 2513169434916 by omega)]
  refine evTo ?_ (rt_or l hr.2 d (x ++ [⟨y.f0, y.f1, y.f2⟩]) _ _ (by simp; omega) h3)
  rw [textL]
  simp only [List.length_append, List.length_cons, List.length_nil, S52_eta, List.append_assoc, List.singleton_append]
  exact fin6 (by omega) rfl
theorem rt_seq : ∀ (l : List S52), rightL names l = true → ∀ (x : List S52) (i : Nat) (rest : List UInt8), x.length ≤ i → (bs s).drop i = textL [] l ++ 32 :: 41 :: rest →
 Ev (fun k => grammar_reader_body.l1 k x s (i : Int) false) ((⟨#[115, 101, 113]⟩ : ByteArray), (⟨#[]⟩ : ByteArray), x ++ l, s, ((i + (textL [] l).length + 2 : Nat) : Int), false)
 | [], _, x, i, rest, hx, h => by
  have h1 : (bs s).drop i = [32, 41] ++ rest := h
  have := drop_le (show (bs s).drop i = 32 :: (41 :: rest) from h)
  refine evDown ?_
  simp only [grammar_reader_body.l1, Bool.false_eq_true, if_false]
  refine evYes (p := [32, 41]) hs (by omega) (by simp) h1 ?_
  refine evDown ?_
  simp only [grammar_reader_body.j2, Bool.not_true, Bool.false_eq_true, if_false]
  refine evTo ?_ (Ev.now _)
  simp [textL]
 | y :: l, hr, x, i, rest, hx, h => by
  simp only [rightL, Bool.and_eq_true] at hr
  obtain ⟨r, hrr⟩ := textL_blank [] (.inl rfl) l rest
  obtain ⟨c, u, hb, n32, n33, n41, n42, n47, n63⟩ := text_head hn hr.1
  have h1 : (bs s).drop i = [32] ++ (textB y ++ 32 :: r) := by rw [h, ← hrr, textL]; simp
  have h2 := drop_to h1
  have h3 := drop_to h2
  have h0 := drop_le (show (bs s).drop i = 32 :: (textB y ++ 32 :: r) from h1)
  rw [← hrr] at h3
  refine evDown ?_
  simp only [grammar_reader_body.l1, Bool.false_eq_true, if_false]
  refine evNo (p := [32, 41]) hs (by omega) (by simp) h1 (by rw [hb]; simp [List.cons_prefix_cons, n41.symm]) ?_
  refine evDown ?_
  simp only [grammar_reader_body.j2, Bool.not_false, if_true]
  refine evMust (p := [32]) hs (by omega) (by simp) h1 ?_
  refine Ev.bind (rt_body y hr.1 _ _ h2) ?_
  simp only [if_pos (show x.length < 2513169434916 by omega)]
  refine evTo ?_ (rt_seq l hr.2 (x ++ [⟨y.f0, y.f1, y.f2⟩]) _ _ (by simp; omega) h3)
  rw [textL]
  simp only [List.length_append, List.length_cons, List.length_nil, S52_eta, List.append_assoc, List.singleton_append, List.nil_append]
  exact fin6 (by omega) rfl
end
end Go.Proofs.Ytcnllhnhinmokaa.PHGr
end
section
namespace Go.Proofs.Ytcnllhnhinmokaa.PHGr
open Go.StrMap Go.RowKit Go.Proofs.YtcnllhnhinmokaaW.PrintWords Go.Proofs.YtcnllhnhinmokaaW.PrintLast Go.Proofs.YtcnllhnhinmokaaW.PrintMore
set_option linter.unusedVariables false
set_option linter.unusedSimpArgs false
theorem w64n {a b : Nat} (h : a + b ≤ 20000) : wrap64 ((a : Int) + (b : Int)) = ((a + b : Nat) : Int) := by rw [w64 (by omega) (by omega)]; omega
theorem w64s {a : Nat} (h : a ≤ 20000) : wrap64 ((a : Int) + 1) = ((a + 1 : Nat) : Int) := by rw [w64 (by omega) (by omega)]; omega
theorem now201 : Ev (fun _ => some (wrap64 (200 + 1))) ((201 : Nat) : Int) := evTo (by rw [w64 (by omega) (by omega)]; rfl) (Ev.now _)
theorem parts_tot : ∀ (deep : Nat), deep ≤ 40 → ∀ p : S52, ∃ v : Nat, Ev (fun k => manystrandlaw24_parts.f k p.f0 p.f1 p.f2 (deep : Int) 200) (v : Int) ∧ 1 ≤ v ∧ v ≤ 201 * (deep + 1) ∧ (v ≤ 200 → wt p ≤ 460 * v) := by
 intro deep
 induction deep with
 | zero =>
  intro _ p
  refine ⟨201, ?_, by omega, by omega, by omega⟩
  refine evDown ?_
  simp only [manystrandlaw24_parts.f, if_pos (show ((0 : Nat) : Int) < 1 by omega)]
  refine evDown ?_
  simp only [manystrandlaw24_parts.j0, if_true]
  exact now201
 | succ deep ih =>
  intro hd p
  have hdw : wrap64 (((deep + 1 : Nat) : Int) - 1) = (deep : Int) := by rw [w64 (by omega) (by omega)]; omega
  by_cases c1 : (p.f1.size : Int) > 200
  · refine ⟨201, ?_, by omega, by omega, by omega⟩
    refine evDown ?_
    simp only [manystrandlaw24_parts.f, if_neg (show ¬ ((deep + 1 : Nat) : Int) < 1 by omega), if_pos c1]
    refine evDown ?_
    simp only [manystrandlaw24_parts.j0, if_true]
    exact now201
  by_cases c2 : (p.f0.size : Int) > 40
  · refine ⟨201, ?_, by omega, by omega, by omega⟩
    refine evDown ?_
    simp only [manystrandlaw24_parts.f, if_neg (show ¬ ((deep + 1 : Nat) : Int) < 1 by omega), if_neg c1, decide_eq_true c2]
    refine evDown ?_
    simp only [manystrandlaw24_parts.j0, if_true]
    exact now201
  have loop : ∀ (n i acc : Nat), i + n = p.f2.length → i + 1 ≤ acc → acc ≤ 201 * (deep + 2) → ∃ v : Nat, Ev (fun k => manystrandlaw24_parts.l0 k ((deep + 1 : Nat) : Int) 200 (acc : Int) (i : Int) p.f0 p.f1 p.f2) (v : Int) ∧ acc ≤ v ∧ v ≤ 201 * (deep + 2) ∧ (v ≤ 200 → wtL (p.f2.drop i) + 460 * acc ≤ 460 * v) := by
   intro n
   induction n with
   | zero =>
    intro i acc hi h1 h2
    refine ⟨acc, ?_, Nat.le_refl _, h2, fun _ => ?_⟩
    · refine evDown ?_
      simp only [manystrandlaw24_parts.l0, if_neg (show ¬ (i : Int) < (p.f2.length : Int) by omega)]
      exact Ev.now _
    · rw [List.drop_eq_nil_of_le (by omega)]
      simp [wtL]
   | succ n ihn =>
    intro i acc hi h1 h2
    by_cases c3 : acc ≤ 200
    rotate_left
    · refine ⟨acc, ?_, Nat.le_refl _, h2, fun hv => by omega⟩
      refine evDown ?_
      by_cases c4 : (i : Int) < (p.f2.length : Int)
      rotate_left
      · simp only [manystrandlaw24_parts.l0, if_neg c4]
        exact Ev.now _
      simp only [manystrandlaw24_parts.l0, if_pos c4, if_neg (show ¬ (acc : Int) ≤ 200 by omega)]
      exact Ev.now _
    have hlt : i < p.f2.length := by omega
    obtain ⟨v1, e1, a1, b1, d1⟩ := ih (by omega) p.f2[i]
    have hsm : acc + v1 ≤ 20000 := by omega
    have hism : i ≤ 20000 := by omega
    have q1 : (i : Int) < (p.f2.length : Int) := Int.ofNat_lt.2 hlt
    have q2 : (acc : Int) ≤ 200 := Int.ofNat_le.2 c3
    have q3 : (0 : Int) ≤ (i : Int) := Int.natCast_nonneg i
    obtain ⟨v, e, a, b, d⟩ := ihn (i + 1) (acc + v1) (by omega) (by omega) (by omega)
    refine ⟨v, ?_, by omega, b, fun hv => ?_⟩
    · refine evDown ?_
      have hrd : rd_T52 p.f2 (i : Int) = p.f2[i] := by simp [rd_T52, hlt]
      have hw2 : wrap64 ((acc : Int) + (v1 : Int)) = ((acc + v1 : Nat) : Int) := w64n hsm
      simp only [manystrandlaw24_parts.l0, if_pos q1, if_pos q2, if_pos q3, hrd, hdw]
      refine Ev.bind e1 ?_
      simp only [hw2]
      have hw : wrap64 ((i : Int) + 1) = ((i + 1 : Nat) : Int) := w64s hism
      simp only [hw]
      exact e
    · have hd1 := d1 (by omega)
      have hd2 := d hv
      rw [List.drop_eq_getElem_cons hlt]
      simp only [wtL]
      omega
  obtain ⟨v, e, a, b, d⟩ := loop p.f2.length 0 1 (by omega) (by omega) (by omega)
  refine ⟨v, ?_, by omega, by omega, fun hv => ?_⟩
  · refine evDown ?_
    simp only [manystrandlaw24_parts.f, if_neg (show ¬ ((deep + 1 : Nat) : Int) < 1 by omega), if_neg c1, decide_eq_false c2]
    refine evDown ?_
    simp only [manystrandlaw24_parts.j0, Bool.false_eq_true, if_false]
    exact e
  · have := d hv
    rw [List.drop_zero] at this
    rw [wt_eq]
    omega
theorem small_tot (g : List S54) : ∃ b, Ev (fun k => manystrandlaw24_small.f k g 200) b ∧ (b = true → wtG g ≤ 176000) := by
 have loop : ∀ (n i acc : Nat), i + n = g.length → i ≤ acc → acc ≤ 10000 → ∃ b, Ev (fun k => manystrandlaw24_small.l0 k 200 (acc : Int) (i : Int) g) b ∧ (b = true → acc ≤ 200 ∧ wtG (g.drop i) + 880 * acc ≤ 176000) := by
  intro n
  induction n with
  | zero =>
   intro i acc hi h1 h2
   have hz : wtG (g.drop i) = 0 := by rw [List.drop_eq_nil_of_le (by omega)]; rfl
   by_cases c : acc ≤ 200
   rotate_left
   · refine ⟨false, ?_, fun h => by cases h⟩
     refine evDown ?_
     simp only [manystrandlaw24_small.l0, if_neg (show ¬ (i : Int) < (g.length : Int) by omega)]
     refine evDown ?_
     simp only [manystrandlaw24_small.j1, Bool.false_eq_true, if_false, if_neg (show ¬ (acc : Int) ≤ 200 by omega)]
     exact Ev.now _
   refine ⟨decide ((g.length : Int) ≤ 30), ?_, fun _ => ⟨c, by omega⟩⟩
   refine evDown ?_
   simp only [manystrandlaw24_small.l0, if_neg (show ¬ (i : Int) < (g.length : Int) by omega)]
   refine evDown ?_
   simp only [manystrandlaw24_small.j1, Bool.false_eq_true, if_false, if_pos (show (acc : Int) ≤ 200 by omega)]
   exact Ev.now _
  | succ n ih =>
   intro i acc hi h1 h2
   have hlt : i < g.length := by omega
   have hc : (i : Int) < (g.length : Int) := by omega
   have hrd : rd_T54 g (i : Int) = g[i] := by simp [rd_T54, hlt]
   by_cases c : acc ≤ 200
   rotate_left
   · refine ⟨false, ?_, fun h => by cases h⟩
     have hd : decide ((acc : Int) ≤ 200) = false := decide_eq_false (by omega)
     refine evDown ?_
     simp only [manystrandlaw24_small.l0, if_pos hc, hd]
     refine evDown ?_
     simp only [manystrandlaw24_small.j1, Bool.false_eq_true, if_false, if_neg (show ¬ (acc : Int) ≤ 200 by omega)]
     exact Ev.now _
   have hd : decide ((acc : Int) ≤ 200) = true := decide_eq_true (by omega)
   by_cases c2 : (g[i].f0.size : Int) > 200
   · refine ⟨false, ?_, fun h => by cases h⟩
     refine evDown ?_
     simp only [manystrandlaw24_small.l0, if_pos hc, hd]
     refine evDown ?_
     simp only [manystrandlaw24_small.j1, if_true, if_pos hc, if_pos (show (0 : Int) ≤ (i : Int) by omega), hrd, if_pos c2]
     exact Ev.now _
   obtain ⟨v, e, a, b, d⟩ := parts_tot 40 (by omega) g[i].f1
   obtain ⟨r, er, hr⟩ := ih (i + 1) (acc + v) (by omega) (by omega) (by omega)
   refine ⟨r, ?_, fun h => ?_⟩
   · refine evDown ?_
     simp only [manystrandlaw24_small.l0, if_pos hc, hd]
     refine evDown ?_
     simp only [manystrandlaw24_small.j1, if_true, if_pos hc, if_pos (show (0 : Int) ≤ (i : Int) by omega), hrd, if_neg c2]
     refine Ev.bind e ?_
     have hw : wrap64 ((i : Int) + 1) = ((i + 1 : Nat) : Int) := w64s (by omega)
     have hw2 : wrap64 ((acc : Int) + (v : Int)) = ((acc + v : Nat) : Int) := w64n (by omega)
     simp only [hw, hw2]
     exact er
   · have h3 := hr h
     have h4 := d (by omega)
     rw [List.drop_eq_getElem_cons hlt]
     simp only [wtG]
     omega
 obtain ⟨b, e, h⟩ := loop g.length 0 0 (by omega) (by omega) (by omega)
 exact ⟨b, e, fun hb => by have := h hb; rw [List.drop_zero] at this; omega⟩
theorem Read_rt (g : List S54) (hg : rightG g = true) (hw : wtG g ≤ 176000) : Ev (fun k => grammar_Read.f k (toB (textG g))) (g, 0) := by
 have hn : ∀ x ∈ nm g, plainB x = true := by
  intro x hx
  obtain ⟨y, hy, rfl⟩ := List.mem_map.1 hx
  exact (rightG_mem hg hy).1
 have hlen : ∀ l : List S54, (textG l).length ≤ wtG l := by
  intro l
  induction l with
  | nil => simp [textG]
  | cons x l ih =>
   have := ruleT_len x
   have e : textG (x :: l) = ruleT x ++ textG l := by simp [textG]
   rw [e, List.length_append]
   simp only [wtG]
   omega
 generalize hse : toB (textG g) = s
 have hs : s.size ≤ 1152921504 := by rw [← hse, size_toB]; have := hlen g; omega
 have hgl := wtG_len g
 have loop : ∀ (l pre : List S54) (i : Nat), g = pre ++ l → (bs s).drop i = textG l → ∃ q, Ev (fun k => grammar_Read.l0 k s pre s (i : Int) false) (g, s, q, false) := by
  intro l
  induction l with
  | nil =>
   intro pre i hpre h
   refine ⟨(i : Int), ?_⟩
   have hge : s.size ≤ i := by
    have := congrArg List.length h
    simp only [List.length_drop, bs_len, textG, List.flatMap_nil, List.length_nil] at this
    omega
   refine evDown ?_
   simp only [grammar_Read.l0, if_neg (show ¬ (i : Int) < (s.size : Int) by omega)]
   rw [hpre, List.append_nil]
   exact Ev.now _
  | cons x l ih =>
   intro pre i hpre h
   have hx : x ∈ g := by rw [hpre]; simp
   obtain ⟨hp, hr⟩ := rightG_mem hg hx
   have e : textG (x :: l) = bs x.f0 ++ ([32, 61, 32] ++ (textB x.f1 ++ ([32, 59, 10] ++ textG l))) := by simp [textG, ruleT]
   rw [e] at h
   have h1 := drop_to h
   have h2 := drop_to h1
   have h3 := drop_to h2
   have h4 := drop_to h3
   have hpl : pre.length ≤ g.length := by rw [hpre]; simp
   have b1 := drop_le (show (bs s).drop (i + (bs x.f0).length) = 32 :: (61 :: 32 :: (textB x.f1 ++ ([32, 59, 10] ++ textG l))) from h1)
   have b3 := drop_le (show (bs s).drop (i + (bs x.f0).length + [32, 61, 32].length + (textB x.f1).length) = 32 :: (59 :: 10 :: textG l) from h3)
   obtain ⟨q, hq⟩ := ih (pre ++ [x]) _ (by rw [hpre]; simp) h4
   refine ⟨q, ?_⟩
   refine evDown ?_
   simp only [grammar_Read.l0, if_pos (show (i : Int) < (s.size : Int) by omega), Bool.false_eq_true, if_false]
   refine Ev.bind (name_rt s hs i x.f0 (61 :: 32 :: (textB x.f1 ++ ([32, 59, 10] ++ textG l))) hp h) ?_
   dsimp only
   refine evMust (p := [32, 61, 32]) hs (by omega) (by simp) h1 ?_
   dsimp only
   refine Ev.bind (rt_body hn hs x.f1 hr _ (59 :: 10 :: textG l) h2) ?_
   simp only [if_pos (show pre.length < 1954687338268 by omega)]
   refine evMust (p := [32, 59, 10]) hs (by omega) (by simp) h3 ?_
   have ee : (⟨x.f0, ⟨x.f1.f0, x.f1.f1, x.f1.f2⟩⟩ : S54) = x := by obtain ⟨a, ⟨b, c, d⟩⟩ := x; rfl
   simp only [ee]
   exact hq
 obtain ⟨q, hq⟩ := loop g [] 0 rfl (by rw [← hse]; rfl)
 unfold grammar_Read.f
 refine Ev.bind hq ?_
 simp only [Bool.false_eq_true, if_false]
 refine Ev.bind (my_Text g (by omega)) ?_
 simp only [if_pos hg, hse, if_true]
 exact Ev.now _
theorem GrammarText (g : List S54) : ∃ k, manystrandlaw24_GrammarText.f k g = some true := by
 unfold manystrandlaw24_GrammarText.f manystrandlaw24_awake.f
 refine Ev.rounds (r := true) ?_
 obtain ⟨b, e, h⟩ := small_tot g
 refine Ev.bind e ?_
 cases b with
 | false =>
  simp only [Bool.false_eq_true, if_false, Option.bind_some]
  exact Ev.now _
 | true =>
  have hw := h rfl
  simp only [if_true]
  refine Ev.bind (my_Text g (by omega)) ?_
  refine Ev.bind (ref_Text g (by omega)) ?_
  simp only [if_true]
  refine evDown ?_
  simp only [manystrandlaw24_GrammarText.j0, bne_self_eq_false, Bool.false_eq_true, if_false, manystrandlaw24_awake.f, Option.bind_some]
  by_cases c : rightG g = true
  rotate_left
  · simp only [if_neg c]
    exact Ev.now _
  simp only [if_pos c, if_true]
  refine Ev.bind (Read_rt g c hw) ?_
  refine Ev.bind (ref_Text g (by omega)) ?_
  simp only [if_pos c, if_true]
  exact Ev.now _
end Go.Proofs.Ytcnllhnhinmokaa.PHGr
end
section
namespace Go.Proofs.Ytcnllhnhinmokaa.grammarText
open Go.ChangeShapes Go.WideShapes Go.ChangeAt Go.RowKit Go.Proofs.Ytcnllhnhinmokaa.PHGr Go.Proofs.YtcnllhnhinmokaaW.PrintWords
open Go.ChangeMaps (open_string shut_string)
set_option linter.unusedVariables false
theorem add_add (a : Addr) (m n : Nat) : (a.add m).add n = a.add (m + n) := by
 unfold Addr.add
 by_cases h1 : m = 0
 · subst h1; simp
 · by_cases h2 : n = 0
   · subst h2; simp [h1]
   · simp [h1, h2, Nat.add_assoc]
theorem choose_list {α : Type} {Q : Nat → α → Prop} : ∀ n, (∀ i, i < n → ∃ y, Q i y) → ∃ ys : List α, ys.length = n ∧ ∀ i y, ys[i]? = some y → Q i y
 | 0, _ => ⟨[], rfl, fun i y h => by simp at h⟩
 | n + 1, h => by
   obtain ⟨ys, h1, h2⟩ := choose_list n (fun i hi => h i (by omega))
   obtain ⟨y, hy⟩ := h n (by omega)
   refine ⟨ys ++ [y], by simp [h1], fun i z hz => ?_⟩
   by_cases hi : i < ys.length
   · rw [List.getElem?_append_left hi] at hz
     exact h2 i z hz
   · rw [List.getElem?_append_right (by omega)] at hz
     have hin : i = n := by
      have := (List.getElem?_eq_some_iff.1 hz).1
      simp at this
      omega
     subst hin
     rw [h1] at hz
     simp at hz
     subst hz
     exact hy
theorem open_elems {α : Type} (K : α → List Value → Prop) {H : Type} {enc : TypeId × Value → H} {P : Program} {w : World} {base : Nat} {spare : Nat → Bool} {held : Bool} {t e : TypeId} {sz fuel : Nat} {cs : List Value} {x : DataW H × List MemPlace}
  (ht : P.underlying t = some (.slice e)) (hsz : P.cellsOf e = sz)
  (ih : ∀ n, n < fuel → ∀ cs x, DataW.trod enc P w base spare held n e cs = some x → ∃ y : α, K y cs)
  (h : DataW.trod enc P w base spare held fuel t cs = some x) :
  ∃ (A : Option Addr) (c : Nat) (ys : List α), cs = [.slice A ys.length c] ∧ ys.length ≤ c ∧ ReadsRow K sz w A ys.length ys := by
 rcases DataW.trod_slice ht h with ⟨rfl, _⟩ | ⟨a, len, cap, elems, rest, n, hf, rfl, rfl, hb, hl, hm, hlen, hel, hsp, hns⟩
 · exact ⟨none, 0, [], rfl, Nat.le_refl _, rfl, by simp, fun h => by simp at h⟩
 · have each : ∀ i, i < len → ∃ y : α, ∃ c, c.length = sz ∧ K y c ∧ ∀ j u, c[j]? = some u → w.cell? (a.add (i * sz + j)) = some u := by
    intro i hi
    have hi' : i < elems.length := by omega
    have := hel i hi
    rw [List.getElem?_eq_getElem hi', hsz] at this
    obtain ⟨c, h1, h2⟩ := Option.bind_eq_some_iff.1 this
    obtain ⟨y, hy⟩ := ih n (by omega) c _ h2
    obtain ⟨_, hcl, hc⟩ := World.cells?_some h1
    refine ⟨y, c, hcl, hy, fun j u hj => ?_⟩
    have hlt : j < c.length := (List.getElem?_eq_some_iff.1 hj).1
    rw [← add_add, hc j (by omega), hj]
   obtain ⟨ys, h1, h2⟩ := choose_list len each
   refine ⟨some a, cap, ys, by rw [h1], by omega, rfl, ?_, fun _ => ⟨a, rfl, fun j p hp => h2 j p hp⟩⟩
   rw [h1]
   unfold maxLen at hm
   omega
theorem three {cs : List Value} {a b c : Value} (hl : cs.length = 3) (h0 : (cs.drop 0).take 1 = [a]) (h1 : (cs.drop 1).take 1 = [b]) (h2 : (cs.drop 2).take 1 = [c]) : cs = [a, b, c] := by
 match cs, hl with
 | [x, y, z], _ => simp at h0 h1 h2; simp [h0, h1, h2]
theorem c9 : Try.prog.cellsOf 9 = 1 := by kernel_rfl
theorem c50 : Try.prog.cellsOf 50 = 1 := by kernel_rfl
theorem c52 : Try.prog.cellsOf 52 = 3 := by kernel_rfl
theorem c54 : Try.prog.cellsOf 54 = 4 := by kernel_rfl
theorem c22 : Try.prog.cellsOf 22 = 1 := by kernel_rfl
theorem c24 : Try.prog.cellsOf 24 = 1 := by kernel_rfl
theorem open_part {H : Type} {enc : TypeId × Value → H} {w : World} {base : Nat} {spare : Nat → Bool} {held : Bool} : ∀ (fuel : Nat) (cs : List Value) (x : DataW H × List MemPlace),
  DataW.trod enc Try.prog w base spare held fuel 52 cs = some x → ∃ y : S52, k52.K w y cs := by
 intro fuel
 induction fuel using Nat.strongRecOn with
 | _ fuel ih =>
   intro cs x h
   obtain ⟨xs, n, hf, rfl, hlen, hxl, hfs⟩ := DataW.trod_struct Try.underlying52 h
   rw [c52] at hlen
   match xs, hxl with
   | [y0, y1, y2], _ =>
     have g0 := hfs 0 { name := "Do", type := 9, offset := 0, embedded := false, tag := "", pkgPath := "", byteOffset := 0 } rfl
     have g1 := hfs 1 { name := "Text", type := 9, offset := 1, embedded := false, tag := "", pkgPath := "", byteOffset := 16 } rfl
     have g2 := hfs 2 { name := "Kids", type := 50, offset := 2, embedded := false, tag := "", pkgPath := "", byteOffset := 32 } rfl
     simp only [c9, c50] at g0 g1 g2
     obtain ⟨s0, e0, _, _⟩ := DataW.trod_string Try.underlying9 g0
     obtain ⟨s1, e1, _, _⟩ := DataW.trod_string Try.underlying9 g1
     obtain ⟨A, c, ys, e2, hle, hrow⟩ := open_elems (k52.K w) Try.underlying50 c52 (fun m hm cs x hx => ih m (by omega) cs x hx) g2
     have := three hlen e0 e1 e2
     subst this
     exact ⟨⟨s0, s1, ys⟩, k52_mk w ⟨s0, s1, ys⟩ hle hrow⟩
set_option maxRecDepth 100000 in
theorem open_rule {H : Type} {enc : TypeId × Value → H} {w : World} {base : Nat} {spare : Nat → Bool} {held : Bool} (fuel : Nat) (cs : List Value) (x : DataW H × List MemPlace)
  (h : DataW.trod enc Try.prog w base spare held fuel 54 cs = some x) : ∃ y : S54, k54.K w y cs := by
 obtain ⟨xs, n, hf, rfl, hlen, hxl, hfs⟩ := DataW.trod_struct Try.underlying54 h
 rw [c54] at hlen
 match xs, hxl with
 | [y0, y1], _ =>
   have g0 := hfs 0 { name := "Name", type := 9, offset := 0, embedded := false, tag := "", pkgPath := "", byteOffset := 0 } rfl
   have g1 := hfs 1 { name := "Body", type := 52, offset := 1, embedded := false, tag := "", pkgPath := "", byteOffset := 16 } rfl
   simp only [c9, c52] at g0 g1
   obtain ⟨s0, e0, _, _⟩ := DataW.trod_string Try.underlying9 g0
   obtain ⟨y, hy⟩ := open_part n _ _ g1
   obtain ⟨A, c, e1, hle, hrow⟩ := k52_open hy
   have : cs = [.string s0, .string y.f0, .string y.f1, .slice A y.f2.length c] := by
    match cs, hlen with
    | [a, b, d, e], _ => simp at e0 e1; simp [e0, e1]
   subst this
   exact ⟨⟨s0, y⟩, k54_mk w ⟨s0, y⟩ hle hrow⟩
set_option maxRecDepth 100000 in
theorem open_grammar {H : Type} {enc : TypeId × Value → H} {w : World} {base : Nat} {spare : Nat → Bool} {held : Bool} (fuel : Nat) (cs : List Value) (x : DataW H × List MemPlace)
  (h : DataW.trod enc Try.prog w base spare held fuel 24 cs = some x) : ∃ (A : Option Addr) (c : Nat) (g : List S54), cs = [.slice A g.length c] ∧ g.length ≤ c ∧ Kd.C k54 w A g.length g := by
 obtain ⟨xs, n, hf, rfl, hlen, hxl, hfs⟩ := DataW.trod_struct Try.underlying24 h
 rw [c24] at hlen
 match xs, hxl with
 | [y0], _ =>
   have g0 := hfs 0 { name := "Rules", type := 22, offset := 0, embedded := false, tag := "", pkgPath := "", byteOffset := 0 } rfl
   simp only [c22] at g0
   obtain ⟨A, c, ys, e2, hle, hrow⟩ := open_elems (k54.K w) Try.underlying22 c54 (fun m hm cs x hx => open_rule m cs x hx) g0
   refine ⟨A, c, ys, ?_, hle, hrow⟩
   match cs, hlen with
   | [a], _ => simpa using e2
theorem own : ownKnob Try.prog.godebug = none := by kernel_rfl
theorem laidOut : laidOutB Try.prog = true := by kernel_rfl
set_option maxRecDepth 100000 in
theorem lifted (os : Os) (started : os.Started) (H : Type) (enc : TypeId × Value → H) :
  ReturnsInHanded {} Try.checked os 7 .any (Rows.grammarTextSpec.pre6 enc Try.prog Try.f7 Rows.grammarTextRow.domain false) (Rows.grammarTextSpec.post enc Try.prog Try.f7 false true false false) := by
 refine returnsInHanded_of_change_sized (C := Try.checked) own started (by kernel_rfl) Try.func7
  (ChangeSpec.witness6 (enc := enc) (C := Try.checked) false ⟨#[], #[.agg #[.slice none 0 0]], []⟩ 8 (by kernel_rfl) (by kernel_rfl) (by kernel_rfl) (by kernel_rfl)) ?_
 intro W base args ds gs before hval0 hW hcnd hsz0 _
 have hval : ∀ (j : Nat) t v, Try.f7.params[j]? = some t → args[j]? = some v → Value.okWide Try.prog W .any base t v := hval0
 have hW' := hW
 obtain ⟨p, q, hA0, hV, rfl, hfz, hnd⟩ := hW
 have hA : DataW.TrodAll enc Try.prog W 0 (fun _ => true) true Try.f7.params.toList args.toList ds p := hA0
 rw [Try.params7] at hA hval
 obtain ⟨v0, vs0, d0, ds0, p0, q0, hargs, rfl, rfl, h0, r0⟩ := trodAll_cons hA
 obtain ⟨rfl, rfl, rfl⟩ := trodAll_nil r0
 obtain rfl : args = #[v0] := by cases args; simp_all
 obtain ⟨rfl, rfl⟩ := trodVars_none hV
 obtain ⟨cs, rfl, hcs⟩ := okWide_struct Try.underlying24 (hval 0 24 v0 rfl rfl)
 have k0 := h0
 have lt0 : ∀ x ∈ p0, x.block < W.heap.size := by
  obtain ⟨m, hm⟩ := k0
  exact DataW.trod_lt m _ _ _ hm
 obtain ⟨fuel, hf⟩ := h0
 obtain ⟨A2, c2, g, hcells, hle, hC⟩ := open_grammar fuel _ _ hf
 have hagg : cs = #[.slice A2 g.length c2] := by
  apply Array.ext'
  simpa [Value.cells] using hcells
 subst hagg
 obtain ⟨k, hk⟩ := PHGr.GrammarText g
 clear hA0 hval0 hsz0
 refine (manystrandlaw24_GrammarText.calls k A2 c2 g true W hC hle hk).mono fun e W' ⟨he, bel⟩ => ?_
 subst he
 exact ⟨_, rfl, _, _, _, [], _, [], hW', trodAll_mk1 (shut_bool Try.underlying4 _), (trodAll_cons_mk (Below.trod laidOut (by kernel_rfl) (of_decide_eq_true (by kernel_rfl)) k0 bel lt0) trodAll_mk0), rfl, bel.frame _, fun h => by cases h⟩
theorem over : Rows.grammarTextRow.holds Try.pinned (OpenSpec.ofChange Rows.grammarTextSpec) :=
 OpenClaim.holds_of_wide 7 Try.f7 rfl rfl rfl rfl rfl rfl rfl ⟨rfl, rfl, rfl, rfl, rfl⟩ rfl rfl rfl rfl rfl (by kernel_rfl) Try.func7 (by kernel_rfl)
  (of_decide_eq_true (by kernel_rfl)) (by unfold Func.isWrapper; first | (rw [if_pos (by decide +kernel)]; kernel_rfl) | (rw [if_neg (by decide +kernel)]; exact ⟨rfl, rfl⟩))
  (fun os started H enc _ => lifted os started H enc)
theorem proved : Rows.GrammarTextSaid := over
#print axioms proved
end Go.Proofs.Ytcnllhnhinmokaa.grammarText
namespace Go.Proofs.Ytcnllhnhinmokaa
theorem grammarText_holds : Rows.GrammarTextSaid := grammarText.proved
end Go.Proofs.Ytcnllhnhinmokaa
end
