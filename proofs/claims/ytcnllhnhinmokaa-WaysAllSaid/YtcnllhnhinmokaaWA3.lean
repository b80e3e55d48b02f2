/- For every grammar, rule, items and number, Ways answers exactly the document's trees in their order, where the document's search takes at most 20,000 steps (no condition on the arguments): part 4 of 6. -/
import Derived.Test.YtcnllhnhinmokaaWA2
section
set_option linter.unusedSimpArgs false
set_option linter.unusedVariables false
namespace Go.Ev.G24
open Go.RowKit Go.Proofs
variable {r : Ro}
def smallL (most : Nat) : List Rule → Nat → Option Nat
 | [], n => some n
 | x :: l, n => if n ≤ most then (if 200 < x.name.data.toList.length then none else smallL most l (n + partsB most 40 x.body)) else some n
def smallB (most : Nat) (l : List Rule) : Bool := match smallL most l 0 with
 | none => false
 | some n => decide (n ≤ most) && decide (l.length ≤ 30)
theorem roAt_tail {b o : Nat} {v : Value} {cs : List Value} (h : roAt r b o (v :: cs)) : roAt r b (o + 1) cs :=
 ⟨h.1, fun j u hj => by rw [show o + 1 + j = o + (j + 1) by omega]; exact h.2 (j + 1) u (by simpa using hj)⟩
set_option maxHeartbeats 4000000 in
set_option maxRecDepth 10000 in
theorem small_c {l : List Rule} {Av : Option Addr} {c b o : Nat} {css : Nat → List Value} (hlb : l.length ≤ 9223372036854775807) (hA : l ≠ [] → Av = some ⟨b, o, none⟩) (hat : ∀ (i : Nat) (x : Rule), l[i]? = some x → roAt r b (o + i * 4) (.string x.name :: css i)) (hk : ∀ (i : Nat) (x : Rule), l[i]? = some x → RoPart r x.body (css i))
  {most : Nat} (hmost : most ≤ 100000) (h : Hp) (hrom : h.rom = r) (hb : h.base ≤ h.next) :
  ∃ v h1, Snd Try.prog 10 [.agg #[.slice Av l.length c], .int .i64 (most : Int)] h v h1 ∧ v = .bool (smallB most l) ∧ Ext h h1 := by
 refine snd_go wf Try.func10 rfl rfl (n := 46) rfl (by kernel_rfl) rfl ?_
 intro a hn hg
 have hr : Try.f10.results.toList = [.tmp 4] := rfl
 have g0 := hg 0
 have g1 := hg 1
 clear hg
 simp only [List.getElem?_cons_zero, List.getElem?_cons_succ] at g0 g1
 have hP := own_new hb 24 [.slice Av l.length c]
 have hx0 := Ext.new h (CObj.cells { c := [.slice Av l.length c], e := 24, fam := 0, base := 0, grown := false })
 have hb1 := Nat.le_succ_of_le (m := h.next) hb
 simp -dsimp only [go_sem, g0, g1]
 refine loop_go (n := 46) (by kernel_rfl) (fun m' a' h' => ∃ i k : Nat, i ≤ l.length ∧ m' = l.length - i ∧ k ≤ 42 * (most + 1) ∧ Ext (h.newH (CObj.cells { c := [.slice Av l.length c], e := 24, fam := 0, base := 0, grown := false })) h' ∧ smallL most (l.drop i) k = smallL most l 0 ∧
  a'.get 1 = .int .i64 most ∧ a'.get 2 = .pointer (some ⟨h.next, 0, none⟩) ∧ a'.get 5 = .int .i64 k ∧ a'.get 6 = .int .i64 i) ?_ l.length _ _ (by simp -dsimp only [go_sem, hn]) ⟨0, 0, Nat.zero_le _, rfl, Nat.zero_le _, Ext.refl _, rfl, by simp -dsimp only [go_sem, g1], by simp -dsimp only [go_sem], by simp -dsimp only [go_sem]; rfl, by simp -dsimp only [go_sem]; rfl⟩
 rintro m' a' h' hn' ⟨i, k, hi, rfl, hkb, hx, hst, e1, e2, e5, e6⟩
 have hrom' : h'.rom = r := hx.rom.trans hrom
 have hb' : h'.base ≤ h'.next := by rw [hx.base]; exact Nat.le_trans hb1 hx.next
 have hP' := own_ext hx hP
 have k30 : decide ((l.length : Int) ≤ 30) = decide (l.length ≤ 30) := by rw [decide_eq_decide]; omega
 by_cases hlt : i < l.length
 · have hpi : l[i]? = some l[i] := List.getElem?_eq_getElem hlt
   have hi1 : decide ((i : Int) < (l.length : Int)) = true := decide_eq_true (Int.ofNat_lt.2 hlt)
   rw [List.drop_eq_getElem_cons hlt, smallL] at hst
   by_cases ck : k ≤ most
   · have k4 : decide ((k : Int) ≤ (most : Int)) = true := decide_eq_true (by omega)
     rw [if_pos ck] at hst
     obtain ⟨Av1, c1', hcs⟩ := (hk i _ hpi).shape
     have hat' := hat i _ hpi
     have hkid := hk i _ hpi
     rw [hcs] at hat' hkid
     have hAv := hA (ne_nil hlt)
     subst hAv
     have hat2 := roAt_tail hat'
     have hld : h'.load ⟨b, o + i * 4, none⟩ = some (.string l[i].name) := by
      have := load_ro hrom' hat' (j := 0) (v := .string l[i].name) rfl
      simpa using this
     by_cases cn : 200 < l[i].name.data.toList.length
     · have k5 : decide ((200 : Int) < (l[i].name.data.toList.length : Int)) = true := decide_eq_true (by omega)
       rw [if_pos cn] at hst
       simp -dsimp only [go_sem, e1, e2, e5, e6, hi1, k4, load_own hP', ia22 hlt, hld, k5, hr]
       exact ⟨by unfold smallB; rw [← hst], hx0.trans hx⟩
     · have k5 : decide ((200 : Int) < (l[i].name.data.toList.length : Int)) = false := decide_eq_false (by omega)
       rw [if_neg cn] at hst
       simp -dsimp only [go_sem, e1, e2, e5, e6, hi1, k4, load_own hP', ia22 hlt, hld, k5, loads_ro (n := 3) hrom' hat2 rfl]
       obtain ⟨_, h2, hs2, rfl, hx2⟩ := parts_c hmost _ l[i].body (Nat.lt_succ_self _) 40 h' _ (by omega) hrom' hb' hkid
       refine ⟨_, h2, hs2, ?_⟩
       have hle := partsB_le most l[i].body 40
       have hwk : IntKind.i64.wrap ((k : Int) + (partsB most 40 l[i].body : Int)) = ((k + partsB most 40 l[i].body : Nat) : Int) := by rw [IntKind.wrap_i64]; omega
       simp -dsimp only [go_sem, e1, e2, e5, e6, hwk, wrap64_succ hlt hlb]
       exact ⟨l.length - (i + 1), by omega, i + 1, _, hlt, rfl, by omega, hx.trans hx2, hst, rfl, rfl⟩
   · have k4 : decide ((k : Int) ≤ (most : Int)) = false := decide_eq_false (by omega)
     rw [if_neg ck] at hst
     simp -dsimp only [go_sem, undef', e1, e2, e5, e6, hi1, k4, load_own hP', hr]
     exact ⟨by unfold smallB; rw [← hst]; simp [ck], hx0.trans hx⟩
 · have hi0 : decide ((i : Int) < (l.length : Int)) = false := decide_eq_false (by omega)
   rw [List.drop_eq_nil_of_le (by omega), smallL] at hst
   by_cases ck : k ≤ most
   · have k4 : decide ((k : Int) ≤ (most : Int)) = true := decide_eq_true (by omega)
     simp -dsimp only [go_sem, undef', e1, e2, e5, e6, hi0, k4, load_own hP', k30, hr]
     exact ⟨by unfold smallB; rw [← hst]; simp [ck], hx0.trans hx⟩
   · have k4 : decide ((k : Int) ≤ (most : Int)) = false := decide_eq_false (by omega)
     simp -dsimp only [go_sem, undef', e1, e2, e5, e6, hi0, k4, load_own hP', hr]
     exact ⟨by unfold smallB; rw [← hst]; simp [ck], hx0.trans hx⟩
end Go.Ev.G24
end
section
set_option linter.unusedSimpArgs false
set_option linter.unusedVariables false
namespace Go.Ev.G24
open Go.RowKit Go.Proofs
mutual
def sameT : Part → Part → Bool
 | ⟨d, t, l⟩, ⟨d1, t1, l1⟩ => decide (d.data.toList = d1.data.toList) && decide (t.data.toList = t1.data.toList) && decide (l.length = l1.length) && sameTs l l1
def sameTs : List Part → List Part → Bool
 | x :: l, y :: m => sameT x y && sameTs l m
 | _, _ => true
end
abbrev No : Nat → Prop := fun _ => False
def SameC (p : Part) : Prop := ∀ (q : Part) (h : Hp) (cs cs1 : List Value), h.base ≤ h.next → TreeAt h No No p cs → TreeAt h No No q cs1 → ∃ v h1, Snd Try.prog 16 [.agg cs.toArray, .agg cs1.toArray] h v h1 ∧ v = .bool (sameT p q) ∧ Ext h h1
set_option maxHeartbeats 4000000 in
set_option maxRecDepth 10000 in
theorem same_c : ∀ (n : Nat) (p : Part), SizeOf.sizeOf p < n → Few p → SameC p := by
 intro n
 induction n with
 | zero => exact fun p hp => absurd hp (Nat.not_lt_zero _)
 | succ n ihn =>
 rintro ⟨d, t, l⟩ hn hfew q h cs cs1 hb hp hq
 cases hfew with
 | mk _ _ _ hl1 hfk =>
 have ih : ∀ (i : Nat) (p : Part), l[i]? = some p → SameC p := fun i p hp => ihn p (by
  have := List.sizeOf_lt_of_mem (List.mem_of_getElem? hp)
  simp only [Part.mk.sizeOf_spec] at hn
  omega) (hfk i p hp)
 cases hp with
 | mk _ _ _ Av c b o f row css hc hs hA hat hk =>
 cases hq with
 | mk d1 t1 l1 Av1 c1 b1 o1 f1 row1 css1 hc1 hs1 hA1 hat1 hk1 =>
 refine snd_go wf Try.func16 rfl rfl (n := 46) rfl (by kernel_rfl) rfl ?_
 intro a hn hg
 have hr : Try.f16.results.toList = [.tmp 4] := rfl
 have g0 := hg 0
 have g1 := hg 1
 clear hg
 simp only [List.getElem?_cons_zero, List.getElem?_cons_succ] at g0 g1
 have hP := own_new hb 31 [.string d, .string t, .slice Av l.length c]
 have hx0 := Ext.new h (CObj.cells { c := [.string d, .string t, .slice Av l.length c], e := 31, fam := 0, base := 0, grown := false })
 have hb0 := Nat.le_succ_of_le (m := h.next) hb
 have hQ := own_new (h := h.newH (CObj.cells { c := [.string d, .string t, .slice Av l.length c], e := 31, fam := 0, base := 0, grown := false })) hb0 31 [.string d1, .string t1, .slice Av1 l1.length c1]
 have hP1 := own_newH hP (CObj.cells { c := [.string d1, .string t1, .slice Av1 l1.length c1], e := 31, fam := 0, base := 0, grown := false })
 have hx1 := hx0.trans (Ext.new _ (CObj.cells { c := [.string d1, .string t1, .slice Av1 l1.length c1], e := 31, fam := 0, base := 0, grown := false }))
 simp -dsimp only [go_sem, g0, g1, next_newH]
 simp only [next_newH] at hQ
 generalize (h.newH (CObj.cells { c := [.string d, .string t, .slice Av l.length c], e := 31, fam := 0, base := 0, grown := false })).newH (CObj.cells { c := [.string d1, .string t1, .slice Av1 l1.length c1], e := 31, fam := 0, base := 0, grown := false }) = h2 at hQ hP1 hx1 ⊢
 have hb2 : h2.base ≤ h2.next := by rw [hx1.base]; exact Nat.le_trans hb hx1.next
 by_cases cd : d.data.toList = d1.data.toList
 rotate_left
 · simp -dsimp only [go_sem, undef', load_own hP1, load_own hQ, decide_eq_false cd, hr]
   exact ⟨by simp [sameT, cd], hx1⟩
 by_cases ct : t.data.toList = t1.data.toList
 rotate_left
 · simp -dsimp only [go_sem, undef', load_own hP1, load_own hQ, decide_eq_true cd, decide_eq_false ct, hr]
   exact ⟨by simp [sameT, ct], hx1⟩
 by_cases cl : l.length = l1.length
 rotate_left
 · have k0 : decide ((l.length : Int) = (l1.length : Int)) = false := decide_eq_false (by omega)
   simp -dsimp only [go_sem, undef', load_own hP1, load_own hQ, decide_eq_true cd, decide_eq_true ct, k0, hr]
   exact ⟨by simp [sameT, cl], hx1⟩
 have k0 : decide ((l.length : Int) = (l1.length : Int)) = true := decide_eq_true (by omega)
 have e : sameT ⟨d, t, l⟩ ⟨d1, t1, l1⟩ = sameTs l l1 := by simp [sameT, cd, ct, cl]
 simp -dsimp only [go_sem, undef', load_own hP1, load_own hQ, decide_eq_true cd, decide_eq_true ct, k0, hr]
 refine loop_go (n := 46) (by kernel_rfl) (fun m' a' h' => ∃ i : Nat, i ≤ l.length ∧ m' = l.length - i ∧ Ext h2 h' ∧ sameTs (l.drop i) (l1.drop i) = sameTs l l1 ∧
  a'.get 2 = .pointer (some ⟨h.next, 0, none⟩) ∧ a'.get 3 = .pointer (some ⟨h.next + 1, 0, none⟩) ∧ a'.get 5 = .int .i64 i) ?_ l.length _ _ (by simp -dsimp only [go_sem, hn]) ⟨0, Nat.zero_le _, rfl, Ext.refl _, rfl, by simp -dsimp only [go_sem], by simp -dsimp only [go_sem], by simp -dsimp only [go_sem]; rfl⟩
 rintro m' a' h' hn' ⟨i, hi, rfl, hx, hst, e2, e3, e5⟩
 have hb' : h'.base ≤ h'.next := by rw [hx.base]; exact Nat.le_trans hb2 hx.next
 have hP' := own_ext hx hP1
 have hQ' := own_ext hx hQ
 by_cases hlt : i < l.length
 · have hpi : l[i]? = some l[i] := List.getElem?_eq_getElem hlt
   have hlt1 : i < l1.length := by omega
   have hpi1 : l1[i]? = some l1[i] := List.getElem?_eq_getElem hlt1
   have hi1 : decide ((i : Int) < (l.length : Int)) = true := decide_eq_true (Int.ofNat_lt.2 hlt)
   obtain ⟨hAv, hRow, _, _⟩ := hA (ne_nil hlt)
   obtain ⟨hAv1, hRow1, _, _⟩ := hA1 (ne_nil hlt1)
   subst hAv hAv1
   have kp := keepsE (hx1.trans hx)
   have ld0 : h'.loads ⟨b, o + i * 3, none⟩ 3 = some (css i) := by rw [row_loads (kp.rows _ _ _ hRow (fun c => c) (fun c => c)), hat i _ hpi]
   have ld1 : h'.loads ⟨b1, o1 + i * 3, none⟩ 3 = some (css1 i) := by rw [row_loads (kp.rows _ _ _ hRow1 (fun c => c) (fun c => c)), hat1 i _ hpi1]
   have t0 := (hk i _ hpi).keep kp
   have t1' := (hk1 i _ hpi1).keep kp
   obtain ⟨kv, hcs, hkv⟩ := t0.kids
   obtain ⟨kv1, hcs1, hkv1⟩ := t1'.kids
   rw [hcs] at ld0 t0
   rw [hcs1] at ld1 t1'
   obtain ⟨Avk, ck, _, _, _, _, _, rfl, _, hsk, _⟩ := hkv
   obtain ⟨Avk1, ck1, _, _, _, _, _, rfl, _, hsk1, _⟩ := hkv1
   obtain ⟨_, h4, hs4, rfl, hx4⟩ := ih i _ hpi l1[i] h' _ _ hb' t0 t1'
   rw [List.drop_eq_getElem_cons hlt, List.drop_eq_getElem_cons hlt1, sameTs] at hst
   simp -dsimp only [go_sem, e2, e3, e5, hi1, load_own hP', load_own hQ']
   refine Dw_text (n := 46) [[], [0], [], [0, 1, 2], [0, 1, 2, 3], [], [5], [], [5, 6, 7], [5, 6, 7, 8], [0, 1, 2, 3, 4, 5, 6, 7, 8, 9], [0, 1, 2, 3, 4, 5, 6, 7, 8, 9, 10]] (by simp -dsimp only [go_sem, hn']) (by kernel_rfl) ?_
   simp -dsimp only [go_sem, e2, e3, e5, hi1, load_own hP', load_own hQ', ia29 hlt, ia29 hlt1, ld0, ld1, sameN_sliceA hsk, sameN_sliceA hsk1]
   refine ⟨_, h4, hs4, ?_⟩
   simp -dsimp only [go_sem]
   cases hsm : sameT l[i] l1[i] with
   | false =>
     rw [hsm] at hst
     simp -dsimp only [go_sem, hr]
     exact ⟨by rw [e, ← hst]; rfl, hx1.trans (hx.trans hx4)⟩
   | true =>
     rw [hsm, Bool.true_and] at hst
     simp -dsimp only [go_sem, e2, e3, e5, wrap64_succ hlt (Nat.le_trans hl1 (by decide))]
     exact ⟨l.length - (i + 1), by omega, i + 1, hlt, rfl, hx.trans hx4, hst, rfl⟩
 · have hi0 : decide ((i : Int) < (l.length : Int)) = false := decide_eq_false (by omega)
   rw [List.drop_eq_nil_of_le (by omega), sameTs] at hst
   · simp -dsimp only [go_sem, e2, e3, e5, hi0, load_own hP', hr]
     exact ⟨by rw [e, ← hst], hx1.trans hx⟩
   · intro x l2 y m2 h1; cases h1
end Go.Ev.G24
end
section
set_option linter.unusedSimpArgs false
set_option linter.unusedVariables false
namespace Go.Ev.G24
open Go.RowKit Go.Proofs
variable {r : Ro}
def findB (s : ByteArray) : List ByteArray → Nat → Int
 | [], _ => -1
 | x :: l, i => if x.data.toList = s.data.toList then (i : Int) else findB s l (i + 1)
theorem findB_idx (s : ByteArray) : ∀ (l : List ByteArray) (i : Nat), findB s l i = if idxOf l s < l.length then ((i + idxOf l s : Nat) : Int) else -1
 | [], i => by simp [findB]
 | x :: l, i => by
   unfold findB
   have hc : idxOf (x :: l) s = if x.data.toList = s.data.toList then 0 else idxOf l s + 1 := by
    unfold idxOf
    rw [List.findIdx_cons]
    by_cases c : x.data.toList = s.data.toList <;> simp [c]
   by_cases c : x.data.toList = s.data.toList
   · rw [if_pos c, hc, if_pos c]; simp
   · rw [if_neg c, findB_idx s l (i + 1), hc, if_neg c, List.length_cons]
     by_cases c2 : idxOf l s < l.length
     · rw [if_pos c2, if_pos (by omega)]; congr 1; omega
     · rw [if_neg c2, if_neg (by omega)]
set_option maxHeartbeats 2000000 in
set_option maxRecDepth 10000 in
theorem find_c {l : List Rule} {Av : Option Addr} {c b o : Nat} {css : Nat → List Value} (R : RoRules r l Av c b o css) (s : ByteArray) (h : Hp) (hrom : h.rom = r) (hb : h.base ≤ h.next) :
  ∃ v h1, Snd Try.prog 39 [.agg #[.slice Av l.length c], .string s] h v h1 ∧ v = .int .i64 (findB s (nms l) 0) ∧ Ext h h1 := by
 refine snd_go wf Try.func39 rfl rfl (n := 22) rfl (by kernel_rfl) rfl ?_
 intro a hn hg
 have hr : Try.f39.results.toList = [.tmp 4] := rfl
 have g0 := hg 0
 have g1 := hg 1
 clear hg
 simp only [List.getElem?_cons_zero, List.getElem?_cons_succ] at g0 g1
 have hP := own_new hb 24 [.slice Av l.length c]
 have hx0 := Ext.new h (CObj.cells { c := [.slice Av l.length c], e := 24, fam := 0, base := 0, grown := false })
 have hnl : (nms l).length = l.length := by simp [nms]
 simp -dsimp only [go_sem, g0]
 generalize h.newH (CObj.cells { c := [.slice Av l.length c], e := 24, fam := 0, base := 0, grown := false }) = h2 at hP hx0 ⊢
 refine loop_go (n := 22) (by kernel_rfl) (fun m' a' h' => ∃ i : Nat, i ≤ l.length ∧ m' = l.length - i ∧ h' = h2 ∧ findB s ((nms l).drop i) i = findB s (nms l) 0 ∧
  a'.get 1 = .string s ∧ a'.get 2 = .pointer (some ⟨h.next, 0, none⟩) ∧ a'.get 5 = .int .i64 i) ?_ l.length _ _ (by simp -dsimp only [go_sem, hn]) ⟨0, Nat.zero_le _, rfl, rfl, rfl, by simp -dsimp only [go_sem, g1], by simp -dsimp only [go_sem], by simp -dsimp only [go_sem]; rfl⟩
 rintro m' a' h' hn' ⟨i, hi, rfl, hh, hst, e1, e2, e5⟩
 rw [hh]
 by_cases hlt : i < l.length
 · have hpi : l[i]? = some l[i] := List.getElem?_eq_getElem hlt
   have hi1 : decide ((i : Int) < (l.length : Int)) = true := decide_eq_true (Int.ofNat_lt.2 hlt)
   have hat' := R.hat i _ hpi
   have hAv := R.hA (ne_nil hlt)
   subst hAv
   have hld : h2.load ⟨b, o + i * 4, none⟩ = some (.string l[i].name) := by
    have := load_ro (hx0.rom.trans hrom) hat' (j := 0) (v := .string l[i].name) rfl
    simpa using this
   have hdr : (nms l).drop i = l[i].name :: (nms l).drop (i + 1) := by
    rw [List.drop_eq_getElem_cons (by omega)]; simp [nms]
   rw [hdr, findB] at hst
   by_cases c2 : l[i].name.data.toList = s.data.toList
   · rw [if_pos c2] at hst
     simp -dsimp only [go_sem, e1, e2, e5, hi1, ia22 hlt, load_own hP, hld, decide_eq_true c2, hr]
     exact ⟨by rw [← hst], hx0⟩
   · rw [if_neg c2] at hst
     simp -dsimp only [go_sem, e1, e2, e5, hi1, ia22 hlt, load_own hP, hld, decide_eq_false c2, wrap64_succ hlt (Nat.le_trans R.hb (by decide))]
     exact ⟨l.length - (i + 1), by omega, i + 1, hlt, rfl, hst, rfl⟩
 · have hi0 : decide ((i : Int) < (l.length : Int)) = false := decide_eq_false (by omega)
   rw [List.drop_eq_nil_of_le (by omega), findB] at hst
   simp -dsimp only [go_sem, e1, e2, e5, hi0, load_own hP, hr]
   exact ⟨by rw [← hst], hx0⟩
end Go.Ev.G24
end
section
set_option linter.unusedSimpArgs false
set_option linter.unusedVariables false
namespace Go.Ev.G24
open Go.RowKit Go.Proofs
open Go.Proofs.Ytcnllhnhinmokaa.PHGr (plainB atomB)
variable {r : Ro}
theorem int_gt0 (n : Nat) : decide (0 < (n : Int)) = decide (1 ≤ n) := by rw [decide_eq_decide]; omega
theorem find_ge (s : ByteArray) (l : List ByteArray) : decide (0 ≤ findB s l 0) = decide (idxOf l s < l.length) := by
 rw [findB_idx, decide_eq_decide]
 split <;> omega
def RefRightC (r : Ro) (G : List Rule) (Gv : Option Addr) (gc : Nat) (p : Part) : Prop := ∀ (h : Hp) (cs : List Value), h.rom = r → h.base ≤ h.next → RoPart r p cs → fits p →
 ∃ v h1, Snd Try.prog 69 [.agg #[.slice Gv G.length gc], .agg cs.toArray] h v h1 ∧ v = .bool (rightP (nms G) p) ∧ Ext h h1
set_option maxHeartbeats 4000000 in
set_option maxRecDepth 10000 in
theorem ref_right_c {G : List Rule} {Gv : Option Addr} {gc gb go : Nat} {gcss : Nat → List Value} (R : RoRules r G Gv gc gb go gcss) : ∀ (n : Nat) (p : Part), SizeOf.sizeOf p < n → RefRightC r G Gv gc p := by
 intro n
 induction n with
 | zero => exact fun p hp => absurd hp (Nat.not_lt_zero _)
 | succ n ihn =>
 rintro ⟨d, t, l⟩ hn h cs hrom hb hp hft
 have ih : ∀ (i : Nat) (p : Part), l[i]? = some p → RefRightC r G Gv gc p := fun i p hp => ihn p (by
  have := List.sizeOf_lt_of_mem (List.mem_of_getElem? hp)
  simp only [Part.mk.sizeOf_spec] at hn
  omega)
 have hnk : ∀ (i : Nat) (p : Part), l[i]? = some p → fits p := fitsL_get hft.2
 cases hp with
 | mk _ _ _ Av c b o css hc hlb hA hat hk hs =>
 refine snd_go wf Try.func69 rfl rfl (n := 84) rfl (by kernel_rfl) rfl ?_
 intro a hn hg
 have hr : Try.f69.results.toList = [.tmp 4] := rfl
 have g0 := hg 0
 have g1 := hg 1
 clear hg
 simp only [List.getElem?_cons_zero, List.getElem?_cons_succ] at g0 g1
 have hG := own_new hb 24 [.slice Gv G.length gc]
 have hxg := Ext.new h (CObj.cells { c := [.slice Gv G.length gc], e := 24, fam := 0, base := 0, grown := false })
 have hbg := Nat.le_succ_of_le (m := h.next) hb
 have hP := own_new (h := h.newH (CObj.cells { c := [.slice Gv G.length gc], e := 24, fam := 0, base := 0, grown := false })) hbg 52 [.string d, .string t, .slice Av l.length c]
 have hG1 := own_newH hG (CObj.cells { c := [.string d, .string t, .slice Av l.length c], e := 52, fam := 0, base := 0, grown := false })
 have hx0 := hxg.trans (Ext.new _ (CObj.cells { c := [.string d, .string t, .slice Av l.length c], e := 52, fam := 0, base := 0, grown := false }))
 have e : rightP (nms G) ⟨d, t, l⟩ = (rightL (nms G) l && kindOk (nms G) d t l.length) := by rw [rightP]
 simp -dsimp only [go_sem, g0, g1, next_newH]
 simp only [next_newH] at hP
 generalize (h.newH (CObj.cells { c := [.slice Gv G.length gc], e := 24, fam := 0, base := 0, grown := false })).newH (CObj.cells { c := [.string d, .string t, .slice Av l.length c], e := 52, fam := 0, base := 0, grown := false }) = h2 at hP hG1 hx0 ⊢
 have hb2 : h2.base ≤ h2.next := by rw [hx0.base]; exact Nat.le_trans hb hx0.next
 refine loop_go (n := 84) (by kernel_rfl) (fun m' a' h' => ∃ i : Nat, i ≤ l.length ∧ m' = l.length - i ∧ Ext h2 h' ∧ rightL (nms G) (l.drop i) = rightL (nms G) l ∧
  a'.get 2 = .pointer (some ⟨h.next, 0, none⟩) ∧ a'.get 3 = .pointer (some ⟨h.next + 1, 0, none⟩) ∧ a'.get 5 = .int .i64 i) ?_ l.length _ _ (by simp -dsimp only [go_sem, hn]) ⟨0, Nat.zero_le _, rfl, Ext.refl _, rfl, by simp -dsimp only [go_sem], by simp -dsimp only [go_sem], by simp -dsimp only [go_sem]; rfl⟩
 rintro m' a' h' hn' ⟨i, hi, rfl, hx, hst, e2, e3, e5⟩
 have hrom' : h'.rom = r := (hx0.trans hx).rom.trans hrom
 have hb' : h'.base ≤ h'.next := by rw [hx.base]; exact Nat.le_trans hb2 hx.next
 have hP' := own_ext hx hP
 have hG' := own_ext hx hG1
 by_cases hlt : i < l.length
 · have hpi : l[i]? = some l[i] := List.getElem?_eq_getElem hlt
   have hi1 : decide ((i : Int) < (l.length : Int)) = true := decide_eq_true (Int.ofNat_lt.2 hlt)
   obtain ⟨Av1, c1', hcs⟩ := (hk i _ hpi).shape
   have hat' := hat i _ hpi
   have hkid := hk i _ hpi
   rw [hcs] at hat' hkid
   have hAv := hA (ne_nil hlt)
   subst hAv
   obtain ⟨_, h4, hs4, rfl, hx4⟩ := ih i _ hpi h' _ hrom' hb' hkid (hnk i _ hpi)
   rw [List.drop_eq_getElem_cons hlt, rightL] at hst
   simp -dsimp only [go_sem, e2, e3, e5, hi1, load_own hP']
   refine Dw_text (n := 84) [[], [], [1], [], [1, 2, 3], [1, 2, 3, 4], [0, 1, 2, 3, 4, 5], [0, 1, 2, 3, 4, 5, 6]] (by simp -dsimp only [go_sem, hn']) (by kernel_rfl) ?_
   simp -dsimp only [go_sem, e2, e3, e5, loads_own hG', load_own hP', ia50 hlt, loads_ro (n := 3) hrom' hat' rfl, sameN_sliceA R.hs, sameN_sliceA hkid.same]
   refine ⟨_, h4, hs4, ?_⟩
   simp -dsimp only [go_sem]
   cases hsm : rightP (nms G) l[i] with
   | false =>
     rw [hsm, Bool.false_and] at hst
     simp -dsimp only [go_sem, hr]
     exact ⟨by rw [e, ← hst]; rfl, hx0.trans (hx.trans hx4)⟩
   | true =>
     rw [hsm, Bool.true_and] at hst
     simp -dsimp only [go_sem, e2, e3, e5, wrap64_succ hlt hlb]
     exact ⟨l.length - (i + 1), by omega, i + 1, hlt, rfl, hx.trans hx4, hst, rfl⟩
 · have hi0 : decide ((i : Int) < (l.length : Int)) = false := decide_eq_false (by omega)
   rw [List.drop_eq_nil_of_le (by omega), rightL] at hst
   rw [← hst, Bool.true_and] at e
   simp -dsimp only [go_sem, e2, e3, e5, hi0, load_own hP']
   have hx9 := hx0.trans hx
   by_cases c1 : d.data.toList = [105, 115]
   · by_cases cn : l.length = 0
     · have kn : decide ((l.length : Int) = 0) = true := by rw [int_eq0]; exact decide_eq_true cn
       simp -dsimp only [go_sem, decide_eq_true c1, e2, e3, kn, load_own hP', hr]
       refine ⟨_, _, ref_atom_c t hft.1 _, ?_⟩
       exact ⟨by rw [e]; simp [kindOk, c1, cn], hx9⟩
     · have kn : decide ((l.length : Int) = 0) = false := by rw [int_eq0]; exact decide_eq_false cn
       simp -dsimp only [go_sem, undef', decide_eq_true c1, e2, e3, kn, load_own hP', hr]
       exact ⟨by rw [e]; simp [kindOk, c1, cn], hx9⟩
   by_cases c2 : d.data.toList = [114, 117, 108, 101]
   · by_cases cn : l.length = 0
     · have kn : decide ((l.length : Int) = 0) = true := by rw [int_eq0]; exact decide_eq_true cn
       simp -dsimp only [go_sem, decide_eq_false c1, decide_eq_true c2, e2, e3, kn, load_own hP', loads_own hG', hr]
       obtain ⟨_, h5, hs5, rfl, hx5⟩ := find_c R t h' hrom' hb'
       refine ⟨_, h5, hs5, ?_⟩
       simp -dsimp only [go_sem, find_ge, hr]
       exact ⟨by rw [e]; simp [kindOk, c2, cn], hx9.trans hx5⟩
     · have kn : decide ((l.length : Int) = 0) = false := by rw [int_eq0]; exact decide_eq_false cn
       simp -dsimp only [go_sem, undef', decide_eq_false c1, decide_eq_true c2, e2, e3, kn, load_own hP', hr]
       exact ⟨by rw [e]; simp [kindOk, c2, cn], hx9⟩
   by_cases c3 : d.data.toList = [97, 110, 121]
   · by_cases cn : l.length = 0
     · have kn : decide ((l.length : Int) = 0) = true := by rw [int_eq0]; exact decide_eq_true cn
       simp -dsimp only [go_sem, decide_eq_false c1, decide_eq_false c2, decide_eq_true c3, e2, e3, kn, load_own hP', hr]
       exact ⟨by rw [e]; simp [kindOk, c3, cn], hx9⟩
     · have kn : decide ((l.length : Int) = 0) = false := by rw [int_eq0]; exact decide_eq_false cn
       simp -dsimp only [go_sem, undef', decide_eq_false c1, decide_eq_false c2, decide_eq_true c3, e2, e3, kn, load_own hP', hr]
       exact ⟨by rw [e]; simp [kindOk, c3, cn], hx9⟩
   by_cases c4 : d.data.toList = [110, 111, 116, 104, 105, 110, 103]
   · by_cases cn : l.length = 0
     · have kn : decide ((l.length : Int) = 0) = true := by rw [int_eq0]; exact decide_eq_true cn
       simp -dsimp only [go_sem, decide_eq_false c1, decide_eq_false c2, decide_eq_false c3, decide_eq_true c4, e2, e3, kn, load_own hP', hr]
       exact ⟨by rw [e]; simp [kindOk, c4, cn], hx9⟩
     · have kn : decide ((l.length : Int) = 0) = false := by rw [int_eq0]; exact decide_eq_false cn
       simp -dsimp only [go_sem, undef', decide_eq_false c1, decide_eq_false c2, decide_eq_false c3, decide_eq_true c4, e2, e3, kn, load_own hP', hr]
       exact ⟨by rw [e]; simp [kindOk, c4, cn], hx9⟩
   by_cases c5 : d.data.toList = [115, 101, 113]
   · by_cases cn : 1 ≤ l.length
     · have kn : decide (0 < (l.length : Int)) = true := by rw [int_gt0]; exact decide_eq_true cn
       simp -dsimp only [go_sem, decide_eq_false c1, decide_eq_false c2, decide_eq_false c3, decide_eq_false c4, decide_eq_true c5, e2, e3, kn, load_own hP', hr]
       exact ⟨by rw [e]; simp [kindOk, c5, cn], hx9⟩
     · have kn : decide (0 < (l.length : Int)) = false := by rw [int_gt0]; exact decide_eq_false cn
       simp -dsimp only [go_sem, undef', decide_eq_false c1, decide_eq_false c2, decide_eq_false c3, decide_eq_false c4, decide_eq_true c5, e2, e3, kn, load_own hP', hr]
       exact ⟨by rw [e]; simp [kindOk, c5, cn], hx9⟩
   by_cases c6 : d.data.toList = [111, 114]
   · by_cases cn : 1 ≤ l.length
     · have kn : decide (0 < (l.length : Int)) = true := by rw [int_gt0]; exact decide_eq_true cn
       simp -dsimp only [go_sem, decide_eq_false c1, decide_eq_false c2, decide_eq_false c3, decide_eq_false c4, decide_eq_false c5, decide_eq_true c6, e2, e3, kn, load_own hP', hr]
       exact ⟨by rw [e]; simp [kindOk, c6, cn], hx9⟩
     · have kn : decide (0 < (l.length : Int)) = false := by rw [int_gt0]; exact decide_eq_false cn
       simp -dsimp only [go_sem, undef', decide_eq_false c1, decide_eq_false c2, decide_eq_false c3, decide_eq_false c4, decide_eq_false c5, decide_eq_true c6, e2, e3, kn, load_own hP', hr]
       exact ⟨by rw [e]; simp [kindOk, c6, cn], hx9⟩
   by_cases c7 : d.data.toList = [109, 97, 110, 121]
   · by_cases cn : l.length = 1
     · have kn : decide ((l.length : Int) = 1) = true := by rw [int_eq1]; exact decide_eq_true cn
       simp -dsimp only [go_sem, decide_eq_false c1, decide_eq_false c2, decide_eq_false c3, decide_eq_false c4, decide_eq_false c5, decide_eq_false c6, decide_eq_true c7, e2, e3, kn, load_own hP', hr]
       exact ⟨by rw [e]; simp [kindOk, c7, cn], hx9⟩
     · have kn : decide ((l.length : Int) = 1) = false := by rw [int_eq1]; exact decide_eq_false cn
       simp -dsimp only [go_sem, undef', decide_eq_false c1, decide_eq_false c2, decide_eq_false c3, decide_eq_false c4, decide_eq_false c5, decide_eq_false c6, decide_eq_true c7, e2, e3, kn, load_own hP', hr]
       exact ⟨by rw [e]; simp [kindOk, c7, cn], hx9⟩
   by_cases c8 : d.data.toList = [111, 112, 116]
   · by_cases cn : l.length = 1
     · have kn : decide ((l.length : Int) = 1) = true := by rw [int_eq1]; exact decide_eq_true cn
       simp -dsimp only [go_sem, decide_eq_false c1, decide_eq_false c2, decide_eq_false c3, decide_eq_false c4, decide_eq_false c5, decide_eq_false c6, decide_eq_false c7, decide_eq_true c8, e2, e3, kn, load_own hP', hr]
       exact ⟨by rw [e]; simp [kindOk, c8, cn], hx9⟩
     · have kn : decide ((l.length : Int) = 1) = false := by rw [int_eq1]; exact decide_eq_false cn
       simp -dsimp only [go_sem, undef', decide_eq_false c1, decide_eq_false c2, decide_eq_false c3, decide_eq_false c4, decide_eq_false c5, decide_eq_false c6, decide_eq_false c7, decide_eq_true c8, e2, e3, kn, load_own hP', hr]
       exact ⟨by rw [e]; simp [kindOk, c8, cn], hx9⟩
   by_cases c9 : d.data.toList = [110, 111, 116]
   · by_cases cn : l.length = 1
     · have kn : decide ((l.length : Int) = 1) = true := by rw [int_eq1]; exact decide_eq_true cn
       simp -dsimp only [go_sem, decide_eq_false c1, decide_eq_false c2, decide_eq_false c3, decide_eq_false c4, decide_eq_false c5, decide_eq_false c6, decide_eq_false c7, decide_eq_false c8, decide_eq_true c9, e2, e3, kn, load_own hP', hr]
       exact ⟨by rw [e]; simp [kindOk, c9, cn], hx9⟩
     · have kn : decide ((l.length : Int) = 1) = false := by rw [int_eq1]; exact decide_eq_false cn
       simp -dsimp only [go_sem, undef', decide_eq_false c1, decide_eq_false c2, decide_eq_false c3, decide_eq_false c4, decide_eq_false c5, decide_eq_false c6, decide_eq_false c7, decide_eq_false c8, decide_eq_true c9, e2, e3, kn, load_own hP', hr]
       exact ⟨by rw [e]; simp [kindOk, c9, cn], hx9⟩
   simp -dsimp only [go_sem, decide_eq_false c1, decide_eq_false c2, decide_eq_false c3, decide_eq_false c4, decide_eq_false c5, decide_eq_false c6, decide_eq_false c7, decide_eq_false c8, decide_eq_false c9, e2, e3, load_own hP', hr]
   exact ⟨by rw [e]; simp [kindOk, c1, c2, c3, c4, c5, c6, c7, c8, c9], hx9⟩
end Go.Ev.G24
end
section
set_option linter.unusedSimpArgs false
set_option linter.unusedVariables false
namespace Go.Ev.G24
open Go.RowKit Go.Proofs
open Go.Proofs.Ytcnllhnhinmokaa.PHGr (plainB atomB)
variable {r : Ro}
def refRs (nm : List ByteArray) : List Rule → Nat → Bool
 | [], _ => true
 | x :: l, i => (plainB x.name && (decide (findB x.name nm 0 = (i : Int)) && rightP nm x.body)) && refRs nm l (i + 1)
def refRightG (l : List Rule) : Bool := refRs (nms l) l 0 && decide (0 < l.length)
set_option maxHeartbeats 4000000 in
set_option maxRecDepth 10000 in
theorem ref_Right_c {l : List Rule} {Av : Option Addr} {c b o : Nat} {css : Nat → List Value} (R : RoRules r l Av c b o css) (hft : fitsG l) (h : Hp) (hrom : h.rom = r) (hb : h.base ≤ h.next) :
  ∃ v h1, Snd Try.prog 35 [.agg #[.slice Av l.length c]] h v h1 ∧ v = .bool (refRightG l) ∧ Ext h h1 := by
 refine snd_go wf Try.func35 rfl rfl (n := 46) rfl (by kernel_rfl) rfl ?_
 intro a hn hg
 have hr : Try.f35.results.toList = [.tmp 2] := rfl
 have g0 := hg 0
 clear hg
 simp only [List.getElem?_cons_zero, List.getElem?_cons_succ] at g0
 have hP := own_new hb 24 [.slice Av l.length c]
 have hx0 := Ext.new h (CObj.cells { c := [.slice Av l.length c], e := 24, fam := 0, base := 0, grown := false })
 simp -dsimp only [go_sem, g0]
 generalize h.newH (CObj.cells { c := [.slice Av l.length c], e := 24, fam := 0, base := 0, grown := false }) = h2 at hP hx0 ⊢
 have hb2 : h2.base ≤ h2.next := by rw [hx0.base]; exact Nat.le_trans hb hx0.next
 refine loop_go (n := 46) (by kernel_rfl) (fun m' a' h' => ∃ i : Nat, i ≤ l.length ∧ m' = l.length - i ∧ Ext h2 h' ∧ refRs (nms l) (l.drop i) i = refRs (nms l) l 0 ∧
  a'.get 1 = .pointer (some ⟨h.next, 0, none⟩) ∧ a'.get 3 = .int .i64 i) ?_ l.length _ _ (by simp -dsimp only [go_sem, hn]) ⟨0, Nat.zero_le _, rfl, Ext.refl _, rfl, by simp -dsimp only [go_sem], by simp -dsimp only [go_sem]; rfl⟩
 rintro m' a' h' hn' ⟨i, hi, rfl, hx, hst, e1, e3⟩
 have hrom' : h'.rom = r := (hx0.trans hx).rom.trans hrom
 have hb' : h'.base ≤ h'.next := by rw [hx.base]; exact Nat.le_trans hb2 hx.next
 have hP' := own_ext hx hP
 by_cases hlt : i < l.length
 · have hpi : l[i]? = some l[i] := List.getElem?_eq_getElem hlt
   have hi1 : decide ((i : Int) < (l.length : Int)) = true := decide_eq_true (Int.ofNat_lt.2 hlt)
   obtain ⟨Av1, c1', hcs⟩ := (R.hk i _ hpi).shape
   have hat' := R.hat i _ hpi
   have hkid := R.hk i _ hpi
   rw [hcs] at hat' hkid
   have hAv := R.hA (ne_nil hlt)
   subst hAv
   have hat2 := roAt_tail hat'
   have hld : ∀ {h3 : Hp}, h3.rom = r → h3.load ⟨b, o + i * 4, none⟩ = some (.string l[i].name) := by
    intro h3 h3r
    have := load_ro h3r hat' (j := 0) (v := .string l[i].name) rfl
    simpa using this
   rw [List.drop_eq_getElem_cons hlt, refRs] at hst
   obtain ⟨_, h4, hs4, rfl, hx4⟩ := find_c R l[i].name h' hrom' hb'
   have hrom4 := hx4.rom.trans hrom'
   have hb4 : h4.base ≤ h4.next := by rw [hx4.base]; exact Nat.le_trans hb' hx4.next
   obtain ⟨_, h5, hs5, rfl, hx5⟩ := ref_right_c R _ l[i].body (Nat.lt_succ_self _) h4 _ hrom4 hb4 hkid (hft i _ hpi).2
   have hP4 := own_ext hx4 hP'
   have hP5 := own_ext hx5 hP4
   have hrom5 := hx5.rom.trans hrom4
   have hpl := ref_plain_c l[i].name (hft i _ hpi).1 h'
   simp -dsimp only [go_sem, e1, e3, hi1, load_own hP']
   refine Dw_text (n := 46) [[], [0], [], [0, 1, 2], [0, 1, 2, 3], [0, 1, 2, 3, 4], [0, 1, 2, 3, 4, 5], [0, 1, 2, 3, 4, 5, 6], [0, 1, 2, 3, 4, 5, 6, 7], [0, 1, 2, 3, 4, 5, 6, 7, 8], [0, 1, 2, 3, 4, 5, 6, 7, 8], [0, 1, 2, 3, 4, 5, 6, 7, 8, 10], [0, 1, 2, 3, 4, 5, 6, 7, 8], [0, 1, 2, 3, 4, 5, 6, 7, 8, 10, 11, 12], [0, 1, 2, 3, 4, 5, 6, 7, 8, 10, 11, 12, 13], [0, 1, 2, 3, 4, 5, 6, 7, 8, 10, 11, 12, 13, 14], [0, 1, 2, 3, 4, 5, 6, 7, 8, 9, 10, 11, 12, 13, 14, 15], [0, 1, 2, 3, 4, 5, 6, 7, 8], [0, 1, 2, 3, 4, 5, 6, 7, 8, 9, 10, 11, 12, 13, 14, 15, 16, 17], [0, 1, 2, 3, 4, 5, 6, 7, 8, 9, 10, 11, 12, 13, 14, 15, 16, 17, 18], [0, 1, 2, 3, 4, 5, 6, 7, 8, 9, 10, 11, 12, 13, 14, 15, 16, 17, 18, 19], [0, 1, 2, 3, 4, 5, 6, 7, 8, 9, 10, 11, 12, 13, 14, 15, 16, 17, 18, 19, 20], [0, 1, 2, 3, 4, 5, 6, 7, 8, 9, 10, 11, 12, 13, 14, 15, 16, 17, 18, 19, 20], [0, 1, 2, 3, 4, 5, 6, 7, 8, 9, 10, 11, 12, 13, 14, 15, 16, 17, 18, 19, 20, 22], [0, 1, 2, 3, 4, 5, 6, 7, 8, 9, 10, 11, 12, 13, 14, 15, 16, 17, 18, 19, 20], [0, 1, 2, 3, 4, 5, 6, 7, 8, 9, 10, 11, 12, 13, 14, 15, 16, 17, 18, 19, 20, 22, 23, 24], [0, 1, 2, 3, 4, 5, 6, 7, 8, 9, 10, 11, 12, 13, 14, 15, 16, 17, 18, 19, 20, 22, 23, 24, 25], [0, 1, 2, 3, 4, 5, 6, 7, 8, 9, 10, 11, 12, 13, 14, 15, 16, 17, 18, 19, 20, 22, 23, 24, 25, 26], [0, 1, 2, 3, 4, 5, 6, 7, 8, 9, 10, 11, 12, 13, 14, 15, 16, 17, 18, 19, 20, 21, 22, 23, 24, 25, 26, 27], [0, 1, 2, 3, 4, 5, 6, 7, 8, 9, 10, 11, 12, 13, 14, 15, 16, 17, 18, 19, 20, 21, 22, 23, 24, 25, 26, 27, 28], [0, 1, 2, 3, 4, 5, 6, 7, 8, 9, 10, 11, 12, 13, 14, 15, 16, 17, 18, 19, 20, 21, 22, 23, 24, 25, 26, 27, 28, 29]] (by simp -dsimp only [go_sem, hn']) (by kernel_rfl) ?_
   simp -dsimp only [go_sem, e1, e3, load_own hP', ia22 hlt, hld hrom']
   refine ⟨_, _, hpl, ?_⟩
   cases hp1 : plainB l[i].name with
   | false =>
     rw [hp1, Bool.false_and, Bool.false_and] at hst
     simp -dsimp only [go_sem, undef', e1, e3, load_own hP', hr]
     exact ⟨by unfold refRightG; rw [← hst]; rfl, hx0.trans hx⟩
   | true =>
     rw [hp1, Bool.true_and] at hst
     simp -dsimp only [go_sem, undef', e1, e3, load_own hP', loads_own hP', ia22 hlt, hld hrom', sameN_sliceA R.hs]
     refine ⟨_, h4, hs4, ?_⟩
     by_cases hfd : findB l[i].name (nms l) 0 = (i : Int)
     · rw [decide_eq_true hfd, Bool.true_and] at hst
       simp -dsimp only [go_sem, undef', e1, e3, decide_eq_true hfd, load_own hP4, loads_own hP4, load_own hP', loads_own hP', ia22 hlt, loads_ro (n := 3) hrom4 hat2 rfl, sameN_sliceA R.hs, sameN_sliceA hkid.same]
       refine ⟨_, h5, hs5, ?_⟩
       cases hrp : rightP (nms l) l[i].body with
       | false =>
         rw [hrp, Bool.false_and] at hst
         simp -dsimp only [go_sem, undef', e1, e3, hr]
         exact ⟨by unfold refRightG; rw [← hst]; rfl, hx0.trans (hx.trans (hx4.trans hx5))⟩
       | true =>
         rw [hrp, Bool.true_and] at hst
         simp -dsimp only [go_sem, undef', e1, e3, wrap64_succ hlt (Nat.le_trans R.hb (by decide))]
         exact ⟨l.length - (i + 1), by omega, i + 1, hlt, rfl, hx.trans (hx4.trans hx5), hst, rfl⟩
     · rw [decide_eq_false hfd, Bool.false_and, Bool.false_and] at hst
       simp -dsimp only [go_sem, undef', e1, e3, decide_eq_false hfd, hr]
       exact ⟨by unfold refRightG; rw [← hst]; rfl, hx0.trans (hx.trans hx4)⟩
 · have hi0 : decide ((i : Int) < (l.length : Int)) = false := decide_eq_false (by omega)
   rw [List.drop_eq_nil_of_le (by omega), refRs] at hst
   have hg : decide (0 < (l.length : Int)) = decide (0 < l.length) := by rw [decide_eq_decide]; omega
   simp -dsimp only [go_sem, e1, e3, hi0, load_own hP', hg, hr]
   exact ⟨by unfold refRightG; rw [← hst, Bool.true_and], hx0.trans hx⟩
end Go.Ev.G24
end
section
namespace Go.Ev.G24
open Go.RowKit Go.Proofs
open Go.Proofs.Ytcnllhnhinmokaa.PHGr (plainB atomB)
theorem idxOf_app (seen rest : List ByteArray) (n : ByteArray) : idxOf (seen ++ n :: rest) n = if idxOf seen n < seen.length then idxOf seen n else seen.length := by
 unfold idxOf
 rw [List.findIdx_append]
 split
 · rfl
 · simp [List.findIdx_cons]
theorem find_here (seen rest : List ByteArray) (n : ByteArray) : decide (findB n (seen ++ n :: rest) 0 = (seen.length : Int)) = !decide (idxOf seen n < seen.length) := by
 rw [findB_idx, idxOf_app]
 by_cases c : idxOf seen n < seen.length
 · rw [if_pos c, if_pos (by rw [List.length_append]; omega), decide_eq_true c]
   exact decide_eq_false (by omega)
 · rw [if_neg c, if_pos (by rw [List.length_append, List.length_cons]; omega), decide_eq_false c]
   exact decide_eq_true (by omega)
theorem refRs_eq : ∀ (l : List Rule) (seen : List ByteArray), refRs (seen ++ nms l) l seen.length = (fresh seen (nms l) && rightRs (seen ++ nms l) l)
 | [], seen => by simp [refRs, nms, fresh, rightRs]
 | x :: l, seen => by
   have ih := refRs_eq l (seen ++ [x.name])
   have e : seen ++ [x.name] ++ nms l = seen ++ nms (x :: l) := by simp [nms]
   rw [e, List.length_append, List.length_singleton] at ih
   have hf := find_here seen (nms l) x.name
   have e2 : seen ++ x.name :: nms l = seen ++ nms (x :: l) := by simp [nms]
   rw [e2] at hf
   have e3 : fresh seen (nms (x :: l)) = (!decide (idxOf seen x.name < seen.length) && fresh (seen ++ [x.name]) (nms l)) := by simp [nms, fresh]
   rw [refRs, rightRs, ih, hf, e3]
   cases plainB x.name <;> cases rightP (seen ++ nms (x :: l)) x.body <;> cases decide (idxOf seen x.name < seen.length) <;> cases fresh (seen ++ [x.name]) (nms l) <;> simp
theorem refRightG_eq (l : List Rule) : refRightG l = rightG l := by
 have h := refRs_eq l []
 simp only [List.nil_append, List.length_nil] at h
 have e : decide (0 < l.length) = !decide (l.length = 0) := by
  cases l <;> simp
 unfold refRightG rightG
 rw [h, e]
 cases fresh [] (nms l) <;> cases decide (l.length = 0) <;> simp
end Go.Ev.G24
end
section
set_option linter.unusedSimpArgs false
set_option linter.unusedVariables false
namespace Go.Ev.G24
open Go.RowKit Go.Proofs
def itemT (s : ByteArray) : Part := ⟨⟨#[105, 116, 101, 109]⟩, s, []⟩
def ruleT (t : ByteArray) (l : List Part) : Part := ⟨⟨#[114, 117, 108, 101]⟩, t, l⟩
def manyT (l : List Part) : Part := ⟨⟨#[109, 97, 110, 121]⟩, ⟨#[]⟩, l⟩
inductive Task
 | part (p : Part) (q : Nat)
 | seq (l : List Part) (q : Nat) (acc : List Part)
 | alt (l : List Part) (q : Nat)
 | many (p : Part) (q : Nat) (acc : List Part)
abbrev Outc := Option (List Part × Nat) × Nat × Nat
def bodyOf (G : List Rule) (t : ByteArray) : Part := match G[idxOf (nms G) t]? with
 | some x => x.body
 | none => ⟨⟨#[]⟩, ⟨#[]⟩, []⟩
def oneO (items : List ByteArray) (w : Option ByteArray) (q : Nat) : Outc := match items[q]? with
 | some s => if testB w s = true then (some ([itemT s], q + 1), 1, q) else (none, 1, q)
 | none => (none, 1, q)
def plus1 (o : Outc) : Outc := (o.1, o.2.1 + 1, o.2.2)
def joinO (n f : Nat) (o : Outc) : Outc := (o.1, n + o.2.1, max f o.2.2)
def ruleO (t : ByteArray) (o : Outc) : Outc := (match o.1 with
 | some (ks, e) => some ([ruleT t ks], e)
 | none => none, o.2.1 + 1, o.2.2)
def optO (q : Nat) (o : Outc) : Outc := (match o.1 with
 | some x => some x
 | none => some ([], q), o.2.1 + 1, o.2.2)
def notO (q : Nat) (o : Outc) : Outc := (match o.1 with
 | some _ => none
 | none => some ([], q), o.2.1 + 1, o.2.2)
def seqK (rc : Task → Option Outc) (l acc : List Part) (o : Outc) : Option Outc := match o.1 with
 | none => some (none, o.2.1, o.2.2)
 | some (ks, e) => (rc (.seq l e (acc ++ ks))).map (joinO o.2.1 o.2.2)
def altK (rc : Task → Option Outc) (l : List Part) (q : Nat) (o : Outc) : Option Outc := match o.1 with
 | some x => some (some x, o.2.1, o.2.2)
 | none => (rc (.alt l q)).map (joinO o.2.1 o.2.2)
def manyK (rc : Task → Option Outc) (x : Part) (q : Nat) (acc : List Part) (o : Outc) : Option Outc := match o.1 with
 | none => some (some ([manyT acc], q), o.2.1, o.2.2)
 | some (ks, e) => (rc (.many x e (acc ++ ks))).map (joinO o.2.1 o.2.2)
def head1 (rc : Task → Option Outc) (f : Part → Task) (l : List Part) (g : Outc → Outc) : Option Outc := match l with
 | x :: _ => (rc (f x)).map g
 | [] => none
def stepP (G : List Rule) (items : List ByteArray) (rc : Task → Option Outc) (d t : ByteArray) (l : List Part) (q : Nat) : Option Outc :=
 if d.data.toList = [105, 115] then some (oneO items (some t) q)
 else if d.data.toList = [97, 110, 121] then some (oneO items none q)
 else if d.data.toList = [114, 117, 108, 101] then (rc (.part (bodyOf G t) q)).map (ruleO t)
 else if d.data.toList = [115, 101, 113] then (rc (.seq l q [])).map plus1
 else if d.data.toList = [111, 114] then (rc (.alt l q)).map plus1
 else if d.data.toList = [109, 97, 110, 121] then head1 rc (fun x => .many x q []) l plus1
 else if d.data.toList = [111, 112, 116] then head1 rc (fun x => .part x q) l (optO q)
 else if d.data.toList = [110, 111, 116] then head1 rc (fun x => .part x q) l (notO q)
 else some (some ([], q), 1, 0)
def stepT (G : List Rule) (items : List ByteArray) (rc : Task → Option Outc) : Task → Option Outc
 | .part ⟨d, t, l⟩ q => stepP G items rc d t l q
 | .seq [] q acc => some (some (acc, q), 0, 0)
 | .seq (x :: l) q acc => (rc (.part x q)).bind (seqK rc l acc)
 | .alt [] q => some (none, 0, 0)
 | .alt (x :: l) q => (rc (.part x q)).bind (altK rc l q)
 | .many x q acc => (rc (.part x q)).bind (manyK rc x q acc)
def run (G : List Rule) (items : List ByteArray) : Nat → Task → Option Outc
 | 0, _ => none
 | k + 1, t => stepT G items (run G items k) t
def Le (rc rc' : Task → Option Outc) : Prop := ∀ t o, rc t = some o → rc' t = some o
variable {G : List Rule} {items : List ByteArray} {rc rc' : Task → Option Outc}
theorem Le.map (h : Le rc rc') {t : Task} {f : Outc → Outc} {o : Outc} (k : (rc t).map f = some o) : (rc' t).map f = some o := by
 rw [Option.map_eq_some_iff] at k ⊢
 obtain ⟨x, h1, h2⟩ := k
 exact ⟨x, h t x h1, h2⟩
theorem Le.head1 (h : Le rc rc') {f : Part → Task} {l : List Part} {g : Outc → Outc} {o : Outc} (k : head1 rc f l g = some o) : head1 rc' f l g = some o := by
 cases l with
 | nil => cases k
 | cons x l => exact h.map k
theorem Le.bind (h : Le rc rc') {t : Task} {f f' : Outc → Option Outc} (hf : ∀ x o, f x = some o → f' x = some o) {o : Outc} (k : (rc t).bind f = some o) : (rc' t).bind f' = some o := by
 rw [Option.bind_eq_some_iff] at k ⊢
 obtain ⟨x, h1, h2⟩ := k
 exact ⟨x, h t x h1, hf x o h2⟩
theorem few_of {d t : ByteArray} {l : List Part} (hl : l.length ≤ 100000) (h : ∀ p ∈ l, Few p) : Few ⟨d, t, l⟩ := .mk _ _ _ hl (fun i p e => h p (List.mem_of_getElem? e))
end Go.Ev.G24
end
section
set_option linter.unusedSimpArgs false
set_option linter.unusedVariables false
namespace Go.Ev.G24
open Go.RowKit Go.Proofs
variable {r : Ro}
def EmptyC (r : Ro) (G : List Rule) (Gv : Option Addr) (gc eb : Nat) (em : List Bool) (p : Part) : Prop := ∀ (h : Hp) (cs : List Value), h.rom = r → h.base ≤ h.next → h.own eb 4 (em.map .bool) → RoPart r p cs → named (nms G) p →
 ∃ v h1, Snd Try.prog 84 [.agg #[.slice Gv G.length gc], .slice (some ⟨eb, 0, none⟩) G.length G.length, .agg cs.toArray] h v h1 ∧ v = .bool (mayB (emf (nms G) em) p) ∧ Ext h h1
set_option maxHeartbeats 4000000 in
set_option maxRecDepth 10000 in
theorem empty_c {G : List Rule} {Gv : Option Addr} {gc gb go eb : Nat} {gcss : Nat → List Value} (R : RoRules r G Gv gc gb go gcss) {em : List Bool} (hel : em.length = G.length) : ∀ (n : Nat) (p : Part), SizeOf.sizeOf p < n → EmptyC r G Gv gc eb em p := by
 intro n
 induction n with
 | zero => exact fun p hp => absurd hp (Nat.not_lt_zero _)
 | succ n ihn =>
 rintro ⟨d, t, l⟩ hn h cs hrom hb hE hp hnm
 have ih : ∀ (i : Nat) (p : Part), l[i]? = some p → EmptyC r G Gv gc eb em p := fun i p hp => ihn p (by
  have := List.sizeOf_lt_of_mem (List.mem_of_getElem? hp)
  simp only [Part.mk.sizeOf_spec] at hn
  omega)
 have hnk : ∀ (i : Nat) (p : Part), l[i]? = some p → named (nms G) p := namedL_get hnm.2.2
 have hGl : (nms G).length = G.length := by simp [nms]
 cases hp with
 | mk _ _ _ Av c b o css hc hlb hA hat hk hs =>
 refine snd_go wf Try.func84 rfl rfl (n := 58) rfl (by kernel_rfl) rfl ?_
 intro a hn hg
 have hr : Try.f84.results.toList = [.tmp 6] := rfl
 have g0 := hg 0
 have g1 := hg 1
 have g2 := hg 2
 clear hg
 simp only [List.getElem?_cons_zero, List.getElem?_cons_succ] at g0 g1 g2
 have hG := own_new hb 24 [.slice Gv G.length gc]
 have hxg := Ext.new h (CObj.cells { c := [.slice Gv G.length gc], e := 24, fam := 0, base := 0, grown := false })
 have hbg := Nat.le_succ_of_le (m := h.next) hb
 have hP := own_new (h := h.newH (CObj.cells { c := [.slice Gv G.length gc], e := 24, fam := 0, base := 0, grown := false })) hbg 52 [.string d, .string t, .slice Av l.length c]
 have hG1 := own_newH hG (CObj.cells { c := [.string d, .string t, .slice Av l.length c], e := 52, fam := 0, base := 0, grown := false })
 have hx0 := hxg.trans (Ext.new _ (CObj.cells { c := [.string d, .string t, .slice Av l.length c], e := 52, fam := 0, base := 0, grown := false }))
 simp -dsimp only [go_sem, g0, g1, g2, next_newH]
 simp only [next_newH] at hP
 generalize (h.newH (CObj.cells { c := [.slice Gv G.length gc], e := 24, fam := 0, base := 0, grown := false })).newH (CObj.cells { c := [.string d, .string t, .slice Av l.length c], e := 52, fam := 0, base := 0, grown := false }) = h2 at hP hG1 hx0 ⊢
 have hb2 : h2.base ≤ h2.next := by rw [hx0.base]; exact Nat.le_trans hb hx0.next
 simp -dsimp only [go_sem, load_own hP]
 by_cases c1 : d.data.toList = [105, 115]
 · simp -dsimp only [go_sem, decide_eq_true c1, hr]
   exact ⟨by unfold mayB; rw [if_pos c1], hx0⟩
 by_cases c2 : d.data.toList = [97, 110, 121]
 · simp -dsimp only [go_sem, decide_eq_false c1, decide_eq_true c2, hr]
   exact ⟨by unfold mayB; rw [if_neg c1, if_pos c2], hx0⟩
 by_cases c3 : d.data.toList = [114, 117, 108, 101]
 · have hidx : idxOf (nms G) t < (nms G).length := hnm.1 c3
   have hidx2 : idxOf (nms G) t < em.length := by omega
   have hem : (em.map Value.bool)[idxOf (nms G) t]? = some (.bool (emf (nms G) em t)) := by
    simp only [List.getElem?_map, emf, List.getD_eq_getElem?_getD, List.getElem?_eq_getElem hidx2, Option.map_some, Option.getD_some]
   simp -dsimp only [go_sem, g1, decide_eq_false c1, decide_eq_false c2, decide_eq_true c3, loads_own hG1, load_own hP, hr]
   obtain ⟨_, h5, hs5, rfl, hx5⟩ := find_c R t h2 (hx0.rom.trans hrom) hb2
   refine ⟨_, h5, hs5, ?_⟩
   have hE5 := own_ext (hx0.trans hx5) hE
   have hfi : findB t (nms G) 0 = ((idxOf (nms G) t : Nat) : Int) := by rw [findB_idx, if_pos hidx, Nat.zero_add]
   rw [hGl] at hidx
   simp -dsimp only [go_sem, g1, hfi, ia105 hidx, load_own hE5, hem, hr]
   exact ⟨by unfold mayB; rw [if_neg c1, if_neg c2, if_pos c3], hx0.trans hx5⟩
 by_cases c4 : d.data.toList = [115, 101, 113]
 · have e : mayB (emf (nms G) em) ⟨d, t, l⟩ = mayAll (emf (nms G) em) l := by unfold mayB; rw [if_neg c1, if_neg c2, if_neg c3, if_pos c4]
   simp -dsimp only [go_sem, decide_eq_false c1, decide_eq_false c2, decide_eq_false c3, decide_eq_true c4, hr]
   refine loop_go (n := 58) (by kernel_rfl) (fun m' a' h' => ∃ i : Nat, i ≤ l.length ∧ m' = l.length - i ∧ Ext h2 h' ∧ a'.get 1 = .slice (some ⟨eb, 0, none⟩) G.length G.length ∧ a'.get 3 = .pointer (some ⟨h.next, 0, none⟩) ∧ a'.get 5 = .pointer (some ⟨h.next + 1, 0, none⟩) ∧ a'.get 7 = .int .i64 i ∧ ∀ (j : Nat) (p : Part), j < i → l[j]? = some p → mayB (emf (nms G) em) p = true) ?_ l.length _ _ (by simp -dsimp only [go_sem, hn]) ⟨0, Nat.zero_le _, rfl, Ext.refl _, by simp -dsimp only [go_sem, g1], by simp -dsimp only [go_sem], by simp -dsimp only [go_sem], by simp -dsimp only [go_sem]; rfl, fun j p hj => absurd hj (Nat.not_lt_zero _)⟩
   rintro m' a' h' hn' ⟨i, hi, rfl, hx, e1, e3, e5, e7, hall⟩
   have hrom' : h'.rom = r := (hx0.trans hx).rom.trans hrom
   have hb' : h'.base ≤ h'.next := by rw [hx.base]; exact Nat.le_trans hb2 hx.next
   have hP' := own_ext hx hP
   have hG' := own_ext hx hG1
   by_cases hlt : i < l.length
   · have hpi : l[i]? = some l[i] := List.getElem?_eq_getElem hlt
     have hi1 : decide ((i : Int) < (l.length : Int)) = true := decide_eq_true (Int.ofNat_lt.2 hlt)
     obtain ⟨Av1, c1', hcs⟩ := (hk i _ hpi).shape
     have hat' := hat i _ hpi
     have hkid := hk i _ hpi
     rw [hcs] at hat' hkid
     have hAv := hA (ne_nil hlt)
     subst hAv
     obtain ⟨_, h4, hs4, rfl, hx4⟩ := ih i _ hpi h' _ hrom' hb' (own_ext (hx0.trans hx) hE) hkid (hnk i _ hpi)
     simp -dsimp only [go_sem, e1, e3, e5, e7, hi1, load_own hP']
     refine Dw_text (n := 58) [[], [], [], [2], [], [2, 3, 4], [2, 3, 4, 5], [0, 1, 2, 3, 4, 5, 6], [0, 1, 2, 3, 4, 5, 6, 7]] (by simp -dsimp only [go_sem, hn']) (by kernel_rfl) ?_
     simp -dsimp only [go_sem, e1, e3, e5, e7, loads_own hG', load_own hP', ia50 hlt, loads_ro (n := 3) hrom' hat' rfl, sameN_sliceA R.hs, sameN_sliceA hkid.same]
     refine ⟨_, h4, hs4, ?_⟩
     simp -dsimp only [go_sem]
     cases hsm : mayB (emf (nms G) em) l[i] with
     | false =>
       simp -dsimp only [go_sem, hr]
       refine ⟨?_, hx0.trans (hx.trans hx4)⟩
       rw [e]
       cases hq : mayAll (emf (nms G) em) l with
       | false => rfl
       | true => rw [(mayAll_iff _ l).1 hq i _ hpi] at hsm; cases hsm
     | true =>
       simp -dsimp only [go_sem, e1, e3, e5, e7, wrap64_succ hlt hlb]
       refine ⟨l.length - (i + 1), by omega, i + 1, hlt, rfl, hx.trans hx4, rfl, fun j p hj hp => ?_⟩
       rcases Nat.lt_succ_iff_lt_or_eq.1 hj with h | h
       · exact hall j p h hp
       · subst h; rw [hpi] at hp; injection hp with hp; subst hp; exact hsm
   · have hi0 : decide ((i : Int) < (l.length : Int)) = false := decide_eq_false (by omega)
     have hall' : mayAll (emf (nms G) em) l = true := (mayAll_iff _ l).2 fun j p hp => hall j p (by have := (List.getElem?_eq_some_iff.1 hp).1; omega) hp
     simp -dsimp only [go_sem, e5, e7, hi0, load_own hP', hr]
     exact ⟨by rw [e, hall'], hx0.trans hx⟩
 by_cases c5 : d.data.toList = [111, 114]
 · have e : mayB (emf (nms G) em) ⟨d, t, l⟩ = mayAny (emf (nms G) em) l := by unfold mayB; rw [if_neg c1, if_neg c2, if_neg c3, if_neg c4, if_pos c5]
   simp -dsimp only [go_sem, decide_eq_false c1, decide_eq_false c2, decide_eq_false c3, decide_eq_false c4, decide_eq_true c5, hr]
   refine loop_go (n := 58) (by kernel_rfl) (fun m' a' h' => ∃ i : Nat, i ≤ l.length ∧ m' = l.length - i ∧ Ext h2 h' ∧ a'.get 1 = .slice (some ⟨eb, 0, none⟩) G.length G.length ∧ a'.get 3 = .pointer (some ⟨h.next, 0, none⟩) ∧ a'.get 5 = .pointer (some ⟨h.next + 1, 0, none⟩) ∧ a'.get 8 = .int .i64 i ∧ ∀ (j : Nat) (p : Part), j < i → l[j]? = some p → mayB (emf (nms G) em) p = false) ?_ l.length _ _ (by simp -dsimp only [go_sem, hn]) ⟨0, Nat.zero_le _, rfl, Ext.refl _, by simp -dsimp only [go_sem, g1], by simp -dsimp only [go_sem], by simp -dsimp only [go_sem], by simp -dsimp only [go_sem]; rfl, fun j p hj => absurd hj (Nat.not_lt_zero _)⟩
   rintro m' a' h' hn' ⟨i, hi, rfl, hx, e1, e3, e5, e7, hall⟩
   have hrom' : h'.rom = r := (hx0.trans hx).rom.trans hrom
   have hb' : h'.base ≤ h'.next := by rw [hx.base]; exact Nat.le_trans hb2 hx.next
   have hP' := own_ext hx hP
   have hG' := own_ext hx hG1
   by_cases hlt : i < l.length
   · have hpi : l[i]? = some l[i] := List.getElem?_eq_getElem hlt
     have hi1 : decide ((i : Int) < (l.length : Int)) = true := decide_eq_true (Int.ofNat_lt.2 hlt)
     obtain ⟨Av1, c1', hcs⟩ := (hk i _ hpi).shape
     have hat' := hat i _ hpi
     have hkid := hk i _ hpi
     rw [hcs] at hat' hkid
     have hAv := hA (ne_nil hlt)
     subst hAv
     obtain ⟨_, h4, hs4, rfl, hx4⟩ := ih i _ hpi h' _ hrom' hb' (own_ext (hx0.trans hx) hE) hkid (hnk i _ hpi)
     simp -dsimp only [go_sem, e1, e3, e5, e7, hi1, load_own hP']
     refine Dw_text (n := 58) [[], [], [], [2], [], [2, 3, 4], [2, 3, 4, 5], [0, 1, 2, 3, 4, 5, 6]] (by simp -dsimp only [go_sem, hn']) (by kernel_rfl) ?_
     simp -dsimp only [go_sem, e1, e3, e5, e7, loads_own hG', load_own hP', ia50 hlt, loads_ro (n := 3) hrom' hat' rfl, sameN_sliceA R.hs, sameN_sliceA hkid.same]
     refine ⟨_, h4, hs4, ?_⟩
     simp -dsimp only [go_sem]
     cases hsm : mayB (emf (nms G) em) l[i] with
     | true =>
       simp -dsimp only [go_sem, hr]
       refine ⟨?_, hx0.trans (hx.trans hx4)⟩
       rw [e]
       cases hq : mayAny (emf (nms G) em) l with
       | true => rfl
       | false => rw [(mayAny_iff _ l).1 hq i _ hpi] at hsm; cases hsm
     | false =>
       simp -dsimp only [go_sem, e1, e3, e5, e7, wrap64_succ hlt hlb]
       refine ⟨l.length - (i + 1), by omega, i + 1, hlt, rfl, hx.trans hx4, rfl, fun j p hj hp => ?_⟩
       rcases Nat.lt_succ_iff_lt_or_eq.1 hj with h | h
       · exact hall j p h hp
       · subst h; rw [hpi] at hp; injection hp with hp; subst hp; exact hsm
   · have hi0 : decide ((i : Int) < (l.length : Int)) = false := decide_eq_false (by omega)
     have hall' : mayAny (emf (nms G) em) l = false := (mayAny_iff _ l).2 fun j p hp => hall j p (by have := (List.getElem?_eq_some_iff.1 hp).1; omega) hp
     simp -dsimp only [go_sem, e5, e7, hi0, load_own hP', hr]
     exact ⟨by rw [e, hall'], hx0.trans hx⟩
 simp -dsimp only [go_sem, decide_eq_false c1, decide_eq_false c2, decide_eq_false c3, decide_eq_false c4, decide_eq_false c5, hr]
 exact ⟨by unfold mayB; rw [if_neg c1, if_neg c2, if_neg c3, if_neg c4, if_neg c5], hx0⟩
end Go.Ev.G24
end
section
set_option linter.unusedSimpArgs false
set_option linter.unusedVariables false
namespace Go.Ev.G24
open Go.RowKit Go.Proofs
variable {r : Ro}
set_option maxHeartbeats 4000000 in
set_option maxRecDepth 10000 in
theorem empties_pass {l : List Rule} {Av : Option Addr} {c b o gp eb : Nat} {css : Nat → List Value} (R : RoRules r l Av c b o css) (hnm : ∀ (i : Nat) (x : Rule), l[i]? = some x → named (nms l) x.body)
  {a : Ev.A} {h : Hp} {em : List Bool} {Q : Ex → Ev.A → Hp → Prop} (hn : a.n = 37) (hrom : h.rom = r) (hb : h.base ≤ h.next) (hP : h.own gp 24 [.slice Av l.length c]) (hE : h.own eb 4 (em.map .bool)) (hel : em.length = l.length)
  (g1 : a.get 1 = .pointer (some ⟨gp, 0, none⟩)) (g3 : a.get 3 = .slice (some ⟨eb, 0, none⟩) l.length l.length) (g4 : a.get 4 = .bool false) (g5 : a.get 5 = .int .i64 0)
  (hq : ∀ a1 h1 em1 ag, a1.n = 37 → ExtS (Only eb) h h1 → h1.own eb 4 (em1.map .bool) → em1.length = l.length → passB (nms l) (l.map (·.body)) 0 em = em1 → a1.get 1 = .pointer (some ⟨gp, 0, none⟩) → a1.get 3 = .slice (some ⟨eb, 0, none⟩) l.length l.length → a1.get 4 = .bool ag → (if ag = true then cf em1 < cf em else em1 = em) → Q (.exit 2) a1 h1) :
  Th Try.prog (bodyAt Try.f58 [1, 1, 0, 1, 0, 0, 1, 0, 1, 1, 0]) a h Q ⟨⟩ ⟨⟩ := by
 simp only [bodyAt, nav, Try.f58]
 have hne : gp ≠ eb := by
  intro e; have := hP.2.2; rw [e, hE.2.2] at this; simp at this
 refine loop_go (n := 37) (by kernel_rfl) (fun m' a' h' => ∃ (i : Nat) (em' : List Bool) (ag : Bool), i ≤ l.length ∧ m' = l.length - i ∧ ExtS (Only eb) h h' ∧ h'.own eb 4 (em'.map .bool) ∧ em'.length = l.length ∧ passB (nms l) ((l.drop i).map (·.body)) i em' = passB (nms l) (l.map (·.body)) 0 em ∧ (if ag = true then cf em' < cf em else em' = em) ∧
  a'.get 1 = .pointer (some ⟨gp, 0, none⟩) ∧ a'.get 3 = .slice (some ⟨eb, 0, none⟩) l.length l.length ∧ a'.get 4 = .bool ag ∧ a'.get 5 = .int .i64 i) ?_ l.length _ _ hn ⟨0, em, false, Nat.zero_le _, rfl, (Ext.refl _).toS, hE, hel, by rw [List.drop_zero], rfl, g1, g3, g4, g5⟩
 rintro m' a' h' hn' ⟨i, em', ag, hi, rfl, hx, hE', hel', hps, hag, e1, e3, e4, e5⟩
 have hrom' : h'.rom = r := ext_rom hx hrom
 have hb' : h'.base ≤ h'.next := ext_bn hx hb
 have hP' := own_extS hx hP hne
 by_cases hlt : i < l.length
 · have hpi : l[i]? = some l[i] := List.getElem?_eq_getElem hlt
   have hi1 : decide ((i : Int) < (l.length : Int)) = true := decide_eq_true (Int.ofNat_lt.2 hlt)
   obtain ⟨Av1, c1', hcs⟩ := (R.hk i _ hpi).shape
   have hat' := R.hat i _ hpi
   have hkid := R.hk i _ hpi
   rw [hcs] at hat' hkid
   have hat2 := roAt_tail hat'
   have hAv := R.hA (ne_nil hlt)
   subst hAv
   have hil : i < em'.length := by rw [hel']; exact hlt
   have hdr : (l.drop i).map (·.body) = l[i].body :: (l.drop (i + 1)).map (·.body) := by
    rw [List.drop_eq_getElem_cons hlt, List.map_cons]
   rw [hdr, passB] at hps
   have hget : em'.getD i false = em'[i] := by simp [List.getD, List.getElem?_eq_getElem hil]
   have hmi : (em'.map Value.bool)[i]? = some (.bool em'[i]) := by simp [List.getElem?_eq_getElem hil]
   rw [hget] at hps
   simp -dsimp only [go_sem, e1, e3, e4, e5, hi1]
   refine Dw_text (n := 37) [[], [], [0, 1], [0, 1, 2], [0, 1, 2, 3], [0, 1, 2, 3, 4], [0, 1, 2, 3, 4, 5], [0, 1, 2, 3, 4, 5], [0, 1, 2, 3, 4, 5], [0, 1, 2, 3, 4, 5, 8], [0, 1, 2, 3, 4, 5], [0, 1, 2, 3, 4, 5, 8, 9, 10], [0, 1, 2, 3, 4, 5, 8, 9, 10, 11], [0, 1, 2, 3, 4, 5, 8, 9, 10, 11, 12], [0, 1, 2, 3, 4, 5, 6, 7, 8, 9, 10, 11, 12, 13], [0, 1, 2, 3, 4, 5, 6, 7, 8, 9, 10, 11, 12, 13, 14]] (by simp -dsimp only [go_sem, hn']) (by kernel_rfl) ?_
   cases hei : em'[i] with
   | true =>
     rw [hei] at hmi hps
     simp -dsimp only [go_sem, undef', e1, e3, e4, e5, load_own hE', ia105 hlt, hmi, wrap64_succ hlt (Nat.le_trans R.hb (by decide))]
     rw [if_neg (by simp)] at hps
     exact ⟨l.length - (i + 1), by omega, i + 1, em', ag, hlt, rfl, hx, hE', hel', hps, hag, rfl, rfl⟩
   | false =>
     rw [hei] at hmi hps
     obtain ⟨_, h4, hs4, rfl, hx4⟩ := empty_c R (em := em') (eb := eb) hel' _ l[i].body (Nat.lt_succ_self _) h' _ hrom' hb' hE' hkid (hnm i _ hpi)
     simp -dsimp only [go_sem, undef', e1, e3, e4, e5, load_own hE', load_own hP', loads_own hP', ia105 hlt, ia22 hlt, hmi, loads_ro (n := 3) hrom' hat2 rfl, sameN_sliceA R.hs, sameN_sliceA hkid.same]
     refine ⟨_, h4, hs4, ?_⟩
     have hE4 := own_ext hx4 hE'
     have hx5 : ExtS (Only eb) h h4 := hx.trans hx4.toS
     simp -dsimp only [go_sem, undef']
     cases hm : mayB (emf (nms l) em') l[i].body with
     | true =>
       have hsto := stores_own hE4 (o := i) (vs := [.bool true]) rfl (bool_store hil) (by simp)
       simp -dsimp only [go_sem, e1, e3, e4, e5, ia105 hlt, hsto, wrap64_succ hlt (Nat.le_trans R.hb (by decide))]
       rw [hm, if_pos (by simp)] at hps
       refine ⟨l.length - (i + 1), by omega, i + 1, _, true, hlt, rfl, hx5.put (.inr rfl) _, own_put_same hE4 _, by simp [hel'], hps, ?_, rfl, rfl⟩
       rw [if_pos rfl]
       have h1 : cf (em'.set i true) < cf em' := cf_set (by rw [List.getElem?_eq_getElem hil, hei])
       cases ag with
       | true => exact Nat.lt_trans h1 hag
       | false => simp at hag; rw [hag] at h1; rw [hag]; exact h1
     | false =>
       simp -dsimp only [go_sem, e1, e3, e4, e5, wrap64_succ hlt (Nat.le_trans R.hb (by decide))]
       rw [hm, if_neg (by simp)] at hps
       exact ⟨l.length - (i + 1), by omega, i + 1, em', ag, hlt, rfl, hx5, hE4, hel', hps, hag, rfl, rfl⟩
 · have hi0 : decide ((i : Int) < (l.length : Int)) = false := decide_eq_false (by omega)
   simp -dsimp only [go_sem, e3, e5, hi0]
   refine hq _ _ em' ag ?_ hx hE' hel' ?_ ?_ ?_ ?_ hag
   · simp -dsimp only [go_sem, hn']
   · rw [← hps, List.drop_eq_nil_of_le (by omega)]; rfl
   · simp -dsimp only [go_sem, e1]
   · simp -dsimp only [go_sem, e3]
   · simp -dsimp only [go_sem, e4]
set_option maxHeartbeats 4000000 in
set_option maxRecDepth 10000 in
theorem empties_c {l : List Rule} {Av : Option Addr} {c b o : Nat} {css : Nat → List Value} (R : RoRules r l Av c b o css) (hnm : ∀ (i : Nat) (x : Rule), l[i]? = some x → named (nms l) x.body) (h : Hp) (hrom : h.rom = r) (hb : h.base ≤ h.next) :
  ∃ v h1, Snd Try.prog 58 [.agg #[.slice Av l.length c]] h v h1 ∧ Ext h h1 ∧ ∃ eb em, v = .slice (some ⟨eb, 0, none⟩) l.length l.length ∧ h.next ≤ eb ∧ h1.own eb 4 (em.map .bool) ∧ em.length = l.length ∧ Found l em := by
 refine snd_go wf Try.func58 rfl rfl (n := 37) rfl (by kernel_rfl) rfl ?_
 intro a hn hg
 have hr : Try.f58.results.toList = [.tmp 2] := rfl
 have g0 := hg 0
 clear hg
 simp only [List.getElem?_cons_zero, List.getElem?_cons_succ] at g0
 have hP := own_new hb 24 [.slice Av l.length c]
 have hx0 := Ext.new h (CObj.cells { c := [.slice Av l.length c], e := 24, fam := 0, base := 0, grown := false })
 have hb1 := Nat.le_succ_of_le (m := h.next) hb
 have hE := own_new (h := h.newH (CObj.cells { c := [.slice Av l.length c], e := 24, fam := 0, base := 0, grown := false })) hb1 4 (repeatN [.bool false] l.length)
 have hP1 := own_newH hP (CObj.cells { c := repeatN [.bool false] l.length, e := 4, fam := 0, base := 0, grown := false })
 have hx1 := hx0.trans (Ext.new _ (CObj.cells { c := repeatN [.bool false] l.length, e := 4, fam := 0, base := 0, grown := false }))
 simp -dsimp only [go_sem, g0, next_newH, load_own hP, ms105 l.length l.length (Nat.le_refl _) R.hb]
 simp only [next_newH] at hE hx1
 rw [repeat_bool] at hE hx1 hP1 ⊢
 generalize (h.newH (CObj.cells { c := [.slice Av l.length c], e := 24, fam := 0, base := 0, grown := false })).newH (CObj.cells { c := (List.replicate l.length false).map Value.bool, e := 4, fam := 0, base := 0, grown := false }) = h2 at hE hx1 hP1 ⊢
 refine loop_go (n := 37) (by kernel_rfl) (fun m' a' h' => ∃ (em : List Bool) (ag : Bool), m' = 2 * cf em + (if ag = true then 1 else 0) ∧ em.length = l.length ∧ (∃ k, em = iter (passB (nms l) (l.map (·.body)) 0) k (List.replicate l.length false)) ∧ (ag = false → passB (nms l) (l.map (·.body)) 0 em = em) ∧ Ext h h' ∧ h'.own (h.next + 1) 4 (em.map .bool) ∧ h'.own h.next 24 [.slice Av l.length c] ∧
  a'.get 1 = .pointer (some ⟨h.next, 0, none⟩) ∧ a'.get 3 = .slice (some ⟨h.next + 1, 0, none⟩) l.length l.length ∧ a'.get 4 = .bool ag) ?_ (2 * cf (List.replicate l.length false) + 1) _ _ (by simp -dsimp only [go_sem, hn]) ⟨_, true, rfl, by simp, ⟨0, rfl⟩, fun e => (by cases e), hx1, hE, hP1, by simp -dsimp only [go_sem], by simp -dsimp only [go_sem], by simp -dsimp only [go_sem]⟩
 rintro m' a' h' hn' ⟨em, ag, rfl, hel, ⟨k, hk⟩, hfix, hx, hE', hP', e1, e3, e4⟩
 have hrom' : h'.rom = r := hx.rom.trans hrom
 have hb' : h'.base ≤ h'.next := by rw [hx.base]; exact Nat.le_trans hb hx.next
 cases ag with
 | false =>
   simp -dsimp only [go_sem, e3, e4, hr]
   exact ⟨hx, h.next + 1, em, rfl, by omega, hE', hel, ⟨k, hk⟩, hfix rfl⟩
 | true =>
   simp -dsimp only [go_sem, e1, e3, e4]
   refine empties_pass R hnm (em := em) (eb := h.next + 1) (gp := h.next) (by simp -dsimp only [go_sem, hn']) hrom' hb' hP' hE' hel (by simp -dsimp only [go_sem, e1]) (by simp -dsimp only [go_sem, e3]) (by simp -dsimp only [go_sem]) (by simp -dsimp only [go_sem]) (fun a1 h1 em1 ag hn1 hx1 hE1 hel1 hp f1 f3 f4 hag => ?_)
   have hxx : Ext h h1 := (hx.toS.trans hx1).ext (fun b hb hs => by
    have : b = h.next + 1 := hs
    omega)
   simp -dsimp only [go_sem]
   refine ⟨2 * cf em1 + (if ag = true then 1 else 0), ?_, em1, ag, rfl, hel1, ⟨k + 1, by rw [iter, ← hk]; exact hp.symm⟩, ?_, hxx, hE1, own_extS hx1 hP' (by show h.next ≠ h.next + 1; omega), f1, f3, f4⟩
   · cases ag with
     | true => simp at hag ⊢; omega
     | false => simp at hag ⊢; rw [hag]; omega
   · intro e
     subst e
     simp at hag
     rw [hag] at hp ⊢
     exact hp
end Go.Ev.G24
end
section
set_option linter.unusedSimpArgs false
set_option linter.unusedVariables false
namespace Go.Ev.G24
open Go.RowKit Go.Proofs
variable {r : Ro}
theorem kind_leaf {nm : List ByteArray} {d t : ByteArray} {n : Nat} (h : kindOk nm d t n = true) (h1 : ¬ d.data.toList = [115, 101, 113]) (h2 : ¬ d.data.toList = [111, 114]) (h3 : ¬ d.data.toList = [109, 97, 110, 121]) (h4 : ¬ d.data.toList = [111, 112, 116]) (h5 : ¬ d.data.toList = [110, 111, 116]) : n = 0 := by
 unfold kindOk at h
 by_cases c1 : d.data.toList = [105, 115]
 · rw [if_pos c1, Bool.and_eq_true] at h; exact of_decide_eq_true h.1
 rw [if_neg c1] at h
 by_cases c2 : d.data.toList = [114, 117, 108, 101]
 · rw [if_pos c2, Bool.and_eq_true] at h; exact of_decide_eq_true h.1
 rw [if_neg c2] at h
 split at h
 · cases h
 split at h
 · exact of_decide_eq_true h
 rw [if_neg (by rintro (c | c); exact h1 c; exact h2 c), if_neg (by rintro (c | c | c); exact h3 c; exact h4 c; exact h5 c)] at h
 cases h
theorem kind_rule0 {nm : List ByteArray} {d t : ByteArray} {n : Nat} (h : kindOk nm d t n = true) (hd : d.data.toList = [114, 117, 108, 101]) : n = 0 :=
 kind_leaf h (by rw [hd]; decide) (by rw [hd]; decide) (by rw [hd]; decide) (by rw [hd]; decide) (by rw [hd]; decide)
theorem rightL_get {nm : List ByteArray} : ∀ {l : List Part}, rightL nm l = true → ∀ (i : Nat) (p : Part), l[i]? = some p → rightP nm p = true
 | y :: l, h, i, x, hx => by
   rw [rightL, Bool.and_eq_true] at h
   cases i with
   | zero => simp at hx; subst hx; exact h.1
   | succ i => exact rightL_get h.2 i x (by simpa using hx)
def LeftC (r : Ro) (G : List Rule) (Gv : Option Addr) (gc eb tb : Nat) (em : List Bool) (p : Part) : Prop := ∀ (h : Hp) (cs : List Value) (bs : List Bool), h.rom = r → h.base ≤ h.next → h.own eb 4 (em.map .bool) → RoPart r p cs → rightP (nms G) p = true →
 h.own tb 4 (bs.map .bool) → bs.length = G.length →
 ∃ v h1, Snd Try.prog 59 [.agg #[.slice Gv G.length gc], .slice (some ⟨eb, 0, none⟩) G.length G.length, .agg cs.toArray, .slice (some ⟨tb, 0, none⟩) G.length G.length] h v h1 ∧ v = .tuple #[] ∧ ExtS (Only tb) h h1 ∧ h1.own tb 4 ((startB (emf (nms G) em) (idxOf (nms G)) p bs).map .bool)
set_option maxHeartbeats 8000000 in
set_option maxRecDepth 10000 in
theorem left_c {G : List Rule} {Gv : Option Addr} {gc gb go eb tb : Nat} {gcss : Nat → List Value} (R : RoRules r G Gv gc gb go gcss) {em : List Bool} (hel : em.length = G.length) (het : eb ≠ tb) : ∀ (n : Nat) (p : Part), SizeOf.sizeOf p < n → LeftC r G Gv gc eb tb em p := by
 intro n
 induction n with
 | zero => exact fun p hp => absurd hp (Nat.not_lt_zero _)
 | succ n ihn =>
 rintro ⟨d, t, l⟩ hn h cs bs hrom hb hE hp hrp hT hbl
 have ih : ∀ (i : Nat) (p : Part), l[i]? = some p → LeftC r G Gv gc eb tb em p := fun i p hp => ihn p (by
  have := List.sizeOf_lt_of_mem (List.mem_of_getElem? hp)
  simp only [Part.mk.sizeOf_spec] at hn
  omega)
 have hrp0 := hrp
 rw [rightP, Bool.and_eq_true] at hrp
 obtain ⟨hrl, hko⟩ := hrp
 have hnk : ∀ (i : Nat) (p : Part), l[i]? = some p → rightP (nms G) p = true := rightL_get hrl
 have hGl : (nms G).length = G.length := by simp [nms]
 cases hp with
 | mk _ _ _ Av c b o css hc hlb hA hat hk hs =>
 refine snd_go wf Try.func59 rfl rfl (n := 68) rfl (by kernel_rfl) rfl ?_
 intro a hn hg
 have hr : Try.f59.results.toList = [] := rfl
 have g0 := hg 0
 have g1 := hg 1
 have g2 := hg 2
 have g3 := hg 3
 clear hg
 simp only [List.getElem?_cons_zero, List.getElem?_cons_succ] at g0 g1 g2 g3
 have hG := own_new hb 24 [.slice Gv G.length gc]
 have hxg := Ext.new h (CObj.cells { c := [.slice Gv G.length gc], e := 24, fam := 0, base := 0, grown := false })
 have hbg := Nat.le_succ_of_le (m := h.next) hb
 have hP := own_new (h := h.newH (CObj.cells { c := [.slice Gv G.length gc], e := 24, fam := 0, base := 0, grown := false })) hbg 52 [.string d, .string t, .slice Av l.length c]
 have hG1 := own_newH hG (CObj.cells { c := [.string d, .string t, .slice Av l.length c], e := 52, fam := 0, base := 0, grown := false })
 have hx0 := hxg.trans (Ext.new _ (CObj.cells { c := [.string d, .string t, .slice Av l.length c], e := 52, fam := 0, base := 0, grown := false }))
 simp -dsimp only [go_sem, g0, g1, g2, g3, next_newH]
 simp only [next_newH] at hP
 generalize (h.newH (CObj.cells { c := [.slice Gv G.length gc], e := 24, fam := 0, base := 0, grown := false })).newH (CObj.cells { c := [.string d, .string t, .slice Av l.length c], e := 52, fam := 0, base := 0, grown := false }) = h2 at hP hG1 hx0 ⊢
 have hb2 : h2.base ≤ h2.next := by rw [hx0.base]; exact Nat.le_trans hb hx0.next
 have hT2 := own_ext hx0 hT
 have hE2 := own_ext hx0 hE
 have htn : tb < h.next := hT.2.1
 have hpt : h.next ≠ tb := Nat.ne_of_gt htn
 have hpt1 : h.next + 1 ≠ tb := by omega
 simp -dsimp only [go_sem, load_own hP]
 have estart : ∀ sq : Bool, l = [] → startL (emf (nms G) em) (idxOf (nms G)) sq l bs = bs := by
  intro sq e; subst e; rw [startL]
 by_cases c1 : d.data.toList = [114, 117, 108, 101]
 · have hidx : idxOf (nms G) t < (nms G).length := kind_rule hko c1
   have hl0 : l = [] := List.length_eq_zero_iff.1 (kind_rule0 hko c1)
   obtain ⟨_, h5, hs5, rfl, hx5⟩ := find_c R t h2 (hx0.rom.trans hrom) hb2
   have hfi : findB t (nms G) 0 = ((idxOf (nms G) t : Nat) : Int) := by rw [findB_idx, if_pos hidx, Nat.zero_add]
   rw [hGl] at hidx
   have hsto := stores_own (own_ext hx5 hT2) (o := idxOf (nms G) t) (vs := [.bool true]) rfl (bool_store (by rw [hbl]; exact hidx)) (by simp)
   simp -dsimp only [go_sem, g3, decide_eq_true c1, load_own hP, loads_own hG1, hr]
   refine ⟨_, h5, hs5, ?_⟩
   simp -dsimp only [go_sem, g3, hfi, ia105 hidx, hsto, hr]
   refine ⟨((hx0.trans hx5).toS (S := Only tb)).put (.inr rfl) _, ?_⟩
   have e : startB (emf (nms G) em) (idxOf (nms G)) ⟨d, t, l⟩ bs = bs.set (idxOf (nms G) t) true := by
    unfold startB
    rw [if_pos c1]
    subst hl0
    rw [startL]
   rw [e]
   exact own_put_same (own_ext hx5 hT2) _
 have estart2 : ∀ sq : Bool, decide (d.data.toList = [115, 101, 113]) = sq → startB (emf (nms G) em) (idxOf (nms G)) ⟨d, t, l⟩ bs = startL (emf (nms G) em) (idxOf (nms G)) sq l bs := by
  intro sq e; unfold startB; rw [if_neg c1, e]
 by_cases c2 : d.data.toList = [115, 101, 113]
 · simp -dsimp only [go_sem, decide_eq_false c1, decide_eq_true c2, hr]
   refine loop_go (n := 68) (by kernel_rfl) (fun m' a' h' => ∃ (i : Nat) (bs' : List Bool), i ≤ l.length ∧ m' = l.length - i ∧ ExtS (Only tb) h2 h' ∧ h'.own tb 4 (bs'.map .bool) ∧ bs'.length = G.length ∧ startL (emf (nms G) em) (idxOf (nms G)) true (l.drop i) bs' = startL (emf (nms G) em) (idxOf (nms G)) true l bs ∧
    a'.get 1 = .slice (some ⟨eb, 0, none⟩) G.length G.length ∧ a'.get 3 = .slice (some ⟨tb, 0, none⟩) G.length G.length ∧ a'.get 4 = .pointer (some ⟨h.next, 0, none⟩) ∧ a'.get 6 = .pointer (some ⟨h.next + 1, 0, none⟩) ∧ a'.get 8 = .int .i64 i) ?_ l.length _ _ (by simp -dsimp only [go_sem, hn]) ⟨0, bs, Nat.zero_le _, rfl, (Ext.refl _).toS, hT2, hbl, by rw [List.drop_zero], by simp -dsimp only [go_sem, g1], by simp -dsimp only [go_sem, g3], by simp -dsimp only [go_sem], by simp -dsimp only [go_sem], by simp -dsimp only [go_sem]; rfl⟩
   rintro m' a' h' hn' ⟨i, bs', hi, rfl, hx, hT', hbl', hst, e1, e3, e4, e6, e8⟩
   have hrom' : h'.rom = r := ext_rom hx (hx0.rom.trans hrom)
   have hb' : h'.base ≤ h'.next := ext_bn hx hb2
   have hP' := own_extS hx hP hpt1
   have hG' := own_extS hx hG1 hpt
   have hE' := own_extS hx hE2 het
   by_cases hlt : i < l.length
   · have hpi : l[i]? = some l[i] := List.getElem?_eq_getElem hlt
     have hi1 : decide ((i : Int) < (l.length : Int)) = true := decide_eq_true (Int.ofNat_lt.2 hlt)
     obtain ⟨Av1, c1', hcs⟩ := (hk i _ hpi).shape
     have hat' := hat i _ hpi
     have hkid := hk i _ hpi
     rw [hcs] at hat' hkid
     have hAv := hA (ne_nil hlt)
     subst hAv
     obtain ⟨_, h4, hs4, rfl, hx4, hT4⟩ := ih i _ hpi h' _ bs' hrom' hb' hE' hkid (hnk i _ hpi) hT' hbl'
     simp -dsimp only [go_sem, e1, e3, e4, e6, e8, hi1, load_own hP']
     refine Dw_text (n := 68) [[], [], [], [2], [], [2, 3, 4], [2, 3, 4, 5], [], [0, 1, 2, 3, 4, 5, 6, 7]] (by simp -dsimp only [go_sem, hn']) (by kernel_rfl) ?_
     simp -dsimp only [go_sem, e1, e3, e4, e6, e8, loads_own hG', load_own hP', loads_own hP', ia50 hlt, loads_ro (n := 3) hrom' hat' rfl, sameN_sliceA R.hs, sameN_sliceA hkid.same]
     refine ⟨_, h4, hs4, ?_⟩
     rw [List.drop_eq_getElem_cons hlt, startL] at hst
     have hx5 : ExtS (Only tb) h2 h4 := hx.trans hx4
     have hP4 := own_extS hx4 hP' hpt1
     have hG4 := own_extS hx4 hG' hpt
     have hE4 := own_extS hx4 hE' het
     have hrom4 : h4.rom = r := ext_rom hx4 hrom'
     have hb4 : h4.base ≤ h4.next := ext_bn hx4 hb'
     obtain ⟨_, h6, hs6, rfl, hx6⟩ := empty_c R (em := em) (eb := eb) hel _ l[i] (Nat.lt_succ_self _) h4 _ hrom4 hb4 hE4 hkid (right_named _ (hnk i _ hpi))
     try simp -dsimp only [go_sem, e1, e3, e4, e6, e8]
     refine Dw_text (n := 68) [[], [], [], [2], [], [2, 3, 4], [2, 3, 4, 5], [0, 1, 2, 3, 4, 5, 6], [0, 1, 2, 3, 4, 5, 6, 7]] (by simp -dsimp only [go_sem, hn']) (by kernel_rfl) ?_
     simp -dsimp only [go_sem, e1, e3, e4, e6, e8, loads_own hG4, load_own hP4, loads_own hP4, ia50 hlt, loads_ro (n := 3) hrom4 hat' rfl, sameN_sliceA R.hs, sameN_sliceA hkid.same]
     refine ⟨_, h6, hs6, ?_⟩
     simp -dsimp only [go_sem]
     have hx7 : ExtS (Only tb) h2 h6 := hx5.trans hx6.toS
     cases hm : mayB (emf (nms G) em) l[i] with
     | false =>
       rw [hm, if_pos (by simp)] at hst
       simp -dsimp only [go_sem, hr]
       rw [estart2 true (decide_eq_true c2), ← hst]
       exact ⟨hx0.toS.trans hx7, own_ext hx6 hT4⟩
     | true =>
       rw [hm, if_neg (by simp)] at hst
       simp -dsimp only [go_sem, e1, e3, e4, e6, e8, wrap64_succ hlt hlb]
       exact ⟨l.length - (i + 1), by omega, i + 1, _, hlt, rfl, hx7, own_ext hx6 hT4, by rw [startB_len]; exact hbl', hst, rfl⟩
   · have hi0 : decide ((i : Int) < (l.length : Int)) = false := decide_eq_false (by omega)
     rw [List.drop_eq_nil_of_le (by omega), startL] at hst
     simp -dsimp only [go_sem, e6, e8, hi0, load_own hP', hr]
     rw [estart2 true (decide_eq_true c2), ← hst]
     exact ⟨hx0.toS.trans hx, hT'⟩
 by_cases c3 : d.data.toList = [111, 114]
 · simp -dsimp only [go_sem, decide_eq_false c1, decide_eq_false c2, decide_eq_true c3, hr]
   refine loop_go (n := 68) (by kernel_rfl) (fun m' a' h' => ∃ (i : Nat) (bs' : List Bool), i ≤ l.length ∧ m' = l.length - i ∧ ExtS (Only tb) h2 h' ∧ h'.own tb 4 (bs'.map .bool) ∧ bs'.length = G.length ∧ startL (emf (nms G) em) (idxOf (nms G)) false (l.drop i) bs' = startL (emf (nms G) em) (idxOf (nms G)) false l bs ∧
    a'.get 1 = .slice (some ⟨eb, 0, none⟩) G.length G.length ∧ a'.get 3 = .slice (some ⟨tb, 0, none⟩) G.length G.length ∧ a'.get 4 = .pointer (some ⟨h.next, 0, none⟩) ∧ a'.get 6 = .pointer (some ⟨h.next + 1, 0, none⟩) ∧ a'.get 9 = .int .i64 i) ?_ l.length _ _ (by simp -dsimp only [go_sem, hn]) ⟨0, bs, Nat.zero_le _, rfl, (Ext.refl _).toS, hT2, hbl, by rw [List.drop_zero], by simp -dsimp only [go_sem, g1], by simp -dsimp only [go_sem, g3], by simp -dsimp only [go_sem], by simp -dsimp only [go_sem], by simp -dsimp only [go_sem]; rfl⟩
   rintro m' a' h' hn' ⟨i, bs', hi, rfl, hx, hT', hbl', hst, e1, e3, e4, e6, e8⟩
   have hrom' : h'.rom = r := ext_rom hx (hx0.rom.trans hrom)
   have hb' : h'.base ≤ h'.next := ext_bn hx hb2
   have hP' := own_extS hx hP hpt1
   have hG' := own_extS hx hG1 hpt
   have hE' := own_extS hx hE2 het
   by_cases hlt : i < l.length
   · have hpi : l[i]? = some l[i] := List.getElem?_eq_getElem hlt
     have hi1 : decide ((i : Int) < (l.length : Int)) = true := decide_eq_true (Int.ofNat_lt.2 hlt)
     obtain ⟨Av1, c1', hcs⟩ := (hk i _ hpi).shape
     have hat' := hat i _ hpi
     have hkid := hk i _ hpi
     rw [hcs] at hat' hkid
     have hAv := hA (ne_nil hlt)
     subst hAv
     obtain ⟨_, h4, hs4, rfl, hx4, hT4⟩ := ih i _ hpi h' _ bs' hrom' hb' hE' hkid (hnk i _ hpi) hT' hbl'
     simp -dsimp only [go_sem, e1, e3, e4, e6, e8, hi1, load_own hP']
     refine Dw_text (n := 68) [[], [], [], [2], [], [2, 3, 4], [2, 3, 4, 5], [], [0, 1, 2, 3, 4, 5, 6, 7]] (by simp -dsimp only [go_sem, hn']) (by kernel_rfl) ?_
     simp -dsimp only [go_sem, e1, e3, e4, e6, e8, loads_own hG', load_own hP', loads_own hP', ia50 hlt, loads_ro (n := 3) hrom' hat' rfl, sameN_sliceA R.hs, sameN_sliceA hkid.same]
     refine ⟨_, h4, hs4, ?_⟩
     rw [List.drop_eq_getElem_cons hlt, startL] at hst
     have hx5 : ExtS (Only tb) h2 h4 := hx.trans hx4
     rw [Bool.false_and, if_neg (by simp)] at hst
     simp -dsimp only [go_sem, e1, e3, e4, e6, e8, wrap64_succ hlt hlb]
     exact ⟨l.length - (i + 1), by omega, i + 1, _, hlt, rfl, hx5, hT4, by rw [startB_len]; exact hbl', hst, rfl⟩
   · have hi0 : decide ((i : Int) < (l.length : Int)) = false := decide_eq_false (by omega)
     rw [List.drop_eq_nil_of_le (by omega), startL] at hst
     simp -dsimp only [go_sem, e6, e8, hi0, load_own hP', hr]
     rw [estart2 false (decide_eq_false c2), ← hst]
     exact ⟨hx0.toS.trans hx, hT'⟩
 by_cases c4 : d.data.toList = [109, 97, 110, 121]
 · simp -dsimp only [go_sem, decide_eq_false c1, decide_eq_false c2, decide_eq_false c3, decide_eq_true c4, hr]
   refine loop_go (n := 68) (by kernel_rfl) (fun m' a' h' => ∃ (i : Nat) (bs' : List Bool), i ≤ l.length ∧ m' = l.length - i ∧ ExtS (Only tb) h2 h' ∧ h'.own tb 4 (bs'.map .bool) ∧ bs'.length = G.length ∧ startL (emf (nms G) em) (idxOf (nms G)) false (l.drop i) bs' = startL (emf (nms G) em) (idxOf (nms G)) false l bs ∧
    a'.get 1 = .slice (some ⟨eb, 0, none⟩) G.length G.length ∧ a'.get 3 = .slice (some ⟨tb, 0, none⟩) G.length G.length ∧ a'.get 4 = .pointer (some ⟨h.next, 0, none⟩) ∧ a'.get 6 = .pointer (some ⟨h.next + 1, 0, none⟩) ∧ a'.get 9 = .int .i64 i) ?_ l.length _ _ (by simp -dsimp only [go_sem, hn]) ⟨0, bs, Nat.zero_le _, rfl, (Ext.refl _).toS, hT2, hbl, by rw [List.drop_zero], by simp -dsimp only [go_sem, g1], by simp -dsimp only [go_sem, g3], by simp -dsimp only [go_sem], by simp -dsimp only [go_sem], by simp -dsimp only [go_sem]; rfl⟩
   rintro m' a' h' hn' ⟨i, bs', hi, rfl, hx, hT', hbl', hst, e1, e3, e4, e6, e8⟩
   have hrom' : h'.rom = r := ext_rom hx (hx0.rom.trans hrom)
   have hb' : h'.base ≤ h'.next := ext_bn hx hb2
   have hP' := own_extS hx hP hpt1
   have hG' := own_extS hx hG1 hpt
   have hE' := own_extS hx hE2 het
   by_cases hlt : i < l.length
   · have hpi : l[i]? = some l[i] := List.getElem?_eq_getElem hlt
     have hi1 : decide ((i : Int) < (l.length : Int)) = true := decide_eq_true (Int.ofNat_lt.2 hlt)
     obtain ⟨Av1, c1', hcs⟩ := (hk i _ hpi).shape
     have hat' := hat i _ hpi
     have hkid := hk i _ hpi
     rw [hcs] at hat' hkid
     have hAv := hA (ne_nil hlt)
     subst hAv
     obtain ⟨_, h4, hs4, rfl, hx4, hT4⟩ := ih i _ hpi h' _ bs' hrom' hb' hE' hkid (hnk i _ hpi) hT' hbl'
     simp -dsimp only [go_sem, e1, e3, e4, e6, e8, hi1, load_own hP']
     refine Dw_text (n := 68) [[], [], [], [2], [], [2, 3, 4], [2, 3, 4, 5], [], [0, 1, 2, 3, 4, 5, 6, 7]] (by simp -dsimp only [go_sem, hn']) (by kernel_rfl) ?_
     simp -dsimp only [go_sem, e1, e3, e4, e6, e8, loads_own hG', load_own hP', loads_own hP', ia50 hlt, loads_ro (n := 3) hrom' hat' rfl, sameN_sliceA R.hs, sameN_sliceA hkid.same]
     refine ⟨_, h4, hs4, ?_⟩
     rw [List.drop_eq_getElem_cons hlt, startL] at hst
     have hx5 : ExtS (Only tb) h2 h4 := hx.trans hx4
     rw [Bool.false_and, if_neg (by simp)] at hst
     simp -dsimp only [go_sem, e1, e3, e4, e6, e8, wrap64_succ hlt hlb]
     exact ⟨l.length - (i + 1), by omega, i + 1, _, hlt, rfl, hx5, hT4, by rw [startB_len]; exact hbl', hst, rfl⟩
   · have hi0 : decide ((i : Int) < (l.length : Int)) = false := decide_eq_false (by omega)
     rw [List.drop_eq_nil_of_le (by omega), startL] at hst
     simp -dsimp only [go_sem, e6, e8, hi0, load_own hP', hr]
     rw [estart2 false (decide_eq_false c2), ← hst]
     exact ⟨hx0.toS.trans hx, hT'⟩
 by_cases c5 : d.data.toList = [111, 112, 116]
 · simp -dsimp only [go_sem, decide_eq_false c1, decide_eq_false c2, decide_eq_false c3, decide_eq_false c4, decide_eq_true c5, hr]
   refine loop_go (n := 68) (by kernel_rfl) (fun m' a' h' => ∃ (i : Nat) (bs' : List Bool), i ≤ l.length ∧ m' = l.length - i ∧ ExtS (Only tb) h2 h' ∧ h'.own tb 4 (bs'.map .bool) ∧ bs'.length = G.length ∧ startL (emf (nms G) em) (idxOf (nms G)) false (l.drop i) bs' = startL (emf (nms G) em) (idxOf (nms G)) false l bs ∧
    a'.get 1 = .slice (some ⟨eb, 0, none⟩) G.length G.length ∧ a'.get 3 = .slice (some ⟨tb, 0, none⟩) G.length G.length ∧ a'.get 4 = .pointer (some ⟨h.next, 0, none⟩) ∧ a'.get 6 = .pointer (some ⟨h.next + 1, 0, none⟩) ∧ a'.get 9 = .int .i64 i) ?_ l.length _ _ (by simp -dsimp only [go_sem, hn]) ⟨0, bs, Nat.zero_le _, rfl, (Ext.refl _).toS, hT2, hbl, by rw [List.drop_zero], by simp -dsimp only [go_sem, g1], by simp -dsimp only [go_sem, g3], by simp -dsimp only [go_sem], by simp -dsimp only [go_sem], by simp -dsimp only [go_sem]; rfl⟩
   rintro m' a' h' hn' ⟨i, bs', hi, rfl, hx, hT', hbl', hst, e1, e3, e4, e6, e8⟩
   have hrom' : h'.rom = r := ext_rom hx (hx0.rom.trans hrom)
   have hb' : h'.base ≤ h'.next := ext_bn hx hb2
   have hP' := own_extS hx hP hpt1
   have hG' := own_extS hx hG1 hpt
   have hE' := own_extS hx hE2 het
   by_cases hlt : i < l.length
   · have hpi : l[i]? = some l[i] := List.getElem?_eq_getElem hlt
     have hi1 : decide ((i : Int) < (l.length : Int)) = true := decide_eq_true (Int.ofNat_lt.2 hlt)
     obtain ⟨Av1, c1', hcs⟩ := (hk i _ hpi).shape
     have hat' := hat i _ hpi
     have hkid := hk i _ hpi
     rw [hcs] at hat' hkid
     have hAv := hA (ne_nil hlt)
     subst hAv
     obtain ⟨_, h4, hs4, rfl, hx4, hT4⟩ := ih i _ hpi h' _ bs' hrom' hb' hE' hkid (hnk i _ hpi) hT' hbl'
     simp -dsimp only [go_sem, e1, e3, e4, e6, e8, hi1, load_own hP']
     refine Dw_text (n := 68) [[], [], [], [2], [], [2, 3, 4], [2, 3, 4, 5], [], [0, 1, 2, 3, 4, 5, 6, 7]] (by simp -dsimp only [go_sem, hn']) (by kernel_rfl) ?_
     simp -dsimp only [go_sem, e1, e3, e4, e6, e8, loads_own hG', load_own hP', loads_own hP', ia50 hlt, loads_ro (n := 3) hrom' hat' rfl, sameN_sliceA R.hs, sameN_sliceA hkid.same]
     refine ⟨_, h4, hs4, ?_⟩
     rw [List.drop_eq_getElem_cons hlt, startL] at hst
     have hx5 : ExtS (Only tb) h2 h4 := hx.trans hx4
     rw [Bool.false_and, if_neg (by simp)] at hst
     simp -dsimp only [go_sem, e1, e3, e4, e6, e8, wrap64_succ hlt hlb]
     exact ⟨l.length - (i + 1), by omega, i + 1, _, hlt, rfl, hx5, hT4, by rw [startB_len]; exact hbl', hst, rfl⟩
   · have hi0 : decide ((i : Int) < (l.length : Int)) = false := decide_eq_false (by omega)
     rw [List.drop_eq_nil_of_le (by omega), startL] at hst
     simp -dsimp only [go_sem, e6, e8, hi0, load_own hP', hr]
     rw [estart2 false (decide_eq_false c2), ← hst]
     exact ⟨hx0.toS.trans hx, hT'⟩
 by_cases c6 : d.data.toList = [110, 111, 116]
 · simp -dsimp only [go_sem, decide_eq_false c1, decide_eq_false c2, decide_eq_false c3, decide_eq_false c4, decide_eq_false c5, decide_eq_true c6, hr]
   refine loop_go (n := 68) (by kernel_rfl) (fun m' a' h' => ∃ (i : Nat) (bs' : List Bool), i ≤ l.length ∧ m' = l.length - i ∧ ExtS (Only tb) h2 h' ∧ h'.own tb 4 (bs'.map .bool) ∧ bs'.length = G.length ∧ startL (emf (nms G) em) (idxOf (nms G)) false (l.drop i) bs' = startL (emf (nms G) em) (idxOf (nms G)) false l bs ∧
    a'.get 1 = .slice (some ⟨eb, 0, none⟩) G.length G.length ∧ a'.get 3 = .slice (some ⟨tb, 0, none⟩) G.length G.length ∧ a'.get 4 = .pointer (some ⟨h.next, 0, none⟩) ∧ a'.get 6 = .pointer (some ⟨h.next + 1, 0, none⟩) ∧ a'.get 9 = .int .i64 i) ?_ l.length _ _ (by simp -dsimp only [go_sem, hn]) ⟨0, bs, Nat.zero_le _, rfl, (Ext.refl _).toS, hT2, hbl, by rw [List.drop_zero], by simp -dsimp only [go_sem, g1], by simp -dsimp only [go_sem, g3], by simp -dsimp only [go_sem], by simp -dsimp only [go_sem], by simp -dsimp only [go_sem]; rfl⟩
   rintro m' a' h' hn' ⟨i, bs', hi, rfl, hx, hT', hbl', hst, e1, e3, e4, e6, e8⟩
   have hrom' : h'.rom = r := ext_rom hx (hx0.rom.trans hrom)
   have hb' : h'.base ≤ h'.next := ext_bn hx hb2
   have hP' := own_extS hx hP hpt1
   have hG' := own_extS hx hG1 hpt
   have hE' := own_extS hx hE2 het
   by_cases hlt : i < l.length
   · have hpi : l[i]? = some l[i] := List.getElem?_eq_getElem hlt
     have hi1 : decide ((i : Int) < (l.length : Int)) = true := decide_eq_true (Int.ofNat_lt.2 hlt)
     obtain ⟨Av1, c1', hcs⟩ := (hk i _ hpi).shape
     have hat' := hat i _ hpi
     have hkid := hk i _ hpi
     rw [hcs] at hat' hkid
     have hAv := hA (ne_nil hlt)
     subst hAv
     obtain ⟨_, h4, hs4, rfl, hx4, hT4⟩ := ih i _ hpi h' _ bs' hrom' hb' hE' hkid (hnk i _ hpi) hT' hbl'
     simp -dsimp only [go_sem, e1, e3, e4, e6, e8, hi1, load_own hP']
     refine Dw_text (n := 68) [[], [], [], [2], [], [2, 3, 4], [2, 3, 4, 5], [], [0, 1, 2, 3, 4, 5, 6, 7]] (by simp -dsimp only [go_sem, hn']) (by kernel_rfl) ?_
     simp -dsimp only [go_sem, e1, e3, e4, e6, e8, loads_own hG', load_own hP', loads_own hP', ia50 hlt, loads_ro (n := 3) hrom' hat' rfl, sameN_sliceA R.hs, sameN_sliceA hkid.same]
     refine ⟨_, h4, hs4, ?_⟩
     rw [List.drop_eq_getElem_cons hlt, startL] at hst
     have hx5 : ExtS (Only tb) h2 h4 := hx.trans hx4
     rw [Bool.false_and, if_neg (by simp)] at hst
     simp -dsimp only [go_sem, e1, e3, e4, e6, e8, wrap64_succ hlt hlb]
     exact ⟨l.length - (i + 1), by omega, i + 1, _, hlt, rfl, hx5, hT4, by rw [startB_len]; exact hbl', hst, rfl⟩
   · have hi0 : decide ((i : Int) < (l.length : Int)) = false := decide_eq_false (by omega)
     rw [List.drop_eq_nil_of_le (by omega), startL] at hst
     simp -dsimp only [go_sem, e6, e8, hi0, load_own hP', hr]
     rw [estart2 false (decide_eq_false c2), ← hst]
     exact ⟨hx0.toS.trans hx, hT'⟩
 have hl0 : l = [] := List.length_eq_zero_iff.1 (kind_leaf hko c2 c3 c4 c5 c6)
 simp -dsimp only [go_sem, decide_eq_false c1, decide_eq_false c2, decide_eq_false c3, decide_eq_false c4, decide_eq_false c5, decide_eq_false c6, hr]
 rw [estart2 false (decide_eq_false c2), estart false hl0]
 exact ⟨hx0.toS, hT2⟩
end Go.Ev.G24
end
section
set_option linter.unusedSimpArgs false
set_option linter.unusedVariables false
namespace Go.Ev.G24
open Go.RowKit Go.Proofs
variable {r : Ro}
def Idle2C (r : Ro) (G : List Rule) (Gv : Option Addr) (gc eb : Nat) (em : List Bool) (p : Part) : Prop := ∀ (h : Hp) (cs : List Value), h.rom = r → h.base ≤ h.next → h.own eb 4 (em.map .bool) → RoPart r p cs → named (nms G) p →
 ∃ v h1, Snd Try.prog 60 [.agg #[.slice Gv G.length gc], .slice (some ⟨eb, 0, none⟩) G.length G.length, .agg cs.toArray] h v h1 ∧ v = .bool (idleB (emf (nms G) em) p) ∧ Ext h h1
set_option maxHeartbeats 4000000 in
set_option maxRecDepth 10000 in
theorem idle2_loop {G : List Rule} {Gv : Option Addr} {gc gb go eb : Nat} {gcss : Nat → List Value} (R : RoRules r G Gv gc gb go gcss) {em : List Bool} {d t : ByteArray} {l : List Part} {Av : Option Addr} {c b o gp pb : Nat} {css : Nat → List Value} (ih : ∀ (i : Nat) (p : Part), l[i]? = some p → Idle2C r G Gv gc eb em p) (hnk : ∀ (i : Nat) (p : Part), l[i]? = some p → named (nms G) p)
  (hlb : l.length ≤ 9223372036854775807) (hA : l ≠ [] → Av = some ⟨b, o, none⟩) (hat : ∀ (i : Nat) (p : Part), l[i]? = some p → roAt r b (o + i * 3) (css i)) (hk : ∀ (i : Nat) (p : Part), l[i]? = some p → RoPart r p (css i))
  {a : Ev.A} {h1 : Hp} {Q : Ex → Ev.A → Hp → Prop} (hn : a.n = 35) (hrom : h1.rom = r) (hb1 : h1.base ≤ h1.next) (hE : h1.own eb 4 (em.map .bool)) (hG : h1.own gp 24 [.slice Gv G.length gc]) (hP : h1.own pb 52 [.string d, .string t, .slice Av l.length c])
  (g1 : a.get 1 = .slice (some ⟨eb, 0, none⟩) G.length G.length) (g3 : a.get 3 = .pointer (some ⟨gp, 0, none⟩)) (g5 : a.get 5 = .pointer (some ⟨pb, 0, none⟩)) (g7 : a.get 7 = .int .i64 0)
  (hq0 : ∀ a1 h2, Ext h1 h2 → idleL (emf (nms G) em) l = false → Q (.exit 0) a1 h2) (hq1 : ∀ a1 h2, Ext h1 h2 → idleL (emf (nms G) em) l = true → a1.get 6 = .bool true → Q .ret a1 h2) : Th Try.prog (bodyAt Try.f60 [1, 1, 0, 1, 0]) a h1 Q ⟨⟩ ⟨⟩ := by
 simp only [bodyAt, nav, Try.f60]
 refine loop_go (n := 35) (by kernel_rfl) (fun m' a' h' => ∃ i : Nat, i ≤ l.length ∧ m' = l.length - i ∧ Ext h1 h' ∧ (∀ (j : Nat) (p : Part), j < i → l[j]? = some p → idleB (emf (nms G) em) p = false) ∧
  a'.get 1 = .slice (some ⟨eb, 0, none⟩) G.length G.length ∧ a'.get 3 = .pointer (some ⟨gp, 0, none⟩) ∧ a'.get 5 = .pointer (some ⟨pb, 0, none⟩) ∧ a'.get 7 = .int .i64 i) ?_ l.length _ _ hn ⟨0, Nat.zero_le _, rfl, Ext.refl _, fun j p hj => absurd hj (Nat.not_lt_zero _), g1, g3, g5, g7⟩
 rintro m' a' h' hn' ⟨i, hi, rfl, hx, hall, e1, e3, e5, e7⟩
 have hrom' : h'.rom = r := hx.rom.trans hrom
 have hb' : h'.base ≤ h'.next := by rw [hx.base]; exact Nat.le_trans hb1 hx.next
 have hP' := own_ext hx hP
 have hG' := own_ext hx hG
 by_cases hlt : i < l.length
 · have hpi : l[i]? = some l[i] := List.getElem?_eq_getElem hlt
   have hi1 : decide ((i : Int) < (l.length : Int)) = true := decide_eq_true (Int.ofNat_lt.2 hlt)
   obtain ⟨Av1, c1', hcs⟩ := (hk i _ hpi).shape
   have hat' := hat i _ hpi
   have hkid := hk i _ hpi
   rw [hcs] at hat' hkid
   have hAv := hA (ne_nil hlt)
   subst hAv
   obtain ⟨_, h4, hs4, rfl, hx4⟩ := ih i _ hpi h' _ hrom' hb' (own_ext hx hE) hkid (hnk i _ hpi)
   simp -dsimp only [go_sem, e1, e3, e5, e7, hi1, load_own hP']
   refine Dw_text (n := 35) [[], [], [], [2], [], [2, 3, 4], [2, 3, 4, 5], [0, 1, 2, 3, 4, 5, 6]] (by simp -dsimp only [go_sem, hn']) (by kernel_rfl) ?_
   simp -dsimp only [go_sem, e1, e3, e5, e7, loads_own hG', load_own hP', loads_own hP', ia50 hlt, loads_ro (n := 3) hrom' hat' rfl, sameN_sliceA R.hs, sameN_sliceA hkid.same]
   refine ⟨_, h4, hs4, ?_⟩
   simp -dsimp only [go_sem]
   cases hm : idleB (emf (nms G) em) l[i] with
   | true =>
     simp -dsimp only [go_sem]
     refine hq1 _ _ (hx.trans hx4) ?_ (by simp -dsimp only [go_sem])
     cases hq : idleL (emf (nms G) em) l with
     | true => rfl
     | false => rw [(idleL_iff _ l).1 hq i _ hpi] at hm; cases hm
   | false =>
     simp -dsimp only [go_sem, e1, e3, e5, e7, wrap64_succ hlt hlb]
     refine ⟨l.length - (i + 1), by omega, i + 1, hlt, rfl, hx.trans hx4, fun j p hj hp => ?_, rfl⟩
     rcases Nat.lt_succ_iff_lt_or_eq.1 hj with h | h
     · exact hall j p h hp
     · subst h; rw [hpi] at hp; injection hp with hp; subst hp; exact hm
 · have hi0 : decide ((i : Int) < (l.length : Int)) = false := decide_eq_false (by omega)
   simp -dsimp only [go_sem, e5, e7, hi0, load_own hP']
   exact hq0 _ _ hx ((idleL_iff _ l).2 fun j p hp => hall j p (by have := (List.getElem?_eq_some_iff.1 hp).1; omega) hp)
set_option maxHeartbeats 4000000 in
set_option maxRecDepth 10000 in
theorem idle2_c {G : List Rule} {Gv : Option Addr} {gc gb go eb : Nat} {gcss : Nat → List Value} (R : RoRules r G Gv gc gb go gcss) {em : List Bool} (hel : em.length = G.length) : ∀ (n : Nat) (p : Part), SizeOf.sizeOf p < n → Idle2C r G Gv gc eb em p := by
 intro n
 induction n with
 | zero => exact fun p hp => absurd hp (Nat.not_lt_zero _)
 | succ n ihn =>
 rintro ⟨d, t, l⟩ hn h cs hrom hb hE hp hnm
 have ih : ∀ (i : Nat) (p : Part), l[i]? = some p → Idle2C r G Gv gc eb em p := fun i p hp => ihn p (by
  have := List.sizeOf_lt_of_mem (List.mem_of_getElem? hp)
  simp only [Part.mk.sizeOf_spec] at hn
  omega)
 have hnk : ∀ (i : Nat) (p : Part), l[i]? = some p → named (nms G) p := namedL_get hnm.2.2
 have hGl : (nms G).length = G.length := by simp [nms]
 cases hp with
 | mk _ _ _ Av c b o css hc hlb hA hat hk hs =>
 refine snd_go wf Try.func60 rfl rfl (n := 35) rfl (by kernel_rfl) rfl ?_
 intro a hn hg
 have hr : Try.f60.results.toList = [.tmp 6] := rfl
 have g0 := hg 0
 have g1 := hg 1
 have g2 := hg 2
 clear hg
 simp only [List.getElem?_cons_zero, List.getElem?_cons_succ] at g0 g1 g2
 have hG := own_new hb 24 [.slice Gv G.length gc]
 have hxg := Ext.new h (CObj.cells { c := [.slice Gv G.length gc], e := 24, fam := 0, base := 0, grown := false })
 have hbg := Nat.le_succ_of_le (m := h.next) hb
 have hP := own_new (h := h.newH (CObj.cells { c := [.slice Gv G.length gc], e := 24, fam := 0, base := 0, grown := false })) hbg 52 [.string d, .string t, .slice Av l.length c]
 have hG1 := own_newH hG (CObj.cells { c := [.string d, .string t, .slice Av l.length c], e := 52, fam := 0, base := 0, grown := false })
 have hx0 := hxg.trans (Ext.new _ (CObj.cells { c := [.string d, .string t, .slice Av l.length c], e := 52, fam := 0, base := 0, grown := false }))
 simp -dsimp only [go_sem, g0, g1, g2, next_newH]
 simp only [next_newH] at hP
 generalize (h.newH (CObj.cells { c := [.slice Gv G.length gc], e := 24, fam := 0, base := 0, grown := false })).newH (CObj.cells { c := [.string d, .string t, .slice Av l.length c], e := 52, fam := 0, base := 0, grown := false }) = h2 at hP hG1 hx0 ⊢
 have hb2 : h2.base ≤ h2.next := by rw [hx0.base]; exact Nat.le_trans hb hx0.next
 have hrom2 : h2.rom = r := hx0.rom.trans hrom
 have hE2 := own_ext hx0 hE
 have e : idleB (emf (nms G) em) ⟨d, t, l⟩ = ((decide (d.data.toList = [109, 97, 110, 121]) && mayHead (emf (nms G) em) l) || idleL (emf (nms G) em) l) := by unfold idleB; rfl
 refine Dw_text (n := 35) [[], [0], [0, 1], [0, 1, 2], [0, 1, 2, 3], [0, 1, 2, 3], [0, 1, 2, 3], [0, 1, 2, 3, 6], [0, 1, 2, 3, 6, 7], [0, 1, 2, 3, 6, 7, 8], [0, 1, 2, 3, 4, 5, 6, 7, 8, 9], [0, 1, 2, 3, 4, 5, 6, 7, 8, 9, 10]] (by simp -dsimp only [go_sem, hn]) (by kernel_rfl) ?_
 by_cases c1 : d.data.toList = [109, 97, 110, 121]
 · have k1 : decide (d.data.toList = [109, 97, 110, 121]) = true := decide_eq_true c1
   have hl1 : l.length = 1 := hnm.2.1 (.inl c1)
   have hlt : 0 < l.length := by omega
   have hpi : l[0]? = some l[0] := List.getElem?_eq_getElem hlt
   obtain ⟨Av1, c1', hcs⟩ := (hk 0 _ hpi).shape
   have hat' := hat 0 _ hpi
   have hkid := hk 0 _ hpi
   rw [hcs] at hat' hkid
   rw [Nat.zero_mul, Nat.add_zero] at hat'
   have hAv := hA (ne_nil hlt)
   subst hAv
   have hix : indexAddr' Try.prog 50 (.slice (some ⟨b, o, none⟩) l.length c) (.int .i64 0) = some (.pointer (some ⟨b, o, none⟩)) := by
    have := ia50 (b := b) (o := o) (c := c) (n := l.length) hlt
    simpa using this
   obtain ⟨_, h4, hs4, rfl, hx4⟩ := empty_c R (em := em) (eb := eb) hel _ l[0] (Nat.lt_succ_self _) h2 _ hrom2 hb2 hE2 hkid (hnk 0 _ hpi)
   simp -dsimp only [go_sem, undef', g1, load_own hP, loads_own hG1, loads_own hP, k1, hix, loads_ro (n := 3) hrom2 hat' rfl, sameN_sliceA R.hs, sameN_sliceA hkid.same]
   refine ⟨_, h4, hs4, ?_⟩
   have hmh : mayHead (emf (nms G) em) l = mayB (emf (nms G) em) l[0] := by
    match l, hlt with
    | x :: l, _ => rfl
   simp -dsimp only [go_sem, undef']
   cases hm : mayB (emf (nms G) em) l[0] with
   | true =>
     simp -dsimp only [go_sem, hr, e, k1, hmh, hm, Bool.true_and, Bool.true_or]
     exact hx0.trans hx4
   | false =>
     simp -dsimp only [go_sem, undef']
     refine idle2_loop R (d := d) (t := t) (l := l) (c := c) (gp := h.next) (pb := h.next + 1) (eb := eb) (em := em) ih hnk hlb hA hat hk (by simp -dsimp only [go_sem, hn]) (hx4.rom.trans hrom2) (by rw [hx4.base]; exact Nat.le_trans hb2 hx4.next) (own_ext hx4 hE2) (own_ext hx4 hG1) (own_ext hx4 hP) (by simp -dsimp only [go_sem, g1]) (by simp -dsimp only [go_sem]) (by simp -dsimp only [go_sem]) (by simp -dsimp only [go_sem]) (fun a1 h3 hx3 hf => ?_) (fun a1 h3 hx3 hf h4 => ?_)
     · simp -dsimp only [go_sem, hr, e, k1, hmh, hm, hf, Bool.true_and, Bool.false_or]
       exact (hx0.trans hx4).trans hx3
     · simp -dsimp only [go_sem, hr, e, k1, hmh, hm, hf, h4, Bool.true_and, Bool.false_or]
       exact (hx0.trans hx4).trans hx3
 · have k1 : decide (d.data.toList = [109, 97, 110, 121]) = false := decide_eq_false c1
   simp -dsimp only [go_sem, undef', g1, load_own hP, k1]
   refine idle2_loop R (d := d) (t := t) (l := l) (c := c) (gp := h.next) (pb := h.next + 1) (eb := eb) (em := em) ih hnk hlb hA hat hk (by simp -dsimp only [go_sem, hn]) hrom2 hb2 hE2 hG1 hP (by simp -dsimp only [go_sem, g1]) (by simp -dsimp only [go_sem]) (by simp -dsimp only [go_sem]) (by simp -dsimp only [go_sem]) (fun a1 h3 hx3 hf => ?_) (fun a1 h3 hx3 hf h4 => ?_)
   · simp -dsimp only [go_sem, hr, e, k1, hf, Bool.false_and, Bool.false_or]
     exact hx0.trans hx3
   · simp -dsimp only [go_sem, hr, e, k1, hf, h4, Bool.false_and, Bool.false_or]
     exact hx0.trans hx3
end Go.Ev.G24
end
section
set_option linter.unusedSimpArgs false
set_option linter.unusedVariables false
namespace Go.Ev.G24
open Go.RowKit Go.Proofs
variable {h h1 h2 : Hp} {e : TypeId}
structure RowE (e : TypeId) (h : Hp) (b : Nat) (cs : List Value) (f : Nat) : Prop where
 lo : h.base ≤ b
 lt : b < h.next
 row : ∃ bs g, h.row b = some ⟨cs, e, f, bs, g⟩
 fl : f ≠ 0 → f < h.nfam
theorem rowE_loads {b o n : Nat} {cs : List Value} {f : Nat} (k : RowE e h b cs f) : h.loads ⟨b, o, none⟩ n = takeN (cs.drop o) n := by
 obtain ⟨bs, g, hr⟩ := k.row
 cases n with
 | zero => simp [Hp.loads, takeN]
 | succ n => simp only [Hp.loads, blt_false k.lo, hr]
theorem rowE_load {b o : Nat} {cs : List Value} {f : Nat} (k : RowE e h b cs f) : h.load ⟨b, o, none⟩ = cs[o]? := by
 obtain ⟨bs, g, hr⟩ := k.row
 simp only [Hp.load, blt_false k.lo, hr]
theorem rowE_keep {S : Nat → Prop} (x : ExtS S h h1) {b : Nat} {cs : List Value} {f : Nat} (k : RowE e h b cs f) (hb : ¬ S b) : RowE e h1 b cs f := by
 refine ⟨by rw [x.base]; exact k.lo, Nat.lt_of_lt_of_le k.lt x.next, ?_, fun e => Nat.lt_of_lt_of_le (k.fl e) x.nfam⟩
 obtain ⟨bs, g, hr⟩ := k.row
 refine ⟨bs, g, ?_⟩
 unfold Hp.row at hr ⊢
 rw [x.objs b k.lt hb]
 cases hg : h.objs.get b with
 | none => rw [hg] at hr; cases hr
 | some ob =>
   rw [hg] at hr
   cases ob with
   | cells r =>
     simp only at hr ⊢
     cases hf : r.fam with
     | zero => rw [hf] at hr; exact hr
     | succ q =>
       rw [hf] at hr
       simp only at hr ⊢
       have hrf : r = ⟨cs, e, f, bs, g⟩ := by
        split at hr
        · split at hr
          · injection hr
          · cases hr
        · cases hr
       have hfq : f = q + 1 := by rw [← hf, hrf]
       rw [x.fams (q + 1) (by rw [← hfq]; exact k.fl (by omega))]
       exact hr
   | map es k => cases hr
   | sIter s p => cases hr
   | mIter a b c d => cases hr
theorem rowE_obj {b : Nat} {cs : List Value} {f : Nat} (k : RowE e h b cs f) : ∃ r, h.objs.get b = some (.cells r) ∧ r.e = e := by
 obtain ⟨bs, g, hr⟩ := k.row
 unfold Hp.row at hr
 cases hg : h.objs.get b with
 | none => rw [hg] at hr; cases hr
 | some ob =>
   rw [hg] at hr
   cases ob with
   | cells r =>
     refine ⟨r, rfl, ?_⟩
     simp only at hr
     split at hr
     · injection hr with hr; rw [hr]
     · split at hr
       · split at hr
         · injection hr with hr; rw [hr]
         · cases hr
       · cases hr
   | map es k => cases hr
   | sIter s p => cases hr
   | mIter a b c d => cases hr
theorem rowE_ne {b b' : Nat} {cs c' : List Value} {f : Nat} {e' : TypeId} (k : RowE e h b cs f) (o : h.own b' e' c') (hne : e' ≠ e) : b' ≠ b := by
 rintro rfl
 obtain ⟨r, h1, h2⟩ := rowE_obj k
 rw [o.2.2] at h1
 injection h1 with h1
 injection h1 with h1
 rw [← h1] at h2
 exact hne h2
theorem takeN_all : ∀ (l : List Value), takeN l l.length = some l
 | [] => rfl
 | v :: l => by simp only [List.length_cons, takeN, takeN_all l]
def OwnE (e : TypeId) (h : Hp) (n0 f0 : Nat) (cs : List Value) (v : Value) : Prop := (cs = [] ∧ v = .slice none 0 0) ∨
 ∃ b f, cs ≠ [] ∧ v = .slice (some ⟨b, 0, none⟩) cs.length cs.length ∧ RowE e h b cs f ∧ n0 ≤ b ∧ (f ≠ 0 → f0 ≤ f)
theorem OwnE.ext (x : Ext h h1) {n0 f0 : Nat} {cs : List Value} {v : Value} (k : OwnE e h n0 f0 cs v) : OwnE e h1 n0 f0 cs v := by
 rcases k with ⟨rfl, rfl⟩ | ⟨b, f, hl, rfl, hr, hb, hf⟩
 · exact .inl ⟨rfl, rfl⟩
 · exact .inr ⟨b, f, hl, rfl, rowE_keep (x.toS (S := fun _ => False)) hr (fun c => c), hb, hf⟩
theorem OwnE.len {n0 f0 : Nat} {cs : List Value} {v : Value} (k : OwnE e h n0 f0 cs v) : ∃ A, v = .slice A cs.length cs.length := by
 rcases k with ⟨rfl, rfl⟩ | ⟨b, f, hl, rfl, _⟩ <;> exact ⟨_, rfl⟩
set_option maxRecDepth 10000 in
theorem ownE_append {t : TypeId} {z x : Value} (hu : Try.prog.underlying t = some (.slice e)) (hs : sizeOf' Try.prog e = some 1) (hz : zero' Try.prog e = some z) (hzl : Nat.beq z.cells.toList.length 1 = true ∧ 0 < 1)
  (hby : (match Try.prog.info? e with | some i => Nat.ble i.bytes 100000 && Nat.blt 0 i.bytes | none => false) = true) (hni : noInt Try.prog [t] = true) (hx1 : oneCell x = true)
  {n0 f0 : Nat} {cs : List Value} {v : Value} (k : OwnE e h n0 f0 cs v) {wb : Nat} (hw : h.own wb e [x]) (hb : h.base ≤ h.next) (hn0 : n0 ≤ h.next) (hf0 : f0 ≤ h.nfam) (hsz : cs.length ≤ 100000) :
  ∃ v' h', append' Try.prog h [t, t] [v, .slice (some ⟨wb, 0, none⟩) 1 1] = some (v', h') ∧ OwnE e h' n0 f0 (cs ++ [x]) v' ∧ (∀ (S : Nat → Prop) (h0 : Hp), ExtS S h0 h → h0.next ≤ n0 → h0.nfam ≤ f0 → ExtS S h0 h') ∧
   (∀ b' e' c', e' ≠ e → h.own b' e' c' → h'.own b' e' c') ∧ h.next ≤ h'.next := by
 have hf1 : first' h 1 1 (.slice (some ⟨wb, 0, none⟩) 1 1) = some [x] := by
  simp only [first', loads_own hw]
  rfl
 rcases k with ⟨rfl, rfl⟩ | ⟨b, f, hl, rfl, hr, hb0, hf⟩
 · have hx := Ext.new h (CObj.cells { c := [x], e := e, fam := 0, base := 0, grown := true })
   refine ⟨.slice (some ⟨h.next, 0, none⟩) 1 1, h.newH (CObj.cells { c := [x], e := e, fam := 0, base := 0, grown := true }), ?_, ?_, fun S h0 q _ _ => q.trans hx.toS, fun b' e' c' _ o => own_ext hx o, hx.next⟩
   · rw [append_of hu hs hz hzl hby h (len := 0) (cap := 0) (n := 1) rfl hf1 (by decide) (Nat.le_refl _) (by simp [hx1]) rfl hni]
     have : Nat.ble (0 + 1) 0 = false := rfl
     simp only [apd, this, Hp.grownRow, new_eq]
   · refine .inr ⟨h.next, 0, by simp, rfl, ⟨hb, Nat.lt_succ_self _, ⟨0, true, ?_⟩, fun e => absurd rfl e⟩, hn0, fun e => absurd rfl e⟩
     simp only [Hp.row, get_newH, if_true, List.nil_append]
 · have hlen : 0 < cs.length := List.length_pos_iff.2 hl
   obtain ⟨bs, g, hrow⟩ := hr.row
   have hld : h.loads ⟨b, 0, none⟩ (cs.length * 1) = some cs := by
    rw [rowE_loads hr, List.drop_zero, Nat.mul_one]
    exact takeN_all _
   have hc : Nat.ble (cs.length + 1) cs.length = false := ble_false (by omega)
   have hbeq : Nat.beq e e = true := by simp
   have happ : append' Try.prog h [t, t] [.slice (some ⟨b, 0, none⟩) cs.length cs.length, .slice (some ⟨wb, 0, none⟩) 1 1] = apd h e 1 (some ⟨b, 0, none⟩) cs.length cs.length 1 [x] :=
    append_of hu hs hz hzl hby h rfl hf1 (by omega) (Nat.le_refl _) (by simp [hx1]) rfl hni
   have fin : ∀ (f' : Nat) (h' : Hp), apd h e 1 (some ⟨b, 0, none⟩) cs.length cs.length 1 [x] = some (.slice (some ⟨h.next, 0, none⟩) (cs.length + 1) (cs.length + 1), h') → RowE e h' h.next (cs ++ [x]) f' → (f' = f ∧ f ≠ 0 ∨ f' = h.nfam) → h'.base = h.base → h'.ro = h.ro → h'.next = h.next + 1 → h.nfam ≤ h'.nfam → (∀ y, y < h.next → y ≠ b → h'.objs.get y = h.objs.get y) → (∀ q, q < h.nfam → ¬ (q = f ∧ f ≠ 0) → h'.fams.get q = h.fams.get q) →
     ∃ v' h', append' Try.prog h [t, t] [.slice (some ⟨b, 0, none⟩) cs.length cs.length, .slice (some ⟨wb, 0, none⟩) 1 1] = some (v', h') ∧ OwnE e h' n0 f0 (cs ++ [x]) v' ∧ (∀ (S : Nat → Prop) (h0 : Hp), ExtS S h0 h → h0.next ≤ n0 → h0.nfam ≤ f0 → ExtS S h0 h') ∧ (∀ b' e' c', e' ≠ e → h.own b' e' c' → h'.own b' e' c') ∧ h.next ≤ h'.next := by
    intro f' h' a1 a2 a3 e1 e2 e3 e4 e5 e6
    have hf' : f' ≠ 0 → f0 ≤ f' := by
     intro c
     rcases a3 with ⟨rfl, q⟩ | rfl
     · exact hf q
     · exact hf0
    refine ⟨_, h', by rw [happ, a1], .inr ⟨h.next, f', by simp, by simp, a2, hn0, hf'⟩, fun S h0 q q1 q2 => grow_extS q (Nat.le_trans q1 hb0) (fun c => Nat.le_trans q2 (hf c)) e1 e2 e3 e4 e5 e6, fun b' e' c' hne o => ?_, by omega⟩
    have hbb := rowE_ne hr o hne
    exact ⟨by rw [e1]; exact o.1, by have := o.2.1; omega, by rw [e5 b' o.2.1 hbb]; exact o.2.2⟩
   cases hfe : f with
   | zero =>
     subst hfe
     refine fin h.nfam { h with
      objs := (h.objs.put b (.cells ⟨cs, e, h.nfam, bs, g⟩)).put h.next (.cells ⟨cs ++ [x], e, h.nfam, bs + 0, true⟩)
      next := h.next + 1
      fams := h.fams.put h.nfam (⟨h.next, bs + 0, bs + 0 + (cs ++ [x]).length⟩ :: stays b bs (bs + cs.length) (bs + 0 + cs.length * 1))
      nfam := h.nfam + 1 } ?_ ?_ (.inr rfl) rfl rfl rfl (Nat.le_succ _) ?_ ?_
     · simp only [apd, hc, hrow, hld, grow', hbeq]
     · refine ⟨by have := hr.lo; have := hr.lt; show h.base ≤ h.next; omega, Nat.lt_succ_self _, ⟨bs + 0, true, ?_⟩, fun _ => Nat.lt_succ_self _⟩
       simp only [Hp.row, Tr.get_put, if_true]
       cases hnf : h.nfam with
       | zero => rfl
       | succ q => simp only [Tr.get_put, if_true, List.any_cons, beq_nat, Bool.true_or]
     · intro x hx hxb
       simp only [Tr.get_put, if_neg (Nat.ne_of_lt hx), if_neg hxb]
     · intro q hq _
       simp only [Tr.get_put, if_neg (Nat.ne_of_lt hq)]
   | succ q0 =>
     subst hfe
     have hfm : ∃ l, h.fams.get (q0 + 1) = some l := by
      have hrow2 := hrow
      unfold Hp.row at hrow2
      split at hrow2
      · rename_i r hg
        split at hrow2
        · rename_i e0
          injection hrow2 with hrow2
          rw [hrow2] at e0
          cases e0
        · rename_i f0' e0
          split at hrow2
          · rename_i l hl0
            split at hrow2
            · injection hrow2 with hrow2
              rw [hrow2] at e0
              have e1 : q0 + 1 = f0' + 1 := e0
              exact ⟨l, by rw [e1]; exact hl0⟩
            · cases hrow2
          · cases hrow2
      · cases hrow2
     obtain ⟨l, hl0⟩ := hfm
     refine fin (q0 + 1) { h with
      objs := h.objs.put h.next (.cells ⟨cs ++ [x], e, q0 + 1, bs + 0, true⟩)
      next := h.next + 1
      fams := h.fams.put (q0 + 1) (⟨h.next, bs + 0, bs + 0 + (cs ++ [x]).length⟩ :: l.filter fun m => Nat.ble m.hi (bs + 0 + cs.length * 1)) } ?_ ?_ (.inl ⟨rfl, by omega⟩) rfl rfl rfl (Nat.le_refl _) ?_ ?_
     · simp only [apd, hc, hrow, hld, grow', hbeq, hl0]
     · refine ⟨by have := hr.lo; have := hr.lt; show h.base ≤ h.next; omega, Nat.lt_succ_self _, ⟨bs + 0, true, ?_⟩, fun e => hr.fl e⟩
       simp only [Hp.row, Tr.get_put, if_true, List.any_cons, beq_nat, Bool.true_or]
     · intro x hx _
       simp only [Tr.get_put, if_neg (Nat.ne_of_lt hx)]
     · intro q hq hqf
       have : ¬ q = q0 + 1 := fun e => hqf ⟨e, by omega⟩
       simp only [Tr.get_put, if_neg this]
theorem app108 {v x : Value} {wb n0 f0 : Nat} {cs : List Value} (hx1 : oneCell x = true) (k : OwnE 105 h n0 f0 cs v) (hw : h.own wb 105 [x]) (hb : h.base ≤ h.next) (hn0 : n0 ≤ h.next) (hf0 : f0 ≤ h.nfam) (hsz : cs.length ≤ 100000) :
  ∃ v' h', append' Try.prog h [108, 108] [v, .slice (some ⟨wb, 0, none⟩) 1 1] = some (v', h') ∧ OwnE 105 h' n0 f0 (cs ++ [x]) v' ∧ (∀ (S : Nat → Prop) (h0 : Hp), ExtS S h0 h → h0.next ≤ n0 → h0.nfam ≤ f0 → ExtS S h0 h') ∧
   (∀ b' e' c', e' ≠ 105 → h.own b' e' c' → h'.own b' e' c') ∧ h.next ≤ h'.next :=
 ownE_append (e := 105) (t := 108) Try.underlying108 sz105 z105 (by exact ⟨rfl, by decide⟩) (by kernel_rfl) (by kernel_rfl) hx1 k hw hb hn0 hf0 hsz
theorem app25 {v x : Value} {wb n0 f0 : Nat} {cs : List Value} (hx1 : oneCell x = true) (k : OwnE 9 h n0 f0 cs v) (hw : h.own wb 9 [x]) (hb : h.base ≤ h.next) (hn0 : n0 ≤ h.next) (hf0 : f0 ≤ h.nfam) (hsz : cs.length ≤ 100000) :
  ∃ v' h', append' Try.prog h [25, 25] [v, .slice (some ⟨wb, 0, none⟩) 1 1] = some (v', h') ∧ OwnE 9 h' n0 f0 (cs ++ [x]) v' ∧ (∀ (S : Nat → Prop) (h0 : Hp), ExtS S h0 h → h0.next ≤ n0 → h0.nfam ≤ f0 → ExtS S h0 h') ∧
   (∀ b' e' c', e' ≠ 9 → h.own b' e' c' → h'.own b' e' c') ∧ h.next ≤ h'.next :=
 ownE_append (e := 9) (t := 25) Try.underlying25 sz9 z9 (by exact ⟨rfl, by decide⟩) (by kernel_rfl) (by kernel_rfl) hx1 k hw hb hn0 hf0 hsz
end Go.Ev.G24
end
section
set_option linter.unusedSimpArgs false
set_option linter.unusedVariables false
namespace Go.Ev.G24
open Go.RowKit Go.Proofs
variable {r : Ro} {h : Hp} {n0 tb n f : Nat} {bs : List Nat} {M : List (List Bool)}
structure MatR (h : Hp) (n0 tb n f : Nat) (bs : List Nat) (M : List (List Bool)) : Prop where
 row : RowE 105 h tb (bs.map fun b => .slice (some ⟨b, 0, none⟩) n n) f
 lb : bs.length = n
 lM : M.length = n
 rows : ∀ (i b : Nat) (L : List Bool), bs[i]? = some b → M[i]? = some L → h.own b 4 (L.map .bool) ∧ L.length = n
 dis : ∀ i j b : Nat, bs[i]? = some b → bs[j]? = some b → i = j
 lo : n0 ≤ tb ∧ ∀ i b : Nat, bs[i]? = some b → n0 ≤ b
theorem MatR.at (k : MatR h n0 tb n f bs M) {i : Nat} (hi : i < n) : ∃ b L, bs[i]? = some b ∧ M[i]? = some L ∧ h.own b 4 (L.map .bool) ∧ L.length = n ∧ h.load ⟨tb, i, none⟩ = some (.slice (some ⟨b, 0, none⟩) n n) ∧ ∀ j, j < n → h.load ⟨b, j, none⟩ = some (.bool (getM M i j)) := by
 have hib : i < bs.length := by rw [k.lb]; exact hi
 have hiM : i < M.length := by rw [k.lM]; exact hi
 have h1 : bs[i]? = some bs[i] := List.getElem?_eq_getElem hib
 have h2 : M[i]? = some M[i] := List.getElem?_eq_getElem hiM
 obtain ⟨q1, q2⟩ := k.rows i _ _ h1 h2
 refine ⟨_, _, h1, h2, q1, q2, ?_, ?_⟩
 · rw [rowE_load k.row, List.getElem?_map, h1]; rfl
 · intro j hj
   rw [load_own q1, List.getElem?_map, List.getElem?_eq_getElem (by rw [q2]; exact hj)]
   simp only [getM, List.getD, h2, Option.getD_some, Option.map_some]
   rw [List.getElem?_eq_getElem (by rw [q2]; exact hj)]
   rfl
theorem MatR.ext {h1 : Hp} (x : Ext h h1) (k : MatR h n0 tb n f bs M) : MatR h1 n0 tb n f bs M := ⟨rowE_keep (x.toS (S := fun _ => False)) k.row (fun c => c), k.lb, k.lM, fun i b L h1 h2 => ⟨own_ext x (k.rows i b L h1 h2).1, (k.rows i b L h1 h2).2⟩, k.dis, k.lo⟩
theorem MatR.put (k : MatR h n0 tb n f bs M) {i j b : Nat} {L : List Bool} (h1 : bs[i]? = some b) (h2 : M[i]? = some L) (hj : j < n) (v : Bool) :
  h.stores ⟨b, j, none⟩ [.bool v] = some (h.put b (.cells ⟨(L.set j v).map .bool, 4, 0, 0, false⟩)) ∧ MatR (h.put b (.cells ⟨(L.set j v).map .bool, 4, 0, 0, false⟩)) n0 tb n f bs (setM M i j v) := by
 obtain ⟨q1, q2⟩ := k.rows i _ _ h1 h2
 have ht : b ≠ tb := rowE_ne k.row q1 (by decide)
 have hi : i < M.length := by
  rcases Nat.lt_or_ge i M.length with h | h
  · exact h
  · rw [List.getElem?_eq_none h] at h2; cases h2
 have hg : M.getD i [] = L := by simp [List.getD, h2]
 refine ⟨stores_own q1 rfl (bool_put v (by rw [q2]; exact hj)) (by simp), rowE_keep (S := Only b) (((Ext.refl h).toS (S := Only b)).put (b := b) (.inr rfl) _) k.row (fun c => ht c.symm), k.lb, by simp [setM, k.lM], ?_, k.dis, k.lo⟩
 intro i' b' L' hb' hL'
 simp only [setM, hg, List.getElem?_set] at hL'
 by_cases e : i = i'
 · subst e
   rw [h1] at hb'
   injection hb' with hb'
   subst hb'
   rw [if_pos rfl, if_pos hi] at hL'
   injection hL' with hL'
   subst hL'
   exact ⟨own_put_same q1 _, by simp [q2]⟩
 · rw [if_neg e] at hL'
   obtain ⟨p1, p2⟩ := k.rows i' _ _ hb' hL'
   refine ⟨own_put p1 ?_ _, p2⟩
   intro e2
   subst e2
   exact e (k.dis _ _ _ h1 hb')
theorem setM_same (M : List (List Bool)) (i j : Nat) : setM M i j (getM M i j) = M := by
 unfold setM getM
 apply List.ext_getElem?
 intro q
 rw [List.getElem?_set]
 split
 · rename_i e
   subst e
   split
   · rename_i hq
     rw [List.getElem?_eq_getElem hq]
     congr 1
     have hD : M.getD i [] = M[i] := by simp [List.getD, List.getElem?_eq_getElem hq]
     rw [hD]
     apply List.ext_getElem?
     intro z
     rw [List.getElem?_set]
     split
     · rename_i e2
       subst e2
       split
       · rename_i hz
         rw [List.getElem?_eq_getElem hz]
         simp [List.getD, List.getElem?_eq_getElem hz]
       · rename_i hz
         rw [List.getElem?_eq_none (by omega)]
     · rfl
   · rename_i hq
     rw [List.getElem?_eq_none (by omega)]
 · rfl
theorem cellW_stop {M : List (List Bool)} {k i j : Nat} (h : getM M i k = false) : cellW k i j M = M := by
 unfold cellW
 rw [h, Bool.false_and, Bool.or_false]
 exact setM_same M i j
theorem upto_stop {M : List (List Bool)} {k i j : Nat} (h : getM (upto (cellW k i) j M) i k = false) : ∀ n, j ≤ n → upto (cellW k i) n M = upto (cellW k i) j M := by
 intro n hn
 induction hn with
 | refl => rfl
 | step hn ih => rw [upto, ih, cellW_stop h]
set_option maxHeartbeats 4000000 in
set_option maxRecDepth 10000 in
theorem rr_j {k i : Nat} (hk : k < n) (hi : i < n) (hn1 : n ≤ 1000) {hA : Hp} (hAn : hA.next = n0) {a : Ev.A} {Q : Ex → Ev.A → Hp → Prop} (hn : a.n = 126) (hX : Ext hA h) (hM : MatR h n0 tb n f bs M) {x1 x4 : Value}
  (g1 : a.get 1 = x1) (g4 : a.get 4 = x4) (g5 : a.get 5 = .slice (some ⟨tb, 0, none⟩) n n) (g8 : a.get 8 = .int .i64 k) (g9 : a.get 9 = .int .i64 i) (g10 : a.get 10 = .int .i64 0)
  (hq : ∀ a1 h1, a1.n = 126 → Ext hA h1 → MatR h1 n0 tb n f bs (upto (cellW k i) n M) → a1.get 1 = x1 → a1.get 4 = x4 → a1.get 5 = .slice (some ⟨tb, 0, none⟩) n n → a1.get 8 = .int .i64 k → a1.get 9 = .int .i64 i → Q (.exit 6) a1 h1) :
  Th Try.prog (bodyAt Try.f29 [1, 1, 1, 1, 1, 0, 1, 0, 0, 1, 0, 0, 1, 0, 0, 1, 0, 0, 1, 0]) a h Q ⟨⟩ ⟨⟩ := by
 simp only [bodyAt, nav, Try.f29]
 refine loop_go (n := 126) (by kernel_rfl) (fun m' a' h' => ∃ j : Nat, j ≤ n ∧ m' = n - j ∧ Ext hA h' ∧ MatR h' n0 tb n f bs (upto (cellW k i) j M) ∧
  a'.get 1 = x1 ∧ a'.get 4 = x4 ∧ a'.get 5 = .slice (some ⟨tb, 0, none⟩) n n ∧ a'.get 8 = .int .i64 k ∧ a'.get 9 = .int .i64 i ∧ a'.get 10 = .int .i64 j) ?_ n _ _ hn ⟨0, Nat.zero_le _, rfl, hX, hM, g1, g4, g5, g8, g9, g10⟩
 rintro m' a' h' hn' ⟨j, hj, rfl, hx, hM', e1, e4, e5, e8, e9, e10⟩
 by_cases hlt : j < n
 · have hi1 : decide ((j : Int) < (n : Int)) = true := decide_eq_true (Int.ofNat_lt.2 hlt)
   obtain ⟨bi, Li, q1, q2, q3, q4, q5, q6⟩ := hM'.at hi
   obtain ⟨bk', Lk, p1, p2, p3, p4, p5, p6⟩ := hM'.at hk
   have q6j := q6 j hlt
   have q6k := q6 k hk
   have p6j := p6 j hlt
   cases hik : getM (upto (cellW k i) j M) i k with
   | false =>
     rw [hik] at q6k
     simp -dsimp only [go_sem, undef', e1, e4, e5, e8, e9, e10, hi1, ia108 hi, ia105 hk, q5, q6k]
     refine hq _ _ (by simp -dsimp only [go_sem, hn']) hx ?_ (by simp -dsimp only [go_sem, e1]) (by simp -dsimp only [go_sem, e4]) (by simp -dsimp only [go_sem, e5]) (by simp -dsimp only [go_sem, e8]) (by simp -dsimp only [go_sem, e9])
     rw [upto_stop hik n hj]
     exact hM'
   | true =>
     rw [hik] at q6k
     simp -dsimp only [go_sem, undef', e1, e4, e5, e8, e9, e10, hi1, ia108 hi, ia105 hk, q5, q6k]
     refine Dw_text (n := 126) [[], [], [0, 1], [0, 1, 2], [], [], [], [5, 6], [5, 6, 7], [], [5, 6, 7, 8, 9], [5, 6, 7, 8, 9, 10], [5, 6, 7, 8, 9, 10, 11], [5, 6, 7, 8, 9, 10, 11, 12], [5, 6, 7, 8, 9, 10, 11, 12], [5, 6, 7, 8, 9, 10, 11, 12, 13, 14], [5, 6, 7, 8, 9, 10, 11, 12, 13, 14, 15], [5, 6, 7, 8, 9, 10, 11, 12], [5, 6, 7, 8, 9, 10, 11, 12, 13, 14, 15, 16, 17], [5, 6, 7, 8, 9, 10, 11, 12, 13, 14, 15, 16, 17, 18], [5, 6, 7, 8, 9, 10, 11, 12, 13, 14, 15, 16, 17, 18, 19], [0, 1, 2, 3, 4, 5, 6, 7, 8, 9, 10, 11, 12, 13, 14, 15, 16, 17, 18, 19, 20], [0, 1, 2, 3, 4, 5, 6, 7, 8, 9, 10, 11, 12, 13, 14, 15, 16, 17, 18, 19, 20, 21]] (by simp -dsimp only [go_sem, hn']) (by kernel_rfl) ?_
     obtain ⟨s1, s2⟩ := hM'.put q1 q2 hlt (getM (upto (cellW k i) j M) i j || (getM (upto (cellW k i) j M) i k && getM (upto (cellW k i) j M) k j))
     have hx2 := hx.put (b := bi) (by rw [hAn]; exact hM'.lo.2 _ _ q1) (.cells ⟨(Li.set j (getM (upto (cellW k i) j M) i j || (getM (upto (cellW k i) j M) i k && getM (upto (cellW k i) j M) k j))).map .bool, 4, 0, 0, false⟩)
     have fin : MatR (h'.put bi (.cells ⟨(Li.set j (getM (upto (cellW k i) j M) i j || (getM (upto (cellW k i) j M) i k && getM (upto (cellW k i) j M) k j))).map .bool, 4, 0, 0, false⟩)) n0 tb n f bs (upto (cellW k i) (j + 1) M) := s2
     rw [hik, Bool.true_and] at s1 fin hx2
     cases hij : getM (upto (cellW k i) j M) i j with
     | true =>
       rw [hij] at s1 fin q6j hx2
       rw [Bool.true_or] at s1 fin hx2
       simp -dsimp only [go_sem, undef', e1, e4, e5, e8, e9, e10, ia108 hi, ia108 hk, ia105 hlt, ia105 hk, q5, q6j, p5, p6j, s1, wrap64_succ hlt (Nat.le_trans hn1 (by decide))]
       exact ⟨n - (j + 1), by omega, j + 1, hlt, rfl, hx2, fin, rfl⟩
     | false =>
       rw [hij] at s1 fin q6j hx2
       rw [Bool.false_or] at s1 fin hx2
       simp -dsimp only [go_sem, undef', e1, e4, e5, e8, e9, e10, ia108 hi, ia108 hk, ia105 hlt, ia105 hk, q5, q6j, p5, p6j, s1, wrap64_succ hlt (Nat.le_trans hn1 (by decide))]
       exact ⟨n - (j + 1), by omega, j + 1, hlt, rfl, hx2, fin, rfl⟩
 · have hi0 : decide ((j : Int) < (n : Int)) = false := decide_eq_false (by omega)
   have hjn : j = n := by omega
   subst hjn
   simp -dsimp only [go_sem, undef', e5, e10, hi0]
   exact hq _ _ (by simp -dsimp only [go_sem, hn']) hx hM' (by simp -dsimp only [go_sem, e1]) (by simp -dsimp only [go_sem, e4]) (by simp -dsimp only [go_sem, e5]) (by simp -dsimp only [go_sem, e8]) (by simp -dsimp only [go_sem, e9])
set_option maxHeartbeats 2000000 in
set_option maxRecDepth 10000 in
theorem rr_i {k : Nat} (hk : k < n) (hn1 : n ≤ 1000) {hA : Hp} (hAn : hA.next = n0) {a : Ev.A} {Q : Ex → Ev.A → Hp → Prop} (hn : a.n = 126) (hX : Ext hA h) (hM : MatR h n0 tb n f bs M) {x1 x4 : Value}
  (g1 : a.get 1 = x1) (g4 : a.get 4 = x4) (g5 : a.get 5 = .slice (some ⟨tb, 0, none⟩) n n) (g8 : a.get 8 = .int .i64 k) (g9 : a.get 9 = .int .i64 0)
  (hq : ∀ a1 h1, a1.n = 126 → Ext hA h1 → MatR h1 n0 tb n f bs (upto (fun i => upto (cellW k i) n) n M) → a1.get 1 = x1 → a1.get 4 = x4 → a1.get 5 = .slice (some ⟨tb, 0, none⟩) n n → a1.get 8 = .int .i64 k → Q (.exit 4) a1 h1) :
  Th Try.prog (bodyAt Try.f29 [1, 1, 1, 1, 1, 0, 1, 0, 0, 1, 0, 0, 1, 0]) a h Q ⟨⟩ ⟨⟩ := by
 simp only [bodyAt, nav, Try.f29]
 refine loop_go (n := 126) (by kernel_rfl) (fun m' a' h' => ∃ j : Nat, j ≤ n ∧ m' = n - j ∧ Ext hA h' ∧ MatR h' n0 tb n f bs (upto (fun i => upto (cellW k i) n) j M) ∧
  a'.get 1 = x1 ∧ a'.get 4 = x4 ∧ a'.get 5 = .slice (some ⟨tb, 0, none⟩) n n ∧ a'.get 8 = .int .i64 k ∧ a'.get 9 = .int .i64 j) ?_ n _ _ hn ⟨0, Nat.zero_le _, rfl, hX, hM, g1, g4, g5, g8, g9⟩
 rintro m' a' h' hn' ⟨j, hj, rfl, hx, hM', e1, e4, e5, e8, e9⟩
 by_cases hlt : j < n
 · have hi1 : decide ((j : Int) < (n : Int)) = true := decide_eq_true (Int.ofNat_lt.2 hlt)
   simp -dsimp only [go_sem, e1, e4, e5, e8, e9, hi1]
   refine rr_j (x1 := x1) (x4 := x4) hk hlt hn1 hAn (by simp -dsimp only [go_sem, hn']) hx hM' (by simp -dsimp only [go_sem, e1]) (by simp -dsimp only [go_sem, e4]) (by simp -dsimp only [go_sem, e5]) (by simp -dsimp only [go_sem, e8]) (by simp -dsimp only [go_sem, e9]) (by simp -dsimp only [go_sem]) (fun a1 h1 hn1' hx1 hM1 f1 f4 f5 f8 f9 => ?_)
   simp -dsimp only [go_sem, f9, wrap64_succ hlt (Nat.le_trans hn1 (by decide))]
   exact ⟨n - (j + 1), by omega, j + 1, hlt, rfl, hx1, hM1, f1, f4, f5, f8, rfl⟩
 · have hi0 : decide ((j : Int) < (n : Int)) = false := decide_eq_false (by omega)
   have hjn : j = n := by omega
   subst hjn
   simp -dsimp only [go_sem, e5, e9, hi0]
   exact hq _ _ (by simp -dsimp only [go_sem, hn']) hx hM' (by simp -dsimp only [go_sem, e1]) (by simp -dsimp only [go_sem, e4]) (by simp -dsimp only [go_sem, e5]) (by simp -dsimp only [go_sem, e8])
set_option maxHeartbeats 2000000 in
set_option maxRecDepth 10000 in
theorem rr_k (hn1 : n ≤ 1000) {hA : Hp} (hAn : hA.next = n0) {a : Ev.A} {Q : Ex → Ev.A → Hp → Prop} (hn : a.n = 126) (hX : Ext hA h) (hM : MatR h n0 tb n f bs M) {x1 x4 : Value}
  (g1 : a.get 1 = x1) (g4 : a.get 4 = x4) (g5 : a.get 5 = .slice (some ⟨tb, 0, none⟩) n n) (g8 : a.get 8 = .int .i64 0)
  (hq : ∀ a1 h1, a1.n = 126 → Ext hA h1 → MatR h1 n0 tb n f bs (warshall n M) → a1.get 1 = x1 → a1.get 4 = x4 → a1.get 5 = .slice (some ⟨tb, 0, none⟩) n n → Q (.exit 2) a1 h1) :
  Th Try.prog (bodyAt Try.f29 [1, 1, 1, 1, 1, 0, 1, 0]) a h Q ⟨⟩ ⟨⟩ := by
 simp only [bodyAt, nav, Try.f29]
 refine loop_go (n := 126) (by kernel_rfl) (fun m' a' h' => ∃ j : Nat, j ≤ n ∧ m' = n - j ∧ Ext hA h' ∧ MatR h' n0 tb n f bs (upto (fun k => upto (fun i => upto (cellW k i) n) n) j M) ∧
  a'.get 1 = x1 ∧ a'.get 4 = x4 ∧ a'.get 5 = .slice (some ⟨tb, 0, none⟩) n n ∧ a'.get 8 = .int .i64 j) ?_ n _ _ hn ⟨0, Nat.zero_le _, rfl, hX, hM, g1, g4, g5, g8⟩
 rintro m' a' h' hn' ⟨j, hj, rfl, hx, hM', e1, e4, e5, e8⟩
 by_cases hlt : j < n
 · have hi1 : decide ((j : Int) < (n : Int)) = true := decide_eq_true (Int.ofNat_lt.2 hlt)
   simp -dsimp only [go_sem, e1, e4, e5, e8, hi1]
   refine rr_i (x1 := x1) (x4 := x4) hlt hn1 hAn (by simp -dsimp only [go_sem, hn']) hx hM' (by simp -dsimp only [go_sem, e1]) (by simp -dsimp only [go_sem, e4]) (by simp -dsimp only [go_sem, e5]) (by simp -dsimp only [go_sem, e8]) (by simp -dsimp only [go_sem]) (fun a1 h1 hn1' hx1 hM1 f1 f4 f5 f8 => ?_)
   simp -dsimp only [go_sem, f8, wrap64_succ hlt (Nat.le_trans hn1 (by decide))]
   exact ⟨n - (j + 1), by omega, j + 1, hlt, rfl, hx1, hM1, f1, f4, f5, rfl⟩
 · have hi0 : decide ((j : Int) < (n : Int)) = false := decide_eq_false (by omega)
   have hjn : j = n := by omega
   subst hjn
   simp -dsimp only [go_sem, e5, e8, hi0]
   exact hq _ _ (by simp -dsimp only [go_sem, hn']) hx hM' (by simp -dsimp only [go_sem, e1]) (by simp -dsimp only [go_sem, e4]) (by simp -dsimp only [go_sem, e5])
end Go.Ev.G24
end
section
set_option linter.unusedSimpArgs false
set_option linter.unusedVariables false
namespace Go.Ev.G24
open Go.RowKit Go.Proofs
open Go.Proofs.Ytcnllhnhinmokaa.PHGr (plainB atomB)
variable {r : Ro}
structure MatS (h : Hp) (n0 n i : Nat) (bs : List Nat) (M : List (List Bool)) : Prop where
 lb : bs.length = i
 lM : M.length = i
 rows : ∀ (j b : Nat) (L : List Bool), bs[j]? = some b → M[j]? = some L → h.own b 4 (L.map .bool) ∧ L.length = n
 dis : ∀ i j b : Nat, bs[i]? = some b → bs[j]? = some b → i = j
 lo : ∀ i b : Nat, bs[i]? = some b → n0 ≤ b ∧ b < h.next
theorem snoc_get {α : Type} {l : List α} {x y : α} {i : Nat} (h : (l ++ [x])[i]? = some y) : l[i]? = some y ∨ (i = l.length ∧ y = x) := by
 rcases Nat.lt_or_ge i l.length with c | c
 · rw [List.getElem?_append_left c] at h; exact .inl h
 · rw [List.getElem?_append_right c] at h
   cases hj : i - l.length with
   | zero => rw [hj] at h; simp at h; exact .inr ⟨by omega, h.symm⟩
   | succ q => rw [hj] at h; simp at h
theorem get_lt' {α : Type} {l : List α} {i : Nat} {x : α} (h : l[i]? = some x) : i < l.length := (List.getElem?_eq_some_iff.1 h).1
theorem MatS.more {h h1 : Hp} {n0 n i : Nat} {bs : List Nat} {M : List (List Bool)} (k : MatS h n0 n i bs M) (hk : ∀ b' e' c', e' ≠ 105 → h.own b' e' c' → h1.own b' e' c') (hnx : h.next ≤ h1.next) {b : Nat} {L : List Bool} (hb : h.next ≤ b) (hn0 : n0 ≤ b) (ho : h1.own b 4 (L.map .bool)) (hL : L.length = n) : MatS h1 n0 n (i + 1) (bs ++ [b]) (M ++ [L]) := by
 refine ⟨by simp [k.lb], by simp [k.lM], ?_, ?_, ?_⟩
 · intro j b' L' h1' h2'
   rcases snoc_get h1' with c | ⟨c1, c2⟩
   · rw [List.getElem?_append_left (by have := get_lt' c; rw [k.lM, ← k.lb]; exact this)] at h2'
     obtain ⟨p1, p2⟩ := k.rows j b' L' c h2'
     exact ⟨hk _ _ _ (by decide) p1, p2⟩
   · subst c2
     rw [c1, k.lb, ← k.lM] at h2'
     simp at h2'
     subst h2'
     exact ⟨ho, hL⟩
 · intro x y b' h1' h2'
   rcases snoc_get h1' with c | ⟨c1, c2⟩ <;> rcases snoc_get h2' with d | ⟨d1, d2⟩
   · exact k.dis _ _ _ c d
   · subst d2; have := (k.lo _ _ c).2; omega
   · subst c2; have := (k.lo _ _ d).2; omega
   · omega
 · intro x b' h1'
   rcases snoc_get h1' with c | ⟨c1, c2⟩
   · have := k.lo _ _ c; exact ⟨this.1, Nat.lt_of_lt_of_le this.2 hnx⟩
   · subst c2; exact ⟨hn0, ho.2.1⟩
set_option maxHeartbeats 4000000 in
set_option maxRecDepth 10000 in
theorem rr_rows {l : List Rule} {Av : Option Addr} {c b o gp eb : Nat} {css : Nat → List Value} (R : RoRules r l Av c b o css) (hrg : ∀ (i : Nat) (x : Rule), l[i]? = some x → rightP (nms l) x.body = true) {em : List Bool} (hel : em.length = l.length)
  {hA : Hp} (hrom : hA.rom = r) (hbA : hA.base ≤ hA.next) (hE : hA.own eb 4 (em.map .bool)) (hP : hA.own gp 24 [.slice Av l.length c]) {a : Ev.A} {Q : Ex → Ev.A → Hp → Prop} (hn : a.n = 126)
  (g1 : a.get 1 = .pointer (some ⟨gp, 0, none⟩)) (g4 : a.get 4 = .slice (some ⟨eb, 0, none⟩) l.length l.length) (g5 : a.get 5 = .slice none 0 0) (g6 : a.get 6 = .int .i64 0)
  (hq : ∀ a1 h1 bs v, a1.n = 126 → Ext hA h1 → MatS h1 hA.next l.length l.length bs (l.map (rowB l em)) → OwnE 105 h1 hA.next hA.nfam (bs.map fun b => .slice (some ⟨b, 0, none⟩) l.length l.length) v → a1.get 1 = .pointer (some ⟨gp, 0, none⟩) → a1.get 4 = .slice (some ⟨eb, 0, none⟩) l.length l.length → a1.get 5 = v → Q (.exit 0) a1 h1) :
  Th Try.prog (bodyAt Try.f29 [1, 1, 1, 1, 0, 1, 0]) a hA Q ⟨⟩ ⟨⟩ := by
 simp only [bodyAt, nav, Try.f29]
 refine loop_go (n := 126) (by kernel_rfl) (fun m' a' h' => ∃ (j : Nat) (bs : List Nat) (v : Value), j ≤ l.length ∧ m' = l.length - j ∧ Ext hA h' ∧ MatS h' hA.next l.length j bs ((l.take j).map (rowB l em)) ∧ OwnE 105 h' hA.next hA.nfam (bs.map fun b => .slice (some ⟨b, 0, none⟩) l.length l.length) v ∧
  a'.get 1 = .pointer (some ⟨gp, 0, none⟩) ∧ a'.get 4 = .slice (some ⟨eb, 0, none⟩) l.length l.length ∧ a'.get 5 = v ∧ a'.get 6 = .int .i64 j) ?_ l.length _ _ hn ⟨0, [], _, Nat.zero_le _, rfl, Ext.refl _, ⟨rfl, rfl, fun _ _ _ e => by simp at e, fun _ _ _ e => by simp at e, fun _ _ e => by simp at e⟩, .inl ⟨rfl, rfl⟩, g1, g4, g5, g6⟩
 rintro m' a' h' hn' ⟨j, bs, v, hj, rfl, hx, hM', hO', e1, e4, e5, e6⟩
 have hrom' : h'.rom = r := hx.rom.trans hrom
 have hb' : h'.base ≤ h'.next := by rw [hx.base]; exact Nat.le_trans hbA hx.next
 have hP' := own_ext hx hP
 by_cases hlt : j < l.length
 · have hi1 : decide ((j : Int) < (l.length : Int)) = true := decide_eq_true (Int.ofNat_lt.2 hlt)
   have hpi : l[j]? = some l[j] := List.getElem?_eq_getElem hlt
   obtain ⟨Av1, c1', hcs⟩ := (R.hk j _ hpi).shape
   have hat' := R.hat j _ hpi
   have hkid := R.hk j _ hpi
   rw [hcs] at hat' hkid
   have hat2 := roAt_tail hat'
   have hAv := R.hA (ne_nil hlt)
   subst hAv
   have hT := own_new hb' 4 ((List.replicate l.length false).map .bool)
   have hX3 := Ext.new h' (CObj.cells { c := (List.replicate l.length false).map Value.bool, e := 4, fam := 0, base := 0, grown := false })
   have hb3 := Nat.le_succ_of_le hb'
   have hP3 := own_ext hX3 hP'
   have hE3 := own_ext (hx.trans hX3) hE
   simp -dsimp only [go_sem, e1, e4, e5, e6, hi1, load_own hP', ms105 l.length l.length (Nat.le_refl _) R.hb, repeat_bool]
   generalize hg3 : h'.newH (CObj.cells { c := (List.replicate l.length false).map Value.bool, e := 4, fam := 0, base := 0, grown := false }) = h3 at hT hX3 hP3 hE3 ⊢
   have hb3' : h3.base ≤ h3.next := by rw [hX3.base]; exact Nat.le_trans hb' hX3.next
   have hen : eb ≠ h'.next := by have := hE.2.1; have := hx.next; omega
   obtain ⟨_, h5, hs5, rfl, hx5, hown5⟩ := left_c R (em := em) (eb := eb) (tb := h'.next) hel hen _ l[j].body (Nat.lt_succ_self _) h3 _ (List.replicate l.length false) (hX3.rom.trans hrom') hb3' hE3 hkid (hrg j _ hpi) hT (by simp)
   refine Dw_text (n := 126) [[], [], [], [2], [], [2, 3, 4], [2, 3, 4, 5], [2, 3, 4, 5, 6], [], [0, 1, 2, 3, 4, 5, 6, 7, 8]] (by simp -dsimp only [go_sem, hn']) (by kernel_rfl) ?_
   simp -dsimp only [go_sem, e1, e4, e5, e6, loads_own hP3, load_own hP3, ia22 hlt, loads_ro (n := 3) (hX3.rom.trans hrom') hat2 rfl, sameN_sliceA R.hs, sameN_sliceA hkid.same]
   refine ⟨_, h5, hs5, ?_⟩
   have hx35 : Ext h' h5 := (hX3.toS.trans hx5).ext (fun q hq hs => by
    have : q = h'.next := hs
    omega)
   have hb5 : h5.base ≤ h5.next := by rw [hx35.base]; exact Nat.le_trans hb' hx35.next
   have hW := own_new hb5 105 [.slice (some ⟨h'.next, 0, none⟩) l.length l.length]
   have hX6 := Ext.new h5 (CObj.cells { c := [.slice (some ⟨h'.next, 0, none⟩) l.length l.length], e := 105, fam := 0, base := 0, grown := false })
   have hO6 := (hO'.ext hx35).ext hX6
   have hx56 := hx35.trans hX6
   have hx06 := hx.trans hx56
   obtain ⟨v', h7, ha7, hO7, hext7, hk7, hn7⟩ := app108 rfl hO6 hW (by rw [hx06.base]; exact Nat.le_trans hbA hx06.next) hx06.next hx06.nfam (by rw [List.length_map, hM'.lb]; exact Nat.le_trans hj (Nat.le_trans R.hb (by decide)))
   have hx7 : Ext hA h7 := (hext7 (fun _ => False) hA (hx06.toS) (Nat.le_refl _) (Nat.le_refl _)).ext (fun _ _ c => c)
   simp -dsimp only [go_sem, e1, e4, e5, e6, bs108 1 (by decide), repeatN, builtin', ha7, wrap64_succ hlt (Nat.le_trans R.hb (by decide))]
   have htk : (l.take (j + 1)).map (rowB l em) = (l.take j).map (rowB l em) ++ [rowB l em l[j]] := by
    rw [List.take_succ_eq_append_getElem hlt, List.map_append]; rfl
   refine ⟨l.length - (j + 1), by omega, j + 1, bs ++ [h'.next], v', hlt, rfl, hx7, ?_, ?_, rfl, rfl⟩
   · rw [htk]
     have hL : (rowB l em l[j]).length = l.length := by unfold rowB; rw [startB_len]; simp
     exact hM'.more (fun b' e' c' hne ho => hk7 _ _ _ hne (own_ext hx56 ho)) (Nat.le_trans hx56.next hn7) (Nat.le_refl _) hx.next (hk7 _ _ _ (by decide) (own_ext hX6 hown5)) hL
   · rw [List.map_append]; exact hO7
 · have hi0 : decide ((j : Int) < (l.length : Int)) = false := decide_eq_false (by omega)
   have hjn : j = l.length := by omega
   subst hjn
   rw [List.take_length] at hM'
   simp -dsimp only [go_sem, e1, e6, hi0, load_own hP']
   exact hq _ _ bs v (by simp -dsimp only [go_sem, hn']) hx hM' hO' (by simp -dsimp only [go_sem, e1]) (by simp -dsimp only [go_sem, e4]) (by simp -dsimp only [go_sem, e5])
def pickN : List Rule → List Bool → List ByteArray
 | x :: l, b :: bs => if b then x.name :: pickN l bs else pickN l bs
 | _, _ => []
theorem pickN_snoc : ∀ (l : List Rule) (bs : List Bool) (i : Nat) (hi : i < l.length) (hb : i < bs.length), pickN (l.take (i + 1)) (bs.take (i + 1)) = pickN (l.take i) (bs.take i) ++ (if bs[i] then [l[i].name] else [])
 | x :: l, b :: bs, 0, _, _ => by
   simp only [List.take_succ_cons, List.take_zero, pickN, List.getElem_cons_zero, List.nil_append]
 | x :: l, b :: bs, i + 1, hi, hb => by
   have ih := pickN_snoc l bs i (by simpa using hi) (by simpa using hb)
   simp only [List.take_succ_cons, pickN, List.getElem_cons_succ] at ih ⊢
   rw [ih]
   cases b <;> simp
 | [], _, _, hi, _ => absurd hi (Nat.not_lt_zero _)
 | _ :: _, [], _, _, hb => absurd hb (Nat.not_lt_zero _)
set_option maxHeartbeats 4000000 in
set_option maxRecDepth 10000 in
theorem rr_out {l : List Rule} {Av : Option Addr} {c b o gp eb tb f : Nat} {css : Nat → List Value} (R : RoRules r l Av c b o css) (hnm : ∀ (i : Nat) (x : Rule), l[i]? = some x → named (nms l) x.body) {em : List Bool} (hel : em.length = l.length)
  {hA h : Hp} {n0 f0 : Nat} {bs : List Nat} (hrom : hA.rom = r) (hbA : hA.base ≤ hA.next) (hn0 : n0 = hA.next) (hf0 : f0 = hA.nfam) (hE : hA.own eb 4 (em.map .bool)) (hP : hA.own gp 24 [.slice Av l.length c]) (hX : Ext hA h) (hM : MatR h n0 tb l.length f bs (closedM l em)) {a : Ev.A} {Q : Ex → Ev.A → Hp → Prop} (hn : a.n = 126)
  (g1 : a.get 1 = .pointer (some ⟨gp, 0, none⟩)) (g4 : a.get 4 = .slice (some ⟨eb, 0, none⟩) l.length l.length) (g5 : a.get 5 = .slice (some ⟨tb, 0, none⟩) l.length l.length) (g11 : a.get 11 = .slice none 0 0) (g12 : a.get 12 = .int .i64 0)
  (hq : ∀ a1 h1 v, a1.n = 126 → Ext hA h1 → OwnE 9 h1 h.next h.nfam ((pickN l (recB l em)).map .string) v → a1.get 11 = v → Q (.exit 8) a1 h1) :
  Th Try.prog (bodyAt Try.f29 [1, 1, 1, 1, 1, 1, 1, 0, 1, 0]) a h Q ⟨⟩ ⟨⟩ := by
 simp only [bodyAt, nav, Try.f29]
 refine loop_go (n := 126) (by kernel_rfl) (fun m' a' h' => ∃ (j : Nat) (v : Value), j ≤ l.length ∧ m' = l.length - j ∧ Ext h h' ∧ OwnE 9 h' h.next h.nfam ((pickN (l.take j) ((recB l em).take j)).map .string) v ∧
  a'.get 1 = .pointer (some ⟨gp, 0, none⟩) ∧ a'.get 4 = .slice (some ⟨eb, 0, none⟩) l.length l.length ∧ a'.get 5 = .slice (some ⟨tb, 0, none⟩) l.length l.length ∧ a'.get 11 = v ∧ a'.get 12 = .int .i64 j) ?_ l.length _ _ hn ⟨0, _, Nat.zero_le _, rfl, Ext.refl _, .inl ⟨by simp [pickN], rfl⟩, g1, g4, g5, g11, g12⟩
 rintro m' a' h' hn' ⟨j, v, hj, rfl, hx, hO', e1, e4, e5, e11, e12⟩
 have hxA := hX.trans hx
 have hrom' : h'.rom = r := hxA.rom.trans hrom
 have hb' : h'.base ≤ h'.next := by rw [hxA.base]; exact Nat.le_trans hbA hxA.next
 have hP' := own_ext hxA hP
 have hE' := own_ext hxA hE
 have hM' := hM.ext hx
 by_cases hlt : j < l.length
 · have hi1 : decide ((j : Int) < (l.length : Int)) = true := decide_eq_true (Int.ofNat_lt.2 hlt)
   have hpi : l[j]? = some l[j] := List.getElem?_eq_getElem hlt
   obtain ⟨Av1, c1', hcs⟩ := (R.hk j _ hpi).shape
   have hat' := R.hat j _ hpi
   have hkid := R.hk j _ hpi
   rw [hcs] at hat' hkid
   have hat2 := roAt_tail hat'
   have hAv := R.hA (ne_nil hlt)
   subst hAv
   obtain ⟨bj, Lj, q1, q2, q3, q4, q5, q6⟩ := hM'.at hlt
   have q6j := q6 j hlt
   have hjr : j < (recB l em).length := by rw [recB_len]; exact hlt
   have hrq : (recB l em)[j] = (getM (closedM l em) j j || idleB (emf (nms l) em) l[j].body) := by simp [recB]
   have hsn := pickN_snoc l (recB l em) j hlt hjr
   have hld : ∀ {h3 : Hp}, h3.rom = r → h3.load ⟨b, o + j * 4, none⟩ = some (.string l[j].name) := by
    intro h3 h3r
    have := load_ro h3r hat' (j := 0) (v := .string l[j].name) rfl
    simpa using this
   have next : ∀ {h3 : Hp}, Ext h' h3 → (recB l em)[j] = true → ∃ v' h7, append' Try.prog (h3.newH (CObj.cells { c := [.string l[j].name], e := 9, fam := 0, base := 0, grown := false })) [25, 25] [v, .slice (some ⟨h3.next, 0, none⟩) 1 1] = some (v', h7) ∧ Ext h h7 ∧ OwnE 9 h7 h.next h.nfam ((pickN (l.take (j + 1)) ((recB l em).take (j + 1))).map .string) v' := by
    intro h3 hx3 hrt
    have hb3 : h3.base ≤ h3.next := by rw [hx3.base]; exact Nat.le_trans hb' hx3.next
    have hW := own_new hb3 9 [.string l[j].name]
    have hX6 := Ext.new h3 (CObj.cells { c := [.string l[j].name], e := 9, fam := 0, base := 0, grown := false })
    have hx06 := hx.trans (hx3.trans hX6)
    have hplen : ((pickN (l.take j) ((recB l em).take j)).map Value.string).length ≤ 100000 := by
     have : ∀ (l : List Rule) (bs : List Bool), (pickN l bs).length ≤ l.length := by
      intro l
      induction l with
      | nil => intro bs; simp [pickN]
      | cons x l ih => intro bs; cases bs with
        | nil => simp [pickN]
        | cons b bs => simp only [pickN]; have := ih bs; cases b <;> simp <;> omega
     have h9 := this (l.take j) ((recB l em).take j)
     rw [List.length_take] at h9
     rw [List.length_map]
     have := R.hb
     omega
    obtain ⟨v', h7, ha7, hO7, hext7, hk7, hn7⟩ := app25 rfl ((hO'.ext hx3).ext hX6) hW (by rw [hX6.base]; exact Nat.le_trans hb3 hX6.next) hx06.next hx06.nfam hplen
    refine ⟨v', h7, ha7, (hext7 (fun _ => False) h (hx06.toS) (Nat.le_refl _) (Nat.le_refl _)).ext (fun _ _ c => c), ?_⟩
    rw [hsn, hrt]
    simpa using hO7
   have stay : (recB l em)[j] = false → pickN (l.take (j + 1)) ((recB l em).take (j + 1)) = pickN (l.take j) ((recB l em).take j) := by
    intro e
    rw [hsn, e]
    simp
   simp -dsimp only [go_sem, e1, e4, e5, e11, e12, hi1]
   refine Dw_text (n := 126) [[], [], [0, 1], [0, 1, 2], [], [0, 1, 2, 3, 4], [0, 1, 2, 3, 4, 5], [0, 1, 2, 3, 4, 5, 6], [0, 1, 2, 3, 4, 5, 6, 7], [0, 1, 2, 3, 4, 5, 6, 7], [0, 1, 2, 3, 4, 5, 6, 7], [0, 1, 2, 3, 4, 5, 6, 7, 10], [0, 1, 2, 3, 4, 5, 6, 7], [0, 1, 2, 3, 4, 5, 6, 7, 10, 11, 12], [0, 1, 2, 3, 4, 5, 6, 7, 10, 11, 12, 13], [0, 1, 2, 3, 4, 5, 6, 7, 10, 11, 12, 13, 14], [0, 1, 2, 3, 4, 5, 6, 7, 8, 9, 10, 11, 12, 13, 14, 15], [0, 1, 2, 3, 4, 5, 6, 7, 8, 9, 10, 11, 12, 13, 14, 15, 16]] (by simp -dsimp only [go_sem, hn']) (by kernel_rfl) ?_
   cases hjj : getM (closedM l em) j j with
   | true =>
     rw [hjj] at q6j hrq
     rw [Bool.true_or] at hrq
     obtain ⟨v', h7, ha7, hx7, hO7⟩ := next (Ext.refl h') hrq
     rw [← e11] at ha7
     simp -dsimp only [go_sem, undef', e1, e4, e5, e12, ia22 hlt, ia108 hlt, ia105 hlt, q5, q6j, load_own hP', hld hrom', bs25 1 (by decide), repeatN, builtin', ha7, wrap64_succ hlt (Nat.le_trans R.hb (by decide))]
     exact ⟨l.length - (j + 1), by omega, j + 1, v', hlt, rfl, hx7, hO7, rfl, rfl⟩
   | false =>
     rw [hjj] at q6j hrq
     rw [Bool.false_or] at hrq
     obtain ⟨_, h5, hs5, rfl, hx5⟩ := idle2_c R (em := em) (eb := eb) hel _ l[j].body (Nat.lt_succ_self _) h' _ hrom' hb' hE' hkid (hnm j _ hpi)
     simp -dsimp only [go_sem, undef', e1, e4, e5, e12, ia22 hlt, ia108 hlt, ia105 hlt, q5, q6j, load_own hP', loads_own hP', loads_ro (n := 3) hrom' hat2 rfl, sameN_sliceA R.hs, sameN_sliceA hkid.same]
     refine ⟨_, h5, hs5, ?_⟩
     simp -dsimp only [go_sem, undef']
     cases hid : idleB (emf (nms l) em) l[j].body with
     | true =>
       rw [hid] at hrq
       obtain ⟨v', h7, ha7, hx7, hO7⟩ := next hx5 hrq
       rw [← e11] at ha7
       simp -dsimp only [go_sem, undef', e1, e4, e5, e12, ia22 hlt, load_own (own_ext hx5 hP'), hld (hx5.rom.trans hrom'), bs25 1 (by decide), repeatN, builtin', ha7, wrap64_succ hlt (Nat.le_trans R.hb (by decide))]
       exact ⟨l.length - (j + 1), by omega, j + 1, v', hlt, rfl, hx7, hO7, rfl, rfl⟩
     | false =>
       rw [hid] at hrq
       simp -dsimp only [go_sem, undef', e1, e4, e5, e12, wrap64_succ hlt (Nat.le_trans R.hb (by decide))]
       refine ⟨l.length - (j + 1), by omega, j + 1, v, hlt, rfl, hx.trans hx5, ?_, e11, rfl⟩
       rw [stay hrq]
       exact hO'.ext hx5
 · have hi0 : decide ((j : Int) < (l.length : Int)) = false := decide_eq_false (by omega)
   have hjn : j = l.length := by omega
   subst hjn
   simp -dsimp only [go_sem, e5, e12, hi0]
   refine hq _ _ v (by simp -dsimp only [go_sem, hn']) hxA ?_ (by simp -dsimp only [go_sem, e11])
   rw [List.take_length, List.take_of_length_le (by rw [recB_len]; exact Nat.le_refl _)] at hO'
   exact hO'
end Go.Ev.G24
end
section
set_option linter.unusedSimpArgs false
set_option linter.unusedVariables false
namespace Go.Ev.G24
open Go.RowKit Go.Proofs
open Go.Proofs.Ytcnllhnhinmokaa.PHGr (plainB atomB)
variable {r : Ro}
def RecP (l : List Rule) (h : Hp) (v : Value) (h1 : Hp) : Prop := Ext h h1 ∧ (if rightG l = true then ∃ (em : List Bool) (nv : Value) (n0 f0 : Nat), Found l em ∧ v = .tuple #[nv, .int .i64 0] ∧ h.next ≤ n0 ∧ h.nfam ≤ f0 ∧ OwnE 9 h1 n0 f0 ((pickN l (recB l em)).map .string) nv
 else v = .tuple #[.slice none 0 0, .int .i64 240])
set_option maxHeartbeats 4000000 in
set_option maxRecDepth 10000 in
theorem refRec_c {l : List Rule} {Av : Option Addr} {c b o : Nat} {css : Nat → List Value} (R : RoRules r l Av c b o css) (hft : fitsG l) (h : Hp) (hrom : h.rom = r) (hb : h.base ≤ h.next) :
  ∃ v h1, Snd Try.prog 29 [.agg #[.slice Av l.length c]] h v h1 ∧ RecP l h v h1 := by
 refine snd_go wf Try.func29 rfl rfl (n := 126) rfl (by kernel_rfl) rfl ?_
 intro a hn hg
 have hr : Try.f29.results.toList = [.tmp 2, .tmp 3] := rfl
 have g0 := hg 0
 clear hg
 simp only [List.getElem?_cons_zero, List.getElem?_cons_succ] at g0
 have hP := own_new hb 24 [.slice Av l.length c]
 have hx0 := Ext.new h (CObj.cells { c := [.slice Av l.length c], e := 24, fam := 0, base := 0, grown := false })
 have hb0 := Nat.le_succ_of_le (m := h.next) hb
 simp -dsimp only [go_sem, g0, loads_own hP]
 generalize h.newH (CObj.cells { c := [.slice Av l.length c], e := 24, fam := 0, base := 0, grown := false }) = h2 at hP hx0 ⊢
 have hb2 : h2.base ≤ h2.next := by rw [hx0.base]; exact Nat.le_trans hb hx0.next
 obtain ⟨_, h3, hs3, rfl, hx3⟩ := ref_Right_c R hft h2 (hx0.rom.trans hrom) hb2
 refine ⟨_, h3, hs3, ?_⟩
 rw [refRightG_eq]
 have hP3 := own_ext hx3 hP
 have hx03 := hx0.trans hx3
 have hb3 : h3.base ≤ h3.next := by rw [hx03.base]; exact Nat.le_trans hb hx03.next
 cases hrg : rightG l with
 | false =>
   simp -dsimp only [go_sem, hr]
   exact ⟨hx03, by rw [if_neg (by rw [hrg]; simp)]⟩
 | true =>
   obtain ⟨hfr, hnm⟩ := rightG_named hrg
   have hrl : rightRs (nms l) l = true := by
    have := hrg
    rw [rightG, Bool.and_eq_true, Bool.and_eq_true] at this
    exact this.2
   have hpos : 0 < l.length := by
    have := hrg
    rw [rightG, Bool.and_eq_true, Bool.and_eq_true] at this
    have := this.1.2
    simp at this
    exact List.length_pos_iff.2 this
   simp -dsimp only [go_sem, loads_own hP3]
   obtain ⟨_, h4, hs4, hx4, eb, em, rfl, heb, hE, hel, hF⟩ := empties_c R hnm h3 (hx03.rom.trans hrom) hb3
   refine ⟨_, h4, hs4, ?_⟩
   have hx04 := hx03.trans hx4
   have hb4 : h4.base ≤ h4.next := by rw [hx04.base]; exact Nat.le_trans hb hx04.next
   have hP4 := own_ext hx4 hP3
   try simp -dsimp only [go_sem]
   refine rr_rows R (rightRs_get hrl) (em := em) (eb := eb) (gp := h.next) hel (hx04.rom.trans hrom) hb4 hE hP4 (by simp -dsimp only [go_sem, hn]) (by simp -dsimp only [go_sem]) (by simp -dsimp only [go_sem]) (by simp -dsimp only [go_sem]) (by simp -dsimp only [go_sem]) (fun a5 h5 bs v5 hn5 hx5 hM5 hO5 f1 f4 f5 => ?_)
   try simp -dsimp only [go_sem]
   rcases hO5 with ⟨e0, _⟩ | ⟨tb, f, hne, rfl, hrow, htb, hf⟩
   · exfalso
     have := congrArg List.length e0
     rw [List.length_map, hM5.lb, List.length_nil] at this
     omega
   rw [List.length_map, hM5.lb] at f5
   have hMR : MatR h5 h4.next tb l.length f bs (l.map (rowB l em)) := ⟨hrow, hM5.lb, hM5.lM, hM5.rows, hM5.dis, htb, fun i b e => (hM5.lo i b e).1⟩
   refine rr_k R.hb (hA := h4) rfl (x1 := .pointer (some ⟨h.next, 0, none⟩)) (x4 := .slice (some ⟨eb, 0, none⟩) l.length l.length) (by simp -dsimp only [go_sem, hn5]) hx5 hMR (by simp -dsimp only [go_sem, f1]) (by simp -dsimp only [go_sem, f4]) (by simp -dsimp only [go_sem, f5]) (by simp -dsimp only [go_sem]) (fun a6 h6 hn6 hx6 hM6 k1 k4 k5 => ?_)
   simp -dsimp only [go_sem]
   refine rr_out R hnm (em := em) (eb := eb) (gp := h.next) hel (hA := h4) (hx04.rom.trans hrom) hb4 rfl rfl hE hP4 hx6 hM6 (by simp -dsimp only [go_sem, hn6]) (by simp -dsimp only [go_sem, k1]) (by simp -dsimp only [go_sem, k4]) (by simp -dsimp only [go_sem, k5]) (by simp -dsimp only [go_sem]) (by simp -dsimp only [go_sem]) (fun a7 h7 v7 hn7 hx7 hO7 q11 => ?_)
   simp -dsimp only [go_sem, q11, hr]
   refine ⟨hx04.trans hx7, ?_⟩
   rw [if_pos hrg]
   exact ⟨em, v7, _, _, hF, rfl, Nat.le_trans hx04.next hx6.next, Nat.le_trans hx04.nfam hx6.nfam, hO7⟩
theorem pickN_nil : ∀ (l : List Rule) (bs : List Bool), bs.length = l.length → decide ((pickN l bs).length = 0) = !bs.any (true == ·)
 | [], [], _ => rfl
 | x :: l, b :: bs, h => by
   have ih := pickN_nil l bs (by simpa using h)
   cases b
   · simpa [pickN] using ih
   · simp [pickN]
def FineP (l : List Rule) (h : Hp) (v : Value) (h1 : Hp) : Prop := Ext h h1 ∧ (if rightG l = true then ∃ em : List Bool, Found l em ∧ v = .bool (fineB l em) else v = .bool false)
set_option maxHeartbeats 4000000 in
set_option maxRecDepth 10000 in
theorem refFine_c {l : List Rule} {Av : Option Addr} {c b o : Nat} {css : Nat → List Value} (R : RoRules r l Av c b o css) (hft : fitsG l) (h : Hp) (hrom : h.rom = r) (hb : h.base ≤ h.next) :
  ∃ v h1, Snd Try.prog 38 [.agg #[.slice Av l.length c]] h v h1 ∧ FineP l h v h1 := by
 refine snd_go wf Try.func38 rfl rfl (n := 17) rfl (by kernel_rfl) rfl ?_
 intro a hn hg
 have hr : Try.f38.results.toList = [.tmp 2] := rfl
 have g0 := hg 0
 clear hg
 simp only [List.getElem?_cons_zero, List.getElem?_cons_succ] at g0
 have hP := own_new hb 24 [.slice Av l.length c]
 have hx0 := Ext.new h (CObj.cells { c := [.slice Av l.length c], e := 24, fam := 0, base := 0, grown := false })
 simp -dsimp only [go_sem, g0, loads_own hP]
 generalize h.newH (CObj.cells { c := [.slice Av l.length c], e := 24, fam := 0, base := 0, grown := false }) = h2 at hP hx0 ⊢
 have hb2 : h2.base ≤ h2.next := by rw [hx0.base]; exact Nat.le_trans hb hx0.next
 obtain ⟨_, h3, hs3, hx3, hv⟩ := refRec_c R hft h2 (hx0.rom.trans hrom) hb2
 refine ⟨_, h3, hs3, ?_⟩
 by_cases hrg : rightG l = true
 · rw [if_pos hrg] at hv
   obtain ⟨em, nv, n0, f0, hF, rfl, _, _, hO⟩ := hv
   obtain ⟨A, rfl⟩ := hO.len
   have h00 : decide ((0 : Int) = 0) = true := rfl
   simp -dsimp only [go_sem, undef', h00, decide_true, hr]
   refine ⟨hx0.trans hx3, ?_⟩
   rw [if_pos hrg]
   refine ⟨em, hF, ?_⟩
   rw [fineB, ← pickN_nil l _ (recB_len l em), List.length_map]
   congr 1
   rw [decide_eq_decide]
   omega
 · rw [if_neg hrg] at hv
   subst hv
   have h24 : decide ((240 : Int) = 0) = false := rfl
   simp -dsimp only [go_sem, undef', h24, hr]
   exact ⟨hx0.trans hx3, by rw [if_neg hrg]⟩
end Go.Ev.G24
end
section
set_option linter.unusedSimpArgs false
set_option linter.unusedVariables false
namespace Go.Ev.G24
open Go.RowKit Go.Proofs
variable {h h1 h2 : Hp} {B F B' F' : Nat → Prop}
def NoRow (h : Hp) (S : Nat → Prop) : Prop := ∀ b cs f, RowAt h b cs f → ¬ S b
theorem rowAt_obj {b : Nat} {cs : List Value} {f : Nat} (k : RowAt h b cs f) : ∃ r, h.objs.get b = some (.cells r) ∧ r.e = 31 := by
 have : RowE 31 h b cs f := ⟨k.lo, k.lt, k.row, k.fl⟩
 exact rowE_obj this
theorem noRow_own {b : Nat} {e : TypeId} {c : List Value} (o : h.own b e c) (he : e ≠ 31) : NoRow h (Only b) := by
 intro b' cs f k hb
 have hb' : b' = b := hb
 subst hb'
 obtain ⟨r, h1, h2⟩ := rowAt_obj k
 rw [o.2.2] at h1
 injection h1 with h1
 injection h1 with h1
 rw [← h1] at h2
 exact he h2
theorem keepsN {S : Nat → Prop} (x : ExtS S h h1) (n : NoRow h S) : Keeps (fun _ => False) (fun _ => False) h h1 :=
 ⟨x.base, x.ro, x.next, x.nfam, fun b cs f k _ _ => (keepsS x).rows b cs f k (n b cs f k) (fun c => c)⟩
theorem Keeps.any (x : Keeps (fun _ => False) (fun _ => False) h h1) : Keeps B F h h1 := x.mono (fun _ _ c => c.elim) (fun _ _ _ c => c.elim) (fun c => c)
theorem Mine.slice {n0 f0 : Nat} {l : List Part} {v : Value} (M : Mine h n0 f0 B F l v) : ∃ A n c, v = .slice A n c ∧ spotless A = true := by
 rcases M with ⟨_, rfl⟩ | ⟨_, _, _, _, _, rfl, _⟩ <;> exact ⟨_, _, _, rfl, rfl⟩
theorem KidsAt.slice {l : List Part} {v : Value} (k : KidsAt h B F l v) : ∃ A c, v = .slice A l.length c ∧ spotless A = true := by
 obtain ⟨Av, c, b, o, f, row, css, rfl, hc, hs, _⟩ := k
 exact ⟨Av, c, rfl, hs⟩
theorem kids_new {b : Nat} {d t : ByteArray} {l : List Part} {kv : Value} (o : h.own b 31 [.string d, .string t, kv]) (hB : ¬ B b) (hF : ¬ F 0) (k : KidsAt h B F l kv) : KidsAt h B F [⟨d, t, l⟩] (.slice (some ⟨b, 0, none⟩) 1 1) := by
 refine ⟨_, _, b, 0, 0, _, fun _ => [.string d, .string t, kv], rfl, Nat.le_refl _, rfl, fun _ => ⟨rfl, ⟨o.1, o.2.1, ⟨0, false, row_own o⟩, fun e => absurd rfl e⟩, hB, hF⟩, fun j p hj => ?_, fun j p hj => ?_⟩
 · have : j = 0 := by
    have := (List.getElem?_eq_some_iff.1 hj).1
    simpa using this
   subst this
   rfl
 · have : j = 0 := by
    have := (List.getElem?_eq_some_iff.1 hj).1
    simpa using this
   subst this
   simp only [List.getElem?_cons_zero, Option.some.injEq] at hj
   subst hj
   exact k.tree
end Go.Ev.G24
end
section
set_option linter.unusedSimpArgs false
set_option linter.unusedVariables false
namespace Go.Ev.G24
open Go.RowKit Go.Proofs
variable {h h1 h2 : Hp} {e : TypeId} {s : Nat}
def OwnG (e : TypeId) (s : Nat) (h : Hp) (n0 f0 : Nat) (n : Nat) (cs : List Value) (v : Value) : Prop := (n = 0 ∧ cs = [] ∧ v = .slice none 0 0) ∨
 ∃ b f, v = .slice (some ⟨b, 0, none⟩) n n ∧ RowE e h b cs f ∧ cs.length = n * s ∧ n0 ≤ b ∧ (f ≠ 0 → f0 ≤ f)
theorem OwnG.len {n0 f0 n : Nat} {cs : List Value} {v : Value} (k : OwnG e s h n0 f0 n cs v) : cs.length = n * s := by
 rcases k with ⟨rfl, rfl, _⟩ | ⟨b, f, _, _, h1, _⟩
 · simp
 · exact h1
theorem OwnG.slice {n0 f0 n : Nat} {cs : List Value} {v : Value} (k : OwnG e s h n0 f0 n cs v) : ∃ A, v = .slice A n n ∧ spotless A = true := by
 rcases k with ⟨rfl, _, rfl⟩ | ⟨b, f, rfl, _⟩
 · exact ⟨_, rfl, rfl⟩
 · exact ⟨_, rfl, rfl⟩
theorem OwnG.ext {S : Nat → Prop} (x : ExtS S h h1) {n0 f0 n : Nat} {cs : List Value} {v : Value} (k : OwnG e s h n0 f0 n cs v) (hS : ∀ b, ownB v b → ¬ S b) : OwnG e s h1 n0 f0 n cs v := by
 rcases k with ⟨rfl, rfl, rfl⟩ | ⟨b, f, rfl, hr, hl, hb, hf⟩
 · exact .inl ⟨rfl, rfl, rfl⟩
 · exact .inr ⟨b, f, rfl, rowE_keep x hr (hS b rfl), hl, hb, hf⟩
theorem rowE_fam {b f : Nat} {cs : List Value} (k : RowE e h b cs f) {r : Row} (hr : h.row b = some r) : r.fam = f := by
 obtain ⟨bs, g, h2⟩ := k.row
 rw [hr] at h2
 injection h2 with h2
 rw [h2]
theorem ownF_eqE {b f n c : Nat} {cs : List Value} (k : RowE e h b cs f) (q : Nat) : ownF h (.slice (some ⟨b, 0, none⟩) n c) q ↔ (q = f ∧ f ≠ 0) := by
 constructor
 · rintro ⟨h1, r, h2, h3⟩
   have := rowE_fam k h2
   exact ⟨by rw [← h3, this], by rw [← this, h3]; exact h1⟩
 · rintro ⟨rfl, h1⟩
   obtain ⟨bs, g, h2⟩ := k.row
   exact ⟨h1, _, h2, rfl⟩
theorem OwnG.lt {n0 f0 n : Nat} {cs : List Value} {v : Value} (k : OwnG e s h n0 f0 n cs v) {x : Nat} (hx : ownB v x) : n0 ≤ x ∧ x < h.next := by
 rcases k with ⟨rfl, rfl, rfl⟩ | ⟨b, f, rfl, hr, hl, hb, hf⟩
 · exact hx.elim
 · have : x = b := hx
   rw [this]; exact ⟨hb, hr.lt⟩
theorem OwnG.flt {n0 f0 n : Nat} {cs : List Value} {v : Value} (k : OwnG e s h n0 f0 n cs v) {q : Nat} (hq : ownF h v q) : q ≠ 0 ∧ f0 ≤ q ∧ q < h.nfam := by
 rcases k with ⟨rfl, rfl, rfl⟩ | ⟨b, f, rfl, hr, hl, hb, hf⟩
 · exact hq.elim
 · obtain ⟨rfl, h2⟩ := (ownF_eqE hr q).1 hq
   exact ⟨h2, hf h2, hr.fl h2⟩
theorem OwnG.ownF_same {S : Nat → Prop} {n0 f0 n : Nat} {cs : List Value} {v : Value} (k : OwnG e s h n0 f0 n cs v) (x : ExtS S h h1) (hS : ∀ b, ownB v b → ¬ S b) {q : Nat} (hq : ownF h1 v q) : ownF h v q := by
 rcases k with ⟨rfl, rfl, rfl⟩ | ⟨b, f, rfl, hr, hl, hb, hf⟩
 · exact hq.elim
 · exact (ownF_eqE hr q).2 ((ownF_eqE (rowE_keep x hr (hS b rfl)) q).1 hq)
def KeepsE (B F : Nat → Prop) (h h1 : Hp) : Prop := ∀ e b cs f, RowE e h b cs f → ¬ B b → ¬ F f → RowE e h1 b cs f
theorem grow_rows {h' : Hp} {b f : Nat} (e1 : h'.base = h.base) (e3 : h'.next = h.next + 1) (e4 : h.nfam ≤ h'.nfam)
  (e5 : ∀ x, x < h.next → x ≠ b → h'.objs.get x = h.objs.get x) (e6 : ∀ q, q < h.nfam → ¬ (q = f ∧ f ≠ 0) → h'.fams.get q = h.fams.get q) : KeepsE (fun x => x = b) (fun q => q = f ∧ f ≠ 0) h h' := by
 intro e d cs q k hb hf
 refine ⟨by rw [e1]; exact k.lo, by have := k.lt; omega, ?_, fun c => Nat.lt_of_lt_of_le (k.fl c) e4⟩
 obtain ⟨bs, g, hr⟩ := k.row
 refine ⟨bs, g, ?_⟩
 have hfam := rowE_fam k hr
 unfold Hp.row at hr ⊢
 rw [e5 d k.lt hb]
 cases hg : h.objs.get d with
 | none => rw [hg] at hr; cases hr
 | some ob =>
   rw [hg] at hr
   cases ob with
   | cells r =>
     simp only at hr ⊢
     cases hrf : r.fam with
     | zero => rw [hrf] at hr; exact hr
     | succ z =>
       rw [hrf] at hr
       simp only at hr ⊢
       have hre : r = ⟨cs, e, q, bs, g⟩ := by
        split at hr
        · split at hr
          · injection hr
          · cases hr
        · cases hr
       have hqz : q = z + 1 := by rw [← hrf, hre]
       rw [e6 (z + 1) (by rw [← hqz]; exact k.fl (by omega)) (by rw [← hqz]; exact hf)]
       exact hr
   | map es k => cases hr
   | sIter s p => cases hr
   | mIter a b c d => cases hr
set_option maxRecDepth 10000 in
theorem ownG_append {t : TypeId} {z : Value} (hu : Try.prog.underlying t = some (.slice e)) (hs : sizeOf' Try.prog e = some s) (hz : zero' Try.prog e = some z) (hzl : Nat.beq z.cells.toList.length s = true ∧ 0 < s)
  (hby : (match Try.prog.info? e with | some i => Nat.ble i.bytes 100000 && Nat.blt 0 i.bytes | none => false) = true) (hni : noInt Try.prog [t] = true)
  {n0 f0 n m : Nat} {cs new : List Value} {v w : Value} (k : OwnG e s h n0 f0 n cs v) (hn : lenOf' w = some m) (hf1 : first' h s m w = some new) (hx1 : new.all oneCell = true) (hnl : new.length = m * s) (hb : h.base ≤ h.next) (hn0 : n0 ≤ h.next) (hf0 : f0 ≤ h.nfam) (hsz : n + m ≤ 1000000) :
  ∃ v' h', append' Try.prog h [t, t] [v, w] = some (v', h') ∧ OwnG e s h' n0 f0 (n + m) (cs ++ new) v' ∧ (∀ (S : Nat → Prop) (h0 : Hp), ExtS S h0 h → h0.next ≤ n0 → h0.nfam ≤ f0 → ExtS S h0 h') ∧
   Keeps (ownB v) (ownF h v) h h' ∧ (∀ x, ownB v' x → ownB v x ∨ h.next ≤ x) ∧ (∀ q, ownF h' v' q → ownF h v q ∨ h.nfam ≤ q) ∧ (∀ b' e' c', e' ≠ e → h.own b' e' c' → h'.own b' e' c') ∧ KeepsE (ownB v) (ownF h v) h h' := by
 have hapd : ∀ {base : Option Addr} {len cap : Nat}, len + m ≤ 1000000 → len ≤ cap → append' Try.prog h [t, t] [.slice base len cap, w] = apd h e s base len cap m new := fun h1 h2 =>
  append_of hu hs hz hzl hby h hn hf1 h1 h2 hx1 hnl hni
 by_cases hm : m = 0
 · subst hm
   have hnew : new = [] := List.length_eq_zero_iff.1 (by simpa using hnl)
   subst hnew
   have same : ∀ {base : Option Addr} {len : Nat}, len + 0 ≤ 1000000 → append' Try.prog h [t, t] [.slice base len len, w] = some (.slice base len len, h) := by
    intro base len h1
    rw [hapd h1 (Nat.le_refl _)]
    have : Nat.ble (len + 0) len = true := by simp
    unfold apd
    rw [this]
    cases base with
    | none => rfl
    | some a => simp only [Hp.stores]; rfl
   obtain ⟨A, rfl, _⟩ := k.slice
   exact ⟨_, _, same (by simpa using hsz), by simpa using k, fun _ _ x _ _ => x, ⟨rfl, rfl, Nat.le_refl _, Nat.le_refl _, fun _ _ _ k _ _ => k⟩, fun _ c => .inl c, fun _ c => .inl c, fun _ _ _ _ o => o, fun _ _ _ _ k _ _ => k⟩
 have hm : 0 < m := Nat.pos_of_ne_zero hm
 rcases k with ⟨rfl, rfl, rfl⟩ | ⟨b, f, rfl, hr, hl, hb0, hf⟩
 · have hx := Ext.new h (CObj.cells { c := new, e := e, fam := 0, base := 0, grown := true })
   have hrow : RowE e (h.newH (CObj.cells { c := new, e := e, fam := 0, base := 0, grown := true })) h.next new 0 := by
    refine ⟨hb, Nat.lt_succ_self _, ⟨0, true, ?_⟩, fun e => absurd rfl e⟩
    simp only [Hp.row, get_newH, if_true]
   refine ⟨.slice (some ⟨h.next, 0, none⟩) m m, h.newH (CObj.cells { c := new, e := e, fam := 0, base := 0, grown := true }), ?_, ?_, fun S h0 q _ _ => q.trans hx.toS, (keepsE hx).any, fun x c => .inr (by have c' : x = h.next := c; omega), fun q c => ?_, fun b' e' c' _ o => own_ext hx o, fun _ _ _ _ k _ _ => rowE_keep (S := fun _ => False) hx.toS k (fun c => c)⟩
   · rw [hapd (by simpa using hsz) (Nat.le_refl _)]
     have : Nat.ble (0 + m) 0 = false := by
      cases e : Nat.ble (0 + m) 0 with
      | false => rfl
      | true => have := Nat.le_of_ble_eq_true e; omega
     simp only [apd, this, Hp.grownRow, new_eq]
   · exact .inr ⟨h.next, 0, by rw [Nat.zero_add], by simpa using hrow, by simpa using hnl, hn0, fun e => absurd rfl e⟩
   · exact absurd rfl ((ownF_eqE hrow q).1 c).2
 · obtain ⟨bs, g, hrow⟩ := hr.row
   have hld : h.loads ⟨b, 0, none⟩ (n * s) = some cs := by
    rw [rowE_loads hr, List.drop_zero, ← hl]
    exact takeN_all _
   have hc : Nat.ble (n + m) n = false := ble_false (by omega)
   have hbeq : Nat.beq e e = true := by simp
   have happ := hapd (base := some ⟨b, 0, none⟩) hsz (Nat.le_refl n)
   have fin : ∀ (f' : Nat) (h' : Hp), apd h e s (some ⟨b, 0, none⟩) n n m new = some (.slice (some ⟨h.next, 0, none⟩) (n + m) (n + m), h') → RowE e h' h.next (cs ++ new) f' → (f' = f ∧ f ≠ 0 ∨ f' = h.nfam) → h'.base = h.base → h'.ro = h.ro → h'.next = h.next + 1 → h.nfam ≤ h'.nfam → (∀ y, y < h.next → y ≠ b → h'.objs.get y = h.objs.get y) → (∀ q, q < h.nfam → ¬ (q = f ∧ f ≠ 0) → h'.fams.get q = h.fams.get q) →
     ∃ v' h', append' Try.prog h [t, t] [.slice (some ⟨b, 0, none⟩) n n, w] = some (v', h') ∧ OwnG e s h' n0 f0 (n + m) (cs ++ new) v' ∧ (∀ (S : Nat → Prop) (h0 : Hp), ExtS S h0 h → h0.next ≤ n0 → h0.nfam ≤ f0 → ExtS S h0 h') ∧
      Keeps (ownB (.slice (some ⟨b, 0, none⟩) n n)) (ownF h (.slice (some ⟨b, 0, none⟩) n n)) h h' ∧ (∀ x, ownB v' x → ownB (.slice (some ⟨b, 0, none⟩) n n) x ∨ h.next ≤ x) ∧ (∀ q, ownF h' v' q → ownF h (.slice (some ⟨b, 0, none⟩) n n) q ∨ h.nfam ≤ q) ∧ (∀ b' e' c', e' ≠ e → h.own b' e' c' → h'.own b' e' c') ∧ KeepsE (ownB (.slice (some ⟨b, 0, none⟩) n n)) (ownF h (.slice (some ⟨b, 0, none⟩) n n)) h h' := by
    intro f' h' a1 a2 a3 e1 e2 e3 e4 e5 e6
    have hf' : f' ≠ 0 → f0 ≤ f' := by
     intro c
     rcases a3 with ⟨rfl, q⟩ | rfl
     · exact hf q
     · exact hf0
    refine ⟨_, h', by rw [happ, a1], .inr ⟨h.next, f', rfl, a2, by rw [List.length_append, hl, hnl, Nat.add_mul], hn0, hf'⟩, fun S h0 q q1 q2 => grow_extS q (Nat.le_trans q1 hb0) (fun c => Nat.le_trans q2 (hf c)) e1 e2 e3 e4 e5 e6, (grow_keeps e1 e2 e3 e4 e5 e6).mono (fun x _ c => c) (fun q _ _ c => (ownF_eqE hr q).2 c) (fun c => c.2 c.1.symm), fun x c => .inr (by have c' : x = h.next := c; omega), fun q c => ?_, fun b' e' c' hne o => ?_, fun e' d cs' q k hb hf => grow_rows e1 e3 e4 e5 e6 e' d cs' q k hb (fun c => hf ((ownF_eqE hr q).2 c))⟩
    · obtain ⟨rfl, c2⟩ := (ownF_eqE a2 q).1 c
      rcases a3 with ⟨rfl, d⟩ | rfl
      · exact .inl ((ownF_eqE hr q).2 ⟨rfl, d⟩)
      · exact .inr (Nat.le_refl _)
    · have hbb := rowE_ne hr o hne
      exact ⟨by rw [e1]; exact o.1, by have := o.2.1; omega, by rw [e5 b' o.2.1 hbb]; exact o.2.2⟩
   cases hfe : f with
   | zero =>
     subst hfe
     refine fin h.nfam { h with
      objs := (h.objs.put b (.cells ⟨cs, e, h.nfam, bs, g⟩)).put h.next (.cells ⟨cs ++ new, e, h.nfam, bs + 0, true⟩)
      next := h.next + 1
      fams := h.fams.put h.nfam (⟨h.next, bs + 0, bs + 0 + (cs ++ new).length⟩ :: stays b bs (bs + cs.length) (bs + 0 + n * s))
      nfam := h.nfam + 1 } ?_ ?_ (.inr rfl) rfl rfl rfl (Nat.le_succ _) ?_ ?_
     · simp only [apd, hc, hrow, hld, grow', hbeq]
     · refine ⟨by have := hr.lo; have := hr.lt; show h.base ≤ h.next; omega, Nat.lt_succ_self _, ⟨bs + 0, true, ?_⟩, fun _ => Nat.lt_succ_self _⟩
       simp only [Hp.row, Tr.get_put, if_true]
       cases hnf : h.nfam with
       | zero => rfl
       | succ q => simp only [Tr.get_put, if_true, List.any_cons, beq_nat, Bool.true_or]
     · intro x hx hxb
       simp only [Tr.get_put, if_neg (Nat.ne_of_lt hx), if_neg hxb]
     · intro q hq _
       simp only [Tr.get_put, if_neg (Nat.ne_of_lt hq)]
   | succ q0 =>
     subst hfe
     have hfm : ∃ l, h.fams.get (q0 + 1) = some l := by
      have hrow2 := hrow
      unfold Hp.row at hrow2
      split at hrow2
      · rename_i r hg
        split at hrow2
        · rename_i e0
          injection hrow2 with hrow2
          rw [hrow2] at e0
          cases e0
        · rename_i f0' e0
          split at hrow2
          · rename_i l hl0
            split at hrow2
            · injection hrow2 with hrow2
              rw [hrow2] at e0
              have e1 : q0 + 1 = f0' + 1 := e0
              exact ⟨l, by rw [e1]; exact hl0⟩
            · cases hrow2
          · cases hrow2
      · cases hrow2
     obtain ⟨l, hl0⟩ := hfm
     refine fin (q0 + 1) { h with
      objs := h.objs.put h.next (.cells ⟨cs ++ new, e, q0 + 1, bs + 0, true⟩)
      next := h.next + 1
      fams := h.fams.put (q0 + 1) (⟨h.next, bs + 0, bs + 0 + (cs ++ new).length⟩ :: l.filter fun m => Nat.ble m.hi (bs + 0 + n * s)) } ?_ ?_ (.inl ⟨rfl, by omega⟩) rfl rfl rfl (Nat.le_refl _) ?_ ?_
     · simp only [apd, hc, hrow, hld, grow', hbeq, hl0]
     · refine ⟨by have := hr.lo; have := hr.lt; show h.base ≤ h.next; omega, Nat.lt_succ_self _, ⟨bs + 0, true, ?_⟩, fun e => hr.fl e⟩
       simp only [Hp.row, Tr.get_put, if_true, List.any_cons, beq_nat, Bool.true_or]
     · intro x hx _
       simp only [Tr.get_put, if_neg (Nat.ne_of_lt hx)]
     · intro q hq hqf
       have : ¬ q = q0 + 1 := fun e => hqf ⟨e, by omega⟩
       simp only [Tr.get_put, if_neg this]
end Go.Ev.G24
end
section
set_option linter.unusedSimpArgs false
set_option linter.unusedVariables false
namespace Go.Ev.G24
open Go.RowKit Go.Proofs
variable {r : Ro} {G : List Rule} {items : List ByteArray} {Gv Iv : Option Addr} {gc ic xb : Nat}
def low (s : Int) : Int := if s < 0 then s - 1 else -((s + 1) * 100001)
def pRow (G : List Rule) (items : List ByteArray) (Gv Iv : Option Addr) (gc ic far : Nat) (s : Int) : List Value := [.slice Gv G.length gc, .slice Iv items.length ic, .int .i64 (far : Int), .int .i64 s]
def ResV (h : Hp) (B F : Nat → Prop) (o : Option (List Part × Nat)) (v : Value) : Prop := match o with
 | some (ks, e) => ∃ kv, v = .tuple #[kv, .int .i64 (e : Int), .bool true] ∧ KidsAt h B F ks kv
 | none => ∃ A n c e, v = .tuple #[.slice A n c, .int .i64 e, .bool false] ∧ spotless A = true
def RefL (G : List Rule) (items : List ByteArray) (Gv Iv : Option Addr) (gc ic xb : Nat) (t : Task) (far : Nat) (s lb : Int) (h : Hp) (v : Value) (h1 : Hp) : Prop := ∃ (far' : Nat) (s' : Int), ExtS (Only xb) h h1 ∧ h1.own xb 71 (pRow G items Gv Iv gc ic far' s') ∧ far' ≤ items.length ∧
 ((∃ k o, run G items k t = some o ∧ s' = s - (o.2.1 : Int) ∧ 0 ≤ s' ∧ far' = max far o.2.2 ∧ ResV h1 (fun b => b < h.next) (fun f => f ≠ 0 ∧ f < h.nfam) o.1 v) ∨
   (s' < 0 ∧ lb ≤ s' ∧ ∃ A n c e, v = .tuple #[.slice A n c, .int .i64 e, .bool false] ∧ spotless A = true))
theorem ResV.more {h : Hp} {B F B' F' : Nat → Prop} (hB : ∀ b, b < h.next → B' b → B b) (hF : ∀ f, F' f → F f ∨ (f ≠ 0 ∧ h.nfam ≤ f)) {o : Option (List Part × Nat)} {v : Value} (k : ResV h B F o v) : ResV h B' F' o v := by
 cases o with
 | none => exact k
 | some x =>
   obtain ⟨kv, h1, h2⟩ := k
   exact ⟨kv, h1, h2.more hB hF⟩
theorem RefL.pre {t : Task} {far : Nat} {s lb : Int} {h h2 : Hp} {v : Value} {h1 : Hp} (x : Ext h h2) (k : RefL G items Gv Iv gc ic xb t far s lb h2 v h1) : RefL G items Gv Iv gc ic xb t far s lb h v h1 := by
 obtain ⟨far', s', a1, a2, a3, a4⟩ := k
 refine ⟨far', s', x.toS.trans a1, a2, a3, ?_⟩
 rcases a4 with ⟨k, o, b1, b2, b3, b4, b5⟩ | b
 · exact .inl ⟨k, o, b1, b2, b3, b4, b5.more (fun b _ c => Nat.lt_of_lt_of_le c x.next) (fun f c => .inl ⟨c.1, Nat.lt_of_lt_of_le c.2 x.nfam⟩)⟩
 · exact .inr b
theorem RefL.plus {t t' : Task} {far : Nat} {s s0 lb : Int} {h : Hp} {v : Value} {h1 : Hp} (e : s = s0 - 1) (st : ∀ k o, run G items k t = some o → ∃ k', run G items k' t' = some (plus1 o)) (k : RefL G items Gv Iv gc ic xb t far s lb h v h1) : RefL G items Gv Iv gc ic xb t' far s0 lb h v h1 := by
 obtain ⟨far', s', a1, a2, a3, a4⟩ := k
 refine ⟨far', s', a1, a2, a3, ?_⟩
 rcases a4 with ⟨k, o, b1, b2, b3, b4, b5⟩ | b
 · obtain ⟨k', hk'⟩ := st k o b1
   refine .inl ⟨k', plus1 o, hk', ?_, b3, b4, b5⟩
   simp only [plus1]
   omega
 · exact .inr b
end Go.Ev.G24
end
section
set_option linter.unusedSimpArgs false
set_option linter.unusedVariables false
namespace Go.Ev.G24
open Go.RowKit Go.Proofs
variable {G : List Rule} {items : List ByteArray} {h h1 h2 : Hp} {B F B' F' : Nat → Prop}
def keyV (i q : Nat) : Value := .agg #[.int .i64 (i : Int), .int .i64 (q : Int)]
theorem sh145 : Try.prog.stoodInHeld 145 = false := by kernel_rfl
theorem int_beq (a b : Nat) : intEq (a : Int) (b : Int) = decide (a = b) := by
 have h : intEq (a : Int) (b : Int) = decide ((a : Int) = (b : Int)) := intEq_dec _ _
 rw [h, decide_eq_decide]
 omega
theorem n1rule : ("rule" == "_") = false := by decide
theorem n1place : ("place" == "_") = false := by decide
set_option maxRecDepth 10000 in
theorem eqv_key (h : Hp) (i q j p : Nat) : eqv Try.prog h 40 145 (keyV i q) (keyV j p) = some (decide (i = j) && decide (q = p)) := by
 simp only [eqv, keyV, Try.underlying145, sh145, List.foldr, part, Try.underlying3, n1rule, n1place, kindEq, List.getElem?_cons_zero, List.getElem?_cons_succ]
 simp only [int_beq]
 by_cases c1 : i = j <;> by_cases c2 : q = p <;> simp [c1, c2]
set_option maxRecDepth 10000 in
theorem keyOk_key (i q : Nat) : keyOk Try.prog 40 145 (keyV i q) = true := by
 simp only [keyOk, keyV, Try.underlying145, part, Try.underlying3, List.all_cons, List.all_nil, n1rule, n1place, List.getElem?_cons_zero, List.getElem?_cons_succ, Bool.and_true]
abbrev Memo := List (Nat × Nat × Value)
def MemoAt (h : Hp) (m : Nat) (l : Memo) : Prop := m < h.next ∧ ∃ es n, h.objs.get m = some (.map es n) ∧ es.map (fun e => (e.key, e.val)) = l.map (fun x => (keyV x.1 x.2.1, x.2.2))
def findM : Memo → Nat → Nat → Nat → Option (Nat × Value)
 | [], _, _, _ => none
 | (j, p, v) :: l, i, q, k => if i = j ∧ q = p then some (k, v) else findM l i q (k + 1)
theorem find_memo (h : Hp) (i q : Nat) : ∀ (l : Memo) (es : List MapEntry) (k : Nat), es.map (fun e => (e.key, e.val)) = l.map (fun x => (keyV x.1 x.2.1, x.2.2)) → find' Try.prog h 145 (keyV i q) es k = some (findM l i q k)
 | [], [], k, _ => rfl
 | [], e :: es, k, hh => by simp at hh
 | x :: l, [], k, hh => by simp at hh
 | (j, p, v) :: l, e :: es, k, hh => by
   simp only [List.map_cons, List.cons.injEq, Prod.mk.injEq] at hh
   obtain ⟨⟨h1, h2⟩, h3⟩ := hh
   simp only [find', h1, eqv_key, findM]
   by_cases c : i = j ∧ q = p
   · rw [if_pos c, c.1, c.2]
     simp [h2]
   · rw [if_neg c]
     have : (decide (i = j) && decide (q = p)) = false := by
      rw [Bool.eq_false_iff]
      intro e
      rw [Bool.and_eq_true] at e
      exact c ⟨of_decide_eq_true e.1, of_decide_eq_true e.2⟩
     rw [this]
     exact find_memo h i q l es (k + 1) h3
theorem MemoAt.extS {S : Nat → Prop} (x : ExtS S h h1) {m : Nat} {l : Memo} (k : MemoAt h m l) (hm : ¬ S m) : MemoAt h1 m l :=
 ⟨Nat.lt_of_lt_of_le k.1 x.next, by rw [x.objs m k.1 hm]; exact k.2⟩
theorem MemoAt.lookup {m : Nat} {l : Memo} (k : MemoAt h m l) (i q : Nat) : lookup' Try.prog h 126 (.map (some m)) (keyV i q) true =
  some (match findM l i q 0 with | some x => .tuple #[x.2, .bool true] | none => .tuple #[.agg #[.bool false, .int .i64 0, .slice none 0 0], .bool false]) := by
 obtain ⟨hm, es, n, ho, he⟩ := k
 have hmm : h.map? m = some (es, n) := by simp only [Hp.map?, ho]
 simp only [lookup', Try.underlying126, entriesOf, hmm, keyOk_key, find_memo h i q l es 0 he]
 cases findM l i q 0 with
 | none => simp only [z75, if_true]
 | some x => simp only [if_true]
def OutV (h : Hp) (B F : Nat → Prop) (o : Option (List Part × Nat)) (v : Value) : Prop := match o with
 | none => v = .agg #[.bool false, .int .i64 0, .slice none 0 0]
 | some (ks, e) => ∃ kv, v = .agg #[.bool true, .int .i64 (e : Int), kv] ∧ KidsAt h B F ks kv
theorem OutV.keep (x : Keeps B F h h1) {o : Option (List Part × Nat)} {v : Value} (k : OutV h B F o v) : OutV h1 B F o v := by
 cases o with
 | none => exact k
 | some y => obtain ⟨kv, h1, h2⟩ := k; exact ⟨kv, h1, h2.keep x⟩
theorem OutV.more (hB : ∀ b, b < h.next → B' b → B b) (hF : ∀ f, F' f → F f ∨ (f ≠ 0 ∧ h.nfam ≤ f)) {o : Option (List Part × Nat)} {v : Value} (k : OutV h B F o v) : OutV h B' F' o v := by
 cases o with
 | none => exact k
 | some y => obtain ⟨kv, h1, h2⟩ := k; exact ⟨kv, h1, h2.more hB hF⟩
def Good (G : List Rule) (items : List ByteArray) (h : Hp) (B F : Nat → Prop) (far : Nat) (x : Nat × Nat × Value) : Prop :=
 ∃ (y : Rule) (k : Nat) (o : Outc), G[x.1]? = some y ∧ run G items k (.part y.body x.2.1) = some o ∧ o.2.2 ≤ far ∧ OutV h B F (ruleO y.name o).1 x.2.2
structure MemoOk (G : List Rule) (items : List ByteArray) (h : Hp) (B F : Nat → Prop) (far m : Nat) (l : Memo) : Prop where
 at' : MemoAt h m l
 good : ∀ x ∈ l, Good G items h B F far x
theorem Good.keep (x : Keeps B F h h1) {far far' : Nat} (hf : far ≤ far') {e : Nat × Nat × Value} (k : Good G items h B F far e) : Good G items h1 B F far' e := by
 obtain ⟨y, k, o, a1, a2, a3, a4⟩ := k
 exact ⟨y, k, o, a1, a2, Nat.le_trans a3 hf, a4.keep x⟩
theorem Good.more (hB : ∀ b, b < h.next → B' b → B b) (hF : ∀ f, F' f → F f ∨ (f ≠ 0 ∧ h.nfam ≤ f)) {far : Nat} {e : Nat × Nat × Value} (k : Good G items h B F far e) : Good G items h B' F' far e := by
 obtain ⟨y, k, o, a1, a2, a3, a4⟩ := k
 exact ⟨y, k, o, a1, a2, a3, a4.more hB hF⟩
theorem MemoOk.extS {S : Nat → Prop} (x : ExtS S h h1) (n : NoRow h S) {far far' m : Nat} {l : Memo} (k : MemoOk G items h B F far m l) (hm : ¬ S m) (hf : far ≤ far') : MemoOk G items h1 B F far' m l :=
 ⟨k.at'.extS x hm, fun e he => (k.good e he).keep (keepsN x n).any hf⟩
theorem MemoOk.more (hB : ∀ b, b < h.next → B' b → B b) (hF : ∀ f, F' f → F f ∨ (f ≠ 0 ∧ h.nfam ≤ f)) {far m : Nat} {l : Memo} (k : MemoOk G items h B F far m l) : MemoOk G items h B' F' far m l :=
 ⟨k.at', fun e he => (k.good e he).more hB hF⟩
def Two (a b : Nat) : Nat → Prop := fun x => x = a ∨ x = b
end Go.Ev.G24
end
section
set_option linter.unusedSimpArgs false
set_option linter.unusedVariables false
namespace Go.Ev.G24
open Go.RowKit Go.Proofs
variable {r : Ro} {G : List Rule} {items : List ByteArray} {Gv Iv : Option Addr} {gc ic xb mm bk m eb : Nat} {em : List Bool} {h h1 h2 : Hp} {B F B' F' : Nat → Prop}
structure Bnd (h : Hp) (B F : Nat → Prop) : Prop where
 b : ∀ x, B x → x < h.next
 f : ∀ q, F q → q ≠ 0 ∧ q < h.nfam
theorem Bnd.mono {S : Nat → Prop} (x : ExtS S h h1) (k : Bnd h B F) : Bnd h1 B F := ⟨fun b c => Nat.lt_of_lt_of_le (k.b b c) x.next, fun q c => ⟨(k.f q c).1, Nat.lt_of_lt_of_le (k.f q c).2 x.nfam⟩⟩
def TakeP (G : List Rule) (items : List ByteArray) (B F : Nat → Prop) (bk : Nat) (Iv : Option Addr) (ic mm xb : Nat) (o : Outc) (far : Nat) (h : Hp) (v : Value) (h1 : Hp) : Prop := ∃ memo', ExtS (Two xb mm) h h1 ∧ h1.own xb 128 (runRow bk Iv items.length ic mm (max far o.2.2)) ∧ MemoOk G items h1 B F (max far o.2.2) mm memo' ∧ OutV h1 B F o.1 v
theorem Book.two (k : Book h bk m eb (.slice Gv G.length gc) (nms G) em) (hX : ∃ c, h.own xb 128 c) (hM : ∃ es n, h.objs.get mm = some (.map es n)) (hne : m ≠ mm) (x : ExtS (Two xb mm) h h1) : Book h1 bk m eb (.slice Gv G.length gc) (nms G) em := by
 obtain ⟨c, hX⟩ := hX
 obtain ⟨es, n, hM⟩ := hM
 refine k.extS x ?_ ?_ ?_
 · rintro (c | c)
   · have := k.own.2.2; rw [c, hX.2.2] at this; simp at this
   · have := k.own.2.2; rw [c, hM] at this; simp at this
 · rintro (c | c)
   · have := k.map.2; rw [c, hX.2.2] at this; simp at this
   · exact hne c
 · rintro (c | c)
   · have := k.row.2.2; rw [c, hX.2.2] at this; simp at this
   · have := k.row.2.2; rw [c, hM] at this; simp at this
theorem MemoAt.map {l : Memo} (k : MemoAt h mm l) : ∃ es n, h.objs.get mm = some (.map es n) := by
 obtain ⟨_, es, n, h1, _⟩ := k
 exact ⟨es, n, h1⟩
theorem TakeP.put {o : Outc} {far : Nat} {v : Value} {b : Nat} {e : TypeId} {c c1 : List Value} (k : TakeP G items B F bk Iv ic mm xb o far h v h1) (hb : h.next ≤ b) (ho : h1.own b e c) (he : e ≠ 31) (hxb : xb < h.next) (hmm : mm < h.next) : TakeP G items B F bk Iv ic mm xb o far h v (h1.put b (.cells ⟨c1, e, 0, 0, false⟩)) := by
 obtain ⟨memo', a1, a2, a3, a4⟩ := k
 have x : ExtS (Only b) h1 (h1.put b (.cells ⟨c1, e, 0, 0, false⟩)) := ((Ext.refl h1).toS (S := Only b)).put (b := b) (.inr rfl) _
 have n := noRow_own ho he
 exact ⟨memo', a1.put (.inl hb) _, own_extS x a2 (by show xb ≠ b; omega), a3.extS x n (by show mm ≠ b; omega) (Nat.le_refl _), a4.keep (keepsN x n).any⟩
theorem TakeP.pre {S : Nat → Prop} {o : Outc} {far : Nat} {v : Value} (x : ExtS (Two xb mm) h h2) (k : TakeP G items B F bk Iv ic mm xb o far h2 v h1) : TakeP G items B F bk Iv ic mm xb o far h v h1 := by
 obtain ⟨memo', a1, a2, a3, a4⟩ := k
 exact ⟨memo', x.trans a1, a2, a3, a4⟩
end Go.Ev.G24
end
section
set_option linter.unusedSimpArgs false
set_option linter.unusedVariables false
namespace Go.Ev.G24
open Go.RowKit Go.Proofs
variable {r : Ro} {G : List Rule} {items : List ByteArray} {Gv Iv : Option Addr} {gc ic xb mm bk m eb : Nat} {em : List Bool} {B F : Nat → Prop}
end Go.Ev.G24
end
section
set_option linter.unusedSimpArgs false
set_option linter.unusedVariables false
namespace Go.Ev.G24
open Go.RowKit Go.Proofs
variable {r : Ro} {G : List Rule} {items : List ByteArray} {Gv Iv : Option Addr} {gc ic xb mm bk m eb : Nat} {em : List Bool} {B F : Nat → Prop}
end Go.Ev.G24
end
section
set_option linter.unusedSimpArgs false
set_option linter.unusedVariables false
namespace Go.Ev.G24
open Go.RowKit Go.Proofs
variable {r : Ro} {G : List Rule} {items : List ByteArray} {Gv Iv : Option Addr} {gc ic xb mm bk m eb : Nat} {em : List Bool} {B F : Nat → Prop}
end Go.Ev.G24
end
section
set_option linter.unusedSimpArgs false
set_option linter.unusedVariables false
namespace Go.Ev.G24
open Go.RowKit Go.Proofs
variable {r : Ro} {G : List Rule} {items : List ByteArray} {Gv Iv : Option Addr} {gc ic xb mm bk m eb : Nat} {em : List Bool} {B F : Nat → Prop}
theorem OutV.shape {h : Hp} {o : Option (List Part × Nat)} {v : Value} (k : OutV h B F o v) : ∃ e A n c, v = .agg #[.bool o.isSome, .int .i64 e, .slice A n c] ∧ spotless A = true := by
 cases o with
 | none => exact ⟨_, _, _, _, k, rfl⟩
 | some w =>
   obtain ⟨kv, e5, e6⟩ := k
   obtain ⟨A9, c9, e7, e8⟩ := e6.slice
   exact ⟨_, _, _, _, by rw [e5, e7]; rfl, e8⟩
theorem bookAt {h : Hp} {Gx : Value} {names : List ByteArray} (k : Book h bk m eb Gx names em) : MapAt h m names := k.map
end Go.Ev.G24
end
section
set_option linter.unusedSimpArgs false
set_option linter.unusedVariables false
namespace Go.Ev.G24
open Go.RowKit Go.Proofs
variable {r : Ro} {G : List Rule} {items : List ByteArray} {Gv Iv : Option Addr} {gc ic xb : Nat}
end Go.Ev.G24
end
section
set_option linter.unusedSimpArgs false
set_option linter.unusedVariables false
namespace Go.Ev.G24
open Go.RowKit Go.Proofs
variable {r : Ro} {G : List Rule} {items : List ByteArray} {Gv Iv : Option Addr} {gc ic xb : Nat}
theorem wrap_pred {s : Int} (h1 : -1000000000000 ≤ s) (h2 : s ≤ 1000000) : IntKind.i64.wrap (s - 1) = s - 1 := by
 rw [IntKind.wrap_i64]; omega
end Go.Ev.G24
end
section
set_option linter.unusedSimpArgs false
set_option linter.unusedVariables false
namespace Go.Ev.G24
open Go.RowKit Go.Proofs
variable {r : Ro} {G : List Rule} {items : List ByteArray} {Gv Iv : Option Addr} {gc ic xb mm bk m eb : Nat} {em : List Bool} {B F : Nat → Prop}
end Go.Ev.G24
end
section
set_option linter.unusedSimpArgs false
set_option linter.unusedVariables false
namespace Go.Ev.G24
open Go.RowKit Go.Proofs
variable {r : Ro} {G : List Rule} {items : List ByteArray} {Gv Iv : Option Addr} {gc ic xb : Nat}
theorem map_some {o : Outc} {f : Outc → Outc} {x : Option Outc} (h : x = some o) : x.map f = some (f o) := by rw [h]; rfl
end Go.Ev.G24
end
section
set_option linter.unusedSimpArgs false
set_option linter.unusedVariables false
namespace Go.Ev.G24
open Go.RowKit Go.Proofs
variable {r : Ro} {G : List Rule} {items : List ByteArray} {Gv Iv : Option Addr} {gc ic xb : Nat}
def ruleP (s : ByteArray) : Part := ⟨⟨#[114, 117, 108, 101]⟩, s, []⟩
theorem ro_ruleP (r : Ro) (s : ByteArray) : RoPart r (ruleP s) [.string ⟨#[114, 117, 108, 101]⟩, .string s, .slice none 0 0] :=
 .mk _ _ [] none 0 0 0 (fun _ => []) (Nat.le_refl _) (Nat.zero_le _) (fun e => absurd rfl e) (fun i p e => by simp at e) (fun i p e => by simp at e) rfl
theorem named_ruleP {s : ByteArray} (h : idxOf (nms G) s < (nms G).length) : named (nms G) (ruleP s) := by
 unfold ruleP
 rw [named]
 exact ⟨fun _ => h, fun c => by
  rcases c with c | c | c <;> exact absurd c (by decide), by rw [namedL]; trivial⟩
theorem few_ruleP (s : ByteArray) : Few (ruleP s) := .mk _ _ _ (by simp) (fun i p e => by simp at e)
end Go.Ev.G24
end
section
set_option linter.unusedSimpArgs false
set_option linter.unusedVariables false
namespace Go.Ev.G24
open Go.RowKit Go.Proofs
variable {r : Ro} {G : List Rule} {items : List ByteArray} {Gv Iv : Option Addr} {gc ic : Nat}
end Go.Ev.G24
end
section
set_option linter.unusedSimpArgs false
set_option linter.unusedVariables false
namespace Go.Ev.G24
open Go.RowKit Go.Proofs
variable {r : Ro} {G : List Rule} {items : List ByteArray} {Gv Iv : Option Addr} {gc ic : Nat}
end Go.Ev.G24
end
section
set_option linter.unusedVariables false
namespace Go.Ev.G24
open Go.RowKit Go.Proofs
theorem sz85 : sizeOf' Try.prog 85 = some 2 := by kernel_rfl
@[go_sem] theorem z81 : zero' Try.prog 81 = some (.agg #[.slice none 0 0, .slice none 0 0, .int .i64 0]) := by kernel_rfl
@[go_sem] theorem z85 : zero' Try.prog 85 = some (.agg #[.slice none 0 0, .int .i64 0]) := by kernel_rfl
@[go_sem] theorem z92 : zero' Try.prog 92 = some (.agg #[.pointer none, .slice none 0 0, .int .i64 0]) := by kernel_rfl
@[go_sem] theorem fa81_0 (b o : Nat) : fieldAddr' Try.prog 81 (.pointer (some ⟨b, o, none⟩)) 0 = some (.pointer (some ⟨b, o, none⟩)) := field_addr 24 0 Try.underlying81 rfl sz24 b o
@[go_sem] theorem fa81_1 (b o : Nat) : fieldAddr' Try.prog 81 (.pointer (some ⟨b, o, none⟩)) 1 = some (.pointer (some ⟨b, o + 1, none⟩)) := field_addr 25 1 Try.underlying81 rfl sz25 b o
@[go_sem] theorem fa81_2 (b o : Nat) : fieldAddr' Try.prog 81 (.pointer (some ⟨b, o, none⟩)) 2 = some (.pointer (some ⟨b, o + 2, none⟩)) := field_addr 3 2 Try.underlying81 rfl sz3 b o
@[go_sem] theorem fa85_0 (b o : Nat) : fieldAddr' Try.prog 85 (.pointer (some ⟨b, o, none⟩)) 0 = some (.pointer (some ⟨b, o, none⟩)) := field_addr 29 0 Try.underlying85 rfl sz29 b o
@[go_sem] theorem fa85_1 (b o : Nat) : fieldAddr' Try.prog 85 (.pointer (some ⟨b, o, none⟩)) 1 = some (.pointer (some ⟨b, o + 1, none⟩)) := field_addr 3 1 Try.underlying85 rfl sz3 b o
@[go_sem] theorem fa92_0 (b o : Nat) : fieldAddr' Try.prog 92 (.pointer (some ⟨b, o, none⟩)) 0 = some (.pointer (some ⟨b, o, none⟩)) := field_addr 87 0 Try.underlying92 rfl sz87 b o
@[go_sem] theorem fa92_1 (b o : Nat) : fieldAddr' Try.prog 92 (.pointer (some ⟨b, o, none⟩)) 1 = some (.pointer (some ⟨b, o + 1, none⟩)) := field_addr 25 1 Try.underlying92 rfl sz25 b o
@[go_sem] theorem fa92_2 (b o : Nat) : fieldAddr' Try.prog 92 (.pointer (some ⟨b, o, none⟩)) 2 = some (.pointer (some ⟨b, o + 2, none⟩)) := field_addr 3 2 Try.underlying92 rfl sz3 b o
@[go_sem] theorem ia82 {b o n c i : Nat} (hi : i < n) : indexAddr' Try.prog 82 (.slice (some ⟨b, o, none⟩) n c) (.int .i64 (i : Int)) = some (.pointer (some ⟨b, o + i * 2, none⟩)) := index_addr Try.underlying82 sz85 hi
@[go_sem] theorem ia93 {b o n c i : Nat} (hi : i < n) : indexAddr' Try.prog 93 (.slice (some ⟨b, o, none⟩) n c) (.int .i64 (i : Int)) = some (.pointer (some ⟨b, o + i * 3, none⟩)) := index_addr Try.underlying93 sz75 hi
@[go_sem] theorem len82 (h : Hp) (b : Option Addr) (n c : Nat) (r : List TypeId) : len' Try.prog h (82 :: r) [.slice b n c] = some (.int .i64 n) := len_slice Try.underlying82 h b n c r
@[go_sem] theorem len93 (h : Hp) (b : Option Addr) (n c : Nat) (r : List TypeId) : len' Try.prog h (93 :: r) [.slice b n c] = some (.int .i64 n) := len_slice Try.underlying93 h b n c r
@[go_sem] theorem bd81 (ps : List (Nat × Value)) : build' Try.prog 81 ps = match fill' (fun i => ([(0, 1), (1, 1), (2, 1)] : List (Nat × Nat))[i]?) [.slice none 0 0, .slice none 0 0, .int .i64 0] ps with | some c => some (.agg c.toArray) | none => none := build_of z81 Try.underlying81 (by kernel_rfl) (fun i => by
 match i with
 | 0 => exact by simp only [placeOf, List.getElem?_cons_zero, List.getElem?_cons_succ, sz24]
 | 1 => exact by simp only [placeOf, List.getElem?_cons_zero, List.getElem?_cons_succ, sz25]
 | 2 => exact by simp only [placeOf, List.getElem?_cons_zero, List.getElem?_cons_succ, sz3]
 | _ + 3 => rfl) ps
@[go_sem] theorem bd85 (ps : List (Nat × Value)) : build' Try.prog 85 ps = match fill' (fun i => ([(0, 1), (1, 1)] : List (Nat × Nat))[i]?) [.slice none 0 0, .int .i64 0] ps with | some c => some (.agg c.toArray) | none => none := build_of z85 Try.underlying85 (by kernel_rfl) (fun i => by
 match i with
 | 0 => exact by simp only [placeOf, List.getElem?_cons_zero, List.getElem?_cons_succ, sz29]
 | 1 => exact by simp only [placeOf, List.getElem?_cons_zero, List.getElem?_cons_succ, sz3]
 | _ + 2 => rfl) ps
@[go_sem] theorem bd92 (ps : List (Nat × Value)) : build' Try.prog 92 ps = match fill' (fun i => ([(0, 1), (1, 1), (2, 1)] : List (Nat × Nat))[i]?) [.pointer none, .slice none 0 0, .int .i64 0] ps with | some c => some (.agg c.toArray) | none => none := build_of z92 Try.underlying92 (by kernel_rfl) (fun i => by
 match i with
 | 0 => exact by simp only [placeOf, List.getElem?_cons_zero, List.getElem?_cons_succ, sz87]
 | 1 => exact by simp only [placeOf, List.getElem?_cons_zero, List.getElem?_cons_succ, sz25]
 | 2 => exact by simp only [placeOf, List.getElem?_cons_zero, List.getElem?_cons_succ, sz3]
 | _ + 3 => rfl) ps
@[go_sem] theorem bs82 (n : Nat) (hn : n ≤ 1000) (ps : List (Nat × Value)) : buildRow' Try.prog 82 n ps = match fill' (fun i => some (i * 2, 2)) (repeatN [.slice none 0 0, .int .i64 0] n) ps with | some c => some (.cells ⟨c, 85, 0, 0, false⟩, fun b => .slice (some ⟨b, 0, none⟩) n n) | none => none := buildRow_of Try.underlying82 sz85 z85 rfl (by decide) (by omega) ps
@[go_sem] theorem bs93 (n : Nat) (hn : n ≤ 1000) (ps : List (Nat × Value)) : buildRow' Try.prog 93 n ps = match fill' (fun i => some (i * 3, 3)) (repeatN [.bool false, .int .i64 0, .slice none 0 0] n) ps with | some c => some (.cells ⟨c, 75, 0, 0, false⟩, fun b => .slice (some ⟨b, 0, none⟩) n n) | none => none := buildRow_of Try.underlying93 sz75 z75 rfl (by decide) (by omega) ps
end Go.Ev.G24
end
section
set_option linter.unusedSimpArgs false
set_option linter.unusedVariables false
namespace Go.Ev.G24
open Go.RowKit Go.Proofs
abbrev Way := List Part × Nat
inductive TaskW
 | part (p : Part) (q : Nat)
 | alts (l : List Part) (q : Nat)
 | row (l : List Part) (q : Nat)
 | rowH (hs : List Way) (l : List Part)
 | again (x : Part) (q : Nat)
 | againH (hs : List Way) (x : Part)
abbrev OutW := List Way × Nat × Nat
def oneW (items : List ByteArray) (w : Option ByteArray) (q : Nat) : OutW := match items[q]? with
 | some s => if testB w s = true then ([([itemT s], q + 1)], 1, 0) else ([], 1, 0)
 | none => ([], 1, 0)
def ruleW (t : ByteArray) (o : OutW) : OutW := (o.1.map fun w => ([ruleT t w.1], w.2), o.2.1 + 1, o.2.2)
def manyW (o : OutW) : OutW := (o.1.map fun w => ([manyT w.1], w.2), o.2.1 + 1, o.2.2)
def plusW (o : OutW) : OutW := (o.1, o.2.1 + 1, o.2.2)
def optW (q : Nat) (o : OutW) : OutW := (o.1 ++ [([], q)], o.2.1 + 1, o.2.2)
def notW (q : Nat) (o : OutW) : OutW := (if 0 < o.1.length then [] else [([], q)], o.2.1 + 1, o.2.2)
def altW (a b : OutW) : OutW := (a.1 ++ b.1, a.2.1 + b.2.1, a.2.2 + b.2.2)
def rowW (a b : OutW) : OutW := (b.1, a.2.1 + b.2.1, a.2.2 + b.2.2)
def consW (ks : List Part) (rs : List Way) : List Way := rs.map fun r => (ks ++ r.1, r.2)
def stepH (ks : List Part) (a b : OutW) : OutW := (consW ks a.1 ++ b.1, a.2.1 + b.2.1, a.2.2 + b.2.2 + a.1.length)
def againW (q : Nat) (a b : OutW) : OutW := (b.1 ++ [([], q)], a.2.1 + b.2.1, a.2.2 + b.2.2)
def two (rc : TaskW → Option OutW) (t : TaskW) (f : OutW → TaskW) (g : OutW → OutW → OutW) : Option OutW := (rc t).bind fun a => (rc (f a)).map (g a)
def head1W (rc : TaskW → Option OutW) (f : Part → TaskW) (l : List Part) (g : OutW → OutW) : Option OutW := match l with
 | x :: _ => (rc (f x)).map g
 | [] => none
def stepPW (G : List Rule) (items : List ByteArray) (rc : TaskW → Option OutW) (d t : ByteArray) (l : List Part) (q : Nat) : Option OutW :=
 if d.data.toList = [105, 115] then some (oneW items (some t) q)
 else if d.data.toList = [97, 110, 121] then some (oneW items none q)
 else if d.data.toList = [114, 117, 108, 101] then (rc (.part (bodyOf G t) q)).map (ruleW t)
 else if d.data.toList = [115, 101, 113] then (rc (.row l q)).map plusW
 else if d.data.toList = [111, 114] then (rc (.alts l q)).map plusW
 else if d.data.toList = [109, 97, 110, 121] then head1W rc (fun x => .again x q) l manyW
 else if d.data.toList = [111, 112, 116] then head1W rc (fun x => .part x q) l (optW q)
 else if d.data.toList = [110, 111, 116] then head1W rc (fun x => .part x q) l (notW q)
 else some ([([], q)], 1, 0)
def stepW (G : List Rule) (items : List ByteArray) (rc : TaskW → Option OutW) : TaskW → Option OutW
 | .part ⟨d, t, l⟩ q => stepPW G items rc d t l q
 | .alts [] q => some ([], 0, 0)
 | .alts (x :: l) q => two rc (.part x q) (fun _ => .alts l q) altW
 | .row [] q => some ([([], q)], 0, 0)
 | .row (x :: l) q => two rc (.part x q) (fun a => .rowH a.1 l) rowW
 | .rowH [] l => some ([], 0, 0)
 | .rowH ((ks, e) :: hs) l => two rc (.row l e) (fun _ => .rowH hs l) (stepH ks)
 | .again x q => two rc (.part x q) (fun a => .againH a.1 x) (againW q)
 | .againH [] x => some ([], 0, 0)
 | .againH ((ks, e) :: hs) x => two rc (.again x e) (fun _ => .againH hs x) (stepH ks)
def runW (G : List Rule) (items : List ByteArray) : Nat → TaskW → Option OutW
 | 0, _ => none
 | k + 1, t => stepW G items (runW G items k) t
def LeW (rc rc' : TaskW → Option OutW) : Prop := ∀ t o, rc t = some o → rc' t = some o
variable {G : List Rule} {items : List ByteArray} {rc rc' : TaskW → Option OutW}
theorem LeW.map (h : LeW rc rc') {t : TaskW} {f : OutW → OutW} {o : OutW} (k : (rc t).map f = some o) : (rc' t).map f = some o := by
 rw [Option.map_eq_some_iff] at k ⊢
 obtain ⟨x, h1, h2⟩ := k
 exact ⟨x, h t x h1, h2⟩
theorem LeW.two (h : LeW rc rc') {t : TaskW} {f : OutW → TaskW} {g : OutW → OutW → OutW} {o : OutW} (k : two rc t f g = some o) : two rc' t f g = some o := by
 unfold G24.two at k ⊢
 rw [Option.bind_eq_some_iff] at k ⊢
 obtain ⟨x, h1, h2⟩ := k
 exact ⟨x, h t x h1, h.map h2⟩
theorem LeW.head1 (h : LeW rc rc') {f : Part → TaskW} {l : List Part} {g : OutW → OutW} {o : OutW} (k : head1W rc f l g = some o) : head1W rc' f l g = some o := by
 cases l with
 | nil => cases k
 | cons x l => exact h.map k
theorem stepW_le (h : LeW rc rc') : LeW (stepW G items rc) (stepW G items rc') := by
 intro t o k
 match t with
 | .part ⟨d, t, l⟩ q =>
   change stepPW G items rc d t l q = some o at k
   show stepPW G items rc' d t l q = some o
   unfold stepPW at k ⊢
   by_cases c1 : d.data.toList = [105, 115]
   · rw [if_pos c1] at k ⊢; exact k
   rw [if_neg c1] at k ⊢
   by_cases c2 : d.data.toList = [97, 110, 121]
   · rw [if_pos c2] at k ⊢; exact k
   rw [if_neg c2] at k ⊢
   by_cases c3 : d.data.toList = [114, 117, 108, 101]
   · rw [if_pos c3] at k ⊢; exact h.map k
   rw [if_neg c3] at k ⊢
   by_cases c4 : d.data.toList = [115, 101, 113]
   · rw [if_pos c4] at k ⊢; exact h.map k
   rw [if_neg c4] at k ⊢
   by_cases c5 : d.data.toList = [111, 114]
   · rw [if_pos c5] at k ⊢; exact h.map k
   rw [if_neg c5] at k ⊢
   by_cases c6 : d.data.toList = [109, 97, 110, 121]
   · rw [if_pos c6] at k ⊢; exact h.head1 k
   rw [if_neg c6] at k ⊢
   by_cases c7 : d.data.toList = [111, 112, 116]
   · rw [if_pos c7] at k ⊢; exact h.head1 k
   rw [if_neg c7] at k ⊢
   by_cases c8 : d.data.toList = [110, 111, 116]
   · rw [if_pos c8] at k ⊢; exact h.head1 k
   rw [if_neg c8] at k ⊢
   exact k
 | .alts [] q => exact k
 | .alts (x :: l) q => exact h.two k
 | .row [] q => exact k
 | .row (x :: l) q => exact h.two k
 | .rowH [] l => exact k
 | .rowH ((ks, e) :: hs) l => exact h.two k
 | .again x q => exact h.two k
 | .againH [] x => exact k
 | .againH ((ks, e) :: hs) x => exact h.two k
theorem runW_succ : ∀ k, LeW (runW G items k) (runW G items (k + 1))
 | 0, t, o, h => by cases h
 | k + 1, t, o, h => stepW_le (runW_succ k) t o h
theorem runW_le {k k' : Nat} (h : k ≤ k') : LeW (runW G items k) (runW G items k') := by
 induction h with
 | refl => exact fun t o h => h
 | step _ ih => exact fun t o h => runW_succ _ t o (ih t o h)
theorem runW_det {k k' : Nat} {t : TaskW} {o o' : OutW} (h : runW G items k t = some o) (h' : runW G items k' t = some o') : o = o' := by
 have h1 := runW_le (Nat.le_max_left k k') t o h
 have h2 := runW_le (Nat.le_max_right k k') t o' h'
 rw [h1] at h2
 injection h2
theorem runW_two {k1 k2 : Nat} {t t' : TaskW} {f : OutW → TaskW} {g : OutW → OutW → OutW} {a b : OutW} (st : ∀ rc : TaskW → Option OutW, stepW G items rc t = two rc t' f g) (h1 : runW G items k1 t' = some a) (h2 : runW G items k2 (f a) = some b) : runW G items (max k1 k2 + 1) t = some (g a b) := by
 show stepW G items (runW G items (max k1 k2)) t = _
 rw [st]
 unfold two
 rw [runW_le (Nat.le_max_left k1 k2) _ _ h1]
 simp only [Option.bind_some]
 rw [runW_le (Nat.le_max_right k1 k2) _ _ h2]
 rfl
theorem runW_inv {k : Nat} {t t' : TaskW} {f : OutW → TaskW} {g : OutW → OutW → OutW} {o : OutW} (st : ∀ rc : TaskW → Option OutW, stepW G items rc t = two rc t' f g) (h : runW G items k t = some o) : ∃ k' a b, k' + 1 = k ∧ runW G items k' t' = some a ∧ runW G items k' (f a) = some b ∧ o = g a b := by
 cases k with
 | zero => cases h
 | succ k =>
   change stepW G items (runW G items k) t = some o at h
   rw [st] at h
   unfold two at h
   rw [Option.bind_eq_some_iff] at h
   obtain ⟨a, h1, h2⟩ := h
   rw [Option.map_eq_some_iff] at h2
   obtain ⟨b, h3, h4⟩ := h2
   exact ⟨k, a, b, rfl, h1, h3, h4.symm⟩
def okH (N C : Nat) (hs : List Way) : Prop := ∀ w ∈ hs, w.2 ≤ N ∧ w.1.length ≤ C ∧ ∀ p ∈ w.1, Few p
theorem okH.mono {N C C' : Nat} {hs : List Way} (h : okH N C hs) (hc : C ≤ C') : okH N C' hs := fun w hw => ⟨(h w hw).1, Nat.le_trans (h w hw).2.1 hc, (h w hw).2.2⟩
def slackW : TaskW → Nat
 | .row _ _ => 1
 | .rowH hs _ => hs.length
 | _ => 0
theorem oneW_cost {w : Option ByteArray} {q : Nat} : (oneW items w q).2.1 = 1 ∧ (oneW items w q).1.length ≤ 1 := by
 unfold oneW
 split
 · split <;> exact ⟨rfl, by simp⟩
 · exact ⟨rfl, by simp⟩
theorem stepPW_cases {d t : ByteArray} {l : List Part} {q : Nat} {o : OutW} {M : OutW → Prop} (h : stepPW G items rc d t l q = some o)
  (h1 : ∀ w, M (oneW items w q)) (h2 : ∀ a, rc (.part (bodyOf G t) q) = some a → M (ruleW t a)) (h3 : ∀ a, rc (.row l q) = some a → M (plusW a)) (h4 : ∀ a, rc (.alts l q) = some a → M (plusW a)) (h5 : ∀ x a, rc (.again x q) = some a → M (manyW a)) (h6 : ∀ x a, rc (.part x q) = some a → M (optW q a)) (h7 : ∀ x a, rc (.part x q) = some a → M (notW q a)) (h8 : M ([([], q)], 1, 0)) : M o := by
 have hm : ∀ {x : Option OutW} {f : OutW → OutW}, x.map f = some o → (∀ a, x = some a → M (f a)) → M o := by
  intro x f e k
  rw [Option.map_eq_some_iff] at e
  obtain ⟨a, e1, rfl⟩ := e
  exact k a e1
 have hh : ∀ {f : Part → TaskW} {g : OutW → OutW}, head1W rc f l g = some o → (∀ x a, rc (f x) = some a → M (g a)) → M o := by
  intro f g e k
  cases l with
  | nil => cases e
  | cons x l => exact hm e (k x)
 unfold stepPW at h
 split at h
 · injection h with h; subst h; exact h1 _
 split at h
 · injection h with h; subst h; exact h1 _
 split at h
 · exact hm h h2
 split at h
 · exact hm h h3
 split at h
 · exact hm h h4
 split at h
 · exact hh h h5
 split at h
 · exact hh h h6
 split at h
 · exact hh h h7
 injection h with h
 subst h
 exact h8
theorem runW_pos {k : Nat} {p : Part} {q : Nat} {o : OutW} (h : runW G items k (.part p q) = some o) : 1 ≤ o.2.1 := by
 cases k with
 | zero => cases h
 | succ k =>
   obtain ⟨d, t, l⟩ := p
   exact stepPW_cases (M := fun o => 1 ≤ o.2.1) h (fun w => Nat.le_of_eq oneW_cost.1.symm) (fun a _ => Nat.le_add_left _ _) (fun a _ => Nat.le_add_left _ _) (fun a _ => Nat.le_add_left _ _) (fun _ a _ => Nat.le_add_left _ _) (fun _ a _ => Nat.le_add_left _ _) (fun _ a _ => Nat.le_add_left _ _) (Nat.le_refl _)
theorem runW_len : ∀ (k : Nat) (t : TaskW) (o : OutW), runW G items k t = some o → o.1.length ≤ o.2.1 + slackW t
 | 0, t, o, h => by cases h
 | k + 1, t, o, h => by
   have ih := runW_len k
   match t, h with
   | .part ⟨d, t, l⟩ q, h =>
     refine stepPW_cases (M := fun o => o.1.length ≤ o.2.1 + 0) h (fun w => ?_) (fun a e => ?_) (fun a e => ?_) (fun a e => ?_) (fun x a e => ?_) (fun x a e => ?_) (fun x a e => ?_) ?_
     · have := oneW_cost (items := items) (w := w) (q := q); omega
     · have := ih _ _ e; simp [ruleW, slackW] at this ⊢; omega
     · have := ih _ _ e; simp [plusW, slackW] at this ⊢; omega
     · have := ih _ _ e; simp [plusW, slackW] at this ⊢; omega
     · have := ih _ _ e; simp [manyW, slackW] at this ⊢; omega
     · have := ih _ _ e; simp [optW, slackW] at this ⊢; omega
     · unfold notW; split <;> simp
     · simp
   | .alts [] q, h => injection h with h; subst h; simp
   | .alts (x :: l) q, h =>
     obtain ⟨k', a, b, e0, h1, h2, rfl⟩ := runW_inv (fun rc => rfl) h
     injection e0 with e0; subst e0
     have := ih _ _ h1; have := ih _ _ h2
     simp [altW, slackW] at *; omega
   | .row [] q, h => injection h with h; subst h; simp [slackW]
   | .row (x :: l) q, h =>
     obtain ⟨k', a, b, e0, h1, h2, rfl⟩ := runW_inv (fun rc => rfl) h
     injection e0 with e0; subst e0
     have := ih _ _ h1; have := ih _ _ h2
     simp [rowW, slackW] at *; omega
   | .rowH [] l, h => injection h with h; subst h; simp
   | .rowH ((ks, e) :: hs) l, h =>
     obtain ⟨k', a, b, e0, h1, h2, rfl⟩ := runW_inv (fun rc => rfl) h
     injection e0 with e0; subst e0
     have := ih _ _ h1; have := ih _ _ h2
     simp [stepH, consW, slackW] at *; omega
   | .again x q, h =>
     obtain ⟨k', a, b, e0, h1, h2, rfl⟩ := runW_inv (fun rc => rfl) h
     injection e0 with e0; subst e0
     have := runW_pos h1; have := ih _ _ h2
     simp [againW, slackW] at *; omega
   | .againH [] x, h => injection h with h; subst h; simp
   | .againH ((ks, e) :: hs) x, h =>
     obtain ⟨k', a, b, e0, h1, h2, rfl⟩ := runW_inv (fun rc => rfl) h
     injection e0 with e0; subst e0
     have := ih _ _ h1; have := ih _ _ h2
     simp [stepH, consW, slackW] at *; omega
def preW (N C : Nat) : TaskW → Prop
 | .rowH hs _ => okH N C hs
 | .againH hs _ => okH N C hs
 | .part _ q => q ≤ N ∧ C = 0
 | .alts _ q => q ≤ N ∧ C = 0
 | .row _ q => q ≤ N ∧ C = 0
 | .again _ q => q ≤ N ∧ C = 0
theorem okH_one {N C q : Nat} (hq : q ≤ N) : okH N C [([], q)] := fun w hw => by
 simp at hw
 subst hw
 exact ⟨hq, Nat.zero_le _, fun p hp => by simp at hp⟩
theorem okH_app {N C : Nat} {a b : List Way} (ha : okH N C a) (hb : okH N C b) : okH N C (a ++ b) := fun w hw => by
 rcases List.mem_append.1 hw with h | h
 · exact ha w h
 · exact hb w h
theorem okH_cons {N C D : Nat} {ks : List Part} {e : Nat} {rs : List Way} (h1 : ks.length ≤ C ∧ ∀ p ∈ ks, Few p) (h2 : okH N D rs) : okH N (C + D) (consW ks rs) := fun w hw => by
 unfold consW at hw
 rw [List.mem_map] at hw
 obtain ⟨r, hr, rfl⟩ := hw
 obtain ⟨b1, b2, b3⟩ := h2 r hr
 refine ⟨b1, by rw [List.length_append]; omega, fun p hp => ?_⟩
 rcases List.mem_append.1 hp with hp | hp
 · exact h1.2 p hp
 · exact b3 p hp
theorem okH_map {N C : Nat} {rs : List Way} (f : List Part → Part) (hf : ∀ l : List Part, l.length ≤ 100000 → (∀ p ∈ l, Few p) → Few (f l)) (hC : C ≤ 100000) (h : okH N C rs) : okH N (C + 1) (rs.map fun w => ([f w.1], w.2)) := fun w hw => by
 rw [List.mem_map] at hw
 obtain ⟨r, hr, rfl⟩ := hw
 obtain ⟨b1, b2, b3⟩ := h r hr
 refine ⟨b1, by simp, fun p hp => ?_⟩
 simp at hp
 subst hp
 exact hf _ (by omega) b3
theorem runW_ok {N : Nat} (hN : items.length = N) : ∀ (k : Nat) (t : TaskW) (o : OutW) (C : Nat), runW G items k t = some o → preW N C t → C + o.2.1 ≤ 100000 → okH N (C + o.2.1) o.1
 | 0, t, o, C, h, _, _ => by cases h
 | k + 1, t, o, C, h, hp, hc => by
   have ih := runW_ok hN k
   match t, h, hp with
   | .part ⟨d, t, l⟩ q, h, hp =>
     obtain ⟨hq, rfl⟩ := hp
     refine stepPW_cases (M := fun o => 0 + o.2.1 ≤ 100000 → okH N (0 + o.2.1) o.1) h (fun w _ => ?_) (fun a e hc => ?_) (fun a e hc => ?_) (fun a e hc => ?_) (fun x a e hc => ?_) (fun x a e hc => ?_) (fun x a e hc => ?_) (fun _ => okH_one hq) hc
     · unfold oneW
       split
       · rename_i s hs
         have := get_lt' hs
         split
         · intro w hw
           simp at hw
           subst hw
           refine ⟨by show q + 1 ≤ N; omega, by simp, fun p hp => ?_⟩
           simp at hp
           subst hp
           exact few_of (by simp) (fun p hp => by simp at hp)
         · intro w hw; simp at hw
       · intro w hw; simp at hw
     · have hc : 0 + (a.2.1 + 1) ≤ 100000 := hc
       have := okH_map (ruleT t) (fun l h1 h2 => few_of h1 h2) (by omega) (ih _ _ 0 e ⟨hq, rfl⟩ (by omega))
       exact this.mono (by show 0 + a.2.1 + 1 ≤ 0 + (a.2.1 + 1); omega)
     · have hc : 0 + (a.2.1 + 1) ≤ 100000 := hc
       exact (ih _ _ 0 e ⟨hq, rfl⟩ (by omega)).mono (by show 0 + a.2.1 ≤ 0 + (a.2.1 + 1); omega)
     · have hc : 0 + (a.2.1 + 1) ≤ 100000 := hc
       exact (ih _ _ 0 e ⟨hq, rfl⟩ (by omega)).mono (by show 0 + a.2.1 ≤ 0 + (a.2.1 + 1); omega)
     · have hc : 0 + (a.2.1 + 1) ≤ 100000 := hc
       have := okH_map manyT (fun l h1 h2 => few_of h1 h2) (by omega) (ih _ _ 0 e ⟨hq, rfl⟩ (by omega))
       exact this.mono (by show 0 + a.2.1 + 1 ≤ 0 + (a.2.1 + 1); omega)
     · have hc : 0 + (a.2.1 + 1) ≤ 100000 := hc
       exact okH_app ((ih _ _ 0 e ⟨hq, rfl⟩ (by omega)).mono (by show 0 + a.2.1 ≤ 0 + (a.2.1 + 1); omega)) (okH_one hq)
     · unfold notW
       split
       · intro w hw; simp at hw
       · exact okH_one hq
   | .alts [] q, h, hp => injection h with h; subst h; intro w hw; simp at hw
   | .alts (x :: l) q, h, hp =>
     obtain ⟨k', a, b, e0, h1, h2, rfl⟩ := runW_inv (fun rc => rfl) h
     injection e0 with e0; subst e0
     obtain ⟨hq, rfl⟩ := hp
     have hc : 0 + (a.2.1 + b.2.1) ≤ 100000 := hc
     exact okH_app ((ih _ _ 0 h1 ⟨hq, rfl⟩ (by omega)).mono (by show 0 + a.2.1 ≤ 0 + (a.2.1 + b.2.1); omega)) ((ih _ _ 0 h2 ⟨hq, rfl⟩ (by omega)).mono (by show 0 + b.2.1 ≤ 0 + (a.2.1 + b.2.1); omega))
   | .row [] q, h, hp => injection h with h; subst h; exact okH_one hp.1
   | .row (x :: l) q, h, hp =>
     obtain ⟨k', a, b, e0, h1, h2, rfl⟩ := runW_inv (fun rc => rfl) h
     injection e0 with e0; subst e0
     obtain ⟨hq, rfl⟩ := hp
     have hc : 0 + (a.2.1 + b.2.1) ≤ 100000 := hc
     have g1 := ih _ _ 0 h1 ⟨hq, rfl⟩ (by omega)
     exact (ih _ _ (0 + a.2.1) h2 g1 (by omega)).mono (by show 0 + a.2.1 + b.2.1 ≤ 0 + (a.2.1 + b.2.1); omega)
   | .rowH [] l, h, hp => injection h with h; subst h; intro w hw; simp at hw
   | .rowH ((ks, e) :: hs) l, h, hp =>
     obtain ⟨k', a, b, e0, h1, h2, rfl⟩ := runW_inv (fun rc => rfl) h
     injection e0 with e0; subst e0
     have hp : okH N C ((ks, e) :: hs) := hp
     have hc : C + (a.2.1 + b.2.1) ≤ 100000 := hc
     obtain ⟨p1, p2, p3⟩ := hp (ks, e) (.head _)
     have g1 := ih _ _ 0 h1 ⟨p1, rfl⟩ (by omega)
     have g2 := ih _ _ C h2 (fun w hw => hp w (.tail _ hw)) (by omega)
     exact okH_app ((okH_cons (e := e) ⟨p2, p3⟩ g1).mono (by show C + (0 + a.2.1) ≤ C + (a.2.1 + b.2.1); omega)) (g2.mono (by show C + b.2.1 ≤ C + (a.2.1 + b.2.1); omega))
   | .again x q, h, hp =>
     obtain ⟨k', a, b, e0, h1, h2, rfl⟩ := runW_inv (fun rc => rfl) h
     injection e0 with e0; subst e0
     obtain ⟨hq, rfl⟩ := hp
     have hc : 0 + (a.2.1 + b.2.1) ≤ 100000 := hc
     have g1 := ih _ _ 0 h1 ⟨hq, rfl⟩ (by omega)
     exact okH_app ((ih _ _ (0 + a.2.1) h2 g1 (by omega)).mono (by show 0 + a.2.1 + b.2.1 ≤ 0 + (a.2.1 + b.2.1); omega)) (okH_one hq)
   | .againH [] x, h, hp => injection h with h; subst h; intro w hw; simp at hw
   | .againH ((ks, e) :: hs) x, h, hp =>
     obtain ⟨k', a, b, e0, h1, h2, rfl⟩ := runW_inv (fun rc => rfl) h
     injection e0 with e0; subst e0
     have hp : okH N C ((ks, e) :: hs) := hp
     have hc : C + (a.2.1 + b.2.1) ≤ 100000 := hc
     obtain ⟨p1, p2, p3⟩ := hp (ks, e) (.head _)
     have g1 := ih _ _ 0 h1 ⟨p1, rfl⟩ (by omega)
     have g2 := ih _ _ C h2 (fun w hw => hp w (.tail _ hw)) (by omega)
     exact okH_app ((okH_cons (e := e) ⟨p2, p3⟩ g1).mono (by show C + (0 + a.2.1) ≤ C + (a.2.1 + b.2.1); omega)) (g2.mono (by show C + b.2.1 ≤ C + (a.2.1 + b.2.1); omega))
end Go.Ev.G24
end
section
set_option linter.unusedSimpArgs false
set_option linter.unusedVariables false
namespace Go.Ev.G24
open Go.RowKit Go.Proofs
variable {h h1 h2 : Hp} {e : TypeId} {s : Nat} {B F B' F' : Nat → Prop} {mk : Value → Nat → List Value}
structure MkW (mk : Value → Nat → List Value) (s : Nat) : Prop where
 len : ∀ kv e, (mk kv e).length = s
 one : ∀ kv e, oneCell kv = true → (mk kv e).all oneCell = true
 pos : 0 < s
structure ApT (t e : TypeId) (s : Nat) : Prop where
 hu : Try.prog.underlying t = some (.slice e)
 hs : sizeOf' Try.prog e = some s
 hz : ∃ z, zero' Try.prog e = some z ∧ Nat.beq z.cells.toList.length s = true ∧ 0 < s
 hby : (match Try.prog.info? e with | some i => Nat.ble i.bytes 100000 && Nat.blt 0 i.bytes | none => false) = true
 hni : noInt Try.prog [t] = true
def WaysAt (mk : Value → Nat → List Value) (e : TypeId) (s : Nat) (h : Hp) (n0 f0 : Nat) (B F : Nat → Prop) (ws : List Way) (v : Value) : Prop := ∃ cs, OwnG e s h n0 f0 ws.length cs v ∧
 ∀ (i : Nat) (w : Way), ws[i]? = some w → ∃ kv, takeN (cs.drop (i * s)) s = some (mk kv w.2) ∧ KidsAt h (fun x => B x ∨ ownB v x) (fun q => F q ∨ ownF h v q) w.1 kv
theorem WaysAt.nil {n0 f0 : Nat} : WaysAt mk e s h n0 f0 B F [] (.slice none 0 0) := ⟨[], .inl ⟨rfl, rfl, rfl⟩, fun i w hw => by simp at hw⟩
theorem WaysAt.slice {n0 f0 : Nat} {ws : List Way} {v : Value} (k : WaysAt mk e s h n0 f0 B F ws v) : ∃ A, v = .slice A ws.length ws.length ∧ spotless A = true := by
 obtain ⟨cs, h1, _⟩ := k
 exact h1.slice
theorem WaysAt.lt {n0 f0 : Nat} {ws : List Way} {v : Value} (k : WaysAt mk e s h n0 f0 B F ws v) {x : Nat} (hx : ownB v x) : n0 ≤ x ∧ x < h.next := by
 obtain ⟨cs, h1, _⟩ := k
 exact h1.lt hx
theorem WaysAt.flt {n0 f0 : Nat} {ws : List Way} {v : Value} (k : WaysAt mk e s h n0 f0 B F ws v) {q : Nat} (hq : ownF h v q) : q ≠ 0 ∧ f0 ≤ q ∧ q < h.nfam := by
 obtain ⟨cs, h1, _⟩ := k
 exact h1.flt hq
theorem WaysAt.ownF_same {S : Nat → Prop} {n0 f0 : Nat} {ws : List Way} {v : Value} (k : WaysAt mk e s h n0 f0 B F ws v) (x : ExtS S h h1) (hS : ∀ b, ownB v b → ¬ S b) {q : Nat} (hq : ownF h1 v q) : ownF h v q := by
 obtain ⟨cs, h1, _⟩ := k
 exact h1.ownF_same x hS hq
theorem WaysAt.extS {S : Nat → Prop} (x : ExtS S h h1) (n : NoRow h S) {n0 f0 : Nat} {ws : List Way} {v : Value} (k : WaysAt mk e s h n0 f0 B F ws v) (hS : ∀ b, ownB v b → ¬ S b) : WaysAt mk e s h1 n0 f0 B F ws v := by
 have k0 := k
 obtain ⟨cs, h1, h2⟩ := k
 refine ⟨cs, h1.ext x hS, fun i w hw => ?_⟩
 obtain ⟨kv, a1, a2⟩ := h2 i w hw
 exact ⟨kv, a1, (a2.keep (keepsN x n).any).more (fun b _ c => c) (fun f c => .inl (c.elim .inl (fun c => .inr (k0.ownF_same x hS c))))⟩
theorem WaysAt.ext (x : Ext h h1) {n0 f0 : Nat} {ws : List Way} {v : Value} (k : WaysAt mk e s h n0 f0 B F ws v) : WaysAt mk e s h1 n0 f0 B F ws v := k.extS (S := fun _ => False) x.toS (fun _ _ _ _ c => c) (fun _ _ c => c)
theorem WaysAt.more {n0 f0 : Nat} {ws : List Way} {v : Value} (hB : ∀ b, b < h.next → B' b → B b) (hF : ∀ f, F' f → F f ∨ (f ≠ 0 ∧ h.nfam ≤ f)) (k : WaysAt mk e s h n0 f0 B F ws v) : WaysAt mk e s h n0 f0 B' F' ws v := by
 obtain ⟨cs, h1, h2⟩ := k
 refine ⟨cs, h1, fun i w hw => ?_⟩
 obtain ⟨kv, a1, a2⟩ := h2 i w hw
 exact ⟨kv, a1, a2.more (fun b hb c => c.elim (fun c => .inl (hB b hb c)) .inr) (fun f c => c.elim (fun c => (hF f c).elim (fun c => .inl (.inl c)) .inr) (fun c => .inl (.inr c)))⟩
theorem WaysAt.low {n0 f0 n1 f1 : Nat} {ws : List Way} {v : Value} (k : WaysAt mk e s h n0 f0 B F ws v) (h1 : n1 ≤ n0) (h2 : f1 ≤ f0) : WaysAt mk e s h n1 f1 B F ws v := by
 obtain ⟨cs, k1, k2⟩ := k
 refine ⟨cs, ?_, k2⟩
 rcases k1 with k1 | ⟨b, f, a2, a3, a4, a5, a6⟩
 · exact .inl k1
 · exact .inr ⟨b, f, a2, a3, a4, Nat.le_trans h1 a5, fun c => Nat.le_trans h2 (a6 c)⟩
theorem WaysAt.get {n0 f0 : Nat} {ws : List Way} {v : Value} (k : WaysAt mk e s h n0 f0 B F ws v) {i : Nat} {w : Way} (hi : ws[i]? = some w) : ∃ b kv, v = .slice (some ⟨b, 0, none⟩) ws.length ws.length ∧ h.loads ⟨b, i * s, none⟩ s = some (mk kv w.2) ∧ KidsAt h (fun x => B x ∨ ownB v x) (fun q => F q ∨ ownF h v q) w.1 kv := by
 obtain ⟨cs, k1, k2⟩ := k
 obtain ⟨kv, a1, a2⟩ := k2 i w hi
 rcases k1 with ⟨h0, _⟩ | ⟨b, f, rfl, hr, _⟩
 · have := get_lt' hi; omega
 · exact ⟨b, kv, rfl, by rw [rowE_loads hr, a1], a2⟩
theorem cells_allG (hs : 0 < s) {new : List Value} {n : Nat} (hl : new.length = n * s) (h : ∀ i, i < n → ∃ c : List Value, takeN (new.drop (i * s)) s = some c ∧ c.all oneCell = true) : new.all oneCell = true := by
 rw [List.all_eq_true]
 intro x hx
 obtain ⟨q, hq, rfl⟩ := List.mem_iff_getElem.1 hx
 have hi : q / s < n := by
  rw [Nat.div_lt_iff_lt_mul hs]
  omega
 obtain ⟨c, h1, h2⟩ := h _ hi
 obtain ⟨_, p2⟩ := takeN_some _ _ _ h1
 have hm : new[q] ∈ c := by
  rw [p2, List.mem_iff_getElem?]
  refine ⟨q % s, ?_⟩
  rw [List.getElem?_take_of_lt (Nat.mod_lt _ hs), List.getElem?_drop, Nat.div_add_mod' q s, List.getElem?_eq_getElem hq]
 exact List.all_eq_true.1 h2 _ hm
set_option maxRecDepth 10000 in
theorem ways_append {t : TypeId} (A : ApT t e s) (M : MkW mk s) {n0 f0 : Nat} {ws rs : List Way} {v w : Value} {new : List Value} (k : WaysAt mk e s h n0 f0 B F ws v) (hn : lenOf' w = some rs.length) (hf1 : first' h s rs.length w = some new) (hnl : new.length = rs.length * s)
  (hr : ∀ (i : Nat) (w : Way), rs[i]? = some w → ∃ kv, takeN (new.drop (i * s)) s = some (mk kv w.2) ∧ KidsAt h (fun x => B x ∨ ownB v x) (fun q => F q ∨ ownF h v q) w.1 kv) (hb : h.base ≤ h.next) (hn0 : n0 ≤ h.next) (hf0 : f0 ≤ h.nfam) (hsz : ws.length + rs.length ≤ 1000000) :
  ∃ v' h', append' Try.prog h [t, t] [v, w] = some (v', h') ∧ WaysAt mk e s h' n0 f0 B F (ws ++ rs) v' ∧ (∀ (S : Nat → Prop) (h0 : Hp), ExtS S h0 h → h0.next ≤ n0 → h0.nfam ≤ f0 → ExtS S h0 h') ∧ Keeps (ownB v) (ownF h v) h h' ∧ (∀ b' e' c', e' ≠ e → h.own b' e' c' → h'.own b' e' c') ∧
   (∀ x, ownB v' x → ownB v x ∨ h.next ≤ x) ∧ (∀ q, ownF h' v' q → ownF h v q ∨ h.nfam ≤ q) ∧ KeepsE (ownB v) (ownF h v) h h' := by
 have k0 := k
 obtain ⟨cs, k1, k2⟩ := k
 obtain ⟨z, hz, hzl⟩ := A.hz
 have hall : new.all oneCell = true := cells_allG M.pos hnl (fun i hi => by
  obtain ⟨kv, a1, a2⟩ := hr i _ (List.getElem?_eq_getElem hi)
  obtain ⟨A9, c9, rfl, _⟩ := a2.slice
  exact ⟨_, a1, M.one _ _ rfl⟩)
 obtain ⟨v', h', a1, a2, a3, a4, a5, a6, a7, a8⟩ := ownG_append A.hu A.hs hz hzl A.hby A.hni k1 hn hf1 hall hnl hb hn0 hf0 hsz
 have hcl := k1.len
 have own0 : ¬ ownF h v 0 := fun c => (k0.flt c).1 rfl
 have move : ∀ {ks : List Part} {kv : Value}, KidsAt h (fun x => B x ∨ ownB v x) (fun q => F q ∨ ownF h v q) ks kv → KidsAt h' (fun x => B x ∨ ownB v' x) (fun q => F q ∨ ownF h' v' q) ks kv := by
  intro ks kv c
  have g1 := c.more (B' := fun x => (B x ∨ ownB v x) ∨ ownB v' x) (F' := fun q => (F q ∨ ownF h v q) ∨ ownF h' v' q) (fun b hb c => by
   rcases c with c | c
   · exact c
   · rcases a5 b c with c | c
     · exact .inr c
     · omega) (fun q c => by
   rcases c with c | c
   · exact .inl c
   · rcases a6 q c with d | d
     · exact .inl (.inr d)
     · exact .inr ⟨(a2.flt c).1, d⟩)
  have g2 := g1.keep (a4.mono (B' := fun x => (B x ∨ ownB v x) ∨ ownB v' x) (F' := fun q => (F q ∨ ownF h v q) ∨ ownF h' v' q) (fun b _ c => .inl (.inr c)) (fun q _ _ c => .inl (.inr c)) own0)
  exact g2.more (fun b _ c => by
   rcases c with c | c
   · exact .inl (.inl c)
   · exact .inr c) (fun q c => .inl (by
   rcases c with c | c
   · exact .inl (.inl c)
   · exact .inr c))
 refine ⟨v', h', a1, ⟨cs ++ new, by rw [List.length_append]; exact a2, fun i w hw => ?_⟩, a3, a4, a7, a5, a6, a8⟩
 by_cases c : i < ws.length
 · rw [List.getElem?_append_left c] at hw
   obtain ⟨kv, b1, b2⟩ := k2 i w hw
   refine ⟨kv, ?_, move b2⟩
   obtain ⟨q1, q2⟩ := takeN_some _ _ _ b1
   rw [List.length_drop] at q1
   have hle : i * s + s ≤ cs.length := by
    have : s ≤ cs.length - i * s := q1
    have := M.pos
    omega
   rw [takeN_ok _ _ (by rw [List.length_drop, List.length_append]; omega), q2]
   congr 1
   rw [List.drop_append_of_le_length (by omega), List.take_append_of_le_length (by rw [List.length_drop]; omega)]
 · rw [List.getElem?_append_right (by omega)] at hw
   obtain ⟨kv, b1, b2⟩ := hr _ w hw
   refine ⟨kv, ?_, move b2⟩
   rw [← b1, List.drop_append, List.drop_eq_nil_of_le (by rw [hcl]; exact Nat.mul_le_mul_right s (by omega)), List.nil_append, hcl, Nat.sub_mul]
theorem ways_all {t : TypeId} (A : ApT t e s) (M : MkW mk s) {n0 f0 m0 g0 : Nat} {ws rs : List Way} {v w : Value} (k : WaysAt mk e s h n0 f0 B F ws v) (r : WaysAt mk e s h m0 g0 (fun x => B x ∨ ownB v x) (fun q => F q ∨ ownF h v q) rs w) (hb : h.base ≤ h.next) (hn0 : n0 ≤ h.next) (hf0 : f0 ≤ h.nfam) (hsz : ws.length + rs.length ≤ 1000000) :
  ∃ v' h', append' Try.prog h [t, t] [v, w] = some (v', h') ∧ WaysAt mk e s h' n0 f0 B F (ws ++ rs) v' ∧ (∀ (S : Nat → Prop) (h0 : Hp), ExtS S h0 h → h0.next ≤ n0 → h0.nfam ≤ f0 → ExtS S h0 h') ∧ Keeps (ownB v) (ownF h v) h h' ∧ (∀ b' e' c', e' ≠ e → h.own b' e' c' → h'.own b' e' c') ∧
   (∀ x, ownB v' x → ownB v x ∨ h.next ≤ x) ∧ (∀ q, ownF h' v' q → ownF h v q ∨ h.nfam ≤ q) ∧ KeepsE (ownB v) (ownF h v) h h' := by
 obtain ⟨cs, r1, r2⟩ := r
 have hlen := r1.len
 have hsl := r1.slice
 obtain ⟨A9, hv9, _⟩ := hsl
 have hfirst : first' h s rs.length w = some cs := by
  rcases r1 with ⟨h0, rfl, rfl⟩ | ⟨b, f, rfl, hr, hl, _⟩
  · rw [h0]; simp [first', Hp.loads]
  · simp only [first', rowE_loads hr, List.drop_zero]
    rw [← hl]
    exact takeN_all _
 refine ways_append A M k (by rw [hv9]; rfl) hfirst hlen (fun i w hw => ?_) hb hn0 hf0 hsz
 obtain ⟨kv, a1, a2⟩ := r2 i w hw
 exact ⟨kv, a1, a2.more (fun b _ c => .inl c) (fun f c => .inl (.inl c))⟩
theorem ways_one {t : TypeId} (A : ApT t e s) (M : MkW mk s) {n0 f0 : Nat} {ws : List Way} {v : Value} {wb en : Nat} {ks : List Part} {kv : Value} (k : WaysAt mk e s h n0 f0 B F ws v) (hw : h.own wb e (mk kv en)) (hk : KidsAt h (fun x => B x ∨ ownB v x) (fun q => F q ∨ ownF h v q) ks kv) (hb : h.base ≤ h.next) (hn0 : n0 ≤ h.next) (hf0 : f0 ≤ h.nfam) (hsz : ws.length + 1 ≤ 1000000) :
  ∃ v' h', append' Try.prog h [t, t] [v, .slice (some ⟨wb, 0, none⟩) 1 1] = some (v', h') ∧ WaysAt mk e s h' n0 f0 B F (ws ++ [(ks, en)]) v' ∧ (∀ (S : Nat → Prop) (h0 : Hp), ExtS S h0 h → h0.next ≤ n0 → h0.nfam ≤ f0 → ExtS S h0 h') ∧ Keeps (ownB v) (ownF h v) h h' ∧ (∀ b' e' c', e' ≠ e → h.own b' e' c' → h'.own b' e' c') ∧
   (∀ x, ownB v' x → ownB v x ∨ h.next ≤ x) ∧ (∀ q, ownF h' v' q → ownF h v q ∨ h.nfam ≤ q) ∧ KeepsE (ownB v) (ownF h v) h h' := by
 refine ways_append A M (rs := [(ks, en)]) (new := mk kv en) k rfl ?_ (by rw [M.len]; simp) (fun i w hwi => ?_) hb hn0 hf0 hsz
 · show first' h s 1 _ = _
   simp only [first', loads_own hw, List.drop_zero, Nat.one_mul]
   have := takeN_all (mk kv en)
   rw [M.len] at this
   exact this
 · have : i = 0 := by have := get_lt' hwi; simpa using this
   subst this
   simp at hwi
   subst hwi
   refine ⟨kv, ?_, hk⟩
   have := takeN_all (mk kv en)
   rw [M.len] at this
   simpa using this
theorem ways_new (M : MkW mk s) {b en : Nat} {ks : List Part} {kv : Value} {n0 f0 : Nat} (o : h.own b e (mk kv en)) (hb : n0 ≤ b) (hBb : KidsAt h (fun x => B x ∨ x = b) F ks kv) : WaysAt mk e s h n0 f0 B F [(ks, en)] (.slice (some ⟨b, 0, none⟩) 1 1) := by
 have hr : RowE e h b (mk kv en) 0 := ⟨o.1, o.2.1, ⟨0, false, row_own o⟩, fun c => absurd rfl c⟩
 refine ⟨mk kv en, .inr ⟨b, 0, rfl, hr, by rw [M.len]; simp, hb, fun c => absurd rfl c⟩, fun i w hwi => ?_⟩
 have : i = 0 := by have := get_lt' hwi; simpa using this
 subst this
 simp at hwi
 subst hwi
 refine ⟨kv, ?_, hBb.more (fun b _ c => c) (fun f c => .inl (c.elim id (fun c => absurd ((ownF_eqE hr f).1 c) (fun c => c.2 rfl))))⟩
 have := takeN_all (mk kv en)
 rw [M.len] at this
 simpa using this
def Beside (h : Hp) (v u : Value) : Prop := (∀ b, ownB v b → ¬ ownB u b) ∧ ∀ f, ownF h v f → ¬ ownF h u f
theorem WaysAt.beside {h' : Hp} {n0 f0 : Nat} {ws : List Way} {v u u' : Value} (k : WaysAt mk e s h n0 f0 (fun x => B x ∨ ownB u x) (fun q => F q ∨ ownF h u q) ws v) (D : Beside h v u) (hu0 : ¬ ownF h u 0) (kp : Keeps (ownB u) (ownF h u) h h') (ke : KeepsE (ownB u) (ownF h u) h h') (hB : ∀ x, ownB u' x → ownB u x ∨ h.next ≤ x) (hF : ∀ q, ownF h' u' q → ownF h u q ∨ h.nfam ≤ q) (hF0 : ∀ q, ownF h' u' q → q ≠ 0) :
  WaysAt mk e s h' n0 f0 (fun x => B x ∨ ownB u' x) (fun q => F q ∨ ownF h' u' q) ws v ∧ Beside h' v u' := by
 have k0 := k
 obtain ⟨cs, k1, k2⟩ := k
 have hown : OwnG e s h' n0 f0 ws.length cs v ∧ ∀ q, ownF h' v q → ownF h v q := by
  rcases k1 with ⟨h0, rfl, rfl⟩ | ⟨b, f, rfl, hr, hl, hb, hf⟩
  · exact ⟨.inl ⟨h0, rfl, rfl⟩, fun q c => c.elim⟩
  · have hnf : ¬ ownF h u f := by
     intro c
     by_cases hf0' : f = 0
     · subst hf0'; exact hu0 c
     · exact D.2 f ((ownF_eqE hr f).2 ⟨rfl, hf0'⟩) c
    have hr' := ke _ _ _ _ hr (D.1 b rfl) hnf
    exact ⟨.inr ⟨b, f, rfl, hr', hl, hb, hf⟩, fun q c => (ownF_eqE hr q).2 ((ownF_eqE hr' q).1 c)⟩
 refine ⟨⟨cs, hown.1, fun i w hw => ?_⟩, fun b c c' => ?_, fun f c c' => ?_⟩
 · obtain ⟨kv, a1, a2⟩ := k2 i w hw
   refine ⟨kv, a1, ?_⟩
   have g1 := a2.more (B' := fun x => ((B x ∨ ownB u x) ∨ ownB v x) ∨ ownB u' x) (F' := fun q => ((F q ∨ ownF h u q) ∨ ownF h v q) ∨ ownF h' u' q) (fun b hb c => by
    rcases c with c | c
    · exact c
    · rcases hB b c with c | c
      · exact .inl (.inr c)
      · omega) (fun q c => by
    rcases c with c | c
    · exact .inl c
    · rcases hF q c with d | d
      · exact .inl (.inl (.inr d))
      · exact .inr ⟨hF0 q c, d⟩)
   have g2 := g1.keep (kp.mono (B' := fun x => ((B x ∨ ownB u x) ∨ ownB v x) ∨ ownB u' x) (F' := fun q => ((F q ∨ ownF h u q) ∨ ownF h v q) ∨ ownF h' u' q) (fun b _ c => .inl (.inl (.inr c))) (fun q _ _ c => .inl (.inl (.inr c))) hu0)
   exact g2.more (fun b _ c => by
    rcases c with (c | c) | c
    · exact .inl (.inl (.inl c))
    · exact .inr c
    · exact .inl (.inr c)) (fun q c => .inl (by
    rcases c with (c | c) | c
    · exact .inl (.inl (.inl c))
    · exact .inr c
    · exact .inl (.inr (hown.2 q c))))
 · rcases hB b c' with d | d
   · exact D.1 b c d
   · have := (k0.lt c).2; omega
 · rcases hF f c' with d | d
   · exact D.2 f (hown.2 f c) d
   · have := (k0.flt (hown.2 f c)).2.2; omega
def encP (kv : Value) (e : Nat) : List Value := [.bool true, .int .i64 (e : Int), kv]
def encR (kv : Value) (e : Nat) : List Value := [kv, .int .i64 (e : Int)]
theorem mkP : MkW encP 3 := ⟨fun _ _ => rfl, fun kv e h => by simp only [encP, List.all_cons, List.all_nil, h]; rfl, by decide⟩
theorem mkR : MkW encR 2 := ⟨fun _ _ => rfl, fun kv e h => by simp only [encR, List.all_cons, List.all_nil, h]; rfl, by decide⟩
theorem apP : ApT 93 75 3 := ⟨Try.underlying93, sz75, ⟨_, z75, by exact ⟨rfl, by decide⟩⟩, by kernel_rfl, by kernel_rfl⟩
theorem apR : ApT 82 85 2 := ⟨Try.underlying82, sz85, ⟨_, z85, by exact ⟨rfl, by decide⟩⟩, by kernel_rfl, by kernel_rfl⟩
end Go.Ev.G24
end
section
set_option linter.unusedSimpArgs false
set_option linter.unusedVariables false
namespace Go.Ev.G24
open Go.RowKit Go.Proofs
variable {h h1 h2 : Hp} {B F B' F' : Nat → Prop}
theorem ap29 : ApT 29 31 3 := ⟨Try.underlying29, sz31, ⟨_, z31, by exact ⟨rfl, by decide⟩⟩, by kernel_rfl, by kernel_rfl⟩
def KidsO (h : Hp) (n0 f0 : Nat) (B F : Nat → Prop) (l : List Part) (v : Value) : Prop := ∃ (cs : List Value) (css : Nat → List Value), OwnG 31 3 h n0 f0 l.length cs v ∧ (∀ (i : Nat) (p : Part), l[i]? = some p → takeN (cs.drop (i * 3)) 3 = some (css i)) ∧
 ∀ (i : Nat) (p : Part), l[i]? = some p → TreeAt h (fun x => B x ∨ ownB v x) (fun q => F q ∨ ownF h v q) p (css i)
theorem KidsO.kids {n0 f0 : Nat} {l : List Part} {v : Value} (k : KidsO h n0 f0 B F l v) (hB : ∀ b, B b → b < n0) (hF : ∀ f, F f → f ≠ 0 ∧ f < f0) : KidsAt h B F l v := by
 obtain ⟨cs, css, k1, k2, k3⟩ := k
 rcases k1 with ⟨h0, rfl, rfl⟩ | ⟨b, f, rfl, hr, hl, hb, hf⟩
 · have : l = [] := List.length_eq_zero_iff.1 h0
   subst this
   exact KidsAt.nil
 · refine ⟨_, _, b, 0, f, cs, css, rfl, Nat.le_refl _, rfl, fun _ => ⟨rfl, ⟨hr.lo, hr.lt, hr.row, hr.fl⟩, fun c => by have := hB _ c; omega, fun c => by
    have := hF _ c
    have := hf this.1
    omega⟩, fun i p hp => by rw [Nat.zero_add]; exact k2 i p hp, fun i p hp => (k3 i p hp).more (fun x _ c => .inl c) (fun q c => .inl (.inl c))⟩
set_option maxRecDepth 10000 in
theorem trees_append {n0 f0 : Nat} {l ks : List Part} {v w : Value} (k : KidsO h n0 f0 B F l v) (K : KidsAt h (fun x => B x ∨ ownB v x) (fun q => F q ∨ ownF h v q) ks w) (hb : h.base ≤ h.next) (hn0 : n0 ≤ h.next) (hf0 : f0 ≤ h.nfam) (hsz : l.length + ks.length ≤ 1000000) :
  ∃ v' h', append' Try.prog h [29, 29] [v, w] = some (v', h') ∧ KidsO h' n0 f0 B F (l ++ ks) v' ∧ (∀ (S : Nat → Prop) (h0 : Hp), ExtS S h0 h → h0.next ≤ n0 → h0.nfam ≤ f0 → ExtS S h0 h') ∧ Keeps (ownB v) (ownF h v) h h' ∧ (∀ b' e' c', e' ≠ 31 → h.own b' e' c' → h'.own b' e' c') := by
 have A := ap29
 obtain ⟨z, hz, hzl⟩ := A.hz
 obtain ⟨cs, css, k1, k2, k3⟩ := k
 have hcl := k1.len
 have own0 : ¬ ownF h v 0 := fun c => (k1.flt c).1 rfl
 have core : ∀ (new : List Value) (cn : Nat → List Value), lenOf' w = some ks.length → first' h 3 ks.length w = some new → new.length = ks.length * 3 → new.all oneCell = true → (∀ i : Nat, i < ks.length → takeN (new.drop (i * 3)) 3 = some (cn i)) → (∀ (i : Nat) (p : Part), ks[i]? = some p → TreeAt h (fun x => B x ∨ ownB v x) (fun q => F q ∨ ownF h v q) p (cn i)) →
   ∃ v' h', append' Try.prog h [29, 29] [v, w] = some (v', h') ∧ KidsO h' n0 f0 B F (l ++ ks) v' ∧ (∀ (S : Nat → Prop) (h0 : Hp), ExtS S h0 h → h0.next ≤ n0 → h0.nfam ≤ f0 → ExtS S h0 h') ∧ Keeps (ownB v) (ownF h v) h h' ∧ (∀ b' e' c', e' ≠ 31 → h.own b' e' c' → h'.own b' e' c') := by
  intro new cn q1 q2 q3 q4 q5 q6
  obtain ⟨v', h', a1, a2, a3, a4, a5, a6, a7, _⟩ := ownG_append A.hu A.hs hz hzl A.hby A.hni k1 q1 q2 q4 q3 hb hn0 hf0 hsz
  have move : ∀ {p : Part} {c : List Value}, TreeAt h (fun x => B x ∨ ownB v x) (fun q => F q ∨ ownF h v q) p c → TreeAt h' (fun x => B x ∨ ownB v' x) (fun q => F q ∨ ownF h' v' q) p c := by
   intro p c t
   have g1 := t.more (B' := fun x => (B x ∨ ownB v x) ∨ ownB v' x) (F' := fun q => (F q ∨ ownF h v q) ∨ ownF h' v' q) (fun b hb c => by
    rcases c with c | c
    · exact c
    · rcases a5 b c with c | c
      · exact .inr c
      · omega) (fun q c => by
    rcases c with c | c
    · exact .inl c
    · rcases a6 q c with d | d
      · exact .inl (.inr d)
      · exact .inr ⟨(a2.flt c).1, d⟩)
   have g2 := g1.keep (a4.mono (B' := fun x => (B x ∨ ownB v x) ∨ ownB v' x) (F' := fun q => (F q ∨ ownF h v q) ∨ ownF h' v' q) (fun b _ c => .inl (.inr c)) (fun q _ _ c => .inl (.inr c)) own0)
   exact g2.more (fun b _ c => by
    rcases c with c | c
    · exact .inl (.inl c)
    · exact .inr c) (fun q c => .inl (by
    rcases c with c | c
    · exact .inl (.inl c)
    · exact .inr c))
  refine ⟨v', h', a1, ⟨cs ++ new, fun i => if i < l.length then css i else cn (i - l.length), by rw [List.length_append]; exact a2, fun i p hp => ?_, fun i p hp => ?_⟩, a3, a4, a7⟩
  · by_cases c : i < l.length
    · rw [List.getElem?_append_left c] at hp
      have := k2 i p hp
      obtain ⟨r1, r2⟩ := takeN_some _ _ _ this
      simp only [if_pos c]
      rw [List.length_drop] at r1
      rw [takeN_ok _ _ (by rw [List.length_drop, List.length_append]; omega), r2]
      congr 1
      rw [List.drop_append_of_le_length (by omega), List.take_append_of_le_length (by rw [List.length_drop]; omega)]
    · rw [List.getElem?_append_right (by omega)] at hp
      simp only [if_neg c]
      have := q5 (i - l.length) (get_lt' hp)
      rw [← this, List.drop_append, List.drop_eq_nil_of_le (by rw [hcl]; omega), List.nil_append, hcl, show i * 3 - l.length * 3 = (i - l.length) * 3 by omega]
  · by_cases c : i < l.length
    · rw [List.getElem?_append_left c] at hp
      simp only [if_pos c]
      exact move (k3 i p hp)
    · rw [List.getElem?_append_right (by omega)] at hp
      simp only [if_neg c]
      exact move (q6 _ p hp)
 by_cases hks : ks = []
 · subst hks
   obtain ⟨q1, q2⟩ := K.none
   exact core [] (fun _ => []) q1 q2 rfl rfl (fun i hi => absurd hi (Nat.not_lt_zero _)) (fun i p hp => by simp at hp)
 · obtain ⟨new, cn, q1, q2, q3, q4, q5, q6⟩ := K.cells hks
   exact core new cn q1 q2 q3 q4 q5 q6
def OldB (h : Hp) : Nat → Prop := fun b => b < h.next
def OldF (h : Hp) : Nat → Prop := fun f => f ≠ 0 ∧ f < h.nfam
theorem empt_own (hb : h.base ≤ h.next) : KidsO (h.newH (CObj.cells { c := [], e := 31, fam := 0, base := 0, grown := false })) h.next h.nfam (OldB h) (OldF h) [] (.slice (some ⟨h.next, 0, none⟩) 0 0) := by
 have o := own_new hb 31 []
 exact ⟨[], fun _ => [], .inr ⟨h.next, 0, rfl, ⟨o.1, o.2.1, ⟨0, false, row_own o⟩, fun c => absurd rfl c⟩, rfl, Nat.le_refl _, fun c => absurd rfl c⟩, fun i p hp => by simp at hp, fun i p hp => by simp at hp⟩
theorem nil_own {n0 f0 : Nat} : KidsO h n0 f0 B F [] (.slice none 0 0) := ⟨[], fun _ => [], .inl ⟨rfl, rfl, rfl⟩, fun i p hp => by simp at hp, fun i p hp => by simp at hp⟩
theorem old_kids {h0 : Hp} {n0 f0 : Nat} {l : List Part} {cs : List Value} {v : Value} {n : Nat} (k : OwnG 31 3 h n0 f0 n cs v) (hn : h0.next ≤ n0) (hf : h0.nfam ≤ f0) {ks : List Part} {kv : Value} (x : Ext h0 h) (K : KidsAt h0 B F ks kv) : KidsAt h (fun x => B x ∨ ownB v x) (fun q => F q ∨ ownF h v q) ks kv :=
 (K.more (B' := fun x => B x ∨ ownB v x) (F' := fun q => F q ∨ ownF h v q) (fun b hb c => c.elim id (fun c => by have := (k.lt c).1; omega)) (fun f c => c.elim .inl (fun c => .inr ⟨(k.flt c).1, by have := (k.flt c).2.1; omega⟩))).keep (keepsE x).any
theorem join_two {he : Hp} {ka kb : List Part} {v0 va vb : Value} (x0 : Ext h he) (hb : he.base ≤ he.next) (hv0 : KidsO he h.next h.nfam (OldB h) (OldF h) [] v0) (Ka : KidsAt h B F ka va) (Kb : KidsAt h B F kb vb) (hBn : ∀ b, B b → b < h.next) (hFn : ∀ f, F f → f ≠ 0 ∧ f < h.nfam) (hs : ka.length + kb.length ≤ 1000000) :
  ∃ v1 h1 v2 h2, append' Try.prog he [29, 29] [v0, va] = some (v1, h1) ∧ append' Try.prog h1 [29, 29] [v1, vb] = some (v2, h2) ∧ Ext h h1 ∧ Ext h h2 ∧ KidsAt h2 B F (ka ++ kb) v2 := by
 have weak : ∀ {h' : Hp} {l : List Part} {v : Value}, KidsO h' h.next h.nfam (OldB h) (OldF h) l v → KidsO h' h.next h.nfam B F l v := by
  rintro h' l v ⟨cs, css, k1, k2, k3⟩
  exact ⟨cs, css, k1, k2, fun i p hp => (k3 i p hp).more (fun b _ c => c.elim (fun c => .inl (hBn b c)) .inr) (fun f c => .inl (c.elim (fun c => .inl (hFn f c)) .inr))⟩
 have w0 := weak hv0
 obtain ⟨cs0, css0, g1, g2, g3⟩ := w0
 obtain ⟨v1, h1, a1, a2, a3, a4, a5⟩ := trees_append ⟨cs0, css0, g1, g2, g3⟩ (old_kids g1 (Nat.le_refl _) (Nat.le_refl _) (l := []) x0 Ka) hb x0.next x0.nfam (by simp; omega)
 have x1 : Ext h h1 := (a3 (fun _ => False) h x0.toS (Nat.le_refl _) (Nat.le_refl _)).ext (fun _ _ c => c)
 have hb1 : h1.base ≤ h1.next := by rw [x1.base, ← x0.base]; exact Nat.le_trans hb a4.next
 rw [List.nil_append] at a2
 obtain ⟨cs1, css1, k1, k2, k3⟩ := a2
 obtain ⟨v2, h2, b1, b2, b3, b4, b5⟩ := trees_append ⟨cs1, css1, k1, k2, k3⟩ (old_kids k1 (Nat.le_refl _) (Nat.le_refl _) (l := []) x1 Kb) hb1 x1.next x1.nfam hs
 have x2 : Ext h h2 := (b3 (fun _ => False) h x1.toS (Nat.le_refl _) (Nat.le_refl _)).ext (fun _ _ c => c)
 exact ⟨v1, h1, v2, h2, a1, b1, x1, x2, b2.kids hBn hFn⟩
end Go.Ev.G24
end
section
set_option linter.unusedSimpArgs false
set_option linter.unusedVariables false
namespace Go.Ev.G24
open Go.RowKit Go.Proofs
variable {r : Ro} {G : List Rule} {items : List ByteArray} {Gv Iv : Option Addr} {gc ic xb : Nat}
def wR (G : List Rule) (items : List ByteArray) (Gv Iv : Option Addr) (gc ic : Nat) (s : Int) : List Value := [.slice Gv G.length gc, .slice Iv items.length ic, .int .i64 s]
def lowW (s : Int) : Int := if s < 0 then s - 1 else -((s + 1) * 200001)
def deadW (N : Nat) (s : Int) (ws : List Way) : Prop := (s < 0 → ws = []) ∧ ws.length ≤ 2 * (s.toNat + 1) ∧ okH N (s.toNat + 1) ws
abbrev WR (h : Hp) (n0 f0 : Nat) (B F : Nat → Prop) (ws : List Way) (v : Value) : Prop := WaysAt encR 85 2 h n0 f0 B F ws v
def WalkP (G : List Rule) (items : List ByteArray) (Gv Iv : Option Addr) (gc ic xb : Nat) (t : TaskW) (s lb : Int) (h : Hp) (v : Value) (h1 : Hp) : Prop := ∃ (s' : Int) (ws : List Way), ExtS (Only xb) h h1 ∧ h1.own xb 81 (wR G items Gv Iv gc ic s') ∧ WR h1 h.next h.nfam (OldB h) (OldF h) ws v ∧
 ((∃ k o, runW G items k t = some o ∧ s' = s - (o.2.1 : Int) - (o.2.2 : Int) ∧ 0 ≤ s' ∧ ws = o.1) ∨ (s' < 0 ∧ lb ≤ s' ∧ deadW items.length s ws))
theorem WaysAt.getR {h : Hp} {n0 f0 : Nat} {B F : Nat → Prop} {ws : List Way} {v : Value} (k : WR h n0 f0 B F ws v) {i : Nat} {w : Way} (hi : ws[i]? = some w) : ∃ b A c, v = .slice (some ⟨b, 0, none⟩) ws.length ws.length ∧ spotless A = true ∧ KidsAt h (fun x => B x ∨ ownB v x) (fun q => F q ∨ ownF h v q) w.1 (.slice A w.1.length c) ∧
  ∀ h1, Ext h h1 → h1.load ⟨b, i * 2, none⟩ = some (.slice A w.1.length c) ∧ h1.load ⟨b, i * 2 + 1, none⟩ = some (.int .i64 (w.2 : Int)) := by
 obtain ⟨cs, k1, k2⟩ := k
 obtain ⟨kv, a1, a2⟩ := k2 i w hi
 obtain ⟨A, c, rfl, hsp⟩ := a2.slice
 rcases k1 with ⟨h0, _⟩ | ⟨b, f, rfl, hr, _⟩
 · have := get_lt' hi; omega
 · refine ⟨b, A, c, rfl, hsp, a2, fun h1 x => ?_⟩
   have hr1 := rowE_keep (S := fun _ => False) x.toS hr (fun c => c)
   obtain ⟨q1, q2⟩ := takeN_some _ _ _ a1
   have g0 : (cs.drop (i * 2))[0]? = some (.slice A w.1.length c) := by
    have := congrArg (fun l => l[0]?) q2
    simp only [encR, List.getElem?_cons_zero] at this
    rw [List.getElem?_take_of_lt (by decide)] at this
    exact this.symm
   have g1 : (cs.drop (i * 2))[1]? = some (.int .i64 (w.2 : Int)) := by
    have := congrArg (fun l => l[1]?) q2
    simp only [encR, List.getElem?_cons_zero, List.getElem?_cons_succ] at this
    rw [List.getElem?_take_of_lt (by decide)] at this
    exact this.symm
   rw [List.getElem?_drop] at g0 g1
   exact ⟨by rw [rowE_load hr1]; exact g0, by rw [rowE_load hr1]; exact g1⟩
theorem Beside.ext {h h1 : Hp} {e1 e2 : TypeId} {s1 s2 n0 f0 n1 f1 : Nat} {mk1 mk2 : Value → Nat → List Value} {B F B2 F2 : Nat → Prop} {ws us : List Way} {v u : Value} (x : Ext h h1) (kv : WaysAt mk1 e1 s1 h n0 f0 B F ws v) (ku : WaysAt mk2 e2 s2 h n1 f1 B2 F2 us u) (D : Beside h v u) : Beside h1 v u :=
 ⟨D.1, fun f c c' => D.2 f (kv.ownF_same (S := fun _ => False) x.toS (fun _ _ c => c) c) (ku.ownF_same (S := fun _ => False) x.toS (fun _ _ c => c) c')⟩
theorem WaysAt.extF {h h1 : Hp} {e1 e2 : TypeId} {s1 s2 n0 f0 n1 f1 : Nat} {mk1 mk2 : Value → Nat → List Value} {B F B2 F2 : Nat → Prop} {ws us : List Way} {v u : Value} (x : Ext h h1) (ku : WaysAt mk2 e2 s2 h n1 f1 B2 F2 us u) (kv : WaysAt mk1 e1 s1 h n0 f0 (fun y => B y ∨ ownB u y) (fun q => F q ∨ ownF h u q) ws v) : WaysAt mk1 e1 s1 h1 n0 f0 (fun y => B y ∨ ownB u y) (fun q => F q ∨ ownF h1 u q) ws v :=
 (kv.ext x).more (fun b _ c => c) (fun f c => .inl (c.elim .inl (fun c => .inr (ku.ownF_same (S := fun _ => False) x.toS (fun _ _ c => c) c))))
set_option maxHeartbeats 8000000 in
set_option maxRecDepth 10000 in
theorem walk_inner71 {h0 hs : Hp} {nh fh nr fr : Nat} {wo wh wr : List Way} {vo vh vr : Value} {ks : List Part} {en i : Nat} {z : Int} (hb : h0.base ≤ h0.next) (hx : ExtS (Only xb) h0 hs) (hX : hs.own xb 81 (wR G items Gv Iv gc ic z)) (hxn : xb < h0.next)
  (hO : WR hs h0.next h0.nfam (OldB h0) (OldF h0) wo vo) (hH : WR hs nh fh (fun x => OldB h0 x ∨ ownB vo x) (fun q => OldF h0 q ∨ ownF hs vo q) wh vh) (hDH : Beside hs vh vo) (hR : WR hs nr fr (fun x => OldB h0 x ∨ ownB vo x) (fun q => OldF h0 q ∨ ownF hs vo q) wr vr) (hDR : Beside hs vr vo)
  (hi : wh[i]? = some (ks, en)) (hks : ks.length ≤ 200000) (hrs : ∀ w ∈ wr, w.1.length ≤ 200000) (hlen : wo.length + wr.length ≤ 500000)
  {a : Ev.A} {Q : Ex → Ev.A → Hp → Prop} {x0 x1 : Value} (hn : a.n = 84) (g0 : a.get 0 = x0) (g1 : a.get 1 = x1) (g7 : a.get 7 = vo) (g8 : a.get 8 = vh) (g9 : a.get 9 = .int .i64 (i : Int)) (g10 : a.get 10 = vr) (g11 : a.get 11 = .int .i64 0)
  (hq : ∀ a1 h1 vo', a1.n = 84 → ExtS (Only xb) h0 h1 → hs.next ≤ h1.next → h1.own xb 81 (wR G items Gv Iv gc ic z) → WR h1 h0.next h0.nfam (OldB h0) (OldF h0) (wo ++ consW ks wr) vo' → WR h1 nh fh (fun x => OldB h0 x ∨ ownB vo' x) (fun q => OldF h0 q ∨ ownF h1 vo' q) wh vh → Beside h1 vh vo' → a1.get 0 = x0 → a1.get 1 = x1 → a1.get 7 = vo' → a1.get 8 = vh → a1.get 9 = .int .i64 (i : Int) → a1.get 10 = vr → Q (.exit 2) a1 h1) :
  Th Try.prog (bodyAt Try.f71 [1, 1, 1, 1, 0, 1, 0, 0, 1, 0, 0, 1, 0, 1, 0]) a hs Q ⟨⟩ ⟨⟩ := by
 obtain ⟨Ar, hvr, hspr⟩ := hR.slice
 have hcons : ∀ j, consW ks (wr.take (j + 1)) = consW ks (wr.take j) ++ (match wr[j]? with | some w => [(ks ++ w.1, w.2)] | none => []) := by
  intro j
  unfold consW
  cases hj : wr[j]? with
  | none =>
    have := List.getElem?_eq_none_iff.1 hj
    rw [List.take_of_length_le (by omega), List.take_of_length_le (by omega)]; simp
  | some w =>
    have hl := get_lt' hj
    rw [List.take_succ_eq_append_getElem hl, List.map_append]
    rw [List.getElem?_eq_getElem hl] at hj
    injection hj with hj
    rw [hj]; rfl
 simp only [bodyAt, nav, Try.f71]
 refine loop_go (n := 84) (by kernel_rfl) (fun m' a' h' => ∃ (j : Nat) (v : Value), j ≤ wr.length ∧ m' = wr.length - j ∧ ExtS (Only xb) h0 h' ∧ hs.next ≤ h'.next ∧ h'.own xb 81 (wR G items Gv Iv gc ic z) ∧ WR h' h0.next h0.nfam (OldB h0) (OldF h0) (wo ++ consW ks (wr.take j)) v ∧ WR h' nh fh (fun x => OldB h0 x ∨ ownB v x) (fun q => OldF h0 q ∨ ownF h' v q) wh vh ∧ Beside h' vh v ∧ WR h' nr fr (fun x => OldB h0 x ∨ ownB v x) (fun q => OldF h0 q ∨ ownF h' v q) wr vr ∧ Beside h' vr v ∧
  a'.get 0 = x0 ∧ a'.get 1 = x1 ∧ a'.get 7 = v ∧ a'.get 8 = vh ∧ a'.get 9 = .int .i64 (i : Int) ∧ a'.get 10 = vr ∧ a'.get 11 = .int .i64 j) ?_ wr.length _ _ hn ⟨0, vo, Nat.zero_le _, rfl, hx, Nat.le_refl _, hX, by simpa [consW] using hO, hH, hDH, hR, hDR, g0, g1, g7, g8, g9, g10, g11⟩
 rintro m' a' h' hn' ⟨j, v, hj, rfl, hx', hnx', hX', hO', hH', hDH', hR', hDR', e0, e1, e7, e8, e9, e10, e11⟩
 have hb' : h'.base ≤ h'.next := ext_bn hx' hb
 by_cases hlt : j < wr.length
 · have hwj : wr[j]? = some wr[j] := List.getElem?_eq_getElem hlt
   have hi1 : decide ((j : Int) < (wr.length : Int)) = true := decide_eq_true (Int.ofNat_lt.2 hlt)
   obtain ⟨bh, Ah, ch, hvh, hsph, Kh, ldh⟩ := hH'.getR hi
   obtain ⟨br, Ark, crk, hvr2, hsprk, Kr, ldr⟩ := hR'.getR hwj
   have hih : i < wh.length := get_lt' hi
   have x1 := Ext.new h' (CObj.cells { c := [], e := 31, fam := 0, base := 0, grown := false })
   have hlo : wo.length + (consW ks (wr.take j)).length + 1 ≤ 1000000 := by
    unfold consW
    rw [List.length_map, List.length_take]
    omega
   obtain ⟨v1, h1, v2, h2, j1, j2, j3, j4, j5⟩ := join_two (B := fun x => OldB h0 x ∨ ownB v x) (F := fun q => OldF h0 q ∨ ownF h' v q) x1 (Nat.le_succ_of_le hb') (empt_own hb') (Kh.more (fun b _ c => .inl c) (fun f c => .inl (.inl c))) (Kr.more (fun b _ c => .inl c) (fun f c => .inl (.inl c))) (fun b c => c.elim (fun c => Nat.lt_of_lt_of_le c hx'.next) (fun c => (hO'.lt c).2)) (fun f c => c.elim (fun c => ⟨c.1, Nat.lt_of_lt_of_le c.2 hx'.nfam⟩) (fun c => ⟨(hO'.flt c).1, (hO'.flt c).2.2⟩)) (by
    have := hrs _ (List.mem_of_getElem? hwj)
    show ks.length + _ ≤ _
    omega)
   obtain ⟨A2, c2, hv2, hsp2⟩ := j5.slice
   have hb2 : h2.base ≤ h2.next := by rw [j4.base]; exact Nat.le_trans hb' j4.next
   have hW := own_new hb2 85 (encR v2 wr[j].2)
   have x3 := Ext.new h2 (CObj.cells { c := encR v2 wr[j].2, e := 85, fam := 0, base := 0, grown := false })
   have x03 := j4.trans x3
   have hO3 := hO'.ext x03
   have hb3 : (h2.newH (CObj.cells { c := encR v2 wr[j].2, e := 85, fam := 0, base := 0, grown := false })).base ≤ (h2.newH (CObj.cells { c := encR v2 wr[j].2, e := 85, fam := 0, base := 0, grown := false })).next := by rw [x3.base]; exact Nat.le_trans hb2 x3.next
   have K3 : KidsAt (h2.newH (CObj.cells { c := encR v2 wr[j].2, e := 85, fam := 0, base := 0, grown := false })) (fun x => OldB h0 x ∨ ownB v x) (fun q => OldF h0 q ∨ ownF (h2.newH (CObj.cells { c := encR v2 wr[j].2, e := 85, fam := 0, base := 0, grown := false })) v q) (ks ++ wr[j].1) v2 :=
    (j5.keep (keepsE x3).any).more (fun b _ c => c) (fun f c => .inl (c.elim .inl (fun c => .inr (hO'.ownF_same (S := fun _ => False) x03.toS (fun _ _ c => c) c))))
   have hxh : ExtS (Only xb) h0 _ := hx'.trans x03.toS
   obtain ⟨v', h4, a4, hO4, hext4, hkp4, hoth4, hB4, hF4, hke4⟩ := ways_one apR mkR hO3 hW K3 hb3 hxh.next hxh.nfam (by rw [List.length_append]; exact hlo)
   have hx4 := hext4 (Only xb) h0 hxh (Nat.le_refl _) (Nat.le_refl _)
   have hu0 : ¬ ownF _ v 0 := fun c => (hO3.flt c).1 rfl
   obtain ⟨hH4, hDH4⟩ := (hO'.extF x03 hH').beside (hDH'.ext x03 hH' hO') hu0 hkp4 hke4 hB4 hF4 (fun q c => (hO4.flt c).1)
   obtain ⟨hR4, hDR4⟩ := (hO'.extF x03 hR').beside (hDR'.ext x03 hR' hO') hu0 hkp4 hke4 hB4 hF4 (fun q c => (hO4.flt c).1)
   obtain ⟨lh0, _⟩ := ldh _ (Ext.refl h')
   obtain ⟨lh1, _⟩ := ldh _ x1
   obtain ⟨lr0, le0⟩ := ldr _ (Ext.refl h')
   obtain ⟨lr1, le1⟩ := ldr _ x1
   obtain ⟨lr2, le2⟩ := ldr _ j3
   obtain ⟨lr3, le3⟩ := ldr _ j4
   rw [hvh] at e8
   rw [hvr2] at e10
   rw [hv2] at a4 j2
   unfold encR at a4
   obtain ⟨Ao, hvo, hspo⟩ := hO'.slice
   obtain ⟨An, hvn, hspn⟩ := hO4.slice
   rw [hvo] at e7 a4
   rw [hvn] at a4
   simp -dsimp only [go_sem, e0, e1, e7, e8, e9, e10, e11, hi1]
   refine Dw_text (n := 84) [[], [], [], [], [2, 3], [2, 3, 4], [2, 3, 4, 5], [1, 2, 3, 4, 5, 6], [], [], [8, 9], [8, 9, 10], [8, 9, 10, 11], [1, 2, 3, 4, 5, 6, 7, 8, 9, 10, 11, 12], [], [], [14, 15], [14, 15, 16], [14, 15, 16, 17], [1, 2, 3, 4, 5, 6, 7, 8, 9, 10, 11, 12, 13, 14, 15, 16, 17, 18], [1, 2, 3, 4, 5, 6, 7, 8, 9, 10, 11, 12, 13, 14, 15, 16, 17, 18, 19], [0, 1, 2, 3, 4, 5, 6, 7, 8, 9, 10, 11, 12, 13, 14, 15, 16, 17, 18, 19, 20], [0, 1, 2, 3, 4, 5, 6, 7, 8, 9, 10, 11, 12, 13, 14, 15, 16, 17, 18, 19, 20, 21]] (by simp -dsimp only [go_sem, hn']) (by kernel_rfl) ?_
   simp -dsimp only [go_sem, e0, e1, e7, e8, e9, e10, e11, bs29 0 (by decide), bs82 1 (by decide), repeatN, ia82 hih, ia82 hlt, lh0, lh1, lr0, lr1, lr2, lr3, le0, le1, le2, le3, sameN_sliceA hspo, sameN_sliceA hspn, sameN_sliceA hsp2, sameN_sliceA hsph, sameN_sliceA hsprk, builtin', j1, j2, a4, wrap64_succ hlt (by omega)]
   refine ⟨wr.length - (j + 1), by omega, j + 1, v', hlt, rfl, hx4, ?_, hoth4 _ _ _ (by decide) (own_ext x03 hX'), ?_, hH4, hDH4, hR4, hDR4, ?_⟩
   · exact Nat.le_trans hnx' (Nat.le_trans x03.next hkp4.next)
   · rw [hcons j, hwj, ← List.append_assoc]; exact hO4
   · exact ⟨hvn.symm, hvh.symm, hvr2.symm, rfl⟩
 · have hi0 : decide ((j : Int) < (wr.length : Int)) = false := decide_eq_false (by omega)
   have hjl : j = wr.length := by omega
   subst hjl
   rw [List.take_length] at hO'
   rw [hvr] at e10
   simp -dsimp only [go_sem, e0, e1, e7, e8, e9, e10, e11, hi0]
   exact hq _ h' v (by simp -dsimp only [go_sem, hn']) hx' hnx' hX' hO' hH' hDH' (by simp -dsimp only [go_sem, e0]) (by simp -dsimp only [go_sem, e1]) (by simp -dsimp only [go_sem, e7]) (by simp -dsimp only [go_sem, e8]) (by simp -dsimp only [go_sem, e9]) (by rw [hvr]; simp -dsimp only [go_sem, e10])
set_option maxHeartbeats 8000000 in
set_option maxRecDepth 10000 in
theorem walk_inner72 {h0 hs : Hp} {nh fh nr fr : Nat} {wo wh wr : List Way} {vo vh vr : Value} {ks : List Part} {en i : Nat} {z : Int} {pb : Nat} {pc : List Value} (hb : h0.base ≤ h0.next) (hx : ExtS (Only xb) h0 hs) (hX : hs.own xb 81 (wR G items Gv Iv gc ic z)) (hxn : xb < h0.next) (hP : hs.own pb 52 pc)
  (hO : WR hs h0.next h0.nfam (OldB h0) (OldF h0) wo vo) (hH : WR hs nh fh (fun x => OldB h0 x ∨ ownB vo x) (fun q => OldF h0 q ∨ ownF hs vo q) wh vh) (hDH : Beside hs vh vo) (hR : WR hs nr fr (fun x => OldB h0 x ∨ ownB vo x) (fun q => OldF h0 q ∨ ownF hs vo q) wr vr) (hDR : Beside hs vr vo)
  (hi : wh[i]? = some (ks, en)) (hks : ks.length ≤ 200000) (hrs : ∀ w ∈ wr, w.1.length ≤ 200000) (hlen : wo.length + wr.length ≤ 500000)
  {a : Ev.A} {Q : Ex → Ev.A → Hp → Prop} {x0 x2 x4 : Value} (hn : a.n = 79) (g0 : a.get 0 = x0) (g2 : a.get 2 = x2) (g4 : a.get 4 = x4) (g7 : a.get 7 = vo) (g8 : a.get 8 = vh) (g9 : a.get 9 = .int .i64 (i : Int)) (g10 : a.get 10 = vr) (g11 : a.get 11 = .int .i64 0)
  (hq : ∀ a1 h1 vo', a1.n = 79 → ExtS (Only xb) h0 h1 → hs.next ≤ h1.next → h1.own xb 81 (wR G items Gv Iv gc ic z) → h1.own pb 52 pc → WR h1 h0.next h0.nfam (OldB h0) (OldF h0) (wo ++ consW ks wr) vo' → WR h1 nh fh (fun x => OldB h0 x ∨ ownB vo' x) (fun q => OldF h0 q ∨ ownF h1 vo' q) wh vh → Beside h1 vh vo' → a1.get 0 = x0 → a1.get 2 = x2 → a1.get 4 = x4 → a1.get 7 = vo' → a1.get 8 = vh → a1.get 9 = .int .i64 (i : Int) → a1.get 10 = vr → Q (.exit 2) a1 h1) :
  Th Try.prog (bodyAt Try.f72 [1, 1, 1, 0, 1, 0, 0, 1, 0, 0, 1, 0, 1, 0]) a hs Q ⟨⟩ ⟨⟩ := by
 obtain ⟨Ar, hvr, hspr⟩ := hR.slice
 have hcons : ∀ j, consW ks (wr.take (j + 1)) = consW ks (wr.take j) ++ (match wr[j]? with | some w => [(ks ++ w.1, w.2)] | none => []) := by
  intro j
  unfold consW
  cases hj : wr[j]? with
  | none =>
    have := List.getElem?_eq_none_iff.1 hj
    rw [List.take_of_length_le (by omega), List.take_of_length_le (by omega)]; simp
  | some w =>
    have hl := get_lt' hj
    rw [List.take_succ_eq_append_getElem hl, List.map_append]
    rw [List.getElem?_eq_getElem hl] at hj
    injection hj with hj
    rw [hj]; rfl
 simp only [bodyAt, nav, Try.f72]
 refine loop_go (n := 79) (by kernel_rfl) (fun m' a' h' => ∃ (j : Nat) (v : Value), j ≤ wr.length ∧ m' = wr.length - j ∧ ExtS (Only xb) h0 h' ∧ hs.next ≤ h'.next ∧ h'.own xb 81 (wR G items Gv Iv gc ic z) ∧ h'.own pb 52 pc ∧ WR h' h0.next h0.nfam (OldB h0) (OldF h0) (wo ++ consW ks (wr.take j)) v ∧ WR h' nh fh (fun x => OldB h0 x ∨ ownB v x) (fun q => OldF h0 q ∨ ownF h' v q) wh vh ∧ Beside h' vh v ∧ WR h' nr fr (fun x => OldB h0 x ∨ ownB v x) (fun q => OldF h0 q ∨ ownF h' v q) wr vr ∧ Beside h' vr v ∧
  a'.get 0 = x0 ∧ a'.get 2 = x2 ∧ a'.get 4 = x4 ∧ a'.get 7 = v ∧ a'.get 8 = vh ∧ a'.get 9 = .int .i64 (i : Int) ∧ a'.get 10 = vr ∧ a'.get 11 = .int .i64 j) ?_ wr.length _ _ hn ⟨0, vo, Nat.zero_le _, rfl, hx, Nat.le_refl _, hX, hP, by simpa [consW] using hO, hH, hDH, hR, hDR, g0, g2, g4, g7, g8, g9, g10, g11⟩
 rintro m' a' h' hn' ⟨j, v, hj, rfl, hx', hnx', hX', hP', hO', hH', hDH', hR', hDR', e0, e2, e4, e7, e8, e9, e10, e11⟩
 have hb' : h'.base ≤ h'.next := ext_bn hx' hb
 by_cases hlt : j < wr.length
 · have hwj : wr[j]? = some wr[j] := List.getElem?_eq_getElem hlt
   have hi1 : decide ((j : Int) < (wr.length : Int)) = true := decide_eq_true (Int.ofNat_lt.2 hlt)
   obtain ⟨bh, Ah, ch, hvh, hsph, Kh, ldh⟩ := hH'.getR hi
   obtain ⟨br, Ark, crk, hvr2, hsprk, Kr, ldr⟩ := hR'.getR hwj
   have hih : i < wh.length := get_lt' hi
   have x1 := Ext.new h' (CObj.cells { c := [], e := 31, fam := 0, base := 0, grown := false })
   have hlo : wo.length + (consW ks (wr.take j)).length + 1 ≤ 1000000 := by
    unfold consW
    rw [List.length_map, List.length_take]
    omega
   obtain ⟨v1, h1, v2, h2, j1, j2, j3, j4, j5⟩ := join_two (B := fun x => OldB h0 x ∨ ownB v x) (F := fun q => OldF h0 q ∨ ownF h' v q) x1 (Nat.le_succ_of_le hb') (empt_own hb') (Kh.more (fun b _ c => .inl c) (fun f c => .inl (.inl c))) (Kr.more (fun b _ c => .inl c) (fun f c => .inl (.inl c))) (fun b c => c.elim (fun c => Nat.lt_of_lt_of_le c hx'.next) (fun c => (hO'.lt c).2)) (fun f c => c.elim (fun c => ⟨c.1, Nat.lt_of_lt_of_le c.2 hx'.nfam⟩) (fun c => ⟨(hO'.flt c).1, (hO'.flt c).2.2⟩)) (by
    have := hrs _ (List.mem_of_getElem? hwj)
    show ks.length + _ ≤ _
    omega)
   obtain ⟨A2, c2, hv2, hsp2⟩ := j5.slice
   have hb2 : h2.base ≤ h2.next := by rw [j4.base]; exact Nat.le_trans hb' j4.next
   have hW := own_new hb2 85 (encR v2 wr[j].2)
   have x3 := Ext.new h2 (CObj.cells { c := encR v2 wr[j].2, e := 85, fam := 0, base := 0, grown := false })
   have x03 := j4.trans x3
   have hO3 := hO'.ext x03
   have hb3 : (h2.newH (CObj.cells { c := encR v2 wr[j].2, e := 85, fam := 0, base := 0, grown := false })).base ≤ (h2.newH (CObj.cells { c := encR v2 wr[j].2, e := 85, fam := 0, base := 0, grown := false })).next := by rw [x3.base]; exact Nat.le_trans hb2 x3.next
   have K3 : KidsAt (h2.newH (CObj.cells { c := encR v2 wr[j].2, e := 85, fam := 0, base := 0, grown := false })) (fun x => OldB h0 x ∨ ownB v x) (fun q => OldF h0 q ∨ ownF (h2.newH (CObj.cells { c := encR v2 wr[j].2, e := 85, fam := 0, base := 0, grown := false })) v q) (ks ++ wr[j].1) v2 :=
    (j5.keep (keepsE x3).any).more (fun b _ c => c) (fun f c => .inl (c.elim .inl (fun c => .inr (hO'.ownF_same (S := fun _ => False) x03.toS (fun _ _ c => c) c))))
   have hxh : ExtS (Only xb) h0 _ := hx'.trans x03.toS
   obtain ⟨v', h4, a4, hO4, hext4, hkp4, hoth4, hB4, hF4, hke4⟩ := ways_one apR mkR hO3 hW K3 hb3 hxh.next hxh.nfam (by rw [List.length_append]; exact hlo)
   have hx4 := hext4 (Only xb) h0 hxh (Nat.le_refl _) (Nat.le_refl _)
   have hu0 : ¬ ownF _ v 0 := fun c => (hO3.flt c).1 rfl
   obtain ⟨hH4, hDH4⟩ := (hO'.extF x03 hH').beside (hDH'.ext x03 hH' hO') hu0 hkp4 hke4 hB4 hF4 (fun q c => (hO4.flt c).1)
   obtain ⟨hR4, hDR4⟩ := (hO'.extF x03 hR').beside (hDR'.ext x03 hR' hO') hu0 hkp4 hke4 hB4 hF4 (fun q c => (hO4.flt c).1)
   obtain ⟨lh0, _⟩ := ldh _ (Ext.refl h')
   obtain ⟨lh1, _⟩ := ldh _ x1
   obtain ⟨lr0, le0⟩ := ldr _ (Ext.refl h')
   obtain ⟨lr1, le1⟩ := ldr _ x1
   obtain ⟨lr2, le2⟩ := ldr _ j3
   obtain ⟨lr3, le3⟩ := ldr _ j4
   rw [hvh] at e8
   rw [hvr2] at e10
   rw [hv2] at a4 j2
   unfold encR at a4
   obtain ⟨Ao, hvo, hspo⟩ := hO'.slice
   obtain ⟨An, hvn, hspn⟩ := hO4.slice
   rw [hvo] at e7 a4
   rw [hvn] at a4
   simp -dsimp only [go_sem, e0, e2, e4, e7, e8, e9, e10, e11, hi1]
   refine Dw_text (n := 79) [[], [], [], [], [2, 3], [2, 3, 4], [2, 3, 4, 5], [1, 2, 3, 4, 5, 6], [], [], [8, 9], [8, 9, 10], [8, 9, 10, 11], [1, 2, 3, 4, 5, 6, 7, 8, 9, 10, 11, 12], [], [], [14, 15], [14, 15, 16], [14, 15, 16, 17], [1, 2, 3, 4, 5, 6, 7, 8, 9, 10, 11, 12, 13, 14, 15, 16, 17, 18], [1, 2, 3, 4, 5, 6, 7, 8, 9, 10, 11, 12, 13, 14, 15, 16, 17, 18, 19], [0, 1, 2, 3, 4, 5, 6, 7, 8, 9, 10, 11, 12, 13, 14, 15, 16, 17, 18, 19, 20], [0, 1, 2, 3, 4, 5, 6, 7, 8, 9, 10, 11, 12, 13, 14, 15, 16, 17, 18, 19, 20, 21]] (by simp -dsimp only [go_sem, hn']) (by kernel_rfl) ?_
   simp -dsimp only [go_sem, e0, e2, e4, e7, e8, e9, e10, e11, bs29 0 (by decide), bs82 1 (by decide), repeatN, ia82 hih, ia82 hlt, lh0, lh1, lr0, lr1, lr2, lr3, le0, le1, le2, le3, sameN_sliceA hspo, sameN_sliceA hspn, sameN_sliceA hsp2, sameN_sliceA hsph, sameN_sliceA hsprk, builtin', j1, j2, a4, wrap64_succ hlt (by omega)]
   refine ⟨wr.length - (j + 1), by omega, j + 1, v', hlt, rfl, hx4, ?_, hoth4 _ _ _ (by decide) (own_ext x03 hX'), hoth4 _ _ _ (by decide) (own_ext x03 hP'), ?_, hH4, hDH4, hR4, hDR4, ?_⟩
   · exact Nat.le_trans hnx' (Nat.le_trans x03.next hkp4.next)
   · rw [hcons j, hwj, ← List.append_assoc]; exact hO4
   · exact ⟨hvn.symm, hvh.symm, hvr2.symm, rfl⟩
 · have hi0 : decide ((j : Int) < (wr.length : Int)) = false := decide_eq_false (by omega)
   have hjl : j = wr.length := by omega
   subst hjl
   rw [List.take_length] at hO'
   rw [hvr] at e10
   simp -dsimp only [go_sem, e0, e2, e4, e7, e8, e9, e10, e11, hi0]
   exact hq _ h' v (by simp -dsimp only [go_sem, hn']) hx' hnx' hX' hP' hO' hH' hDH' (by simp -dsimp only [go_sem, e0]) (by simp -dsimp only [go_sem, e2]) (by simp -dsimp only [go_sem, e4]) (by simp -dsimp only [go_sem, e7]) (by simp -dsimp only [go_sem, e8]) (by simp -dsimp only [go_sem, e9]) (by rw [hvr]; simp -dsimp only [go_sem, e10])
end Go.Ev.G24
end
section
set_option linter.unusedSimpArgs false
set_option linter.unusedVariables false
namespace Go.Ev.G24
open Go.RowKit Go.Proofs
variable {r : Ro} {G : List Rule} {items : List ByteArray} {Gv Iv : Option Addr} {gc ic xb : Nat}
def LoopW (G : List Rule) (items : List ByteArray) (TH : List Way → TaskW) (N : Nat) (s s1 : Int) (wh : List Way) (i : Nat) (wo : List Way) (z : Int) : Prop :=
 okH N (s.toNat + 1) wo ∧ ((0 ≤ z ∧ (wo.length : Int) + z ≤ s1 ∧ ∃ U X : Nat, z = s1 - (U : Int) - (X : Int) ∧ ∀ k o, runW G items k (TH (wh.drop i)) = some o → ∃ k', runW G items k' (TH wh) = some (wo ++ o.1, U + o.2.1, X + o.2.2)) ∨
  (z < 0 ∧ lowW s ≤ z ∧ wo.length ≤ 2 * s.toNat + 1))
theorem LoopW.start {TH : List Way → TaskW} {N : Nat} {s s1 : Int} {wh : List Way} (h : 0 ≤ s1 ∨ (s1 < 0 ∧ lowW s ≤ s1)) : LoopW G items TH N s s1 wh 0 [] s1 := by
 refine ⟨fun w hw => by simp at hw, ?_⟩
 rcases h with h | ⟨h1, h2⟩
 · exact .inl ⟨h, by simp, 0, 0, by simp, fun k o e => ⟨k, by rw [List.drop_zero] at e; rw [e]; simp⟩⟩
 · exact .inr ⟨h1, h2, Nat.zero_le _⟩
theorem LoopW.len {TH : List Way → TaskW} {N : Nat} {s s1 z : Int} {wh wo : List Way} {i : Nat} (L : LoopW G items TH N s s1 wh i wo z) (h1 : s1 ≤ s) (h2 : s ≤ 50000) : wo.length ≤ 100001 := by
 rcases L.2 with ⟨a, b, _⟩ | ⟨a, b, c⟩ <;> omega
theorem LoopW.step {TH : List Way → TaskW} {T : Nat → TaskW} {N : Nat} (hN : items.length = N) (st : ∀ (ks : List Part) (e : Nat) (hs : List Way) (rc : TaskW → Option OutW), stepW G items rc (TH ((ks, e) :: hs)) = two rc (T e) (fun _ => TH hs) (stepH ks))
  (sl : ∀ e, slackW (T e) ≤ 1) (pr : ∀ e, e ≤ N → preW N 0 (T e)) {s s1 z z' : Int} {wh wo ws : List Way} {i e : Nat} {ks : List Part} (hs2 : s ≤ 50000) (hok : okH N (s - s1).toNat wh) (h01 : 0 ≤ s1) (h02 : s1 + 1 ≤ s) (hi : wh[i]? = some (ks, e)) (L : LoopW G items TH N s s1 wh i wo z) (hz : 0 ≤ z)
  (hsub : (∃ k o, runW G items k (T e) = some o ∧ z' = z - (o.2.1 : Int) - (o.2.2 : Int) ∧ 0 ≤ z' ∧ ws = o.1) ∨ (z' < 0 ∧ lowW z ≤ z' ∧ deadW N z ws)) :
  LoopW G items TH N s s1 wh (i + 1) (wo ++ consW ks ws) (z' - (ws.length : Int)) := by
 obtain ⟨L1, L2⟩ := L
 obtain ⟨he, hkl, hkf⟩ := hok (ks, e) (List.mem_of_getElem? hi)
 have hkl : ks.length ≤ (s - s1).toNat := hkl
 have he : e ≤ N := he
 rcases L2 with ⟨_, b, U, X, hU, hcont⟩ | ⟨a, _⟩
 rotate_left
 · omega
 have hll : (wo ++ consW ks ws).length = wo.length + ws.length := by unfold consW; rw [List.length_append, List.length_map]
 rcases hsub with ⟨k, o, hrun, hz', hz0, rfl⟩ | ⟨hz0, hlo, _, hwl, hdo⟩
 · have hlen := runW_len _ _ _ hrun
   have hsl := sl e
   have hok2 := runW_ok hN _ _ _ 0 hrun (pr e he) (by omega)
   refine ⟨okH_app L1 ((okH_cons (e := e) ⟨hkl, hkf⟩ hok2).mono (by omega)), ?_⟩
   have hcw : (consW ks o.1).length = o.1.length := by unfold consW; rw [List.length_map]
   rw [hll]
   by_cases hn : 0 ≤ z' - (o.1.length : Int)
   · refine .inl ⟨hn, by omega, U + o.2.1, X + o.2.2 + o.1.length, by omega, fun k2 o2 h2 => ?_⟩
     have hdr : wh.drop i = (ks, e) :: wh.drop (i + 1) := by
      have hl := get_lt' hi
      rw [List.drop_eq_getElem_cons hl]
      rw [List.getElem?_eq_getElem hl] at hi
      injection hi with hi
      rw [hi]
     have h3 := runW_two (st ks e (wh.drop (i + 1))) hrun h2
     obtain ⟨k', hk'⟩ := hcont _ _ (by rw [hdr]; exact h3)
     refine ⟨k', ?_⟩
     rw [hk']
     simp only [stepH, List.append_assoc, Option.some.injEq, Prod.mk.injEq, true_and]
     constructor <;> omega
   · have : lowW s ≤ z' - (o.1.length : Int) := by
      unfold lowW
      rw [if_neg (by omega)]
      omega
     exact .inr ⟨by omega, this, by omega⟩
 · refine ⟨okH_app L1 ((okH_cons (e := e) ⟨hkl, hkf⟩ hdo).mono (by omega)), ?_⟩
   rw [hll]
   have : lowW s ≤ z' - (ws.length : Int) := by
    unfold lowW at hlo ⊢
    rw [if_neg (by omega)] at hlo ⊢
    omega
   exact .inr ⟨by omega, this, by omega⟩
@[go_sem] theorem lo_only {α : Type} (x : α) : (some x).toList ++ (none : Option α).toList ++ (none : Option α).toList = [x] := rfl
@[go_sem] theorem bind_one {α β : Type} (x : α) (f : α → Option β) : (some x).bind f = f x := rfl
@[go_sem] theorem bind_no {α β : Type} (f : α → Option β) : (none : Option α).bind f = none := rfl
theorem slice50 {h : Hp} (hrom : h.rom = r) {b o n c : Nat} (hb : b < r.b) (hn : 1 ≤ n) (hc : n ≤ c) : slice' Try.prog h 50 (.slice (some ⟨b, o, none⟩) n c) (some (.int .i64 1)) none none = some (.slice (some ⟨b, o + 3, none⟩) (n - 1) (c - 1)) := by
 have hb2 : b < h.base := by rw [← hrom] at hb; exact hb
 have hc2 : Nat.ble n c = true := by rw [Nat.ble_eq]; exact hc
 have hn2 : Nat.ble 1 n = true := by rw [Nat.ble_eq]; exact hn
 simp only [slice', Try.underlying50, sz52, blt_true hb2, Option.isNone_none, hc2, bound']
 have e1 : bound' (some (.int .i64 1)) 0 n = some 1 := by
  show (match Nat.ble 1 n with | true => some 1 | false => none) = _
  rw [hn2]
 simp only [bound'] at e1
 rw [e1]
 rfl
end Go.Ev.G24
end
section
set_option linter.unusedSimpArgs false
set_option linter.unusedVariables false
namespace Go.Ev.G24
open Go.RowKit Go.Proofs
variable {r : Ro} {G : List Rule} {items : List ByteArray} {Gv Iv : Option Addr} {gc ic xb : Nat}
def PartW (r : Ro) (G : List Rule) (items : List ByteArray) (Gv Iv : Option Addr) (gc ic xb : Nat) (s : Int) (p : Part) : Prop := ∀ (q : Nat) (h : Hp) (cs : List Value), q ≤ items.length → h.rom = r → h.base ≤ h.next → h.own xb 81 (wR G items Gv Iv gc ic s) → RoPart r p cs →
 ∃ v h1, Snd Try.prog 43 [.pointer (some ⟨xb, 0, none⟩), .agg cs.toArray, .int .i64 (q : Int)] h v h1 ∧ WalkP G items Gv Iv gc ic xb (.part p q) s (lowW s) h v h1
def RowW (r : Ro) (G : List Rule) (items : List ByteArray) (Gv Iv : Option Addr) (gc ic xb : Nat) (s : Int) : Prop := ∀ (l : List Part) (Av : Option Addr) (c b o : Nat) (css : Nat → List Value) (q : Nat) (h : Hp), (∀ p ∈ l, named (nms G) p ∧ Few p) → l.length ≤ 100000 → l.length ≤ c → spotless Av = true → (l ≠ [] → Av = some ⟨b, o, none⟩) →
 (∀ (i : Nat) (p : Part), l[i]? = some p → roAt r b (o + i * 3) (css i)) → (∀ (i : Nat) (p : Part), l[i]? = some p → RoPart r p (css i)) → q ≤ items.length → h.rom = r → h.base ≤ h.next → h.own xb 81 (wR G items Gv Iv gc ic s) →
 ∃ v h1, Snd Try.prog 71 [.pointer (some ⟨xb, 0, none⟩), .slice Av l.length c, .int .i64 (q : Int)] h v h1 ∧ WalkP G items Gv Iv gc ic xb (.row l q) s (lowW s) h v h1
def AgainW (r : Ro) (G : List Rule) (items : List ByteArray) (Gv Iv : Option Addr) (gc ic xb : Nat) (s : Int) (p : Part) : Prop := ∀ (q : Nat) (h : Hp) (cs : List Value), q ≤ items.length → h.rom = r → h.base ≤ h.next → h.own xb 81 (wR G items Gv Iv gc ic s) → RoPart r p cs →
 ∃ v h1, Snd Try.prog 72 [.pointer (some ⟨xb, 0, none⟩), .agg cs.toArray, .int .i64 (q : Int)] h v h1 ∧ WalkP G items Gv Iv gc ic xb (.again p q) s (lowW s) h v h1
theorem sub_bounds {t : TaskW} {z z' : Int} {ws : List Way} (sl : slackW t ≤ 1) (pr : preW items.length 0 t) (h0 : 0 ≤ z) (h1 : z ≤ 50000) (hsub : (∃ k o, runW G items k t = some o ∧ z' = z - (o.2.1 : Int) - (o.2.2 : Int) ∧ 0 ≤ z' ∧ ws = o.1) ∨ (z' < 0 ∧ lowW z ≤ z' ∧ deadW items.length z ws)) :
  ws.length ≤ 2 * (z.toNat + 1) ∧ okH items.length (z.toNat + 1) ws ∧ -20000000000 ≤ z' ∧ z' ≤ z := by
 rcases hsub with ⟨k, o, hrun, hz', hz0, rfl⟩ | ⟨hz0, hlo, _, hwl, hdo⟩
 · have hlen := runW_len _ _ _ hrun
   have hok2 := runW_ok rfl _ _ _ 0 hrun pr (by omega)
   exact ⟨by omega, hok2.mono (by omega), by omega, by omega⟩
 · refine ⟨hwl, hdo, ?_, by omega⟩
   unfold lowW at hlo
   rw [if_neg (by omega)] at hlo
   omega
theorem ways_lift {h0 h' h4 : Hp} {wo ws : List Way} {vo v4 : Value} (x0 : ExtS (Only xb) h0 h') (x4 : ExtS (Only xb) h' h4) (hxb : ∀ b, ownB vo b → ¬ Only xb b) (hO : WR h' h0.next h0.nfam (OldB h0) (OldF h0) wo vo) (hR : WR h4 h'.next h'.nfam (OldB h') (OldF h') ws v4) :
  WR h4 h'.next h'.nfam (fun x => OldB h0 x ∨ ownB vo x) (fun q => OldF h0 q ∨ ownF h4 vo q) ws v4 ∧ Beside h4 v4 vo := by
 refine ⟨hR.more (fun b _ c => c.elim (fun c => Nat.lt_of_lt_of_le c x0.next) (fun c => (hO.lt c).2)) (fun f c => .inl (c.elim (fun c => ⟨c.1, Nat.lt_of_lt_of_le c.2 x0.nfam⟩) (fun c => by
  have := hO.flt (hO.ownF_same x4 hxb c)
  exact ⟨this.1, this.2.2⟩))), fun b c c' => ?_, fun f c c' => ?_⟩
 · have := (hR.lt c).1; have := (hO.lt c').2; omega
 · have := (hR.flt c).2.1; have := (hO.flt (hO.ownF_same x4 hxb c')).2.2; omega
theorem heads_ext {S : Nat → Prop} {h h1 : Hp} {nh fh : Nat} {B F : Nat → Prop} {wh wo : List Way} {vh vo : Value} {n0 f0 : Nat} {B2 F2 : Nat → Prop} (x : ExtS S h h1) (n : NoRow h S) (hO : WR h n0 f0 B2 F2 wo vo) (hSo : ∀ b, ownB vo b → ¬ S b) (hH : WR h nh fh (fun x => B x ∨ ownB vo x) (fun q => F q ∨ ownF h vo q) wh vh) (hSh : ∀ b, ownB vh b → ¬ S b) (D : Beside h vh vo) :
  WR h1 nh fh (fun x => B x ∨ ownB vo x) (fun q => F q ∨ ownF h1 vo q) wh vh ∧ Beside h1 vh vo :=
 ⟨(hH.extS x n hSh).more (fun b _ c => c) (fun f c => .inl (c.elim .inl (fun c => .inr (hO.ownF_same x hSo c)))), D.1, fun f c c' => D.2 f (hH.ownF_same x hSh c) (hO.ownF_same x hSo c')⟩
set_option maxHeartbeats 8000000 in
set_option maxRecDepth 10000 in
theorem walk_outer71 {h0 hs : Hp} {nh fh : Nat} {wh : List Way} {vh : Value} {s s1 : Int} {x : Part} {l : List Part} {c b o : Nat} {css : Nat → List Value} (hb : h0.base ≤ h0.next) (hrom : h0.rom = r) (hx : ExtS (Only xb) h0 hs) (hX : hs.own xb 81 (wR G items Gv Iv gc ic s1)) (hxn : xb < h0.next)
  (ihr : ∀ z, 0 ≤ z → z < s → RowW r G items Gv Iv gc ic xb z) (hpl : ∀ p ∈ x :: l, named (nms G) p ∧ Few p) (hll : (x :: l).length ≤ 100000) (hlc : (x :: l).length ≤ c) (hat : ∀ (i : Nat) (p : Part), (x :: l)[i]? = some p → roAt r b (o + i * 3) (css i)) (hk : ∀ (i : Nat) (p : Part), (x :: l)[i]? = some p → RoPart r p (css i)) (hs0 : 0 ≤ s) (hs2 : s ≤ 50000) (hs1 : s1 + 1 ≤ s) (hlo : lowW s ≤ s1) (hH : WR hs nh fh (OldB h0) (OldF h0) wh vh) (hnh : h0.next ≤ nh) (hok : 0 ≤ s1 → okH items.length (s - s1).toNat wh) (hwl : wh.length ≤ 1000000)
  {a : Ev.A} {Q : Ex → Ev.A → Hp → Prop} (hn : a.n = 84) (g0 : a.get 0 = .pointer (some ⟨xb, 0, none⟩)) (g1 : a.get 1 = .slice (some ⟨b, o, none⟩) (l.length + 1) c) (g7 : a.get 7 = .slice none 0 0) (g8 : a.get 8 = vh) (g9 : a.get 9 = .int .i64 0)
  (hq : ∀ a1 h1 wo vo z i, a1.n = 84 → ExtS (Only xb) h0 h1 → h1.own xb 81 (wR G items Gv Iv gc ic z) → WR h1 h0.next h0.nfam (OldB h0) (OldF h0) wo vo → LoopW G items (fun hs => TaskW.rowH hs l) items.length s s1 wh i wo z → (z < 0 ∨ i = wh.length) → a1.get 1 = .slice (some ⟨b, o, none⟩) (l.length + 1) c → a1.get 7 = vo → Q (.exit 0) a1 h1) :
  Th Try.prog (bodyAt Try.f71 [1, 1, 1, 1, 0, 1, 0]) a hs Q ⟨⟩ ⟨⟩ := by
 obtain ⟨Ah0, hvh0, hsph0⟩ := hH.slice
 simp only [bodyAt, nav, Try.f71]
 refine loop_go (n := 84) (by kernel_rfl) (fun m' a' h' => ∃ (i : Nat) (wo : List Way) (vo : Value) (z : Int), i ≤ wh.length ∧ m' = wh.length - i ∧ ExtS (Only xb) h0 h' ∧ h'.own xb 81 (wR G items Gv Iv gc ic z) ∧ WR h' h0.next h0.nfam (OldB h0) (OldF h0) wo vo ∧ WR h' nh fh (fun x => OldB h0 x ∨ ownB vo x) (fun q => OldF h0 q ∨ ownF h' vo q) wh vh ∧ Beside h' vh vo ∧ LoopW G items (fun hs => TaskW.rowH hs l) items.length s s1 wh i wo z ∧
  a'.get 0 = .pointer (some ⟨xb, 0, none⟩) ∧ a'.get 1 = .slice (some ⟨b, o, none⟩) (l.length + 1) c ∧ a'.get 7 = vo ∧ a'.get 8 = vh ∧ a'.get 9 = .int .i64 (i : Int)) ?_ wh.length _ _ hn ⟨0, [], .slice none 0 0, s1, Nat.zero_le _, rfl, hx, hX, WaysAt.nil, hH.more (fun b _ c => c.elim id (fun c => c.elim)) (fun f c => .inl (c.elim id (fun c => c.elim))), ⟨fun b c c' => c'.elim, fun f c c' => c'.elim⟩, LoopW.start (by omega), g0, g1, g7, g8, g9⟩
 rintro m' a' h' hn' ⟨i, wo, vo, z, hi, rfl, hx', hX', hO', hH', hDH', hL, e0, e1, e7, e8, e9⟩
 have hb' : h'.base ≤ h'.next := ext_bn hx' hb
 have hrom' : h'.rom = r := ext_rom hx' hrom
 have hxbo : ∀ b, ownB vo b → ¬ Only xb b := fun b c d => by have := (hO'.lt c).1; have : b = xb := d; omega
 have hxbh : ∀ b, ownB vh b → ¬ Only xb b := fun b c d => by have := (hH'.lt c).1; have : b = xb := d; omega
 have hX0 := hX'
 unfold wR at hX0
 by_cases hlt : i < wh.length
 rotate_left
 · have hi0 : decide ((i : Int) < (wh.length : Int)) = false := decide_eq_false (by omega)
   rw [hvh0] at e8
   simp -dsimp only [go_sem, e0, e1, e7, e8, e9, hi0]
   exact hq _ h' wo vo z i (by simp -dsimp only [go_sem, hn']) hx' hX' hO' hL (.inr (by omega)) (by simp -dsimp only [go_sem, e1]) (by simp -dsimp only [go_sem, e7])
 have hi1 : decide ((i : Int) < (wh.length : Int)) = true := decide_eq_true (Int.ofNat_lt.2 hlt)
 by_cases hz : 0 ≤ z
 rotate_left
 · have hz0 : decide (0 ≤ z) = false := decide_eq_false hz
   rw [hvh0] at e8
   simp -dsimp only [go_sem, e0, e1, e7, e8, e9, hi1, load_own hX0, hz0]
   exact hq _ h' wo vo z i (by simp -dsimp only [go_sem, hn']) hx' hX' hO' hL (.inl (by omega)) (by simp -dsimp only [go_sem, e1]) (by simp -dsimp only [go_sem, e7])
 have hz1 : decide (0 ≤ z) = true := decide_eq_true hz
 have hzs : z ≤ s1 ∧ 0 ≤ s1 := by
  rcases hL.2 with ⟨_, a, _⟩ | ⟨a, _⟩ <;> omega
 obtain ⟨⟨ks, e⟩, hwi⟩ : ∃ w, wh[i]? = some w := ⟨_, List.getElem?_eq_getElem hlt⟩
 have hokh := hok hzs.2
 obtain ⟨he', hkl, hkf⟩ := hokh (ks, e) (List.mem_of_getElem? hwi)
 have hkl : ks.length ≤ (s - s1).toNat := hkl
 have he' : e ≤ items.length := he'
 obtain ⟨bh, Ah, ch, hvh, hsph, Kh, ldh⟩ := hH'.getR hwi
 obtain ⟨_, le0⟩ := ldh _ (Ext.refl h')
 obtain ⟨v4, h4, hs4, z', ws, hx4, hX4, hR4, hcase⟩ := ihr z hz (by omega) l (some ⟨b, o + 3, none⟩) (c - 1) b (o + 3) (fun i => css (i + 1)) e h' (fun p hp => hpl p (.tail _ hp)) (by simp at hll; omega) (by simp at hlc; omega) rfl (fun _ => rfl) (fun i p hp => by have := hat (i + 1) p (by simpa using hp); rw [show o + 3 + i * 3 = o + (i + 1) * 3 by omega]; exact this) (fun i p hp => hk (i + 1) p (by simpa using hp)) he' hrom' hb' hX'
 obtain ⟨hb1, hb2, hb3, hb4⟩ := sub_bounds (by simp [slackW]) (by exact ⟨he', rfl⟩) hz (by omega) hcase
 obtain ⟨A4, hv4, hsp4⟩ := hR4.slice
 have hks2 : ks.length ≤ 200000 := by clear hcase hL; omega
 have hws2 : ∀ w ∈ ws, w.1.length ≤ 200000 := fun w hw => by
  have := (hb2 w hw).2.1
  clear hcase hL
  omega
 have hwo := hL.len (by clear hcase hL; omega) hs2
 have hlen2 : wo.length + ws.length ≤ 500000 := by clear hcase hL; omega
 rw [hvh] at e8
 simp -dsimp only [go_sem, e0, e1, e7, e8, e9, hi1, load_own hX0, hz1]
 refine Dw_text (n := 84) [[], [], [1], [], [], [3, 4], [3, 4, 5], [3, 4, 5, 6], [0, 1, 2, 3, 4, 5, 6, 7], [0, 1, 2, 3, 4, 5, 6, 7, 8]] (by simp -dsimp only [go_sem, hn']) (by kernel_rfl) ?_
 simp -dsimp only [go_sem, e0, e1, e7, e8, e9, slice50 hrom' (hat 0 x rfl).1 (by omega : 1 ≤ l.length + 1) (by simpa using hlc : l.length + 1 ≤ c), ia82 hlt, le0, sameN_sliceA hsph]
 refine ⟨_, h4, hs4, ?_⟩
 rw [hv4]
 simp -dsimp only [go_sem, sameN_sliceA hsp4]
 have hO4 : WR h4 h0.next h0.nfam (OldB h0) (OldF h0) wo vo := hO'.extS hx4 (noRow_own hX' (by decide)) hxbo
 obtain ⟨hH4, hDH4⟩ := heads_ext hx4 (noRow_own hX' (by decide)) hO' hxbo hH' hxbh hDH'
 obtain ⟨hR4', hDR4⟩ := ways_lift hx' hx4 hxbo hO' hR4
 have hx04 : ExtS (Only xb) h0 h4 := hx'.trans hx4
 refine walk_inner71 (x0 := .pointer (some ⟨xb, 0, none⟩)) (x1 := .slice (some ⟨b, o, none⟩) (l.length + 1) c) hb hx04 hX4 hxn hO4 hH4 hDH4 hR4' hDR4 hwi hks2 hws2 hlen2 (by simp -dsimp only [go_sem, hn']) (by simp -dsimp only [go_sem, e0]) (by simp -dsimp only [go_sem, e1]) (by simp -dsimp only [go_sem, e7]) (by simp -dsimp only [go_sem, e8, hvh]) (by simp -dsimp only [go_sem, e9]) (by simp -dsimp only [go_sem, hv4]) (by simp -dsimp only [go_sem]) (fun a1 h5 vo' r_n hx5 hn5 hX5 hO5 hH5 hDH5 r0 r1 r7 r8 r9 r10 => ?_)
 have hxbo5 : ∀ b, ownB vo' b → ¬ Only xb b := fun b c d => by have := (hO5.lt c).1; have : b = xb := d; omega
 have hX50 := hX5
 unfold wR at hX50
 have hw : IntKind.i64.wrap (z' - (ws.length : Int)) = z' - (ws.length : Int) := by rw [IntKind.wrap_i64]; clear hcase hL; omega
 have hst := stores_own hX50 (o := 2) (vs := [.int .i64 (z' - (ws.length : Int))]) (c1 := [.slice Gv G.length gc, .slice Iv items.length ic, .int .i64 (z' - (ws.length : Int))]) rfl rfl (by simp)
 have hX6 := own_put_same hX50 [.slice Gv G.length gc, .slice Iv items.length ic, .int .i64 (z' - (ws.length : Int))]
 have xq : ExtS (Only xb) h5 (h5.put xb (.cells ⟨[.slice Gv G.length gc, .slice Iv items.length ic, .int .i64 (z' - (ws.length : Int))], 81, 0, 0, false⟩)) := ((Ext.refl h5).toS (S := Only xb)).put (b := xb) (.inr rfl) _
 have hO6 := hO5.extS xq (noRow_own hX5 (by decide)) hxbo5
 obtain ⟨hH6, hDH6⟩ := heads_ext xq (noRow_own hX5 (by decide)) hO5 hxbo5 hH5 hxbh hDH5
 rw [hv4] at r10
 simp -dsimp only [go_sem, r0, r1, r7, r8, r9, r10, load_own hX50, hw, hst, wrap64_succ hlt (by omega)]
 exact ⟨wh.length - (i + 1), by omega, i + 1, wo ++ consW ks ws, vo', z' - (ws.length : Int), hlt, rfl, hx5.trans xq, hX6, hO6, hH6, hDH6, LoopW.step (T := fun e => TaskW.row l e) rfl (fun _ _ _ _ => rfl) (fun e => by simp [slackW]) (fun e he => ⟨he, rfl⟩) hs2 hokh hzs.2 hs1 hwi hL hz hcase, rfl, rfl⟩
set_option maxHeartbeats 8000000 in
set_option maxRecDepth 10000 in
theorem walk_outer72 {h0 hs : Hp} {nh fh : Nat} {wh : List Way} {vh : Value} {s s1 : Int} {x : Part} {pb : Nat} {Av1 : Option Addr} {c1 : Nat} {xq : Value} (hb : h0.base ≤ h0.next) (hrom : h0.rom = r) (hx : ExtS (Only xb) h0 hs) (hX : hs.own xb 81 (wR G items Gv Iv gc ic s1)) (hxn : xb < h0.next)
  (ihr : ∀ z, 0 ≤ z → z < s → AgainW r G items Gv Iv gc ic xb z x) (hkx : RoPart r x [.string x.d, .string x.t, .slice Av1 x.l.length c1]) (hP : hs.own pb 52 [.string x.d, .string x.t, .slice Av1 x.l.length c1]) (hpx : pb ≠ xb) (hs0 : 0 ≤ s) (hs2 : s ≤ 50000) (hs1 : s1 + 1 ≤ s) (hlo : lowW s ≤ s1) (hH : WR hs nh fh (OldB h0) (OldF h0) wh vh) (hnh : h0.next ≤ nh) (hok : 0 ≤ s1 → okH items.length (s - s1).toNat wh) (hwl : wh.length ≤ 1000000)
  {a : Ev.A} {Q : Ex → Ev.A → Hp → Prop} (hn : a.n = 79) (g0 : a.get 0 = .pointer (some ⟨xb, 0, none⟩)) (g2 : a.get 2 = xq) (g4 : a.get 4 = .pointer (some ⟨pb, 0, none⟩)) (g7 : a.get 7 = .slice none 0 0) (g8 : a.get 8 = vh) (g9 : a.get 9 = .int .i64 0)
  (hq : ∀ a1 h1 wo vo z i, a1.n = 79 → ExtS (Only xb) h0 h1 → h1.own xb 81 (wR G items Gv Iv gc ic z) → h1.own pb 52 [.string x.d, .string x.t, .slice Av1 x.l.length c1] → WR h1 h0.next h0.nfam (OldB h0) (OldF h0) wo vo → LoopW G items (fun hs => TaskW.againH hs x) items.length s s1 wh i wo z → (z < 0 ∨ i = wh.length) → a1.get 2 = xq → a1.get 4 = .pointer (some ⟨pb, 0, none⟩) → a1.get 7 = vo → Q (.exit 0) a1 h1) :
  Th Try.prog (bodyAt Try.f72 [1, 1, 1, 0, 1, 0]) a hs Q ⟨⟩ ⟨⟩ := by
 obtain ⟨Ah0, hvh0, hsph0⟩ := hH.slice
 simp only [bodyAt, nav, Try.f72]
 refine loop_go (n := 79) (by kernel_rfl) (fun m' a' h' => ∃ (i : Nat) (wo : List Way) (vo : Value) (z : Int), i ≤ wh.length ∧ m' = wh.length - i ∧ ExtS (Only xb) h0 h' ∧ h'.own xb 81 (wR G items Gv Iv gc ic z) ∧ h'.own pb 52 [.string x.d, .string x.t, .slice Av1 x.l.length c1] ∧ WR h' h0.next h0.nfam (OldB h0) (OldF h0) wo vo ∧ WR h' nh fh (fun x => OldB h0 x ∨ ownB vo x) (fun q => OldF h0 q ∨ ownF h' vo q) wh vh ∧ Beside h' vh vo ∧ LoopW G items (fun hs => TaskW.againH hs x) items.length s s1 wh i wo z ∧
  a'.get 0 = .pointer (some ⟨xb, 0, none⟩) ∧ a'.get 2 = xq ∧ a'.get 4 = .pointer (some ⟨pb, 0, none⟩) ∧ a'.get 7 = vo ∧ a'.get 8 = vh ∧ a'.get 9 = .int .i64 (i : Int)) ?_ wh.length _ _ hn ⟨0, [], .slice none 0 0, s1, Nat.zero_le _, rfl, hx, hX, hP, WaysAt.nil, hH.more (fun b _ c => c.elim id (fun c => c.elim)) (fun f c => .inl (c.elim id (fun c => c.elim))), ⟨fun b c c' => c'.elim, fun f c c' => c'.elim⟩, LoopW.start (by omega), g0, g2, g4, g7, g8, g9⟩
 rintro m' a' h' hn' ⟨i, wo, vo, z, hi, rfl, hx', hX', hP', hO', hH', hDH', hL, e0, e2, e4, e7, e8, e9⟩
 have hb' : h'.base ≤ h'.next := ext_bn hx' hb
 have hrom' : h'.rom = r := ext_rom hx' hrom
 have hxbo : ∀ b, ownB vo b → ¬ Only xb b := fun b c d => by have := (hO'.lt c).1; have : b = xb := d; omega
 have hxbh : ∀ b, ownB vh b → ¬ Only xb b := fun b c d => by have := (hH'.lt c).1; have : b = xb := d; omega
 have hX0 := hX'
 unfold wR at hX0
 by_cases hlt : i < wh.length
 rotate_left
 · have hi0 : decide ((i : Int) < (wh.length : Int)) = false := decide_eq_false (by omega)
   rw [hvh0] at e8
   simp -dsimp only [go_sem, e0, e2, e4, e7, e8, e9, hi0]
   exact hq _ h' wo vo z i (by simp -dsimp only [go_sem, hn']) hx' hX' hP' hO' hL (.inr (by omega)) (by simp -dsimp only [go_sem, e2]) (by simp -dsimp only [go_sem, e4]) (by simp -dsimp only [go_sem, e7])
 have hi1 : decide ((i : Int) < (wh.length : Int)) = true := decide_eq_true (Int.ofNat_lt.2 hlt)
 by_cases hz : 0 ≤ z
 rotate_left
 · have hz0 : decide (0 ≤ z) = false := decide_eq_false hz
   rw [hvh0] at e8
   simp -dsimp only [go_sem, e0, e2, e4, e7, e8, e9, hi1, load_own hX0, hz0]
   exact hq _ h' wo vo z i (by simp -dsimp only [go_sem, hn']) hx' hX' hP' hO' hL (.inl (by omega)) (by simp -dsimp only [go_sem, e2]) (by simp -dsimp only [go_sem, e4]) (by simp -dsimp only [go_sem, e7])
 have hz1 : decide (0 ≤ z) = true := decide_eq_true hz
 have hzs : z ≤ s1 ∧ 0 ≤ s1 := by
  rcases hL.2 with ⟨_, a, _⟩ | ⟨a, _⟩ <;> omega
 obtain ⟨⟨ks, e⟩, hwi⟩ : ∃ w, wh[i]? = some w := ⟨_, List.getElem?_eq_getElem hlt⟩
 have hokh := hok hzs.2
 obtain ⟨he', hkl, hkf⟩ := hokh (ks, e) (List.mem_of_getElem? hwi)
 have hkl : ks.length ≤ (s - s1).toNat := hkl
 have he' : e ≤ items.length := he'
 obtain ⟨bh, Ah, ch, hvh, hsph, Kh, ldh⟩ := hH'.getR hwi
 obtain ⟨_, le0⟩ := ldh _ (Ext.refl h')
 obtain ⟨v4, h4, hs4, z', ws, hx4, hX4, hR4, hcase⟩ := ihr z hz (by omega) e h' [.string x.d, .string x.t, .slice Av1 x.l.length c1] he' hrom' hb' hX' hkx
 obtain ⟨hb1, hb2, hb3, hb4⟩ := sub_bounds (by simp [slackW]) (by exact ⟨he', rfl⟩) hz (by omega) hcase
 obtain ⟨A4, hv4, hsp4⟩ := hR4.slice
 have hks2 : ks.length ≤ 200000 := by clear hcase hL; omega
 have hws2 : ∀ w ∈ ws, w.1.length ≤ 200000 := fun w hw => by
  have := (hb2 w hw).2.1
  clear hcase hL
  omega
 have hwo := hL.len (by clear hcase hL; omega) hs2
 have hlen2 : wo.length + ws.length ≤ 500000 := by clear hcase hL; omega
 rw [hvh] at e8
 simp -dsimp only [go_sem, e0, e2, e4, e7, e8, e9, hi1, load_own hX0, hz1]
 refine Dw_text (n := 79) [[], [], [], [], [2, 3], [2, 3, 4], [2, 3, 4, 5], [0, 1, 2, 3, 4, 5, 6], [0, 1, 2, 3, 4, 5, 6, 7]] (by simp -dsimp only [go_sem, hn']) (by kernel_rfl) ?_
 simp -dsimp only [go_sem, e0, e2, e4, e7, e8, e9, loads_own hP', sameN_sliceA hkx.same, ia82 hlt, le0, sameN_sliceA hsph]
 refine ⟨_, h4, hs4, ?_⟩
 rw [hv4]
 simp -dsimp only [go_sem, sameN_sliceA hsp4]
 have hP4 := own_extS hx4 hP' hpx
 have hO4 : WR h4 h0.next h0.nfam (OldB h0) (OldF h0) wo vo := hO'.extS hx4 (noRow_own hX' (by decide)) hxbo
 obtain ⟨hH4, hDH4⟩ := heads_ext hx4 (noRow_own hX' (by decide)) hO' hxbo hH' hxbh hDH'
 obtain ⟨hR4', hDR4⟩ := ways_lift hx' hx4 hxbo hO' hR4
 have hx04 : ExtS (Only xb) h0 h4 := hx'.trans hx4
 refine walk_inner72 (x0 := .pointer (some ⟨xb, 0, none⟩)) (x2 := xq) (x4 := .pointer (some ⟨pb, 0, none⟩)) hb hx04 hX4 hxn hP4 hO4 hH4 hDH4 hR4' hDR4 hwi hks2 hws2 hlen2 (by simp -dsimp only [go_sem, hn']) (by simp -dsimp only [go_sem, e0]) (by simp -dsimp only [go_sem, e2]) (by simp -dsimp only [go_sem, e4]) (by simp -dsimp only [go_sem, e7]) (by simp -dsimp only [go_sem, e8, hvh]) (by simp -dsimp only [go_sem, e9]) (by simp -dsimp only [go_sem, hv4]) (by simp -dsimp only [go_sem]) (fun a1 h5 vo' r_n hx5 hn5 hX5 hP5 hO5 hH5 hDH5 r0 r2 r4 r7 r8 r9 r10 => ?_)
 have hxbo5 : ∀ b, ownB vo' b → ¬ Only xb b := fun b c d => by have := (hO5.lt c).1; have : b = xb := d; omega
 have hX50 := hX5
 unfold wR at hX50
 have hw : IntKind.i64.wrap (z' - (ws.length : Int)) = z' - (ws.length : Int) := by rw [IntKind.wrap_i64]; clear hcase hL; omega
 have hst := stores_own hX50 (o := 2) (vs := [.int .i64 (z' - (ws.length : Int))]) (c1 := [.slice Gv G.length gc, .slice Iv items.length ic, .int .i64 (z' - (ws.length : Int))]) rfl rfl (by simp)
 have hX6 := own_put_same hX50 [.slice Gv G.length gc, .slice Iv items.length ic, .int .i64 (z' - (ws.length : Int))]
 have xq : ExtS (Only xb) h5 (h5.put xb (.cells ⟨[.slice Gv G.length gc, .slice Iv items.length ic, .int .i64 (z' - (ws.length : Int))], 81, 0, 0, false⟩)) := ((Ext.refl h5).toS (S := Only xb)).put (b := xb) (.inr rfl) _
 have hP6 := own_put hP5 hpx (.cells ⟨[.slice Gv G.length gc, .slice Iv items.length ic, .int .i64 (z' - (ws.length : Int))], 81, 0, 0, false⟩)
 have hO6 := hO5.extS xq (noRow_own hX5 (by decide)) hxbo5
 obtain ⟨hH6, hDH6⟩ := heads_ext xq (noRow_own hX5 (by decide)) hO5 hxbo5 hH5 hxbh hDH5
 rw [hv4] at r10
 simp -dsimp only [go_sem, r0, r2, r4, r7, r8, r9, r10, load_own hX50, hw, hst, wrap64_succ hlt (by omega)]
 exact ⟨wh.length - (i + 1), by omega, i + 1, wo ++ consW ks ws, vo', z' - (ws.length : Int), hlt, rfl, hx5.trans xq, hX6, hP6, hO6, hH6, hDH6, LoopW.step (T := fun e => TaskW.again x e) rfl (fun _ _ _ _ => rfl) (fun e => by simp [slackW]) (fun e he => ⟨he, rfl⟩) hs2 hokh hzs.2 hs1 hwi hL hz hcase, rfl, rfl⟩
end Go.Ev.G24
end
section
set_option linter.unusedSimpArgs false
set_option linter.unusedVariables false
namespace Go.Ev.G24
open Go.RowKit Go.Proofs
variable {r : Ro} {G : List Rule} {items : List ByteArray} {Gv Iv : Option Addr} {gc ic xb : Nat}
theorem LoopW.done {TH : List Way → TaskW} {N : Nat} {s s1 z : Int} {wh wo : List Way} {i : Nat} (L : LoopW G items TH N s s1 wh i wo z) (he : z < 0 ∨ i = wh.length) (st : runW G items 1 (TH []) = some ([], 0, 0)) :
  (0 ≤ z ∧ 0 ≤ s1 ∧ ∃ k' U X, runW G items k' (TH wh) = some (wo, U, X) ∧ z = s1 - (U : Int) - (X : Int)) ∨ (z < 0 ∧ lowW s ≤ z ∧ wo.length ≤ 2 * s.toNat + 1 ∧ okH N (s.toNat + 1) wo) := by
 obtain ⟨L1, L2⟩ := L
 rcases L2 with ⟨a, b, U, X, hU, hc⟩ | ⟨a, b, c⟩
 · rcases he with he | he
   · omega
   · subst he
     obtain ⟨k', hk'⟩ := hc 1 ([], 0, 0) (by rw [List.drop_length]; exact st)
     refine .inl ⟨a, by omega, k', U, X, ?_, hU⟩
     simpa using hk'
 · exact .inr ⟨a, b, c, L1⟩
theorem part_facts {p : Part} {q : Nat} {s s1 : Int} {wh : List Way} (h0 : 0 ≤ s) (hs2 : s ≤ 50000) (hq : q ≤ items.length) (hc : (∃ k o, runW G items k (.part p q) = some o ∧ s1 = s - (o.2.1 : Int) - (o.2.2 : Int) ∧ 0 ≤ s1 ∧ wh = o.1) ∨ (s1 < 0 ∧ lowW s ≤ s1 ∧ deadW items.length s wh)) :
  s1 + 1 ≤ s ∧ lowW s ≤ s1 ∧ (0 ≤ s1 → okH items.length (s - s1).toNat wh) ∧ wh.length ≤ 1000000 := by
 have hb := sub_bounds (t := .part p q) (by simp [slackW]) (by exact ⟨hq, rfl⟩) h0 hs2 hc
 rcases hc with ⟨k, o, hrun, e1, e2, rfl⟩ | ⟨e1, e2, e3⟩
 · have hp := runW_pos hrun
   have hok := runW_ok rfl _ _ _ 0 hrun (by exact ⟨hq, rfl⟩) (by omega)
   refine ⟨by omega, ?_, fun _ => hok.mono (by omega), by omega⟩
   unfold lowW
   rw [if_neg (by omega)]
   omega
 · exact ⟨by omega, e2, fun c => by omega, by omega⟩
set_option maxHeartbeats 8000000 in
set_option maxRecDepth 10000 in
theorem walk_row {s : Int} (hs0 : 0 ≤ s) (hs2 : s ≤ 50000) (ihp : ∀ p, named (nms G) p → Few p → PartW r G items Gv Iv gc ic xb s p) (ihr : ∀ z, 0 ≤ z → z < s → RowW r G items Gv Iv gc ic xb z) : RowW r G items Gv Iv gc ic xb s := by
 intro l Av c b o css q h hpl hll hlc hsp hA hat hk hq hrom hb hX
 refine snd_go wf Try.func71 rfl rfl (n := 84) rfl (by kernel_rfl) rfl ?_
 intro a hn hg
 have hr : Try.f71.results.toList = [.tmp 6] := rfl
 have g0 := hg 0
 have g1 := hg 1
 have g2 := hg 2
 clear hg
 simp only [List.getElem?_cons_zero, List.getElem?_cons_succ] at g0 g1 g2
 by_cases hl : l = []
 · subst hl
   have hW := own_new hb 85 [.slice none 0 0, .int .i64 (q : Int)]
   have hx := Ext.new h (CObj.cells { c := [.slice none 0 0, .int .i64 (q : Int)], e := 85, fam := 0, base := 0, grown := false })
   simp -dsimp only [go_sem, g0, g1, g2, sameN_sliceA hsp, bs82 1 (by decide), repeatN, List.length_nil, Int.natCast_zero, decide_true, hr]
   exact ⟨s, [([], q)], hx.toS, own_ext hx hX, ways_new mkR hW (Nat.le_refl _) KidsAt.nil, .inl ⟨1, _, rfl, by simp, hs0, rfl⟩⟩
 · obtain ⟨x, l, rfl⟩ : ∃ x l', l = x :: l' := List.exists_cons_of_ne_nil hl
   have hl0 : decide (((l.length + 1 : Nat) : Int) = 0) = false := decide_eq_false (by omega)
   have hAv := hA hl
   subst hAv
   obtain ⟨hnx, hfx⟩ := hpl x (.head _)
   have hkx := hk 0 x rfl
   have hatx := hat 0 x rfl
   obtain ⟨Av1, c1', hcs⟩ := hkx.shape
   rw [hcs] at hkx hatx
   obtain ⟨v4, h4, hs4, s1, wh, hx4, hX4, hH4, hcase⟩ := ihp x hnx hfx q h _ hq hrom hb hX hkx
   obtain ⟨p1, p2, p3, p4⟩ := part_facts hs0 hs2 hq hcase
   obtain ⟨A4, hv4, hsp4⟩ := hH4.slice
   have hix : indexAddr' Try.prog 50 (.slice (some ⟨b, o, none⟩) (l.length + 1) c) (.int .i64 0) = some (.pointer (some ⟨b, o, none⟩)) := by
    have := ia50 (b := b) (o := o) (c := c) (n := l.length + 1) (i := 0) (by omega)
    simpa using this
   have hld : h.loads ⟨b, o, none⟩ 3 = some [.string x.d, .string x.t, .slice Av1 x.l.length c1'] := loads_ro (n := 3) hrom (by simpa using hatx) rfl
   simp -dsimp only [go_sem, g0, g1, g2, hl0, hix, hld]
   refine ⟨_, h4, hs4, ?_⟩
   rw [hv4]
   refine walk_outer71 (c := c) hb hrom hx4 hX4 hX.2.1 ihr hpl hll hlc hat hk hs0 hs2 p1 p2 hH4 (Nat.le_refl _) p3 p4 (by simp -dsimp only [go_sem, hn]) (by simp -dsimp only [go_sem, g0]) (by simp -dsimp only [go_sem, g1]) (by simp -dsimp only [go_sem]) (by simp -dsimp only [go_sem, hv4]) (by simp -dsimp only [go_sem]) (fun a1 h1 wo vo z i r_n hx1 hX1 hO hL hend r1 r7 => ?_)
   obtain ⟨Ao, hvo, hspo⟩ := hO.slice
   rw [hvo] at r7
   simp -dsimp only [go_sem, r7, sameN_sliceA hspo, hr]
   rw [← hvo]
   refine ⟨z, wo, hx1, hX1, hO, ?_⟩
   rcases hL.done hend rfl with ⟨d1, d2, k', U, X, hk', hz⟩ | ⟨d1, d2, d3, d4⟩
   · rcases hcase with ⟨k, o, hrun, e1, e2, rfl⟩ | ⟨e1, _⟩
     · refine .inl ⟨_, _, runW_two (t := .row (x :: l) q) (fun rc => rfl) hrun hk', ?_, d1, rfl⟩
       simp only [rowW]
       omega
     · omega
   · exact .inr ⟨d1, d2, fun c => by omega, by omega, d4⟩
set_option maxHeartbeats 8000000 in
set_option maxRecDepth 10000 in
theorem walk_again {s : Int} {x : Part} (hs0 : 0 ≤ s) (hs2 : s ≤ 50000) (ihp : PartW r G items Gv Iv gc ic xb s x) (ihr : ∀ z, 0 ≤ z → z < s → AgainW r G items Gv Iv gc ic xb z x) : AgainW r G items Gv Iv gc ic xb s x := by
 intro q h cs hq hrom hb hX hkx
 obtain ⟨Av1, c1', hcs⟩ := hkx.shape
 subst hcs
 refine snd_go wf Try.func72 rfl rfl (n := 79) rfl (by kernel_rfl) rfl ?_
 intro a hn hg
 have hr : Try.f72.results.toList = [.tmp 6] := rfl
 have g0 := hg 0
 have g1 := hg 1
 have g2 := hg 2
 clear hg
 simp only [List.getElem?_cons_zero, List.getElem?_cons_succ] at g0 g1 g2
 have hP := own_new hb 52 [.string x.d, .string x.t, .slice Av1 x.l.length c1']
 have hx0 := Ext.new h (CObj.cells { c := [.string x.d, .string x.t, .slice Av1 x.l.length c1'], e := 52, fam := 0, base := 0, grown := false })
 have hX0 := own_ext hx0 hX
 have hxn : h.next ≠ xb := Nat.ne_of_gt hX.2.1
 simp -dsimp only [go_sem, g0, g1, g2]
 generalize h.newH (CObj.cells { c := [.string x.d, .string x.t, .slice Av1 x.l.length c1'], e := 52, fam := 0, base := 0, grown := false }) = h2 at hP hx0 hX0 ⊢
 have hb2 : h2.base ≤ h2.next := ext_bn (hx0.toS (S := Only xb)) hb
 have hrom2 : h2.rom = r := hx0.rom.trans hrom
 obtain ⟨v4, h4, hs4, s1, wh, hx4, hX4, hH4, hcase⟩ := ihp q h2 _ hq hrom2 hb2 hX0 hkx
 obtain ⟨p1, p2, p3, p4⟩ := part_facts hs0 hs2 hq hcase
 obtain ⟨A4, hv4, hsp4⟩ := hH4.slice
 have hP4 := own_extS hx4 hP hxn
 simp -dsimp only [go_sem, g0, g1, g2, loads_own hP]
 refine ⟨_, h4, hs4, ?_⟩
 rw [hv4]
 refine walk_outer72 (pb := h.next) (xq := .int .i64 (q : Int)) hb2 hrom2 hx4 hX4 (Nat.lt_of_lt_of_le hX.2.1 hx0.next) ihr hkx hP4 hxn hs0 hs2 p1 p2 hH4 (Nat.le_refl _) p3 p4 (by simp -dsimp only [go_sem, hn]) (by simp -dsimp only [go_sem, g0]) (by simp -dsimp only [go_sem, g2]) (by simp -dsimp only [go_sem]) (by simp -dsimp only [go_sem]) (by simp -dsimp only [go_sem, hv4]) (by simp -dsimp only [go_sem]) (fun a1 h1 wo vo z i r_n hx1 hX1 hP1 hO hL hend r2 r4 r7 => ?_)
 have hb1 : h1.base ≤ h1.next := ext_bn hx1 hb2
 have hW := own_new hb1 85 (encR (.slice none 0 0) q)
 have xw := Ext.new h1 (CObj.cells { c := encR (.slice none 0 0) q, e := 85, fam := 0, base := 0, grown := false })
 have hx12 := hx1.trans xw.toS
 have hlw := hL.len (by omega) hs2
 obtain ⟨v', h5, a5, hO5, hext5, hkp5, hoth5, _, _, _⟩ := ways_one apR mkR (hO.ext xw) hW KidsAt.nil (ext_bn hx12 hb2) hx12.next hx12.nfam (by omega)
 have hx5 := hext5 (Only xb) h2 hx12 (Nat.le_refl _) (Nat.le_refl _)
 obtain ⟨Ao, hvo, hspo⟩ := hO.slice
 obtain ⟨An, hvn, hspn⟩ := hO5.slice
 rw [hvo] at r7 a5
 rw [hvn] at a5
 unfold encR at a5
 simp -dsimp only [go_sem, r2, r7, sameN_sliceA hspo, sameN_sliceA hspn, bs82 1 (by decide), repeatN, builtin', a5, hr]
 rw [← hvn]
 refine ⟨z, wo ++ [([], q)], hx0.toS.trans hx5, hoth5 _ _ _ (by decide) (own_ext xw hX1), (hO5.low hx0.next hx0.nfam).more (fun b _ c => Nat.lt_of_lt_of_le c hx0.next) (fun f c => .inl ⟨c.1, Nat.lt_of_lt_of_le c.2 hx0.nfam⟩), ?_⟩
 rcases hL.done hend rfl with ⟨d1, d2, k', U, X, hk', hz⟩ | ⟨d1, d2, d3, d4⟩
 · rcases hcase with ⟨k, o, hrun, e1, e2, rfl⟩ | ⟨e1, _⟩
   · refine .inl ⟨_, _, runW_two (t := .again x q) (fun rc => rfl) hrun hk', ?_, d1, rfl⟩
     simp only [againW]
     omega
   · omega
 · refine .inr ⟨d1, d2, fun c => by omega, ?_, okH_app d4 (okH_one hq)⟩
   rw [List.length_append]
   simp only [List.length_cons, List.length_nil]
   omega
end Go.Ev.G24
end
