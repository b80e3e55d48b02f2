/- For every grammar, rule, items and number, Ways answers exactly the document's trees in their order, where the document's search takes at most 20,000 steps (no condition on the arguments): part 3 of 6. -/
import Derived.Test.YtcnllhnhinmokaaWA1
import Derived.Test.YtcnllhnhinmokaaProg
import Derived.Below
import Derived.Deep.Draws
import Derived.Deep.AppendLies
import Derived.Maps.AppendAt
import Derived.OwnWalk
import Derived.Laws.BytesArg
import Derived.Laws.MakeOwn
import Derived.Laws.OwnMore
import Derived.Deep.OwnRows
import Derived.Tactics
import Derived.Lib.ConvBytes
import Derived.Laws.Slices
import Derived.WalkKit
import Derived.KernelRfl
import Derived.RowKit3
import Derived.Deep.LoopGhost
import Derived.Deep.QuietTactic
import Derived.BigQuiet
import Derived.WideLaws
import Derived.Deep.DeepCutAuto
import Derived.Deep.CutBlock
import Derived.Deep.RegionHeld3
import Derived.Laws.Rows
import Derived.Lib.AppendStr
import Derived.ArgAppend
import Derived.Laws.IdiomCopy
import Derived.OrdersHeld
import Derived.Laws.BitsLemmas
import Derived.RowKit
section
set_option linter.unusedSimpArgs false
set_option linter.unusedVariables false
namespace Go.Ev.G24
open Go.RowKit Go.Proofs
def emf (names : List ByteArray) (em : List Bool) (t : ByteArray) : Bool := em.getD (idxOf names t) false
def MayC (r : Ro) (bk m eb : Nat) (G : Value) (names : List ByteArray) (em : List Bool) (p : Part) : Prop := ∀ (h : Hp) (cs : List Value), h.rom = r → h.base ≤ h.next → Book h bk m eb G names em → RoPart r p cs → named names p →
 ∃ v h1, Snd Try.prog 81 [.pointer (some ⟨bk, 0, none⟩), .agg cs.toArray] h v h1 ∧ v = .bool (mayB (emf names em) p) ∧ Ext h h1
variable {r : Ro} {bk m eb : Nat} {G : Value} {names : List ByteArray} {em : List Bool}
set_option maxHeartbeats 4000000 in
set_option maxRecDepth 10000 in
theorem may_c : ∀ (n : Nat) (p : Part), SizeOf.sizeOf p < n → MayC r bk m eb G names em p := by
 intro n
 induction n with
 | zero => exact fun p hp => absurd hp (Nat.not_lt_zero _)
 | succ n ihn =>
 rintro ⟨d, t, l⟩ hn h cs hrom hb hB hp hnm
 have ih : ∀ (i : Nat) (p : Part), l[i]? = some p → MayC r bk m eb G names em p := fun i p hp => ihn p (by
  have := List.sizeOf_lt_of_mem (List.mem_of_getElem? hp)
  simp only [Part.mk.sizeOf_spec] at hn
  omega)
 have hnk : ∀ (i : Nat) (p : Part), l[i]? = some p → named names p := namedL_get hnm.2.2
 cases hp with
 | mk _ _ _ Av c b o css hc hlb hA hat hk =>
 refine snd_go wf Try.func81 rfl rfl (n := 56) rfl (by kernel_rfl) rfl ?_
 intro a hn hg
 have hr : Try.f81.results.toList = [.tmp 4] := rfl
 have g0 := hg 0
 have g1 := hg 1
 clear hg
 simp only [List.getElem?_cons_zero, List.getElem?_cons_succ] at g0 g1
 have hP := own_new hb 52 [.string d, .string t, .slice Av l.length c]
 have hx0 := Ext.new h (CObj.cells { c := [.string d, .string t, .slice Av l.length c], e := 52, fam := 0, base := 0, grown := false })
 have hb1 : (h.newH (CObj.cells { c := [.string d, .string t, .slice Av l.length c], e := 52, fam := 0, base := 0, grown := false })).base ≤ (h.newH (CObj.cells { c := [.string d, .string t, .slice Av l.length c], e := 52, fam := 0, base := 0, grown := false })).next := Nat.le_succ_of_le hb
 by_cases c1 : d.data.toList = [105, 115]
 · have k1 : decide (d.data.toList = [105, 115]) = true := by rw [c1]; rfl
   have e : mayB (emf names em) ⟨d, t, l⟩ = false := by unfold mayB; rw [if_pos c1]
   simp -dsimp only [go_sem, g0, g1, load_own hP, k1, hr, e]
   exact hx0
 have k1 : decide (d.data.toList = [105, 115]) = false := decide_eq_false c1
 by_cases c2 : d.data.toList = [97, 110, 121]
 · have k2 : decide (d.data.toList = [97, 110, 121]) = true := by rw [c2]; rfl
   have e : mayB (emf names em) ⟨d, t, l⟩ = false := by unfold mayB; rw [if_neg c1, if_pos c2]
   simp -dsimp only [go_sem, g0, g1, load_own hP, k1, k2, hr, e]
   exact hx0
 have k2 : decide (d.data.toList = [97, 110, 121]) = false := decide_eq_false c2
 by_cases c3 : d.data.toList = [114, 117, 108, 101]
 · have k3 : decide (d.data.toList = [114, 117, 108, 101]) = true := by rw [c3]; rfl
   have e : mayB (emf names em) ⟨d, t, l⟩ = emf names em t := by unfold mayB; rw [if_neg c1, if_neg c2, if_pos c3]
   have hB1 := hB.ext hx0
   have hidx : idxOf names t < names.length := hnm.1 c3
   have hidx2 : idxOf names t < em.length := by rw [hB1.len]; exact hidx
   have hem : (em.map Value.bool)[idxOf names t]? = some (.bool (emf names em t)) := by
    simp only [List.getElem?_map, emf, List.getD_eq_getElem?_getD, List.getElem?_eq_getElem hidx2, Option.map_some, Option.getD_some]
   simp -dsimp only [go_sem, g0, g1, load_own hP, k1, k2, k3, hr, e]
   refine Dw_reads (n := 56) (by simp -dsimp only [go_sem, hn]) (by kernel_rfl) (by kernel_rfl) ?_
   simp -dsimp only [go_sem, drawR, g0, g1, load_own hP, load_own hB1.own, load_own hB1.row, hB1.lookup hidx, ia105 hidx, hem, hr, e]
   exact hx0
 have k3 : decide (d.data.toList = [114, 117, 108, 101]) = false := decide_eq_false c3
 by_cases c4 : d.data.toList = [115, 101, 113]
 · have k4 : decide (d.data.toList = [115, 101, 113]) = true := by rw [c4]; rfl
   have e : mayB (emf names em) ⟨d, t, l⟩ = mayAll (emf names em) l := by unfold mayB; rw [if_neg c1, if_neg c2, if_neg c3, if_pos c4]
   simp -dsimp only [go_sem, g0, g1, load_own hP, k1, k2, k3, k4, hr, e]
   generalize h.newH (CObj.cells { c := [.string d, .string t, .slice Av l.length c], e := 52, fam := 0, base := 0, grown := false }) = h1 at *
   refine loop_go (n := 56) (by kernel_rfl) (fun m' a' h' => ∃ i : Nat, i ≤ l.length ∧ m' = l.length - i ∧ Ext h1 h' ∧ a'.get 0 = .pointer (some ⟨bk, 0, none⟩) ∧ a'.get 32 = .slice Av l.length c ∧ a'.get 33 = .int .i64 l.length ∧ a'.get 34 = .int .i64 i ∧ ∀ (j : Nat) (p : Part), j < i → l[j]? = some p → mayB (emf names em) p = true) ?_ l.length _ _ ?_ ?_
   · rintro m' a' h' hn' ⟨i, hi, rfl, hx, e0, e32, e33, e34, hall⟩
     have hrom' : h'.rom = r := (hx.rom.trans hx0.rom).trans hrom
     have hb' : h'.base ≤ h'.next := by rw [hx.base]; exact Nat.le_trans hb1 hx.next
     by_cases hlt : i < l.length
     · have hpi : l[i]? = some l[i] := List.getElem?_eq_getElem hlt
       have hi1 : decide ((i : Int) < (l.length : Int)) = true := decide_eq_true (Int.ofNat_lt.2 hlt)
       obtain ⟨Av1, c1', hcs⟩ := (hk i _ hpi).shape
       have hat' := hat i _ hpi
       have hkid := hk i _ hpi
       rw [hcs] at hat' hkid
       rw [hA (ne_nil hlt)] at e32
       obtain ⟨vS, vO, vX, vB, vR⟩ := var_ok hb' (e := 52) (c0 := [.string ⟨#[]⟩, .string ⟨#[]⟩, .slice none 0 0]) (c1 := [.string l[i].d, .string l[i].t, .slice Av1 l[i].l.length c1']) rfl rfl (by simp)
       simp -dsimp only [go_sem, e0, e32, e33, e34, hi1, ia50 hlt, loads_ro (n := 3) hrom' hat' rfl, vS, loads_own vO]
       obtain ⟨_, h2, hs, rfl, hx2⟩ := ih i _ hpi _ _ (vR.trans hrom') vB (hB.ext (hx0.trans (hx.trans vX))) hkid (hnk i _ hpi)
       refine ⟨_, h2, hs, ?_⟩
       simp -dsimp only [go_sem]
       refine Wcond_in (fun hm => ?_) (fun hm => ?_)
       · simp -dsimp only [go_sem, hr, e]
         refine ⟨?_, hx0.trans (hx.trans (vX.trans hx2))⟩
         cases hq : mayAll (emf names em) l with
          | false => rfl
          | true => rw [(mayAll_iff _ l).1 hq i _ hpi] at hm; cases hm
       · simp -dsimp only [go_sem, e0, e32, e33, e34, wrap64_succ hlt hlb]
         refine ⟨l.length - (i + 1), by omega, i + 1, hlt, rfl, hx.trans (vX.trans hx2), by rw [hA (ne_nil hlt)], rfl, fun j p hj hp => ?_⟩
         rcases Nat.lt_succ_iff_lt_or_eq.1 hj with h | h
         · exact hall j p h hp
         · subst h; rw [hpi] at hp; injection hp with hp; subst hp; simpa using hm
     · have hi0 : decide ((i : Int) < (l.length : Int)) = false := decide_eq_false (by omega)
       have hall' : mayAll (emf names em) l = true := (mayAll_iff _ l).2 fun j p hp => hall j p (by have := (List.getElem?_eq_some_iff.1 hp).1; omega) hp
       simp -dsimp only [go_sem, e33, e34, hi0, hr, e, hall']
       exact hx0.trans hx
   · simp only [A.set_n, hn]
   · refine ⟨0, Nat.zero_le _, rfl, Ext.refl _, ?_⟩
     simp -dsimp only [go_sem, g0]
     exact ⟨rfl, fun j p hj => absurd hj (Nat.not_lt_zero _)⟩
 have k4 : decide (d.data.toList = [115, 101, 113]) = false := decide_eq_false c4
 by_cases c5 : d.data.toList = [111, 114]
 · have k5 : decide (d.data.toList = [111, 114]) = true := by rw [c5]; rfl
   have e : mayB (emf names em) ⟨d, t, l⟩ = mayAny (emf names em) l := by unfold mayB; rw [if_neg c1, if_neg c2, if_neg c3, if_neg c4, if_pos c5]
   simp -dsimp only [go_sem, g0, g1, load_own hP, k1, k2, k3, k4, k5, hr, e]
   generalize h.newH (CObj.cells { c := [.string d, .string t, .slice Av l.length c], e := 52, fam := 0, base := 0, grown := false }) = h1 at *
   refine loop_go (n := 56) (by kernel_rfl) (fun m' a' h' => ∃ i : Nat, i ≤ l.length ∧ m' = l.length - i ∧ Ext h1 h' ∧ a'.get 0 = .pointer (some ⟨bk, 0, none⟩) ∧ a'.get 46 = .slice Av l.length c ∧ a'.get 47 = .int .i64 l.length ∧ a'.get 48 = .int .i64 i ∧ ∀ (j : Nat) (p : Part), j < i → l[j]? = some p → mayB (emf names em) p = false) ?_ l.length _ _ ?_ ?_
   · rintro m' a' h' hn' ⟨i, hi, rfl, hx, e0, e32, e33, e34, hall⟩
     have hrom' : h'.rom = r := (hx.rom.trans hx0.rom).trans hrom
     have hb' : h'.base ≤ h'.next := by rw [hx.base]; exact Nat.le_trans hb1 hx.next
     by_cases hlt : i < l.length
     · have hpi : l[i]? = some l[i] := List.getElem?_eq_getElem hlt
       have hi1 : decide ((i : Int) < (l.length : Int)) = true := decide_eq_true (Int.ofNat_lt.2 hlt)
       obtain ⟨Av1, c1', hcs⟩ := (hk i _ hpi).shape
       have hat' := hat i _ hpi
       have hkid := hk i _ hpi
       rw [hcs] at hat' hkid
       rw [hA (ne_nil hlt)] at e32
       obtain ⟨vS, vO, vX, vB, vR⟩ := var_ok hb' (e := 52) (c0 := [.string ⟨#[]⟩, .string ⟨#[]⟩, .slice none 0 0]) (c1 := [.string l[i].d, .string l[i].t, .slice Av1 l[i].l.length c1']) rfl rfl (by simp)
       simp -dsimp only [go_sem, e0, e32, e33, e34, hi1, ia50 hlt, loads_ro (n := 3) hrom' hat' rfl, vS, loads_own vO]
       obtain ⟨_, h2, hs, rfl, hx2⟩ := ih i _ hpi _ _ (vR.trans hrom') vB (hB.ext (hx0.trans (hx.trans vX))) hkid (hnk i _ hpi)
       refine ⟨_, h2, hs, ?_⟩
       simp -dsimp only [go_sem]
       refine Wcond_in (fun hm => ?_) (fun hm => ?_)
       · simp -dsimp only [go_sem, hr, e]
         refine ⟨?_, hx0.trans (hx.trans (vX.trans hx2))⟩
         cases hq : mayAny (emf names em) l with
          | true => rfl
          | false => rw [(mayAny_iff _ l).1 hq i _ hpi] at hm; cases hm
       · simp -dsimp only [go_sem, e0, e32, e33, e34, wrap64_succ hlt hlb]
         refine ⟨l.length - (i + 1), by omega, i + 1, hlt, rfl, hx.trans (vX.trans hx2), by rw [hA (ne_nil hlt)], rfl, fun j p hj hp => ?_⟩
         rcases Nat.lt_succ_iff_lt_or_eq.1 hj with h | h
         · exact hall j p h hp
         · subst h; rw [hpi] at hp; injection hp with hp; subst hp; simpa using hm
     · have hi0 : decide ((i : Int) < (l.length : Int)) = false := decide_eq_false (by omega)
       have hall' : mayAny (emf names em) l = false := (mayAny_iff _ l).2 fun j p hp => hall j p (by have := (List.getElem?_eq_some_iff.1 hp).1; omega) hp
       simp -dsimp only [go_sem, e33, e34, hi0, hr, e, hall']
       exact hx0.trans hx
   · simp only [A.set_n, hn]
   · refine ⟨0, Nat.zero_le _, rfl, Ext.refl _, ?_⟩
     simp -dsimp only [go_sem, g0]
     exact ⟨rfl, fun j p hj => absurd hj (Nat.not_lt_zero _)⟩
 have k5 : decide (d.data.toList = [111, 114]) = false := decide_eq_false c5
 have e : mayB (emf names em) ⟨d, t, l⟩ = true := by unfold mayB; rw [if_neg c1, if_neg c2, if_neg c3, if_neg c4, if_neg c5]
 simp -dsimp only [go_sem, g0, g1, load_own hP, k1, k2, k3, k4, k5, hr, e]
 exact hx0
end Go.Ev.G24
end
section
set_option linter.unusedSimpArgs false
set_option linter.unusedVariables false
namespace Go.Ev.G24
open Go.RowKit Go.Proofs
variable {r : Ro} {bk m eb : Nat} {G : Value} {names : List ByteArray} {em : List Bool}
def IdleC (r : Ro) (bk m eb : Nat) (G : Value) (names : List ByteArray) (em : List Bool) (p : Part) : Prop := ∀ (h : Hp) (cs : List Value), h.rom = r → h.base ≤ h.next → Book h bk m eb G names em → RoPart r p cs → named names p →
 ∃ v h1, Snd Try.prog 83 [.pointer (some ⟨bk, 0, none⟩), .agg cs.toArray] h v h1 ∧ v = .bool (idleB (emf names em) p) ∧ Ext h h1
set_option maxHeartbeats 4000000 in
set_option maxRecDepth 10000 in
theorem idle_loop {l : List Part} {Av : Option Addr} {c b o : Nat} {css : Nat → List Value} (ih : ∀ (i : Nat) (p : Part), l[i]? = some p → IdleC r bk m eb G names em p) (hnk : ∀ (i : Nat) (p : Part), l[i]? = some p → named names p)
  (hlb : l.length ≤ 9223372036854775807) (hA : l ≠ [] → Av = some ⟨b, o, none⟩) (hat : ∀ (i : Nat) (p : Part), l[i]? = some p → roAt r b (o + i * 3) (css i)) (hk : ∀ (i : Nat) (p : Part), l[i]? = some p → RoPart r p (css i))
  {a : Ev.A} {h1 : Hp} {Q : Ex → Ev.A → Hp → Prop} (hn : a.n = 29) (hrom : h1.rom = r) (hb1 : h1.base ≤ h1.next) (hB : Book h1 bk m eb G names em)
  (g0 : a.get 0 = .pointer (some ⟨bk, 0, none⟩)) (g19 : a.get 19 = .slice Av l.length c) (g20 : a.get 20 = .int .i64 l.length) (g21 : a.get 21 = .int .i64 0)
  (hq0 : ∀ a1 h2, Ext h1 h2 → idleL (emf names em) l = false → Q (.exit 0) a1 h2) (hq1 : ∀ a1 h2, Ext h1 h2 → idleL (emf names em) l = true → a1.get 4 = .bool true → Q .ret a1 h2) : Th Try.prog (bodyAt Try.f83 [1, 1, 0, 1, 0]) a h1 Q ⟨⟩ ⟨⟩ := by
 simp only [bodyAt, nav, Try.f83]
 refine loop_go (n := 29) (by kernel_rfl) (fun m' a' h' => ∃ i : Nat, i ≤ l.length ∧ m' = l.length - i ∧ Ext h1 h' ∧ a'.get 0 = .pointer (some ⟨bk, 0, none⟩) ∧ a'.get 19 = .slice Av l.length c ∧ a'.get 20 = .int .i64 l.length ∧ a'.get 21 = .int .i64 i ∧ ∀ (j : Nat) (p : Part), j < i → l[j]? = some p → idleB (emf names em) p = false) ?_ l.length _ _ hn ⟨0, Nat.zero_le _, rfl, Ext.refl _, g0, g19, g20, g21, fun j p hj => absurd hj (Nat.not_lt_zero _)⟩
 rintro m' a' h' hn' ⟨i, hi, rfl, hx, e0, e19, e20, e21, hall⟩
 have hrom' : h'.rom = r := hx.rom.trans hrom
 have hb' : h'.base ≤ h'.next := by rw [hx.base]; exact Nat.le_trans hb1 hx.next
 by_cases hlt : i < l.length
 · have hpi : l[i]? = some l[i] := List.getElem?_eq_getElem hlt
   have hi1 : decide ((i : Int) < (l.length : Int)) = true := decide_eq_true (Int.ofNat_lt.2 hlt)
   obtain ⟨Av1, c1', hcs⟩ := (hk i _ hpi).shape
   have hat' := hat i _ hpi
   have hkid := hk i _ hpi
   rw [hcs] at hat' hkid
   rw [hA (ne_nil hlt)] at e19
   obtain ⟨vS, vO, vX, vB, vR⟩ := var_ok hb' (e := 52) (c0 := [.string ⟨#[]⟩, .string ⟨#[]⟩, .slice none 0 0]) (c1 := [.string l[i].d, .string l[i].t, .slice Av1 l[i].l.length c1']) rfl rfl (by simp)
   simp -dsimp only [go_sem, e0, e19, e20, e21, hi1, ia50 hlt, loads_ro (n := 3) hrom' hat' rfl, vS, loads_own vO]
   obtain ⟨_, h2, hs, rfl, hx2⟩ := ih i _ hpi _ _ (vR.trans hrom') vB (hB.ext (hx.trans vX)) hkid (hnk i _ hpi)
   refine ⟨_, h2, hs, ?_⟩
   simp -dsimp only [go_sem]
   refine Wcond_in (fun hm => ?_) (fun hm => ?_)
   · simp -dsimp only [go_sem]
     refine hq1 _ _ (hx.trans (vX.trans hx2)) ?_ (by simp -dsimp only [go_sem])
     cases hq : idleL (emf names em) l with
     | true => rfl
     | false => rw [(idleL_iff _ l).1 hq i _ hpi] at hm; cases hm
   · simp -dsimp only [go_sem, e0, e19, e20, e21, wrap64_succ hlt hlb]
     refine ⟨l.length - (i + 1), by omega, i + 1, hlt, rfl, hx.trans (vX.trans hx2), by rw [hA (ne_nil hlt)], rfl, fun j p hj hp => ?_⟩
     rcases Nat.lt_succ_iff_lt_or_eq.1 hj with h | h
     · exact hall j p h hp
     · subst h; rw [hpi] at hp; injection hp with hp; subst hp; exact hm
 · have hi0 : decide ((i : Int) < (l.length : Int)) = false := decide_eq_false (by omega)
   simp -dsimp only [go_sem, e20, e21, hi0]
   exact hq0 _ _ hx ((idleL_iff _ l).2 fun j p hp => hall j p (by have := (List.getElem?_eq_some_iff.1 hp).1; omega) hp)
set_option maxHeartbeats 1000000 in
set_option maxRecDepth 10000 in
theorem idle_c : ∀ (n : Nat) (p : Part), SizeOf.sizeOf p < n → IdleC r bk m eb G names em p := by
 intro n
 induction n with
 | zero => exact fun p hp => absurd hp (Nat.not_lt_zero _)
 | succ n ihn =>
 rintro ⟨d, t, l⟩ hn h cs hrom hb hB hp hnm
 have ih : ∀ (i : Nat) (p : Part), l[i]? = some p → IdleC r bk m eb G names em p := fun i p hp => ihn p (by
  have := List.sizeOf_lt_of_mem (List.mem_of_getElem? hp)
  simp only [Part.mk.sizeOf_spec] at hn
  omega)
 have hnk : ∀ (i : Nat) (p : Part), l[i]? = some p → named names p := namedL_get hnm.2.2
 cases hp with
 | mk _ _ _ Av c b o css hc hlb hA hat hk =>
 refine snd_go wf Try.func83 rfl rfl (n := 29) rfl (by kernel_rfl) rfl ?_
 intro a hn hg
 have hr : Try.f83.results.toList = [.tmp 4] := rfl
 have g0 := hg 0
 have g1 := hg 1
 clear hg
 simp only [List.getElem?_cons_zero, List.getElem?_cons_succ] at g0 g1
 have hP := own_new hb 52 [.string d, .string t, .slice Av l.length c]
 have hx0 := Ext.new h (CObj.cells { c := [.string d, .string t, .slice Av l.length c], e := 52, fam := 0, base := 0, grown := false })
 have hb1 : (h.newH (CObj.cells { c := [.string d, .string t, .slice Av l.length c], e := 52, fam := 0, base := 0, grown := false })).base ≤ (h.newH (CObj.cells { c := [.string d, .string t, .slice Av l.length c], e := 52, fam := 0, base := 0, grown := false })).next := Nat.le_succ_of_le hb
 have e : idleB (emf names em) ⟨d, t, l⟩ = ((decide (d.data.toList = [109, 97, 110, 121]) && mayHead (emf names em) l) || idleL (emf names em) l) := by unfold idleB; rfl
 by_cases c1 : d.data.toList = [109, 97, 110, 121]
 · have k1 : decide (d.data.toList = [109, 97, 110, 121]) = true := by rw [c1]; rfl
   have hl1 : l.length = 1 := hnm.2.1 (.inl c1)
   have hlt : 0 < l.length := by omega
   have hpi : l[0]? = some l[0] := List.getElem?_eq_getElem hlt
   obtain ⟨Av1, c1', hcs⟩ := (hk 0 _ hpi).shape
   have hat' := hat 0 _ hpi
   have hkid := hk 0 _ hpi
   rw [hcs] at hat' hkid
   have hA' := hA (ne_nil hlt)
   subst hA'
   have hia := ia50 (b := b) (o := o) (c := c) (n := l.length) hlt
   simp only [Nat.zero_mul, Nat.add_zero] at hia hat'
   rw [show ((0 : Nat) : Int) = 0 from rfl] at hia
   simp -dsimp only [go_sem, g0, g1, load_own hP, k1, hia, loads_ro (n := 3) (hx0.rom.trans hrom) hat' rfl]
   obtain ⟨_, h2, hs, rfl, hx2⟩ := may_c _ l[0] (Nat.lt_succ_self _) _ _ (hx0.rom.trans hrom) hb1 (hB.ext hx0) hkid (hnk 0 _ hpi)
   refine ⟨_, h2, hs, ?_⟩
   have hP2 := own_ext hx2 hP
   have hmh : mayHead (emf names em) l = mayB (emf names em) l[0] := by
    match l, hlt with
    | x :: l, _ => rfl
   simp -dsimp only [go_sem]
   refine Wcond_in (fun hm => ?_) (fun hm => ?_)
   · simp -dsimp only [go_sem, hr, e, k1, hmh, hm, Bool.true_and, Bool.true_or]
     exact hx0.trans hx2
   simp -dsimp only [go_sem, g0, load_own hP2]
   refine idle_loop (l := l) (c := c) ih hnk hlb hA hat hk (by simp -dsimp only [go_sem, hn]) ((hx0.trans hx2).rom.trans hrom) (by rw [hx2.base]; exact Nat.le_trans hb1 hx2.next) (hB.ext (hx0.trans hx2)) (by simp -dsimp only [go_sem, g0]) (by simp -dsimp only [go_sem]) (by simp -dsimp only [go_sem]) (by simp -dsimp only [go_sem]) (fun a1 h3 hx3 hf => ?_) (fun a1 h3 hx3 hf h4 => ?_)
   · simp -dsimp only [go_sem, hr, e, k1, hmh, hm, hf, Bool.true_and, Bool.false_or]
     exact (hx0.trans hx2).trans hx3
   · simp -dsimp only [go_sem, hr, e, k1, hmh, hm, hf, h4, Bool.true_and, Bool.false_or]
     exact (hx0.trans hx2).trans hx3
 · have k1 : decide (d.data.toList = [109, 97, 110, 121]) = false := decide_eq_false c1
   simp -dsimp only [go_sem, g0, g1, load_own hP, k1]
   refine idle_loop (l := l) (c := c) ih hnk hlb hA hat hk (by simp -dsimp only [go_sem, hn]) (hx0.rom.trans hrom) hb1 (hB.ext hx0) (by simp -dsimp only [go_sem, g0]) (by simp -dsimp only [go_sem]) (by simp -dsimp only [go_sem]) (by simp -dsimp only [go_sem]) (fun a1 h3 hx3 hf => ?_) (fun a1 h3 hx3 hf h4 => ?_)
   · simp -dsimp only [go_sem, hr, e, k1, hf, Bool.false_and, Bool.false_or]
     exact hx0.trans hx3
   · simp -dsimp only [go_sem, hr, e, k1, hf, h4, Bool.false_and, Bool.false_or]
     exact hx0.trans hx3
end Go.Ev.G24
end
section
set_option linter.unusedSimpArgs false
set_option linter.unusedVariables false
namespace Go.Ev.G24
open Go.RowKit Go.Proofs
variable {r : Ro} {bk m eb : Nat} {G : Value} {names : List ByteArray} {em : List Bool}
def Only (b : Nat) : Nat → Prop := fun x => x = b
def StartC (r : Ro) (bk m eb tb : Nat) (G : Value) (names : List ByteArray) (em : List Bool) (p : Part) : Prop := ∀ (h : Hp) (cs : List Value) (bs : List Bool), h.rom = r → h.base ≤ h.next → Book h bk m eb G names em → RoPart r p cs → named names p →
 h.own tb 4 (bs.map .bool) → bs.length = names.length →
 ∃ v h1, Snd Try.prog 82 [.pointer (some ⟨bk, 0, none⟩), .agg cs.toArray, .slice (some ⟨tb, 0, none⟩) names.length names.length] h v h1 ∧ v = .tuple #[] ∧ ExtS (Only tb) h h1 ∧ h1.own tb 4 ((startB (emf names em) (idxOf names) p bs).map .bool)
theorem ext_rom {S : Nat → Prop} {h h1 : Hp} (x : ExtS S h h1) (hr : h.rom = r) : h1.rom = r := by rw [x.rom]; exact hr
theorem ext_bn {S : Nat → Prop} {h h1 : Hp} (x : ExtS S h h1) (hb : h.base ≤ h.next) : h1.base ≤ h1.next := by rw [x.base]; exact Nat.le_trans hb x.next
set_option maxHeartbeats 2000000 in
set_option maxRecDepth 10000 in
theorem start_loop {tb : Nat} (ht0 : bk ≠ tb) (ht1 : m ≠ tb) (ht2 : eb ≠ tb) {d t : ByteArray} {l : List Part} {pb : Nat} {Av : Option Addr} {c b o : Nat} {css : Nat → List Value} (ih : ∀ (i : Nat) (p : Part), l[i]? = some p → StartC r bk m eb tb G names em p) (hnk : ∀ (i : Nat) (p : Part), l[i]? = some p → named names p)
  (hlb : l.length ≤ 9223372036854775807) (hA : l ≠ [] → Av = some ⟨b, o, none⟩) (hat : ∀ (i : Nat) (p : Part), l[i]? = some p → roAt r b (o + i * 3) (css i)) (hk : ∀ (i : Nat) (p : Part), l[i]? = some p → RoPart r p (css i))
  {a : Ev.A} {h1 : Hp} {Q : Ex → Ev.A → Hp → Prop} (hn : a.n = 41) (hrom : h1.rom = r) (hb1 : h1.base ≤ h1.next) (hB : Book h1 bk m eb G names em) {bs : List Bool} (hbs : h1.own tb 4 (bs.map .bool)) (hbl : bs.length = names.length)
  (hpt : pb ≠ tb) (hP : h1.own pb 52 [.string d, .string t, .slice Av l.length c])
  (g0 : a.get 0 = .pointer (some ⟨bk, 0, none⟩)) (g2 : a.get 2 = .slice (some ⟨tb, 0, none⟩) names.length names.length) (g4 : a.get 4 = .pointer (some ⟨pb, 0, none⟩)) (g21 : a.get 21 = .slice Av l.length c) (g22 : a.get 22 = .int .i64 l.length) (g23 : a.get 23 = .int .i64 0)
  (hq0 : ∀ a1 h2, ExtS (Only tb) h1 h2 → h2.own tb 4 ((startL (emf names em) (idxOf names) (decide (d.data.toList = [115, 101, 113])) l bs).map .bool) → Q (.exit 0) a1 h2)
  (hq1 : ∀ a1 h2, ExtS (Only tb) h1 h2 → h2.own tb 4 ((startL (emf names em) (idxOf names) (decide (d.data.toList = [115, 101, 113])) l bs).map .bool) → Q .ret a1 h2) : Th Try.prog (bodyAt Try.f82 [1, 1, 1, 0]) a h1 Q ⟨⟩ ⟨⟩ := by
 simp only [bodyAt, nav, Try.f82]
 refine loop_go (n := 41) (by kernel_rfl) (fun m' a' h' => ∃ (i : Nat) (bs' : List Bool), i ≤ l.length ∧ m' = l.length - i ∧ ExtS (Only tb) h1 h' ∧ h'.own tb 4 (bs'.map .bool) ∧ bs'.length = names.length ∧ startL (emf names em) (idxOf names) (decide (d.data.toList = [115, 101, 113])) (l.drop i) bs' = startL (emf names em) (idxOf names) (decide (d.data.toList = [115, 101, 113])) l bs ∧
  a'.get 0 = .pointer (some ⟨bk, 0, none⟩) ∧ a'.get 2 = .slice (some ⟨tb, 0, none⟩) names.length names.length ∧ a'.get 4 = .pointer (some ⟨pb, 0, none⟩) ∧ a'.get 21 = .slice Av l.length c ∧ a'.get 22 = .int .i64 l.length ∧ a'.get 23 = .int .i64 i) ?_ l.length _ _ hn ⟨0, bs, Nat.zero_le _, rfl, (Ext.refl _).toS, hbs, hbl, by rw [List.drop_zero], g0, g2, g4, g21, g22, g23⟩
 rintro m' a' h' hn' ⟨i, bs', hi, rfl, hx, hown, hbl', hst, e0, e2, e4, e21, e22, e23⟩
 have hrom' : h'.rom = r := ext_rom hx hrom
 have hb' : h'.base ≤ h'.next := by rw [hx.base]; exact Nat.le_trans hb1 hx.next
 have hB' := hB.extS hx ht0 ht1 ht2
 by_cases hlt : i < l.length
 · have hpi : l[i]? = some l[i] := List.getElem?_eq_getElem hlt
   have hi1 : decide ((i : Int) < (l.length : Int)) = true := decide_eq_true (Int.ofNat_lt.2 hlt)
   obtain ⟨Av1, c1', hcs⟩ := (hk i _ hpi).shape
   have hat' := hat i _ hpi
   have hkid := hk i _ hpi
   rw [hcs] at hat' hkid
   have hAv := hA (ne_nil hlt)
   subst hAv
   obtain ⟨vS, vO, vX, vB, vR⟩ := var_ok hb' (e := 52) (c0 := [.string ⟨#[]⟩, .string ⟨#[]⟩, .slice none 0 0]) (c1 := [.string l[i].d, .string l[i].t, .slice Av1 l[i].l.length c1']) rfl rfl (by simp)
   simp -dsimp only [go_sem, e0, e2, e4, e21, e22, e23, hi1, ia50 hlt, loads_ro (n := 3) hrom' hat' rfl, vS, loads_own vO]
   obtain ⟨_, h2, hs, rfl, hx2, hown2⟩ := ih i _ hpi _ _ bs' (vR.trans hrom') vB (hB'.ext vX) hkid (hnk i _ hpi) (own_ext vX hown) hbl'
   refine ⟨_, h2, hs, ?_⟩
   have hx3 : ExtS (Only tb) h1 h2 := hx.trans (vX.toS.trans hx2)
   have hP2 := own_extS hx3 hP hpt
   have hvn : h'.next ≠ tb := Nat.ne_of_gt hown.2.1
   have vO2 := own_extS hx2 vO hvn
   have hB2 := hB.extS hx3 ht0 ht1 ht2
   have hdr : l.drop i = l[i] :: l.drop (i + 1) := List.drop_eq_getElem_cons hlt
   rw [hdr, startL] at hst
   by_cases csq : d.data.toList = [115, 101, 113]
   · have k1 : decide (d.data.toList = [115, 101, 113]) = true := decide_eq_true csq
     simp -dsimp only [go_sem, e0, e2, e4, e21, e22, e23, load_own hP2, loads_own vO2, k1]
     obtain ⟨_, h4, hs4, rfl, hx4⟩ := may_c _ l[i] (Nat.lt_succ_self _) _ _ (ext_rom hx3 hrom) (ext_bn hx3 hb1) hB2 hkid (hnk i _ hpi)
     refine ⟨_, h4, hs4, ?_⟩
     have hx5 : ExtS (Only tb) h1 h4 := hx3.trans hx4.toS
     simp -dsimp only [go_sem]
     rw [k1, Bool.true_and] at hst
     refine Wcond_in (fun hm => ?_) (fun hm => ?_)
     · simp -dsimp only [go_sem]
       refine hq1 _ _ hx5 ?_
       rw [k1, ← hst, if_pos hm]
       exact own_ext hx4 hown2
     · simp -dsimp only [go_sem, e0, e2, e4, e21, e22, e23, wrap64_succ hlt hlb]
       rw [if_neg (by rw [hm]; simp)] at hst
       exact ⟨l.length - (i + 1), by omega, i + 1, _, hlt, rfl, hx5, own_ext hx4 hown2, (startB_len _ _ _ _).trans hbl', by rw [k1]; exact hst, rfl⟩
   · have k1 : decide (d.data.toList = [115, 101, 113]) = false := decide_eq_false csq
     simp -dsimp only [go_sem, e0, e2, e4, e21, e22, e23, load_own hP2, loads_own vO2, k1, wrap64_succ hlt hlb]
     rw [k1, Bool.false_and, if_neg (by simp)] at hst
     exact ⟨l.length - (i + 1), by omega, i + 1, _, hlt, rfl, hx3, hown2, (startB_len _ _ _ _).trans hbl', hst, rfl⟩
 · have hi0 : decide ((i : Int) < (l.length : Int)) = false := decide_eq_false (by omega)
   simp -dsimp only [go_sem, e22, e23, hi0]
   refine hq0 _ _ hx ?_
   rw [← hst, List.drop_eq_nil_of_le (by omega), startL]
   exact hown
theorem bool_store {bs : List Bool} {k : Nat} (hk : k < bs.length) : splice (bs.map Value.bool) k [.bool true] = some ((bs.set k true).map .bool) := by
 induction bs generalizing k with
 | nil => exact absurd hk (Nat.not_lt_zero _)
 | cons x bs ih =>
   cases k with
   | zero => cases bs <;> rfl
   | succ k => simp only [List.map_cons, splice, ih (Nat.lt_of_succ_lt_succ hk), List.set_cons_succ]
set_option maxHeartbeats 2000000 in
set_option maxRecDepth 10000 in
theorem start_c {tb : Nat} (ht0 : bk ≠ tb) (ht1 : m ≠ tb) (ht2 : eb ≠ tb) : ∀ (n : Nat) (p : Part), SizeOf.sizeOf p < n → StartC r bk m eb tb G names em p := by
 intro n
 induction n with
 | zero => exact fun p hp => absurd hp (Nat.not_lt_zero _)
 | succ n ihn =>
 rintro ⟨d, t, l⟩ hn h cs bs hrom hb hB hp hnm hown hbl
 have ih : ∀ (i : Nat) (p : Part), l[i]? = some p → StartC r bk m eb tb G names em p := fun i p hp => ihn p (by
  have := List.sizeOf_lt_of_mem (List.mem_of_getElem? hp)
  simp only [Part.mk.sizeOf_spec] at hn
  omega)
 have hnk : ∀ (i : Nat) (p : Part), l[i]? = some p → named names p := namedL_get hnm.2.2
 cases hp with
 | mk _ _ _ Av c b o css hc hlb hA hat hk =>
 refine snd_go wf Try.func82 rfl rfl (n := 41) rfl (by kernel_rfl) rfl ?_
 intro a hn hg
 have hr : Try.f82.results.toList = [] := rfl
 have g0 := hg 0
 have g1 := hg 1
 have g2 := hg 2
 clear hg
 simp only [List.getElem?_cons_zero, List.getElem?_cons_succ] at g0 g1 g2
 have hP := own_new hb 52 [.string d, .string t, .slice Av l.length c]
 have hx0 := Ext.new h (CObj.cells { c := [.string d, .string t, .slice Av l.length c], e := 52, fam := 0, base := 0, grown := false })
 have hb1 := Nat.le_succ_of_le (m := h.next) hb
 have hpt : h.next ≠ tb := Nat.ne_of_gt hown.2.1
 by_cases c1 : d.data.toList = [114, 117, 108, 101]
 · have k1 : decide (d.data.toList = [114, 117, 108, 101]) = true := decide_eq_true c1
   have hidx : idxOf names t < names.length := hnm.1 c1
   have hB1 := hB.ext hx0
   have hown1 := own_ext hx0 hown
   have hsto := stores_own hown1 (o := idxOf names t) (vs := [.bool true]) rfl (bool_store (by rw [hbl]; exact hidx)) (by simp)
   simp -dsimp only [go_sem, g0, g1, load_own hP, k1]
   refine Dw_last (n := 41) (by simp -dsimp only [go_sem, hn]) (by kernel_rfl) ?_
   simp -dsimp only [go_sem, g0, g1, g2, load_own hP, load_own hB1.own, hB1.lookup hidx, ia105 hidx, hsto]
   have hx1 : ExtS (Only tb) h _ := (hx0.toS (S := Only tb)).put (b := tb) (.inr rfl) (.cells ⟨(bs.set (idxOf names t) true).map .bool, 4, 0, 0, false⟩)
   have e : startB (emf names em) (idxOf names) ⟨d, t, l⟩ bs = startL (emf names em) (idxOf names) (decide (d.data.toList = [115, 101, 113])) l (bs.set (idxOf names t) true) := by unfold startB; rw [if_pos c1]
   have hP2 := own_put hP hpt (.cells ⟨(bs.set (idxOf names t) true).map .bool, 4, 0, 0, false⟩)
   simp -dsimp only [go_sem, load_own hP2]
   refine start_loop ht0 ht1 ht2 (l := l) (c := c) (d := d) (t := t) (pb := h.next) ih hnk hlb hA hat hk (by simp -dsimp only [go_sem, hn]) (ext_rom hx1 hrom) (ext_bn hx1 hb) (hB.extS hx1 ht0 ht1 ht2) (bs := bs.set (idxOf names t) true) (own_put_same hown1 _) (by simp [hbl]) hpt hP2 (by simp -dsimp only [go_sem, g0]) (by simp -dsimp only [go_sem, g2]) (by simp -dsimp only [go_sem]) (by simp -dsimp only [go_sem]) (by simp -dsimp only [go_sem]) (by simp -dsimp only [go_sem]) (fun a1 h3 hx3 ho => ?_) (fun a1 h3 hx3 ho => ?_)
   · simp -dsimp only [go_sem, hr, e]
     exact ⟨hx1.trans hx3, ho⟩
   · simp -dsimp only [go_sem, hr, e]
     exact ⟨hx1.trans hx3, ho⟩
 · have k1 : decide (d.data.toList = [114, 117, 108, 101]) = false := decide_eq_false c1
   have e : startB (emf names em) (idxOf names) ⟨d, t, l⟩ bs = startL (emf names em) (idxOf names) (decide (d.data.toList = [115, 101, 113])) l bs := by unfold startB; rw [if_neg c1]
   have hx1 : ExtS (Only tb) h _ := hx0.toS (S := Only tb)
   simp -dsimp only [go_sem, g0, g1, load_own hP, k1]
   refine start_loop ht0 ht1 ht2 (l := l) (c := c) (d := d) (t := t) (pb := h.next) ih hnk hlb hA hat hk (by simp -dsimp only [go_sem, hn]) (ext_rom hx1 hrom) (ext_bn hx1 hb) (hB.extS hx1 ht0 ht1 ht2) (bs := bs) (own_ext hx0 hown) hbl hpt hP (by simp -dsimp only [go_sem, g0]) (by simp -dsimp only [go_sem, g2]) (by simp -dsimp only [go_sem]) (by simp -dsimp only [go_sem]) (by simp -dsimp only [go_sem]) (by simp -dsimp only [go_sem]) (fun a1 h3 hx3 ho => ?_) (fun a1 h3 hx3 ho => ?_)
   · simp -dsimp only [go_sem, hr, e]
     exact ⟨hx1.trans hx3, ho⟩
   · simp -dsimp only [go_sem, hr, e]
     exact ⟨hx1.trans hx3, ho⟩
end Go.Ev.G24
end
section
set_option linter.unusedSimpArgs false
set_option linter.unusedVariables false
namespace Go.Ev.G24
open Go.RowKit Go.Proofs
variable {r : Ro} {bk m eb : Nat} {G : Value} {names : List ByteArray} {em : List Bool}
structure Rule where
 name : ByteArray
 body : Part
structure RoRules (r : Ro) (l : List Rule) (Av : Option Addr) (c b o : Nat) (css : Nat → List Value) : Prop where
 hc : l.length ≤ c
 hb : l.length ≤ 1000
 hA : l ≠ [] → Av = some ⟨b, o, none⟩
 hat : ∀ (i : Nat) (x : Rule), l[i]? = some x → roAt r b (o + i * 4) (.string x.name :: css i)
 hk : ∀ (i : Nat) (x : Rule), l[i]? = some x → RoPart r x.body (css i)
 hs : spotless Av = true
def nms (l : List Rule) : List ByteArray := l.map (·.name)
def MapAt (h : Hp) (m : Nat) (names : List ByteArray) : Prop := m < h.next ∧ h.objs.get m = some (.map (entries names 0) names.length)
theorem MapAt.ext {h h1 : Hp} (x : Ext h h1) (k : MapAt h m names) : MapAt h1 m names := ⟨Nat.lt_of_lt_of_le k.1 x.next, by rw [x.objs m k.1]; exact k.2⟩
theorem z3 : zero' Try.prog 3 = some (.int .i64 0) := by kernel_rfl
theorem MapAt.hit {h : Hp} (k : MapAt h m names) {s : ByteArray} (hs : idxOf names s < names.length) (ok : Bool) :
  lookup' Try.prog h 113 (.map (some m)) (.string s) ok = some (if ok then .tuple #[.int .i64 (idxOf names s : Int), .bool true] else .int .i64 (idxOf names s : Int)) := by
 have hm : h.map? m = some (entries names 0, names.length) := by simp only [Hp.map?, k.2]
 have hk : keyOk Try.prog 40 9 (.string s) = true := by simp only [keyOk, Try.underlying9]
 have hf := find_entries h s names 0 0
 unfold idxOf at hs
 rw [if_pos hs] at hf
 simp only [lookup', Try.underlying113, entriesOf, hm, hk, hf, Nat.zero_add]
 rfl
theorem MapAt.miss {h : Hp} (k : MapAt h m names) {s : ByteArray} (hs : ¬ idxOf names s < names.length) (ok : Bool) :
  lookup' Try.prog h 113 (.map (some m)) (.string s) ok = some (if ok then .tuple #[.int .i64 0, .bool false] else .int .i64 0) := by
 have hm : h.map? m = some (entries names 0, names.length) := by simp only [Hp.map?, k.2]
 have hk : keyOk Try.prog 40 9 (.string s) = true := by simp only [keyOk, Try.underlying9]
 have hf := find_entries h s names 0 0
 unfold idxOf at hs
 rw [if_neg hs] at hf
 simp only [lookup', Try.underlying113, entriesOf, hm, hk, hf, z3]
theorem entries_snoc (s : ByteArray) : ∀ (l : List ByteArray) (i : Nat), entries (l ++ [s]) i = entries l i ++ [⟨.string s, .int .i64 ((i + l.length : Nat) : Int), i + l.length⟩]
 | [], i => by simp [entries]
 | n :: l, i => by
   simp only [List.cons_append, entries, entries_snoc s l (i + 1), List.length_cons]
   rw [show i + 1 + l.length = i + (l.length + 1) by omega]
theorem MapAt.add {h : Hp} (k : MapAt h m names) {s : ByteArray} (hs : ¬ idxOf names s < names.length) :
  mapUpdate' Try.prog h 113 (.map (some m)) (.string s) (.int .i64 (names.length : Int)) = some (h.put m (.map (entries (names ++ [s]) 0) (names.length + 1))) := by
 have hm : h.map? m = some (entries names 0, names.length) := by simp only [Hp.map?, k.2]
 have hk : keyOk Try.prog 40 9 (.string s) = true := by simp only [keyOk, Try.underlying9]
 have hf := find_entries h s names 0 0
 unfold idxOf at hs
 rw [if_neg hs] at hf
 simp only [mapUpdate', Try.underlying113, hm, hk, hf, entries_snoc, Nat.zero_add]
def fresh (seen : List ByteArray) : List ByteArray → Bool
 | [] => true
 | n :: l => !decide (idxOf seen n < seen.length) && fresh (seen ++ [n]) l
set_option maxHeartbeats 2000000 in
set_option maxRecDepth 10000 in
theorem rules_c {l : List Rule} {Av : Option Addr} {c b o : Nat} {css : Nat → List Value} (R : RoRules r l Av c b o css) (h : Hp) (hrom : h.rom = r) (hb : h.base ≤ h.next) :
  ∃ v h1, Snd Try.prog 65 [.agg #[.slice Av l.length c]] h v h1 ∧ Ext h h1 ∧ (if fresh [] (nms l) = true then ∃ m, v = .tuple #[.map (some m), .bool true] ∧ h.next ≤ m ∧ MapAt h1 m (nms l) else v = .tuple #[.map none, .bool false]) := by
 refine snd_go wf Try.func65 rfl rfl (n := 32) rfl (by kernel_rfl) rfl ?_
 intro a hn hg
 have hr : Try.f65.results.toList = [.tmp 2, .tmp 3] := rfl
 have g0 := hg 0
 clear hg
 simp only [List.getElem?_cons_zero, List.getElem?_cons_succ] at g0
 have hP := own_new hb 24 [.slice Av l.length c]
 have hx0 := Ext.new h (CObj.cells { c := [.slice Av l.length c], e := 24, fam := 0, base := 0, grown := false })
 have hx1 := hx0.trans (Ext.new _ (.map [] 0))
 have hP1 := own_newH hP (.map [] 0)
 simp -dsimp only [go_sem, g0, load_own hP1]
 refine loop_go (n := 32) (by kernel_rfl) (fun m' a' h' => ∃ i : Nat, i ≤ l.length ∧ m' = l.length - i ∧ Ext h h' ∧ MapAt h' (h.next + 1) ((nms l).take i) ∧ fresh ((nms l).take i) ((nms l).drop i) = fresh [] (nms l) ∧
  a'.get 4 = .map (some (h.next + 1)) ∧ a'.get 11 = .slice Av l.length c ∧ a'.get 12 = .int .i64 l.length ∧ a'.get 13 = .int .i64 i) ?_ l.length _ _ ?_ ?_
 · rintro m' a' h' hn' ⟨i, hi, rfl, hx, hM, hf, e4, e11, e12, e13⟩
   have hrom' : h'.rom = r := hx.rom.trans hrom
   have hb' : h'.base ≤ h'.next := by rw [hx.base]; exact Nat.le_trans hb hx.next
   by_cases hlt : i < l.length
   · have hpi : l[i]? = some l[i] := List.getElem?_eq_getElem hlt
     have hi1 : decide ((i : Int) < (l.length : Int)) = true := decide_eq_true (Int.ofNat_lt.2 hlt)
     obtain ⟨Av1, c1', hcs⟩ := (R.hk i _ hpi).shape
     have hat' := R.hat i _ hpi
     rw [hcs] at hat'
     have hAv := R.hA (ne_nil hlt)
     subst hAv
     obtain ⟨vS, vO, vX, vB, vR⟩ := var_ok hb' (e := 54) (c0 := [.string ⟨#[]⟩, .string ⟨#[]⟩, .string ⟨#[]⟩, .slice none 0 0]) (c1 := [.string l[i].name, .string l[i].body.d, .string l[i].body.t, .slice Av1 l[i].body.l.length c1']) rfl rfl (by simp)
     have hM2 := hM.ext vX
     have hnl : (nms l).length = l.length := by simp [nms]
     have hdr : (nms l).drop i = l[i].name :: (nms l).drop (i + 1) := by
      rw [List.drop_eq_getElem_cons (by omega)]; simp [nms]
     have htk : (nms l).take (i + 1) = (nms l).take i ++ [l[i].name] := by
      rw [List.take_succ_eq_append_getElem (by omega)]; simp [nms]
     have htl : ((nms l).take i).length = i := by simp; omega
     rw [hdr, fresh] at hf
     by_cases hmem : idxOf ((nms l).take i) l[i].name < ((nms l).take i).length
     · simp -dsimp only [go_sem, e4, e11, e12, e13, hi1, ia22 hlt, loads_ro (n := 4) hrom' hat' rfl, vS, load_own vO, hM2.hit hmem, hr]
       rw [decide_eq_true hmem] at hf
       refine ⟨hx.trans vX, ?_⟩
       rw [if_neg (by rw [← hf]; simp)]
       trivial
     · have hAdd := hM2.add hmem
       rw [htl] at hAdd
       simp -dsimp only [go_sem, e4, e11, e12, e13, hi1, ia22 hlt, loads_ro (n := 4) hrom' hat' rfl, vS, load_own vO, hM2.miss hmem, hr, hAdd, wrap64_succ hlt (Nat.le_trans R.hb (by decide))]
       rw [decide_eq_false hmem] at hf
       refine ⟨l.length - (i + 1), by omega, i + 1, hlt, rfl, (hx.trans vX).put (Nat.le_succ _) _, ?_, ?_, ?_⟩
       · rw [htk]
         refine ⟨hM2.1, ?_⟩
         rw [get_putH, if_pos rfl, List.length_append, htl]
         rfl
       · rw [htk]; exact hf
       · rfl
   · have hi0 : decide ((i : Int) < (l.length : Int)) = false := decide_eq_false (by omega)
     have hil : i = l.length := by omega
     subst hil
     have htk : (nms l).take l.length = nms l := by rw [List.take_of_length_le]; simp [nms]
     have hdr : (nms l).drop l.length = [] := by rw [List.drop_eq_nil_of_le]; simp [nms]
     rw [htk, hdr, fresh] at hf
     rw [htk] at hM
     simp -dsimp only [go_sem, e4, e12, e13, hi0, hr]
     refine ⟨hx, ?_⟩
     rw [if_pos hf.symm]
     exact ⟨_, rfl, Nat.le_succ _, hM⟩
 · simp -dsimp only [go_sem, hn]
 · refine ⟨0, Nat.zero_le _, rfl, hx1, ?_, rfl, ?_⟩
   · refine ⟨Nat.lt_succ_self _, ?_⟩
     rw [List.take_zero]
     exact (get_newH _ _ _).trans (if_pos rfl)
   · simp -dsimp only [go_sem, g0]
     exact ⟨rfl, rfl⟩
end Go.Ev.G24
end
section
set_option linter.unusedSimpArgs false
set_option linter.unusedVariables false
namespace Go.Ev.G24
open Go.RowKit Go.Proofs
theorem eql_bool (h : Hp) (x y : Operand) (a b : Bool) : binOp' Try.prog h .eql 4 x y (.bool a) (.bool b) = some (.bool (a == b)) := by
 simp only [binOp', nilsApart, eqv, Try.underlying4]
def idxB (v : Bool) : List Bool → Nat → Int
 | [], _ => -1
 | x :: l, i => if (v == x) = true then (i : Int) else idxB v l (i + 1)
set_option maxHeartbeats 2000000 in
set_option maxRecDepth 10000 in
theorem index_c (h : Hp) (hb : h.base ≤ h.next) {tb : Nat} {bs : List Bool} (hown : h.own tb 4 (bs.map .bool)) (hlb : bs.length ≤ 1000) (v0 : Bool) :
  ∃ v h1, Snd Try.prog 101 [.slice (some ⟨tb, 0, none⟩) bs.length bs.length, .bool v0] h v h1 ∧ v = .int .i64 (idxB v0 bs 0) ∧ Ext h h1 := by
 refine snd_go wf Try.func101 rfl rfl (n := 19) rfl (by kernel_rfl) rfl ?_
 intro a hn hg
 have hr : Try.f101.results.toList = [.tmp 4] := rfl
 have g0 := hg 0
 have g1 := hg 1
 clear hg
 simp only [List.getElem?_cons_zero, List.getElem?_cons_succ] at g0 g1
 simp -dsimp only [go_sem, g0]
 refine loop_go (n := 19) (by kernel_rfl) (fun m' a' h' => ∃ i : Nat, i ≤ bs.length ∧ m' = bs.length - i ∧ h' = h ∧ idxB v0 (bs.drop i) i = idxB v0 bs 0 ∧
  a'.get 0 = .slice (some ⟨tb, 0, none⟩) bs.length bs.length ∧ a'.get 1 = .bool v0 ∧ a'.get 7 = .int .i64 bs.length ∧ a'.get 8 = .int .i64 i) ?_ bs.length _ _ ?_ ?_
 · rintro m' a' h' hn' ⟨i, hi, rfl, rfl, hf, e0, e1, e7, e8⟩
   by_cases hlt : i < bs.length
   · have hi1 : decide ((i : Int) < (bs.length : Int)) = true := decide_eq_true (Int.ofNat_lt.2 hlt)
     have hget : (bs.map Value.bool)[i]? = some (.bool bs[i]) := by simp [List.getElem?_eq_getElem hlt]
     simp -dsimp only [go_sem, e0, e1, e7, e8, hi1, ia105 hlt, load_own hown, hget, eql_bool]
     rw [List.drop_eq_getElem_cons hlt, idxB] at hf
     refine Wcond_in (fun hm => ?_) (fun hm => ?_)
     · simp -dsimp only [go_sem, hr]
       rw [if_pos hm] at hf
       exact ⟨by rw [← hf], Ext.refl _⟩
     · simp -dsimp only [go_sem, e7, e8, wrap64_succ hlt (Nat.le_trans hlb (by decide))]
       rw [if_neg (by rw [hm]; simp)] at hf
       exact ⟨bs.length - (i + 1), by omega, i + 1, hlt, rfl, hf, e0, e1, rfl⟩
   · have hi0 : decide ((i : Int) < (bs.length : Int)) = false := decide_eq_false (by omega)
     rw [List.drop_eq_nil_of_le (by omega), idxB] at hf
     simp -dsimp only [go_sem, e7, e8, hi0, hr]
     exact ⟨by rw [← hf], Ext.refl _⟩
 · simp -dsimp only [go_sem, hn]
 · refine ⟨0, Nat.zero_le _, rfl, rfl, rfl, ?_⟩
   simp -dsimp only [go_sem, g0, g1]
   rfl
theorem idxB_any (v : Bool) : ∀ (l : List Bool) (i : Nat), decide (0 ≤ idxB v l i) = l.any (v == ·)
 | [], i => by simp [idxB]
 | x :: l, i => by
   rw [idxB, List.any_cons]
   by_cases c : (v == x) = true
   · rw [if_pos c, c, Bool.true_or]; simp
   · rw [if_neg c, idxB_any v l (i + 1)]
     simp at c
     simp [c]
theorem contains_c (h : Hp) (hb : h.base ≤ h.next) {tb : Nat} {bs : List Bool} (hown : h.own tb 4 (bs.map .bool)) (hlb : bs.length ≤ 1000) (v0 : Bool) :
  ∃ v h1, Snd Try.prog 85 [.slice (some ⟨tb, 0, none⟩) bs.length bs.length, .bool v0] h v h1 ∧ v = .bool (bs.any (v0 == ·)) ∧ Ext h h1 := by
 refine snd_go wf Try.func85 rfl rfl (n := 9) rfl (by kernel_rfl) rfl ?_
 intro a hn hg
 have hr : Try.f85.results.toList = [.tmp 4] := rfl
 have g0 := hg 0
 have g1 := hg 1
 clear hg
 simp only [List.getElem?_cons_zero, List.getElem?_cons_succ] at g0 g1
 simp -dsimp only [go_sem, g0, g1]
 obtain ⟨_, h1, hs, rfl, hx⟩ := index_c h hb hown hlb v0
 refine ⟨_, h1, hs, ?_⟩
 simp -dsimp only [go_sem, hr, idxB_any]
 exact hx
end Go.Ev.G24
end
section
set_option linter.unusedSimpArgs false
set_option linter.unusedVariables false
namespace Go.Ev.G24
open Go.RowKit Go.Proofs
variable {r : Ro} {bk m eb : Nat} {G : Value} {names : List ByteArray} {em : List Bool}
def passB (names : List ByteArray) : List Part → Nat → List Bool → List Bool
 | [], _, em => em
 | p :: l, i, em => passB names l (i + 1) (if (!em.getD i false && mayB (emf names em) p) = true then em.set i true else em)
def cf (em : List Bool) : Nat := em.countP (· = false)
theorem cf_set : ∀ {em : List Bool} {i : Nat}, em[i]? = some false → cf (em.set i true) < cf em
 | x :: em, 0, h => by simp at h; subst h; simp [cf]
 | x :: em, i + 1, h => by
   have := cf_set (em := em) (i := i) (by simpa using h)
   simp only [cf, List.set_cons_succ, List.countP_cons] at this ⊢
   omega
theorem Book.set {h : Hp} (k : Book h bk m eb G names em) (i : Nat) : Book (h.put eb (.cells ⟨(em.set i true).map .bool, 4, 0, 0, false⟩)) bk m eb G names (em.set i true) := by
 have h1 : bk ≠ eb := by
  intro e; have := k.own.2.2; rw [e, k.row.2.2] at this; simp at this
 have h2 : m ≠ eb := by
  intro e; have := k.map.2; rw [e, k.row.2.2] at this; simp at this
 refine ⟨own_put k.own h1 _, own_put_same k.row _, by simp [k.len], k.map.1, ?_⟩
 rw [get_putH, if_neg h2]
 exact k.map.2
set_option maxHeartbeats 2000000 in
set_option maxRecDepth 10000 in
theorem open_pass {l : List Rule} {Av : Option Addr} {c b o : Nat} {css : Nat → List Value} (R : RoRules r l Av c b o css) (hnm : ∀ (i : Nat) (x : Rule), l[i]? = some x → named (nms l) x.body) {n0 : Nat} (he0 : n0 ≤ eb)
  {a : Ev.A} {h : Hp} {Q : Ex → Ev.A → Hp → Prop} (hn : a.n = 53) (hrom : h.rom = r) (hb : h.base ≤ h.next) (hB : Book h bk m eb G (nms l) em)
  (g3 : a.get 3 = .pointer (some ⟨bk, 0, none⟩)) (g4 : a.get 4 = .bool false) (g24 : a.get 24 = .slice Av l.length c) (g25 : a.get 25 = .int .i64 l.length) (g26 : a.get 26 = .int .i64 0)
  (hq : ∀ a1 h1 em1 ag, a1.n = 53 → ExtS (Only eb) h h1 → Book h1 bk m eb G (nms l) em1 → passB (nms l) (l.map (·.body)) 0 em = em1 → a1.get 3 = .pointer (some ⟨bk, 0, none⟩) → a1.get 1 = a.get 1 → a1.get 4 = .bool ag → (if ag = true then cf em1 < cf em else em1 = em) → Q (.exit 2) a1 h1) :
  Th Try.prog (bodyAt Try.f55 [1, 1, 1, 0, 1, 0, 0, 1, 0, 1, 1, 0]) a h Q ⟨⟩ ⟨⟩ := by
 simp only [bodyAt, nav, Try.f55]
 have hnl : (nms l).length = l.length := by simp [nms]
 refine loop_go (n := 53) (by kernel_rfl) (fun m' a' h' => ∃ (i : Nat) (em' : List Bool) (ag : Bool), i ≤ l.length ∧ m' = l.length - i ∧ ExtS (Only eb) h h' ∧ Book h' bk m eb G (nms l) em' ∧ passB (nms l) ((l.drop i).map (·.body)) i em' = passB (nms l) (l.map (·.body)) 0 em ∧ (if ag = true then cf em' < cf em else em' = em) ∧
  a'.get 1 = a.get 1 ∧ a'.get 3 = .pointer (some ⟨bk, 0, none⟩) ∧ a'.get 4 = .bool ag ∧ a'.get 24 = .slice Av l.length c ∧ a'.get 25 = .int .i64 l.length ∧ a'.get 26 = .int .i64 i) ?_ l.length _ _ hn ⟨0, em, false, Nat.zero_le _, rfl, (Ext.refl _).toS, hB, by rw [List.drop_zero], rfl, rfl, g3, g4, g24, g25, g26⟩
 rintro m' a' h' hn' ⟨i, em', ag, hi, rfl, hx, hB', hps, hag, e1, e3, e4, e24, e25, e26⟩
 have hrom' : h'.rom = r := ext_rom hx hrom
 have hb' : h'.base ≤ h'.next := ext_bn hx hb
 by_cases hlt : i < l.length
 · have hpi : l[i]? = some l[i] := List.getElem?_eq_getElem hlt
   have hi1 : decide ((i : Int) < (l.length : Int)) = true := decide_eq_true (Int.ofNat_lt.2 hlt)
   obtain ⟨Av1, c1', hcs⟩ := (R.hk i _ hpi).shape
   have hat' := R.hat i _ hpi
   have hkid := R.hk i _ hpi
   rw [hcs] at hat' hkid
   have hAv := R.hA (ne_nil hlt)
   subst hAv
   obtain ⟨vS, vO, vX, vB, vR⟩ := var_ok hb' (e := 54) (c0 := [.string ⟨#[]⟩, .string ⟨#[]⟩, .string ⟨#[]⟩, .slice none 0 0]) (c1 := [.string l[i].name, .string l[i].body.d, .string l[i].body.t, .slice Av1 l[i].body.l.length c1']) rfl rfl (by simp)
   have hB2 := hB'.ext vX
   have hil : i < em'.length := by rw [hB'.len, hnl]; exact hlt
   have hin : i < (nms l).length := by rw [hnl]; exact hlt
   have hdr : (l.drop i).map (·.body) = l[i].body :: (l.drop (i + 1)).map (·.body) := by
    rw [List.drop_eq_getElem_cons hlt, List.map_cons]
   rw [hdr, passB] at hps
   have hget : em'.getD i false = em'[i] := by simp [List.getD, List.getElem?_eq_getElem hil]
   have hmi : (em'.map Value.bool)[i]? = some (.bool em'[i]) := by simp [List.getElem?_eq_getElem hil]
   rw [hget] at hps
   have hx2 : ExtS (Only eb) h _ := hx.trans vX.toS
   cases hei : em'[i] with
   | true =>
     rw [hei] at hmi hps
     simp -dsimp only [go_sem, e3, e24, e25, e26, hi1, ia22 hlt, loads_ro (n := 4) hrom' hat' rfl, vS, load_own hB2.own, load_own hB2.row, ia105 hin, hmi, wrap64_succ hlt (Nat.le_trans R.hb (by decide))]
     rw [if_neg (by simp)] at hps
     exact ⟨l.length - (i + 1), by omega, i + 1, em', ag, hlt, rfl, hx2, hB2, hps, hag, e1, e4, rfl⟩
   | false =>
     rw [hei] at hmi hps
     simp -dsimp only [go_sem, e3, e24, e25, e26, hi1, ia22 hlt, loads_ro (n := 4) hrom' hat' rfl, vS, load_own hB2.own, load_own hB2.row, ia105 hin, hmi, loads_own vO]
     obtain ⟨_, h4, hs4, rfl, hx4⟩ := may_c _ l[i].body (Nat.lt_succ_self _) _ _ (ext_rom hx2 hrom) (ext_bn hx2 hb) hB2 hkid (hnm i _ hpi)
     refine ⟨_, h4, hs4, ?_⟩
     have hB4 := hB2.ext hx4
     have hx5 : ExtS (Only eb) h h4 := hx2.trans hx4.toS
     simp -dsimp only [go_sem]
     refine Wcond_in (fun hm => ?_) (fun hm => ?_)
     · have hsto := stores_own hB4.row (o := i) (vs := [.bool true]) rfl (bool_store hil) (by simp)
       simp -dsimp only [go_sem, e3, e24, e25, e26, load_own hB4.own, ia105 hin, hsto, wrap64_succ hlt (Nat.le_trans R.hb (by decide))]
       rw [hm] at hps
       rw [if_pos (by simp)] at hps
       refine ⟨l.length - (i + 1), by omega, i + 1, _, true, hlt, rfl, hx5.put (.inr rfl) _, hB4.set i, hps, ?_, e1, rfl, rfl⟩
       rw [if_pos rfl]
       have h1 : cf (em'.set i true) < cf em' := cf_set (by rw [List.getElem?_eq_getElem hil, hei])
       cases ag with
       | true => exact Nat.lt_trans h1 hag
       | false => simp at hag; rw [hag] at h1; rw [hag]; exact h1
     · simp -dsimp only [go_sem, e3, e24, e25, e26, wrap64_succ hlt (Nat.le_trans R.hb (by decide))]
       rw [hm] at hps
       rw [if_neg (by simp)] at hps
       exact ⟨l.length - (i + 1), by omega, i + 1, em', ag, hlt, rfl, hx5, hB4, hps, hag, e1, e4, rfl⟩
 · have hi0 : decide ((i : Int) < (l.length : Int)) = false := decide_eq_false (by omega)
   simp -dsimp only [go_sem, e25, e26, hi0]
   refine hq _ _ em' ag ?_ hx hB' ?_ ?_ ?_ ?_ hag
   · simp -dsimp only [go_sem, hn']
   · rw [← hps, List.drop_eq_nil_of_le (by omega)]; rfl
   · simp -dsimp only [go_sem, e3]
   · simp -dsimp only [go_sem, e1]
   · simp -dsimp only [go_sem, e4]
def iter {α : Type} (f : α → α) : Nat → α → α
 | 0, x => x
 | n + 1, x => f (iter f n x)
def Found (l : List Rule) (em : List Bool) : Prop := (∃ k, em = iter (passB (nms l) (l.map (·.body)) 0) k (List.replicate l.length false)) ∧ passB (nms l) (l.map (·.body)) 0 em = em
theorem repeat_bool : ∀ n : Nat, repeatN [.bool false] n = (List.replicate n false).map Value.bool
 | 0 => rfl
 | n + 1 => by simp only [repeatN, repeat_bool n, List.replicate_succ, List.map_cons, List.cons_append, List.nil_append]
set_option maxHeartbeats 2000000 in
set_option maxRecDepth 10000 in
theorem open_c {l : List Rule} {Av : Option Addr} {c b o : Nat} {css : Nat → List Value} (R : RoRules r l Av c b o css) (hfr : fresh [] (nms l) = true) (hnm : ∀ (i : Nat) (x : Rule), l[i]? = some x → named (nms l) x.body) (h : Hp) (hrom : h.rom = r) (hb : h.base ≤ h.next) :
  ∃ v h1, Snd Try.prog 55 [.agg #[.slice Av l.length c]] h v h1 ∧ Ext h h1 ∧ ∃ bk m eb em, v = .pointer (some ⟨bk, 0, none⟩) ∧ h.next ≤ bk ∧ h.next ≤ m ∧ h.next ≤ eb ∧ Book h1 bk m eb (.slice Av l.length c) (nms l) em ∧ Found l em := by
 refine snd_go wf Try.func55 rfl rfl (n := 53) rfl (by kernel_rfl) rfl ?_
 intro a hn hg
 have hr : Try.f55.results.toList = [.tmp 2] := rfl
 have g0 := hg 0
 clear hg
 simp only [List.getElem?_cons_zero, List.getElem?_cons_succ] at g0
 have hP := own_new hb 24 [.slice Av l.length c]
 have hx0 := Ext.new h (CObj.cells { c := [.slice Av l.length c], e := 24, fam := 0, base := 0, grown := false })
 simp -dsimp only [go_sem, g0]
 refine Dw_text (n := 53) [[], [], [1], [1, 2], [1, 2, 3], [0, 1, 2, 3, 4], [0, 1, 2, 3, 4, 5], [0, 1, 2, 3, 4, 5, 6]] (by simp -dsimp only [go_sem, hn]) (by kernel_rfl) ?_
 have hb1 := Nat.le_succ_of_le (m := h.next) hb
 have hE := own_new (h := h.newH (CObj.cells { c := [.slice Av l.length c], e := 24, fam := 0, base := 0, grown := false })) hb1 4 (repeatN [.bool false] l.length)
 have hP1 := own_newH hP (CObj.cells { c := repeatN [.bool false] l.length, e := 4, fam := 0, base := 0, grown := false })
 have hb2 := Nat.le_succ_of_le hb1
 have hx1 := hx0.trans (Ext.new _ (CObj.cells { c := repeatN [.bool false] l.length, e := 4, fam := 0, base := 0, grown := false }))
 have hK := own_new (h := (h.newH (CObj.cells { c := [.slice Av l.length c], e := 24, fam := 0, base := 0, grown := false })).newH (CObj.cells { c := repeatN [.bool false] l.length, e := 4, fam := 0, base := 0, grown := false })) hb2 115 [.slice Av l.length c, .map none, .slice (some ⟨h.next + 1, 0, none⟩) l.length l.length]
 have hE2 := own_newH hE (CObj.cells { c := [.slice Av l.length c, .map none, .slice (some ⟨h.next + 1, 0, none⟩) l.length l.length], e := 115, fam := 0, base := 0, grown := false })
 have hP2 := own_newH hP1 (CObj.cells { c := [.slice Av l.length c, .map none, .slice (some ⟨h.next + 1, 0, none⟩) l.length l.length], e := 115, fam := 0, base := 0, grown := false })
 have hx2 := hx1.trans (Ext.new _ (CObj.cells { c := [.slice Av l.length c, .map none, .slice (some ⟨h.next + 1, 0, none⟩) l.length l.length], e := 115, fam := 0, base := 0, grown := false }))
 have hb3 := Nat.le_succ_of_le hb2
 simp -dsimp only [go_sem, next_newH, sameN_sliceA R.hs, loads_own hP, load_own hP, loads_own hP1, load_own hP1, ms105 l.length l.length (Nat.le_refl _) R.hb, loads_own hP2]
 simp only [next_newH] at hE2 hK hx2 hb3 hP2
 generalize ((h.newH (CObj.cells { c := [.slice Av l.length c], e := 24, fam := 0, base := 0, grown := false })).newH (CObj.cells { c := repeatN [.bool false] l.length, e := 4, fam := 0, base := 0, grown := false })).newH (CObj.cells { c := [.slice Av l.length c, .map none, .slice (some ⟨h.next + 1, 0, none⟩) l.length l.length], e := 115, fam := 0, base := 0, grown := false }) = h2 at hE2 hK hx2 hb3 hP2 ⊢
 obtain ⟨_, h3, hs3, hx3, hv3⟩ := rules_c R h2 (hx2.rom.trans hrom) (by rw [hx2.base]; exact Nat.le_trans hb hx2.next)
 rw [if_pos hfr] at hv3
 obtain ⟨m, rfl, hm1, hM⟩ := hv3
 refine ⟨_, h3, hs3, ?_⟩
 have hE3 := own_ext hx3 hE2
 have hK3 := own_ext hx3 hK
 have hP3 := own_ext hx3 hP2
 have hsto := stores_own hK3 (o := 1) (vs := [.map (some m)]) (c1 := [.slice Av l.length c, .map (some m), .slice (some ⟨h.next + 1, 0, none⟩) l.length l.length]) rfl rfl (by simp)
 simp -dsimp only [go_sem, hsto]
 have hnl : (nms l).length = l.length := by simp [nms]
 have hbk : h.next + 1 + 1 ≠ h.next + 1 := by omega
 have hE4 := own_put hE3 hbk.symm (.cells ⟨[.slice Av l.length c, .map (some m), .slice (some ⟨h.next + 1, 0, none⟩) l.length l.length], 115, 0, 0, false⟩)
 have hK4 := own_put_same hK3 [.slice Av l.length c, .map (some m), .slice (some ⟨h.next + 1, 0, none⟩) l.length l.length]
 have hP4 := own_put hP3 (d := h.next + 1 + 1) (by omega) (.cells ⟨[.slice Av l.length c, .map (some m), .slice (some ⟨h.next + 1, 0, none⟩) l.length l.length], 115, 0, 0, false⟩)
 have hx4 := (hx2.trans hx3).put (b := h.next + 1 + 1) (by omega) (.cells ⟨[.slice Av l.length c, .map (some m), .slice (some ⟨h.next + 1, 0, none⟩) l.length l.length], 115, 0, 0, false⟩)
 have hmk : m ≠ h.next + 1 + 1 := by have := hK.2.1; omega
 have hB : Book (h3.put (h.next + 1 + 1) (.cells ⟨[.slice Av l.length c, .map (some m), .slice (some ⟨h.next + 1, 0, none⟩) l.length l.length], 115, 0, 0, false⟩)) (h.next + 1 + 1) m (h.next + 1) (.slice Av l.length c) (nms l) (List.replicate l.length false) := by
  refine ⟨by rw [hnl]; exact hK4, by rw [← repeat_bool]; exact hE4, by simp [hnl], hM.1, ?_⟩
  rw [get_putH, if_neg hmk]
  exact hM.2
 generalize h3.put (h.next + 1 + 1) (.cells ⟨[.slice Av l.length c, .map (some m), .slice (some ⟨h.next + 1, 0, none⟩) l.length l.length], 115, 0, 0, false⟩) = h4 at hP4 hx4 hB ⊢
 refine loop_go (n := 53) (by kernel_rfl) (fun m' a' h' => ∃ (em : List Bool) (ag : Bool), m' = 2 * cf em + (if ag = true then 1 else 0) ∧ (∃ k, em = iter (passB (nms l) (l.map (·.body)) 0) k (List.replicate l.length false)) ∧ (ag = false → passB (nms l) (l.map (·.body)) 0 em = em) ∧ Ext h h' ∧ Book h' (h.next + 1 + 1) m (h.next + 1) (.slice Av l.length c) (nms l) em ∧ h'.own h.next 24 [.slice Av l.length c] ∧
  a'.get 1 = .pointer (some ⟨h.next, 0, none⟩) ∧ a'.get 3 = .pointer (some ⟨h.next + 1 + 1, 0, none⟩) ∧ a'.get 4 = .bool ag) ?_ (2 * cf (List.replicate l.length false) + 1) _ _ (by simp -dsimp only [go_sem, hn]) ⟨_, true, rfl, ⟨0, rfl⟩, fun e => (by cases e), hx4, hB, hP4, by simp -dsimp only [go_sem], by simp -dsimp only [go_sem], by simp -dsimp only [go_sem]⟩
 rintro m' a' h' hn' ⟨em, ag, rfl, ⟨k, hk⟩, hfix, hx, hB', hP', e1, e3, e4⟩
 have hrom' : h'.rom = r := hx.rom.trans hrom
 have hb' : h'.base ≤ h'.next := by rw [hx.base]; exact Nat.le_trans hb hx.next
 cases ag with
 | false =>
   simp -dsimp only [go_sem, e3, e4, hr]
   exact ⟨hx, h.next + 1 + 1, m, h.next + 1, em, rfl, by omega, by have := hx2.next; omega, by omega, hB', ⟨k, hk⟩, hfix rfl⟩
 | true =>
   simp -dsimp only [go_sem, e1, e3, e4, load_own hP']
   refine open_pass R hnm (n0 := h.next) (em := em) (eb := h.next + 1) (m := m) (bk := h.next + 1 + 1) (c := c) (by omega) (by simp -dsimp only [go_sem, hn']) hrom' hb' hB' (by simp -dsimp only [go_sem, e3]) (by simp -dsimp only [go_sem]) (by simp -dsimp only [go_sem]) (by simp -dsimp only [go_sem]) (by simp -dsimp only [go_sem]) (fun a1 h1 em1 ag hn1 hx1 hB1 hp f3 f1 f4 hag => ?_)
   simp -dsimp only [go_sem, e1] at f1
   have hxx : Ext h h1 := (hx.toS.trans hx1).ext (fun b hb hs => by
    have : b = h.next + 1 := hs
    omega)
   simp -dsimp only [go_sem]
   refine ⟨2 * cf em1 + (if ag = true then 1 else 0), ?_, em1, ag, rfl, ⟨k + 1, by rw [iter, ← hk]; exact hp.symm⟩, ?_, hxx, hB1, own_extS hx1 hP' (by show h.next ≠ h.next + 1; omega), f1, f3, f4⟩
   · cases ag with
     | true => simp at hag ⊢; omega
     | false => simp at hag ⊢; rw [hag]; omega
   · intro e
     subst e
     simp at hag
     rw [hag] at hp ⊢
     exact hp
end Go.Ev.G24
end
section
set_option linter.unusedSimpArgs false
set_option linter.unusedVariables false
namespace Go.Ev.G24
open Go.RowKit Go.Proofs
variable {r : Ro} {bk m eb : Nat} {G : Value} {names : List ByteArray} {em : List Bool}
def getM (M : List (List Bool)) (i j : Nat) : Bool := (M.getD i []).getD j false
def setM (M : List (List Bool)) (i j : Nat) (v : Bool) : List (List Bool) := M.set i ((M.getD i []).set j v)
def cellW (k i j : Nat) (M : List (List Bool)) : List (List Bool) := setM M i j (getM M i j || (getM M i k && getM M k j))
def upto {α : Type} (f : Nat → α → α) : Nat → α → α
 | 0, x => x
 | n + 1, x => f n (upto f n x)
structure Mat (h : Hp) (n0 tb n : Nat) (bs : List Nat) (M : List (List Bool)) : Prop where
 row : h.own tb 105 (bs.map fun b => .slice (some ⟨b, 0, none⟩) n n)
 lb : bs.length = n
 lM : M.length = n
 rows : ∀ (i b : Nat) (L : List Bool), bs[i]? = some b → M[i]? = some L → h.own b 4 (L.map .bool) ∧ L.length = n
 dis : ∀ i j b : Nat, bs[i]? = some b → bs[j]? = some b → i = j
 lo : n0 ≤ tb ∧ ∀ i b : Nat, bs[i]? = some b → n0 ≤ b
variable {h : Hp} {n0 tb n : Nat} {bs : List Nat} {M : List (List Bool)}
theorem Mat.at (k : Mat h n0 tb n bs M) {i : Nat} (hi : i < n) : ∃ b L, bs[i]? = some b ∧ M[i]? = some L ∧ h.own b 4 (L.map .bool) ∧ L.length = n ∧ h.load ⟨tb, i, none⟩ = some (.slice (some ⟨b, 0, none⟩) n n) ∧ ∀ j, j < n → h.load ⟨b, j, none⟩ = some (.bool (getM M i j)) := by
 have hib : i < bs.length := by rw [k.lb]; exact hi
 have hiM : i < M.length := by rw [k.lM]; exact hi
 have h1 : bs[i]? = some bs[i] := List.getElem?_eq_getElem hib
 have h2 : M[i]? = some M[i] := List.getElem?_eq_getElem hiM
 obtain ⟨q1, q2⟩ := k.rows i _ _ h1 h2
 refine ⟨_, _, h1, h2, q1, q2, ?_, ?_⟩
 · rw [load_own k.row, List.getElem?_map, h1]; rfl
 · intro j hj
   rw [load_own q1, List.getElem?_map, List.getElem?_eq_getElem (by rw [q2]; exact hj)]
   simp only [getM, List.getD, h2, Option.getD_some, Option.map_some]
   rw [List.getElem?_eq_getElem (by rw [q2]; exact hj)]
   rfl
theorem bool_put {bs : List Bool} {k : Nat} (v : Bool) (hk : k < bs.length) : splice (bs.map Value.bool) k [.bool v] = some ((bs.set k v).map .bool) := by
 induction bs generalizing k with
 | nil => exact absurd hk (Nat.not_lt_zero _)
 | cons x bs ih =>
   cases k with
   | zero => cases bs <;> rfl
   | succ k => simp only [List.map_cons, splice, ih (Nat.lt_of_succ_lt_succ hk), List.set_cons_succ]
theorem Mat.put (k : Mat h n0 tb n bs M) {i j b : Nat} {L : List Bool} (h1 : bs[i]? = some b) (h2 : M[i]? = some L) (hj : j < n) (v : Bool) :
  h.stores ⟨b, j, none⟩ [.bool v] = some (h.put b (.cells ⟨(L.set j v).map .bool, 4, 0, 0, false⟩)) ∧ Mat (h.put b (.cells ⟨(L.set j v).map .bool, 4, 0, 0, false⟩)) n0 tb n bs (setM M i j v) := by
 obtain ⟨q1, q2⟩ := k.rows i _ _ h1 h2
 have ht : tb ≠ b := by
  intro e; have := k.row.2.2; rw [e, q1.2.2] at this; simp at this
 have hi : i < M.length := by
  rcases Nat.lt_or_ge i M.length with h | h
  · exact h
  · rw [List.getElem?_eq_none h] at h2; cases h2
 have hg : M.getD i [] = L := by simp [List.getD, h2]
 refine ⟨stores_own q1 rfl (bool_put v (by rw [q2]; exact hj)) (by simp), own_put k.row ht _, k.lb, by simp [setM, k.lM], ?_, k.dis, k.lo⟩
 intro i' b' L' hb' hL'
 simp only [setM, hg, List.getElem?_set] at hL'
 by_cases e : i = i'
 · subst e
   rw [h1] at hb'
   injection hb' with hb'
   subst hb'
   rw [if_pos rfl, if_pos hi] at hL'
   injection hL' with hL'
   subst hL'
   exact ⟨own_put_same q1 _, by simp [q2]⟩
 · rw [if_neg e] at hL'
   obtain ⟨p1, p2⟩ := k.rows i' _ _ hb' hL'
   refine ⟨own_put p1 ?_ _, p2⟩
   intro e2
   subst e2
   exact e (k.dis _ _ _ h1 hb')
theorem Mat.ext {h1 : Hp} (x : Ext h h1) (k : Mat h n0 tb n bs M) : Mat h1 n0 tb n bs M := ⟨own_ext x k.row, k.lb, k.lM, fun i b L h1 h2 => ⟨own_ext x (k.rows i b L h1 h2).1, (k.rows i b L h1 h2).2⟩, k.dis, k.lo⟩
set_option maxHeartbeats 2000000 in
set_option maxRecDepth 10000 in
theorem rec_j {k i : Nat} (hk : k < n) (hi : i < n) (hn1 : n ≤ 1000) {hA : Hp} (hAn : hA.next = n0) {a : Ev.A} {Q : Ex → Ev.A → Hp → Prop} (hn : a.n = 123) (hX : Ext hA h) (hM : Mat h n0 tb n bs M) {x0 x46 x47 x50 x51 : Value}
  (g0 : a.get 0 = x0) (g3 : a.get 3 = .int .i64 n) (g4 : a.get 4 = .slice (some ⟨tb, 0, none⟩) n n) (g7 : a.get 7 = .int .i64 k) (g8 : a.get 8 = .int .i64 i) (g46 : a.get 46 = x46) (g47 : a.get 47 = x47) (g50 : a.get 50 = x50) (g51 : a.get 51 = x51) (g54 : a.get 54 = .int .i64 n) (g55 : a.get 55 = .int .i64 0)
  (hq : ∀ a1 h1, a1.n = 123 → Ext hA h1 → Mat h1 n0 tb n bs (upto (cellW k i) n M) → a1.get 0 = x0 → a1.get 3 = .int .i64 n → a1.get 4 = .slice (some ⟨tb, 0, none⟩) n n → a1.get 7 = .int .i64 k → a1.get 46 = x46 → a1.get 47 = x47 → a1.get 50 = x50 → a1.get 51 = x51 → Q (.exit 6) a1 h1) :
  Th Try.prog (bodyAt Try.f57 [1, 1, 1, 1, 0, 1, 0, 0, 1, 1, 0, 0, 1, 1, 0, 0, 1, 1, 0, 0, 1, 1, 0]) a h Q ⟨⟩ ⟨⟩ := by
 simp only [bodyAt, nav, Try.f57]
 refine loop_go (n := 123) (by kernel_rfl) (fun m' a' h' => ∃ j : Nat, j ≤ n ∧ m' = n - j ∧ Ext hA h' ∧ Mat h' n0 tb n bs (upto (cellW k i) j M) ∧
  a'.get 0 = x0 ∧ a'.get 3 = .int .i64 n ∧ a'.get 4 = .slice (some ⟨tb, 0, none⟩) n n ∧ a'.get 7 = .int .i64 k ∧ a'.get 8 = .int .i64 i ∧ a'.get 46 = x46 ∧ a'.get 47 = x47 ∧ a'.get 50 = x50 ∧ a'.get 51 = x51 ∧ a'.get 54 = .int .i64 n ∧ a'.get 55 = .int .i64 j) ?_ n _ _ hn ⟨0, Nat.zero_le _, rfl, hX, hM, g0, g3, g4, g7, g8, g46, g47, g50, g51, g54, g55⟩
 rintro m' a' h' hn' ⟨j, hj, rfl, hx, hM', e0, e3, e4, e7, e8, e46, e47, e50, e51, e54, e55⟩
 by_cases hlt : j < n
 · have hi1 : decide ((j : Int) < (n : Int)) = true := decide_eq_true (Int.ofNat_lt.2 hlt)
   obtain ⟨bi, Li, q1, q2, q3, q4, q5, q6⟩ := hM'.at hi
   obtain ⟨bk', Lk, p1, p2, p3, p4, p5, p6⟩ := hM'.at hk
   have q6j := q6 j hlt
   have q6k := q6 k hk
   have p6j := p6 j hlt
   obtain ⟨s1, s2⟩ := hM'.put q1 q2 hlt (getM (upto (cellW k i) j M) i j || (getM (upto (cellW k i) j M) i k && getM (upto (cellW k i) j M) k j))
   have hx2 := hx.put (b := bi) (by rw [hAn]; exact hM'.lo.2 _ _ q1) (.cells ⟨(Li.set j (getM (upto (cellW k i) j M) i j || (getM (upto (cellW k i) j M) i k && getM (upto (cellW k i) j M) k j))).map .bool, 4, 0, 0, false⟩)
   simp -dsimp only [go_sem, e54, e55, hi1]
   refine Dw_last (n := 123) (by simp -dsimp only [go_sem, hn']) (by kernel_rfl) ?_
   have fin : Mat (h'.put bi (.cells ⟨(Li.set j (getM (upto (cellW k i) j M) i j || (getM (upto (cellW k i) j M) i k && getM (upto (cellW k i) j M) k j))).map .bool, 4, 0, 0, false⟩)) n0 tb n bs (upto (cellW k i) (j + 1) M) := s2
   cases hij : getM (upto (cellW k i) j M) i j with
   | true =>
     rw [hij] at s1 fin q6j hx2
     rw [Bool.true_or] at s1 fin hx2
     simp -dsimp only [go_sem, undef', e0, e3, e4, e7, e8, ia108 hi, ia108 hk, ia105 hlt, ia105 hk, q5, q6j, q6k, p5, p6j, s1, e54, e55, wrap64_succ hlt (Nat.le_trans hn1 (by decide))]
     exact ⟨n - (j + 1), by omega, j + 1, hlt, rfl, hx2, fin, e46, e47, e50, e51, rfl⟩
   | false =>
     rw [hij] at s1 fin q6j hx2
     rw [Bool.false_or] at s1 fin hx2
     cases hik : getM (upto (cellW k i) j M) i k with
     | true =>
       rw [hik] at s1 fin q6k hx2
       rw [Bool.true_and] at s1 fin hx2
       simp -dsimp only [go_sem, undef', e0, e3, e4, e7, e8, ia108 hi, ia108 hk, ia105 hlt, ia105 hk, q5, q6j, q6k, p5, p6j, s1, e54, e55, wrap64_succ hlt (Nat.le_trans hn1 (by decide))]
       exact ⟨n - (j + 1), by omega, j + 1, hlt, rfl, hx2, fin, e46, e47, e50, e51, rfl⟩
     | false =>
       rw [hik] at s1 fin q6k hx2
       rw [Bool.false_and] at s1 fin hx2
       simp -dsimp only [go_sem, undef', e0, e3, e4, e7, e8, ia108 hi, ia108 hk, ia105 hlt, ia105 hk, q5, q6j, q6k, p5, p6j, s1, e54, e55, wrap64_succ hlt (Nat.le_trans hn1 (by decide))]
       exact ⟨n - (j + 1), by omega, j + 1, hlt, rfl, hx2, fin, e46, e47, e50, e51, rfl⟩
 · have hi0 : decide ((j : Int) < (n : Int)) = false := decide_eq_false (by omega)
   have hjn : j = n := by omega
   subst hjn
   simp -dsimp only [go_sem, e54, e55, hi0]
   exact hq _ _ (by simp -dsimp only [go_sem, hn']) hx hM' (by simp -dsimp only [go_sem, e0]) (by simp -dsimp only [go_sem, e3]) (by simp -dsimp only [go_sem, e4]) (by simp -dsimp only [go_sem, e7]) (by simp -dsimp only [go_sem, e46]) (by simp -dsimp only [go_sem, e47]) (by simp -dsimp only [go_sem, e50]) (by simp -dsimp only [go_sem, e51])
end Go.Ev.G24
end
section
set_option linter.unusedSimpArgs false
set_option linter.unusedVariables false
namespace Go.Ev.G24
open Go.RowKit Go.Proofs
variable {h : Hp} {n0 tb n : Nat} {bs : List Nat} {M : List (List Bool)}
set_option maxHeartbeats 2000000 in
set_option maxRecDepth 10000 in
theorem rec_i {k : Nat} (hk : k < n) (hn1 : n ≤ 1000) {hA : Hp} (hAn : hA.next = n0) {a : Ev.A} {Q : Ex → Ev.A → Hp → Prop} (hn : a.n = 123) (hX : Ext hA h) (hM : Mat h n0 tb n bs M) {x0 x46 x47 : Value}
  (g0 : a.get 0 = x0) (g3 : a.get 3 = .int .i64 n) (g4 : a.get 4 = .slice (some ⟨tb, 0, none⟩) n n) (g7 : a.get 7 = .int .i64 k) (g46 : a.get 46 = x46) (g47 : a.get 47 = x47) (g50 : a.get 50 = .int .i64 n) (g51 : a.get 51 = .int .i64 0)
  (hq : ∀ a1 h1, a1.n = 123 → Ext hA h1 → Mat h1 n0 tb n bs (upto (fun i => upto (cellW k i) n) n M) → a1.get 0 = x0 → a1.get 3 = .int .i64 n → a1.get 4 = .slice (some ⟨tb, 0, none⟩) n n → a1.get 46 = x46 → a1.get 47 = x47 → Q (.exit 4) a1 h1) :
  Th Try.prog (bodyAt Try.f57 [1, 1, 1, 1, 0, 1, 0, 0, 1, 1, 0, 0, 1, 1, 0]) a h Q ⟨⟩ ⟨⟩ := by
 simp only [bodyAt, nav, Try.f57]
 refine loop_go (n := 123) (by kernel_rfl) (fun m' a' h' => ∃ j : Nat, j ≤ n ∧ m' = n - j ∧ Ext hA h' ∧ Mat h' n0 tb n bs (upto (fun i => upto (cellW k i) n) j M) ∧
  a'.get 0 = x0 ∧ a'.get 3 = .int .i64 n ∧ a'.get 4 = .slice (some ⟨tb, 0, none⟩) n n ∧ a'.get 7 = .int .i64 k ∧ a'.get 46 = x46 ∧ a'.get 47 = x47 ∧ a'.get 50 = .int .i64 n ∧ a'.get 51 = .int .i64 j) ?_ n _ _ hn ⟨0, Nat.zero_le _, rfl, hX, hM, g0, g3, g4, g7, g46, g47, g50, g51⟩
 rintro m' a' h' hn' ⟨j, hj, rfl, hx, hM', e0, e3, e4, e7, e46, e47, e50, e51⟩
 by_cases hlt : j < n
 · have hi1 : decide ((j : Int) < (n : Int)) = true := decide_eq_true (Int.ofNat_lt.2 hlt)
   simp -dsimp only [go_sem, e0, e3, e4, e7, e50, e51, hi1]
   refine rec_j (x0 := x0) (x46 := x46) (x47 := x47) (x50 := .int .i64 n) (x51 := .int .i64 j) hk hlt hn1 hAn (by simp -dsimp only [go_sem, hn']) hx hM' (by simp -dsimp only [go_sem, e0]) (by simp -dsimp only [go_sem, e3]) (by simp -dsimp only [go_sem, e4]) (by simp -dsimp only [go_sem, e7]) (by simp -dsimp only [go_sem]) (by simp -dsimp only [go_sem, e46]) (by simp -dsimp only [go_sem, e47]) (by simp -dsimp only [go_sem, e50]) (by simp -dsimp only [go_sem, e51]) (by simp -dsimp only [go_sem]) (by simp -dsimp only [go_sem]) (fun a1 h1 hn1' hx1 hM1 f0 f3 f4 f7 f46 f47 f50 f51 => ?_)
   simp -dsimp only [go_sem, f50, f51, wrap64_succ hlt (Nat.le_trans hn1 (by decide))]
   exact ⟨n - (j + 1), by omega, j + 1, hlt, rfl, hx1, hM1, f0, f3, f4, f7, f46, f47, rfl⟩
 · have hi0 : decide ((j : Int) < (n : Int)) = false := decide_eq_false (by omega)
   have hjn : j = n := by omega
   subst hjn
   simp -dsimp only [go_sem, e50, e51, hi0]
   exact hq _ _ (by simp -dsimp only [go_sem, hn']) hx hM' (by simp -dsimp only [go_sem, e0]) (by simp -dsimp only [go_sem, e3]) (by simp -dsimp only [go_sem, e4]) (by simp -dsimp only [go_sem, e46]) (by simp -dsimp only [go_sem, e47])
def warshall (n : Nat) (M : List (List Bool)) : List (List Bool) := upto (fun k => upto (fun i => upto (cellW k i) n) n) n M
set_option maxHeartbeats 2000000 in
set_option maxRecDepth 10000 in
theorem rec_k (hn1 : n ≤ 1000) {hA : Hp} (hAn : hA.next = n0) {a : Ev.A} {Q : Ex → Ev.A → Hp → Prop} (hn : a.n = 123) (hX : Ext hA h) (hM : Mat h n0 tb n bs M) {x0 : Value}
  (g0 : a.get 0 = x0) (g3 : a.get 3 = .int .i64 n) (g4 : a.get 4 = .slice (some ⟨tb, 0, none⟩) n n) (g46 : a.get 46 = .int .i64 n) (g47 : a.get 47 = .int .i64 0)
  (hq : ∀ a1 h1, a1.n = 123 → Ext hA h1 → Mat h1 n0 tb n bs (warshall n M) → a1.get 0 = x0 → a1.get 3 = .int .i64 n → a1.get 4 = .slice (some ⟨tb, 0, none⟩) n n → Q (.exit 2) a1 h1) :
  Th Try.prog (bodyAt Try.f57 [1, 1, 1, 1, 0, 1, 0]) a h Q ⟨⟩ ⟨⟩ := by
 simp only [bodyAt, nav, Try.f57]
 refine loop_go (n := 123) (by kernel_rfl) (fun m' a' h' => ∃ j : Nat, j ≤ n ∧ m' = n - j ∧ Ext hA h' ∧ Mat h' n0 tb n bs (upto (fun k => upto (fun i => upto (cellW k i) n) n) j M) ∧
  a'.get 0 = x0 ∧ a'.get 3 = .int .i64 n ∧ a'.get 4 = .slice (some ⟨tb, 0, none⟩) n n ∧ a'.get 46 = .int .i64 n ∧ a'.get 47 = .int .i64 j) ?_ n _ _ hn ⟨0, Nat.zero_le _, rfl, hX, hM, g0, g3, g4, g46, g47⟩
 rintro m' a' h' hn' ⟨j, hj, rfl, hx, hM', e0, e3, e4, e46, e47⟩
 by_cases hlt : j < n
 · have hi1 : decide ((j : Int) < (n : Int)) = true := decide_eq_true (Int.ofNat_lt.2 hlt)
   simp -dsimp only [go_sem, e0, e3, e4, e46, e47, hi1]
   refine rec_i (x0 := x0) (x46 := .int .i64 n) (x47 := .int .i64 j) hlt hn1 hAn (by simp -dsimp only [go_sem, hn']) hx hM' (by simp -dsimp only [go_sem, e0]) (by simp -dsimp only [go_sem, e3]) (by simp -dsimp only [go_sem, e4]) (by simp -dsimp only [go_sem]) (by simp -dsimp only [go_sem, e46]) (by simp -dsimp only [go_sem, e47]) (by simp -dsimp only [go_sem]) (by simp -dsimp only [go_sem]) (fun a1 h1 hn1' hx1 hM1 f0 f3 f4 f46 f47 => ?_)
   simp -dsimp only [go_sem, f46, f47, wrap64_succ hlt (Nat.le_trans hn1 (by decide))]
   exact ⟨n - (j + 1), by omega, j + 1, hlt, rfl, hx1, hM1, f0, f3, f4, rfl⟩
 · have hi0 : decide ((j : Int) < (n : Int)) = false := decide_eq_false (by omega)
   have hjn : j = n := by omega
   subst hjn
   simp -dsimp only [go_sem, e46, e47, hi0]
   exact hq _ _ (by simp -dsimp only [go_sem, hn']) hx hM' (by simp -dsimp only [go_sem, e0]) (by simp -dsimp only [go_sem, e3]) (by simp -dsimp only [go_sem, e4])
end Go.Ev.G24
end
section
set_option linter.unusedSimpArgs false
set_option linter.unusedVariables false
namespace Go.Ev.G24
open Go.RowKit Go.Proofs
variable {r : Ro} {bk m eb : Nat} {G : Value} {em : List Bool} {h : Hp} {n0 tb n : Nat} {bs : List Nat} {M : List (List Bool)}
structure MatP (h : Hp) (n0 tb n i : Nat) (bs : List Nat) (M : List (List Bool)) : Prop where
 row : h.own tb 105 ((bs.map fun b => .slice (some ⟨b, 0, none⟩) n n) ++ List.replicate (n - i) (.slice none 0 0))
 lb : bs.length = i
 lM : M.length = i
 rows : ∀ (j b : Nat) (L : List Bool), bs[j]? = some b → M[j]? = some L → h.own b 4 (L.map .bool) ∧ L.length = n
 dis : ∀ i j b : Nat, bs[i]? = some b → bs[j]? = some b → i = j
 lo : n0 ≤ tb ∧ ∀ i b : Nat, bs[i]? = some b → n0 ≤ b
theorem MatP.full (k : MatP h n0 tb n n bs M) : Mat h n0 tb n bs M := ⟨by simpa using k.row, k.lb, k.lM, k.rows, k.dis, k.lo⟩
theorem MatP.ext {h1 : Hp} {i : Nat} (x : Ext h h1) (k : MatP h n0 tb n i bs M) : MatP h1 n0 tb n i bs M := ⟨own_ext x k.row, k.lb, k.lM, fun i b L h1 h2 => ⟨own_ext x (k.rows i b L h1 h2).1, (k.rows i b L h1 h2).2⟩, k.dis, k.lo⟩
theorem splice_at {X Y : List Value} {y v : Value} : splice (X ++ y :: Y) X.length [v] = some (X ++ v :: Y) := by
 induction X with
 | nil => cases Y <;> rfl
 | cons x X ih => simp only [List.cons_append, List.length_cons, splice, ih]
theorem MatP.more {i : Nat} (k : MatP h n0 tb n i bs M) (hi : i < n) {b : Nat} (hb : ∀ j : Nat, bs[j]? ≠ some b) (hlo : n0 ≤ b) {L : List Bool} (hL : L.length = n) (ho : h.own b 4 (L.map .bool)) :
  ∃ cs, h.stores ⟨tb, i, none⟩ [.slice (some ⟨b, 0, none⟩) n n] = some (h.put tb (.cells ⟨cs, 105, 0, 0, false⟩)) ∧ MatP (h.put tb (.cells ⟨cs, 105, 0, 0, false⟩)) n0 tb n (i + 1) (bs ++ [b]) (M ++ [L]) := by
 have hr : List.replicate (n - i) (Value.slice none 0 0) = .slice none 0 0 :: List.replicate (n - (i + 1)) (.slice none 0 0) := by
  rw [show n - i = (n - (i + 1)) + 1 by omega, List.replicate_succ]
 have hrow := k.row
 rw [hr] at hrow
 have hlen : (bs.map fun b => Value.slice (some ⟨b, 0, none⟩) n n).length = i := by simp [k.lb]
 have hs := splice_at (X := bs.map fun b => Value.slice (some ⟨b, 0, none⟩) n n) (Y := List.replicate (n - (i + 1)) (.slice none 0 0)) (y := .slice none 0 0) (v := .slice (some ⟨b, 0, none⟩) n n)
 rw [hlen] at hs
 have hbt : ∀ {b' : Nat} {c : List Value}, h.own b' 4 c → b' ≠ tb := by
  intro b' c ho' e
  have := ho'.2.2
  rw [e, hrow.2.2] at this
  simp at this
 refine ⟨_, stores_own hrow rfl hs (by simp), ?_, by simp [k.lb], by simp [k.lM], ?_, ?_, k.lo.1, ?_⟩
 · have := own_put_same hrow ((bs.map fun b => Value.slice (some ⟨b, 0, none⟩) n n) ++ .slice (some ⟨b, 0, none⟩) n n :: List.replicate (n - (i + 1)) (.slice none 0 0))
   simpa using this
 · intro j b' L' h1 h2
   rcases Nat.lt_or_ge j i with c | c
   · rw [List.getElem?_append_left (by rw [k.lb]; exact c)] at h1
     rw [List.getElem?_append_left (by rw [k.lM]; exact c)] at h2
     obtain ⟨p1, p2⟩ := k.rows j b' L' h1 h2
     exact ⟨own_put p1 (hbt p1) _, p2⟩
   · rw [List.getElem?_append_right (by rw [k.lb]; exact c), k.lb] at h1
     rw [List.getElem?_append_right (by rw [k.lM]; exact c), k.lM] at h2
     cases hj : j - i with
     | zero =>
       rw [hj] at h1 h2
       simp at h1 h2
       subst h1; subst h2
       exact ⟨own_put ho (hbt ho) _, hL⟩
     | succ q => rw [hj] at h1; simp at h1
 · intro x y b' h1 h2
   have one : ∀ {x : Nat}, (bs ++ [b])[x]? = some b' → bs[x]? = some b' ∨ (x = i ∧ b' = b) := by
    intro x h1
    rcases Nat.lt_or_ge x i with c | c
    · rw [List.getElem?_append_left (by rw [k.lb]; exact c)] at h1
      exact .inl h1
    · rw [List.getElem?_append_right (by rw [k.lb]; exact c), k.lb] at h1
      cases hj : x - i with
      | zero =>
        rw [hj] at h1
        simp at h1
        exact .inr ⟨by omega, h1.symm⟩
      | succ q => rw [hj] at h1; simp at h1
   rcases one h1 with c1 | ⟨c1, c2⟩ <;> rcases one h2 with d1 | ⟨d1, d2⟩
   · exact k.dis _ _ _ c1 d1
   · subst d2; exact absurd c1 (hb _)
   · subst c2; exact absurd d1 (hb _)
   · omega
 · intro x b' h1
   rcases Nat.lt_or_ge x i with c | c
   · rw [List.getElem?_append_left (by rw [k.lb]; exact c)] at h1
     exact k.lo.2 _ _ h1
   · rw [List.getElem?_append_right (by rw [k.lb]; exact c), k.lb] at h1
     cases hj : x - i with
     | zero => rw [hj] at h1; simp at h1; omega
     | succ q => rw [hj] at h1; simp at h1
theorem MatP.fill {h1 : Hp} {i : Nat} {b : Nat} {L L1 : List Bool} (k : MatP h n0 tb n (i + 1) (bs ++ [b]) (M ++ [L])) (x : ExtS (Only b) h h1) (hl : bs.length = i) (ho : h1.own b 4 (L1.map .bool)) (hL : L1.length = n) : MatP h1 n0 tb n (i + 1) (bs ++ [b]) (M ++ [L1]) := by
 have hM : M.length = i := by have := k.lM; simpa using this
 have hlast : (bs ++ [b])[i]? = some b := by rw [List.getElem?_append_right (by omega), hl]; simp
 have hlastM : (M ++ [L])[i]? = some L := by rw [List.getElem?_append_right (by omega), hM]; simp
 have htb : tb ≠ b := by
  intro e
  have := (k.rows i b L hlast hlastM).1.2.2
  rw [← e, k.row.2.2] at this
  simp at this
 refine ⟨own_extS x k.row htb, k.lb, by simpa using k.lM, ?_, k.dis, k.lo⟩
 intro j b' L' h1' h2
 rcases Nat.lt_or_ge j i with c | c
 · rw [List.getElem?_append_left (by rw [hM]; exact c)] at h2
   obtain ⟨p1, p2⟩ := k.rows j b' L' h1' (by rw [List.getElem?_append_left (by rw [hM]; exact c)]; exact h2)
   refine ⟨own_extS x p1 ?_, p2⟩
   intro e
   have e' : b' = b := e
   subst e'
   have := k.dis _ _ _ h1' hlast
   omega
 · rw [List.getElem?_append_right (by omega), hl] at h1'
   rw [List.getElem?_append_right (by omega), hM] at h2
   cases hj : j - i with
   | zero =>
     rw [hj] at h1' h2
     simp at h1' h2
     subst h1'; subst h2
     exact ⟨ho, hL⟩
   | succ q => rw [hj] at h1'; simp at h1'
def rowB (l : List Rule) (em : List Bool) (x : Rule) : List Bool := startB (emf (nms l) em) (idxOf (nms l)) x.body (List.replicate l.length false)
set_option maxHeartbeats 2000000 in
set_option maxRecDepth 10000 in
theorem rec_rows {l : List Rule} {Av : Option Addr} {c b o : Nat} {css : Nat → List Value} (R : RoRules r l Av c b o css) (hnm : ∀ (i : Nat) (x : Rule), l[i]? = some x → named (nms l) x.body)
  {hA : Hp} (hAn : hA.next = n0) (hrom : hA.rom = r) (hbA : hA.base ≤ hA.next) (hBA : Book hA bk m eb G (nms l) em) {a : Ev.A} {Q : Ex → Ev.A → Hp → Prop} (hn : a.n = 123) (hX : Ext hA h) (hM : MatP h n0 tb l.length 0 [] [])
  (g0 : a.get 0 = .pointer (some ⟨bk, 0, none⟩)) (g3 : a.get 3 = .int .i64 l.length) (g4 : a.get 4 = .slice (some ⟨tb, 0, none⟩) l.length l.length) (g25 : a.get 25 = .slice Av l.length c) (g26 : a.get 26 = .int .i64 l.length) (g27 : a.get 27 = .int .i64 0)
  (hq : ∀ a1 h1 bs, a1.n = 123 → Ext hA h1 → Mat h1 n0 tb l.length bs (l.map (rowB l em)) → a1.get 0 = .pointer (some ⟨bk, 0, none⟩) → a1.get 3 = .int .i64 l.length → a1.get 4 = .slice (some ⟨tb, 0, none⟩) l.length l.length → Q (.exit 0) a1 h1) :
  Th Try.prog (bodyAt Try.f57 [1, 1, 1, 0, 1, 0]) a h Q ⟨⟩ ⟨⟩ := by
 simp only [bodyAt, nav, Try.f57]
 have hnl : (nms l).length = l.length := by simp [nms]
 refine loop_go (n := 123) (by kernel_rfl) (fun m' a' h' => ∃ (j : Nat) (bs : List Nat), j ≤ l.length ∧ m' = l.length - j ∧ Ext hA h' ∧ MatP h' n0 tb l.length j bs ((l.take j).map (rowB l em)) ∧
  a'.get 0 = .pointer (some ⟨bk, 0, none⟩) ∧ a'.get 3 = .int .i64 l.length ∧ a'.get 4 = .slice (some ⟨tb, 0, none⟩) l.length l.length ∧ a'.get 25 = .slice Av l.length c ∧ a'.get 26 = .int .i64 l.length ∧ a'.get 27 = .int .i64 j) ?_ l.length _ _ hn ⟨0, [], Nat.zero_le _, rfl, hX, by simpa using hM, g0, g3, g4, g25, g26, g27⟩
 rintro m' a' h' hn' ⟨j, bs, hj, rfl, hx, hM', e0, e3, e4, e25, e26, e27⟩
 have hb' : h'.base ≤ h'.next := by rw [hx.base]; exact Nat.le_trans hbA hx.next
 by_cases hlt : j < l.length
 · have hi1 : decide ((j : Int) < (l.length : Int)) = true := decide_eq_true (Int.ofNat_lt.2 hlt)
   have hpi : l[j]? = some l[j] := List.getElem?_eq_getElem hlt
   obtain ⟨Av1, c1', hcs⟩ := (R.hk j _ hpi).shape
   have hat' := R.hat j _ hpi
   have hkid := R.hk j _ hpi
   rw [hcs] at hat' hkid
   have hAv := R.hA (ne_nil hlt)
   subst hAv
   obtain ⟨vS, vO, vX, vB, vR⟩ := var_ok hb' (e := 54) (c0 := [.string ⟨#[]⟩, .string ⟨#[]⟩, .string ⟨#[]⟩, .slice none 0 0]) (c1 := [.string l[j].name, .string l[j].body.d, .string l[j].body.t, .slice Av1 l[j].body.l.length c1']) rfl rfl (by simp)
   have hro : h'.rom = r := hx.rom.trans hrom
   simp -dsimp only [go_sem, e0, e3, e4, e25, e26, e27, hi1, ia22 hlt, loads_ro (n := 4) hro hat' rfl, vS, ms105 l.length l.length (Nat.le_refl _) R.hb, ia108 hlt]
   generalize h'.var 54 [.string ⟨#[]⟩, .string ⟨#[]⟩, .string ⟨#[]⟩, .slice none 0 0] [.string l[j].name, .string l[j].body.d, .string l[j].body.t, .slice Av1 l[j].body.l.length c1'] = h2 at vS vO vX vB vR ⊢
   have hx2 := hx.trans vX
   have hE := own_new vB 4 (repeatN [.bool false] l.length)
   rw [repeat_bool] at hE ⊢
   have hX3 := Ext.new h2 (CObj.cells { c := (List.replicate l.length false).map Value.bool, e := 4, fam := 0, base := 0, grown := false })
   have hM3 := (hM'.ext vX).ext hX3
   have hfr : ∀ q : Nat, bs[q]? ≠ some h2.next := by
    intro q hq
    have hqj : q < bs.length := by
     rcases Nat.lt_or_ge q bs.length with c | c
     · exact c
     · rw [List.getElem?_eq_none c] at hq; cases hq
    have h4 : q < ((l.take j).map (rowB l em)).length := by rw [hM'.lM]; have := hM'.lb; omega
    have := ((hM'.ext vX).rows q _ _ hq (List.getElem?_eq_getElem h4)).1.2.1
    omega
   obtain ⟨cs, s1, s2⟩ := hM3.more hlt hfr (by rw [← hAn]; exact hx2.next) (L := List.replicate l.length false) (by simp) hE
   have hO4 := own_put (own_newH vO (CObj.cells { c := (List.replicate l.length false).map Value.bool, e := 4, fam := 0, base := 0, grown := false })) (d := tb) (by
    have := hM'.row.2.1
    omega) (.cells ⟨cs, 105, 0, 0, false⟩)
   have hx4 := (hx2.trans hX3).put (b := tb) (by rw [hAn]; exact hM'.lo.1) (.cells ⟨cs, 105, 0, 0, false⟩)
   simp -dsimp only [go_sem, s1]
   generalize (h2.newH (CObj.cells { c := (List.replicate l.length false).map Value.bool, e := 4, fam := 0, base := 0, grown := false })).put tb (.cells ⟨cs, 105, 0, 0, false⟩) = h3 at s2 hx4 hO4 ⊢
   refine Dw_last (n := 123) (by simp -dsimp only [go_sem, hn']) (by kernel_rfl) ?_
   have hlast : (bs ++ [h2.next])[j]? = some h2.next := by rw [List.getElem?_append_right (by rw [hM'.lb]; exact Nat.le_refl _), hM'.lb]; simp
   have hld : h3.load ⟨tb, j, none⟩ = some (.slice (some ⟨h2.next, 0, none⟩) l.length l.length) := by
    rw [load_own s2.row, List.getElem?_append_left (by simp [hM'.lb]), List.getElem?_map, hlast]; rfl
   have hhas : ((l.take j).map (rowB l em)).length = j := hM'.lM
   have hown : h3.own h2.next 4 ((List.replicate l.length false).map .bool) := (s2.rows j _ (List.replicate l.length false) hlast (by rw [List.getElem?_append_right (by omega), hhas]; simp)).1
   simp -dsimp only [go_sem, e0, e3, e4, loads_own hO4, ia108 hlt, hld, sameN_sliceA hkid.same]
   have hB3 := hBA.ext hx4
   have hbn : ∀ {q : Nat}, q < hA.next → q ≠ h2.next := fun hq e => by have := hx2.next; omega
   obtain ⟨_, h5, hs5, rfl, hx5, hown5⟩ := start_c (r := r) (G := G) (names := nms l) (em := em) (tb := h2.next) (hbn hBA.own.2.1) (hbn hBA.map.1) (hbn hBA.row.2.1) _ l[j].body (Nat.lt_succ_self _) h3 _ (List.replicate l.length false) (hx4.rom.trans hrom) (by rw [hx4.base]; exact Nat.le_trans hbA hx4.next) hB3 hkid (hnm j _ hpi) hown (by simp [hnl])
   rw [hnl] at hs5
   refine ⟨_, h5, hs5, ?_⟩
   have hM5 := s2.fill hx5 hM'.lb hown5 (by rw [startB_len]; simp)
   have hx6 : Ext hA h5 := (hx4.toS.trans hx5).ext (fun q hq hs => hbn hq hs)
   simp -dsimp only [go_sem, e26, e27, wrap64_succ hlt (Nat.le_trans R.hb (by decide))]
   refine ⟨l.length - (j + 1), by omega, j + 1, bs ++ [h2.next], hlt, rfl, hx6, ?_, e0, e3, e4, e25, rfl⟩
   have htk : (l.take (j + 1)).map (rowB l em) = (l.take j).map (rowB l em) ++ [rowB l em l[j]] := by
    rw [List.take_succ_eq_append_getElem hlt, List.map_append]; rfl
   rw [htk]
   exact hM5
 · have hi0 : decide ((j : Int) < (l.length : Int)) = false := decide_eq_false (by omega)
   have hjn : j = l.length := by omega
   subst hjn
   rw [List.take_length] at hM'
   simp -dsimp only [go_sem, e26, e27, hi0]
   exact hq _ _ bs (by simp -dsimp only [go_sem, hn']) hx hM'.full (by simp -dsimp only [go_sem, e0]) (by simp -dsimp only [go_sem, e3]) (by simp -dsimp only [go_sem, e4])
end Go.Ev.G24
end
section
set_option linter.unusedSimpArgs false
set_option linter.unusedVariables false
namespace Go.Ev.G24
open Go.RowKit Go.Proofs
variable {r : Ro} {bk m eb : Nat} {G : Value} {em : List Bool} {h : Hp} {n0 tb n : Nat} {bs : List Nat} {M : List (List Bool)}
def closedM (l : List Rule) (em : List Bool) : List (List Bool) := warshall l.length (l.map (rowB l em))
def recB (l : List Rule) (em : List Bool) : List Bool := l.mapIdx fun i x => getM (closedM l em) i i || idleB (emf (nms l) em) x.body
theorem recB_len (l : List Rule) (em : List Bool) : (recB l em).length = l.length := by simp [recB]
set_option maxHeartbeats 2000000 in
set_option maxRecDepth 10000 in
theorem rec_out {l : List Rule} {Av : Option Addr} {c b o : Nat} {css : Nat → List Value} (R : RoRules r l Av c b o css) (hnm : ∀ (i : Nat) (x : Rule), l[i]? = some x → named (nms l) x.body)
  {hA : Hp} (hrom : hA.rom = r) (hbA : hA.base ≤ hA.next) (hBA : Book hA bk m eb G (nms l) em) {a : Ev.A} {Q : Ex → Ev.A → Hp → Prop} (hn : a.n = 123) (hX : Ext hA h) (hM : Mat h n0 tb l.length bs (closedM l em)) {ob : Nat} (hlo : hA.next ≤ ob) (hob : ∀ i : Nat, bs[i]? ≠ some ob)
  (hO : h.own ob 4 ((List.replicate l.length false).map .bool))
  (g0 : a.get 0 = .pointer (some ⟨bk, 0, none⟩)) (g4 : a.get 4 = .slice (some ⟨tb, 0, none⟩) l.length l.length) (g10 : a.get 10 = .slice (some ⟨ob, 0, none⟩) l.length l.length) (g25 : a.get 98 = .slice Av l.length c) (g26 : a.get 99 = .int .i64 l.length) (g27 : a.get 100 = .int .i64 0)
  (hq : ∀ a1 h1, a1.n = 123 → Ext hA h1 → h1.own ob 4 ((recB l em).map .bool) → a1.get 10 = .slice (some ⟨ob, 0, none⟩) l.length l.length → Q (.exit 8) a1 h1) :
  Th Try.prog (bodyAt Try.f57 [1, 1, 1, 1, 1, 1, 0, 1, 0]) a h Q ⟨⟩ ⟨⟩ := by
 simp only [bodyAt, nav, Try.f57]
 have hnl : (nms l).length = l.length := by simp [nms]
 refine loop_go (n := 123) (by kernel_rfl) (fun m' a' h' => ∃ (j : Nat) (out : List Bool), j ≤ l.length ∧ m' = l.length - j ∧ Ext hA h' ∧ Mat h' n0 tb l.length bs (closedM l em) ∧ h'.own ob 4 (out.map .bool) ∧ out.length = l.length ∧ (∀ q, q < j → out[q]? = (recB l em)[q]?) ∧
  a'.get 0 = .pointer (some ⟨bk, 0, none⟩) ∧ a'.get 4 = .slice (some ⟨tb, 0, none⟩) l.length l.length ∧ a'.get 10 = .slice (some ⟨ob, 0, none⟩) l.length l.length ∧ a'.get 98 = .slice Av l.length c ∧ a'.get 99 = .int .i64 l.length ∧ a'.get 100 = .int .i64 j) ?_ l.length _ _ hn ⟨0, _, Nat.zero_le _, rfl, hX, hM, hO, by simp, fun q hq => absurd hq (Nat.not_lt_zero _), g0, g4, g10, g25, g26, g27⟩
 rintro m' a' h' hn' ⟨j, out, hj, rfl, hx, hM', hO', hol, hoq, e0, e4, e10, e98, e99, e100⟩
 have hb' : h'.base ≤ h'.next := by rw [hx.base]; exact Nat.le_trans hbA hx.next
 by_cases hlt : j < l.length
 · have hi1 : decide ((j : Int) < (l.length : Int)) = true := decide_eq_true (Int.ofNat_lt.2 hlt)
   have hpi : l[j]? = some l[j] := List.getElem?_eq_getElem hlt
   obtain ⟨Av1, c1', hcs⟩ := (R.hk j _ hpi).shape
   have hat' := R.hat j _ hpi
   have hkid := R.hk j _ hpi
   rw [hcs] at hat' hkid
   have hAv := R.hA (ne_nil hlt)
   subst hAv
   obtain ⟨vS, vO, vX, vB, vR⟩ := var_ok hb' (e := 54) (c0 := [.string ⟨#[]⟩, .string ⟨#[]⟩, .string ⟨#[]⟩, .slice none 0 0]) (c1 := [.string l[j].name, .string l[j].body.d, .string l[j].body.t, .slice Av1 l[j].body.l.length c1']) rfl rfl (by simp)
   have hro : h'.rom = r := hx.rom.trans hrom
   have hM2 := hM'.ext vX
   have hO2 := own_ext vX hO'
   have hx2 := hx.trans vX
   obtain ⟨bj, Lj, q1, q2, q3, q4, q5, q6⟩ := hM2.at hlt
   have q6j := q6 j hlt
   have hrq : (recB l em)[j]? = some (getM (closedM l em) j j || idleB (emf (nms l) em) l[j].body) := by
    simp [recB, List.getElem?_mapIdx, hpi]
   have next : ∀ {v : Bool} {h3 : Hp}, Ext hA h3 → Mat h3 n0 tb l.length bs (closedM l em) → h3.own ob 4 (out.map .bool) → (recB l em)[j]? = some v →
     h3.stores ⟨ob, j, none⟩ [.bool v] = some (h3.put ob (.cells ⟨(out.set j v).map .bool, 4, 0, 0, false⟩)) ∧ Ext hA (h3.put ob (.cells ⟨(out.set j v).map .bool, 4, 0, 0, false⟩)) ∧ Mat (h3.put ob (.cells ⟨(out.set j v).map .bool, 4, 0, 0, false⟩)) n0 tb l.length bs (closedM l em) ∧
     (h3.put ob (.cells ⟨(out.set j v).map .bool, 4, 0, 0, false⟩)).own ob 4 ((out.set j v).map .bool) ∧ (out.set j v).length = l.length ∧ ∀ q, q < j + 1 → (out.set j v)[q]? = (recB l em)[q]? := by
    intro v h3 k1 k2 k3 k4
    refine ⟨stores_own k3 rfl (bool_put v (by rw [hol]; exact hlt)) (by simp), k1.put hlo _, ?_, own_put_same k3 _, by simp [hol], ?_⟩
    · refine ⟨own_put k2.row ?_ _, k2.lb, k2.lM, ?_, k2.dis, k2.lo⟩
      · intro e
        have := k2.row.2.2
        rw [e, k3.2.2] at this
        simp at this
      · intro i' b' L' h1' h2'
        obtain ⟨p1, p2⟩ := k2.rows i' b' L' h1' h2'
        refine ⟨own_put p1 ?_ _, p2⟩
        intro e
        subst e
        exact hob _ h1'
    · intro q hq
      rw [List.getElem?_set]
      by_cases e : j = q
      · subst e
        rw [if_pos rfl, if_pos (by rw [hol]; exact hlt), k4]
      · rw [if_neg e]
        exact hoq q (by omega)
   cases hjj : getM (closedM l em) j j with
   | true =>
     rw [hjj] at q6j hrq
     rw [Bool.true_or] at hrq
     obtain ⟨n1, n2, n3, n4, n5, n6⟩ := next hx2 hM2 hO2 hrq
     simp -dsimp only [go_sem, undef', e0, e4, e10, e98, e99, e100, hi1, ia22 hlt, loads_ro (n := 4) hro hat' rfl, vS, ia108 hlt, ia105 hlt, q5, q6j, n1, wrap64_succ hlt (Nat.le_trans R.hb (by decide))]
     exact ⟨l.length - (j + 1), by omega, j + 1, _, hlt, rfl, n2, n3, n4, n5, n6, rfl⟩
   | false =>
     rw [hjj] at q6j hrq
     rw [Bool.false_or] at hrq
     simp -dsimp only [go_sem, e0, e4, e10, e98, e99, e100, hi1, ia22 hlt, loads_ro (n := 4) hro hat' rfl, vS, ia108 hlt, ia105 hlt, q5, q6j, loads_own vO]
     obtain ⟨_, h5, hs5, rfl, hx5⟩ := idle_c (em := em) (G := G) _ l[j].body (Nat.lt_succ_self _) _ _ (vR.trans hro) vB (hBA.ext hx2) hkid (hnm j _ hpi)
     refine ⟨_, h5, hs5, ?_⟩
     obtain ⟨n1, n2, n3, n4, n5, n6⟩ := next (hx2.trans hx5) (hM2.ext hx5) (own_ext hx5 hO2) hrq
     simp -dsimp only [go_sem, e0, e4, e10, e98, e99, e100, ia105 hlt, n1, wrap64_succ hlt (Nat.le_trans R.hb (by decide))]
     exact ⟨l.length - (j + 1), by omega, j + 1, _, hlt, rfl, n2, n3, n4, n5, n6, rfl⟩
 · have hi0 : decide ((j : Int) < (l.length : Int)) = false := decide_eq_false (by omega)
   have hjn : j = l.length := by omega
   subst hjn
   simp -dsimp only [go_sem, e99, e100, hi0]
   have he : out = recB l em := by
    apply List.ext_getElem?
    intro q
    rcases Nat.lt_or_ge q l.length with c | c
    · exact hoq q c
    · rw [List.getElem?_eq_none (by omega), List.getElem?_eq_none (by rw [recB_len]; exact c)]
   subst he
   exact hq _ _ (by simp -dsimp only [go_sem, hn']) hx hO' (by simp -dsimp only [go_sem, e10])
theorem repeat_slice : ∀ n : Nat, repeatN [.slice none 0 0] n = List.replicate n (Value.slice none 0 0)
 | 0 => rfl
 | n + 1 => by simp only [repeatN, repeat_slice n, List.replicate_succ, List.cons_append, List.nil_append]
set_option maxHeartbeats 2000000 in
set_option maxRecDepth 10000 in
theorem recursive_c {l : List Rule} {Av : Option Addr} {c b o : Nat} {css : Nat → List Value} (R : RoRules r l Av c b o css) (hnm : ∀ (i : Nat) (x : Rule), l[i]? = some x → named (nms l) x.body) (h : Hp) (hrom : h.rom = r) (hb : h.base ≤ h.next) (hB : Book h bk m eb (.slice Av l.length c) (nms l) em) :
  ∃ v h1, Snd Try.prog 57 [.pointer (some ⟨bk, 0, none⟩)] h v h1 ∧ Ext h h1 ∧ ∃ ob, v = .slice (some ⟨ob, 0, none⟩) l.length l.length ∧ h.next ≤ ob ∧ h1.own ob 4 ((recB l em).map .bool) := by
 refine snd_go wf Try.func57 rfl rfl (n := 123) rfl (by kernel_rfl) rfl ?_
 intro a hn hg
 have hr : Try.f57.results.toList = [.tmp 2] := rfl
 have g0 := hg 0
 clear hg
 simp only [List.getElem?_cons_zero, List.getElem?_cons_succ] at g0
 have hx1 := Ext.new h (CObj.cells { c := List.replicate l.length (.slice none 0 0), e := 105, fam := 0, base := 0, grown := false })
 have hT := own_new hb 105 (List.replicate l.length (.slice none 0 0))
 have hB1 := hB.ext hx1
 simp -dsimp only [go_sem, g0, load_own hB.own, ms108 l.length l.length (Nat.le_refl _) R.hb, repeat_slice, load_own hB1.own]
 generalize h.newH (CObj.cells { c := List.replicate l.length (.slice none 0 0), e := 105, fam := 0, base := 0, grown := false }) = h1 at hx1 hT hB1 ⊢
 refine rec_rows (n0 := h.next) (tb := h.next) (h := h1) R hnm (hA := h) rfl hrom hb hB (by simp -dsimp only [go_sem, hn]) hx1 ⟨by simpa using hT, rfl, rfl, fun _ _ _ e => (by simp at e), fun _ _ _ e => (by simp at e), Nat.le_refl _, fun _ _ e => (by simp at e)⟩ (by simp -dsimp only [go_sem, g0]) (by simp -dsimp only [go_sem]) (by simp -dsimp only [go_sem]) (by simp -dsimp only [go_sem]) (by simp -dsimp only [go_sem]) (by simp -dsimp only [go_sem]) (fun a2 h2 bs hn2 hx2 hM2 e0 e3 e4 => ?_)
 simp -dsimp only [go_sem, e3]
 refine rec_k R.hb (hA := h) rfl (x0 := .pointer (some ⟨bk, 0, none⟩)) (by simp -dsimp only [go_sem, hn2]) hx2 hM2 (by simp -dsimp only [go_sem, e0]) (by simp -dsimp only [go_sem, e3]) (by simp -dsimp only [go_sem, e4]) (by simp -dsimp only [go_sem]) (by simp -dsimp only [go_sem]) (fun a3 h3 hn3 hx3 hM3 f0 f3 f4 => ?_)
 have hb3 : h3.base ≤ h3.next := by rw [hx3.base]; exact Nat.le_trans hb hx3.next
 have hO := own_new hb3 4 ((List.replicate l.length false).map .bool)
 have hx4 := Ext.new h3 (CObj.cells { c := (List.replicate l.length false).map Value.bool, e := 4, fam := 0, base := 0, grown := false })
 have hB4 := hB.ext (hx3.trans hx4)
 simp -dsimp only [go_sem, f0, f3, ms105 l.length l.length (Nat.le_refl _) R.hb, repeat_bool, load_own hB4.own]
 have hob : ∀ i : Nat, bs[i]? ≠ some h3.next := by
  intro i hi
  have hil : i < l.length := by
   rw [← hM3.lb]
   rcases Nat.lt_or_ge i bs.length with c | c
   · exact c
   · rw [List.getElem?_eq_none c] at hi; cases hi
  obtain ⟨b', L, q1, q2, q3, _⟩ := hM3.at hil
  rw [hi] at q1
  injection q1 with q1
  subst q1
  exact absurd q3.2.1 (Nat.lt_irrefl _)
 refine rec_out R hnm (hA := h) (ob := h3.next) (tb := h.next) (n0 := h.next) (bs := bs) hrom hb hB (by simp -dsimp only [go_sem, hn3]) (hx3.trans hx4) (hM3.ext hx4) hx3.next hob hO (by simp -dsimp only [go_sem, f0]) (by simp -dsimp only [go_sem, f4]) (by simp -dsimp only [go_sem]) (by simp -dsimp only [go_sem]) (by simp -dsimp only [go_sem]) (by simp -dsimp only [go_sem]) (fun a5 h5 hn5 hx5 hO5 q10 => ?_)
 simp -dsimp only [go_sem, q10, hr]
 exact ⟨hx5, _, rfl, hx3.next, hO5⟩
end Go.Ev.G24
end
section
namespace Go.Ev
open Go.RowKit
variable {P : Program} {ρ : Rho} {N : Bs} {h : Hp} {w : World}
theorem HR.wide (H : HR P ρ N h w) {w1 : World} (B : Below w.heap.size w w1) : HR P ρ N h w1 where
 obj b o i h1 h2 h3 := by
  obtain ⟨o', h4, h5⟩ := H.obj b o i h1 h2 h3
  exact ⟨o', by rw [B.block _ (H.lo b i h3).2]; exact h4, h5⟩
 dom := H.dom
 lo b i h1 := ⟨(H.lo b i h1).1, Nat.lt_of_lt_of_le (H.lo b i h1).2 B.size⟩
 inj := H.inj
 famlt := H.famlt
 mem := H.mem
 cover := H.cover
 nf0 := H.nf0
 base := Nat.le_trans H.base B.size
 gho := H.gho
 bn := H.bn
 rid := H.rid
 low := H.low
 rom b k v hb hv := by
  obtain ⟨v', h1, h2⟩ := H.rom b k v hb hv
  exact ⟨v', by rw [ro_below B (Nat.lt_of_lt_of_le hb (Nat.le_trans H.bn H.base))]; exact h1, h2⟩
theorem snd_calls {f : FuncId} {fn : Func} {c : Code} (hf : P.funcs[f]? = some fn) (hb : fn.body = some c) (hname : (fn.name == "runtime.NumGoroutine") = false) {args : List Value} {v : Value}
  (ha : ∀ (ρ : Rho) (args' : List Value), VRs ρ args args' → args' = args) (hv : ∀ ρ : Rho, VR ρ v v)
  (hc : ∀ w, Calls P f args.toArray w fun e w' => e = .returned v ∧ Below w.heap.size w w') (h : Hp) : Snd P f args h v h := by
 refine ⟨⟨fn, c, hf, hb, hname⟩, ?_⟩
 intro ρ N w args' H hA
 rw [ha ρ args' hA]
 refine (hc w).mono ?_
 rintro e w' ⟨rfl, B⟩
 exact ⟨ρ, v, rfl, Rho.le_refl ρ, H.wide B, hv ρ, B.mono H.base⟩
theorem vrs_string {ρ : Rho} {s : ByteArray} {args' : List Value} (h : VRs ρ [.string s] args') : args' = [.string s] := by
 cases h with
 | cons h k =>
   cases k
   cases h
   rfl
end Go.Ev
end
section
namespace Go.Proofs.Ytcnllhnhinmokaa
open Go.Ev Go.RowKit
theorem follows : Try.prog.follows .mixedOrders = true := by kernel_rfl
theorem awake_run : truly Try.prog 60 12 = true := by kernel_rfl
def manystrandlaw24_awake.f : Option Bool := some true
theorem manystrandlaw24_awake.calls (r : Bool) (w : World) (h : manystrandlaw24_awake.f = some r) :
  Calls Try.prog 12 #[] w fun e w' => e = .returned (.bool r) ∧ Below w.heap.size w w' := by
 unfold manystrandlaw24_awake.f at h
 injection h with h
 subst h
 exact closed_true (wfp_of follows) awake_run w
end Go.Proofs.Ytcnllhnhinmokaa
end
section
namespace Go.Proofs.Ytcnllhnhinmokaa.PHGr
open Go.RowKit Go.Proofs.YtcnllhnhinmokaaW.PrintWords Go.Proofs.YtcnllhnhinmokaaW.PrintLast Go.Proofs.YtcnllhnhinmokaaW.PrintMore
attribute [local go_sem] max2_int min2_int max_two min_two max_three min_three max_four min_four
set_option linter.unusedVariables false
set_option linter.unusedSimpArgs false
structure S52 where
 f0 : ByteArray
 f1 : ByteArray
 f2 : (List S52)
def z52 : S52 := ⟨(⟨#[]⟩ : ByteArray), (⟨#[]⟩ : ByteArray), ([] : List S52)⟩
def F52 (d : Kd S52) : Kd S52 := Kd.iso (Kd.pair Kd.string (Kd.pair Kd.string (Kd.slice 52 d))) (fun x : S52 => (x.f0, x.f1, x.f2))
theorem sz52 : ∀ n, (Kd.upto F52 3 [52] n).sz = 3 := Kd.upto_sz (fun _ => rfl)
structure S54 where
 f0 : ByteArray
 f1 : S52
def z54 : S54 := ⟨(⟨#[]⟩ : ByteArray), z52⟩
theorem gd {α : Type} {p : Prop} [Decidable p] {x : Option α} {r : α} (h : (if p then x else none) = some r) : p ∧ x = some r := by
 by_cases c : p
 rotate_left
 · rw [if_neg c] at h; cases h
 rw [if_pos c] at h; exact ⟨c, h⟩
theorem ct {w W : World} (h : Below w.heap.size w W) {a : Addr} {v : Value} (e : w.cell? a = some v) : W.cell? a = some v := (h.cell (World.block_lt_of_cell? w _ e)).trans e
abbrev T : Bool := true
abbrev F : Bool := false
end Go.Proofs.Ytcnllhnhinmokaa.PHGr
end
section
namespace Go.Proofs.Ytcnllhnhinmokaa.PHGr
open Go.RowKit Go.Proofs.YtcnllhnhinmokaaW.PrintWords Go.Proofs.YtcnllhnhinmokaaW.PrintLast Go.Proofs.YtcnllhnhinmokaaW.PrintMore
attribute [local go_sem] max2_int min2_int max_two min_two max_three min_three max_four min_four
set_option linter.unusedVariables false
set_option linter.unusedSimpArgs false
def manystrandref01_small.f (a0 : Int) : Option (Bool) := if a0 ≥ 97 then (some (decide (a0 ≤ 122))) else (some false)
set_option maxHeartbeats 8000000 in
set_option maxRecDepth 100000 in
theorem manystrandref01_small.calls (a0 : Int) (r : Bool) (w : World) (h : manystrandref01_small.f a0 = some r) :
 Calls Try.prog 94 #[.int .u8 a0] w fun e w' => e = .returned (.bool r) ∧ Drawn0 w w' := by
 have H : (if a0 ≥ 97 then (some (decide (a0 ≤ 122))) else (some false)) = some r := h
 clear h
 by_cases c2 : a0 ≥ 97
 rotate_left
 · rw [if_neg c2] at H
   have c2b0 := decide_eq_false c2
   clear c2
   obtain rfl := Option.some.inj H
   go_enter Try.func94, Try.ntmps94
   go_wp2
   go_ret
   exact ⟨by first | rfl, by repeat (first | exact Drawn0.refl _)⟩
 rw [if_pos c2] at H
 have c2b0 := decide_eq_true c2
 clear c2
 obtain rfl := Option.some.inj H
 go_enter Try.func94, Try.ntmps94
 go_wp2
 go_ret
 exact ⟨by first | rfl, by repeat (first | exact Drawn0.refl _)⟩
def manystrandref01_great.f (a0 : Int) : Option (Bool) := if a0 ≥ 65 then (some (decide (a0 ≤ 90))) else (some false)
set_option maxHeartbeats 8000000 in
set_option maxRecDepth 100000 in
theorem manystrandref01_great.calls (a0 : Int) (r : Bool) (w : World) (h : manystrandref01_great.f a0 = some r) :
 Calls Try.prog 131 #[.int .u8 a0] w fun e w' => e = .returned (.bool r) ∧ Drawn0 w w' := by
 have H : (if a0 ≥ 65 then (some (decide (a0 ≤ 90))) else (some false)) = some r := h
 clear h
 by_cases c2 : a0 ≥ 65
 rotate_left
 · rw [if_neg c2] at H
   have c2b0 := decide_eq_false c2
   clear c2
   obtain rfl := Option.some.inj H
   go_enter Try.func131, Try.ntmps131
   go_wp2
   go_ret
   exact ⟨by first | rfl, by repeat (first | exact Drawn0.refl _)⟩
 rw [if_pos c2] at H
 have c2b0 := decide_eq_true c2
 clear c2
 obtain rfl := Option.some.inj H
 go_enter Try.func131, Try.ntmps131
 go_wp2
 go_ret
 exact ⟨by first | rfl, by repeat (first | exact Drawn0.refl _)⟩
def manystrandref01_digit.f (a0 : Int) : Option (Bool) := if a0 ≥ 48 then (some (decide (a0 ≤ 57))) else (some false)
set_option maxHeartbeats 8000000 in
set_option maxRecDepth 100000 in
theorem manystrandref01_digit.calls (a0 : Int) (r : Bool) (w : World) (h : manystrandref01_digit.f a0 = some r) :
 Calls Try.prog 132 #[.int .u8 a0] w fun e w' => e = .returned (.bool r) ∧ Drawn0 w w' := by
 have H : (if a0 ≥ 48 then (some (decide (a0 ≤ 57))) else (some false)) = some r := h
 clear h
 by_cases c2 : a0 ≥ 48
 rotate_left
 · rw [if_neg c2] at H
   have c2b0 := decide_eq_false c2
   clear c2
   obtain rfl := Option.some.inj H
   go_enter Try.func132, Try.ntmps132
   go_wp2
   go_ret
   exact ⟨by first | rfl, by repeat (first | exact Drawn0.refl _)⟩
 rw [if_pos c2] at H
 have c2b0 := decide_eq_true c2
 clear c2
 obtain rfl := Option.some.inj H
 go_enter Try.func132, Try.ntmps132
 go_wp2
 go_ret
 exact ⟨by first | rfl, by repeat (first | exact Drawn0.refl _)⟩
def manystrandref01_inner.f (a0 : Int) : Option (Bool) := (manystrandref01_small.f a0).bind fun t103 => (if t103 = true then (some true) else ((manystrandref01_great.f a0).bind fun t104 => (if t104 = true then (some true) else ((manystrandref01_digit.f a0).bind fun t105 => (if t105 = true then (some true) else (some (a0 == 95)))))))
set_option maxHeartbeats 8000000 in
set_option maxRecDepth 100000 in
theorem manystrandref01_inner.calls (a0 : Int) (r : Bool) (w : World) (h : manystrandref01_inner.f a0 = some r) :
 Calls Try.prog 115 #[.int .u8 a0] w fun e w' => e = .returned (.bool r) ∧ Drawn0 w w' := by
 have H : ((manystrandref01_small.f a0).bind fun t103 => (if t103 = true then (some true) else ((manystrandref01_great.f a0).bind fun t104 => (if t104 = true then (some true) else ((manystrandref01_digit.f a0).bind fun t105 => (if t105 = true then (some true) else (some (a0 == 95)))))))) = some r := h
 clear h
 replace H := Option.bind_eq_some_iff.mp H
 obtain ⟨t103, A20, H⟩ := H
 have A2 := Aside0.mk A20
 clear A20
 by_cases c3 : t103 = true
 · subst c3
   rw [if_pos rfl] at H
   obtain rfl := Option.some.inj H
   go_enter Try.func115, Try.ntmps115
   go_wp2_with (((with_reducible refine gate_callee (f := 94) rfl ?_); refine goesL_ (some 4) rfl rfl Try.func94 (by kernel_rfl) rfl #[.int .u8 a0] rfl (by (try simp only [List.map_toArray, List.map_cons, List.map_nil]); first | rfl) ?_; (with_reducible refine (manystrandref01_small.calls a0 true _ A2.out).mono ?_); rintro e w' ⟨rfl, ⟨nd, rfl⟩⟩; refine ⟨_, rfl, ?_⟩))
   go_ret
   exact ⟨by first | rfl, by repeat (first | exact Drawn0.refl _ | apply Drawn0.step)⟩
 replace c3 := Bool.eq_false_iff.mpr c3
 subst c3
 rw [if_neg (show ¬ (false = true) by decide)] at H
 replace H := Option.bind_eq_some_iff.mp H
 obtain ⟨t104, A40, H⟩ := H
 have A4 := Aside0.mk A40
 clear A40
 by_cases c5 : t104 = true
 · subst c5
   rw [if_pos rfl] at H
   obtain rfl := Option.some.inj H
   go_enter Try.func115, Try.ntmps115
   go_wp2_with (first | ((with_reducible refine gate_callee (f := 94) rfl ?_); refine goesL_ (some 4) rfl rfl Try.func94 (by kernel_rfl) rfl #[.int .u8 a0] rfl (by (try simp only [List.map_toArray, List.map_cons, List.map_nil]); first | rfl) ?_; (with_reducible refine (manystrandref01_small.calls a0 false _ A2.out).mono ?_); rintro e w' ⟨rfl, ⟨nd, rfl⟩⟩; refine ⟨_, rfl, ?_⟩) | (go_at_call 131; (with_reducible refine (manystrandref01_great.calls a0 true _ A4.out).mono ?_); rintro e w' ⟨rfl, ⟨nd, rfl⟩⟩))
   go_ret
   exact ⟨by first | rfl, by repeat (first | exact Drawn0.refl _ | apply Drawn0.step)⟩
 replace c5 := Bool.eq_false_iff.mpr c5
 subst c5
 rw [if_neg (show ¬ (false = true) by decide)] at H
 replace H := Option.bind_eq_some_iff.mp H
 obtain ⟨t105, A60, H⟩ := H
 have A6 := Aside0.mk A60
 clear A60
 by_cases c7 : t105 = true
 · subst c7
   rw [if_pos rfl] at H
   obtain rfl := Option.some.inj H
   go_enter Try.func115, Try.ntmps115
   go_wp2_with (first | ((with_reducible refine gate_callee (f := 94) rfl ?_); refine goesL_ (some 4) rfl rfl Try.func94 (by kernel_rfl) rfl #[.int .u8 a0] rfl (by (try simp only [List.map_toArray, List.map_cons, List.map_nil]); first | rfl) ?_; (with_reducible refine (manystrandref01_small.calls a0 false _ A2.out).mono ?_); rintro e w' ⟨rfl, ⟨nd, rfl⟩⟩; refine ⟨_, rfl, ?_⟩) | (go_at_call 131; (with_reducible refine (manystrandref01_great.calls a0 false _ A4.out).mono ?_); rintro e w' ⟨rfl, ⟨nd, rfl⟩⟩) | (go_at_call 132; (with_reducible refine (manystrandref01_digit.calls a0 true _ A6.out).mono ?_); rintro e w' ⟨rfl, ⟨nd, rfl⟩⟩))
   go_ret
   exact ⟨by first | rfl, by repeat (first | exact Drawn0.refl _ | apply Drawn0.step)⟩
 replace c7 := Bool.eq_false_iff.mpr c7
 subst c7
 rw [if_neg (show ¬ (false = true) by decide)] at H
 obtain rfl := Option.some.inj H
 go_enter Try.func115, Try.ntmps115
 go_wp2_with (first | ((with_reducible refine gate_callee (f := 94) rfl ?_); refine goesL_ (some 4) rfl rfl Try.func94 (by kernel_rfl) rfl #[.int .u8 a0] rfl (by (try simp only [List.map_toArray, List.map_cons, List.map_nil]); first | rfl) ?_; (with_reducible refine (manystrandref01_small.calls a0 false _ A2.out).mono ?_); rintro e w' ⟨rfl, ⟨nd, rfl⟩⟩; refine ⟨_, rfl, ?_⟩) | (go_at_call 131; (with_reducible refine (manystrandref01_great.calls a0 false _ A4.out).mono ?_); rintro e w' ⟨rfl, ⟨nd, rfl⟩⟩) | (go_at_call 132; (with_reducible refine (manystrandref01_digit.calls a0 false _ A6.out).mono ?_); rintro e w' ⟨rfl, ⟨nd, rfl⟩⟩))
 go_ret
 exact ⟨by first | rfl, by repeat (first | exact Drawn0.refl _ | apply Drawn0.step)⟩
def manystrandref01_word.l0 : Nat → ByteArray → Int → Option (Bool)
 | 0, _, _ => none
 | k + 1, x0, x3 => if x3 < (x0.size : Int) then (if 0 ≤ x3 then ((manystrandref01_inner.f (bt x0 x3)).bind fun t106 => (if t106 = true then (manystrandref01_word.l0 k x0 (wrap64 (x3 + 1))) else (some false))) else (none)) else (if x0.toList = ([] : List UInt8) then (some false) else (some (decide ((x0.size : Int) ≤ 60))))
def manystrandref01_word.f (k : Nat) (a0 : ByteArray) : Option (Bool) := manystrandref01_word.l0 k a0 0
set_option maxHeartbeats 8000000 in
set_option maxRecDepth 100000 in
theorem manystrandref01_word.calls (k : Nat) (a0 : ByteArray) (r : Bool) (w : World) (h : manystrandref01_word.f k a0 = some r) :
 Calls Try.prog 93 #[.string a0] w fun e w' => e = .returned (.bool r) ∧ Drawn0 w w' := by
 have H : (manystrandref01_word.l0 k a0 0) = some r := h
 clear h
 have H' := Aside0.mk H
 clear H
 go_enter Try.func93, Try.ntmps93
 go_wp2
 go_loopg [3] k (fun kq v3 w' => ∃ (x3_1 : Int), v3 = .int .i64 x3_1 ∧ Aside0 (manystrandref01_word.l0 kq a0 x3_1 = some r) ∧ Aside0 (kq ≤ k) ∧ Drawn0 w w')
 case atStart => exact ⟨(0), rfl, H', ⟨Nat.le_refl _⟩, by repeat (first | exact Drawn0.refl _)⟩
 case round =>
  clear H'
  obtain ⟨x3_1, rfl, HA, HK1, ⟨m1, rfl⟩⟩ := hrel
  cases gk with
  | zero => exact absurd HA.out (by simp [manystrandref01_word.l0])
  | succ k1 =>
   have H := HA.out
   clear HA
   simp only [manystrandref01_word.l0] at H
   by_cases c2 : x3_1 < (a0.size : Int)
   rotate_left
   · rw [if_neg c2] at H
     have c2b0 := decide_eq_false c2
     clear c2
     by_cases c7 : a0.toList = ([] : List UInt8)
     rotate_left
     · rw [if_neg c7] at H
       have c7b0 := beq_eq_false_iff_ne.mpr c7
       have c7b1 := bne_iff_ne.mpr c7
       obtain rfl := Option.some.inj H
       go_wp2
       go_ret
       exact ⟨by first | rfl, by repeat (first | exact Drawn0.refl _ | apply Drawn0.step)⟩
     rw [if_pos c7] at H
     have c7b0 := beq_iff_eq.mpr c7
     have c7b1 := bne_eq_false_iff_eq.mpr c7
     clear c7
     obtain rfl := Option.some.inj H
     go_wp2
     go_ret
     exact ⟨by first | rfl, by repeat (first | exact Drawn0.refl _ | apply Drawn0.step)⟩
   rw [if_pos c2] at H
   have c2b0 := decide_eq_true c2
   clear c2
   obtain ⟨c3, H⟩ := gd H
   have c3b0 := decide_eq_true c3
   clear c3
   replace H := Option.bind_eq_some_iff.mp H
   obtain ⟨t106, A50, H⟩ := H
   have A5 := Aside0.mk A50
   clear A50
   by_cases c6 : t106 = true
   rotate_left
   · replace c6 := Bool.eq_false_iff.mpr c6
     subst c6
     rw [if_neg (show ¬ (false = true) by decide)] at H
     obtain rfl := Option.some.inj H
     have p4 : 0 ≤ (x3_1 : Int) := of_decide_eq_true (by assumption)
     have q4 : x3_1 < (a0.size : Int) := of_decide_eq_true (by assumption)
     have hx4 := bt_at a0 x3_1
     replace p4 := eq_true p4
     replace q4 := eq_true q4
     go_wp2_with (((with_reducible refine gate_callee (f := 115) rfl ?_); refine goesL_ (some 13) rfl rfl Try.func115 (by kernel_rfl) rfl #[.int .u8 (bt a0 x3_1)] rfl (by (try simp only [List.map_toArray, List.map_cons, List.map_nil]); first | rfl) ?_; (with_reducible refine (manystrandref01_inner.calls (bt a0 x3_1) false _ A5.out).mono ?_); rintro e w' ⟨rfl, ⟨nd, rfl⟩⟩; refine ⟨_, rfl, ?_⟩))
     go_ret
     exact ⟨by first | rfl, by repeat (first | exact Drawn0.refl _ | apply Drawn0.step)⟩
   subst c6
   rw [if_pos rfl] at H
   have H' := Aside0.mk H
   clear H
   have p4 : 0 ≤ (x3_1 : Int) := of_decide_eq_true (by assumption)
   have q4 : x3_1 < (a0.size : Int) := of_decide_eq_true (by assumption)
   have hx4 := bt_at a0 x3_1
   replace p4 := eq_true p4
   replace q4 := eq_true q4
   go_wp2_with (((with_reducible refine gate_callee (f := 115) rfl ?_); refine goesL_ (some 13) rfl rfl Try.func115 (by kernel_rfl) rfl #[.int .u8 (bt a0 x3_1)] rfl (by (try simp only [List.map_toArray, List.map_cons, List.map_nil]); first | rfl) ?_; (with_reducible refine (manystrandref01_inner.calls (bt a0 x3_1) true _ A5.out).mono ?_); rintro e w' ⟨rfl, ⟨nd, rfl⟩⟩; refine ⟨_, rfl, ?_⟩))
   go_roundg k1
   case measure => have := HK1.out; omega
   case rel => exact ⟨(wrap64 (x3_1 + 1)), rfl, H', ⟨by have := HK1.out; omega⟩, by repeat (first | exact Drawn0.refl _ | apply Drawn0.step)⟩
mutual
def manystrandref01_Among.l0 : Nat → ByteArray → ByteArray → Int → Option (Bool)
 | 0, _, _, _ => none
 | k + 1, x0, x1, x5 => if x5 < (x0.size : Int) then (if 0 ≤ x5 then (if (bt x0 x5) = 32 then (some false) else (manystrandref01_Among.l0 k x0 x1 (wrap64 (x5 + 1)))) else (none)) else (manystrandref01_Among.l1 k x0 x1 0)
def manystrandref01_Among.l1 : Nat → ByteArray → ByteArray → Int → Option (Bool)
 | 0, _, _, _ => none
 | k + 1, x0, x1, x6 => if (wrap64 ((wrap64 (x6 + (x0.size : Int))) + 2)) ≤ (x1.size : Int) then (if x0.toList = ([] : List UInt8) then (manystrandref01_Among.l1 k x0 x1 (wrap64 (x6 + 1))) else (if 0 ≤ x6 then (if x6 ≤ (wrap64 ((wrap64 (x6 + (x0.size : Int))) + 2)) then (if 1 + x0.size ≤ 9223372036854775807 then (if ((⟨#[32]⟩ : ByteArray) ++ x0).size + 1 ≤ 9223372036854775807 then (if (x1.extract (x6 : Int).toNat ((wrap64 ((wrap64 (x6 + (x0.size : Int))) + 2)) : Int).toNat).toList = (((⟨#[32]⟩ : ByteArray) ++ x0) ++ (⟨#[32]⟩ : ByteArray)).toList then (some true) else (manystrandref01_Among.l1 k x0 x1 (wrap64 (x6 + 1)))) else (none)) else (none)) else (none)) else (none))) else (some false)
end
def manystrandref01_Among.f (k : Nat) (a0 : ByteArray) (a1 : ByteArray) : Option (Bool) := manystrandref01_Among.l0 k a0 a1 0
set_option maxHeartbeats 8000000 in
set_option maxRecDepth 100000 in
theorem manystrandref01_Among.calls (k : Nat) (a0 : ByteArray) (a1 : ByteArray) (r : Bool) (w : World) (h : manystrandref01_Among.f k a0 a1 = some r) :
 Calls Try.prog 116 #[.string a0, .string a1] w fun e w' => e = .returned (.bool r) ∧ Drawn0 w w' := by
 have H : (manystrandref01_Among.l0 k a0 a1 0) = some r := h
 clear h
 have H' := Aside0.mk H
 clear H
 go_enter Try.func116, Try.ntmps116
 go_wp2
 go_loopg [5] k (fun kq v5 w' => ∃ (x5_1 : Int), v5 = .int .i64 x5_1 ∧ Aside0 (manystrandref01_Among.l0 kq a0 a1 x5_1 = some r) ∧ Aside0 (kq ≤ k) ∧ Drawn0 w w')
 case atStart => exact ⟨(0), rfl, H', ⟨Nat.le_refl _⟩, by repeat (first | exact Drawn0.refl _)⟩
 case round =>
  clear H'
  obtain ⟨x5_1, rfl, HA, HK1, ⟨m1, rfl⟩⟩ := hrel
  cases gk with
  | zero => exact absurd HA.out (by simp [manystrandref01_Among.l0])
  | succ k1 =>
   have H := HA.out
   clear HA
   simp only [manystrandref01_Among.l0] at H
   by_cases c3 : x5_1 < (a0.size : Int)
   · rw [if_pos c3] at H
     have c3b0 := decide_eq_true c3
     clear c3
     obtain ⟨c4, H⟩ := gd H
     have c4b0 := decide_eq_true c4
     clear c4
     by_cases c6 : (bt a0 x5_1) = 32
     · rw [if_pos c6] at H
       have c6b0 := beq_iff_eq.mpr c6
       have c6b1 := bne_eq_false_iff_eq.mpr c6
       clear c6
       obtain rfl := Option.some.inj H
       have p5 : 0 ≤ (x5_1 : Int) := of_decide_eq_true (by assumption)
       have q5 : x5_1 < (a0.size : Int) := of_decide_eq_true (by assumption)
       have hx5 := bt_at a0 x5_1
       replace p5 := eq_true p5
       replace q5 := eq_true q5
       go_wp2
       go_ret
       exact ⟨by first | rfl, by repeat (first | exact Drawn0.refl _ | apply Drawn0.step)⟩
     rw [if_neg c6] at H
     have c6b0 := beq_eq_false_iff_ne.mpr c6
     have c6b1 := bne_iff_ne.mpr c6
     have H' := Aside0.mk H
     clear H
     have p5 : 0 ≤ (x5_1 : Int) := of_decide_eq_true (by assumption)
     have q5 : x5_1 < (a0.size : Int) := of_decide_eq_true (by assumption)
     have hx5 := bt_at a0 x5_1
     replace p5 := eq_true p5
     replace q5 := eq_true q5
     go_wp2
     go_roundg k1
     case measure => have := HK1.out; omega
     case rel => exact ⟨(wrap64 (x5_1 + 1)), rfl, H', ⟨by have := HK1.out; omega⟩, by repeat (first | exact Drawn0.refl _ | apply Drawn0.step)⟩
   rw [if_neg c3] at H
   have c3b0 := decide_eq_false c3
   clear c3
   have H' := Aside0.mk H
   clear H
   go_wp2
   go_loopg [6] k1 (fun kq v6 w' => ∃ (x6_2 : Int), v6 = .int .i64 x6_2 ∧ Aside0 (manystrandref01_Among.l1 kq a0 a1 x6_2 = some r) ∧ Aside0 (kq ≤ k1) ∧ Drawn0 w w')
   case atStart => exact ⟨(0), rfl, H', ⟨Nat.le_refl _⟩, by repeat (first | exact Drawn0.refl _ | apply Drawn0.step)⟩
   case round =>
    clear H'
    clear c3b0
    obtain ⟨x6_2, rfl, HA, HK2, ⟨m2, rfl⟩⟩ := hrel
    cases gk with
    | zero => exact absurd HA.out (by simp [manystrandref01_Among.l1])
    | succ k2 =>
     have H := HA.out
     clear HA
     simp only [manystrandref01_Among.l1] at H
     by_cases c7 : (wrap64 ((wrap64 (x6_2 + (a0.size : Int))) + 2)) ≤ (a1.size : Int)
     rotate_left
     · rw [if_neg c7] at H
       have c7b0 := decide_eq_false c7
       clear c7
       obtain rfl := Option.some.inj H
       go_wp2
       go_ret
       exact ⟨by first | rfl, by repeat (first | exact Drawn0.refl _ | apply Drawn0.step)⟩
     rw [if_pos c7] at H
     have c7b0 := decide_eq_true c7
     clear c7
     by_cases c8 : a0.toList = ([] : List UInt8)
     · rw [if_pos c8] at H
       have c8b0 := beq_iff_eq.mpr c8
       have c8b1 := bne_eq_false_iff_eq.mpr c8
       clear c8
       have H' := Aside0.mk H
       clear H
       go_wp2
       go_roundg k2
       case measure => have := HK1.out; have := HK2.out; omega
       case rel => exact ⟨(wrap64 (x6_2 + 1)), rfl, H', ⟨by have := HK1.out; have := HK2.out; omega⟩, by repeat (first | exact Drawn0.refl _ | apply Drawn0.step)⟩
     rw [if_neg c8] at H
     have c8b0 := beq_eq_false_iff_ne.mpr c8
     have c8b1 := bne_iff_ne.mpr c8
     obtain ⟨c9, H⟩ := gd H
     have c9b0 := eq_true c9
     have c9b1 := decide_eq_true c9
     clear c9
     obtain ⟨c10, H⟩ := gd H
     have c10b0 := eq_true c10
     have c10b1 := decide_eq_true c10
     have c11b0 := eq_true (of_decide_eq_true (by assumption) : (wrap64 ((wrap64 (x6_2 + (a0.size : Int))) + 2)) ≤ (a1.size : Int))
     obtain ⟨c12, H⟩ := gd H
     have c12b0 := eq_true c12
     have c12b1 := decide_eq_true c12
     try have c12b2 : (9223372036854775807 < 1 + a0.size) = False := eq_false (Nat.not_lt.2 c12)
     obtain ⟨c13, H⟩ := gd H
     have c13b0 := eq_true c13
     have c13b1 := decide_eq_true c13
     try have c13b2 : (9223372036854775807 < ((⟨#[32]⟩ : ByteArray) ++ a0).size + 1) = False := eq_false (Nat.not_lt.2 c13)
     try have c13b3 : (9223372036854775807 < 1 + a0.size + 1) = False := eq_false (Nat.not_lt.2 (by have h_ := c13; simp only [ByteArray.size_append] at h_; exact h_))
     by_cases c14 : (a1.extract (x6_2 : Int).toNat ((wrap64 ((wrap64 (x6_2 + (a0.size : Int))) + 2)) : Int).toNat).toList = (((⟨#[32]⟩ : ByteArray) ++ a0) ++ (⟨#[32]⟩ : ByteArray)).toList
     · rw [if_pos c14] at H
       have c14b0 := beq_iff_eq.mpr c14
       have c14b1 := bne_eq_false_iff_eq.mpr c14
       clear c14
       obtain rfl := Option.some.inj H
       go_wp2
       go_ret
       exact ⟨by first | rfl, by repeat (first | exact Drawn0.refl _ | apply Drawn0.step)⟩
     rw [if_neg c14] at H
     have c14b0 := beq_eq_false_iff_ne.mpr c14
     have c14b1 := bne_iff_ne.mpr c14
     have H' := Aside0.mk H
     clear H
     go_wp2
     go_roundg k2
     case measure => have := HK1.out; have := HK2.out; omega
     case rel => exact ⟨(wrap64 (x6_2 + 1)), rfl, H', ⟨by have := HK1.out; have := HK2.out; omega⟩, by repeat (first | exact Drawn0.refl _ | apply Drawn0.step)⟩
def manystrandref01_IsKey.f (k : Nat) (a0 : ByteArray) : Option (Bool) := (manystrandref01_Among.f k a0 (⟨#[32, 97, 110, 100, 116, 104, 101, 110, 32, 97, 116, 32, 98, 121, 32, 99, 97, 115, 101, 32, 99, 97, 116, 99, 104, 32, 99, 104, 111, 105, 99, 101, 32, 100, 105, 118, 32, 100, 111, 32, 101, 97, 99, 104, 32, 101, 108, 115, 101, 32, 101, 110, 100, 32, 102, 111, 114, 32, 102, 117, 110, 32, 105, 102, 32, 105, 110, 32, 108, 97, 122, 121, 32, 108, 111, 99, 97, 108, 32, 108, 111, 99, 107, 32, 109, 111, 100, 32, 111, 114, 101, 108, 115, 101, 32, 112, 114, 111, 99, 32, 114, 97, 105, 115, 101, 32, 115, 107, 105, 112, 32, 116, 104, 101, 110, 32, 116, 104, 114, 101, 97, 100, 32, 116, 114, 121, 32, 111, 102, 32]⟩ : ByteArray)).bind fun t107 => (some t107)
set_option maxHeartbeats 8000000 in
set_option maxRecDepth 100000 in
theorem manystrandref01_IsKey.calls (k : Nat) (a0 : ByteArray) (r : Bool) (w : World) (h : manystrandref01_IsKey.f k a0 = some r) :
 Calls Try.prog 95 #[.string a0] w fun e w' => e = .returned (.bool r) ∧ Drawn0 w w' := by
 have H : ((manystrandref01_Among.f k a0 (⟨#[32, 97, 110, 100, 116, 104, 101, 110, 32, 97, 116, 32, 98, 121, 32, 99, 97, 115, 101, 32, 99, 97, 116, 99, 104, 32, 99, 104, 111, 105, 99, 101, 32, 100, 105, 118, 32, 100, 111, 32, 101, 97, 99, 104, 32, 101, 108, 115, 101, 32, 101, 110, 100, 32, 102, 111, 114, 32, 102, 117, 110, 32, 105, 102, 32, 105, 110, 32, 108, 97, 122, 121, 32, 108, 111, 99, 97, 108, 32, 108, 111, 99, 107, 32, 109, 111, 100, 32, 111, 114, 101, 108, 115, 101, 32, 112, 114, 111, 99, 32, 114, 97, 105, 115, 101, 32, 115, 107, 105, 112, 32, 116, 104, 101, 110, 32, 116, 104, 114, 101, 97, 100, 32, 116, 114, 121, 32, 111, 102, 32]⟩ : ByteArray)).bind fun t107 => (some t107)) = some r := h
 clear h
 replace H := Option.bind_eq_some_iff.mp H
 obtain ⟨t107, A20, H⟩ := H
 have A2 := Aside0.mk A20
 clear A20
 obtain rfl := Option.some.inj H
 go_enter Try.func95, Try.ntmps95
 go_wp2_with (((with_reducible refine gate_callee (f := 116) rfl ?_); refine goesL_ (some 4) rfl rfl Try.func116 (by kernel_rfl) rfl #[.string a0, .string (⟨#[32, 97, 110, 100, 116, 104, 101, 110, 32, 97, 116, 32, 98, 121, 32, 99, 97, 115, 101, 32, 99, 97, 116, 99, 104, 32, 99, 104, 111, 105, 99, 101, 32, 100, 105, 118, 32, 100, 111, 32, 101, 97, 99, 104, 32, 101, 108, 115, 101, 32, 101, 110, 100, 32, 102, 111, 114, 32, 102, 117, 110, 32, 105, 102, 32, 105, 110, 32, 108, 97, 122, 121, 32, 108, 111, 99, 97, 108, 32, 108, 111, 99, 107, 32, 109, 111, 100, 32, 111, 114, 101, 108, 115, 101, 32, 112, 114, 111, 99, 32, 114, 97, 105, 115, 101, 32, 115, 107, 105, 112, 32, 116, 104, 101, 110, 32, 116, 104, 114, 101, 97, 100, 32, 116, 114, 121, 32, 111, 102, 32]⟩ : ByteArray)] rfl (by (try simp only [List.map_toArray, List.map_cons, List.map_nil]); first | rfl) ?_; (with_reducible refine (manystrandref01_Among.calls k a0 (⟨#[32, 97, 110, 100, 116, 104, 101, 110, 32, 97, 116, 32, 98, 121, 32, 99, 97, 115, 101, 32, 99, 97, 116, 99, 104, 32, 99, 104, 111, 105, 99, 101, 32, 100, 105, 118, 32, 100, 111, 32, 101, 97, 99, 104, 32, 101, 108, 115, 101, 32, 101, 110, 100, 32, 102, 111, 114, 32, 102, 117, 110, 32, 105, 102, 32, 105, 110, 32, 108, 97, 122, 121, 32, 108, 111, 99, 97, 108, 32, 108, 111, 99, 107, 32, 109, 111, 100, 32, 111, 114, 101, 108, 115, 101, 32, 112, 114, 111, 99, 32, 114, 97, 105, 115, 101, 32, 115, 107, 105, 112, 32, 116, 104, 101, 110, 32, 116, 104, 114, 101, 97, 100, 32, 116, 114, 121, 32, 111, 102, 32]⟩ : ByteArray) t107 _ A2.out).mono ?_); rintro e w' ⟨rfl, ⟨nd, rfl⟩⟩; refine ⟨_, rfl, ?_⟩))
 go_ret
 exact ⟨by first | rfl, by repeat (first | exact Drawn0.refl _ | apply Drawn0.step)⟩
def manystrandref01_IsPlain.f (k : Nat) (a0 : ByteArray) : Option (Bool) := (manystrandref01_word.f k a0).bind fun t108 => (if t108 = true then (if 0 < (a0.size : Int) then ((manystrandref01_small.f (bt a0 0)).bind fun t109 => (if t109 = true then ((manystrandref01_IsKey.f k a0).bind fun t110 => (some (!t110))) else (some false))) else (none)) else (some false))
set_option maxHeartbeats 8000000 in
set_option maxRecDepth 100000 in
theorem manystrandref01_IsPlain.calls (k : Nat) (a0 : ByteArray) (r : Bool) (w : World) (h : manystrandref01_IsPlain.f k a0 = some r) :
 Calls Try.prog 68 #[.string a0] w fun e w' => e = .returned (.bool r) ∧ Drawn0 w w' := by
 have H : ((manystrandref01_word.f k a0).bind fun t108 => (if t108 = true then (if 0 < (a0.size : Int) then ((manystrandref01_small.f (bt a0 0)).bind fun t109 => (if t109 = true then ((manystrandref01_IsKey.f k a0).bind fun t110 => (some (!t110))) else (some false))) else (none)) else (some false))) = some r := h
 clear h
 replace H := Option.bind_eq_some_iff.mp H
 obtain ⟨t108, A20, H⟩ := H
 have A2 := Aside0.mk A20
 clear A20
 by_cases c3 : t108 = true
 rotate_left
 · replace c3 := Bool.eq_false_iff.mpr c3
   subst c3
   rw [if_neg (show ¬ (false = true) by decide)] at H
   obtain rfl := Option.some.inj H
   go_enter Try.func68, Try.ntmps68
   go_wp2_with (((with_reducible refine gate_callee (f := 93) rfl ?_); refine goesL_ (some 4) rfl rfl Try.func93 (by kernel_rfl) rfl #[.string a0] rfl (by (try simp only [List.map_toArray, List.map_cons, List.map_nil]); first | rfl) ?_; (with_reducible refine (manystrandref01_word.calls k a0 false _ A2.out).mono ?_); rintro e w' ⟨rfl, ⟨nd, rfl⟩⟩; refine ⟨_, rfl, ?_⟩))
   go_ret
   exact ⟨by first | rfl, by repeat (first | exact Drawn0.refl _ | apply Drawn0.step)⟩
 subst c3
 rw [if_pos rfl] at H
 obtain ⟨c4, H⟩ := gd H
 have c4b0 := decide_eq_true c4
 have c4b1 : decide (0 < a0.size) = true := decide_eq_true (by omega)
 clear c4
 replace H := Option.bind_eq_some_iff.mp H
 obtain ⟨t109, A60, H⟩ := H
 have A6 := Aside0.mk A60
 clear A60
 by_cases c7 : t109 = true
 rotate_left
 · replace c7 := Bool.eq_false_iff.mpr c7
   subst c7
   rw [if_neg (show ¬ (false = true) by decide)] at H
   obtain rfl := Option.some.inj H
   go_enter Try.func68, Try.ntmps68
   go_wp2_with (first | ((with_reducible refine gate_callee (f := 93) rfl ?_); refine goesL_ (some 4) rfl rfl Try.func93 (by kernel_rfl) rfl #[.string a0] rfl (by (try simp only [List.map_toArray, List.map_cons, List.map_nil]); first | rfl) ?_; (with_reducible refine (manystrandref01_word.calls k a0 true _ A2.out).mono ?_); rintro e w' ⟨rfl, ⟨nd, rfl⟩⟩; refine ⟨_, rfl, ?_⟩; have p5 : 0 ≤ (0 : Int) := (by omega); have q5 : 0 < a0.size := (by have : (0 : Int) < (a0.size : Int) := of_decide_eq_true (by assumption); omega); have hx5 : ∀ h : 0 < a0.size, ((a0[0]'h).toNat : Int) = bt a0 0 := bt_at a0 0; clear p5; have qi5 : (0 < (a0.size : Int)) = True := eq_true (of_decide_eq_true (by assumption)); replace q5 := eq_true q5) | (go_at_call 94; (with_reducible refine (manystrandref01_small.calls (bt a0 0) false _ A6.out).mono ?_); rintro e w' ⟨rfl, ⟨nd, rfl⟩⟩))
   go_ret
   exact ⟨by first | rfl, by repeat (first | exact Drawn0.refl _ | apply Drawn0.step)⟩
 subst c7
 rw [if_pos rfl] at H
 replace H := Option.bind_eq_some_iff.mp H
 obtain ⟨t110, A80, H⟩ := H
 have A8 := Aside0.mk A80
 clear A80
 obtain rfl := Option.some.inj H
 go_enter Try.func68, Try.ntmps68
 go_wp2_with (first | ((with_reducible refine gate_callee (f := 93) rfl ?_); refine goesL_ (some 4) rfl rfl Try.func93 (by kernel_rfl) rfl #[.string a0] rfl (by (try simp only [List.map_toArray, List.map_cons, List.map_nil]); first | rfl) ?_; (with_reducible refine (manystrandref01_word.calls k a0 true _ A2.out).mono ?_); rintro e w' ⟨rfl, ⟨nd, rfl⟩⟩; refine ⟨_, rfl, ?_⟩; have p5 : 0 ≤ (0 : Int) := (by omega); have q5 : 0 < a0.size := (by have : (0 : Int) < (a0.size : Int) := of_decide_eq_true (by assumption); omega); have hx5 : ∀ h : 0 < a0.size, ((a0[0]'h).toNat : Int) = bt a0 0 := bt_at a0 0; clear p5; have qi5 : (0 < (a0.size : Int)) = True := eq_true (of_decide_eq_true (by assumption)); replace q5 := eq_true q5) | (go_at_call 94; (with_reducible refine (manystrandref01_small.calls (bt a0 0) true _ A6.out).mono ?_); rintro e w' ⟨rfl, ⟨nd, rfl⟩⟩) | (go_at_call 95; (with_reducible refine (manystrandref01_IsKey.calls k a0 t110 _ A8.out).mono ?_); rintro e w' ⟨rfl, ⟨nd, rfl⟩⟩))
 go_ret
 exact ⟨by first | rfl, by repeat (first | exact Drawn0.refl _ | apply Drawn0.step)⟩
end Go.Proofs.Ytcnllhnhinmokaa.PHGr
end
section
namespace Go.Proofs.Ytcnllhnhinmokaa.PHGr
open Go.RowKit Go.Proofs.YtcnllhnhinmokaaW.PrintWords Go.Proofs.YtcnllhnhinmokaaW.PrintLast Go.Proofs.YtcnllhnhinmokaaW.PrintMore
attribute [local go_sem] max2_int min2_int max_two min_two max_three min_three max_four min_four
set_option linter.unusedVariables false
set_option linter.unusedSimpArgs false
def manystrandref01_inside.l0 : Nat → ByteArray → Int → Int → Option (Bool)
 | 0, _, _, _ => none
 | k + 1, x0, x1, x5 => if x5 < (x0.size : Int) then (if 0 ≤ x5 then (if (bt x0 x5) = 10 then (manystrandref01_inside.l0 k x0 x1 (wrap64 (x5 + 1))) else (if (bt x0 x5) < 32 then (some false) else (if (bt x0 x5) > 126 then (some false) else (manystrandref01_inside.l0 k x0 x1 (wrap64 (x5 + 1)))))) else (none)) else (some (decide ((x0.size : Int) ≤ x1)))
def manystrandref01_inside.f (k : Nat) (a0 : ByteArray) (a1 : Int) : Option (Bool) := manystrandref01_inside.l0 k a0 a1 0
set_option maxHeartbeats 8000000 in
set_option maxRecDepth 100000 in
theorem manystrandref01_inside.calls (k : Nat) (a0 : ByteArray) (a1 : Int) (r : Bool) (w : World) (h : manystrandref01_inside.f k a0 a1 = some r) :
 Calls Try.prog 134 #[.string a0, .int .i64 a1] w fun e w' => e = .returned (.bool r) ∧ Drawn0 w w' := by
 have H : (manystrandref01_inside.l0 k a0 a1 0) = some r := h
 clear h
 have H' := Aside0.mk H
 clear H
 go_enter Try.func134, Try.ntmps134
 go_wp2
 go_loopg [5] k (fun kq v5 w' => ∃ (x5_1 : Int), v5 = .int .i64 x5_1 ∧ Aside0 (manystrandref01_inside.l0 kq a0 a1 x5_1 = some r) ∧ Aside0 (kq ≤ k) ∧ Drawn0 w w')
 case atStart => exact ⟨(0), rfl, H', ⟨Nat.le_refl _⟩, by repeat (first | exact Drawn0.refl _)⟩
 case round =>
  clear H'
  obtain ⟨x5_1, rfl, HA, HK1, ⟨m1, rfl⟩⟩ := hrel
  cases gk with
  | zero => exact absurd HA.out (by simp [manystrandref01_inside.l0])
  | succ k1 =>
   have H := HA.out
   clear HA
   simp only [manystrandref01_inside.l0] at H
   by_cases c3 : x5_1 < (a0.size : Int)
   rotate_left
   · rw [if_neg c3] at H
     have c3b0 := decide_eq_false c3
     clear c3
     obtain rfl := Option.some.inj H
     go_wp2
     go_ret
     exact ⟨by first | rfl, by repeat (first | exact Drawn0.refl _ | apply Drawn0.step)⟩
   rw [if_pos c3] at H
   have c3b0 := decide_eq_true c3
   clear c3
   obtain ⟨c4, H⟩ := gd H
   have c4b0 := decide_eq_true c4
   clear c4
   by_cases c6 : (bt a0 x5_1) = 10
   · rw [if_pos c6] at H
     have c6b0 := beq_iff_eq.mpr c6
     have c6b1 := bne_eq_false_iff_eq.mpr c6
     clear c6
     have H' := Aside0.mk H
     clear H
     have p5 : 0 ≤ (x5_1 : Int) := of_decide_eq_true (by assumption)
     have q5 : x5_1 < (a0.size : Int) := of_decide_eq_true (by assumption)
     have hx5 := bt_at a0 x5_1
     replace p5 := eq_true p5
     replace q5 := eq_true q5
     go_wp2
     go_roundg k1
     case measure => have := HK1.out; omega
     case rel => exact ⟨(wrap64 (x5_1 + 1)), rfl, H', ⟨by have := HK1.out; omega⟩, by repeat (first | exact Drawn0.refl _ | apply Drawn0.step)⟩
   rw [if_neg c6] at H
   have c6b0 := beq_eq_false_iff_ne.mpr c6
   have c6b1 := bne_iff_ne.mpr c6
   by_cases c8 : (bt a0 x5_1) < 32
   · rw [if_pos c8] at H
     have c8b0 := decide_eq_true c8
     clear c8
     obtain rfl := Option.some.inj H
     have p5 : 0 ≤ (x5_1 : Int) := of_decide_eq_true (by assumption)
     have q5 : x5_1 < (a0.size : Int) := of_decide_eq_true (by assumption)
     have hx5 := bt_at a0 x5_1
     replace p5 := eq_true p5
     replace q5 := eq_true q5
     have p7 : 0 ≤ (x5_1 : Int) := of_decide_eq_true (by assumption)
     have q7 : x5_1 < (a0.size : Int) := of_decide_eq_true (by assumption)
     have hx7 := bt_at a0 x5_1
     replace p7 := eq_true p7
     replace q7 := eq_true q7
     go_wp2
     go_ret
     exact ⟨by first | rfl, by repeat (first | exact Drawn0.refl _ | apply Drawn0.step)⟩
   rw [if_neg c8] at H
   have c8b0 := decide_eq_false c8
   clear c8
   by_cases c10 : (bt a0 x5_1) > 126
   · rw [if_pos c10] at H
     have c10b0 := decide_eq_true c10
     clear c10
     obtain rfl := Option.some.inj H
     have p5 : 0 ≤ (x5_1 : Int) := of_decide_eq_true (by assumption)
     have q5 : x5_1 < (a0.size : Int) := of_decide_eq_true (by assumption)
     have hx5 := bt_at a0 x5_1
     replace p5 := eq_true p5
     replace q5 := eq_true q5
     have p7 : 0 ≤ (x5_1 : Int) := of_decide_eq_true (by assumption)
     have q7 : x5_1 < (a0.size : Int) := of_decide_eq_true (by assumption)
     have hx7 := bt_at a0 x5_1
     replace p7 := eq_true p7
     replace q7 := eq_true q7
     have p9 : 0 ≤ (x5_1 : Int) := of_decide_eq_true (by assumption)
     have q9 : x5_1 < (a0.size : Int) := of_decide_eq_true (by assumption)
     have hx9 := bt_at a0 x5_1
     replace p9 := eq_true p9
     replace q9 := eq_true q9
     go_wp2
     go_ret
     exact ⟨by first | rfl, by repeat (first | exact Drawn0.refl _ | apply Drawn0.step)⟩
   rw [if_neg c10] at H
   have c10b0 := decide_eq_false c10
   clear c10
   have H' := Aside0.mk H
   clear H
   have p5 : 0 ≤ (x5_1 : Int) := of_decide_eq_true (by assumption)
   have q5 : x5_1 < (a0.size : Int) := of_decide_eq_true (by assumption)
   have hx5 := bt_at a0 x5_1
   replace p5 := eq_true p5
   replace q5 := eq_true q5
   have p7 : 0 ≤ (x5_1 : Int) := of_decide_eq_true (by assumption)
   have q7 : x5_1 < (a0.size : Int) := of_decide_eq_true (by assumption)
   have hx7 := bt_at a0 x5_1
   replace p7 := eq_true p7
   replace q7 := eq_true q7
   have p9 : 0 ≤ (x5_1 : Int) := of_decide_eq_true (by assumption)
   have q9 : x5_1 < (a0.size : Int) := of_decide_eq_true (by assumption)
   have hx9 := bt_at a0 x5_1
   replace p9 := eq_true p9
   replace q9 := eq_true q9
   go_wp2
   go_roundg k1
   case measure => have := HK1.out; omega
   case rel => exact ⟨(wrap64 (x5_1 + 1)), rfl, H', ⟨by have := HK1.out; omega⟩, by repeat (first | exact Drawn0.refl _ | apply Drawn0.step)⟩
set_option maxHeartbeats 8000000 in
set_option maxRecDepth 100000 in
theorem manystrandref01_ValidAtom.calls (k : Nat) (a0_1 : ByteArray) (a0_2 : Int) (r : Bool) (w : World) (h : manystrandref01_inside.f k a0_1 60 = some r) :
 Calls Try.prog 117 #[.agg #[.string (⟨#[97, 116, 111, 109]⟩ : ByteArray), .string a0_1, .int .i64 a0_2]] w fun e w' => e = .returned (.bool r) ∧ Below w.heap.size w w' := by
 have hu164 := Try.underlying164
 have HB := Aside0.mk (Below.refl w.heap.size w)
 have c2b0 : ((⟨#[97, 116, 111, 109]⟩ : ByteArray).toList == ([118, 97, 114] : List UInt8)) = false := by rw [ByteArray.toList_eq]; rfl
 have c2b1 : ((⟨#[97, 116, 111, 109]⟩ : ByteArray).toList != ([118, 97, 114] : List UInt8)) = true := by rw [ByteArray.toList_eq]; rfl
 have c6b0 : ((⟨#[97, 116, 111, 109]⟩ : ByteArray).toList == ([97, 116, 111, 109] : List UInt8)) = true := by rw [ByteArray.toList_eq]; rfl
 have c6b1 : ((⟨#[97, 116, 111, 109]⟩ : ByteArray).toList != ([97, 116, 111, 109] : List UInt8)) = false := by rw [ByteArray.toList_eq]; rfl
 have A14 := Aside0.mk h
 go_enter Try.func117, Try.ntmps117
 go_wp2_with (first | ((with_reducible refine gate_dst (N := 1) rfl ?_); refine box_event ?hg (N := 1) ?hd (cs := #[.string (⟨#[97, 116, 111, 109]⟩ : ByteArray), .string a0_1, .int .i64 a0_2]) (t := 164) ?hr ?_; (case hd => rfl); (case hg => rfl); (case hr => (go_simp; done)); intro gb117 hg w8 hbox hb; have n0_ := Aside0.mk (below_step HB.out hb); have n1_ := Aside0.mk (hbox); have n2_ := Aside0.mk ((by rw [hg]; exact (below_size HB.out) : w.heap.size ≤ gb117)); have n3_ := Aside0.mk ((by rw [hg]; exact (below_size HB.out) : w.heap.size ≤ gb117)); clear HB; have HB := n0_; have BK117 := n1_; have GW117 := n2_; have GE117 := n3_; clear n0_ n1_ n2_ n3_; clear hb hbox hg; have hcz9_0 : w8.cell? ⟨gb117, 0, none⟩ = some (.string (⟨#[97, 116, 111, 109]⟩ : ByteArray)) := (blk_cell BK117.out 0).trans rfl; have hcz9_1 : w8.cell? ⟨gb117, 1, none⟩ = some (.string a0_1) := (blk_cell BK117.out 1).trans rfl; have hcz9_2 : w8.cell? ⟨gb117, 2, none⟩ = some (.int .i64 a0_2) := (blk_cell BK117.out 2).trans rfl; have hfz9_0 := blk_frozen BK117.out 0; have hfz9_1 := blk_frozen BK117.out 1; have hfz9_2 := blk_frozen BK117.out 2) | ((with_reducible refine gate_callee (f := 134) rfl ?_); refine goesL_ (some 14) rfl rfl Try.func134 (by kernel_rfl) rfl #[.string a0_1, .int .i64 60] rfl (by (try simp only [List.map_toArray, List.map_cons, List.map_nil]); first | rfl) ?_; (with_reducible refine (manystrandref01_inside.calls k a0_1 60 r _ A14.out).mono ?_); rintro e w' ⟨rfl, ⟨nd, rfl⟩⟩; refine ⟨_, rfl, ?_⟩))
 go_ret
 exact ⟨by first | rfl, by repeat ((with_reducible first | exact HB.out | apply pw_below_drewN))⟩
def manystrandref02_IsAtom.f (k : Nat) (a0 : ByteArray) : Option (Bool) := (manystrandref01_inside.f k a0 60).bind fun t125 => (some t125)
set_option maxHeartbeats 8000000 in
set_option maxRecDepth 100000 in
theorem manystrandref02_IsAtom.calls (k : Nat) (a0 : ByteArray) (r : Bool) (w : World) (h : manystrandref02_IsAtom.f k a0 = some r) :
 Calls Try.prog 96 #[.string a0] w fun e w' => e = .returned (.bool r) ∧ Below w.heap.size w w' := by
 have hu164 := Try.underlying164
 have HB := Aside0.mk (Below.refl w.heap.size w)
 have H : ((manystrandref01_inside.f k a0 60).bind fun t125 => (some t125)) = some r := h
 clear h
 replace H := Option.bind_eq_some_iff.mp H
 obtain ⟨t125, A20, H⟩ := H
 have A2 := Aside0.mk A20
 clear A20
 obtain rfl := Option.some.inj H
 go_enter Try.func96, Try.ntmps96
 go_wp2_with (((with_reducible refine gate_callee (f := 117) rfl ?_); refine goesL_ (some 5) rfl rfl Try.func117 (by kernel_rfl) rfl #[.agg #[.string (⟨#[97, 116, 111, 109]⟩ : ByteArray), .string a0, .int .i64 0]] rfl (by (try simp only [List.map_toArray, List.map_cons, List.map_nil]); first | rfl) ?_; (with_reducible refine (manystrandref01_ValidAtom.calls k a0 0 t125 _ A2.out).mono ?_); rintro e w3 ⟨rfl, hb⟩; refine ⟨_, rfl, ?_⟩; have n0_ := Aside0.mk (below_step HB.out hb); clear HB; have HB := n0_; clear n0_; (try clear hb)))
 go_ret
 exact ⟨by first | rfl, by exact HB.out⟩
end Go.Proofs.Ytcnllhnhinmokaa.PHGr
end
section
namespace Go.Proofs.Ytcnllhnhinmokaa.PHGr
open Go.RowKit Go.Proofs.YtcnllhnhinmokaaW.PrintWords Go.Proofs.YtcnllhnhinmokaaW.PrintLast Go.Proofs.YtcnllhnhinmokaaW.PrintMore
attribute [local go_sem] max2_int min2_int max_two min_two max_three min_three max_four min_four
set_option linter.unusedVariables false
set_option linter.unusedSimpArgs false
end Go.Proofs.Ytcnllhnhinmokaa.PHGr
end
section
namespace Go.Proofs.Ytcnllhnhinmokaa.PHGr
open Go.RowKit Go.Proofs.YtcnllhnhinmokaaW.PrintWords Go.Proofs.YtcnllhnhinmokaaW.PrintLast Go.Proofs.YtcnllhnhinmokaaW.PrintMore
attribute [local go_sem] max2_int min2_int max_two min_two max_three min_three max_four min_four
set_option linter.unusedVariables false
set_option linter.unusedSimpArgs false
end Go.Proofs.Ytcnllhnhinmokaa.PHGr
end
section
namespace Go.Proofs.Ytcnllhnhinmokaa.PHGr
open Go.RowKit Go.Proofs.YtcnllhnhinmokaaW.PrintWords Go.Proofs.YtcnllhnhinmokaaW.PrintLast Go.Proofs.YtcnllhnhinmokaaW.PrintMore
attribute [local go_sem] max2_int min2_int max_two min_two max_three min_three max_four min_four
set_option linter.unusedVariables false
set_option linter.unusedSimpArgs false
end Go.Proofs.Ytcnllhnhinmokaa.PHGr
end
section
namespace Go.Proofs.Ytcnllhnhinmokaa.PHGr
open Go.RowKit Go.Proofs.YtcnllhnhinmokaaW.PrintWords Go.Proofs.YtcnllhnhinmokaaW.PrintLast Go.Proofs.YtcnllhnhinmokaaW.PrintMore
attribute [local go_sem] max2_int min2_int max_two min_two max_three min_three max_four min_four
set_option linter.unusedVariables false
set_option linter.unusedSimpArgs false
def token_lower.f (a0 : Int) : Option (Bool) := if a0 ≥ 97 then (some (decide (a0 ≤ 122))) else (some false)
set_option maxHeartbeats 8000000 in
set_option maxRecDepth 100000 in
theorem token_lower.calls (a0 : Int) (r : Bool) (w : World) (h : token_lower.f a0 = some r) :
 Calls Try.prog 89 #[.int .u8 a0] w fun e w' => e = .returned (.bool r) ∧ Drawn0 w w' := by
 have H : (if a0 ≥ 97 then (some (decide (a0 ≤ 122))) else (some false)) = some r := h
 clear h
 by_cases c2 : a0 ≥ 97
 rotate_left
 · rw [if_neg c2] at H
   have c2b0 := decide_eq_false c2
   clear c2
   obtain rfl := Option.some.inj H
   go_enter Try.func89, Try.ntmps89
   go_wp2
   go_ret
   exact ⟨by first | rfl, by repeat (first | exact Drawn0.refl _)⟩
 rw [if_pos c2] at H
 have c2b0 := decide_eq_true c2
 clear c2
 obtain rfl := Option.some.inj H
 go_enter Try.func89, Try.ntmps89
 go_wp2
 go_ret
 exact ⟨by first | rfl, by repeat (first | exact Drawn0.refl _)⟩
def token_upper.f (a0 : Int) : Option (Bool) := if a0 ≥ 65 then (some (decide (a0 ≤ 90))) else (some false)
set_option maxHeartbeats 8000000 in
set_option maxRecDepth 100000 in
theorem token_upper.calls (a0 : Int) (r : Bool) (w : World) (h : token_upper.f a0 = some r) :
 Calls Try.prog 125 #[.int .u8 a0] w fun e w' => e = .returned (.bool r) ∧ Drawn0 w w' := by
 have H : (if a0 ≥ 65 then (some (decide (a0 ≤ 90))) else (some false)) = some r := h
 clear h
 by_cases c2 : a0 ≥ 65
 rotate_left
 · rw [if_neg c2] at H
   have c2b0 := decide_eq_false c2
   clear c2
   obtain rfl := Option.some.inj H
   go_enter Try.func125, Try.ntmps125
   go_wp2
   go_ret
   exact ⟨by first | rfl, by repeat (first | exact Drawn0.refl _)⟩
 rw [if_pos c2] at H
 have c2b0 := decide_eq_true c2
 clear c2
 obtain rfl := Option.some.inj H
 go_enter Try.func125, Try.ntmps125
 go_wp2
 go_ret
 exact ⟨by first | rfl, by repeat (first | exact Drawn0.refl _)⟩
def token_digit.f (a0 : Int) : Option (Bool) := if a0 ≥ 48 then (some (decide (a0 ≤ 57))) else (some false)
set_option maxHeartbeats 8000000 in
set_option maxRecDepth 100000 in
theorem token_digit.calls (a0 : Int) (r : Bool) (w : World) (h : token_digit.f a0 = some r) :
 Calls Try.prog 126 #[.int .u8 a0] w fun e w' => e = .returned (.bool r) ∧ Drawn0 w w' := by
 have H : (if a0 ≥ 48 then (some (decide (a0 ≤ 57))) else (some false)) = some r := h
 clear h
 by_cases c2 : a0 ≥ 48
 rotate_left
 · rw [if_neg c2] at H
   have c2b0 := decide_eq_false c2
   clear c2
   obtain rfl := Option.some.inj H
   go_enter Try.func126, Try.ntmps126
   go_wp2
   go_ret
   exact ⟨by first | rfl, by repeat (first | exact Drawn0.refl _)⟩
 rw [if_pos c2] at H
 have c2b0 := decide_eq_true c2
 clear c2
 obtain rfl := Option.some.inj H
 go_enter Try.func126, Try.ntmps126
 go_wp2
 go_ret
 exact ⟨by first | rfl, by repeat (first | exact Drawn0.refl _)⟩
def token_word.f (a0 : Int) : Option (Bool) := (token_upper.f a0).bind fun t156 => (if t156 = true then (some true) else ((token_lower.f a0).bind fun t157 => (if t157 = true then (some true) else ((token_digit.f a0).bind fun t158 => (if t158 = true then (some true) else (some (a0 == 95)))))))
set_option maxHeartbeats 8000000 in
set_option maxRecDepth 100000 in
theorem token_word.calls (a0 : Int) (r : Bool) (w : World) (h : token_word.f a0 = some r) :
 Calls Try.prog 113 #[.int .u8 a0] w fun e w' => e = .returned (.bool r) ∧ Drawn0 w w' := by
 have H : ((token_upper.f a0).bind fun t156 => (if t156 = true then (some true) else ((token_lower.f a0).bind fun t157 => (if t157 = true then (some true) else ((token_digit.f a0).bind fun t158 => (if t158 = true then (some true) else (some (a0 == 95)))))))) = some r := h
 clear h
 replace H := Option.bind_eq_some_iff.mp H
 obtain ⟨t156, A20, H⟩ := H
 have A2 := Aside0.mk A20
 clear A20
 by_cases c3 : t156 = true
 · subst c3
   rw [if_pos rfl] at H
   obtain rfl := Option.some.inj H
   go_enter Try.func113, Try.ntmps113
   go_wp2_with (((with_reducible refine gate_callee (f := 125) rfl ?_); refine goesL_ (some 4) rfl rfl Try.func125 (by kernel_rfl) rfl #[.int .u8 a0] rfl (by (try simp only [List.map_toArray, List.map_cons, List.map_nil]); first | rfl) ?_; (with_reducible refine (token_upper.calls a0 true _ A2.out).mono ?_); rintro e w' ⟨rfl, ⟨nd, rfl⟩⟩; refine ⟨_, rfl, ?_⟩))
   go_ret
   exact ⟨by first | rfl, by repeat (first | exact Drawn0.refl _ | apply Drawn0.step)⟩
 replace c3 := Bool.eq_false_iff.mpr c3
 subst c3
 rw [if_neg (show ¬ (false = true) by decide)] at H
 replace H := Option.bind_eq_some_iff.mp H
 obtain ⟨t157, A40, H⟩ := H
 have A4 := Aside0.mk A40
 clear A40
 by_cases c5 : t157 = true
 · subst c5
   rw [if_pos rfl] at H
   obtain rfl := Option.some.inj H
   go_enter Try.func113, Try.ntmps113
   go_wp2_with (first | ((with_reducible refine gate_callee (f := 125) rfl ?_); refine goesL_ (some 4) rfl rfl Try.func125 (by kernel_rfl) rfl #[.int .u8 a0] rfl (by (try simp only [List.map_toArray, List.map_cons, List.map_nil]); first | rfl) ?_; (with_reducible refine (token_upper.calls a0 false _ A2.out).mono ?_); rintro e w' ⟨rfl, ⟨nd, rfl⟩⟩; refine ⟨_, rfl, ?_⟩) | (go_at_call 89; (with_reducible refine (token_lower.calls a0 true _ A4.out).mono ?_); rintro e w' ⟨rfl, ⟨nd, rfl⟩⟩))
   go_ret
   exact ⟨by first | rfl, by repeat (first | exact Drawn0.refl _ | apply Drawn0.step)⟩
 replace c5 := Bool.eq_false_iff.mpr c5
 subst c5
 rw [if_neg (show ¬ (false = true) by decide)] at H
 replace H := Option.bind_eq_some_iff.mp H
 obtain ⟨t158, A60, H⟩ := H
 have A6 := Aside0.mk A60
 clear A60
 by_cases c7 : t158 = true
 · subst c7
   rw [if_pos rfl] at H
   obtain rfl := Option.some.inj H
   go_enter Try.func113, Try.ntmps113
   go_wp2_with (first | ((with_reducible refine gate_callee (f := 125) rfl ?_); refine goesL_ (some 4) rfl rfl Try.func125 (by kernel_rfl) rfl #[.int .u8 a0] rfl (by (try simp only [List.map_toArray, List.map_cons, List.map_nil]); first | rfl) ?_; (with_reducible refine (token_upper.calls a0 false _ A2.out).mono ?_); rintro e w' ⟨rfl, ⟨nd, rfl⟩⟩; refine ⟨_, rfl, ?_⟩) | (go_at_call 89; (with_reducible refine (token_lower.calls a0 false _ A4.out).mono ?_); rintro e w' ⟨rfl, ⟨nd, rfl⟩⟩) | (go_at_call 126; (with_reducible refine (token_digit.calls a0 true _ A6.out).mono ?_); rintro e w' ⟨rfl, ⟨nd, rfl⟩⟩))
   go_ret
   exact ⟨by first | rfl, by repeat (first | exact Drawn0.refl _ | apply Drawn0.step)⟩
 replace c7 := Bool.eq_false_iff.mpr c7
 subst c7
 rw [if_neg (show ¬ (false = true) by decide)] at H
 obtain rfl := Option.some.inj H
 go_enter Try.func113, Try.ntmps113
 go_wp2_with (first | ((with_reducible refine gate_callee (f := 125) rfl ?_); refine goesL_ (some 4) rfl rfl Try.func125 (by kernel_rfl) rfl #[.int .u8 a0] rfl (by (try simp only [List.map_toArray, List.map_cons, List.map_nil]); first | rfl) ?_; (with_reducible refine (token_upper.calls a0 false _ A2.out).mono ?_); rintro e w' ⟨rfl, ⟨nd, rfl⟩⟩; refine ⟨_, rfl, ?_⟩) | (go_at_call 89; (with_reducible refine (token_lower.calls a0 false _ A4.out).mono ?_); rintro e w' ⟨rfl, ⟨nd, rfl⟩⟩) | (go_at_call 126; (with_reducible refine (token_digit.calls a0 false _ A6.out).mono ?_); rintro e w' ⟨rfl, ⟨nd, rfl⟩⟩))
 go_ret
 exact ⟨by first | rfl, by repeat (first | exact Drawn0.refl _ | apply Drawn0.step)⟩
def token_words.l0 : Nat → ByteArray → Int → Int → Option (Bool)
 | 0, _, _, _ => none
 | k + 1, x0, x5, x6 => if x6 < x5 then (if 0 ≤ x6 then (if x6 < (x0.size : Int) then ((token_word.f (bt x0 x6)).bind fun t159 => (if t159 = true then (token_words.l0 k x0 x5 (wrap64 (x6 + 1))) else (some false))) else (none)) else (none)) else (some true)
def token_words.f (k : Nat) (a0 : ByteArray) : Option (Bool) := token_words.l0 k a0 (a0.size : Int) 0
set_option maxHeartbeats 8000000 in
set_option maxRecDepth 100000 in
theorem token_words.calls (k : Nat) (a0 : ByteArray) (r : Bool) (w : World) (h : token_words.f k a0 = some r) :
 Calls Try.prog 90 #[.string a0] w fun e w' => e = .returned (.bool r) ∧ Drawn0 w w' := by
 have H : (token_words.l0 k a0 (a0.size : Int) 0) = some r := h
 clear h
 have H' := Aside0.mk H
 clear H
 go_enter Try.func90, Try.ntmps90
 go_wp2
 go_loopg [6] k (fun kq v6 w' => ∃ (x6_1 : Int), v6 = .int .i64 x6_1 ∧ Aside0 (token_words.l0 kq a0 (a0.size : Int) x6_1 = some r) ∧ Aside0 (kq ≤ k) ∧ Drawn0 w w')
 case atStart => exact ⟨(0), rfl, H', ⟨Nat.le_refl _⟩, by repeat (first | exact Drawn0.refl _)⟩
 case round =>
  clear H'
  obtain ⟨x6_1, rfl, HA, HK1, ⟨m1, rfl⟩⟩ := hrel
  cases gk with
  | zero => exact absurd HA.out (by simp [token_words.l0])
  | succ k1 =>
   have H := HA.out
   clear HA
   simp only [token_words.l0] at H
   by_cases c2 : x6_1 < (a0.size : Int)
   rotate_left
   · rw [if_neg c2] at H
     have c2b0 := decide_eq_false c2
     clear c2
     obtain rfl := Option.some.inj H
     go_wp2
     go_ret
     exact ⟨by first | rfl, by repeat (first | exact Drawn0.refl _ | apply Drawn0.step)⟩
   rw [if_pos c2] at H
   have c2b0 := decide_eq_true c2
   clear c2
   obtain ⟨c3, H⟩ := gd H
   have c3b0 := decide_eq_true c3
   clear c3
   obtain ⟨c4, H⟩ := gd H
   have c4b0 := decide_eq_true c4
   clear c4
   replace H := Option.bind_eq_some_iff.mp H
   obtain ⟨t159, A60, H⟩ := H
   have A6 := Aside0.mk A60
   clear A60
   by_cases c7 : t159 = true
   rotate_left
   · replace c7 := Bool.eq_false_iff.mpr c7
     subst c7
     rw [if_neg (show ¬ (false = true) by decide)] at H
     obtain rfl := Option.some.inj H
     have p5 : 0 ≤ (x6_1 : Int) := of_decide_eq_true (by assumption)
     have q5 : x6_1 < (a0.size : Int) := of_decide_eq_true (by assumption)
     have hx5 := bt_at a0 x6_1
     replace p5 := eq_true p5
     replace q5 := eq_true q5
     go_wp2_with (((with_reducible refine gate_callee (f := 113) rfl ?_); refine goesL_ (some 12) rfl rfl Try.func113 (by kernel_rfl) rfl #[.int .u8 (bt a0 x6_1)] rfl (by (try simp only [List.map_toArray, List.map_cons, List.map_nil]); first | rfl) ?_; (with_reducible refine (token_word.calls (bt a0 x6_1) false _ A6.out).mono ?_); rintro e w' ⟨rfl, ⟨nd, rfl⟩⟩; refine ⟨_, rfl, ?_⟩))
     go_ret
     exact ⟨by first | rfl, by repeat (first | exact Drawn0.refl _ | apply Drawn0.step)⟩
   subst c7
   rw [if_pos rfl] at H
   have H' := Aside0.mk H
   clear H
   have p5 : 0 ≤ (x6_1 : Int) := of_decide_eq_true (by assumption)
   have q5 : x6_1 < (a0.size : Int) := of_decide_eq_true (by assumption)
   have hx5 := bt_at a0 x6_1
   replace p5 := eq_true p5
   replace q5 := eq_true q5
   go_wp2_with (((with_reducible refine gate_callee (f := 113) rfl ?_); refine goesL_ (some 12) rfl rfl Try.func113 (by kernel_rfl) rfl #[.int .u8 (bt a0 x6_1)] rfl (by (try simp only [List.map_toArray, List.map_cons, List.map_nil]); first | rfl) ?_; (with_reducible refine (token_word.calls (bt a0 x6_1) true _ A6.out).mono ?_); rintro e w' ⟨rfl, ⟨nd, rfl⟩⟩; refine ⟨_, rfl, ?_⟩))
   go_roundg k1
   case measure => have := HK1.out; omega
   case rel => exact ⟨(wrap64 (x6_1 + 1)), rfl, H', ⟨by have := HK1.out; omega⟩, by repeat (first | exact Drawn0.refl _ | apply Drawn0.step)⟩
end Go.Proofs.Ytcnllhnhinmokaa.PHGr
end
section
namespace Go.Proofs.Ytcnllhnhinmokaa.PHGr
open Go.RowKit Go.Proofs.YtcnllhnhinmokaaW.PrintWords Go.Proofs.YtcnllhnhinmokaaW.PrintLast Go.Proofs.YtcnllhnhinmokaaW.PrintMore
attribute [local go_sem] max2_int min2_int max_two min_two max_three min_three max_four min_four
set_option linter.unusedVariables false
set_option linter.unusedSimpArgs false
def token_isKey.f (a0 : ByteArray) : Option (Bool) := if a0.toList = ([97, 110, 100, 116, 104, 101, 110] : List UInt8) then (some true) else (if a0.toList = ([97, 116] : List UInt8) then (some true) else (if a0.toList = ([98, 121] : List UInt8) then (some true) else (if a0.toList = ([99, 97, 115, 101] : List UInt8) then (some true) else (if a0.toList = ([99, 97, 116, 99, 104] : List UInt8) then (some true) else (if a0.toList = ([99, 104, 111, 105, 99, 101] : List UInt8) then (some true) else (if a0.toList = ([100, 105, 118] : List UInt8) then (some true) else (if a0.toList = ([100, 111] : List UInt8) then (some true) else (if a0.toList = ([101, 97, 99, 104] : List UInt8) then (some true) else (if a0.toList = ([101, 108, 115, 101] : List UInt8) then (some true) else (if a0.toList = ([101, 110, 100] : List UInt8) then (some true) else (if a0.toList = ([102, 111, 114] : List UInt8) then (some true) else (if a0.toList = ([102, 117, 110] : List UInt8) then (some true) else (if a0.toList = ([105, 102] : List UInt8) then (some true) else (if a0.toList = ([105, 110] : List UInt8) then (some true) else (if a0.toList = ([108, 97, 122, 121] : List UInt8) then (some true) else (if a0.toList = ([108, 111, 99, 97, 108] : List UInt8) then (some true) else (if a0.toList = ([108, 111, 99, 107] : List UInt8) then (some true) else (if a0.toList = ([109, 111, 100] : List UInt8) then (some true) else (if a0.toList = ([111, 114, 101, 108, 115, 101] : List UInt8) then (some true) else (if a0.toList = ([112, 114, 111, 99] : List UInt8) then (some true) else (if a0.toList = ([114, 97, 105, 115, 101] : List UInt8) then (some true) else (if a0.toList = ([115, 107, 105, 112] : List UInt8) then (some true) else (if a0.toList = ([116, 104, 101, 110] : List UInt8) then (some true) else (if a0.toList = ([116, 104, 114, 101, 97, 100] : List UInt8) then (some true) else (if a0.toList = ([116, 114, 121] : List UInt8) then (some true) else (if a0.toList = ([111, 102] : List UInt8) then (some true) else (some false)))))))))))))))))))))))))))
set_option maxHeartbeats 8000000 in
set_option maxRecDepth 100000 in
theorem token_isKey.calls (a0 : ByteArray) (r : Bool) (w : World) (h : token_isKey.f a0 = some r) :
 Calls Try.prog 91 #[.string a0] w fun e w' => e = .returned (.bool r) ∧ Drawn0 w w' := by
 have H : (if a0.toList = ([97, 110, 100, 116, 104, 101, 110] : List UInt8) then (some true) else (if a0.toList = ([97, 116] : List UInt8) then (some true) else (if a0.toList = ([98, 121] : List UInt8) then (some true) else (if a0.toList = ([99, 97, 115, 101] : List UInt8) then (some true) else (if a0.toList = ([99, 97, 116, 99, 104] : List UInt8) then (some true) else (if a0.toList = ([99, 104, 111, 105, 99, 101] : List UInt8) then (some true) else (if a0.toList = ([100, 105, 118] : List UInt8) then (some true) else (if a0.toList = ([100, 111] : List UInt8) then (some true) else (if a0.toList = ([101, 97, 99, 104] : List UInt8) then (some true) else (if a0.toList = ([101, 108, 115, 101] : List UInt8) then (some true) else (if a0.toList = ([101, 110, 100] : List UInt8) then (some true) else (if a0.toList = ([102, 111, 114] : List UInt8) then (some true) else (if a0.toList = ([102, 117, 110] : List UInt8) then (some true) else (if a0.toList = ([105, 102] : List UInt8) then (some true) else (if a0.toList = ([105, 110] : List UInt8) then (some true) else (if a0.toList = ([108, 97, 122, 121] : List UInt8) then (some true) else (if a0.toList = ([108, 111, 99, 97, 108] : List UInt8) then (some true) else (if a0.toList = ([108, 111, 99, 107] : List UInt8) then (some true) else (if a0.toList = ([109, 111, 100] : List UInt8) then (some true) else (if a0.toList = ([111, 114, 101, 108, 115, 101] : List UInt8) then (some true) else (if a0.toList = ([112, 114, 111, 99] : List UInt8) then (some true) else (if a0.toList = ([114, 97, 105, 115, 101] : List UInt8) then (some true) else (if a0.toList = ([115, 107, 105, 112] : List UInt8) then (some true) else (if a0.toList = ([116, 104, 101, 110] : List UInt8) then (some true) else (if a0.toList = ([116, 104, 114, 101, 97, 100] : List UInt8) then (some true) else (if a0.toList = ([116, 114, 121] : List UInt8) then (some true) else (if a0.toList = ([111, 102] : List UInt8) then (some true) else (some false)))))))))))))))))))))))))))) = some r := h
 clear h
 by_cases c2 : a0.toList = ([97, 110, 100, 116, 104, 101, 110] : List UInt8)
 · rw [if_pos c2] at H
   have c2b0 := beq_iff_eq.mpr c2
   have c2b1 := bne_eq_false_iff_eq.mpr c2
   clear c2
   obtain rfl := Option.some.inj H
   go_enter Try.func91, Try.ntmps91
   go_wp2
   go_ret
   exact ⟨by first | rfl, by repeat (first | exact Drawn0.refl _)⟩
 rw [if_neg c2] at H
 have c2b0 := beq_eq_false_iff_ne.mpr c2
 have c2b1 := bne_iff_ne.mpr c2
 by_cases c3 : a0.toList = ([97, 116] : List UInt8)
 · rw [if_pos c3] at H
   have c3b0 := beq_iff_eq.mpr c3
   have c3b1 := bne_eq_false_iff_eq.mpr c3
   clear c3
   obtain rfl := Option.some.inj H
   go_enter Try.func91, Try.ntmps91
   go_wp2
   go_ret
   exact ⟨by first | rfl, by repeat (first | exact Drawn0.refl _)⟩
 rw [if_neg c3] at H
 have c3b0 := beq_eq_false_iff_ne.mpr c3
 have c3b1 := bne_iff_ne.mpr c3
 by_cases c4 : a0.toList = ([98, 121] : List UInt8)
 · rw [if_pos c4] at H
   have c4b0 := beq_iff_eq.mpr c4
   have c4b1 := bne_eq_false_iff_eq.mpr c4
   clear c4
   obtain rfl := Option.some.inj H
   go_enter Try.func91, Try.ntmps91
   go_wp2
   go_ret
   exact ⟨by first | rfl, by repeat (first | exact Drawn0.refl _)⟩
 rw [if_neg c4] at H
 have c4b0 := beq_eq_false_iff_ne.mpr c4
 have c4b1 := bne_iff_ne.mpr c4
 by_cases c5 : a0.toList = ([99, 97, 115, 101] : List UInt8)
 · rw [if_pos c5] at H
   have c5b0 := beq_iff_eq.mpr c5
   have c5b1 := bne_eq_false_iff_eq.mpr c5
   clear c5
   obtain rfl := Option.some.inj H
   go_enter Try.func91, Try.ntmps91
   go_wp2
   go_ret
   exact ⟨by first | rfl, by repeat (first | exact Drawn0.refl _)⟩
 rw [if_neg c5] at H
 have c5b0 := beq_eq_false_iff_ne.mpr c5
 have c5b1 := bne_iff_ne.mpr c5
 by_cases c6 : a0.toList = ([99, 97, 116, 99, 104] : List UInt8)
 · rw [if_pos c6] at H
   have c6b0 := beq_iff_eq.mpr c6
   have c6b1 := bne_eq_false_iff_eq.mpr c6
   clear c6
   obtain rfl := Option.some.inj H
   go_enter Try.func91, Try.ntmps91
   go_wp2
   go_ret
   exact ⟨by first | rfl, by repeat (first | exact Drawn0.refl _)⟩
 rw [if_neg c6] at H
 have c6b0 := beq_eq_false_iff_ne.mpr c6
 have c6b1 := bne_iff_ne.mpr c6
 by_cases c7 : a0.toList = ([99, 104, 111, 105, 99, 101] : List UInt8)
 · rw [if_pos c7] at H
   have c7b0 := beq_iff_eq.mpr c7
   have c7b1 := bne_eq_false_iff_eq.mpr c7
   clear c7
   obtain rfl := Option.some.inj H
   go_enter Try.func91, Try.ntmps91
   go_wp2
   go_ret
   exact ⟨by first | rfl, by repeat (first | exact Drawn0.refl _)⟩
 rw [if_neg c7] at H
 have c7b0 := beq_eq_false_iff_ne.mpr c7
 have c7b1 := bne_iff_ne.mpr c7
 by_cases c8 : a0.toList = ([100, 105, 118] : List UInt8)
 · rw [if_pos c8] at H
   have c8b0 := beq_iff_eq.mpr c8
   have c8b1 := bne_eq_false_iff_eq.mpr c8
   clear c8
   obtain rfl := Option.some.inj H
   go_enter Try.func91, Try.ntmps91
   go_wp2
   go_ret
   exact ⟨by first | rfl, by repeat (first | exact Drawn0.refl _)⟩
 rw [if_neg c8] at H
 have c8b0 := beq_eq_false_iff_ne.mpr c8
 have c8b1 := bne_iff_ne.mpr c8
 by_cases c9 : a0.toList = ([100, 111] : List UInt8)
 · rw [if_pos c9] at H
   have c9b0 := beq_iff_eq.mpr c9
   have c9b1 := bne_eq_false_iff_eq.mpr c9
   clear c9
   obtain rfl := Option.some.inj H
   go_enter Try.func91, Try.ntmps91
   go_wp2
   go_ret
   exact ⟨by first | rfl, by repeat (first | exact Drawn0.refl _)⟩
 rw [if_neg c9] at H
 have c9b0 := beq_eq_false_iff_ne.mpr c9
 have c9b1 := bne_iff_ne.mpr c9
 by_cases c10 : a0.toList = ([101, 97, 99, 104] : List UInt8)
 · rw [if_pos c10] at H
   have c10b0 := beq_iff_eq.mpr c10
   have c10b1 := bne_eq_false_iff_eq.mpr c10
   clear c10
   obtain rfl := Option.some.inj H
   go_enter Try.func91, Try.ntmps91
   go_wp2
   go_ret
   exact ⟨by first | rfl, by repeat (first | exact Drawn0.refl _)⟩
 rw [if_neg c10] at H
 have c10b0 := beq_eq_false_iff_ne.mpr c10
 have c10b1 := bne_iff_ne.mpr c10
 by_cases c11 : a0.toList = ([101, 108, 115, 101] : List UInt8)
 · rw [if_pos c11] at H
   have c11b0 := beq_iff_eq.mpr c11
   have c11b1 := bne_eq_false_iff_eq.mpr c11
   clear c11
   obtain rfl := Option.some.inj H
   go_enter Try.func91, Try.ntmps91
   go_wp2
   go_ret
   exact ⟨by first | rfl, by repeat (first | exact Drawn0.refl _)⟩
 rw [if_neg c11] at H
 have c11b0 := beq_eq_false_iff_ne.mpr c11
 have c11b1 := bne_iff_ne.mpr c11
 by_cases c12 : a0.toList = ([101, 110, 100] : List UInt8)
 · rw [if_pos c12] at H
   have c12b0 := beq_iff_eq.mpr c12
   have c12b1 := bne_eq_false_iff_eq.mpr c12
   clear c12
   obtain rfl := Option.some.inj H
   go_enter Try.func91, Try.ntmps91
   go_wp2
   go_ret
   exact ⟨by first | rfl, by repeat (first | exact Drawn0.refl _)⟩
 rw [if_neg c12] at H
 have c12b0 := beq_eq_false_iff_ne.mpr c12
 have c12b1 := bne_iff_ne.mpr c12
 by_cases c13 : a0.toList = ([102, 111, 114] : List UInt8)
 · rw [if_pos c13] at H
   have c13b0 := beq_iff_eq.mpr c13
   have c13b1 := bne_eq_false_iff_eq.mpr c13
   clear c13
   obtain rfl := Option.some.inj H
   go_enter Try.func91, Try.ntmps91
   go_wp2
   go_ret
   exact ⟨by first | rfl, by repeat (first | exact Drawn0.refl _)⟩
 rw [if_neg c13] at H
 have c13b0 := beq_eq_false_iff_ne.mpr c13
 have c13b1 := bne_iff_ne.mpr c13
 by_cases c14 : a0.toList = ([102, 117, 110] : List UInt8)
 · rw [if_pos c14] at H
   have c14b0 := beq_iff_eq.mpr c14
   have c14b1 := bne_eq_false_iff_eq.mpr c14
   clear c14
   obtain rfl := Option.some.inj H
   go_enter Try.func91, Try.ntmps91
   go_wp2
   go_ret
   exact ⟨by first | rfl, by repeat (first | exact Drawn0.refl _)⟩
 rw [if_neg c14] at H
 have c14b0 := beq_eq_false_iff_ne.mpr c14
 have c14b1 := bne_iff_ne.mpr c14
 by_cases c15 : a0.toList = ([105, 102] : List UInt8)
 · rw [if_pos c15] at H
   have c15b0 := beq_iff_eq.mpr c15
   have c15b1 := bne_eq_false_iff_eq.mpr c15
   clear c15
   obtain rfl := Option.some.inj H
   go_enter Try.func91, Try.ntmps91
   go_wp2
   go_ret
   exact ⟨by first | rfl, by repeat (first | exact Drawn0.refl _)⟩
 rw [if_neg c15] at H
 have c15b0 := beq_eq_false_iff_ne.mpr c15
 have c15b1 := bne_iff_ne.mpr c15
 by_cases c16 : a0.toList = ([105, 110] : List UInt8)
 · rw [if_pos c16] at H
   have c16b0 := beq_iff_eq.mpr c16
   have c16b1 := bne_eq_false_iff_eq.mpr c16
   clear c16
   obtain rfl := Option.some.inj H
   go_enter Try.func91, Try.ntmps91
   go_wp2
   go_ret
   exact ⟨by first | rfl, by repeat (first | exact Drawn0.refl _)⟩
 rw [if_neg c16] at H
 have c16b0 := beq_eq_false_iff_ne.mpr c16
 have c16b1 := bne_iff_ne.mpr c16
 by_cases c17 : a0.toList = ([108, 97, 122, 121] : List UInt8)
 · rw [if_pos c17] at H
   have c17b0 := beq_iff_eq.mpr c17
   have c17b1 := bne_eq_false_iff_eq.mpr c17
   clear c17
   obtain rfl := Option.some.inj H
   go_enter Try.func91, Try.ntmps91
   go_wp2
   go_ret
   exact ⟨by first | rfl, by repeat (first | exact Drawn0.refl _)⟩
 rw [if_neg c17] at H
 have c17b0 := beq_eq_false_iff_ne.mpr c17
 have c17b1 := bne_iff_ne.mpr c17
 by_cases c18 : a0.toList = ([108, 111, 99, 97, 108] : List UInt8)
 · rw [if_pos c18] at H
   have c18b0 := beq_iff_eq.mpr c18
   have c18b1 := bne_eq_false_iff_eq.mpr c18
   clear c18
   obtain rfl := Option.some.inj H
   go_enter Try.func91, Try.ntmps91
   go_wp2
   go_ret
   exact ⟨by first | rfl, by repeat (first | exact Drawn0.refl _)⟩
 rw [if_neg c18] at H
 have c18b0 := beq_eq_false_iff_ne.mpr c18
 have c18b1 := bne_iff_ne.mpr c18
 by_cases c19 : a0.toList = ([108, 111, 99, 107] : List UInt8)
 · rw [if_pos c19] at H
   have c19b0 := beq_iff_eq.mpr c19
   have c19b1 := bne_eq_false_iff_eq.mpr c19
   clear c19
   obtain rfl := Option.some.inj H
   go_enter Try.func91, Try.ntmps91
   go_wp2
   go_ret
   exact ⟨by first | rfl, by repeat (first | exact Drawn0.refl _)⟩
 rw [if_neg c19] at H
 have c19b0 := beq_eq_false_iff_ne.mpr c19
 have c19b1 := bne_iff_ne.mpr c19
 by_cases c20 : a0.toList = ([109, 111, 100] : List UInt8)
 · rw [if_pos c20] at H
   have c20b0 := beq_iff_eq.mpr c20
   have c20b1 := bne_eq_false_iff_eq.mpr c20
   clear c20
   obtain rfl := Option.some.inj H
   go_enter Try.func91, Try.ntmps91
   go_wp2
   go_ret
   exact ⟨by first | rfl, by repeat (first | exact Drawn0.refl _)⟩
 rw [if_neg c20] at H
 have c20b0 := beq_eq_false_iff_ne.mpr c20
 have c20b1 := bne_iff_ne.mpr c20
 by_cases c21 : a0.toList = ([111, 114, 101, 108, 115, 101] : List UInt8)
 · rw [if_pos c21] at H
   have c21b0 := beq_iff_eq.mpr c21
   have c21b1 := bne_eq_false_iff_eq.mpr c21
   clear c21
   obtain rfl := Option.some.inj H
   go_enter Try.func91, Try.ntmps91
   go_wp2
   go_ret
   exact ⟨by first | rfl, by repeat (first | exact Drawn0.refl _)⟩
 rw [if_neg c21] at H
 have c21b0 := beq_eq_false_iff_ne.mpr c21
 have c21b1 := bne_iff_ne.mpr c21
 by_cases c22 : a0.toList = ([112, 114, 111, 99] : List UInt8)
 · rw [if_pos c22] at H
   have c22b0 := beq_iff_eq.mpr c22
   have c22b1 := bne_eq_false_iff_eq.mpr c22
   clear c22
   obtain rfl := Option.some.inj H
   go_enter Try.func91, Try.ntmps91
   go_wp2
   go_ret
   exact ⟨by first | rfl, by repeat (first | exact Drawn0.refl _)⟩
 rw [if_neg c22] at H
 have c22b0 := beq_eq_false_iff_ne.mpr c22
 have c22b1 := bne_iff_ne.mpr c22
 by_cases c23 : a0.toList = ([114, 97, 105, 115, 101] : List UInt8)
 · rw [if_pos c23] at H
   have c23b0 := beq_iff_eq.mpr c23
   have c23b1 := bne_eq_false_iff_eq.mpr c23
   clear c23
   obtain rfl := Option.some.inj H
   go_enter Try.func91, Try.ntmps91
   go_wp2
   go_ret
   exact ⟨by first | rfl, by repeat (first | exact Drawn0.refl _)⟩
 rw [if_neg c23] at H
 have c23b0 := beq_eq_false_iff_ne.mpr c23
 have c23b1 := bne_iff_ne.mpr c23
 by_cases c24 : a0.toList = ([115, 107, 105, 112] : List UInt8)
 · rw [if_pos c24] at H
   have c24b0 := beq_iff_eq.mpr c24
   have c24b1 := bne_eq_false_iff_eq.mpr c24
   clear c24
   obtain rfl := Option.some.inj H
   go_enter Try.func91, Try.ntmps91
   go_wp2
   go_ret
   exact ⟨by first | rfl, by repeat (first | exact Drawn0.refl _)⟩
 rw [if_neg c24] at H
 have c24b0 := beq_eq_false_iff_ne.mpr c24
 have c24b1 := bne_iff_ne.mpr c24
 by_cases c25 : a0.toList = ([116, 104, 101, 110] : List UInt8)
 · rw [if_pos c25] at H
   have c25b0 := beq_iff_eq.mpr c25
   have c25b1 := bne_eq_false_iff_eq.mpr c25
   clear c25
   obtain rfl := Option.some.inj H
   go_enter Try.func91, Try.ntmps91
   go_wp2
   go_ret
   exact ⟨by first | rfl, by repeat (first | exact Drawn0.refl _)⟩
 rw [if_neg c25] at H
 have c25b0 := beq_eq_false_iff_ne.mpr c25
 have c25b1 := bne_iff_ne.mpr c25
 by_cases c26 : a0.toList = ([116, 104, 114, 101, 97, 100] : List UInt8)
 · rw [if_pos c26] at H
   have c26b0 := beq_iff_eq.mpr c26
   have c26b1 := bne_eq_false_iff_eq.mpr c26
   clear c26
   obtain rfl := Option.some.inj H
   go_enter Try.func91, Try.ntmps91
   go_wp2
   go_ret
   exact ⟨by first | rfl, by repeat (first | exact Drawn0.refl _)⟩
 rw [if_neg c26] at H
 have c26b0 := beq_eq_false_iff_ne.mpr c26
 have c26b1 := bne_iff_ne.mpr c26
 by_cases c27 : a0.toList = ([116, 114, 121] : List UInt8)
 · rw [if_pos c27] at H
   have c27b0 := beq_iff_eq.mpr c27
   have c27b1 := bne_eq_false_iff_eq.mpr c27
   clear c27
   obtain rfl := Option.some.inj H
   go_enter Try.func91, Try.ntmps91
   go_wp2
   go_ret
   exact ⟨by first | rfl, by repeat (first | exact Drawn0.refl _)⟩
 rw [if_neg c27] at H
 have c27b0 := beq_eq_false_iff_ne.mpr c27
 have c27b1 := bne_iff_ne.mpr c27
 by_cases c28 : a0.toList = ([111, 102] : List UInt8)
 rotate_left
 · rw [if_neg c28] at H
   have c28b0 := beq_eq_false_iff_ne.mpr c28
   have c28b1 := bne_iff_ne.mpr c28
   obtain rfl := Option.some.inj H
   go_enter Try.func91, Try.ntmps91
   go_wp2
   go_ret
   exact ⟨by first | rfl, by repeat (first | exact Drawn0.refl _)⟩
 rw [if_pos c28] at H
 have c28b0 := beq_iff_eq.mpr c28
 have c28b1 := bne_eq_false_iff_eq.mpr c28
 clear c28
 obtain rfl := Option.some.inj H
 go_enter Try.func91, Try.ntmps91
 go_wp2
 go_ret
 exact ⟨by first | rfl, by repeat (first | exact Drawn0.refl _)⟩
def token_IsPlain.f (k : Nat) (a0 : ByteArray) : Option (Bool) := if a0.toList = ([] : List UInt8) then (some false) else (if (a0.size : Int) ≤ 60 then (if 0 < (a0.size : Int) then ((token_lower.f (bt a0 0)).bind fun t160 => (if t160 = true then ((token_words.f k a0).bind fun t161 => (if t161 = true then ((token_isKey.f a0).bind fun t162 => (some (!t162))) else (some false))) else (some false))) else (none)) else (some false))
set_option maxHeartbeats 8000000 in
set_option maxRecDepth 100000 in
theorem token_IsPlain.calls (k : Nat) (a0 : ByteArray) (r : Bool) (w : World) (h : token_IsPlain.f k a0 = some r) :
 Calls Try.prog 66 #[.string a0] w fun e w' => e = .returned (.bool r) ∧ Drawn0 w w' := by
 have H : (if a0.toList = ([] : List UInt8) then (some false) else (if (a0.size : Int) ≤ 60 then (if 0 < (a0.size : Int) then ((token_lower.f (bt a0 0)).bind fun t160 => (if t160 = true then ((token_words.f k a0).bind fun t161 => (if t161 = true then ((token_isKey.f a0).bind fun t162 => (some (!t162))) else (some false))) else (some false))) else (none)) else (some false))) = some r := h
 clear h
 by_cases c2 : a0.toList = ([] : List UInt8)
 · rw [if_pos c2] at H
   have c2b0 := beq_iff_eq.mpr c2
   have c2b1 := bne_eq_false_iff_eq.mpr c2
   clear c2
   obtain rfl := Option.some.inj H
   go_enter Try.func66, Try.ntmps66
   go_wp2
   go_ret
   exact ⟨by first | rfl, by repeat (first | exact Drawn0.refl _)⟩
 rw [if_neg c2] at H
 have c2b0 := beq_eq_false_iff_ne.mpr c2
 have c2b1 := bne_iff_ne.mpr c2
 by_cases c3 : (a0.size : Int) ≤ 60
 rotate_left
 · rw [if_neg c3] at H
   have c3b0 := decide_eq_false c3
   have c3b1 : decide (a0.size ≤ 60) = false := decide_eq_false (by omega)
   clear c3
   obtain rfl := Option.some.inj H
   go_enter Try.func66, Try.ntmps66
   go_wp2
   go_ret
   exact ⟨by first | rfl, by repeat (first | exact Drawn0.refl _)⟩
 rw [if_pos c3] at H
 have c3b0 := decide_eq_true c3
 have c3b1 : decide (a0.size ≤ 60) = true := decide_eq_true (by omega)
 clear c3
 obtain ⟨c4, H⟩ := gd H
 have c4b0 := decide_eq_true c4
 have c4b1 : decide (0 < a0.size) = true := decide_eq_true (by omega)
 clear c4
 replace H := Option.bind_eq_some_iff.mp H
 obtain ⟨t160, A60, H⟩ := H
 have A6 := Aside0.mk A60
 clear A60
 by_cases c7 : t160 = true
 rotate_left
 · replace c7 := Bool.eq_false_iff.mpr c7
   subst c7
   rw [if_neg (show ¬ (false = true) by decide)] at H
   obtain rfl := Option.some.inj H
   have p5 : 0 ≤ (0 : Int) := (by omega)
   have q5 : 0 < a0.size := (by have : (0 : Int) < (a0.size : Int) := of_decide_eq_true (by assumption); omega)
   have hx5 : ∀ h : 0 < a0.size, ((a0[0]'h).toNat : Int) = bt a0 0 := bt_at a0 0
   clear p5
   have qi5 : (0 < (a0.size : Int)) = True := eq_true (of_decide_eq_true (by assumption))
   replace q5 := eq_true q5
   go_enter Try.func66, Try.ntmps66
   go_wp2_with ((go_at_call 89; (with_reducible refine (token_lower.calls (bt a0 0) false _ A6.out).mono ?_); rintro e w' ⟨rfl, ⟨nd, rfl⟩⟩))
   go_ret
   exact ⟨by first | rfl, by repeat (first | exact Drawn0.refl _ | apply Drawn0.step)⟩
 subst c7
 rw [if_pos rfl] at H
 replace H := Option.bind_eq_some_iff.mp H
 obtain ⟨t161, A80, H⟩ := H
 have A8 := Aside0.mk A80
 clear A80
 by_cases c9 : t161 = true
 rotate_left
 · replace c9 := Bool.eq_false_iff.mpr c9
   subst c9
   rw [if_neg (show ¬ (false = true) by decide)] at H
   obtain rfl := Option.some.inj H
   have p5 : 0 ≤ (0 : Int) := (by omega)
   have q5 : 0 < a0.size := (by have : (0 : Int) < (a0.size : Int) := of_decide_eq_true (by assumption); omega)
   have hx5 : ∀ h : 0 < a0.size, ((a0[0]'h).toNat : Int) = bt a0 0 := bt_at a0 0
   clear p5
   have qi5 : (0 < (a0.size : Int)) = True := eq_true (of_decide_eq_true (by assumption))
   replace q5 := eq_true q5
   go_enter Try.func66, Try.ntmps66
   go_wp2_with (first | (go_at_call 89; (with_reducible refine (token_lower.calls (bt a0 0) true _ A6.out).mono ?_); rintro e w' ⟨rfl, ⟨nd, rfl⟩⟩) | (go_at_call 90; (with_reducible refine (token_words.calls k a0 false _ A8.out).mono ?_); rintro e w' ⟨rfl, ⟨nd, rfl⟩⟩))
   go_ret
   exact ⟨by first | rfl, by repeat (first | exact Drawn0.refl _ | apply Drawn0.step)⟩
 subst c9
 rw [if_pos rfl] at H
 replace H := Option.bind_eq_some_iff.mp H
 obtain ⟨t162, A100, H⟩ := H
 have A10 := Aside0.mk A100
 clear A100
 obtain rfl := Option.some.inj H
 have p5 : 0 ≤ (0 : Int) := (by omega)
 have q5 : 0 < a0.size := (by have : (0 : Int) < (a0.size : Int) := of_decide_eq_true (by assumption); omega)
 have hx5 : ∀ h : 0 < a0.size, ((a0[0]'h).toNat : Int) = bt a0 0 := bt_at a0 0
 clear p5
 have qi5 : (0 < (a0.size : Int)) = True := eq_true (of_decide_eq_true (by assumption))
 replace q5 := eq_true q5
 go_enter Try.func66, Try.ntmps66
 go_wp2_with (first | (go_at_call 89; (with_reducible refine (token_lower.calls (bt a0 0) true _ A6.out).mono ?_); rintro e w' ⟨rfl, ⟨nd, rfl⟩⟩) | (go_at_call 90; (with_reducible refine (token_words.calls k a0 true _ A8.out).mono ?_); rintro e w' ⟨rfl, ⟨nd, rfl⟩⟩) | (go_at_call 91; (with_reducible refine (token_isKey.calls a0 t162 _ A10.out).mono ?_); rintro e w' ⟨rfl, ⟨nd, rfl⟩⟩))
 go_ret
 exact ⟨by first | rfl, by repeat (first | exact Drawn0.refl _ | apply Drawn0.step)⟩
def token_printed.l0 : Nat → ByteArray → Int → Int → Int → Option (Bool)
 | 0, _, _, _, _ => none
 | k + 1, x0, x1, x7, x8 => if x8 < x7 then (if 0 ≤ x8 then (if x8 < (x0.size : Int) then (if (bt x0 x8) = 10 then (token_printed.l0 k x0 x1 x7 (wrap64 (x8 + 1))) else (if (bt x0 x8) < 32 then (some false) else (if (bt x0 x8) > 126 then (some false) else (token_printed.l0 k x0 x1 x7 (wrap64 (x8 + 1)))))) else (none)) else (none)) else (some (decide ((x0.size : Int) ≤ x1)))
def token_printed.f (k : Nat) (a0 : ByteArray) (a1 : Int) : Option (Bool) := token_printed.l0 k a0 a1 (a0.size : Int) 0
set_option maxHeartbeats 8000000 in
set_option maxRecDepth 100000 in
theorem token_printed.calls (k : Nat) (a0 : ByteArray) (a1 : Int) (r : Bool) (w : World) (h : token_printed.f k a0 a1 = some r) :
 Calls Try.prog 128 #[.string a0, .int .i64 a1] w fun e w' => e = .returned (.bool r) ∧ Drawn0 w w' := by
 have H : (token_printed.l0 k a0 a1 (a0.size : Int) 0) = some r := h
 clear h
 have H' := Aside0.mk H
 clear H
 go_enter Try.func128, Try.ntmps128
 go_wp2
 go_loopg [8] k (fun kq v8 w' => ∃ (x8_1 : Int), v8 = .int .i64 x8_1 ∧ Aside0 (token_printed.l0 kq a0 a1 (a0.size : Int) x8_1 = some r) ∧ Aside0 (kq ≤ k) ∧ Drawn0 w w')
 case atStart => exact ⟨(0), rfl, H', ⟨Nat.le_refl _⟩, by repeat (first | exact Drawn0.refl _)⟩
 case round =>
  clear H'
  obtain ⟨x8_1, rfl, HA, HK1, ⟨m1, rfl⟩⟩ := hrel
  cases gk with
  | zero => exact absurd HA.out (by simp [token_printed.l0])
  | succ k1 =>
   have H := HA.out
   clear HA
   simp only [token_printed.l0] at H
   by_cases c3 : x8_1 < (a0.size : Int)
   rotate_left
   · rw [if_neg c3] at H
     have c3b0 := decide_eq_false c3
     clear c3
     obtain rfl := Option.some.inj H
     go_wp2
     go_ret
     exact ⟨by first | rfl, by repeat (first | exact Drawn0.refl _ | apply Drawn0.step)⟩
   rw [if_pos c3] at H
   have c3b0 := decide_eq_true c3
   clear c3
   obtain ⟨c4, H⟩ := gd H
   have c4b0 := decide_eq_true c4
   clear c4
   obtain ⟨c5, H⟩ := gd H
   have c5b0 := decide_eq_true c5
   clear c5
   by_cases c7 : (bt a0 x8_1) = 10
   · rw [if_pos c7] at H
     have c7b0 := beq_iff_eq.mpr c7
     have c7b1 := bne_eq_false_iff_eq.mpr c7
     clear c7
     have H' := Aside0.mk H
     clear H
     have p6 : 0 ≤ (x8_1 : Int) := of_decide_eq_true (by assumption)
     have q6 : x8_1 < (a0.size : Int) := of_decide_eq_true (by assumption)
     have hx6 := bt_at a0 x8_1
     replace p6 := eq_true p6
     replace q6 := eq_true q6
     go_wp2
     go_roundg k1
     case measure => have := HK1.out; omega
     case rel => exact ⟨(wrap64 (x8_1 + 1)), rfl, H', ⟨by have := HK1.out; omega⟩, by repeat (first | exact Drawn0.refl _ | apply Drawn0.step)⟩
   rw [if_neg c7] at H
   have c7b0 := beq_eq_false_iff_ne.mpr c7
   have c7b1 := bne_iff_ne.mpr c7
   by_cases c9 : (bt a0 x8_1) < 32
   · rw [if_pos c9] at H
     have c9b0 := decide_eq_true c9
     clear c9
     obtain rfl := Option.some.inj H
     have p6 : 0 ≤ (x8_1 : Int) := of_decide_eq_true (by assumption)
     have q6 : x8_1 < (a0.size : Int) := of_decide_eq_true (by assumption)
     have hx6 := bt_at a0 x8_1
     replace p6 := eq_true p6
     replace q6 := eq_true q6
     have p8 : 0 ≤ (x8_1 : Int) := of_decide_eq_true (by assumption)
     have q8 : x8_1 < (a0.size : Int) := of_decide_eq_true (by assumption)
     have hx8 := bt_at a0 x8_1
     replace p8 := eq_true p8
     replace q8 := eq_true q8
     go_wp2
     go_ret
     exact ⟨by first | rfl, by repeat (first | exact Drawn0.refl _ | apply Drawn0.step)⟩
   rw [if_neg c9] at H
   have c9b0 := decide_eq_false c9
   clear c9
   by_cases c11 : (bt a0 x8_1) > 126
   · rw [if_pos c11] at H
     have c11b0 := decide_eq_true c11
     clear c11
     obtain rfl := Option.some.inj H
     have p6 : 0 ≤ (x8_1 : Int) := of_decide_eq_true (by assumption)
     have q6 : x8_1 < (a0.size : Int) := of_decide_eq_true (by assumption)
     have hx6 := bt_at a0 x8_1
     replace p6 := eq_true p6
     replace q6 := eq_true q6
     have p8 : 0 ≤ (x8_1 : Int) := of_decide_eq_true (by assumption)
     have q8 : x8_1 < (a0.size : Int) := of_decide_eq_true (by assumption)
     have hx8 := bt_at a0 x8_1
     replace p8 := eq_true p8
     replace q8 := eq_true q8
     have p10 : 0 ≤ (x8_1 : Int) := of_decide_eq_true (by assumption)
     have q10 : x8_1 < (a0.size : Int) := of_decide_eq_true (by assumption)
     have hx10 := bt_at a0 x8_1
     replace p10 := eq_true p10
     replace q10 := eq_true q10
     go_wp2
     go_ret
     exact ⟨by first | rfl, by repeat (first | exact Drawn0.refl _ | apply Drawn0.step)⟩
   rw [if_neg c11] at H
   have c11b0 := decide_eq_false c11
   clear c11
   have H' := Aside0.mk H
   clear H
   have p6 : 0 ≤ (x8_1 : Int) := of_decide_eq_true (by assumption)
   have q6 : x8_1 < (a0.size : Int) := of_decide_eq_true (by assumption)
   have hx6 := bt_at a0 x8_1
   replace p6 := eq_true p6
   replace q6 := eq_true q6
   have p8 : 0 ≤ (x8_1 : Int) := of_decide_eq_true (by assumption)
   have q8 : x8_1 < (a0.size : Int) := of_decide_eq_true (by assumption)
   have hx8 := bt_at a0 x8_1
   replace p8 := eq_true p8
   replace q8 := eq_true q8
   have p10 : 0 ≤ (x8_1 : Int) := of_decide_eq_true (by assumption)
   have q10 : x8_1 < (a0.size : Int) := of_decide_eq_true (by assumption)
   have hx10 := bt_at a0 x8_1
   replace p10 := eq_true p10
   replace q10 := eq_true q10
   go_wp2
   go_roundg k1
   case measure => have := HK1.out; omega
   case rel => exact ⟨(wrap64 (x8_1 + 1)), rfl, H', ⟨by have := HK1.out; omega⟩, by repeat (first | exact Drawn0.refl _ | apply Drawn0.step)⟩
end Go.Proofs.Ytcnllhnhinmokaa.PHGr
end
section
namespace Go.Proofs.Ytcnllhnhinmokaa.PHGr
open Go.RowKit Go.Proofs.YtcnllhnhinmokaaW.PrintWords Go.Proofs.YtcnllhnhinmokaaW.PrintLast Go.Proofs.YtcnllhnhinmokaaW.PrintMore
attribute [local go_sem] max2_int min2_int max_two min_two max_three min_three max_four min_four
set_option linter.unusedVariables false
set_option linter.unusedSimpArgs false
theorem token_ValidAtom.calls (k : Nat) (a0_1 : ByteArray) (a0_2 : Int) (r : Bool) (w : World) (h : token_printed.f k a0_1 60 = some r) :
 Calls Try.prog 114 #[.agg #[.string (⟨#[97, 116, 111, 109]⟩ : ByteArray), .string a0_1, .int .i64 a0_2]] w fun e w' => e = .returned (.bool r) ∧ Below w.heap.size w w' := by
 have hu164 := Try.underlying164
 have HB := Aside0.mk (Below.refl w.heap.size w)
 have c2b0 : ((⟨#[97, 116, 111, 109]⟩ : ByteArray).toList == ([118, 97, 114] : List UInt8)) = false := by rw [ByteArray.toList_eq]; rfl
 have c2b1 : ((⟨#[97, 116, 111, 109]⟩ : ByteArray).toList != ([118, 97, 114] : List UInt8)) = true := by rw [ByteArray.toList_eq]; rfl
 have c9b0 : ((⟨#[97, 116, 111, 109]⟩ : ByteArray).toList == ([97, 116, 111, 109] : List UInt8)) = true := by rw [ByteArray.toList_eq]; rfl
 have c9b1 : ((⟨#[97, 116, 111, 109]⟩ : ByteArray).toList != ([97, 116, 111, 109] : List UInt8)) = false := by rw [ByteArray.toList_eq]; rfl
 have c11b0 : ((⟨#[97, 116, 111, 109]⟩ : ByteArray).toList == ([116, 101, 120, 116] : List UInt8)) = false := by rw [ByteArray.toList_eq]; rfl
 have c11b1 : ((⟨#[97, 116, 111, 109]⟩ : ByteArray).toList != ([116, 101, 120, 116] : List UInt8)) = true := by rw [ByteArray.toList_eq]; rfl
 have A14 := Aside0.mk h
 go_enter Try.func114, Try.ntmps114
 go_wp2_with (first | ((with_reducible refine gate_dst (N := 1) rfl ?_); (try (refine gate_guard (by rfl) ?_; dsimp only)); refine box_event ?hg (N := 1) ?hd (cs := #[.string (⟨#[97, 116, 111, 109]⟩ : ByteArray), .string a0_1, .int .i64 a0_2]) (t := 164) ?hr ?_; (case hd => rfl); (case hg => rfl); (case hr => (go_simp; done)); intro gb166 hg w4 hbox hb; have n0_ := Aside0.mk (below_step HB.out hb); have n1_ := Aside0.mk (hbox); have n2_ := Aside0.mk ((by rw [hg]; exact (below_size HB.out) : w.heap.size ≤ gb166)); have n3_ := Aside0.mk ((by rw [hg]; exact (below_size HB.out) : w.heap.size ≤ gb166)); clear HB; have HB := n0_; have BK166 := n1_; have GW166 := n2_; have GE166 := n3_; clear n0_ n1_ n2_ n3_; clear hb hbox hg; have hcz5_0 : w4.cell? ⟨gb166, 0, none⟩ = some (.string (⟨#[97, 116, 111, 109]⟩ : ByteArray)) := (blk_cell BK166.out 0).trans rfl; have hcz5_1 : w4.cell? ⟨gb166, 1, none⟩ = some (.string a0_1) := (blk_cell BK166.out 1).trans rfl; have hcz5_2 : w4.cell? ⟨gb166, 2, none⟩ = some (.int .i64 a0_2) := (blk_cell BK166.out 2).trans rfl; have hfz5_0 := blk_frozen BK166.out 0; have hfz5_1 := blk_frozen BK166.out 1; have hfz5_2 := blk_frozen BK166.out 2) | ((with_reducible refine gate_callee (f := 128) rfl ?_); refine goesL_ (some 23) rfl rfl Try.func128 (by kernel_rfl) rfl #[.string a0_1, .int .i64 60] rfl (by (try simp only [List.map_toArray, List.map_cons, List.map_nil]); first | rfl) ?_; (with_reducible refine (token_printed.calls k a0_1 60 r _ A14.out).mono ?_); rintro e w' ⟨rfl, ⟨nd, rfl⟩⟩; refine ⟨_, rfl, ?_⟩))
 go_ret
 exact ⟨by first | rfl, by repeat ((with_reducible first | exact HB.out | apply pw_below_drewN))⟩
def grammar_isAtom.f (k : Nat) (a0 : ByteArray) : Option (Bool) := (token_printed.f k a0 60).bind fun t177 => (some t177)
set_option maxHeartbeats 8000000 in
set_option maxRecDepth 100000 in
theorem grammar_isAtom.calls (k : Nat) (a0 : ByteArray) (r : Bool) (w : World) (h : grammar_isAtom.f k a0 = some r) :
 Calls Try.prog 92 #[.string a0] w fun e w' => e = .returned (.bool r) ∧ Below w.heap.size w w' := by
 have hu164 := Try.underlying164
 have HB := Aside0.mk (Below.refl w.heap.size w)
 have H : ((token_printed.f k a0 60).bind fun t177 => (some t177)) = some r := h
 clear h
 replace H := Option.bind_eq_some_iff.mp H
 obtain ⟨t177, A20, H⟩ := H
 have A2 := Aside0.mk A20
 clear A20
 obtain rfl := Option.some.inj H
 go_enter Try.func92, Try.ntmps92
 go_wp2_with (((with_reducible refine gate_callee (f := 114) rfl ?_); refine goesL_ (some 5) rfl rfl Try.func114 (by kernel_rfl) rfl #[.agg #[.string (⟨#[97, 116, 111, 109]⟩ : ByteArray), .string a0, .int .i64 0]] rfl (by (try simp only [List.map_toArray, List.map_cons, List.map_nil]); first | rfl) ?_; (with_reducible refine (token_ValidAtom.calls k a0 0 t177 _ A2.out).mono ?_); rintro e w3 ⟨rfl, hb⟩; refine ⟨_, rfl, ?_⟩; have n0_ := Aside0.mk (below_step HB.out hb); clear HB; have HB := n0_; clear n0_; (try clear hb)))
 go_ret
 exact ⟨by first | rfl, by exact HB.out⟩
end Go.Proofs.Ytcnllhnhinmokaa.PHGr
end
section
namespace Go.Proofs.Ytcnllhnhinmokaa.PHGr
open Go.RowKit Go.Proofs.YtcnllhnhinmokaaW.PrintWords Go.Proofs.YtcnllhnhinmokaaW.PrintLast Go.Proofs.YtcnllhnhinmokaaW.PrintMore
set_option linter.unusedVariables false
set_option linter.unusedSimpArgs false
abbrev bs (s : ByteArray) : List UInt8 := s.data.toList
theorem bs_len (s : ByteArray) : (bs s).length = s.size := Array.length_toList
theorem tl_bs (s : ByteArray) : s.toList = bs s := ByteArray.toList_eq s
theorem w64 {n : Int} (h0 : 0 ≤ n) (h1 : n ≤ 9223372036854775807) : wrap64 n = n := by unfold wrap64; omega
theorem at_drop (s : ByteArray) (i : Nat) (h : i < s.size) : ∃ b : UInt8, (bs s).drop i = b :: (bs s).drop (i + 1) ∧ bt s (i : Int) = (b.toNat : Int) := by
 have hl : i < (bs s).length := by rw [bs_len]; exact h
 refine ⟨(bs s)[i], List.drop_eq_getElem_cons hl, ?_⟩
 unfold bt
 rw [dif_pos (by simpa using h)]
 simp only [Int.toNat_natCast]
 congr 1
theorem scan {α β : Type} (s : ByteArray) (F : Nat → β → Int → Option α) (G : β → List UInt8 → α)
 (h0 : ∀ a, Ev (fun k => F k a (s.size : Int)) (G a []))
 (h1 : ∀ a (i : Nat) (b : UInt8), i < s.size → (bs s).drop i = b :: (bs s).drop (i + 1) → bt s (i : Int) = (b.toNat : Int) →
  (∀ a', Ev (fun k => F k a' (((i + 1 : Nat) : Int))) (G a' ((bs s).drop (i + 1)))) → Ev (fun k => F k a (i : Int)) (G a (b :: (bs s).drop (i + 1)))) :
 ∀ (n i : Nat) (a : β), i + n = s.size → Ev (fun k => F k a (i : Int)) (G a ((bs s).drop i))
 | 0, i, a, h => by
  have : i = s.size := by omega
  subst this
  rw [List.drop_eq_nil_of_le (by rw [bs_len]; omega)]
  exact h0 a
 | n + 1, i, a, h => by
  obtain ⟨b, hb, hbt⟩ := at_drop s i (by omega)
  rw [hb]
  exact h1 a i b (by omega) hb hbt (fun a' => scan s F G h0 h1 n (i + 1) a' (by omega))
def smallC (n : Nat) : Bool := decide (97 ≤ n) && decide (n ≤ 122)
def innerC (n : Nat) : Bool := smallC n || (decide (65 ≤ n) && decide (n ≤ 90)) || (decide (48 ≤ n) && decide (n ≤ 57)) || n == 95
theorem ref_small (n : Nat) : manystrandref01_small.f (n : Int) = some (smallC n) := by
 unfold manystrandref01_small.f smallC
 by_cases h : 97 ≤ n
 · rw [if_pos (by omega)]; simp [h]; omega
 · rw [if_neg (by omega)]; simp [h]
theorem tok_small (n : Nat) : token_lower.f (n : Int) = some (smallC n) := by
 unfold token_lower.f smallC
 by_cases h : 97 ≤ n
 · rw [if_pos (by omega)]; simp [h]; omega
 · rw [if_neg (by omega)]; simp [h]
theorem ref_great (n : Nat) : manystrandref01_great.f (n : Int) = some (decide (65 ≤ n) && decide (n ≤ 90)) := by
 unfold manystrandref01_great.f
 by_cases h : 65 ≤ n
 · rw [if_pos (by omega)]; simp [h]; omega
 · rw [if_neg (by omega)]; simp [h]
theorem tok_great (n : Nat) : token_upper.f (n : Int) = some (decide (65 ≤ n) && decide (n ≤ 90)) := by
 unfold token_upper.f
 by_cases h : 65 ≤ n
 · rw [if_pos (by omega)]; simp [h]; omega
 · rw [if_neg (by omega)]; simp [h]
theorem ref_digit (n : Nat) : manystrandref01_digit.f (n : Int) = some (decide (48 ≤ n) && decide (n ≤ 57)) := by
 unfold manystrandref01_digit.f
 by_cases h : 48 ≤ n
 · rw [if_pos (by omega)]; simp [h]; omega
 · rw [if_neg (by omega)]; simp [h]
theorem tok_digit (n : Nat) : token_digit.f (n : Int) = some (decide (48 ≤ n) && decide (n ≤ 57)) := by
 unfold token_digit.f
 by_cases h : 48 ≤ n
 · rw [if_pos (by omega)]; simp [h]; omega
 · rw [if_neg (by omega)]; simp [h]
theorem beq95 (n : Nat) : ((n : Int) == 95) = (n == 95) := by
 rw [Bool.eq_iff_iff]; simp; omega
theorem ref_inner (n : Nat) : manystrandref01_inner.f (n : Int) = some (innerC n) := by
 unfold manystrandref01_inner.f innerC
 simp only [ref_small, ref_great, ref_digit, Option.bind_some, beq95]
 cases smallC n <;> cases (decide (65 ≤ n) && decide (n ≤ 90)) <;> cases (decide (48 ≤ n) && decide (n ≤ 57)) <;> simp
theorem tok_inner (n : Nat) : token_word.f (n : Int) = some (innerC n) := by
 unfold token_word.f innerC
 simp only [tok_small, tok_great, tok_digit, Option.bind_some, beq95]
 cases smallC n <;> cases (decide (65 ≤ n) && decide (n ≤ 90)) <;> cases (decide (48 ≤ n) && decide (n ≤ 57)) <;> simp
theorem evTo {α : Type} {g : Nat → Option α} {a b : α} (e : a = b) (h : Ev g a) : Ev g b := e ▸ h
theorem ref_word (s : ByteArray) (hs : s.size ≤ 4611686018427387904) :
 Ev (fun k => manystrandref01_word.f k s) ((bs s).all (fun b => innerC b.toNat) && !(bs s).isEmpty && decide (s.size ≤ 60)) := by
 have := scan (β := Unit) s (fun k _ i => manystrandref01_word.l0 k s i) (fun _ l => l.all (fun b => innerC b.toNat) && !(bs s).isEmpty && decide (s.size ≤ 60)) ?_ ?_ s.size 0 () (by omega)
 · simpa [manystrandref01_word.f] using this
 · intro _
   refine Ev.step (f := fun _ => some _) (fun k => ?_) (Ev.now _)
   rw [manystrandref01_word.l0, if_neg (by omega)]
   cases hl : bs s with
   | nil => rw [if_pos (by rw [tl_bs, hl])]; simp [hl]
   | cons a l => rw [if_neg (by rw [tl_bs, hl]; simp)]; simp; omega
 · intro _ i b hi hd hb ih
   have hw : wrap64 ((i : Int) + 1) = ((i + 1 : Nat) : Int) := by rw [w64 (by omega) (by omega)]; omega
   by_cases c : innerC b.toNat = true
   rotate_left
   · refine evTo (by simp [c]) (Ev.step (f := fun k => some false) (fun k => ?_) (Ev.now _))
     rw [manystrandref01_word.l0, if_pos (by omega), if_pos (by omega), hb, ref_inner]
     simp [c]
   refine evTo (by simp [c]) (Ev.step (f := fun k => manystrandref01_word.l0 k s ((i + 1 : Nat) : Int)) (fun k => ?_) (ih ()))
   rw [manystrandref01_word.l0, if_pos (by omega), if_pos (by omega), hb, ref_inner, hw]
   simp [c]
theorem tok_words (s : ByteArray) (hs : s.size ≤ 4611686018427387904) :
 Ev (fun k => token_words.f k s) ((bs s).all (fun b => innerC b.toNat)) := by
 have := scan (β := Unit) s (fun k _ i => token_words.l0 k s (s.size : Int) i) (fun _ l => l.all (fun b => innerC b.toNat)) ?_ ?_ s.size 0 () (by omega)
 · simpa [token_words.f] using this
 · intro _
   refine Ev.step (f := fun _ => some _) (fun k => ?_) (Ev.now _)
   rw [token_words.l0, if_neg (by omega)]; rfl
 · intro _ i b hi hd hb ih
   have hw : wrap64 ((i : Int) + 1) = ((i + 1 : Nat) : Int) := by rw [w64 (by omega) (by omega)]; omega
   by_cases c : innerC b.toNat = true
   rotate_left
   · refine evTo (by simp [c]) (Ev.step (f := fun k => some false) (fun k => ?_) (Ev.now _))
     rw [token_words.l0, if_pos (by omega), if_pos (by omega), if_pos (by omega), hb, tok_inner]
     simp [c]
   refine evTo (by simp [c]) (Ev.step (f := fun k => token_words.l0 k s (s.size : Int) ((i + 1 : Nat) : Int)) (fun k => ?_) (ih ()))
   rw [token_words.l0, if_pos (by omega), if_pos (by omega), if_pos (by omega), hb, tok_inner, hw]
   simp [c]
def okC (n : Nat) : Bool := n == 10 || (decide (32 ≤ n) && decide (n ≤ 126))
theorem ref_inside (s : ByteArray) (m : Int) (hs : s.size ≤ 4611686018427387904) :
 Ev (fun k => manystrandref01_inside.f k s m) ((bs s).all (fun b => okC b.toNat) && decide ((s.size : Int) ≤ m)) := by
 have := scan (β := Unit) s (fun k _ i => manystrandref01_inside.l0 k s m i) (fun _ l => l.all (fun b => okC b.toNat) && decide ((s.size : Int) ≤ m)) ?_ ?_ s.size 0 () (by omega)
 · simpa [manystrandref01_inside.f] using this
 · intro _
   refine Ev.step (f := fun _ => some _) (fun k => ?_) (Ev.now _)
   rw [manystrandref01_inside.l0, if_neg (by omega)]; simp
 · intro _ i b hi hd hb ih
   have hw : wrap64 ((i : Int) + 1) = ((i + 1 : Nat) : Int) := by rw [w64 (by omega) (by omega)]; omega
   by_cases c : okC b.toNat = true
   · refine evTo (by simp [c]) (Ev.step (f := fun k => manystrandref01_inside.l0 k s m ((i + 1 : Nat) : Int)) (fun k => ?_) (ih ()))
     rw [manystrandref01_inside.l0, if_pos (by omega), if_pos (by omega), hb, hw]
     simp only [okC, Bool.or_eq_true, Bool.and_eq_true, beq_iff_eq, decide_eq_true_eq] at c
     by_cases c1 : b.toNat = 10
     rotate_left
     · rw [if_neg (by omega), if_neg (by omega), if_neg (by omega)]
     rw [if_pos (by omega)]
   refine evTo (by simp [c]) (Ev.step (f := fun k => some false) (fun k => ?_) (Ev.now _))
   rw [manystrandref01_inside.l0, if_pos (by omega), if_pos (by omega), hb]
   simp only [okC, Bool.or_eq_true, Bool.and_eq_true, beq_iff_eq, decide_eq_true_eq] at c
   rw [if_neg (by omega)]
   by_cases c1 : b.toNat < 32
   rotate_left
   · rw [if_neg (by omega), if_pos (by omega)]
   rw [if_pos (by omega)]
theorem tok_printed (s : ByteArray) (m : Int) (hs : s.size ≤ 4611686018427387904) :
 Ev (fun k => token_printed.f k s m) ((bs s).all (fun b => okC b.toNat) && decide ((s.size : Int) ≤ m)) := by
 have := scan (β := Unit) s (fun k _ i => token_printed.l0 k s m (s.size : Int) i) (fun _ l => l.all (fun b => okC b.toNat) && decide ((s.size : Int) ≤ m)) ?_ ?_ s.size 0 () (by omega)
 · simpa [token_printed.f] using this
 · intro _
   refine Ev.step (f := fun _ => some _) (fun k => ?_) (Ev.now _)
   rw [token_printed.l0, if_neg (by omega)]; simp
 · intro _ i b hi hd hb ih
   have hw : wrap64 ((i : Int) + 1) = ((i + 1 : Nat) : Int) := by rw [w64 (by omega) (by omega)]; omega
   by_cases c : okC b.toNat = true
   · refine evTo (by simp [c]) (Ev.step (f := fun k => token_printed.l0 k s m (s.size : Int) ((i + 1 : Nat) : Int)) (fun k => ?_) (ih ()))
     rw [token_printed.l0, if_pos (by omega), if_pos (by omega), if_pos (by omega), hb, hw]
     simp only [okC, Bool.or_eq_true, Bool.and_eq_true, beq_iff_eq, decide_eq_true_eq] at c
     by_cases c1 : b.toNat = 10
     rotate_left
     · rw [if_neg (by omega), if_neg (by omega), if_neg (by omega)]
     rw [if_pos (by omega)]
   refine evTo (by simp [c]) (Ev.step (f := fun k => some false) (fun k => ?_) (Ev.now _))
   rw [token_printed.l0, if_pos (by omega), if_pos (by omega), if_pos (by omega), hb]
   simp only [okC, Bool.or_eq_true, Bool.and_eq_true, beq_iff_eq, decide_eq_true_eq] at c
   rw [if_neg (by omega)]
   by_cases c1 : b.toNat < 32
   rotate_left
   · rw [if_neg (by omega), if_pos (by omega)]
   rw [if_pos (by omega)]
def atomB (s : ByteArray) : Bool := (bs s).all (fun b => okC b.toNat) && decide (s.size ≤ 60)
theorem dec60 (n : Nat) : decide ((n : Int) ≤ 60) = decide (n ≤ 60) := by
 rw [Bool.eq_iff_iff]; simp; omega
theorem ref_atom (s : ByteArray) (hs : s.size ≤ 4611686018427387904) : Ev (fun k => manystrandref02_IsAtom.f k s) (atomB s) := by
 unfold manystrandref02_IsAtom.f
 exact Ev.bind (evTo (by unfold atomB; rw [dec60]) (ref_inside s 60 hs)) (Ev.now _)
theorem tok_atom (s : ByteArray) (hs : s.size ≤ 4611686018427387904) : Ev (fun k => grammar_isAtom.f k s) (atomB s) := by
 unfold grammar_isAtom.f
 exact Ev.bind (evTo (by unfold atomB; rw [dec60]) (tok_printed s 60 hs)) (Ev.now _)
end Go.Proofs.Ytcnllhnhinmokaa.PHGr
end
section
namespace Go.Proofs.Ytcnllhnhinmokaa.PHGr
open Go.RowKit Go.Proofs.YtcnllhnhinmokaaW.PrintWords Go.Proofs.YtcnllhnhinmokaaW.PrintLast Go.Proofs.YtcnllhnhinmokaaW.PrintMore
set_option linter.unusedVariables false
set_option linter.unusedSimpArgs false
def keys : List (List UInt8) := [[97, 110, 100, 116, 104, 101, 110], [97, 116], [98, 121], [99, 97, 115, 101], [99, 97, 116, 99, 104], [99, 104, 111, 105, 99, 101], [100, 105, 118], [100, 111], [101, 97, 99, 104], [101, 108, 115, 101], [101, 110, 100], [102, 111, 114], [102, 117, 110], [105, 102], [105, 110], [108, 97, 122, 121], [108, 111, 99, 97, 108], [108, 111, 99, 107], [109, 111, 100], [111, 114, 101, 108, 115, 101], [112, 114, 111, 99], [114, 97, 105, 115, 101], [115, 107, 105, 112], [116, 104, 101, 110], [116, 104, 114, 101, 97, 100], [116, 114, 121], [111, 102]]
theorem chain_ {l w : List UInt8} {ws : List (List UInt8)} {x : Option Bool} (h : x = some (decide (l ∈ ws))) : (if l = w then some true else x) = some (decide (l ∈ w :: ws)) := by
 by_cases c : l = w
 rotate_left
 · rw [if_neg c, h]; simp [c]
 rw [if_pos c]; simp [c]
theorem tok_key (s : ByteArray) : token_isKey.f s = some (decide (bs s ∈ keys)) := by
 unfold token_isKey.f keys
 rw [tl_bs]
 repeat' refine chain_ ?_
 simp
theorem ext_bs (s : ByteArray) (a b : Nat) : (s.extract a b).toList = ((bs s).drop a).take (b - a) := by
 rw [tl_bs]
 simp [bs, ByteArray.data_extract, Array.toList_extract, List.extract_eq_take_drop]
theorem app_bs (a b : ByteArray) : bs (a ++ b) = bs a ++ bs b := by simp [bs, ByteArray.data_append]
theorem infix_cut {w u R suf pre : List UInt8} (hw : (32 : UInt8) ∉ w) (hu : (32 : UInt8) ∉ u) (h : pre ++ (32 :: w ++ [32]) ++ suf = 32 :: (u ++ 32 :: R)) :
 w = u ∨ ∃ pre', pre' ++ (32 :: w ++ [32]) ++ suf = 32 :: R := by
 cases pre with
 | nil =>
  left
  simp only [List.nil_append, List.cons_append, List.cons.injEq, true_and, List.append_assoc] at h
  rcases List.append_eq_append_iff.1 h with ⟨x, h1, h2⟩ | ⟨x, h1, h2⟩
  · cases x with
    | nil => simpa using h1.symm
    | cons c x =>
     simp only [List.cons_append, List.cons.injEq] at h2
     exact absurd (by rw [h1, ← h2.1]; simp) hu
  · cases x with
    | nil => simpa using h1
    | cons c x =>
     simp only [List.cons_append, List.cons.injEq] at h2
     exact absurd (by rw [h1, ← h2.1]; simp) hw
 | cons c pre =>
  right
  simp only [List.cons_append, List.cons.injEq, List.append_assoc] at h
  obtain ⟨-, h⟩ := h
  rcases List.append_eq_append_iff.1 h with ⟨x, h1, h2⟩ | ⟨x, h1, h2⟩
  · cases x with
    | nil => exact ⟨[], by simpa using h2⟩
    | cons c x =>
     simp only [List.cons_append, List.cons.injEq] at h2
     exact absurd (by rw [h1, ← h2.1]; simp) hu
  · exact ⟨x, by rw [h2]; simp⟩
theorem infix_in {w : List UInt8} (hw : (32 : UInt8) ∉ w) : ∀ (ws : List (List UInt8)) (pre suf : List UInt8), (∀ u ∈ ws, (32 : UInt8) ∉ u) → pre ++ (32 :: w ++ [32]) ++ suf = 32 :: ws.flatMap (· ++ [32]) → w ∈ ws
 | [], pre, suf, _, h => by
  have := congrArg List.length h
  simp at this
  omega
 | u :: ws, pre, suf, hu, h => by
  replace h : pre ++ (32 :: w ++ [32]) ++ suf = 32 :: (u ++ 32 :: ws.flatMap (· ++ [32])) := by rw [h, List.flatMap_cons]; simp
  rcases infix_cut hw (hu u (by simp)) h with rfl | ⟨pre', h'⟩
  · simp
  · exact List.mem_cons_of_mem _ (infix_in hw ws pre' suf (fun u hm => hu u (by simp [hm])) h')
theorem in_infix {w : List UInt8} : ∀ (ws : List (List UInt8)), w ∈ ws → (32 :: w ++ [32]) <:+: 32 :: ws.flatMap (· ++ [32])
 | u :: ws, h => by
  rcases List.mem_cons.1 h with rfl | h
  · exact ⟨[], ws.flatMap (· ++ [32]), by simp⟩
  · obtain ⟨p, q, e⟩ := in_infix ws h
    refine ⟨32 :: u ++ p, q, ?_⟩
    rw [List.flatMap_cons]
    simp only [List.cons_append, List.append_assoc, List.cons.injEq, true_and] at e ⊢
    rw [e]; simp
theorem keys_infix {w : List UInt8} (hw : (32 : UInt8) ∉ w) (ws : List (List UInt8)) (hu : ∀ u ∈ ws, (32 : UInt8) ∉ u) :
 decide ((32 :: w ++ [32]) <:+: 32 :: ws.flatMap (· ++ [32])) = decide (w ∈ ws) := by
 rw [Bool.eq_iff_iff, decide_eq_true_eq, decide_eq_true_eq]
 refine ⟨fun ⟨p, q, e⟩ => infix_in hw ws p q hu e, in_infix ws⟩
theorem among_l1 (s K : ByteArray) (h0 : bs s ≠ []) (hs : s.size ≤ 4611686018427387904) (hK : K.size ≤ 2305843009213693952) :
 ∀ (n i : Nat), i + n = K.size → Ev (fun k => manystrandref01_Among.l1 k s K (i : Int)) (decide ((32 :: bs s ++ [32]) <:+: (bs K).drop i)) := by
 intro n
 induction n with
 | zero =>
  intro i hi
  refine evTo (a := false) ?_ (Ev.step (f := fun k => some false) (fun k => ?_) (Ev.now _))
  · symm
    rw [decide_eq_false_iff_not]
    intro h
    have := h.length_le
    rw [List.drop_eq_nil_of_le (by rw [bs_len]; omega)] at this
    simp at this
  · rw [manystrandref01_Among.l1, if_neg]
    rw [w64 (n := (i : Int) + (s.size : Int)) (by omega) (by omega), w64 (by omega) (by omega)]
    omega
 | succ n ih =>
  intro i hi
  have hw1 : wrap64 (wrap64 ((i : Int) + (s.size : Int)) + 2) = ((i + s.size + 2 : Nat) : Int) := by
   rw [w64 (n := (i : Int) + (s.size : Int)) (by omega) (by omega), w64 (by omega) (by omega)]
   omega
  have hw : wrap64 ((i : Int) + 1) = ((i + 1 : Nat) : Int) := by rw [w64 (by omega) (by omega)]; omega
  obtain ⟨b, hb, -⟩ := at_drop K i (by omega)
  by_cases c : i + s.size + 2 ≤ K.size
  rotate_left
  · refine evTo (a := false) ?_ (Ev.step (f := fun k => some false) (fun k => ?_) (Ev.now _))
    · symm
      rw [decide_eq_false_iff_not]
      intro h
      have := h.length_le
      simp [bs_len] at this
      omega
    · rw [manystrandref01_Among.l1, hw1, if_neg (by omega)]
  by_cases e : (32 :: bs s ++ [32]) = ((bs K).drop i).take (s.size + 2)
  · refine evTo (a := true) ?_ (Ev.step (f := fun k => some true) (fun k => ?_) (Ev.now _))
    · symm
      rw [decide_eq_true_eq, e]
      exact (List.take_prefix _ _).isInfix
    · rw [manystrandref01_Among.l1, hw1, if_pos (by omega), if_neg (by rw [tl_bs]; exact h0), if_pos (by omega), if_pos (by omega), if_pos (by omega), if_pos (by simp [ByteArray.size_append]; have : (⟨#[32]⟩ : ByteArray).size = 1 := rfl; omega), if_pos]
      rw [ext_bs, tl_bs, app_bs, app_bs, Int.toNat_natCast, Int.toNat_natCast, show i + s.size + 2 - i = s.size + 2 by omega, ← e]
      simp [bs]
  · refine evTo ?_ (Ev.step (f := fun k => manystrandref01_Among.l1 k s K ((i + 1 : Nat) : Int)) (fun k => ?_) (ih (i + 1) (by omega)))
    · rw [hb, Bool.eq_iff_iff, decide_eq_true_eq, decide_eq_true_eq, List.infix_cons_iff, ← hb]
      refine ⟨.inr, fun h => h.resolve_left fun h => e ?_⟩
      rw [List.prefix_iff_eq_take] at h
      simpa [bs_len] using h
    · rw [manystrandref01_Among.l1, hw1, if_pos (by omega), if_neg (by rw [tl_bs]; exact h0), if_pos (by omega), if_pos (by omega), if_pos (by omega), if_pos (by simp [ByteArray.size_append]; have : (⟨#[32]⟩ : ByteArray).size = 1 := rfl; omega), if_neg, hw]
      rw [ext_bs, tl_bs, app_bs, app_bs, Int.toNat_natCast, Int.toNat_natCast, show i + s.size + 2 - i = s.size + 2 by omega]
      intro e'
      exact e (by rw [e']; simp [bs])
theorem among_f (s K : ByteArray) (h0 : bs s ≠ []) (hb : (32 : UInt8) ∉ bs s) (hs : s.size ≤ 4611686018427387904) (hK : K.size ≤ 2305843009213693952) :
 Ev (fun k => manystrandref01_Among.f k s K) (decide ((32 :: bs s ++ [32]) <:+: bs K)) := by
 have := scan (β := Unit) s (fun k _ i => manystrandref01_Among.l0 k s K i) (fun _ l => if 32 ∈ l then false else decide ((32 :: bs s ++ [32]) <:+: bs K)) ?_ ?_ s.size 0 () (by omega)
 · simpa [manystrandref01_Among.f, hb] using this
 · intro _
   refine evTo (by simp) (Ev.step (f := fun k => manystrandref01_Among.l1 k s K 0) (fun k => ?_) (among_l1 s K h0 hs hK K.size 0 (by omega)))
   rw [manystrandref01_Among.l0, if_neg (by omega)]
 · intro _ i b hi hd hbt ih
   have hw : wrap64 ((i : Int) + 1) = ((i + 1 : Nat) : Int) := by rw [w64 (by omega) (by omega)]; omega
   by_cases c : b = 32
   · refine evTo (by simp [c]) (Ev.step (f := fun k => some false) (fun k => ?_) (Ev.now _))
     rw [manystrandref01_Among.l0, if_pos (by omega), if_pos (by omega), hbt, if_pos (by rw [c]; rfl)]
   refine evTo (by simp [Ne.symm c]) (Ev.step (f := fun k => manystrandref01_Among.l0 k s K ((i + 1 : Nat) : Int)) (fun k => ?_) (ih ()))
   rw [manystrandref01_Among.l0, if_pos (by omega), if_pos (by omega), hbt, if_neg, hw]
   intro h
   exact c (UInt8.toNat_inj.1 (by have : (32 : UInt8).toNat = 32 := rfl; omega))
theorem ref_key (s : ByteArray) (h0 : bs s ≠ []) (hb : (32 : UInt8) ∉ bs s) (hs : s.size ≤ 4611686018427387904) : Ev (fun k => manystrandref01_IsKey.f k s) (decide (bs s ∈ keys)) := by
 unfold manystrandref01_IsKey.f
 refine Ev.bind (a := decide (bs s ∈ keys)) (evTo ?_ (among_f s _ h0 hb hs (by decide +kernel))) (Ev.now _)
 rw [← keys_infix hb keys (by decide +kernel)]
 congr 1
def plainB (s : ByteArray) : Bool := !(bs s).isEmpty && decide (s.size ≤ 60) && smallC (bt s 0).toNat && (bs s).all (fun b => innerC b.toNat) && !decide (bs s ∈ keys)
theorem inner_32 {l : List UInt8} (h : l.all (fun b => innerC b.toNat) = true) : (32 : UInt8) ∉ l := by
 intro hm
 have := List.all_eq_true.1 h _ hm
 revert this
 decide
theorem bt_nat (s : ByteArray) (i : Int) : bt s i = ((bt s i).toNat : Int) := by have := bt_range s i; omega
theorem ref_plain (s : ByteArray) (hs : s.size ≤ 4611686018427387904) : Ev (fun k => manystrandref01_IsPlain.f k s) (plainB s) := by
 unfold manystrandref01_IsPlain.f
 refine Ev.bind (ref_word s hs) ?_
 by_cases c : ((bs s).all (fun b => innerC b.toNat) && !(bs s).isEmpty && decide (s.size ≤ 60)) = true
 rotate_left
 · refine evTo ?_ (Ev.congr (f := fun k => some false) (fun k => by rw [if_neg c]) (Ev.now _))
   unfold plainB
   cases h1 : (bs s).all (fun b => innerC b.toNat) <;> cases h2 : (bs s).isEmpty <;> cases h3 : decide (s.size ≤ 60) <;> simp_all
 rw [c]
 simp only [if_true]
 simp only [Bool.and_eq_true, Bool.not_eq_true', List.isEmpty_eq_false_iff, decide_eq_true_eq] at c
 have hp : 0 < s.size := by rw [← bs_len]; exact List.length_pos_iff.2 c.1.2
 rw [bt_nat]
 simp only [ref_small, Option.bind_some, if_pos (show 0 < (s.size : Int) by omega)]
 by_cases d : smallC (bt s 0).toNat = true
 · rw [d]
   simp only [if_true]
   refine evTo ?_ (Ev.bind (ref_key s c.1.2 (inner_32 c.1.1) hs) (Ev.now _))
   unfold plainB
   have c0' : ¬ s.data = #[] := by intro e; apply c.1.2; simp [bs, e]
   simp [c.1.1, c.1.2, c.2, d, c0']
 · refine evTo ?_ (Ev.congr (f := fun k => some false) (fun k => by rw [if_neg d]) (Ev.now _))
   unfold plainB
   simp [d]
theorem tok_plain (s : ByteArray) (hs : s.size ≤ 4611686018427387904) : Ev (fun k => token_IsPlain.f k s) (plainB s) := by
 unfold token_IsPlain.f
 rw [tl_bs]
 by_cases c0 : bs s = []
 · refine evTo ?_ (Ev.congr (f := fun k => some false) (fun k => by rw [if_pos c0]) (Ev.now _))
   unfold plainB
   rw [c0]; rfl
 have hp : 0 < s.size := by rw [← bs_len]; exact List.length_pos_iff.2 c0
 simp only [if_neg c0]
 by_cases c1 : s.size ≤ 60
 rotate_left
 · refine evTo ?_ (Ev.congr (f := fun k => some false) (fun k => by rw [if_neg (by omega)]) (Ev.now _))
   unfold plainB
   simp [c1]
 simp only [if_pos (show (s.size : Int) ≤ 60 by omega), if_pos (show 0 < (s.size : Int) by omega)]
 rw [bt_nat]
 simp only [tok_small, Option.bind_some]
 by_cases d : smallC (bt s 0).toNat = true
 · rw [d]
   simp only [if_true]
   refine Ev.bind (tok_words s hs) ?_
   by_cases e : (bs s).all (fun b => innerC b.toNat) = true
   · rw [e]
     simp only [if_true, tok_key, Option.bind_some]
     refine evTo ?_ (Ev.now _)
     unfold plainB
     have c0' : ¬ s.data = #[] := by intro e; apply c0; simp [bs, e]
     simp [c0, c1, d, e, c0']
   · refine evTo ?_ (Ev.congr (f := fun k => some false) (fun k => by rw [if_neg e]) (Ev.now _))
     unfold plainB
     simp [e]
 · refine evTo ?_ (Ev.congr (f := fun k => some false) (fun k => by rw [if_neg d]) (Ev.now _))
   unfold plainB
   simp [d]
end Go.Proofs.Ytcnllhnhinmokaa.PHGr
end
section
set_option linter.unusedSimpArgs false
set_option linter.unusedVariables false
namespace Go.Ev.G24
open Go.RowKit Go.Proofs
open Go.Proofs.Ytcnllhnhinmokaa.PHGr (plainB atomB)
theorem plain_c (s : ByteArray) (hs : s.size ≤ 4611686018427387904) (h : Hp) : Snd Try.prog 66 [.string s] h (.bool (plainB s)) h := by
 obtain ⟨k, hk⟩ := Go.Proofs.Ytcnllhnhinmokaa.PHGr.tok_plain s hs
 exact snd_calls Try.func66 rfl rfl (fun _ _ => vrs_string) (fun _ => .bool _) (fun w => (Go.Proofs.Ytcnllhnhinmokaa.PHGr.token_IsPlain.calls k s _ w (hk k (Nat.le_refl _))).mono fun _ _ ⟨e, d⟩ => ⟨e, d.below⟩) h
theorem ref_plain_c (s : ByteArray) (hs : s.size ≤ 4611686018427387904) (h : Hp) : Snd Try.prog 68 [.string s] h (.bool (plainB s)) h := by
 obtain ⟨k, hk⟩ := Go.Proofs.Ytcnllhnhinmokaa.PHGr.ref_plain s hs
 exact snd_calls Try.func68 rfl rfl (fun _ _ => vrs_string) (fun _ => .bool _) (fun w => (Go.Proofs.Ytcnllhnhinmokaa.PHGr.manystrandref01_IsPlain.calls k s _ w (hk k (Nat.le_refl _))).mono fun _ _ ⟨e, d⟩ => ⟨e, d.below⟩) h
theorem atom_c (s : ByteArray) (hs : s.size ≤ 4611686018427387904) (h : Hp) : Snd Try.prog 92 [.string s] h (.bool (atomB s)) h := by
 obtain ⟨k, hk⟩ := Go.Proofs.Ytcnllhnhinmokaa.PHGr.tok_atom s hs
 exact snd_calls Try.func92 rfl rfl (fun _ _ => vrs_string) (fun _ => .bool _) (fun w => (Go.Proofs.Ytcnllhnhinmokaa.PHGr.grammar_isAtom.calls k s _ w (hk k (Nat.le_refl _)))) h
theorem ref_atom_c (s : ByteArray) (hs : s.size ≤ 4611686018427387904) (h : Hp) : Snd Try.prog 96 [.string s] h (.bool (atomB s)) h := by
 obtain ⟨k, hk⟩ := Go.Proofs.Ytcnllhnhinmokaa.PHGr.ref_atom s hs
 exact snd_calls Try.func96 rfl rfl (fun _ _ => vrs_string) (fun _ => .bool _) (fun w => (Go.Proofs.Ytcnllhnhinmokaa.PHGr.manystrandref02_IsAtom.calls k s _ w (hk k (Nat.le_refl _)))) h
end Go.Ev.G24
end
section
set_option linter.unusedSimpArgs false
set_option linter.unusedVariables false
namespace Go.Ev.G24
open Go.RowKit Go.Proofs
open Go.Proofs.Ytcnllhnhinmokaa.PHGr (plainB atomB)
variable {r : Ro}
mutual
def fits : Part → Prop
 | ⟨d, t, l⟩ => t.size ≤ 4611686018427387904 ∧ fitsL l
def fitsL : List Part → Prop
 | [] => True
 | x :: l => fits x ∧ fitsL l
end
theorem fitsL_get : ∀ {l : List Part}, fitsL l → ∀ (i : Nat) (p : Part), l[i]? = some p → fits p
 | x :: l, h, 0, p, hp => by simp at hp; subst hp; exact h.1
 | x :: l, h, i + 1, p, hp => fitsL_get h.2 i p (by simpa using hp)
def kindOk (nm : List ByteArray) (d t : ByteArray) (n : Nat) : Bool :=
 if d.data.toList = [105, 115] then decide (n = 0) && atomB t
 else if d.data.toList = [114, 117, 108, 101] then decide (n = 0) && decide (idxOf nm t < nm.length)
 else if t.data.toList ≠ [] then false
 else if d.data.toList = [97, 110, 121] ∨ d.data.toList = [110, 111, 116, 104, 105, 110, 103] then decide (n = 0)
 else if d.data.toList = [115, 101, 113] ∨ d.data.toList = [111, 114] then decide (1 ≤ n)
 else if d.data.toList = [109, 97, 110, 121] ∨ d.data.toList = [111, 112, 116] ∨ d.data.toList = [110, 111, 116] then decide (n = 1)
 else false
mutual
def rightP (nm : List ByteArray) : Part → Bool
 | ⟨d, t, l⟩ => rightL nm l && kindOk nm d t l.length
def rightL (nm : List ByteArray) : List Part → Bool
 | [] => true
 | x :: l => rightP nm x && rightL nm l
end
theorem int_eq0 (n : Nat) : decide ((n : Int) = 0) = decide (n = 0) := by rw [decide_eq_decide]; omega
theorem int_eq1 (n : Nat) : decide ((n : Int) = 1) = decide (n = 1) := by rw [decide_eq_decide]; omega
theorem int_ge1 (n : Nat) : decide (1 ≤ (n : Int)) = decide (1 ≤ n) := by rw [decide_eq_decide]; omega
def RightC (r : Ro) (m : Nat) (nm : List ByteArray) (p : Part) : Prop := ∀ (h : Hp) (cs : List Value), h.rom = r → h.base ≤ h.next → MapAt h m nm → RoPart r p cs → fits p →
 ∃ v h1, Snd Try.prog 67 [.agg cs.toArray, .map (some m)] h v h1 ∧ v = .bool (rightP nm p) ∧ Ext h h1
set_option maxHeartbeats 4000000 in
set_option maxRecDepth 10000 in
theorem right_c {m : Nat} {nm : List ByteArray} : ∀ (n : Nat) (p : Part), SizeOf.sizeOf p < n → RightC r m nm p := by
 intro n
 induction n with
 | zero => exact fun p hp => absurd hp (Nat.not_lt_zero _)
 | succ n ihn =>
 rintro ⟨d, t, l⟩ hn h cs hrom hb hM hp hft
 have ih : ∀ (i : Nat) (p : Part), l[i]? = some p → RightC r m nm p := fun i p hp => ihn p (by
  have := List.sizeOf_lt_of_mem (List.mem_of_getElem? hp)
  simp only [Part.mk.sizeOf_spec] at hn
  omega)
 have hnk : ∀ (i : Nat) (p : Part), l[i]? = some p → fits p := fitsL_get hft.2
 cases hp with
 | mk _ _ _ Av c b o css hc hlb hA hat hk hs =>
 refine snd_go wf Try.func67 rfl rfl (n := 71) rfl (by kernel_rfl) rfl ?_
 intro a hn hg
 have hr : Try.f67.results.toList = [.tmp 4] := rfl
 have g0 := hg 0
 have g1 := hg 1
 clear hg
 simp only [List.getElem?_cons_zero, List.getElem?_cons_succ] at g0 g1
 have hP := own_new hb 52 [.string d, .string t, .slice Av l.length c]
 have hx0 := Ext.new h (CObj.cells { c := [.string d, .string t, .slice Av l.length c], e := 52, fam := 0, base := 0, grown := false })
 have hb1 := Nat.le_succ_of_le (m := h.next) hb
 have hM0 := hM.ext hx0
 have e : rightP nm ⟨d, t, l⟩ = (rightL nm l && kindOk nm d t l.length) := by rw [rightP]
 simp -dsimp only [go_sem, g0, g1, load_own hP]
 refine loop_go (n := 71) (by kernel_rfl) (fun m' a' h' => ∃ i : Nat, i ≤ l.length ∧ m' = l.length - i ∧ Ext (h.newH (CObj.cells { c := [.string d, .string t, .slice Av l.length c], e := 52, fam := 0, base := 0, grown := false })) h' ∧ rightL nm (l.drop i) = rightL nm l ∧
  a'.get 1 = .map (some m) ∧ a'.get 2 = .pointer (some ⟨h.next, 0, none⟩) ∧ a'.get 5 = .int .i64 l.length ∧ a'.get 14 = .slice Av l.length c ∧ a'.get 15 = .int .i64 l.length ∧ a'.get 16 = .int .i64 i) ?_ l.length _ _ (by simp -dsimp only [go_sem, hn]) ⟨0, Nat.zero_le _, rfl, Ext.refl _, rfl, by simp -dsimp only [go_sem, g1]; rfl⟩
 rintro m' a' h' hn' ⟨i, hi, rfl, hx, hst, e1, e2, e5, e14, e15, e16⟩
 have hrom' : h'.rom = r := hx.rom.trans hrom
 have hb' : h'.base ≤ h'.next := by rw [hx.base]; exact Nat.le_trans hb1 hx.next
 by_cases hlt : i < l.length
 · have hpi : l[i]? = some l[i] := List.getElem?_eq_getElem hlt
   have hi1 : decide ((i : Int) < (l.length : Int)) = true := decide_eq_true (Int.ofNat_lt.2 hlt)
   obtain ⟨Av1, c1', hcs⟩ := (hk i _ hpi).shape
   have hat' := hat i _ hpi
   have hkid := hk i _ hpi
   rw [hcs] at hat' hkid
   have hAv := hA (ne_nil hlt)
   subst hAv
   obtain ⟨vS, vO, vX, vB, vR⟩ := var_ok hb' (e := 52) (c0 := [.string ⟨#[]⟩, .string ⟨#[]⟩, .slice none 0 0]) (c1 := [.string l[i].d, .string l[i].t, .slice Av1 l[i].l.length c1']) rfl rfl (by simp)
   simp -dsimp only [go_sem, e1, e2, e5, e14, e15, e16, hi1, ia50 hlt, loads_ro (n := 3) hrom' hat' rfl, vS, loads_own vO]
   obtain ⟨_, h2, hs, rfl, hx2⟩ := ih i _ hpi _ _ (vR.trans hrom') vB ((hM0.ext hx).ext vX) hkid (hnk i _ hpi)
   refine ⟨_, h2, hs, ?_⟩
   rw [List.drop_eq_getElem_cons hlt, rightL] at hst
   have hx3 := hx.trans (vX.trans hx2)
   simp -dsimp only [go_sem]
   refine Wcond_in (fun hm => ?_) (fun hm => ?_)
   · simp -dsimp only [go_sem, hr]
     refine ⟨?_, hx0.trans hx3⟩
     have hm' : rightP nm l[i] = false := by simpa using hm
     rw [e, ← hst, hm']
     rfl
   · simp -dsimp only [go_sem, e15, e16, wrap64_succ hlt hlb]
     have hm' : rightP nm l[i] = true := by simpa using hm
     rw [hm', Bool.true_and] at hst
     exact ⟨l.length - (i + 1), by omega, i + 1, hlt, rfl, hx3, hst, e1, e2, e5, e14, rfl⟩
 · have hi0 : decide ((i : Int) < (l.length : Int)) = false := decide_eq_false (by omega)
   rw [List.drop_eq_nil_of_le (by omega), rightL] at hst
   rw [← hst, Bool.true_and] at e
   have hP' := own_ext hx hP
   have hM' := hM0.ext hx
   simp -dsimp only [go_sem, e2, e15, e16, hi0, load_own hP']
   have hx9 := hx0.trans hx
   by_cases c1 : d.data.toList = [105, 115]
   · by_cases cn : l.length = 0
     · have kn : decide ((l.length : Int) = 0) = true := by rw [int_eq0]; exact decide_eq_true cn
       simp -dsimp only [go_sem, decide_eq_true c1, e2, e5, kn, load_own hP', hr]
       refine ⟨_, _, atom_c t hft.1 _, ?_⟩
       exact ⟨by rw [e]; simp [kindOk, c1, cn], hx9⟩
     · have kn : decide ((l.length : Int) = 0) = false := by rw [int_eq0]; exact decide_eq_false cn
       simp -dsimp only [go_sem, undef', decide_eq_true c1, e2, e5, kn, load_own hP', hr]
       exact ⟨by rw [e]; simp [kindOk, c1, cn], hx9⟩
   by_cases c2 : d.data.toList = [114, 117, 108, 101]
   · by_cases cn : l.length = 0
     · have kn : decide ((l.length : Int) = 0) = true := by rw [int_eq0]; exact decide_eq_true cn
       by_cases ci : idxOf nm t < nm.length
       · simp -dsimp only [go_sem, undef', decide_eq_false c1, decide_eq_true c2, e1, e2, e5, kn, load_own hP', hM'.hit ci, hr]
         exact ⟨by rw [e]; simp [kindOk, c2, cn, ci], hx9⟩
       · simp -dsimp only [go_sem, undef', decide_eq_false c1, decide_eq_true c2, e1, e2, e5, kn, load_own hP', hM'.miss ci, hr]
         exact ⟨by rw [e]; simp [kindOk, c2, cn, ci], hx9⟩
     · have kn : decide ((l.length : Int) = 0) = false := by rw [int_eq0]; exact decide_eq_false cn
       by_cases ci : idxOf nm t < nm.length
       · simp -dsimp only [go_sem, undef', decide_eq_false c1, decide_eq_true c2, e1, e2, e5, kn, load_own hP', hM'.hit ci, hr]
         exact ⟨by rw [e]; simp [kindOk, c2, cn, ci], hx9⟩
       · simp -dsimp only [go_sem, undef', decide_eq_false c1, decide_eq_true c2, e1, e2, e5, kn, load_own hP', hM'.miss ci, hr]
         exact ⟨by rw [e]; simp [kindOk, c2, cn, ci], hx9⟩
   by_cases c3 : t.data.toList = []
   rotate_left
   · simp -dsimp only [go_sem, decide_eq_false c1, decide_eq_false c2, decide_eq_false c3, e2, e5, load_own hP', hr]
     exact ⟨by rw [e]; simp [kindOk, c1, c2, c3], hx9⟩
   by_cases c4 : d.data.toList = [97, 110, 121]
   · simp -dsimp only [go_sem, decide_eq_false c1, decide_eq_false c2, decide_eq_true c3, decide_eq_true c4, e2, e5, load_own hP', int_eq0, hr]
     exact ⟨by rw [e]; simp [kindOk, c3, c4], hx9⟩
   by_cases c5 : d.data.toList = [110, 111, 116, 104, 105, 110, 103]
   · simp -dsimp only [go_sem, decide_eq_false c1, decide_eq_false c2, decide_eq_true c3, decide_eq_false c4, decide_eq_true c5, e2, e5, load_own hP', int_eq0, hr]
     exact ⟨by rw [e]; simp [kindOk, c3, c5], hx9⟩
   by_cases c6 : d.data.toList = [115, 101, 113]
   · simp -dsimp only [go_sem, decide_eq_false c1, decide_eq_false c2, decide_eq_true c3, decide_eq_false c4, decide_eq_false c5, decide_eq_true c6, e2, e5, load_own hP', int_ge1, hr]
     exact ⟨by rw [e]; simp [kindOk, c3, c6], hx9⟩
   by_cases c7 : d.data.toList = [111, 114]
   · simp -dsimp only [go_sem, decide_eq_false c1, decide_eq_false c2, decide_eq_true c3, decide_eq_false c4, decide_eq_false c5, decide_eq_false c6, decide_eq_true c7, e2, e5, load_own hP', int_ge1, hr]
     exact ⟨by rw [e]; simp [kindOk, c3, c7], hx9⟩
   by_cases c8 : d.data.toList = [109, 97, 110, 121]
   · simp -dsimp only [go_sem, decide_eq_false c1, decide_eq_false c2, decide_eq_true c3, decide_eq_false c4, decide_eq_false c5, decide_eq_false c6, decide_eq_false c7, decide_eq_true c8, e2, e5, load_own hP', int_eq1, hr]
     exact ⟨by rw [e]; simp [kindOk, c3, c8], hx9⟩
   by_cases c9 : d.data.toList = [111, 112, 116]
   · simp -dsimp only [go_sem, decide_eq_false c1, decide_eq_false c2, decide_eq_true c3, decide_eq_false c4, decide_eq_false c5, decide_eq_false c6, decide_eq_false c7, decide_eq_false c8, decide_eq_true c9, e2, e5, load_own hP', int_eq1, hr]
     exact ⟨by rw [e]; simp [kindOk, c3, c9], hx9⟩
   by_cases c10 : d.data.toList = [110, 111, 116]
   · simp -dsimp only [go_sem, decide_eq_false c1, decide_eq_false c2, decide_eq_true c3, decide_eq_false c4, decide_eq_false c5, decide_eq_false c6, decide_eq_false c7, decide_eq_false c8, decide_eq_false c9, decide_eq_true c10, e2, e5, load_own hP', int_eq1, hr]
     exact ⟨by rw [e]; simp [kindOk, c3, c10], hx9⟩
   simp -dsimp only [go_sem, decide_eq_false c1, decide_eq_false c2, decide_eq_true c3, decide_eq_false c4, decide_eq_false c5, decide_eq_false c6, decide_eq_false c7, decide_eq_false c8, decide_eq_false c9, decide_eq_false c10, e2, e5, load_own hP', hr]
   exact ⟨by rw [e]; simp [kindOk, c1, c2, c3, c4, c5, c6, c7, c8, c9, c10], hx9⟩
end Go.Ev.G24
end
section
set_option linter.unusedSimpArgs false
set_option linter.unusedVariables false
namespace Go.Ev.G24
open Go.RowKit Go.Proofs
open Go.Proofs.Ytcnllhnhinmokaa.PHGr (plainB atomB)
variable {r : Ro}
def rightRs (nm : List ByteArray) : List Rule → Bool
 | [] => true
 | x :: l => (plainB x.name && rightP nm x.body) && rightRs nm l
def rightG (l : List Rule) : Bool := fresh [] (nms l) && !decide (l.length = 0) && rightRs (nms l) l
def fitsG (l : List Rule) : Prop := ∀ (i : Nat) (x : Rule), l[i]? = some x → x.name.size ≤ 4611686018427387904 ∧ fits x.body
set_option maxHeartbeats 4000000 in
set_option maxRecDepth 10000 in
theorem Right_c {l : List Rule} {Av : Option Addr} {c b o : Nat} {css : Nat → List Value} (R : RoRules r l Av c b o css) (hft : fitsG l) (h : Hp) (hrom : h.rom = r) (hb : h.base ≤ h.next) :
  ∃ v h1, Snd Try.prog 34 [.agg #[.slice Av l.length c]] h v h1 ∧ v = .bool (rightG l) ∧ Ext h h1 := by
 refine snd_go wf Try.func34 rfl rfl (n := 39) rfl (by kernel_rfl) rfl ?_
 intro a hn hg
 have hr : Try.f34.results.toList = [.tmp 2] := rfl
 have g0 := hg 0
 clear hg
 simp only [List.getElem?_cons_zero, List.getElem?_cons_succ] at g0
 have hP := own_new hb 24 [.slice Av l.length c]
 have hx0 := Ext.new h (CObj.cells { c := [.slice Av l.length c], e := 24, fam := 0, base := 0, grown := false })
 have hb1 := Nat.le_succ_of_le (m := h.next) hb
 simp -dsimp only [go_sem, g0, loads_own hP]
 generalize h.newH (CObj.cells { c := [.slice Av l.length c], e := 24, fam := 0, base := 0, grown := false }) = h0 at hP hx0 ⊢
 obtain ⟨_, h2, hs2, hx2, hv2⟩ := rules_c R h0 (hx0.rom.trans hrom) (by rw [hx0.base]; exact Nat.le_trans hb hx0.next)
 refine ⟨_, h2, hs2, ?_⟩
 have hP2 := own_ext hx2 hP
 by_cases cf : fresh [] (nms l) = true
 rotate_left
 · rw [if_neg cf] at hv2
   subst hv2
   simp -dsimp only [go_sem, undef', hr]
   exact ⟨by simp [rightG, cf], hx0.trans hx2⟩
 rw [if_pos cf] at hv2
 obtain ⟨m, rfl, hm1, hM⟩ := hv2
 by_cases cn : l.length = 0
 · have kn : decide ((l.length : Int) = 0) = true := by rw [int_eq0]; exact decide_eq_true cn
   simp -dsimp only [go_sem, load_own hP2, kn, hr]
   exact ⟨by simp [rightG, cn], hx0.trans hx2⟩
 have kn : decide ((l.length : Int) = 0) = false := by rw [int_eq0]; exact decide_eq_false cn
 have e : rightG l = rightRs (nms l) l := by simp [rightG, cf, cn]
 simp -dsimp only [go_sem, load_own hP2, kn, hr]
 have hx02 := hx0.trans hx2
 refine loop_go (n := 39) (by kernel_rfl) (fun m' a' h' => ∃ i : Nat, i ≤ l.length ∧ m' = l.length - i ∧ Ext h2 h' ∧ rightRs (nms l) (l.drop i) = rightRs (nms l) l ∧
  a'.get 3 = .map (some m) ∧ a'.get 21 = .slice Av l.length c ∧ a'.get 22 = .int .i64 l.length ∧ a'.get 23 = .int .i64 i) ?_ l.length _ _ (by simp -dsimp only [go_sem, hn]) ⟨0, Nat.zero_le _, rfl, Ext.refl _, rfl, by simp -dsimp only [go_sem]; rfl⟩
 rintro m' a' h' hn' ⟨i, hi, rfl, hx, hst, e3, e21, e22, e23⟩
 have hrom' : h'.rom = r := (hx02.trans hx).rom.trans hrom
 have hb' : h'.base ≤ h'.next := by rw [(hx02.trans hx).base]; exact Nat.le_trans hb (hx02.trans hx).next
 by_cases hlt : i < l.length
 · have hpi : l[i]? = some l[i] := List.getElem?_eq_getElem hlt
   have hi1 : decide ((i : Int) < (l.length : Int)) = true := decide_eq_true (Int.ofNat_lt.2 hlt)
   obtain ⟨Av1, c1', hcs⟩ := (R.hk i _ hpi).shape
   have hat' := R.hat i _ hpi
   have hkid := R.hk i _ hpi
   rw [hcs] at hat' hkid
   have hAv := R.hA (ne_nil hlt)
   subst hAv
   obtain ⟨vS, vO, vX, vB, vR⟩ := var_ok hb' (e := 54) (c0 := [.string ⟨#[]⟩, .string ⟨#[]⟩, .string ⟨#[]⟩, .slice none 0 0]) (c1 := [.string l[i].name, .string l[i].body.d, .string l[i].body.t, .slice Av1 l[i].body.l.length c1']) rfl rfl (by simp)
   rw [List.drop_eq_getElem_cons hlt, rightRs] at hst
   simp -dsimp only [go_sem, e3, e21, e22, e23, hi1, ia22 hlt, loads_ro (n := 4) hrom' hat' rfl, vS, load_own vO]
   refine ⟨_, _, plain_c l[i].name (hft i _ hpi).1 _, ?_⟩
   cases hpl : plainB l[i].name with
   | false =>
     rw [hpl] at hst
     simp -dsimp only [go_sem, undef', hr]
     exact ⟨by rw [e, ← hst]; rfl, (hx02.trans hx).trans vX⟩
   | true =>
     rw [hpl, Bool.true_and] at hst
     simp -dsimp only [go_sem, e3, e22, e23, loads_own vO]
     obtain ⟨_, h4, hs4, rfl, hx4⟩ := right_c _ l[i].body (Nat.lt_succ_self _) _ _ (vR.trans hrom') vB ((hM.ext hx).ext vX) hkid (hft i _ hpi).2
     refine ⟨_, h4, hs4, ?_⟩
     have hx5 := hx.trans (vX.trans hx4)
     cases hrp : rightP (nms l) l[i].body with
     | false =>
       rw [hrp] at hst
       simp -dsimp only [go_sem, hr]
       exact ⟨by rw [e, ← hst]; rfl, hx02.trans hx5⟩
     | true =>
       rw [hrp, Bool.true_and] at hst
       simp -dsimp only [go_sem, e22, e23, wrap64_succ hlt (Nat.le_trans R.hb (by decide))]
       exact ⟨l.length - (i + 1), by omega, i + 1, hlt, rfl, hx5, hst, e3, e21, rfl⟩
 · have hi0 : decide ((i : Int) < (l.length : Int)) = false := decide_eq_false (by omega)
   rw [List.drop_eq_nil_of_le (by omega), rightRs] at hst
   simp -dsimp only [go_sem, e22, e23, hi0, hr]
   exact ⟨by rw [e, ← hst], hx02.trans hx⟩
end Go.Ev.G24
end
section
set_option linter.unusedSimpArgs false
set_option linter.unusedVariables false
namespace Go.Ev.G24
open Go.RowKit Go.Proofs
open Go.Proofs.Ytcnllhnhinmokaa.PHGr (plainB atomB)
variable {r : Ro}
theorem kind_rule {nm : List ByteArray} {d t : ByteArray} {n : Nat} (h : kindOk nm d t n = true) (hd : d.data.toList = [114, 117, 108, 101]) : idxOf nm t < nm.length := by
 unfold kindOk at h
 rw [if_neg (by rw [hd]; decide), if_pos hd, Bool.and_eq_true] at h
 exact of_decide_eq_true h.2
theorem kind_one {nm : List ByteArray} {d t : ByteArray} {n : Nat} (h : kindOk nm d t n = true) (hd : oneKid d) : n = 1 := by
 unfold kindOk at h
 have k1 : d.data.toList ≠ [105, 115] := by rcases hd with hd | hd | hd <;> rw [hd] <;> decide
 have k2 : d.data.toList ≠ [114, 117, 108, 101] := by rcases hd with hd | hd | hd <;> rw [hd] <;> decide
 have k3 : ¬ (d.data.toList = [97, 110, 121] ∨ d.data.toList = [110, 111, 116, 104, 105, 110, 103]) := by rcases hd with hd | hd | hd <;> rw [hd] <;> decide
 have k4 : ¬ (d.data.toList = [115, 101, 113] ∨ d.data.toList = [111, 114]) := by rcases hd with hd | hd | hd <;> rw [hd] <;> decide
 rw [if_neg k1, if_neg k2] at h
 split at h
 · cases h
 · rw [if_pos (show _ ∨ _ ∨ _ from hd)] at h
   exact of_decide_eq_true h
mutual
theorem right_named {nm : List ByteArray} : ∀ (p : Part), rightP nm p = true → named nm p
 | ⟨d, t, l⟩, h => by
   rw [rightP, Bool.and_eq_true] at h
   rw [named]
   exact ⟨kind_rule h.2, kind_one h.2, rightL_named l h.1⟩
theorem rightL_named {nm : List ByteArray} : ∀ (l : List Part), rightL nm l = true → namedL nm l
 | [], _ => by rw [namedL]; trivial
 | x :: l, h => by
   rw [rightL, Bool.and_eq_true] at h
   rw [namedL]
   exact ⟨right_named x h.1, rightL_named l h.2⟩
end
theorem rightRs_get {nm : List ByteArray} : ∀ {l : List Rule}, rightRs nm l = true → ∀ (i : Nat) (x : Rule), l[i]? = some x → rightP nm x.body = true
 | y :: l, h, i, x, hx => by
   rw [rightRs, Bool.and_eq_true, Bool.and_eq_true] at h
   cases i with
   | zero => simp at hx; subst hx; exact h.1.2
   | succ i => exact rightRs_get h.2 i x (by simpa using hx)
theorem rightG_named {l : List Rule} (h : rightG l = true) : fresh [] (nms l) = true ∧ ∀ (i : Nat) (x : Rule), l[i]? = some x → named (nms l) x.body := by
 rw [rightG, Bool.and_eq_true, Bool.and_eq_true] at h
 exact ⟨h.1.1, fun i x hx => right_named _ (rightRs_get h.2 i x hx)⟩
def fineB (l : List Rule) (em : List Bool) : Bool := !(recB l em).any (true == ·)
set_option maxHeartbeats 4000000 in
set_option maxRecDepth 10000 in
theorem usable_c {l : List Rule} {Av : Option Addr} {c b o : Nat} {css : Nat → List Value} (R : RoRules r l Av c b o css) (hft : fitsG l) (h : Hp) (hrom : h.rom = r) (hb : h.base ≤ h.next) :
  ∃ v h1, Snd Try.prog 61 [.agg #[.slice Av l.length c]] h v h1 ∧ Ext h h1 ∧ (if rightG l = true then ∃ bk m eb em, v = .tuple #[.pointer (some ⟨bk, 0, none⟩), .bool (fineB l em)] ∧ h.next ≤ bk ∧ h.next ≤ m ∧ h.next ≤ eb ∧ Book h1 bk m eb (.slice Av l.length c) (nms l) em ∧ Found l em
   else v = .tuple #[.pointer none, .bool false]) := by
 refine snd_go wf Try.func61 rfl rfl (n := 15) rfl (by kernel_rfl) rfl ?_
 intro a hn hg
 have hr : Try.f61.results.toList = [.tmp 2, .tmp 3] := rfl
 have g0 := hg 0
 clear hg
 simp only [List.getElem?_cons_zero, List.getElem?_cons_succ] at g0
 have hP := own_new hb 24 [.slice Av l.length c]
 have hx0 := Ext.new h (CObj.cells { c := [.slice Av l.length c], e := 24, fam := 0, base := 0, grown := false })
 simp -dsimp only [go_sem, g0, loads_own hP]
 generalize h.newH (CObj.cells { c := [.slice Av l.length c], e := 24, fam := 0, base := 0, grown := false }) = h0 at hP hx0 ⊢
 have hb0 : h0.base ≤ h0.next := by rw [hx0.base]; exact Nat.le_trans hb hx0.next
 obtain ⟨_, h2, hs2, rfl, hx2⟩ := Right_c R hft h0 (hx0.rom.trans hrom) hb0
 refine ⟨_, h2, hs2, ?_⟩
 have hP2 := own_ext hx2 hP
 have hx02 := hx0.trans hx2
 have hb2 : h2.base ≤ h2.next := by rw [hx02.base]; exact Nat.le_trans hb hx02.next
 cases hrg : rightG l with
 | false =>
   simp -dsimp only [go_sem, hr]
   exact hx02
 | true =>
   obtain ⟨hfr, hnm⟩ := rightG_named hrg
   simp -dsimp only [go_sem, loads_own hP2]
   obtain ⟨_, h4, hs4, hx4, bk, m, eb, em, rfl, l1, l2, l3, hB, hF⟩ := open_c R hfr hnm h2 (hx02.rom.trans hrom) hb2
   refine ⟨_, h4, hs4, ?_⟩
   have hx04 := hx02.trans hx4
   have hb4 : h4.base ≤ h4.next := by rw [hx04.base]; exact Nat.le_trans hb hx04.next
   try simp -dsimp only [go_sem]
   obtain ⟨_, h5, hs5, hx5, ob, rfl, l4, hO⟩ := recursive_c R hnm h4 (hx04.rom.trans hrom) hb4 hB
   refine ⟨_, h5, hs5, ?_⟩
   have hx05 := hx04.trans hx5
   have hb5 : h5.base ≤ h5.next := by rw [hx05.base]; exact Nat.le_trans hb hx05.next
   try simp -dsimp only [go_sem]
   obtain ⟨_, h6, hs6, rfl, hx6⟩ := contains_c h5 hb5 hO (by rw [recB_len]; exact R.hb) true
   rw [recB_len] at hs6
   refine ⟨_, h6, hs6, ?_⟩
   simp -dsimp only [go_sem, hr]
   exact ⟨hx05.trans hx6, bk, m, eb, em, rfl, Nat.le_trans hx02.next l1, Nat.le_trans hx02.next l2, Nat.le_trans hx02.next l3, (hB.ext hx5).ext hx6, hF⟩
def withB (l : List Rule) (em : List Bool) (s : ByteArray) : Bool := fineB l em && decide (idxOf (nms l) s < l.length)
def WithP (l : List Rule) (Av : Option Addr) (c : Nat) (s : ByteArray) (h : Hp) (v : Value) (h1 : Hp) : Prop := Ext h h1 ∧
 ((v = .tuple #[.pointer none, .agg #[.string ⟨#[]⟩, .string ⟨#[]⟩, .slice none 0 0], .bool false] ∧ (rightG l = true → ∃ em, Found l em ∧ withB l em s = false)) ∨
   (rightG l = true ∧ ∃ bk m eb em, v = .tuple #[.pointer (some ⟨bk, 0, none⟩), .agg #[.string ⟨#[114, 117, 108, 101]⟩, .string s, .slice none 0 0], .bool true] ∧ h.next ≤ bk ∧ h.next ≤ m ∧ h.next ≤ eb ∧ Book h1 bk m eb (.slice Av l.length c) (nms l) em ∧ Found l em ∧ withB l em s = true))
set_option maxHeartbeats 4000000 in
set_option maxRecDepth 10000 in
theorem with_c {l : List Rule} {Av : Option Addr} {c b o : Nat} {css : Nat → List Value} (R : RoRules r l Av c b o css) (hft : fitsG l) (s : ByteArray) (h : Hp) (hrom : h.rom = r) (hb : h.base ≤ h.next) :
  ∃ v h1, Snd Try.prog 45 [.agg #[.slice Av l.length c], .string s] h v h1 ∧ WithP l Av c s h v h1 := by
 refine snd_go wf Try.func45 rfl rfl (n := 32) rfl (by kernel_rfl) rfl ?_
 intro a hn hg
 have hr : Try.f45.results.toList = [.tmp 4, .cell 5 52, .tmp 6] := rfl
 have g0 := hg 0
 have g1 := hg 1
 clear hg
 simp only [List.getElem?_cons_zero, List.getElem?_cons_succ] at g0 g1
 have hnl : (nms l).length = l.length := by simp [nms]
 have hP := own_new hb 24 [.slice Av l.length c]
 have hx0 := Ext.new h (CObj.cells { c := [.slice Av l.length c], e := 24, fam := 0, base := 0, grown := false })
 have hb0 := Nat.le_succ_of_le (m := h.next) hb
 simp -dsimp only [go_sem, g0, g1, loads_own hP, next_newH]
 have hZ := own_new (h := h.newH (CObj.cells { c := [.slice Av l.length c], e := 24, fam := 0, base := 0, grown := false })) hb0 52 [.string ⟨#[]⟩, .string ⟨#[]⟩, .slice none 0 0]
 have hP1 := own_newH hP (CObj.cells { c := [.string ⟨#[]⟩, .string ⟨#[]⟩, .slice none 0 0], e := 52, fam := 0, base := 0, grown := false })
 have hx1 := hx0.trans (Ext.new _ (CObj.cells { c := [.string ⟨#[]⟩, .string ⟨#[]⟩, .slice none 0 0], e := 52, fam := 0, base := 0, grown := false }))
 simp -dsimp only [go_sem, loads_own hP1]
 simp only [next_newH] at hZ
 generalize (h.newH (CObj.cells { c := [.slice Av l.length c], e := 24, fam := 0, base := 0, grown := false })).newH (CObj.cells { c := [.string ⟨#[]⟩, .string ⟨#[]⟩, .slice none 0 0], e := 52, fam := 0, base := 0, grown := false }) = h0 at hP1 hZ hx1 ⊢
 obtain ⟨_, h2, hs2, hx2, hv2⟩ := usable_c R hft h0 (hx1.rom.trans hrom) (by rw [hx1.base]; exact Nat.le_trans hb hx1.next)
 refine ⟨_, h2, hs2, ?_⟩
 have hx02 := hx1.trans hx2
 have hZ2 := own_ext hx2 hZ
 have hs0 := stores_own hZ2 (o := 0) (vs := [.string ⟨#[]⟩, .string ⟨#[]⟩, .slice none 0 0]) (c1 := [.string ⟨#[]⟩, .string ⟨#[]⟩, .slice none 0 0]) rfl rfl (by simp)
 have hs1 := stores_own hZ2 (o := 0) (vs := [.string ⟨#[114, 117, 108, 101]⟩, .string s, .slice none 0 0]) (c1 := [.string ⟨#[114, 117, 108, 101]⟩, .string s, .slice none 0 0]) rfl rfl (by simp)
 have hZ0 := own_put_same hZ2 [.string ⟨#[]⟩, .string ⟨#[]⟩, .slice none 0 0]
 have hZ1 := own_put_same hZ2 [.string ⟨#[114, 117, 108, 101]⟩, .string s, .slice none 0 0]
 have hxe := fun o : CObj => hx02.put (b := h.next + 1) (Nat.le_succ _) o
 cases hrg : rightG l with
 | false =>
   rw [if_neg (by rw [hrg]; simp)] at hv2
   subst hv2
   simp -dsimp only [go_sem, hs0, hr, loads_own hZ0]
   exact ⟨hxe _, .inl ⟨rfl, fun e => by rw [hrg] at e; cases e⟩⟩
 | true =>
   rw [if_pos hrg] at hv2
   obtain ⟨bk, m, eb, em, rfl, l1, l2, l3, hB, hF⟩ := hv2
   cases hfi : fineB l em with
   | false =>
     simp -dsimp only [go_sem, hs0, hr, loads_own hZ0]
     exact ⟨hxe _, .inl ⟨rfl, fun _ => ⟨em, hF, by simp [withB, hfi]⟩⟩⟩
   | true =>
     have hM : MapAt h2 m (nms l) := hB.map
     by_cases ci : idxOf (nms l) s < (nms l).length
     · simp -dsimp only [go_sem, g1, load_own hB.own, hM.hit ci, hs1, hr, loads_own hZ1]
       have hne : bk ≠ h.next + 1 := by have := hx1.next; have := hZ.2.1; omega
       refine ⟨hxe _, .inr ⟨hrg, bk, m, eb, em, rfl, by have := hx1.next; omega, by have := hx1.next; omega, by have := hx1.next; omega, ?_, hF, ?_⟩⟩
       · refine hB.extS (S := Only (h.next + 1)) (((Ext.refl h2).toS (S := Only (h.next + 1))).put (b := h.next + 1) (.inr rfl) _) hne ?_ ?_
         · have := hZ.2.1; show ¬ m = h.next + 1; omega
         · have := hZ.2.1; show ¬ eb = h.next + 1; omega
       · rw [hnl] at ci
         simp [withB, hfi, ci]
     · simp -dsimp only [go_sem, g1, load_own hB.own, hM.miss ci, hs0, hr, loads_own hZ0]
       rw [hnl] at ci
       exact ⟨hxe _, .inl ⟨rfl, fun _ => ⟨em, hF, by simp [withB, ci]⟩⟩⟩
end Go.Ev.G24
end
section
set_option linter.unusedSimpArgs false
set_option linter.unusedVariables false
namespace Go.Ev.G24
open Go.RowKit Go.Proofs
variable {r : Ro} {h : Hp}
structure RoItems (r : Ro) (items : List ByteArray) (Iv : Option Addr) (c b o : Nat) : Prop where
 hc : items.length ≤ c
 hb : items.length ≤ 1000
 hA : items ≠ [] → Iv = some ⟨b, o, none⟩
 hat : ∀ (i : Nat) (s : ByteArray), items[i]? = some s → roAt r b (o + i) [.string s]
 hs : spotless Iv = true
def testB (q : Option ByteArray) (s : ByteArray) : Bool := match q with
 | none => true
 | some t => decide (s.data.toList = t.data.toList)
def runRow (bk : Nat) (Iv : Option Addr) (n c mm : Nat) (far : Nat) : List Value := [.pointer (some ⟨bk, 0, none⟩), .slice Iv n c, .map (some mm), .int .i64 (far : Int)]
end Go.Ev.G24
end
section
set_option linter.unusedSimpArgs false
set_option linter.unusedVariables false
namespace Go.Ev.G24
open Go.RowKit Go.Proofs
variable {h h1 h2 : Hp} {B F B' F' : Nat → Prop}
structure RowAt (h : Hp) (b : Nat) (cs : List Value) (f : Nat) : Prop where
 lo : h.base ≤ b
 lt : b < h.next
 row : ∃ bs g, h.row b = some ⟨cs, 31, f, bs, g⟩
 fl : f ≠ 0 → f < h.nfam
theorem row_loads {b o n : Nat} {cs : List Value} {f : Nat} (k : RowAt h b cs f) : h.loads ⟨b, o, none⟩ n = takeN (cs.drop o) n := by
 obtain ⟨bs, g, hr⟩ := k.row
 cases n with
 | zero => simp [Hp.loads, takeN]
 | succ n => simp only [Hp.loads, blt_false k.lo, hr]
structure Keeps (B F : Nat → Prop) (h h1 : Hp) : Prop where
 base : h1.base = h.base
 ro : h1.ro = h.ro
 next : h.next ≤ h1.next
 nfam : h.nfam ≤ h1.nfam
 rows : ∀ b cs f, RowAt h b cs f → ¬ B b → ¬ F f → RowAt h1 b cs f
theorem Keeps.trans (x : Keeps B F h h1) (y : Keeps B F h1 h2) : Keeps B F h h2 :=
 ⟨y.base.trans x.base, y.ro.trans x.ro, Nat.le_trans x.next y.next, Nat.le_trans x.nfam y.nfam, fun b cs f k hb hf => y.rows b cs f (x.rows b cs f k hb hf) hb hf⟩
theorem Keeps.mono (x : Keeps B F h h1) (hB : ∀ b, b < h.next → B b → B' b) (hF : ∀ f, f ≠ 0 → f < h.nfam → F f → F' f) (h0 : ¬ F 0) : Keeps B' F' h h1 :=
 ⟨x.base, x.ro, x.next, x.nfam, fun b cs f k hb hf => x.rows b cs f k (fun c => hb (hB b k.lt c)) (fun c => hf (hF f (fun e => h0 (e ▸ c)) (k.fl (fun e => h0 (e ▸ c))) c))⟩
theorem keepsS {S : Nat → Prop} (x : ExtS S h h1) : Keeps S (fun _ => False) h h1 := by
 refine ⟨x.base, x.ro, x.next, x.nfam, fun b cs f k hb _ => ⟨by rw [x.base]; exact k.lo, Nat.lt_of_lt_of_le k.lt x.next, ?_, fun e => Nat.lt_of_lt_of_le (k.fl e) x.nfam⟩⟩
 obtain ⟨bs, g, hr⟩ := k.row
 refine ⟨bs, g, ?_⟩
 unfold Hp.row at hr ⊢
 rw [x.objs b k.lt hb]
 cases hg : h.objs.get b with
 | none => rw [hg] at hr; cases hr
 | some ob =>
   rw [hg] at hr
   cases ob with
   | cells r =>
     simp only at hr ⊢
     cases hf : r.fam with
     | zero => rw [hf] at hr; exact hr
     | succ q =>
       rw [hf] at hr
       simp only at hr ⊢
       have hrf : r = ⟨cs, 31, f, bs, g⟩ := by
        split at hr
        · split at hr
          · injection hr
          · cases hr
        · cases hr
       have hfq : f = q + 1 := by rw [← hf, hrf]
       rw [x.fams (q + 1) (by rw [← hfq]; exact k.fl (by omega))]
       exact hr
   | map es k => cases hr
   | sIter s p => cases hr
   | mIter a b c d => cases hr
theorem keepsE (x : Ext h h1) : Keeps (fun _ => False) (fun _ => False) h h1 := keepsS (x.toS (S := fun _ => False))
inductive TreeAt (h : Hp) (B F : Nat → Prop) : Part → List Value → Prop
 | mk (d t : ByteArray) (l : List Part) (Av : Option Addr) (c b o f : Nat) (row : List Value) (css : Nat → List Value) (hc : l.length ≤ c) (hs : spotless Av = true)
  (hA : l ≠ [] → Av = some ⟨b, o, none⟩ ∧ RowAt h b row f ∧ ¬ B b ∧ ¬ F f) (hat : ∀ (i : Nat) (p : Part), l[i]? = some p → takeN (row.drop (o + i * 3)) 3 = some (css i)) (hk : ∀ (i : Nat) (p : Part), l[i]? = some p → TreeAt h B F p (css i)) :
  TreeAt h B F ⟨d, t, l⟩ [.string d, .string t, .slice Av l.length c]
def KidsAt (h : Hp) (B F : Nat → Prop) (l : List Part) (v : Value) : Prop := ∃ (Av : Option Addr) (c b o f : Nat) (row : List Value) (css : Nat → List Value), v = .slice Av l.length c ∧ l.length ≤ c ∧ spotless Av = true ∧
 (l ≠ [] → Av = some ⟨b, o, none⟩ ∧ RowAt h b row f ∧ ¬ B b ∧ ¬ F f) ∧ (∀ (i : Nat) (p : Part), l[i]? = some p → takeN (row.drop (o + i * 3)) 3 = some (css i)) ∧ ∀ (i : Nat) (p : Part), l[i]? = some p → TreeAt h B F p (css i)
theorem TreeAt.kids {p : Part} {cs : List Value} (k : TreeAt h B F p cs) : ∃ v, cs = [.string p.d, .string p.t, v] ∧ KidsAt h B F p.l v := by
 cases k with
 | mk d t l Av c b o f row css hc hs hA hat hk => exact ⟨_, rfl, Av, c, b, o, f, row, css, rfl, hc, hs, hA, hat, hk⟩
theorem KidsAt.tree {d t : ByteArray} {l : List Part} {v : Value} (k : KidsAt h B F l v) : TreeAt h B F ⟨d, t, l⟩ [.string d, .string t, v] := by
 obtain ⟨Av, c, b, o, f, row, css, rfl, hc, hs, hA, hat, hk⟩ := k
 exact .mk d t l Av c b o f row css hc hs hA hat hk
theorem TreeAt.keep (x : Keeps B F h h1) {p : Part} {cs : List Value} (k : TreeAt h B F p cs) : TreeAt h1 B F p cs := by
 induction k with
 | mk d t l Av c b o f row css hc hs hA hat hk ih =>
   exact .mk d t l Av c b o f row css hc hs (fun e => let ⟨a1, a2, a3, a4⟩ := hA e; ⟨a1, x.rows _ _ _ a2 a3 a4, a3, a4⟩) hat ih
theorem KidsAt.keep (x : Keeps B F h h1) {l : List Part} {v : Value} (k : KidsAt h B F l v) : KidsAt h1 B F l v := by
 obtain ⟨Av, c, b, o, f, row, css, rfl, hc, hs, hA, hat, hk⟩ := k
 exact ⟨Av, c, b, o, f, row, css, rfl, hc, hs, fun e => let ⟨a1, a2, a3, a4⟩ := hA e; ⟨a1, x.rows _ _ _ a2 a3 a4, a3, a4⟩, hat, fun i p e => (hk i p e).keep x⟩
theorem TreeAt.more (hB : ∀ b, b < h.next → B' b → B b) (hF : ∀ f, F' f → F f ∨ (f ≠ 0 ∧ h.nfam ≤ f)) {p : Part} {cs : List Value} (k : TreeAt h B F p cs) : TreeAt h B' F' p cs := by
 induction k with
 | mk d t l Av c b o f row css hc hs hA hat hk ih =>
   refine .mk d t l Av c b o f row css hc hs (fun e => ?_) hat ih
   obtain ⟨a1, a2, a3, a4⟩ := hA e
   refine ⟨a1, a2, fun c => a3 (hB _ a2.lt c), fun c => ?_⟩
   rcases hF _ c with q | ⟨q1, q2⟩
   · exact a4 q
   · have := a2.fl q1; omega
theorem KidsAt.more (hB : ∀ b, b < h.next → B' b → B b) (hF : ∀ f, F' f → F f ∨ (f ≠ 0 ∧ h.nfam ≤ f)) {l : List Part} {v : Value} (k : KidsAt h B F l v) : KidsAt h B' F' l v := by
 obtain ⟨Av, c, b, o, f, row, css, rfl, hc, hs, hA, hat, hk⟩ := k
 refine ⟨Av, c, b, o, f, row, css, rfl, hc, hs, fun e => ?_, hat, fun i p e => (hk i p e).more hB hF⟩
 obtain ⟨a1, a2, a3, a4⟩ := hA e
 refine ⟨a1, a2, fun c => a3 (hB _ a2.lt c), fun c => ?_⟩
 rcases hF _ c with q | ⟨q1, q2⟩
 · exact a4 q
 · have := a2.fl q1; omega
theorem KidsAt.nil : KidsAt h B F [] (.slice none 0 0) := ⟨none, 0, 0, 0, 0, [], fun _ => [], rfl, Nat.le_refl _, rfl, fun e => absurd rfl e, fun i p e => by simp at e, fun i p e => by simp at e⟩
theorem append_of {P : Program} {t e : TypeId} {s : Nat} {z : Value} (hu : P.underlying t = some (.slice e)) (hs : sizeOf' P e = some s) (hz : zero' P e = some z) (hzl : Nat.beq z.cells.toList.length s = true ∧ 0 < s)
  (hby : (match P.info? e with | some i => Nat.ble i.bytes 100000 && Nat.blt 0 i.bytes | none => false) = true) (h : Hp) {base : Option Addr} {len cap n : Nat} {x : Value} {r : List Value} {xt : List TypeId} {new : List Value}
  (hn : lenOf' x = some n) (hf : first' h s n x = some new) (hl : len + n ≤ 1000000) (hc : len ≤ cap) (h1 : new.all oneCell = true) (h2 : new.length = n * s) (hni : noInt P xt = true) :
  append' P h (t :: xt) (.slice base len cap :: x :: r) = apd h e s base len cap n new := by
 cases hi : P.info? e with
 | none => rw [hi] at hby; cases hby
 | some i =>
   rw [hi] at hby
   simp only [Bool.and_eq_true] at hby
   have hsz : i.size = s := by unfold sizeOf' at hs; rw [hi] at hs; injection hs
   have b1 : Nat.blt 0 s = true := by simpa using hzl.2
   have b2 : Nat.ble (len + n) 1000000 = true := by simpa using hl
   have b3 : Nat.ble len cap = true := by simpa using hc
   have b4 : Nat.beq new.length (n * s) = true := by rw [h2]; simp
   simp only [append', hu, hni, hi, hz, hsz, hzl.1, b1, hby.1, hby.2, hn, hf, b2, b3, h1, b4]
theorem apd29 (h : Hp) {base : Option Addr} {len cap n : Nat} {x : Value} {new : List Value} (hn : lenOf' x = some n) (hf : first' h 3 n x = some new) (hl : len + n ≤ 1000000) (hc : len ≤ cap) (h1 : new.all oneCell = true) (h2 : new.length = n * 3) :
  append' Try.prog h [29, 29] [.slice base len cap, x] = apd h 31 3 base len cap n new :=
 append_of Try.underlying29 sz31 z31 (by exact ⟨rfl, by decide⟩) (by kernel_rfl) h hn hf hl hc h1 h2 (by kernel_rfl)
theorem apd_nil (h : Hp) {n : Nat} (hn : 0 < n) (new : List Value) : apd h 31 3 none 0 0 n new = some (.slice (some ⟨h.next, 0, none⟩) n n, h.newH (.cells ⟨new, 31, 0, 0, true⟩)) := by
 have : Nat.ble (0 + n) 0 = false := by
  cases e : Nat.ble (0 + n) 0 with
  | false => rfl
  | true => have := Nat.le_of_ble_eq_true e; omega
 simp only [apd, this, Hp.grownRow, new_eq]
theorem apd_zero (h : Hp) {base : Option Addr} {len cap : Nat} (hc : len ≤ cap) : apd h 31 3 base len cap 0 [] = some (.slice base len cap, h) := by
 have : Nat.ble (len + 0) cap = true := by simpa using hc
 unfold apd
 rw [this]
 cases base with
 | none => rfl
 | some a => simp only [Hp.stores]; rfl
theorem ble_false {a b : Nat} (h : b < a) : Nat.ble a b = false := by
 cases e : Nat.ble a b with
 | false => rfl
 | true => have := Nat.le_of_ble_eq_true e; omega
theorem apd_own {b f len n : Nat} {row new : List Value} (k : RowAt h b row f) (hlen : row.length = len * 3) (hn : 0 < n) (hl : 0 < len) : ∃ f' h', apd h 31 3 (some ⟨b, 0, none⟩) len len n new = some (.slice (some ⟨h.next, 0, none⟩) (len + n) (len + n), h') ∧
  RowAt h' h.next (row ++ new) f' ∧ (f' = f ∧ f ≠ 0 ∨ f' = h.nfam) ∧ h'.base = h.base ∧ h'.ro = h.ro ∧ h'.next = h.next + 1 ∧ h.nfam ≤ h'.nfam ∧ (∀ x, x < h.next → x ≠ b → h'.objs.get x = h.objs.get x) ∧ ∀ q, q < h.nfam → ¬ (q = f ∧ f ≠ 0) → h'.fams.get q = h.fams.get q := by
 obtain ⟨bs, g, hr⟩ := k.row
 have htake : ∀ (l : List Value) (q : Nat), l.length = q → takeN l q = some l := by
  intro l
  induction l with
  | nil => intro q e; subst e; rfl
  | cons v l ih => intro q e; subst e; simp only [List.length_cons, takeN, ih _ rfl]
 have hld : h.loads ⟨b, 0, none⟩ (len * 3) = some row := by
  rw [row_loads k, List.drop_zero]
  exact htake row _ hlen
 have hc : Nat.ble (len + n) len = false := ble_false (by omega)
 have hbeq : Nat.beq 31 31 = true := rfl
 cases hf : f with
 | zero =>
   subst hf
   refine ⟨h.nfam, { h with
    objs := (h.objs.put b (.cells ⟨row, 31, h.nfam, bs, g⟩)).put h.next (.cells ⟨row ++ new, 31, h.nfam, bs + 0, true⟩)
    next := h.next + 1
    fams := h.fams.put h.nfam (⟨h.next, bs + 0, bs + 0 + (row ++ new).length⟩ :: stays b bs (bs + row.length) (bs + 0 + len * 3))
    nfam := h.nfam + 1 }, ?_, ?_, .inr rfl, rfl, rfl, rfl, Nat.le_succ _, ?_, ?_⟩
   · simp only [apd, hc, hr, hld, grow', hbeq]
   · refine ⟨by have := k.lo; have := k.lt; show h.base ≤ h.next; omega, Nat.lt_succ_self _, ⟨bs + 0, true, ?_⟩, fun _ => Nat.lt_succ_self _⟩
     simp only [Hp.row, Tr.get_put, if_true]
     cases hnf : h.nfam with
     | zero => rfl
     | succ q => simp only [Tr.get_put, if_true, List.any_cons, beq_nat, Bool.true_or]
   · intro x hx hxb
     simp only [Tr.get_put, if_neg (Nat.ne_of_lt hx), if_neg hxb]
   · intro q hq _
     simp only [Tr.get_put, if_neg (Nat.ne_of_lt hq)]
 | succ q0 =>
   subst hf
   have hfm : ∃ l, h.fams.get (q0 + 1) = some l := by
    unfold Hp.row at hr
    split at hr
    · rename_i r hg
      split at hr
      · rename_i e0
        injection hr with hr
        rw [hr] at e0
        cases e0
      · rename_i f0 e0
        split at hr
        · rename_i l hl0
          split at hr
          · injection hr with hr
            rw [hr] at e0
            have e1 : q0 + 1 = f0 + 1 := e0
            exact ⟨l, by rw [e1]; exact hl0⟩
          · cases hr
        · cases hr
    · cases hr
   obtain ⟨l, hl0⟩ := hfm
   refine ⟨q0 + 1, { h with
    objs := h.objs.put h.next (.cells ⟨row ++ new, 31, q0 + 1, bs + 0, true⟩)
    next := h.next + 1
    fams := h.fams.put (q0 + 1) (⟨h.next, bs + 0, bs + 0 + (row ++ new).length⟩ :: l.filter fun m => Nat.ble m.hi (bs + 0 + len * 3)) }, ?_, ?_, .inl ⟨rfl, by omega⟩, rfl, rfl, rfl, Nat.le_refl _, ?_, ?_⟩
   · simp only [apd, hc, hr, hld, grow', hbeq, hl0]
   · refine ⟨by have := k.lo; have := k.lt; show h.base ≤ h.next; omega, Nat.lt_succ_self _, ⟨bs + 0, true, ?_⟩, fun e => k.fl e⟩
     simp only [Hp.row, Tr.get_put, if_true, List.any_cons, beq_nat, Bool.true_or]
   · intro x hx _
     simp only [Tr.get_put, if_neg (Nat.ne_of_lt hx)]
   · intro q hq hqf
     have : ¬ q = q0 + 1 := fun e => hqf ⟨e, by omega⟩
     simp only [Tr.get_put, if_neg this]
end Go.Ev.G24
end
section
set_option linter.unusedSimpArgs false
set_option linter.unusedVariables false
namespace Go.Ev.G24
open Go.RowKit Go.Proofs
variable {h h1 h2 : Hp} {B F B' F' : Nat → Prop}
theorem takeN_ok : ∀ (n : Nat) (l : List Value), n ≤ l.length → takeN l n = some (l.take n)
 | 0, l, _ => by cases l <;> rfl
 | n + 1, [], h => by simp at h
 | n + 1, v :: l, h => by simp only [takeN, takeN_ok n l (by simpa using h), List.take_succ_cons]
theorem takeN_some : ∀ (n : Nat) (l x : List Value), takeN l n = some x → n ≤ l.length ∧ x = l.take n
 | 0, l, x, h => by
   have : x = [] := by cases l <;> simp [takeN] at h <;> first | exact h.symm | exact h
   subst this
   exact ⟨Nat.zero_le _, rfl⟩
 | n + 1, [], x, h => by simp [takeN] at h
 | n + 1, v :: l, x, h => by
   simp only [takeN] at h
   split at h
   · rename_i y hy
     injection h with h
     subst h
     obtain ⟨h1, h2⟩ := takeN_some n l y hy
     exact ⟨by simpa using h1, by rw [h2, List.take_succ_cons]⟩
   · cases h
theorem kids_cells {row : List Value} {o n : Nat} {css : Nat → List Value} (h : ∀ i, i < n → takeN (row.drop (o + i * 3)) 3 = some (css i)) (hn : 0 < n) :
  ∃ new, takeN (row.drop o) (n * 3) = some new ∧ new.length = n * 3 ∧ ∀ i, i < n → takeN (new.drop (i * 3)) 3 = some (css i) := by
 obtain ⟨q1, _⟩ := takeN_some _ _ _ (h (n - 1) (by omega))
 rw [List.length_drop] at q1
 have hlen : n * 3 ≤ (row.drop o).length := by rw [List.length_drop]; omega
 refine ⟨_, takeN_ok _ _ hlen, by rw [List.length_take]; omega, fun i hi => ?_⟩
 obtain ⟨p1, p2⟩ := takeN_some _ _ _ (h i hi)
 rw [takeN_ok _ _ (by rw [List.length_drop, List.length_take]; omega), p2]
 congr 1
 rw [List.drop_take, List.take_take, List.drop_drop, Nat.min_eq_left (by omega)]
theorem cells_plain {new : List Value} {n : Nat} {css : Nat → List Value} (hl : new.length = n * 3) (h : ∀ i, i < n → takeN (new.drop (i * 3)) 3 = some (css i)) (hc : ∀ i, i < n → (css i).all oneCell = true) : new.all oneCell = true := by
 rw [List.all_eq_true]
 intro x hx
 obtain ⟨q, hq, rfl⟩ := List.mem_iff_getElem.1 hx
 have hi : q / 3 < n := by omega
 obtain ⟨_, p2⟩ := takeN_some _ _ _ (h _ hi)
 have hm : new[q] ∈ css (q / 3) := by
  rw [p2, List.mem_iff_getElem?]
  refine ⟨q % 3, ?_⟩
  rw [List.getElem?_take_of_lt (by omega), List.getElem?_drop, show q / 3 * 3 + q % 3 = q by omega, List.getElem?_eq_getElem hq]
 exact List.all_eq_true.1 (hc _ hi) _ hm
theorem TreeAt.plain {p : Part} {cs : List Value} (k : TreeAt h B F p cs) : cs.all oneCell = true := by
 cases k with
 | mk d t l Av c b o f row css hc hs hA hat hk => rfl
theorem get_lt {α : Type} {l : List α} {i : Nat} (hi : i < l.length) : l[i]? = some l[i] := List.getElem?_eq_getElem hi
def Mine (h : Hp) (n0 f0 : Nat) (B F : Nat → Prop) (l : List Part) (v : Value) : Prop := (l = [] ∧ v = .slice none 0 0) ∨
 ∃ (b f : Nat) (row : List Value) (css : Nat → List Value), l ≠ [] ∧ v = .slice (some ⟨b, 0, none⟩) l.length l.length ∧ RowAt h b row f ∧ row.length = l.length * 3 ∧ n0 ≤ b ∧ (f ≠ 0 → f0 ≤ f) ∧
  (∀ (i : Nat) (p : Part), l[i]? = some p → takeN (row.drop (i * 3)) 3 = some (css i)) ∧ ∀ (i : Nat) (p : Part), l[i]? = some p → TreeAt h (fun x => B x ∨ x = b) (fun q => F q ∨ (q = f ∧ f ≠ 0)) p (css i)
def ownB (v : Value) : Nat → Prop := fun x => match v with
 | .slice (some a) _ _ => x = a.block
 | _ => False
def ownF (h : Hp) (v : Value) : Nat → Prop := fun q => match v with
 | .slice (some a) _ _ => q ≠ 0 ∧ ∃ r, h.row a.block = some r ∧ r.fam = q
 | _ => False
theorem KidsAt.cells {l : List Part} {v : Value} (k : KidsAt h B F l v) (hl : l ≠ []) : ∃ (new : List Value) (css : Nat → List Value), lenOf' v = some l.length ∧ first' h 3 l.length v = some new ∧ new.length = l.length * 3 ∧ new.all oneCell = true ∧ (∀ i : Nat, i < l.length → takeN (new.drop (i * 3)) 3 = some (css i)) ∧ ∀ (i : Nat) (p : Part), l[i]? = some p → TreeAt h B F p (css i) := by
 obtain ⟨Av, c, b, o, f, row, css, rfl, hc, hs, hA, hat, hk⟩ := k
 obtain ⟨rfl, hr, h3, h4⟩ := hA hl
 have hpos : 0 < l.length := List.length_pos_iff.2 hl
 obtain ⟨new, q1, q2, q3⟩ := kids_cells (css := css) (fun i hi => hat i _ (get_lt hi)) hpos
 refine ⟨new, css, rfl, ?_, q2, cells_plain q2 q3 (fun i hi => (hk i _ (get_lt hi)).plain), q3, hk⟩
 simp only [first', row_loads hr, q1]
theorem KidsAt.none {v : Value} (k : KidsAt h B F [] v) : lenOf' v = some 0 ∧ first' h 3 0 v = some [] := by
 obtain ⟨Av, c, b, o, f, row, css, rfl, hc, hs, hA, hat, hk⟩ := k
 refine ⟨rfl, ?_⟩
 cases Av with
 | none => rfl
 | some a => simp [first', Hp.loads]
theorem row_fam {b f : Nat} {cs : List Value} (k : RowAt h b cs f) {r : Row} (hr : h.row b = some r) : r.fam = f := by
 obtain ⟨bs, g, h2⟩ := k.row
 rw [hr] at h2
 injection h2 with h2
 rw [h2]
theorem ownF_eq {b f n c : Nat} {cs : List Value} (k : RowAt h b cs f) (q : Nat) : ownF h (.slice (some ⟨b, 0, none⟩) n c) q ↔ (q = f ∧ f ≠ 0) := by
 constructor
 · rintro ⟨h1, r, h2, h3⟩
   have := row_fam k h2
   exact ⟨by rw [← h3, this], by rw [← this, h3]; exact h1⟩
 · rintro ⟨rfl, h1⟩
   obtain ⟨bs, g, h2⟩ := k.row
   exact ⟨h1, _, h2, rfl⟩
theorem grow_extS {S : Nat → Prop} {h0 h' : Hp} {b f : Nat} (x : ExtS S h0 h) (hb : h0.next ≤ b) (hf : f ≠ 0 → h0.nfam ≤ f) (e1 : h'.base = h.base) (e2 : h'.ro = h.ro) (e3 : h'.next = h.next + 1) (e4 : h.nfam ≤ h'.nfam)
  (e5 : ∀ x, x < h.next → x ≠ b → h'.objs.get x = h.objs.get x) (e6 : ∀ q, q < h.nfam → ¬ (q = f ∧ f ≠ 0) → h'.fams.get q = h.fams.get q) : ExtS S h0 h' :=
 ⟨e1.trans x.base, e2.trans x.ro, by rw [e3]; exact Nat.le_succ_of_le x.next, fun d hd hs => by
  rw [e5 d (Nat.lt_of_lt_of_le hd x.next) (by omega)]
  exact x.objs d hd hs, Nat.le_trans x.nfam e4, fun q hq => by
  rw [e6 q (Nat.lt_of_lt_of_le hq x.nfam) (fun ⟨a, b⟩ => by have := hf b; omega)]
  exact x.fams q hq⟩
theorem grow_keeps {h' : Hp} {b f : Nat} (e1 : h'.base = h.base) (e2 : h'.ro = h.ro) (e3 : h'.next = h.next + 1) (e4 : h.nfam ≤ h'.nfam)
  (e5 : ∀ x, x < h.next → x ≠ b → h'.objs.get x = h.objs.get x) (e6 : ∀ q, q < h.nfam → ¬ (q = f ∧ f ≠ 0) → h'.fams.get q = h.fams.get q) : Keeps (fun x => x = b) (fun q => q = f ∧ f ≠ 0) h h' := by
 refine ⟨e1, e2, by omega, e4, fun d cs q k hb hf => ⟨by rw [e1]; exact k.lo, by have := k.lt; omega, ?_, fun e => Nat.lt_of_lt_of_le (k.fl e) e4⟩⟩
 obtain ⟨bs, g, hr⟩ := k.row
 refine ⟨bs, g, ?_⟩
 have hfam := row_fam k hr
 unfold Hp.row at hr ⊢
 rw [e5 d k.lt hb]
 cases hg : h.objs.get d with
 | none => rw [hg] at hr; cases hr
 | some ob =>
   rw [hg] at hr
   cases ob with
   | cells r =>
     simp only at hr ⊢
     cases hrf : r.fam with
     | zero => rw [hrf] at hr; exact hr
     | succ z =>
       rw [hrf] at hr
       simp only at hr ⊢
       have hre : r = ⟨cs, 31, q, bs, g⟩ := by
        split at hr
        · split at hr
          · injection hr
          · cases hr
        · cases hr
       have hqz : q = z + 1 := by rw [← hrf, hre]
       rw [e6 (z + 1) (by rw [← hqz]; exact k.fl (by omega)) (by rw [← hqz]; exact hf)]
       exact hr
   | map es k => cases hr
   | sIter s p => cases hr
   | mIter a b c d => cases hr
theorem mine_append {n0 f0 : Nat} {l ks : List Part} {v w : Value} (M : Mine h n0 f0 B F l v) (K : KidsAt h (fun x => B x ∨ ownB v x) (fun q => F q ∨ ownF h v q) ks w) (hb : h.base ≤ h.next) (hn0 : n0 ≤ h.next) (hf0 : f0 ≤ h.nfam) (hsz : l.length + ks.length ≤ 1000000) (hBn : ∀ x, B x → x < h.next) (hFn : ∀ q, F q → q < h.nfam) :
  ∃ v' h', append' Try.prog h [29, 29] [v, w] = some (v', h') ∧ Mine h' n0 f0 B F (l ++ ks) v' ∧ (∀ (S : Nat → Prop) (h0 : Hp), ExtS S h0 h → h0.next ≤ n0 → h0.nfam ≤ f0 → ExtS S h0 h') ∧ Keeps (ownB v) (ownF h v) h h' ∧ (∀ x, ownB v' x → ownB v x ∨ h.next ≤ x) ∧ ∀ q, ownF h' v' q → ownF h v q ∨ h.nfam ≤ q := by
 by_cases hks : ks = []
 · subst hks
   obtain ⟨k1, k2⟩ := K.none
   have same : ∀ {base : Option Addr} {len cap : Nat}, len + 0 ≤ 1000000 → len ≤ cap → append' Try.prog h [29, 29] [.slice base len cap, w] = some (.slice base len cap, h) := by
    intro base len cap h1 h2
    rw [apd29 h k1 k2 h1 h2 rfl rfl, apd_zero h h2]
   have hkk : Keeps (ownB v) (ownF h v) h h := ⟨rfl, rfl, Nat.le_refl _, Nat.le_refl _, fun _ _ _ k _ _ => k⟩
   rcases M with ⟨rfl, rfl⟩ | ⟨b, f, row, css, hl, rfl, hr, hrl, hb0, hf, hat, hk⟩
   · exact ⟨_, _, same (by decide) (Nat.le_refl _), .inl ⟨rfl, rfl⟩, fun _ _ x _ _ => x, hkk, fun _ c => .inl c, fun _ c => .inl c⟩
   · exact ⟨_, _, same (by simpa using hsz) (Nat.le_refl _), .inr ⟨b, f, row, css, by simpa using hl, by simp, hr, by simpa using hrl, hb0, hf, by simpa using hat, by simpa using hk⟩, fun _ _ x _ _ => x, hkk, fun _ c => .inl c, fun _ c => .inl c⟩
 · obtain ⟨new, css, k1, k2, k3, k4, k5, k6⟩ := K.cells hks
   have hpos : 0 < ks.length := List.length_pos_iff.2 hks
   rcases M with ⟨rfl, rfl⟩ | ⟨b, f, row, css0, hl, rfl, hr, hrl, hb0, hf, hat, hk⟩
   · have hx := Ext.new h (CObj.cells { c := new, e := 31, fam := 0, base := 0, grown := true })
     refine ⟨_, _, by rw [apd29 h k1 k2 (by simpa using hsz) (Nat.le_refl _) k4 k3, apd_nil h hpos], ?_, ?_, ?_, fun x c => .inr (by have c' : x = h.next := c; rw [c']; exact Nat.le_refl _), fun q c => ?_⟩
     · refine .inr ⟨h.next, 0, new, css, by simpa using hks, by simp, ⟨hb, Nat.lt_succ_self _, ⟨0, true, ?_⟩, fun e => absurd rfl e⟩, by simpa using k3, hn0, fun e => absurd rfl e, fun i p hp => ?_, fun i p hp => ?_⟩
       · simp only [Hp.row, get_newH, if_true]
       · simp only [List.nil_append] at hp
         exact k5 i (List.getElem?_eq_some_iff.1 hp).1
       · simp only [List.nil_append] at hp
         refine TreeAt.keep ?_ ((k6 i p hp).more (B' := fun x => B x ∨ x = h.next) (F' := fun q => F q ∨ (q = 0 ∧ 0 ≠ 0)) (fun x hx c => ?_) (fun q c => ?_))
         · exact (keepsE hx).mono (fun _ _ c => c.elim) (fun _ _ _ c => c.elim) (fun c => c)
         · rcases c with c | c
           · exact .inl c
           · omega
         · rcases c with c | c
           · exact .inl (.inl c)
           · exact absurd rfl c.2
     · exact fun S h0 x _ _ => x.trans hx.toS
     · exact (keepsE hx).mono (fun _ _ c => c.elim) (fun _ _ _ c => c.elim) (fun c => c)
     · exfalso
       obtain ⟨c1, r, c2, c3⟩ := c
       simp only [Hp.row, get_newH, if_true] at c2
       injection c2 with c2
       rw [← c2] at c3
       exact c1 c3.symm
   · have hlpos : 0 < l.length := List.length_pos_iff.2 hl
     obtain ⟨f', h', a1, a2, a3, e1, e2, e3, e4, e5, e6⟩ := apd_own (new := new) hr hrl hpos hlpos
     have hkeep := grow_keeps e1 e2 e3 e4 e5 e6
     refine ⟨_, h', by rw [apd29 h k1 k2 hsz (Nat.le_refl _) k4 k3, a1], ?_, ?_, ?_, fun x c => .inr (by have c' : x = h.next := c; rw [c']; exact Nat.le_refl _), fun q c => ?_⟩
     · have hf' : f' ≠ 0 → f0 ≤ f' := by
        intro e
        rcases a3 with ⟨rfl, q⟩ | rfl
        · exact hf q
        · exact hf0
       have move : ∀ {p : Part} {cs : List Value}, TreeAt h (fun x => B x ∨ x = b) (fun q => F q ∨ (q = f ∧ f ≠ 0)) p cs → TreeAt h' (fun x => B x ∨ x = h.next) (fun q => F q ∨ (q = f' ∧ f' ≠ 0)) p cs := by
        intro p cs t
        have t1 := t.more (B' := fun x => (B x ∨ x = b) ∨ x = h.next) (F' := fun q => (F q ∨ (q = f ∧ f ≠ 0)) ∨ (q = f' ∧ f' ≠ 0)) (fun x hx c => by
         rcases c with c | c
         · exact c
         · omega) (fun q c => by
         rcases c with c | ⟨rfl, c2⟩
         · exact .inl c
         · rcases a3 with ⟨rfl, q⟩ | rfl
           · exact .inl (.inr ⟨rfl, q⟩)
           · exact .inr ⟨c2, Nat.le_refl _⟩)
        have t2 := t1.keep (hkeep.mono (fun x _ c => .inl (.inr c)) (fun q _ _ c => .inl (.inr c)) (fun c => c.2 c.1.symm))
        refine t2.more (fun x hx c => ?_) (fun q c => .inl ?_)
        · rcases c with c | c
          · exact .inl (.inl c)
          · exact .inr c
        · rcases c with c | c
          · exact .inl (.inl c)
          · exact .inr c
       refine .inr ⟨h.next, f', row ++ new, fun i => if i < l.length then css0 i else css (i - l.length), by simp [hl], by simp, a2, by rw [List.length_append, List.length_append, hrl, k3]; omega, hn0, hf', fun i p hp => ?_, fun i p hp => ?_⟩
       · by_cases c : i < l.length
         · rw [List.getElem?_append_left c] at hp
           have := hat i p hp
           obtain ⟨q1, q2⟩ := takeN_some _ _ _ this
           simp only [if_pos c]
           rw [List.length_drop] at q1
           rw [takeN_ok _ _ (by rw [List.length_drop, List.length_append]; omega), q2]
           congr 1
           rw [List.drop_append_of_le_length (by omega), List.take_append_of_le_length (by rw [List.length_drop]; omega)]
         · rw [List.getElem?_append_right (by omega)] at hp
           simp only [if_neg c]
           have := k5 (i - l.length) (List.getElem?_eq_some_iff.1 hp).1
           rw [← this, List.drop_append, List.drop_eq_nil_of_le (by rw [hrl]; omega), List.nil_append, hrl, show i * 3 - l.length * 3 = (i - l.length) * 3 by omega]
       · by_cases c : i < l.length
         · rw [List.getElem?_append_left c] at hp
           simp only [if_pos c]
           exact move (hk i p hp)
         · rw [List.getElem?_append_right (by omega)] at hp
           simp only [if_neg c]
           refine move ((k6 _ p hp).more (fun x _ c => ?_) (fun q c => .inl ?_))
           · rcases c with c | c
             · exact .inl c
             · exact .inr c
           · rcases c with c | c
             · exact .inl c
             · exact .inr ((ownF_eq hr q).2 c)
     · exact fun S h0 x hh1 hh2 => grow_extS x (Nat.le_trans hh1 hb0) (fun e => Nat.le_trans hh2 (hf e)) e1 e2 e3 e4 e5 e6
     · exact hkeep.mono (fun x _ c => c) (fun q _ _ c => (ownF_eq hr q).2 c) (fun c => c.2 c.1.symm)
     · obtain ⟨rfl, c2⟩ := (ownF_eq a2 q).1 c
       rcases a3 with ⟨rfl, d⟩ | rfl
       · exact .inl ((ownF_eq hr q).2 ⟨rfl, d⟩)
       · exact .inr (Nat.le_refl _)
end Go.Ev.G24
end
section
set_option linter.unusedSimpArgs false
set_option linter.unusedVariables false
namespace Go.Ev.G24
open Go.RowKit Go.Proofs
variable {h h1 h2 : Hp} {B F B' F' : Nat → Prop}
def CopyP (p : Part) (h : Hp) (v : Value) (h1 : Hp) : Prop := Ext h h1 ∧ ∃ cs1 : List Value, v = .agg cs1.toArray ∧ TreeAt h1 (fun b => b < h.next) (fun f => f ≠ 0 ∧ f < h.nfam) p cs1
def CopyC (p : Part) : Prop := ∀ (h : Hp) (cs : List Value), h.base ≤ h.next → TreeAt h (fun _ => False) (fun _ => False) p cs → ∃ v h1, Snd Try.prog 42 [.agg cs.toArray] h v h1 ∧ CopyP p h v h1
inductive Few : Part → Prop
 | mk (d t : ByteArray) (l : List Part) (hl : l.length ≤ 100000) (hk : ∀ (i : Nat) (p : Part), l[i]? = some p → Few p) : Few ⟨d, t, l⟩
theorem Mine.keep {n0 f0 : Nat} {l : List Part} {v : Value} (x : Ext h h1) (M : Mine h n0 f0 B F l v) : Mine h1 n0 f0 B F l v := by
 rcases M with ⟨rfl, rfl⟩ | ⟨b, f, row, css, hl, rfl, hr, hrl, hb0, hf, hat, hk⟩
 · exact .inl ⟨rfl, rfl⟩
 · exact .inr ⟨b, f, row, css, hl, rfl, (keepsE x).rows _ _ _ hr (fun c => c) (fun c => c), hrl, hb0, hf, hat, fun i p hp => (hk i p hp).keep ((keepsE x).mono (fun _ _ c => c.elim) (fun _ _ _ c => c.elim) (fun c => c))⟩
theorem Mine.lt {n0 f0 : Nat} {l : List Part} {v : Value} (M : Mine h n0 f0 B F l v) {x : Nat} (hx : ownB v x) : x < h.next := by
 rcases M with ⟨rfl, rfl⟩ | ⟨b, f, row, css, hl, rfl, hr, hrl, hb0, hf, hat, hk⟩
 · exact hx.elim
 · have : x = b := hx
   rw [this]; exact hr.lt
theorem Mine.flt {n0 f0 : Nat} {l : List Part} {v : Value} (M : Mine h n0 f0 B F l v) {q : Nat} (hq : ownF h v q) : q ≠ 0 ∧ q < h.nfam := by
 rcases M with ⟨rfl, rfl⟩ | ⟨b, f, row, css, hl, rfl, hr, hrl, hb0, hf, hat, hk⟩
 · exact hq.elim
 · obtain ⟨rfl, h2⟩ := (ownF_eq hr q).1 hq
   exact ⟨h2, hr.fl h2⟩
theorem Mine.ownF_same {n0 f0 : Nat} {l : List Part} {v : Value} (M : Mine h n0 f0 B F l v) (x : Ext h h1) {q : Nat} (hq : ownF h1 v q) : ownF h v q := by
 rcases M with ⟨rfl, rfl⟩ | ⟨b, f, row, css, hl, rfl, hr, hrl, hb0, hf, hat, hk⟩
 · exact hq.elim
 · exact (ownF_eq hr q).2 ((ownF_eq ((keepsE x).rows _ _ _ hr (fun c => c) (fun c => c)) q).1 hq)
theorem Mine.kidsAt {n0 f0 : Nat} {l : List Part} {v : Value} (M : Mine h n0 f0 B F l v) (hB : ∀ b, B b → b < n0) (hF : ∀ f, F f → f ≠ 0 ∧ f < f0) : KidsAt h B F l v := by
 rcases M with ⟨rfl, rfl⟩ | ⟨b, f, row, css, hl, rfl, hr, hrl, hb0, hf, hat, hk⟩
 · exact KidsAt.nil
 · refine ⟨_, _, b, 0, f, row, css, rfl, Nat.le_refl _, rfl, fun _ => ⟨rfl, hr, fun c => by have := hB _ c; omega, fun c => by
    have := hF _ c
    have := hf this.1
    omega⟩, fun i p hp => by rw [Nat.zero_add]; exact hat i p hp, fun i p hp => (hk i p hp).more (fun x _ c => .inl c) (fun q c => .inl (.inl c))⟩
set_option maxHeartbeats 4000000 in
set_option maxRecDepth 10000 in
theorem copied_c : ∀ (n : Nat) (p : Part), SizeOf.sizeOf p < n → Few p → CopyC p := by
 intro n
 induction n with
 | zero => exact fun p hp => absurd hp (Nat.not_lt_zero _)
 | succ n ihn =>
 rintro ⟨d, t, l⟩ hn hfew h cs hb hp
 cases hfew with
 | mk _ _ _ hl1 hfk =>
 have ih : ∀ (i : Nat) (p : Part), l[i]? = some p → CopyC p := fun i p hp => ihn p (by
  have := List.sizeOf_lt_of_mem (List.mem_of_getElem? hp)
  simp only [Part.mk.sizeOf_spec] at hn
  omega) (hfk i p hp)
 cases hp with
 | mk _ _ _ Av c b o f row css hc hs hA hat hk =>
 refine snd_go wf Try.func42 rfl rfl (n := 22) rfl (by kernel_rfl) rfl ?_
 intro a hn hg
 have hr : Try.f42.results.toList = [.cell 2 31] := rfl
 have g0 := hg 0
 clear hg
 simp only [List.getElem?_cons_zero, List.getElem?_cons_succ] at g0
 have hP := own_new hb 31 [.string d, .string t, .slice Av l.length c]
 have hx0 := Ext.new h (CObj.cells { c := [.string d, .string t, .slice Av l.length c], e := 31, fam := 0, base := 0, grown := false })
 have hb0 := Nat.le_succ_of_le (m := h.next) hb
 have hZ := own_new (h := h.newH (CObj.cells { c := [.string d, .string t, .slice Av l.length c], e := 31, fam := 0, base := 0, grown := false })) hb0 31 [.string ⟨#[]⟩, .string ⟨#[]⟩, .slice none 0 0]
 have hP1 := own_newH hP (CObj.cells { c := [.string ⟨#[]⟩, .string ⟨#[]⟩, .slice none 0 0], e := 31, fam := 0, base := 0, grown := false })
 have hx1 := hx0.trans (Ext.new _ (CObj.cells { c := [.string ⟨#[]⟩, .string ⟨#[]⟩, .slice none 0 0], e := 31, fam := 0, base := 0, grown := false }))
 have hb1 := Nat.le_succ_of_le hb0
 simp -dsimp only [go_sem, g0, next_newH, load_own hP1]
 simp only [next_newH] at hZ hb1
 generalize hh2 : (h.newH (CObj.cells { c := [.string d, .string t, .slice Av l.length c], e := 31, fam := 0, base := 0, grown := false })).newH (CObj.cells { c := [.string ⟨#[]⟩, .string ⟨#[]⟩, .slice none 0 0], e := 31, fam := 0, base := 0, grown := false }) = h2 at hP1 hZ hx1 hb1 ⊢
 have hn2 : h2.next = h.next + 1 + 1 := by rw [← hh2]; rfl
 have hb2 : h2.base ≤ h2.next := by rw [hx1.base]; exact Nat.le_trans hb hx1.next
 clear hh2 hP hx0 hb0
 refine loop_go (n := 22) (by kernel_rfl) (fun m' a' h' => ∃ (i : Nat) (v : Value), i ≤ l.length ∧ m' = l.length - i ∧ Ext h2 h' ∧ Mine h' h2.next h2.nfam (fun b => b < h2.next) (fun f => f ≠ 0 ∧ f < h2.nfam) (l.take i) v ∧
  a'.get 1 = .pointer (some ⟨h.next, 0, none⟩) ∧ a'.get 2 = .pointer (some ⟨h.next + 1, 0, none⟩) ∧ a'.get 3 = v ∧ a'.get 7 = .slice Av l.length c ∧ a'.get 8 = .int .i64 l.length ∧ a'.get 9 = .int .i64 i) ?_ l.length _ _ (by simp -dsimp only [go_sem, hn]) ⟨0, _, Nat.zero_le _, rfl, Ext.refl _, .inl ⟨rfl, rfl⟩, by simp -dsimp only [go_sem], by simp -dsimp only [go_sem], by simp -dsimp only [go_sem], by simp -dsimp only [go_sem], by simp -dsimp only [go_sem], by simp -dsimp only [go_sem]; rfl⟩
 rintro m' a' h' hn' ⟨i, v, hi, rfl, hx, hMi, e1, e2, e3, e7, e8, e9⟩
 have hb' : h'.base ≤ h'.next := by rw [hx.base]; exact Nat.le_trans hb2 hx.next
 by_cases hlt : i < l.length
 · have hpi : l[i]? = some l[i] := List.getElem?_eq_getElem hlt
   have hi1 : decide ((i : Int) < (l.length : Int)) = true := decide_eq_true (Int.ofNat_lt.2 hlt)
   obtain ⟨hAv, hRow, _, _⟩ := hA (ne_nil hlt)
   subst hAv
   have hkid := hk i _ hpi
   have hk1 := hkid.keep (keepsE (hx1.trans hx))
   have hRow' := (keepsE (hx1.trans hx)).rows _ _ _ hRow (fun c => c) (fun c => c)
   have hld : h'.loads ⟨b, o + i * 3, none⟩ 3 = some (css i) := by rw [row_loads hRow', hat i _ hpi]
   obtain ⟨kv, hcs, hkv⟩ := hkid.kids
   rw [hcs] at hld hk1
   obtain ⟨Avk, ck, bk, ok, fk, rowk, cssk, rfl, _⟩ := hkv
   obtain ⟨vS, vO, vX, vB, vR⟩ := var_ok hb' (e := 31) (c0 := [.string ⟨#[]⟩, .string ⟨#[]⟩, .slice none 0 0]) (c1 := [.string l[i].d, .string l[i].t, .slice Avk l[i].l.length ck]) rfl rfl (by simp)
   simp -dsimp only [go_sem, e1, e2, e3, e7, e8, e9, hi1, ia29 hlt, hld, vS, loads_own vO]
   obtain ⟨_, h4, hs4, hx4, cs1, rfl, ht4⟩ := ih i _ hpi _ _ vB (hk1.keep (keepsE vX))
   refine ⟨_, h4, hs4, ?_⟩
   obtain ⟨kv1, hcs1, _⟩ := ht4.kids
   subst hcs1
   have hxk := vX.trans hx4
   have hrow5 := own_new (show h4.base ≤ h4.next by rw [hxk.base]; exact Nat.le_trans hb' hxk.next) 31 [.string l[i].d, .string l[i].t, kv1]
   have hx5 := Ext.new h4 (CObj.cells { c := [.string l[i].d, .string l[i].t, kv1], e := 31, fam := 0, base := 0, grown := false })
   have hM5 := hMi.keep (hxk.trans hx5)
   have hK : KidsAt (h4.newH (CObj.cells { c := [.string l[i].d, .string l[i].t, kv1], e := 31, fam := 0, base := 0, grown := false })) (fun x => x < h2.next ∨ ownB (a'.get 3) x) (fun q => (q ≠ 0 ∧ q < h2.nfam) ∨ ownF (h4.newH (CObj.cells { c := [.string l[i].d, .string l[i].t, kv1], e := 31, fam := 0, base := 0, grown := false })) (a'.get 3) q) [l[i]] (.slice (some ⟨h4.next, 0, none⟩) 1 1) := by
    rw [e3]
    refine ⟨_, _, h4.next, 0, 0, _, fun _ => [.string l[i].d, .string l[i].t, kv1], rfl, Nat.le_refl _, rfl, fun _ => ⟨rfl, ⟨hrow5.1, hrow5.2.1, ⟨0, false, row_own hrow5⟩, fun e => absurd rfl e⟩, ?_, ?_⟩, fun j p hj => ?_, fun j p hj => ?_⟩
    · rintro (c | c)
      · have := hx.next; have := hxk.next; omega
      · have := hMi.lt c; have := hxk.next; omega
    · rintro (c | c)
      · exact c.1 rfl
      · exact (hM5.flt c).1 rfl
    · have : j = 0 := by
       have := (List.getElem?_eq_some_iff.1 hj).1
       simpa using this
      subst this
      rfl
    · have : j = 0 := by
       have := (List.getElem?_eq_some_iff.1 hj).1
       simpa using this
      subst this
      simp only [List.getElem?_cons_zero, Option.some.injEq] at hj
      subst hj
      refine (ht4.more (B' := fun x => x < h2.next ∨ ownB v x) (F' := fun q => (q ≠ 0 ∧ q < h2.nfam) ∨ ownF (h4.newH (CObj.cells { c := [.string l[i].d, .string l[i].t, kv1], e := 31, fam := 0, base := 0, grown := false })) v q) (fun x _ c => ?_) (fun q c => .inl ?_)).keep ((keepsE hx5).mono (fun _ _ c => c.elim) (fun _ _ _ c => c.elim) (fun c => c))
      · rcases c with c | c
        · have := hx.next; have := vX.next; omega
        · have := hMi.lt c; have := vX.next; omega
      · rcases c with c | c
        · exact ⟨c.1, by have := hx.nfam; have := vX.nfam; omega⟩
        · have := hMi.flt (hMi.ownF_same (hxk.trans hx5) c)
          exact ⟨this.1, by have := vX.nfam; omega⟩
   rw [e3] at hK
   obtain ⟨v', h6, ha6, hM6, hext6, _⟩ := mine_append hM5 hK (by rw [hx5.base, hxk.base]; exact Nat.le_trans hb' (Nat.le_trans hxk.next hx5.next)) (Nat.le_trans hx.next (Nat.le_trans hxk.next hx5.next)) (Nat.le_trans hx.nfam (Nat.le_trans hxk.nfam hx5.nfam)) (by simp; omega) (fun x c => Nat.lt_of_lt_of_le c (Nat.le_trans hx.next (Nat.le_trans hxk.next hx5.next))) (fun q c => Nat.lt_of_lt_of_le c.2 (Nat.le_trans hx.nfam (Nat.le_trans hxk.nfam hx5.nfam)))
   have hx6 : Ext h2 h6 := (hext6 (fun _ => False) h2 ((hx.trans (hxk.trans hx5)).toS) (Nat.le_refl _) (Nat.le_refl _)).ext (fun _ _ c => c)
   simp -dsimp only [go_sem, e3, e8, e9, bs29 1 (by decide), repeatN, builtin', ha6, wrap64_succ hlt (Nat.le_trans hl1 (by decide))]
   refine ⟨l.length - (i + 1), by omega, i + 1, v', hlt, rfl, hx6, ?_, e1, e2, rfl, e7, rfl⟩
   rw [List.take_succ_eq_append_getElem hlt]
   exact hM6
 · have hi0 : decide ((i : Int) < (l.length : Int)) = false := decide_eq_false (by omega)
   have hil : i = l.length := by omega
   subst hil
   rw [List.take_length] at hMi
   have hP' := own_ext hx hP1
   have hZ' := own_ext hx hZ
   have hk9 : ∃ A n c, v = .slice A n c := by
    rcases hMi with ⟨_, rfl⟩ | ⟨_, _, _, _, _, rfl, _⟩ <;> exact ⟨_, _, _, rfl⟩
   obtain ⟨A9, n9, c9, rfl⟩ := hk9
   have s1 := stores_own hP' (o := 2) (vs := [.slice A9 n9 c9]) (c1 := [.string d, .string t, .slice A9 n9 c9]) rfl rfl (by simp)
   have hP7 := own_put_same hP' [.string d, .string t, .slice A9 n9 c9]
   have hne : h.next + 1 ≠ h.next := by omega
   have hZ7 := own_put hZ' hne (.cells ⟨[.string d, .string t, .slice A9 n9 c9], 31, 0, 0, false⟩)
   have s2 := stores_own hZ7 (o := 0) (vs := [.string d, .string t, .slice A9 n9 c9]) (c1 := [.string d, .string t, .slice A9 n9 c9]) rfl rfl (by simp)
   have hZ8 := own_put_same hZ7 [.string d, .string t, .slice A9 n9 c9]
   simp -dsimp only [go_sem, e1, e2, e3, e8, e9, hi0, s1, loads_own hP7, s2, loads_own hZ8, hr]
   refine ⟨((hx1.trans hx).put (Nat.le_refl _) _).put (Nat.le_succ _) _, _, rfl, ?_⟩
   have hkeep : Keeps (fun b => b < h2.next) (fun f => f ≠ 0 ∧ f < h2.nfam) h' ((h'.put h.next (.cells ⟨[.string d, .string t, .slice A9 n9 c9], 31, 0, 0, false⟩)).put (h.next + 1) (.cells ⟨[.string d, .string t, .slice A9 n9 c9], 31, 0, 0, false⟩)) := by
    refine (keepsS (S := fun b => b < h2.next) ((((Ext.refl h').toS (S := fun b => b < h2.next)).put (b := h.next) (.inr ?_) _).put (b := h.next + 1) (.inr ?_) _)).mono (fun _ _ c => c) (fun _ _ _ c => c.elim) (fun c => c)
    · show h.next < h2.next; omega
    · show h.next + 1 < h2.next; omega
   have hT := (hMi.kidsAt (fun b c => c) (fun f c => c)).keep hkeep
   exact (KidsAt.tree (d := d) (t := t) hT).more (fun x _ c => by show x < h2.next; have := hx1.next; omega) (fun q c => .inl ⟨c.1, Nat.lt_of_lt_of_le c.2 hx1.nfam⟩)
end Go.Ev.G24
end
section
set_option linter.unusedSimpArgs false
set_option linter.unusedVariables false
namespace Go.Ev.G24
open Go.RowKit Go.Proofs
variable {r : Ro}
structure RoStrs (r : Ro) (items : List ByteArray) (Iv : Option Addr) (c b o : Nat) : Prop where
 hc : items.length ≤ c
 hb : items.length ≤ 9223372036854775807
 hA : items ≠ [] → Iv = some ⟨b, o, none⟩
 hat : ∀ (i : Nat) (s : ByteArray), items[i]? = some s → roAt r b (o + i) [.string s]
 hs : spotless Iv = true
def shortB (items : List ByteArray) (most : Nat) : Bool := decide (items.length ≤ most) && items.all fun s => decide (s.data.toList.length ≤ 200)
set_option maxHeartbeats 2000000 in
set_option maxRecDepth 10000 in
theorem short_c {items : List ByteArray} {Iv : Option Addr} {c b o : Nat} (R : RoStrs r items Iv c b o) (most : Nat) (h : Hp) (hrom : h.rom = r) :
  ∃ v h1, Snd Try.prog 11 [.slice Iv items.length c, .int .i64 (most : Int)] h v h1 ∧ v = .bool (shortB items most) ∧ h1 = h := by
 refine snd_go wf Try.func11 rfl rfl (n := 21) rfl (by kernel_rfl) rfl ?_
 intro a hn hg
 have hr : Try.f11.results.toList = [.tmp 4] := rfl
 have g0 := hg 0
 have g1 := hg 1
 clear hg
 simp only [List.getElem?_cons_zero, List.getElem?_cons_succ] at g0 g1
 by_cases cm : items.length ≤ most
 rotate_left
 · have k0 : decide ((most : Int) < (items.length : Int)) = true := decide_eq_true (by omega)
   simp -dsimp only [go_sem, g0, g1, k0, hr]
   simp [shortB, cm]
 have k0 : decide ((most : Int) < (items.length : Int)) = false := decide_eq_false (by omega)
 have e : shortB items most = items.all fun s => decide (s.data.toList.length ≤ 200) := by simp [shortB, cm]
 simp -dsimp only [go_sem, g0, g1, k0]
 refine loop_go (n := 21) (by kernel_rfl) (fun m' a' h' => ∃ i : Nat, i ≤ items.length ∧ m' = items.length - i ∧ h' = h ∧ ((items.drop i).all fun s => decide (s.data.toList.length ≤ 200)) = (items.all fun s => decide (s.data.toList.length ≤ 200)) ∧
  a'.get 11 = .slice Iv items.length c ∧ a'.get 12 = .int .i64 items.length ∧ a'.get 13 = .int .i64 i) ?_ items.length _ _ (by simp -dsimp only [go_sem, hn]) ⟨0, Nat.zero_le _, rfl, rfl, rfl, by simp -dsimp only [go_sem], by simp -dsimp only [go_sem], by simp -dsimp only [go_sem]; rfl⟩
 rintro m' a' h' hn' ⟨i, hi, rfl, hh, hst, e11, e12, e13⟩
 rw [hh]
 by_cases hlt : i < items.length
 · have hpi : items[i]? = some items[i] := List.getElem?_eq_getElem hlt
   have hi1 : decide ((i : Int) < (items.length : Int)) = true := decide_eq_true (Int.ofNat_lt.2 hlt)
   have hIv := R.hA (ne_nil hlt)
   subst hIv
   have hld : h.load ⟨b, o + i, none⟩ = some (.string items[i]) := by
    have := load_ro hrom (R.hat i _ hpi) (j := 0) (v := .string items[i]) rfl
    simpa using this
   rw [List.drop_eq_getElem_cons hlt, List.all_cons] at hst
   by_cases c2 : items[i].data.toList.length ≤ 200
   · have k2 : decide ((200 : Int) < (items[i].data.toList.length : Int)) = false := decide_eq_false (by omega)
     rw [decide_eq_true c2, Bool.true_and] at hst
     simp -dsimp only [go_sem, e11, e12, e13, hi1, ia25 hlt, hld, k2, wrap64_succ hlt R.hb]
     exact ⟨items.length - (i + 1), by omega, i + 1, hlt, rfl, hst, rfl⟩
   · have k2 : decide ((200 : Int) < (items[i].data.toList.length : Int)) = true := decide_eq_true (by omega)
     rw [decide_eq_false c2, Bool.false_and] at hst
     simp -dsimp only [go_sem, e11, e12, e13, hi1, ia25 hlt, hld, k2, hr]
     rw [e, ← hst]
 · have hi0 : decide ((i : Int) < (items.length : Int)) = false := decide_eq_false (by omega)
   rw [List.drop_eq_nil_of_le (by omega), List.all_nil] at hst
   simp -dsimp only [go_sem, e12, e13, hi0, hr]
   rw [e, ← hst]
end Go.Ev.G24
end
section
set_option linter.unusedSimpArgs false
set_option linter.unusedVariables false
namespace Go.Ev.G24
open Go.RowKit Go.Proofs
variable {r : Ro}
mutual
def partsB (most : Nat) : Nat → Part → Nat
 | deep, ⟨d, t, l⟩ => if deep = 0 then most + 1 else if 200 < t.data.toList.length then most + 1 else if 40 < d.data.toList.length then most + 1 else partsL most (deep - 1) l 1
def partsL (most : Nat) : Nat → List Part → Nat → Nat
 | _, [], n => n
 | deep, x :: l, n => if n ≤ most then partsL most deep l (n + partsB most deep x) else n
end
mutual
theorem partsB_le (most : Nat) : ∀ (p : Part) (deep : Nat), partsB most deep p ≤ (deep + 1) * (most + 1)
 | ⟨d, t, l⟩, deep => by
   have h0 : most + 1 ≤ (deep + 1) * (most + 1) := Nat.le_mul_of_pos_left _ (Nat.succ_pos _)
   unfold partsB
   split
   · exact h0
   · rename_i hd
     split
     · exact h0
     · split
       · exact h0
       · have := partsL_le most l (deep - 1) 1 (most + (deep - 1 + 1) * (most + 1)) (Nat.le_refl _) (by
          have : 0 < (deep - 1 + 1) * (most + 1) := Nat.mul_pos (Nat.succ_pos _) (Nat.succ_pos _)
          omega)
         refine Nat.le_trans this ?_
         rw [show deep - 1 + 1 = deep by omega, Nat.add_mul]
         omega
theorem partsL_le (most : Nat) : ∀ (l : List Part) (deep n B : Nat), most + (deep + 1) * (most + 1) ≤ B → n ≤ B → partsL most deep l n ≤ B
 | [], deep, n, B, _, hn => by unfold partsL; exact hn
 | x :: l, deep, n, B, hB, hn => by
   unfold partsL
   split
   · have := partsB_le most x deep
     exact partsL_le most l deep _ B hB (by omega)
   · exact hn
end
def PartsC (r : Ro) (most : Nat) (p : Part) : Prop := ∀ (deep : Nat) (h : Hp) (cs : List Value), deep ≤ 1000 → h.rom = r → h.base ≤ h.next → RoPart r p cs → ∃ v h1, Snd Try.prog 36 [.agg cs.toArray, .int .i64 (deep : Int), .int .i64 (most : Int)] h v h1 ∧ v = .int .i64 (partsB most deep p : Int) ∧ Ext h h1
set_option maxHeartbeats 4000000 in
set_option maxRecDepth 10000 in
theorem parts_c {most : Nat} (hmost : most ≤ 100000) : ∀ (n : Nat) (p : Part), SizeOf.sizeOf p < n → PartsC r most p := by
 intro n
 induction n with
 | zero => exact fun p hp => absurd hp (Nat.not_lt_zero _)
 | succ n ihn =>
 rintro ⟨d, t, l⟩ hn deep h cs hdeep hrom hb hp
 have ih : ∀ (i : Nat) (p : Part), l[i]? = some p → PartsC r most p := fun i p hp => ihn p (by
  have := List.sizeOf_lt_of_mem (List.mem_of_getElem? hp)
  simp only [Part.mk.sizeOf_spec] at hn
  omega)
 cases hp with
 | mk _ _ _ Av c b o css hc hlb hA hat hk hs =>
 refine snd_go wf Try.func36 rfl rfl (n := 49) rfl (by kernel_rfl) rfl ?_
 intro a hn hg
 have hr : Try.f36.results.toList = [.tmp 6] := rfl
 have g0 := hg 0
 have g1 := hg 1
 have g2 := hg 2
 clear hg
 simp only [List.getElem?_cons_zero, List.getElem?_cons_succ] at g0 g1 g2
 have hP := own_new hb 52 [.string d, .string t, .slice Av l.length c]
 have hx0 := Ext.new h (CObj.cells { c := [.string d, .string t, .slice Av l.length c], e := 52, fam := 0, base := 0, grown := false })
 have hb1 := Nat.le_succ_of_le (m := h.next) hb
 have hw : IntKind.i64.wrap ((most : Int) + 1) = ((most + 1 : Nat) : Int) := wrap64_nat (n := most + 1) (by omega)
 by_cases cd : deep = 0
 · have k1 : decide ((deep : Int) < 1) = true := decide_eq_true (by omega)
   simp -dsimp only [go_sem, undef', g0, g1, g2, k1, hw, hr]
   exact ⟨by unfold partsB; rw [if_pos cd], hx0⟩
 have k1 : decide ((deep : Int) < 1) = false := decide_eq_false (by omega)
 by_cases ct : 200 < t.data.toList.length
 · have k2 : decide ((200 : Int) < (t.data.toList.length : Int)) = true := decide_eq_true (by omega)
   simp -dsimp only [go_sem, undef', g0, g1, g2, k1, k2, load_own hP, hw, hr]
   exact ⟨by unfold partsB; rw [if_neg cd, if_pos ct], hx0⟩
 have k2 : decide ((200 : Int) < (t.data.toList.length : Int)) = false := decide_eq_false (by omega)
 by_cases cdo : 40 < d.data.toList.length
 · have k3 : decide ((40 : Int) < (d.data.toList.length : Int)) = true := decide_eq_true (by omega)
   simp -dsimp only [go_sem, undef', g0, g1, g2, k1, k2, k3, load_own hP, hw, hr]
   exact ⟨by unfold partsB; rw [if_neg cd, if_neg ct, if_pos cdo], hx0⟩
 have k3 : decide ((40 : Int) < (d.data.toList.length : Int)) = false := decide_eq_false (by omega)
 have e : partsB most deep ⟨d, t, l⟩ = partsL most (deep - 1) l 1 := by unfold partsB; rw [if_neg cd, if_neg ct, if_neg cdo]
 simp -dsimp only [go_sem, undef', g0, g1, g2, k1, k2, k3, load_own hP]
 refine loop_go (n := 49) (by kernel_rfl) (fun m' a' h' => ∃ i k : Nat, i ≤ l.length ∧ m' = l.length - i ∧ k ≤ 1002 * (most + 1) ∧ Ext (h.newH (CObj.cells { c := [.string d, .string t, .slice Av l.length c], e := 52, fam := 0, base := 0, grown := false })) h' ∧ partsL most (deep - 1) (l.drop i) k = partsL most (deep - 1) l 1 ∧
  a'.get 1 = .int .i64 deep ∧ a'.get 2 = .int .i64 most ∧ a'.get 3 = .pointer (some ⟨h.next, 0, none⟩) ∧ a'.get 7 = .int .i64 k ∧ a'.get 8 = .int .i64 i) ?_ l.length _ _ (by simp -dsimp only [go_sem, hn]) ⟨0, 1, Nat.zero_le _, rfl, by omega, Ext.refl _, rfl, by simp -dsimp only [go_sem, g1], by simp -dsimp only [go_sem, g2], by simp -dsimp only [go_sem], by simp -dsimp only [go_sem]; rfl, by simp -dsimp only [go_sem]; rfl⟩
 rintro m' a' h' hn' ⟨i, k, hi, rfl, hkb, hx, hst, e1, e2, e3, e7, e8⟩
 have hrom' : h'.rom = r := hx.rom.trans hrom
 have hb' : h'.base ≤ h'.next := by rw [hx.base]; exact Nat.le_trans hb1 hx.next
 have hP' := own_ext hx hP
 by_cases hlt : i < l.length
 · have hpi : l[i]? = some l[i] := List.getElem?_eq_getElem hlt
   have hi1 : decide ((i : Int) < (l.length : Int)) = true := decide_eq_true (Int.ofNat_lt.2 hlt)
   rw [List.drop_eq_getElem_cons hlt, partsL] at hst
   by_cases ck : k ≤ most
   · have k4 : decide ((k : Int) ≤ (most : Int)) = true := decide_eq_true (by omega)
     rw [if_pos ck] at hst
     obtain ⟨Av1, c1', hcs⟩ := (hk i _ hpi).shape
     have hat' := hat i _ hpi
     have hkid := hk i _ hpi
     rw [hcs] at hat' hkid
     have hAv := hA (ne_nil hlt)
     subst hAv
     have hwd : IntKind.i64.wrap ((deep : Int) - 1) = ((deep - 1 : Nat) : Int) := by rw [IntKind.wrap_i64]; omega
     simp -dsimp only [go_sem, e1, e2, e3, e7, e8, hi1, k4, load_own hP', ia50 hlt, loads_ro (n := 3) hrom' hat' rfl, hwd]
     obtain ⟨_, h2, hs2, rfl, hx2⟩ := ih i _ hpi (deep - 1) h' _ (by omega) hrom' hb' hkid
     refine ⟨_, h2, hs2, ?_⟩
     have hle := partsB_le most l[i] (deep - 1)
     have hle2 : (deep - 1 + 1) * (most + 1) ≤ 1001 * (most + 1) := Nat.mul_le_mul_right _ (by omega)
     have hwk : IntKind.i64.wrap ((k : Int) + (partsB most (deep - 1) l[i] : Int)) = ((k + partsB most (deep - 1) l[i] : Nat) : Int) := by rw [IntKind.wrap_i64]; omega
     simp -dsimp only [go_sem, e1, e2, e3, e7, e8, hwk, wrap64_succ hlt hlb]
     exact ⟨l.length - (i + 1), by omega, i + 1, _, hlt, rfl, by omega, hx.trans hx2, hst, rfl, rfl⟩
   · have k4 : decide ((k : Int) ≤ (most : Int)) = false := decide_eq_false (by omega)
     rw [if_neg ck] at hst
     simp -dsimp only [go_sem, e1, e2, e3, e7, e8, hi1, k4, load_own hP', hr]
     exact ⟨by rw [e, ← hst], hx0.trans hx⟩
 · have hi0 : decide ((i : Int) < (l.length : Int)) = false := decide_eq_false (by omega)
   rw [List.drop_eq_nil_of_le (by omega), partsL] at hst
   simp -dsimp only [go_sem, undef', e1, e2, e3, e7, e8, hi0, load_own hP', hr]
   exact ⟨by rw [e, ← hst], hx0.trans hx⟩
end Go.Ev.G24
end
