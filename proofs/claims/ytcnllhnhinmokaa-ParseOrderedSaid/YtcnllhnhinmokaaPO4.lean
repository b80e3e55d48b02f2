/- For every grammar, rule and items, Parse and Far answer exactly as the document's parse does, where that begins at most 20,000 parts (no condition on the arguments): part 5 of 5. -/
import Derived.Test.YtcnllhnhinmokaaPO3
import Derived.Test.YtcnllhnhinmokaaRows
import Derived.WalkKit
import Derived.ProofKit
import Derived.OpenShut
import Derived.ShutString
import Derived.ChangeOld
import Derived.Below
import Derived.SizedLaws
import Derived.Carry
section
set_option linter.unusedSimpArgs false
set_option linter.unusedVariables false
namespace Go.Ev.G24
open Go.RowKit Go.Proofs
variable {r : Ro} {G : List Rule} {items : List ByteArray} {Gv Iv : Option Addr} {gc ic xb mm bk m eb : Nat} {em : List Bool} {B F : Nat → Prop}
theorem one_far {w : Option ByteArray} {q : Nat} : (oneO items w q).2.2 = q := by
 unfold oneO
 split
 · split <;> rfl
 · rfl
theorem one_take {h h2 h5 : Hp} {far q : Nat} {memo : Memo} {w : Option ByteArray} {v : Value} (hx : Ext h h2) (hBnd : Bnd h B F) (hX2 : h2.own xb 128 (runRow bk Iv items.length ic mm far)) (hM2 : MemoOk G items h2 B F far mm memo) (hmx : mm ≠ xb) (k : OneP items w q bk Iv ic mm far xb h2 v h5) :
  TakeP G items B F bk Iv ic mm xb (oneO items w q) far h v h5 ∧ ∃ x y z, v = .agg #[x, y, z] ∧ [x, y, z].all oneCell = true := by
 obtain ⟨a1, a2, a3⟩ := k
 have n := noRow_own hX2 (by decide)
 have hm5 : MemoOk G items h5 B F (max far (oneO items w q).2.2) mm memo := by
  rw [one_far]; exact hM2.extS a1 n hmx (Nat.le_max_left _ _)
 have hx5 : ExtS (Two xb mm) h h5 := hx.toS.trans (a1.mono (fun b _ c => .inl c))
 have hX5 : h5.own xb 128 (runRow bk Iv items.length ic mm (max far (oneO items w q).2.2)) := by rw [one_far]; exact a2
 by_cases hb : oneB items w q = true
 · rw [if_pos hb] at a3
   obtain ⟨s, nb, b1, rfl, b3, b4⟩ := a3
   refine ⟨⟨memo, hx5, hX5, hm5, ?_⟩, _, _, _, rfl, rfl⟩
   have ht : testB w s = true := by unfold oneB at hb; rw [b1] at hb; exact hb
   unfold oneO
   rw [b1]
   simp only [ht, if_true]
   refine ⟨_, rfl, kids_new b4 (fun c => ?_) (fun c => (hBnd.f 0 c).1 rfl) KidsAt.nil⟩
   have := hBnd.b _ c
   have := hx.next
   omega
 · rw [if_neg hb] at a3
   subst a3
   refine ⟨⟨memo, hx5, hX5, hm5, ?_⟩, _, _, _, rfl, rfl⟩
   unfold oneB at hb
   unfold oneO
   cases hi : items[q]? with
   | none => rfl
   | some s =>
     rw [hi] at hb
     simp only [hb, if_false]
     rfl
theorem run_z {t : Task} {o : Outc} : ¬ run G items 0 t = some o := by intro h; cases h
set_option maxHeartbeats 16000000 in
set_option maxRecDepth 10000 in
theorem take_c {gb go ib io : Nat} {gcss : Nat → List Value} (R : RoRules r G Gv gc gb go gcss) (RI : RoItems r items Iv ic ib io) (hnm : ∀ (i : Nat) (x : Rule), G[i]? = some x → named (nms G) x.body) (hfw : ∀ (i : Nat) (x : Rule), G[i]? = some x → Few x.body) (hmne : m ≠ mm) :
  ∀ (k : Nat) (p : Part), named (nms G) p → Few p → TakeC r G items Gv Iv gc ic xb mm bk m eb em k p := by
 intro k
 induction k with
 | zero => exact fun p _ _ B F far q h cs memo o _ _ _ _ _ _ _ _ _ hrun _ => absurd hrun run_z
 | succ k ih =>
 rintro ⟨d, t, l⟩ hnp hfp B F far q h cs memo o9 hBnd hfar hq hrom hb hX hM hBk hp hrun ho9
 have hGl : (nms G).length = G.length := by simp [nms]
 have hlb : l.length ≤ 100000 := by
  cases hfp with
  | mk _ _ _ h1 _ => exact h1
 have hfk : ∀ (i : Nat) (p : Part), l[i]? = some p → Few p := by
  cases hfp with
  | mk _ _ _ _ h1 => exact h1
 have hnk : ∀ (i : Nat) (p : Part), l[i]? = some p → named (nms G) p := namedL_get hnp.2.2
 have ihk : ∀ (i : Nat) (p : Part), l[i]? = some p → TakeC r G items Gv Iv gc ic xb mm bk m eb em k p := fun i p hp => ih p (hnk i p hp) (hfk i p hp)
 have hxbn : xb < h.next := hX.2.1
 have hmmn : mm < h.next := hM.at'.1
 have hmx : mm ≠ xb := by
  obtain ⟨es, n, hm⟩ := hM.at'.map
  intro e
  have := hX.2.2
  rw [← e, hm] at this
  simp at this
 cases hp with
 | mk _ _ _ Av c b o css hc hlb2 hA hat hk hsp =>
 refine snd_go wf Try.func70 rfl rfl (n := 189) rfl (by kernel_rfl) rfl ?_
 intro a hn hg
 have hr : Try.f70.results.toList = [.cell 6 75] := rfl
 have g0 := hg 0
 have g1 := hg 1
 have g2 := hg 2
 clear hg
 simp only [List.getElem?_cons_zero, List.getElem?_cons_succ] at g0 g1 g2
 have hPn := own_new hb 52 [.string d, .string t, .slice Av l.length c]
 have hx0 := Ext.new h (CObj.cells { c := [.string d, .string t, .slice Av l.length c], e := 52, fam := 0, base := 0, grown := false })
 have hb0 := Nat.le_succ_of_le (m := h.next) hb
 have hZ := own_new (h := h.newH (CObj.cells { c := [.string d, .string t, .slice Av l.length c], e := 52, fam := 0, base := 0, grown := false })) hb0 75 [.bool false, .int .i64 0, .slice none 0 0]
 have hP := own_newH hPn (CObj.cells { c := [.bool false, .int .i64 0, .slice none 0 0], e := 75, fam := 0, base := 0, grown := false })
 have hx := hx0.trans (Ext.new _ (CObj.cells { c := [.bool false, .int .i64 0, .slice none 0 0], e := 75, fam := 0, base := 0, grown := false }))
 simp -dsimp only [go_sem, g0, g1, g2, next_newH, load_own hP]
 simp only [next_newH] at hZ
 generalize (h.newH (CObj.cells { c := [.string d, .string t, .slice Av l.length c], e := 52, fam := 0, base := 0, grown := false })).newH (CObj.cells { c := [.bool false, .int .i64 0, .slice none 0 0], e := 75, fam := 0, base := 0, grown := false }) = h2 at hP hZ hx ⊢
 have hrom2 : h2.rom = r := hx.rom.trans hrom
 have hb2 : h2.base ≤ h2.next := by rw [hx.base]; exact Nat.le_trans hb hx.next
 have hX2 := own_ext hx hX
 have hM2 : MemoOk G items h2 B F far mm memo := hM.extS (S := fun _ => False) hx.toS (fun _ _ _ _ c => c) (fun c => c) (Nat.le_refl _)
 have hzn : h.next ≤ h.next + 1 := Nat.le_succ _
 have hpz : h.next ≠ h.next + 1 := by omega
 clear hPn hx0
 have put : ∀ {h5 : Hp} {zc : List Value} {x y z : Value}, h5.own (h.next + 1) 75 zc → zc.length = 3 → [x, y, z].all oneCell = true → h5.stores ⟨h.next + 1, 0, none⟩ [x, y, z] = some (h5.put (h.next + 1) (.cells ⟨[x, y, z], 75, 0, 0, false⟩)) ∧ (h5.put (h.next + 1) (.cells ⟨[x, y, z], 75, 0, 0, false⟩)).loads ⟨h.next + 1, 0, none⟩ 3 = some [x, y, z] := by
  intro h5 zc x y z h1 h3 h2
  refine ⟨stores_own h1 h2 (by
   match zc, h3 with
   | [x, y, z], _ => rfl) (by simp), by rw [loads_own (own_put_same h1 [x, y, z])]; rfl⟩
 have z3 : ([.bool false, .int .i64 0, .slice none 0 0] : List Value).length = 3 := rfl
 by_cases c1 : d.data.toList = [105, 115]
 · have k1 : decide (d.data.toList = [105, 115]) = true := decide_eq_true c1
   rw [run_one c1] at hrun
   injection hrun with hrun
   subst hrun
   obtain ⟨v5, h5, hs5, hv5⟩ := one_c (q := (some t)) RI h2 hrom2 hb2 (xb := xb) (bk := bk) (mm := mm) (far := far) hX2 q hq (Nat.le_trans hfar RI.hb) (TestAt.is h.next d t (.slice Av l.length c) hP)
   obtain ⟨hTP, x, y, z, rfl, hcl⟩ := one_take hx hBnd hX2 hM2 hmx hv5
   have hZ5 := own_extS hv5.1 hZ (by show h.next + 1 ≠ xb; omega)
   obtain ⟨p1, p2⟩ := put (x := x) (y := y) (z := z) hZ5 z3 hcl
   simp -dsimp only [go_sem, g0, g2, k1]
   refine ⟨_, h5, hs5, ?_⟩
   simp -dsimp only [go_sem, p1, p2, hr]
   exact hTP.put hzn hZ5 (by decide) hxbn hmmn
 have k1 : decide (d.data.toList = [105, 115]) = false := decide_eq_false c1
 by_cases c2 : d.data.toList = [97, 110, 121]
 · have k2 : decide (d.data.toList = [97, 110, 121]) = true := decide_eq_true c2
   rw [run_any c2] at hrun
   injection hrun with hrun
   subst hrun
   obtain ⟨v5, h5, hs5, hv5⟩ := one_c (q := none) RI h2 hrom2 hb2 (xb := xb) (bk := bk) (mm := mm) (far := far) hX2 q hq (Nat.le_trans hfar RI.hb) (TestAt.any)
   obtain ⟨hTP, x, y, z, rfl, hcl⟩ := one_take hx hBnd hX2 hM2 hmx hv5
   have hZ5 := own_extS hv5.1 hZ (by show h.next + 1 ≠ xb; omega)
   obtain ⟨p1, p2⟩ := put (x := x) (y := y) (z := z) hZ5 z3 hcl
   simp -dsimp only [go_sem, g0, g2, k1, k2]
   refine ⟨_, h5, hs5, ?_⟩
   simp -dsimp only [go_sem, p1, p2, hr]
   exact hTP.put hzn hZ5 (by decide) hxbn hmmn
 have k2 : decide (d.data.toList = [97, 110, 121]) = false := decide_eq_false c2
 by_cases c3 : d.data.toList = [114, 117, 108, 101]
 · have k3 : decide (d.data.toList = [114, 117, 108, 101]) = true := decide_eq_true c3
   have hidx : idxOf (nms G) t < (nms G).length := hnp.1 c3
   rw [hGl] at hidx
   have hgi : G[idxOf (nms G) t]? = some G[idxOf (nms G) t] := List.getElem?_eq_getElem hidx
   have hbo : bodyOf G t = G[idxOf (nms G) t].body := by unfold bodyOf; rw [hgi]
   rw [run_rule c3, hbo, Option.map_eq_some_iff] at hrun
   obtain ⟨ob, hrb, rfl⟩ := hrun
   have hnb : ob.2.1 ≤ 50000 := by
    have : (ruleO t ob).2.1 = ob.2.1 + 1 := rfl
    omega
   simp -dsimp only [go_sem, k1, k2]
   refine Wcond_in (fun _ => ?_) (fun e => by rw [k3] at e; cases e)
   refine take_rule R RI hgi (ih _ (hnm _ _ hgi) (hfw _ _ hgi)) hrom hb hBnd hX hM hBk hmne hfar hq hrb hnb (zb := h.next + 1) (pb := h.next) (d := d) (kv0 := .slice Av l.length c) (by simp -dsimp only [go_sem, hn]) hx z3 hP hZ (Nat.le_refl _) hzn (by simp -dsimp only [go_sem, g0]) (by simp -dsimp only [go_sem, g2]) (by simp -dsimp only [go_sem]) (by simp -dsimp only [go_sem]) (fun a1 h1 x y z hTP hz1 e6 => ?_)
   simp -dsimp only [go_sem, e6, loads_own hz1, hr]
   exact hTP
 have k3 : decide (d.data.toList = [114, 117, 108, 101]) = false := decide_eq_false c3
 have unplus : ∀ {t' : Task}, (run G items k t').map plus1 = some o9 → ∃ o8, run G items k t' = some o8 ∧ o8.2.1 ≤ 50000 ∧ o9.1 = o8.1 ∧ o9.2.2 = o8.2.2 := by
  intro t' e
  rw [Option.map_eq_some_iff] at e
  obtain ⟨o8, e1, rfl⟩ := e
  refine ⟨o8, e1, ?_, rfl, rfl⟩
  simp only [plus1] at ho9
  omega
 have retag : ∀ {o8 : Outc} {v : Value} {h1 : Hp}, o9.1 = o8.1 → o9.2.2 = o8.2.2 → TakeP G items B F bk Iv ic mm xb o8 far h v h1 → TakeP G items B F bk Iv ic mm xb o9 far h v h1 := by
  intro o8 v h1 e1 e2 kk
  obtain ⟨memo', a1, a2, a3, a4⟩ := kk
  exact ⟨memo', a1, by rw [e2]; exact a2, by rw [e2]; exact a3, by rw [e1]; exact a4⟩
 by_cases c4 : d.data.toList = [115, 101, 113]
 · have k4 : decide (d.data.toList = [115, 101, 113]) = true := decide_eq_true c4
   rw [run_sq c4] at hrun
   obtain ⟨o8, hr8, hn8, e81, e82⟩ := unplus hrun
   obtain ⟨vS, vO, vX, vB, vR⟩ := var_ok hb2 (e := 75) (c0 := [.bool false, .int .i64 0, .slice none 0 0]) (c1 := [.bool true, .int .i64 (q : Int), .slice none 0 0]) rfl rfl (by simp)
   have hPv := own_ext vX hP
   have hZv := own_ext vX hZ
   simp -dsimp only [go_sem, g0, g2, k1, k2, k3, k4, vS, load_own hPv]
   have hon : h.next ≤ h2.next := hx.next
   have hzo : h.next + 1 ≠ h2.next := Nat.ne_of_lt hZ.2.1
   refine take_seq (l := l) (c := c) (d := d) (t := t) (pb := h.next) (zb := h.next + 1) (ob := h2.next) ihk hlb hA hat hk hrom hb hBnd hX hM hBk hmne hfar hq hr8 hn8 (by simp -dsimp only [go_sem, hn]) (hx.trans vX) z3 hPv hZv vO (Nat.le_refl _) hzn hon hzo (by simp -dsimp only [go_sem, g0]) (by simp -dsimp only [go_sem]) (by simp -dsimp only [go_sem]) (by simp -dsimp only [go_sem]) (by simp -dsimp only [go_sem]) (by simp -dsimp only [go_sem]) (fun a1 h1 x y z hTP hz1 e6 => ?_) (fun a1 h1 x y z hTP ho1 hz1 e6 e10 => ?_)
   · simp -dsimp only [go_sem, e6, loads_own hz1, hr]
     exact retag e81 e82 hTP
   · have hcl : [x, y, z].all oneCell = true := by
      obtain ⟨_, _, _, _, e⟩ := hTP
      obtain ⟨e9, A9, n9, c9, e10, _⟩ := e.shape
      injection e10 with e10
      have := congrArg Array.toList e10
      simp only [List.cons.injEq] at this
      obtain ⟨rfl, rfl, rfl, _⟩ := this
      rfl
     obtain ⟨p1, p2⟩ := put (x := x) (y := y) (z := z) hz1 z3 hcl
     simp -dsimp only [go_sem, e6, e10, loads_own ho1, p1, p2, hr]
     exact retag e81 e82 (hTP.put hzn hz1 (by decide) hxbn hmmn)
 have k4 : decide (d.data.toList = [115, 101, 113]) = false := decide_eq_false c4
 by_cases c5 : d.data.toList = [111, 114]
 · have k5 : decide (d.data.toList = [111, 114]) = true := decide_eq_true c5
   rw [run_or c5] at hrun
   obtain ⟨o8, hr8, hn8, e81, e82⟩ := unplus hrun
   simp -dsimp only [go_sem, g0, g2, k1, k2, k3, k4, k5, load_own hP]
   refine take_or (l := l) (c := c) (d := d) (t := t) (zb := h.next + 1) ihk hlb hA hat hk hrom hb hBnd hX hM hBk hmne hfar hq hr8 hn8 (by simp -dsimp only [go_sem, hn]) hx z3 hZ hzn (by simp -dsimp only [go_sem, g0]) (by simp -dsimp only [go_sem, g2]) (by simp -dsimp only [go_sem]) (by simp -dsimp only [go_sem]) (by simp -dsimp only [go_sem]) (by simp -dsimp only [go_sem]) (fun a1 h1 x y z hTP hz1 e6 => ?_) (fun a1 h1 hTP hz1 e6 => ?_)
   · simp -dsimp only [go_sem, e6, loads_own hz1, hr]
     exact retag e81 e82 hTP
   · obtain ⟨p1, p2⟩ := put (x := .bool false) (y := .int .i64 0) (z := .slice none 0 0) hz1 z3 rfl
     simp -dsimp only [go_sem, e6, p1, p2, hr]
     exact retag e81 e82 (hTP.put hzn hz1 (by decide) hxbn hmmn)
 have k5 : decide (d.data.toList = [111, 114]) = false := decide_eq_false c5
 have one1 : oneKid d → ∃ x, l = [x] ∧ named (nms G) x ∧ Few x ∧ RoPart r x (css 0) ∧ roAt r b o (css 0) := by
  intro ho
  have hl1 : l.length = 1 := hnp.2.1 ho
  match l, hl1, hnk, hfk, hk, hat with
  | [x], _, hnk, hfk, hk, hat => exact ⟨x, rfl, hnk 0 x rfl, hfk 0 x rfl, hk 0 x rfl, by have := hat 0 x rfl; simpa using this⟩
 have hix0 : l ≠ [] → indexAddr' Try.prog 50 (.slice Av l.length c) (.int .i64 0) = some (.pointer (some ⟨b, o, none⟩)) := by
  intro hl
  rw [hA hl]
  have := ia50 (b := b) (o := o) (c := c) (n := l.length) (i := 0) (List.length_pos_iff.2 hl)
  simpa using this
 by_cases c6 : d.data.toList = [109, 97, 110, 121]
 · have k6 : decide (d.data.toList = [109, 97, 110, 121]) = true := decide_eq_true c6
   obtain ⟨x, rfl, hnx, hfx, hkx, hatx⟩ := one1 (.inl c6)
   have hAv := hA (by simp)
   subst hAv
   rw [run_mn c6] at hrun
   obtain ⟨o8, hr8, hn8, e81, e82⟩ := unplus hrun
   obtain ⟨vS, vO, vX, vB, vR⟩ := var_ok hb2 (e := 31) (c0 := [.string ⟨#[]⟩, .string ⟨#[]⟩, .slice none 0 0]) (c1 := [.string ⟨#[109, 97, 110, 121]⟩, .string ⟨#[]⟩, .slice none 0 0]) rfl rfl (by simp)
   have hPv := own_ext vX hP
   have hZv := own_ext vX hZ
   simp -dsimp only [go_sem, g0, g2, k1, k2, k3, k4, k5, k6, vS]
   refine take_many (x := x) (c := c) (d := d) (t := t) (pb := h.next) (zb := h.next + 1) (tb := h2.next) (ih x hnx hfx) hatx hkx hrom hb hBnd hX hM hBk hmne hfar hq hr8 hn8 (by simp -dsimp only [go_sem, hn]) (hx.trans vX) z3 hPv hZv vO (Nat.le_refl _) hzn hx.next (by simp -dsimp only [go_sem, g0]) (by simp -dsimp only [go_sem, g2]) (by simp -dsimp only [go_sem]) (by simp -dsimp only [go_sem]) (by simp -dsimp only [go_sem]) (fun a1 h1 x y z hTP hz1 e6 => ?_)
   simp -dsimp only [go_sem, e6, loads_own hz1, hr]
   exact retag e81 e82 hTP
 have k6 : decide (d.data.toList = [109, 97, 110, 121]) = false := decide_eq_false c6
 by_cases c7 : d.data.toList = [111, 112, 116]
 · have k7 : decide (d.data.toList = [111, 112, 116]) = true := decide_eq_true c7
   obtain ⟨x, rfl, hnx, hfx, hkx, hatx⟩ := one1 (.inr (.inl c7))
   have hAv := hA (by simp)
   subst hAv
   obtain ⟨Av1, c1', hcs⟩ := hkx.shape
   rw [hcs] at hkx hatx
   rw [run_opt c7, Option.map_eq_some_iff] at hrun
   obtain ⟨o8, hr8, rfl⟩ := hrun
   have hn8 : o8.2.1 ≤ 50000 := by
    have : (optO q o8).2.1 = o8.2.1 + 1 := rfl
    omega
   have hix : indexAddr' Try.prog 50 (.slice (some ⟨b, o, none⟩) 1 c) (.int .i64 0) = some (.pointer (some ⟨b, o, none⟩)) := hix0 (by simp)
   obtain ⟨v5, h5, hs5, memo5, hx5, hX5, hM5, hV5⟩ := ih x hnx hfx B F far q h2 _ memo o8 (hBnd.mono (hx.toS (S := Two xb mm))) hfar hq hrom2 hb2 hX2 hM2 (hBk.ext hx) hkx hr8 hn8
   simp -dsimp only [go_sem, g0, g2, k1, k2, k3, k4, k5, k6, k7, load_own hP, hix, loads_ro (n := 3) hrom2 hatx rfl]
   refine ⟨_, h5, hs5, ?_⟩
   have hx05 : ExtS (Two xb mm) h h5 := hx.toS.trans hx5
   have hZ5 := own_extS hx5 hZ (by rintro (c | c) <;> omega)
   have hb5 : h5.base ≤ h5.next := ext_bn hx05 hb
   have hf9 : (optO q o8).2.2 = o8.2.2 := rfl
   obtain ⟨e5, A5, n5, c5, rfl, hsp5⟩ := hV5.shape
   obtain ⟨wS, wO, wX, wB, wR⟩ := var_ok hb5 (e := 75) (c0 := [.bool false, .int .i64 0, .slice none 0 0]) (c1 := [.bool o8.1.isSome, .int .i64 e5, .slice A5 n5 c5]) rfl rfl (by simp)
   have hZ6 := own_ext wX hZ5
   have hTP0 : TakeP G items B F bk Iv ic mm xb o8 far h (.agg #[.bool o8.1.isSome, .int .i64 e5, .slice A5 n5 c5]) (h5.var 75 [.bool false, .int .i64 0, .slice none 0 0] [.bool o8.1.isSome, .int .i64 e5, .slice A5 n5 c5]) :=
    ⟨memo5, hx05.trans wX.toS, own_ext wX hX5, hM5.extS (S := fun _ => False) wX.toS (fun _ _ _ _ c => c) (fun c => c) (Nat.le_refl _), hV5.keep (keepsE wX).any⟩
   cases ho : o8.1 with
   | some y =>
     obtain ⟨ks, e⟩ := y
     obtain ⟨p1, p2⟩ := put (x := .bool o8.1.isSome) (y := .int .i64 e5) (z := .slice A5 n5 c5) hZ6 z3 rfl
     have hq1 : (optO q o8).1 = o8.1 := by unfold optO; rw [ho]
     rw [ho] at wS wO p1 p2 hTP0 hZ6
     simp -dsimp only [go_sem, Option.isSome_some] at wS wO p1 p2 hTP0 hZ6
     simp -dsimp only [go_sem, Option.isSome_some, wS, load_own wO, loads_own wO, p1, p2, hr]
     have := retag hq1 rfl hTP0
     exact this.put hzn hZ6 (by decide) hxbn hmmn
   | none =>
     obtain ⟨p1, p2⟩ := put (x := .bool true) (y := .int .i64 (q : Int)) (z := .slice none 0 0) hZ6 z3 rfl
     have hq1 : (optO q o8).1 = some ([], q) := by unfold optO; rw [ho]
     rw [ho] at wS wO p1 p2 hTP0 hZ6
     simp -dsimp only [go_sem, Option.isSome_none] at wS wO p1 p2 hTP0 hZ6
     simp -dsimp only [go_sem, Option.isSome_none, wS, load_own wO, g2, p1, p2, hr]
     refine TakeP.put ?_ hzn hZ6 (by decide) hxbn hmmn
     obtain ⟨memo', a1, a2, a3, a4⟩ := hTP0
     exact ⟨memo', a1, a2, a3, by rw [hq1]; exact ⟨_, rfl, KidsAt.nil⟩⟩
 have k7 : decide (d.data.toList = [111, 112, 116]) = false := decide_eq_false c7
 by_cases c8 : d.data.toList = [110, 111, 116]
 · have k8 : decide (d.data.toList = [110, 111, 116]) = true := decide_eq_true c8
   obtain ⟨x, rfl, hnx, hfx, hkx, hatx⟩ := one1 (.inr (.inr c8))
   have hAv := hA (by simp)
   subst hAv
   obtain ⟨Av1, c1', hcs⟩ := hkx.shape
   rw [hcs] at hkx hatx
   rw [run_not c8, Option.map_eq_some_iff] at hrun
   obtain ⟨o8, hr8, rfl⟩ := hrun
   have hn8 : o8.2.1 ≤ 50000 := by
    have : (notO q o8).2.1 = o8.2.1 + 1 := rfl
    omega
   have hix : indexAddr' Try.prog 50 (.slice (some ⟨b, o, none⟩) 1 c) (.int .i64 0) = some (.pointer (some ⟨b, o, none⟩)) := hix0 (by simp)
   obtain ⟨v5, h5, hs5, memo5, hx5, hX5, hM5, hV5⟩ := ih x hnx hfx B F far q h2 _ memo o8 (hBnd.mono (hx.toS (S := Two xb mm))) hfar hq hrom2 hb2 hX2 hM2 (hBk.ext hx) hkx hr8 hn8
   simp -dsimp only [go_sem, g0, g2, k1, k2, k3, k4, k5, k6, k7, k8, load_own hP, hix, loads_ro (n := 3) hrom2 hatx rfl]
   refine ⟨_, h5, hs5, ?_⟩
   have hx05 : ExtS (Two xb mm) h h5 := hx.toS.trans hx5
   have hZ5 := own_extS hx5 hZ (by rintro (c | c) <;> omega)
   have hb5 : h5.base ≤ h5.next := ext_bn hx05 hb
   have hf9 : (notO q o8).2.2 = o8.2.2 := rfl
   obtain ⟨e5, A5, n5, c5, rfl, hsp5⟩ := hV5.shape
   cases ho : o8.1 with
   | some y =>
     obtain ⟨p1, p2⟩ := put (x := .bool false) (y := .int .i64 0) (z := .slice none 0 0) hZ5 z3 rfl
     have hq1 : (notO q o8).1 = none := by unfold notO; rw [ho]
     simp -dsimp only [go_sem, Option.isSome_some, Try.underlying75, Try.underlying4, part, List.getElem?_cons_zero, p1, p2, hr]
     refine TakeP.put ?_ hzn hZ5 (by decide) hxbn hmmn
     exact ⟨memo5, hx05, hX5, hM5, by rw [hq1]; rfl⟩
   | none =>
     obtain ⟨p1, p2⟩ := put (x := .bool true) (y := .int .i64 (q : Int)) (z := .slice none 0 0) hZ5 z3 rfl
     have hq1 : (notO q o8).1 = some ([], q) := by unfold notO; rw [ho]
     simp -dsimp only [go_sem, Option.isSome_none, Try.underlying75, Try.underlying4, part, List.getElem?_cons_zero, g2, p1, p2, hr]
     refine TakeP.put ?_ hzn hZ5 (by decide) hxbn hmmn
     exact ⟨memo5, hx05, hX5, hM5, by rw [hq1]; exact ⟨_, rfl, KidsAt.nil⟩⟩
 have k8 : decide (d.data.toList = [110, 111, 116]) = false := decide_eq_false c8
 rw [run_else c1 c2 c3 c4 c5 c6 c7 c8] at hrun
 injection hrun with hrun
 subst hrun
 obtain ⟨p1, p2⟩ := put (x := .bool true) (y := .int .i64 (q : Int)) (z := .slice none 0 0) hZ z3 rfl
 simp -dsimp only [go_sem, g2, k1, k2, k3, k4, k5, k6, k7, k8, p1, p2, hr]
 refine TakeP.put ?_ hzn hZ (by decide) hxbn hmmn
 exact ⟨memo, hx.toS, by simpa using hX2, by simpa using hM2, ⟨_, rfl, KidsAt.nil⟩⟩
end Go.Ev.G24
end
section
set_option linter.unusedSimpArgs false
set_option linter.unusedVariables false
namespace Go.Ev.G24
open Go.RowKit Go.Proofs
variable {r : Ro} {G : List Rule} {items : List ByteArray} {Gv Iv : Option Addr} {gc ic xb : Nat}
theorem RefL.preS {t : Task} {far : Nat} {s lb : Int} {h h2 : Hp} {v : Value} {h1 : Hp} (x : ExtS (Only xb) h h2) (k : RefL G items Gv Iv gc ic xb t far s lb h2 v h1) : RefL G items Gv Iv gc ic xb t far s lb h v h1 := by
 obtain ⟨far', s', a1, a2, a3, a4⟩ := k
 refine ⟨far', s', x.trans a1, a2, a3, ?_⟩
 rcases a4 with ⟨k, o, b1, b2, b3, b4, b5⟩ | b
 · exact .inl ⟨k, o, b1, b2, b3, b4, b5.more (fun b _ c => Nat.lt_of_lt_of_le c x.next) (fun f c => .inl ⟨c.1, Nat.lt_of_lt_of_le c.2 x.nfam⟩)⟩
 · exact .inr b
theorem map_some {o : Outc} {f : Outc → Outc} {x : Option Outc} (h : x = some o) : x.map f = some (f o) := by rw [h]; rfl
theorem low_ge {s : Int} (h1 : 1 ≤ s) : ∀ z, 0 ≤ z → z ≤ s - 1 → low s + 100000 ≤ low z := by
 intro z hz hz2
 unfold low
 rw [if_neg (by omega), if_neg (by omega)]
 omega
set_option maxHeartbeats 16000000 in
set_option maxRecDepth 10000 in
theorem ref_pos {gb go ib io : Nat} {gcss : Nat → List Value} (R : RoRules r G Gv gc gb go gcss) (RI : RoItems r items Iv ic ib io) (hnm : ∀ (i : Nat) (x : Rule), G[i]? = some x → named (nms G) x.body) (hfw : ∀ (i : Nat) (x : Rule), G[i]? = some x → Few x.body)
  {k : Nat} (ih : ∀ p, named (nms G) p → Few p → RefC r G items Gv Iv gc ic xb k p) {p : Part} (hnp : named (nms G) p) (hfp : Few p) (s : Int) (hs : 1 ≤ s) (far q : Nat) (h : Hp) (cs : List Value) (hsk : s < ((k + 1 : Nat) : Int)) (hs2 : s ≤ 50000) (hfar : far ≤ items.length) (hq : q ≤ items.length) (hrom : h.rom = r) (hb : h.base ≤ h.next)
  (hX : h.own xb 71 (pRow G items Gv Iv gc ic far s)) (hp : RoPart r p cs) : ∃ v h1, Snd Try.prog 40 [.pointer (some ⟨xb, 0, none⟩), .agg cs.toArray, .int .i64 (q : Int)] h v h1 ∧ RefL G items Gv Iv gc ic xb (.part p q) far s (low s) h v h1 := by
 obtain ⟨d, t, l⟩ := p
 have hGl : (nms G).length = G.length := by simp [nms]
 have hlb : l.length ≤ 100000 := by
  cases hfp with
  | mk _ _ _ h1 _ => exact h1
 have hfk : ∀ (i : Nat) (p : Part), l[i]? = some p → Few p := by
  cases hfp with
  | mk _ _ _ _ h1 => exact h1
 have hnk : ∀ (i : Nat) (p : Part), l[i]? = some p → named (nms G) p := namedL_get hnp.2.2
 have hlow := low_ge hs
 have hs1k : s - 1 < (k : Int) := by omega
 have hs10 : 0 ≤ s - 1 := by omega
 have hlast : low s ≤ -1 := by unfold low; split <;> omega
 have hlow2 : -1000000000000 ≤ low s := by unfold low; split <;> omega
 cases hp with
 | mk _ _ _ Av c b o css hc hlb2 hA hat hk hsp =>
 refine snd_go wf Try.func40 rfl rfl (n := 241) rfl (by kernel_rfl) rfl ?_
 intro a hn hg
 have hr : Try.f40.results.toList = [.tmp 6, .tmp 7, .tmp 8] := rfl
 have g0 := hg 0
 have g1 := hg 1
 have g2 := hg 2
 clear hg
 simp only [List.getElem?_cons_zero, List.getElem?_cons_succ] at g0 g1 g2
 have hP := own_new hb 52 [.string d, .string t, .slice Av l.length c]
 have hx0 := Ext.new h (CObj.cells { c := [.string d, .string t, .slice Av l.length c], e := 52, fam := 0, base := 0, grown := false })
 have hX0 := own_ext hx0 hX
 unfold pRow at hX0
 have hst := stores_own hX0 (o := 3) (vs := [.int .i64 (s - 1)]) (c1 := [.slice Gv G.length gc, .slice Iv items.length ic, .int .i64 (far : Int), .int .i64 (s - 1)]) rfl rfl (by simp)
 have hX1 := own_put_same hX0 [.slice Gv G.length gc, .slice Iv items.length ic, .int .i64 (far : Int), .int .i64 (s - 1)]
 have hxn : h.next ≠ xb := Nat.ne_of_gt hX.2.1
 have hP1 := own_put hP hxn (.cells ⟨[.slice Gv G.length gc, .slice Iv items.length ic, .int .i64 (far : Int), .int .i64 (s - 1)], 71, 0, 0, false⟩)
 have hx1 := (hx0.toS (S := Only xb)).put (b := xb) (.inr rfl) (.cells ⟨[.slice Gv G.length gc, .slice Iv items.length ic, .int .i64 (far : Int), .int .i64 (s - 1)], 71, 0, 0, false⟩)
 have hlt0 : decide (s - 1 < 0) = false := decide_eq_false (by omega)
 simp -dsimp only [go_sem, g0, g1, g2, load_own hX0, wrap_pred (by omega : -1000000000000 ≤ s) (by omega : s ≤ 1000000), hst, load_own hX1, hlt0]
 generalize ((h.newH (CObj.cells { c := [.string d, .string t, .slice Av l.length c], e := 52, fam := 0, base := 0, grown := false })).put xb (.cells ⟨[.slice Gv G.length gc, .slice Iv items.length ic, .int .i64 (far : Int), .int .i64 (s - 1)], 71, 0, 0, false⟩)) = h2 at hX1 hP1 hx1 ⊢
 have hrom2 : h2.rom = r := ext_rom hx1 hrom
 have hb2 : h2.base ≤ h2.next := ext_bn hx1 hb
 have hXp : h2.own xb 71 (pRow G items Gv Iv gc ic far (s - 1)) := hX1
 clear hst hX0 hx0 hP
 have hix0 : l ≠ [] → indexAddr' Try.prog 50 (.slice Av l.length c) (.int .i64 0) = some (.pointer (some ⟨b, o, none⟩)) := by
  intro hl
  rw [hA hl]
  have := ia50 (b := b) (o := o) (c := c) (n := l.length) (i := 0) (List.length_pos_iff.2 hl)
  simpa using this
 by_cases c1 : d.data.toList = [105, 115]
 · have k1 : decide (d.data.toList = [105, 115]) = true := decide_eq_true c1
   have hfq : max far q ≤ items.length := Nat.max_le.2 ⟨hfar, hq⟩
   have hst7 := stores_own hX1 (o := 2) (vs := [.int .i64 ((max far q : Nat) : Int)]) (c1 := [.slice Gv G.length gc, .slice Iv items.length ic, .int .i64 ((max far q : Nat) : Int), .int .i64 (s - 1)]) rfl rfl (by simp)
   have hX7 := own_put_same hX1 [.slice Gv G.length gc, .slice Iv items.length ic, .int .i64 ((max far q : Nat) : Int), .int .i64 (s - 1)]
   have hP7 := own_put hP1 hxn (.cells ⟨[.slice Gv G.length gc, .slice Iv items.length ic, .int .i64 ((max far q : Nat) : Int), .int .i64 (s - 1)], 71, 0, 0, false⟩)
   have hx7 := hx1.put (b := xb) (.inr rfl) (.cells ⟨[.slice Gv G.length gc, .slice Iv items.length ic, .int .i64 ((max far q : Nat) : Int), .int .i64 (s - 1)], 71, 0, 0, false⟩)
   simp -dsimp only [go_sem, undef', g0, g1, g2, load_own hP1, load_own hX1, max_int, k1, hst7]
   generalize (h2.put xb (.cells ⟨[.slice Gv G.length gc, .slice Iv items.length ic, .int .i64 ((max far q : Nat) : Int), .int .i64 (s - 1)], 71, 0, 0, false⟩)) = h7 at hX7 hP7 hx7 ⊢
   have hrom7 : h7.rom = r := ext_rom hx7 hrom
   have hb7 : h7.base ≤ h7.next := ext_bn hx7 hb
   refine Dw_text (n := 241) [[], [], [1], [1, 2], [1, 2, 3], [1, 2, 3, 4], [0, 1, 2, 3, 4, 5], [0, 1, 2, 3, 4, 5, 6], [0, 1, 2, 3, 4, 5, 6, 7], [0, 1, 2, 3, 4, 5, 6, 7, 8], [0, 1, 2, 3, 4, 5, 6, 7, 8, 9], [0, 1, 2, 3, 4, 5, 6, 7, 8, 9, 10], [0, 1, 2, 3, 4, 5, 6, 7, 8, 9, 10, 11], [0, 1, 2, 3, 4, 5, 6, 7, 8, 9, 10, 11, 12], [0, 1, 2, 3, 4, 5, 6, 7, 8, 9, 10, 11, 12, 13], [0, 1, 2, 3, 4, 5, 6, 7, 8, 9, 10, 11, 12, 13, 14], [0, 1, 2, 3, 4, 5, 6, 7, 8, 9, 10, 11], [0, 1, 2, 3, 4, 5, 6, 7, 8, 9, 10, 11, 12, 13, 14, 15, 16], [0, 1, 2, 3, 4, 5, 6, 7, 8, 9, 10, 11, 12, 13, 14, 15, 16, 17], [0, 1, 2, 3, 4, 5, 6, 7, 8, 9, 10, 11], [0, 1, 2, 3, 4, 5, 6, 7, 8, 9, 10, 11, 19], [0, 1, 2, 3, 4, 5, 6, 7, 8, 9, 10, 11, 12, 13, 14, 15, 16, 17, 18, 19, 20], [0, 1, 2, 3, 4, 5, 6, 7, 8, 9, 10, 11, 12, 13, 14, 15, 16, 17, 18, 19, 20, 21], [0, 1, 2, 3, 4, 5, 6, 7, 8, 9, 10, 11, 12, 13, 14, 15, 16, 17, 18, 19, 20, 21, 22]] (by simp -dsimp only [go_sem, hn]) (by kernel_rfl) ?_
   by_cases hlt : q < items.length
   rotate_left
   · have k0 : decide ((q : Int) < (items.length : Int)) = false := decide_eq_false (by omega)
     simp -dsimp only [go_sem, undef', g0, g1, g2, load_own hX7, load_own hP7, sameN_sliceA RI.hs, k0, hr]
     refine ⟨max far q, s - 1, hx7, hX7, hfq, .inl ⟨1, _, run_one c1, ?_, hs10, ?_, ?_⟩⟩
     · rw [one_pos]; rfl
     · unfold oneO; rw [List.getElem?_eq_none (by omega)]
     · unfold oneO; rw [List.getElem?_eq_none (by omega)]; exact ⟨_, _, _, _, rfl, rfl⟩
   have k0 : decide ((q : Int) < (items.length : Int)) = true := decide_eq_true (by omega)
   have hps : items[q]? = some items[q] := List.getElem?_eq_getElem hlt
   have hIv := RI.hA (ne_nil hlt)
   subst hIv
   have hld : h7.load ⟨ib, io + q, none⟩ = some (.string items[q]) := by
    have := load_ro hrom7 (RI.hat q _ hps) (j := 0) (v := .string items[q]) rfl
    simpa using this
   have hw := wrap64_succ hlt (Nat.le_trans RI.hb (by decide))
   have hrow := own_new hb7 31 [.string ⟨#[105, 116, 101, 109]⟩, .string items[q], .slice none 0 0]
   have hxr := Ext.new h7 (CObj.cells { c := [.string ⟨#[105, 116, 101, 109]⟩, .string items[q], .slice none 0 0], e := 31, fam := 0, base := 0, grown := false })
   have hX8 := own_ext hxr hX7
   have fin : testB (some t) items[q] = true → RefL G items Gv (some ⟨ib, io, none⟩) gc ic xb (.part ⟨d, t, l⟩ q) far s (low s) h (.tuple #[.slice (some ⟨h7.next, 0, none⟩) 1 1, .int .i64 ((q + 1 : Nat) : Int), .bool true]) (h7.newH (CObj.cells { c := [.string ⟨#[105, 116, 101, 109]⟩, .string items[q], .slice none 0 0], e := 31, fam := 0, base := 0, grown := false })) := by
    intro ht
    refine ⟨max far q, s - 1, hx7.trans hxr.toS, hX8, hfq, .inl ⟨1, _, run_one c1, ?_, hs10, ?_, ?_⟩⟩
    · rw [one_pos]; rfl
    · unfold oneO; rw [hps]; simp only [ht, if_true]
    · unfold oneO; rw [hps]; simp only [ht, if_true]
      exact ⟨_, rfl, kids_new hrow (by have := hx7.next; omega) (fun c => c.1 rfl) KidsAt.nil⟩
   have kany : decide (d.data.toList = [97, 110, 121]) = false := decide_eq_false (by rw [c1]; decide)
   by_cases hte : items[q].data.toList = t.data.toList
   · simp -dsimp only [go_sem, undef', g0, g1, g2, load_own hX7, load_own hP7, sameN_sliceA RI.hs, k0, kany, ia25 hlt, hld, decide_eq_true hte, hw, bs29 1 (by decide), repeatN, hr]
     exact fin (decide_eq_true hte)
   · simp -dsimp only [go_sem, undef', g0, g1, g2, load_own hX7, load_own hP7, sameN_sliceA RI.hs, k0, kany, ia25 hlt, hld, decide_eq_false hte, hr]
     refine ⟨max far q, s - 1, hx7, hX7, hfq, .inl ⟨1, _, run_one c1, ?_, hs10, ?_, ?_⟩⟩
     · rw [one_pos]; rfl
     · have : testB (some t) items[q] = false := decide_eq_false hte
       unfold oneO; rw [hps]; simp only [this, if_false, Bool.false_eq_true]
     · have : testB (some t) items[q] = false := decide_eq_false hte
       unfold oneO; rw [hps]; simp only [this, if_false, Bool.false_eq_true]
       exact ⟨_, _, _, _, rfl, rfl⟩
 have k1 : decide (d.data.toList = [105, 115]) = false := decide_eq_false c1
 by_cases c2 : d.data.toList = [97, 110, 121]
 · have k2 : decide (d.data.toList = [97, 110, 121]) = true := decide_eq_true c2
   have hfq : max far q ≤ items.length := Nat.max_le.2 ⟨hfar, hq⟩
   have hst7 := stores_own hX1 (o := 2) (vs := [.int .i64 ((max far q : Nat) : Int)]) (c1 := [.slice Gv G.length gc, .slice Iv items.length ic, .int .i64 ((max far q : Nat) : Int), .int .i64 (s - 1)]) rfl rfl (by simp)
   have hX7 := own_put_same hX1 [.slice Gv G.length gc, .slice Iv items.length ic, .int .i64 ((max far q : Nat) : Int), .int .i64 (s - 1)]
   have hP7 := own_put hP1 hxn (.cells ⟨[.slice Gv G.length gc, .slice Iv items.length ic, .int .i64 ((max far q : Nat) : Int), .int .i64 (s - 1)], 71, 0, 0, false⟩)
   have hx7 := hx1.put (b := xb) (.inr rfl) (.cells ⟨[.slice Gv G.length gc, .slice Iv items.length ic, .int .i64 ((max far q : Nat) : Int), .int .i64 (s - 1)], 71, 0, 0, false⟩)
   simp -dsimp only [go_sem, undef', g0, g1, g2, load_own hP1, load_own hX1, max_int, k1, k2, hst7]
   generalize (h2.put xb (.cells ⟨[.slice Gv G.length gc, .slice Iv items.length ic, .int .i64 ((max far q : Nat) : Int), .int .i64 (s - 1)], 71, 0, 0, false⟩)) = h7 at hX7 hP7 hx7 ⊢
   have hrom7 : h7.rom = r := ext_rom hx7 hrom
   have hb7 : h7.base ≤ h7.next := ext_bn hx7 hb
   refine Dw_text (n := 241) [[], [], [1], [1, 2], [1, 2, 3], [1, 2, 3, 4], [0, 1, 2, 3, 4, 5], [0, 1, 2, 3, 4, 5, 6], [0, 1, 2, 3, 4, 5, 6, 7], [0, 1, 2, 3, 4, 5, 6, 7, 8], [0, 1, 2, 3, 4, 5, 6, 7, 8, 9], [0, 1, 2, 3, 4, 5, 6, 7, 8, 9, 10], [0, 1, 2, 3, 4, 5, 6, 7, 8, 9, 10, 11], [0, 1, 2, 3, 4, 5, 6, 7, 8, 9, 10, 11, 12], [0, 1, 2, 3, 4, 5, 6, 7, 8, 9, 10, 11, 12, 13], [0, 1, 2, 3, 4, 5, 6, 7, 8, 9, 10, 11, 12, 13, 14], [0, 1, 2, 3, 4, 5, 6, 7, 8, 9, 10, 11], [0, 1, 2, 3, 4, 5, 6, 7, 8, 9, 10, 11, 12, 13, 14, 15, 16], [0, 1, 2, 3, 4, 5, 6, 7, 8, 9, 10, 11, 12, 13, 14, 15, 16, 17], [0, 1, 2, 3, 4, 5, 6, 7, 8, 9, 10, 11], [0, 1, 2, 3, 4, 5, 6, 7, 8, 9, 10, 11, 19], [0, 1, 2, 3, 4, 5, 6, 7, 8, 9, 10, 11, 12, 13, 14, 15, 16, 17, 18, 19, 20], [0, 1, 2, 3, 4, 5, 6, 7, 8, 9, 10, 11, 12, 13, 14, 15, 16, 17, 18, 19, 20, 21], [0, 1, 2, 3, 4, 5, 6, 7, 8, 9, 10, 11, 12, 13, 14, 15, 16, 17, 18, 19, 20, 21, 22]] (by simp -dsimp only [go_sem, hn]) (by kernel_rfl) ?_
   by_cases hlt : q < items.length
   rotate_left
   · have k0 : decide ((q : Int) < (items.length : Int)) = false := decide_eq_false (by omega)
     simp -dsimp only [go_sem, undef', g0, g1, g2, load_own hX7, load_own hP7, sameN_sliceA RI.hs, k0, hr]
     refine ⟨max far q, s - 1, hx7, hX7, hfq, .inl ⟨1, _, run_any c2, ?_, hs10, ?_, ?_⟩⟩
     · rw [one_pos]; rfl
     · unfold oneO; rw [List.getElem?_eq_none (by omega)]
     · unfold oneO; rw [List.getElem?_eq_none (by omega)]; exact ⟨_, _, _, _, rfl, rfl⟩
   have k0 : decide ((q : Int) < (items.length : Int)) = true := decide_eq_true (by omega)
   have hps : items[q]? = some items[q] := List.getElem?_eq_getElem hlt
   have hIv := RI.hA (ne_nil hlt)
   subst hIv
   have hld : h7.load ⟨ib, io + q, none⟩ = some (.string items[q]) := by
    have := load_ro hrom7 (RI.hat q _ hps) (j := 0) (v := .string items[q]) rfl
    simpa using this
   have hw := wrap64_succ hlt (Nat.le_trans RI.hb (by decide))
   have hrow := own_new hb7 31 [.string ⟨#[105, 116, 101, 109]⟩, .string items[q], .slice none 0 0]
   have hxr := Ext.new h7 (CObj.cells { c := [.string ⟨#[105, 116, 101, 109]⟩, .string items[q], .slice none 0 0], e := 31, fam := 0, base := 0, grown := false })
   have hX8 := own_ext hxr hX7
   have fin : testB none items[q] = true → RefL G items Gv (some ⟨ib, io, none⟩) gc ic xb (.part ⟨d, t, l⟩ q) far s (low s) h (.tuple #[.slice (some ⟨h7.next, 0, none⟩) 1 1, .int .i64 ((q + 1 : Nat) : Int), .bool true]) (h7.newH (CObj.cells { c := [.string ⟨#[105, 116, 101, 109]⟩, .string items[q], .slice none 0 0], e := 31, fam := 0, base := 0, grown := false })) := by
    intro ht
    refine ⟨max far q, s - 1, hx7.trans hxr.toS, hX8, hfq, .inl ⟨1, _, run_any c2, ?_, hs10, ?_, ?_⟩⟩
    · rw [one_pos]; rfl
    · unfold oneO; rw [hps]; simp only [ht, if_true]
    · unfold oneO; rw [hps]; simp only [ht, if_true]
      exact ⟨_, rfl, kids_new hrow (by have := hx7.next; omega) (fun c => c.1 rfl) KidsAt.nil⟩
   simp -dsimp only [go_sem, undef', g0, g1, g2, load_own hX7, load_own hP7, sameN_sliceA RI.hs, k0, k1, k2, ia25 hlt, hld, hw, bs29 1 (by decide), repeatN, hr]
   exact fin rfl
 have k2 : decide (d.data.toList = [97, 110, 121]) = false := decide_eq_false c2
 by_cases c3 : d.data.toList = [114, 117, 108, 101]
 · have k3 : decide (d.data.toList = [114, 117, 108, 101]) = true := decide_eq_true c3
   have hidx : idxOf (nms G) t < (nms G).length := hnp.1 c3
   have hfi : findB t (nms G) 0 = ((idxOf (nms G) t : Nat) : Int) := by rw [findB_idx, if_pos hidx, Nat.zero_add]
   rw [hGl] at hidx
   obtain ⟨_, h5, hs5, rfl, hx5⟩ := find_c R t h2 hrom2 hb2
   rw [hfi] at hs5
   have hgi : G[idxOf (nms G) t]? = some G[idxOf (nms G) t] := List.getElem?_eq_getElem hidx
   have hbo : bodyOf G t = G[idxOf (nms G) t].body := by unfold bodyOf; rw [hgi]
   obtain ⟨Av1, c1', hcs⟩ := (R.hk _ _ hgi).shape
   have hat' := R.hat _ _ hgi
   have hkid := R.hk _ _ hgi
   rw [hcs] at hat' hkid
   have hat2 := roAt_tail hat'
   have hGv := R.hA (ne_nil hidx)
   subst hGv
   have hx15 := hx1.trans (hx5.toS (S := Only xb))
   obtain ⟨v6, h6, hs6, far6, s6, hx6, hX6, hf6, hcase⟩ := ih _ (hnm _ _ hgi) (hfw _ _ hgi) (s - 1) far q h5 _ hs1k (by omega) (by omega) hfar hq (ext_rom hx15 hrom) (ext_bn hx15 hb) (own_ext hx5 hXp) hkid
   simp -dsimp only [go_sem, g0, g1, g2, load_own hP1, k1, k2, k3]
   refine Dw_text (n := 241) [[], [], [1], [1, 2], [1, 2, 3], [1, 2, 3, 4], [], [6], [6, 7], [6, 7, 8], [], [10], [6, 7, 8, 9, 10, 11], [1, 2, 3, 4, 5, 6, 7, 8, 9, 10, 11, 12], [1, 2, 3, 4, 5, 6, 7, 8, 9, 10, 11, 12, 13], [1, 2, 3, 4, 5, 6, 7, 8, 9, 10, 11, 12, 13, 14], [], [0, 1, 2, 3, 4, 5, 6, 7, 8, 9, 10, 11, 12, 13, 14, 15, 16], [0, 1, 2, 3, 4, 5, 6, 7, 8, 9, 10, 11, 12, 13, 14, 15, 16, 17], [0, 1, 2, 3, 4, 5, 6, 7, 8, 9, 10, 11, 12, 13, 14, 15, 16, 17, 18], [0, 1, 2, 3, 4, 5, 6, 7, 8, 9, 10, 11, 12, 13, 14, 15, 16, 17, 18], [0, 1, 2, 3, 4, 5, 6, 7, 8, 9, 10, 11, 12, 13, 14, 15, 16, 17, 18], [0, 1, 2, 3, 4, 5, 6, 7, 8, 9, 10, 11, 12, 13, 14, 15, 16, 17, 18, 19], [0, 1, 2, 3, 4, 5, 6, 7, 8, 9, 10, 11, 12, 13, 14, 15, 16, 17, 18, 19, 20, 22], [0, 1, 2, 3, 4, 5, 6, 7, 8, 9, 10, 11, 12, 13, 14, 15, 16, 17, 18, 19, 20, 21, 22, 23]] (by simp -dsimp only [go_sem, hn]) (by kernel_rfl) ?_
   simp -dsimp only [go_sem, g0, g1, g2, load_own hP1, load_own hX1, loads_own hX1, load_own (own_ext hx5 hX1), sameN_sliceA R.hs]
   refine ⟨_, h5, hs5, ?_⟩
   simp -dsimp only [go_sem, g0, g1, g2, ia22 hidx, loads_ro (n := 3) (ext_rom hx15 hrom) hat2 rfl, load_own hX1, load_own (own_ext hx5 hX1), loads_ro (n := 3) hrom2 hat2 rfl, sameN_sliceA hkid.same, sameN_sliceA R.hs]
   refine ⟨_, h6, hs6, ?_⟩
   have hx16 := hx15.trans hx6
   have hb6 : h6.base ≤ h6.next := ext_bn hx16 hb
   rcases hcase with ⟨k6, ⟨r6, n6, f6⟩, hrun, hss, hsp6, hff, hres⟩ | ⟨hneg, hlw, A, n, c', e', rfl, hspA⟩
   · have hss : s6 = s - 1 - (n6 : Int) := hss
     have hff : far6 = max far f6 := hff
     rw [← hbo] at hrun
     have hrun' := map_some (f := ruleO t) hrun
     rw [← run_rule (d := d) (l := l) c3] at hrun'
     cases r6 with
     | none =>
       obtain ⟨A, n, c', e', rfl, hspA⟩ := hres
       simp -dsimp only [go_sem, sameN_sliceA hspA, hr]
       exact ⟨far6, s6, hx16, hX6, hf6, .inl ⟨_, _, hrun', by show s6 = s - ((n6 + 1 : Nat) : Int); omega, hsp6, hff, ⟨_, _, _, _, rfl, rfl⟩⟩⟩
     | some y =>
       obtain ⟨ks, e⟩ := y
       obtain ⟨kv, rfl, hkv⟩ := hres
       obtain ⟨A9, c9, rfl, hsp9⟩ := hkv.slice
       have hP6 := own_extS (hx5.toS.trans hx6) hP1 hxn
       have hrow := own_new hb6 31 [.string ⟨#[114, 117, 108, 101]⟩, .string t, .slice A9 ks.length c9]
       have hxr := Ext.new h6 (CObj.cells { c := [.string ⟨#[114, 117, 108, 101]⟩, .string t, .slice A9 ks.length c9], e := 31, fam := 0, base := 0, grown := false })
       simp -dsimp only [go_sem, load_own hP6, sameN_sliceA hsp9, bs29 1 (by decide), repeatN, hr]
       refine ⟨far6, s6, hx16.trans hxr.toS, own_ext hxr hX6, hf6, .inl ⟨_, _, hrun', by show s6 = s - ((n6 + 1 : Nat) : Int); omega, hsp6, hff, ?_⟩⟩
       refine ⟨_, rfl, kids_new hrow (by have := hx16.next; omega) (fun c => c.1 rfl) ?_⟩
       exact (hkv.more (fun b _ c => Nat.lt_of_lt_of_le c hx15.next) (fun f c => .inl ⟨c.1, Nat.lt_of_lt_of_le c.2 hx15.nfam⟩)).keep (keepsE hxr).any
   · simp -dsimp only [go_sem, sameN_sliceA hspA, hr]
     exact ⟨far6, s6, hx16, hX6, hf6, .inr ⟨hneg, by have := hlow (s - 1) hs10 (Int.le_refl _); omega, _, _, _, _, rfl, rfl⟩⟩
 have k3 : decide (d.data.toList = [114, 117, 108, 101]) = false := decide_eq_false c3
 by_cases c4 : d.data.toList = [115, 101, 113]
 · have k4 : decide (d.data.toList = [115, 101, 113]) = true := decide_eq_true c4
   simp -dsimp only [go_sem, g0, g1, g2, load_own hP1, k1, k2, k3, k4]
   have st : ∀ k o, run G items k (.seq l q []) = some o → ∃ k', run G items k' (.part ⟨d, t, l⟩ q) = some (plus1 o) := fun k o e => ⟨k + 1, by rw [run_sq c4, e]; rfl⟩
   refine ref_seq (fun i p hp => ih p (hnk i p hp) (hfk i p hp)) hlb hA hat hk RI.hb (d := d) (t := t) (c := c) (pb := h.next) (s := s - 1) (lb := low s) (far := far) (q := q) (by simp -dsimp only [go_sem, hn]) hrom2 hb2 hXp hP1 hs10 hs1k (by omega) hfar hq hlow (by simp -dsimp only [go_sem, g0]) (by simp -dsimp only [go_sem, g2]) (by simp -dsimp only [go_sem]) (by simp -dsimp only [go_sem]) (by simp -dsimp only [go_sem]) (fun a1 h1 x6 x7 x8 hL e6 e7 e8 => ?_) (fun a1 h1 x6 x7 hL e12 e2 => ?_)
   · simp -dsimp only [go_sem, e6, e7, e8, hr]
     exact (hL.plus rfl st).preS hx1
   · simp -dsimp only [go_sem, e12, e2, hr]
     exact (hL.plus rfl st).preS hx1
 have k4 : decide (d.data.toList = [115, 101, 113]) = false := decide_eq_false c4
 by_cases c5 : d.data.toList = [111, 114]
 · have k5 : decide (d.data.toList = [111, 114]) = true := decide_eq_true c5
   simp -dsimp only [go_sem, g0, g1, g2, load_own hP1, k1, k2, k3, k4, k5]
   have st : ∀ k o, run G items k (.alt l q) = some o → ∃ k', run G items k' (.part ⟨d, t, l⟩ q) = some (plus1 o) := fun k o e => ⟨k + 1, by rw [run_or c5, e]; rfl⟩
   refine ref_or (fun i p hp => ih p (hnk i p hp) (hfk i p hp)) hlb hA hat hk RI.hb (d := d) (t := t) (c := c) (pb := h.next) (s := s - 1) (lb := low s) (far := far) (q := q) (by simp -dsimp only [go_sem, hn]) hrom2 hb2 hXp hP1 hs10 hs1k (by omega) hfar hq hlow hlow2 (by simp -dsimp only [go_sem, g0]) (by simp -dsimp only [go_sem, g2]) (by simp -dsimp only [go_sem]) (by simp -dsimp only [go_sem]) (fun a1 h1 x6 x7 x8 hL e6 e7 e8 => ?_) (fun a1 h1 hL => ?_)
   · simp -dsimp only [go_sem, e6, e7, e8, hr]
     exact (hL.plus rfl st).preS hx1
   · simp -dsimp only [go_sem, hr]
     exact (hL.plus rfl st).preS hx1
 have k5 : decide (d.data.toList = [111, 114]) = false := decide_eq_false c5
 have one1 : oneKid d → ∃ x, l = [x] ∧ named (nms G) x ∧ Few x ∧ RoPart r x (css 0) ∧ roAt r b o (css 0) := by
  intro ho
  have hl1 : l.length = 1 := hnp.2.1 ho
  match l, hl1, hnk, hfk, hk, hat with
  | [x], _, hnk, hfk, hk, hat => exact ⟨x, rfl, hnk 0 x rfl, hfk 0 x rfl, hk 0 x rfl, by have := hat 0 x rfl; simpa using this⟩
 by_cases c6 : d.data.toList = [109, 97, 110, 121]
 · have k6 : decide (d.data.toList = [109, 97, 110, 121]) = true := decide_eq_true c6
   obtain ⟨x, rfl, hnx, hfx, hkx, hatx⟩ := one1 (.inl c6)
   have hAv := hA (by simp)
   subst hAv
   simp -dsimp only [go_sem, g0, g1, g2, load_own hP1, k1, k2, k3, k4, k5, k6]
   have st : ∀ k o, run G items k (.many x q []) = some o → ∃ k', run G items k' (.part ⟨d, t, [x]⟩ q) = some (plus1 o) := fun k o e => ⟨k + 1, by rw [run_mn c6, e]; rfl⟩
   refine ref_many (ih x hnx hfx) hatx hkx RI.hb (d := d) (t := t) (c := c) (pb := h.next) (s := s - 1) (lb := low s) (far := far) (q := q) (by simp -dsimp only [go_sem, hn]) hrom2 hb2 hXp hP1 hs10 hs1k (by omega) hfar hq hlow (by simp -dsimp only [go_sem, g0]) (by simp -dsimp only [go_sem, g2]) (by simp -dsimp only [go_sem]) (by simp -dsimp only [go_sem]) (fun a1 h1 x6 x7 x8 hL e6 e7 e8 => ?_)
   simp -dsimp only [go_sem, e6, e7, e8, hr]
   exact (hL.plus rfl st).preS hx1
 have k6 : decide (d.data.toList = [109, 97, 110, 121]) = false := decide_eq_false c6
 by_cases c7 : d.data.toList = [111, 112, 116]
 · have k7 : decide (d.data.toList = [111, 112, 116]) = true := decide_eq_true c7
   obtain ⟨x, rfl, hnx, hfx, hkx, hatx⟩ := one1 (.inr (.inl c7))
   have hAv := hA (by simp)
   subst hAv
   obtain ⟨Av1, c1', hcs⟩ := hkx.shape
   rw [hcs] at hkx hatx
   obtain ⟨v6, h6, hs6, far6, s6, hx6, hX6, hf6, hcase⟩ := ih x hnx hfx (s - 1) far q h2 _ hs1k (by omega) (by omega) hfar hq hrom2 hb2 hXp hkx
   have hix : indexAddr' Try.prog 50 (.slice (some ⟨b, o, none⟩) 1 c) (.int .i64 0) = some (.pointer (some ⟨b, o, none⟩)) := hix0 (by simp)
   simp -dsimp only [go_sem, g0, g1, g2, load_own hP1, k1, k2, k3, k4, k5, k6, k7, hix, loads_ro (n := 3) hrom2 hatx rfl]
   refine ⟨_, h6, hs6, ?_⟩
   have hx16 := hx1.trans hx6
   rcases hcase with ⟨k9, ⟨r6, n6, f6⟩, hrun, hss, hsp6, hff, hres⟩ | ⟨hneg, hlw, A, n, c', e', rfl, hspA⟩
   · have hss : s6 = s - 1 - (n6 : Int) := hss
     have hff : far6 = max far f6 := hff
     have hrun' := map_some (f := optO q) hrun
     rw [← run_opt (d := d) (t := t) c7] at hrun'
     have hge : decide (0 ≤ s6) = true := decide_eq_true hsp6
     cases r6 with
     | none =>
       obtain ⟨A, n, c', e', rfl, hspA⟩ := hres
       simp -dsimp only [go_sem]
       refine Dw_text (n := 241) [[], [], [1], [1, 2], [1, 2, 3], [1, 2, 3, 4], [], [0, 6], [0, 1, 2, 3, 4, 5, 6, 7]] (by simp -dsimp only [go_sem, hn]) (by kernel_rfl) ?_
       simp -dsimp only [go_sem, g0, g2, load_own hX6, pRow, hge, hr]
       exact ⟨far6, s6, hx16, hX6, hf6, .inl ⟨_, _, hrun', by show s6 = s - ((n6 + 1 : Nat) : Int); omega, hsp6, hff, ⟨_, rfl, KidsAt.nil⟩⟩⟩
     | some y =>
       obtain ⟨ks, e⟩ := y
       obtain ⟨kv, rfl, hkv⟩ := hres
       simp -dsimp only [go_sem, hr]
       exact ⟨far6, s6, hx16, hX6, hf6, .inl ⟨_, _, hrun', by show s6 = s - ((n6 + 1 : Nat) : Int); omega, hsp6, hff, ⟨_, rfl, hkv.more (fun b _ c => Nat.lt_of_lt_of_le c hx1.next) (fun f c => .inl ⟨c.1, Nat.lt_of_lt_of_le c.2 hx1.nfam⟩)⟩⟩⟩
   · have hge : decide (0 ≤ s6) = false := decide_eq_false (by omega)
     simp -dsimp only [go_sem]
     refine Dw_text (n := 241) [[], [], [1], [1, 2], [1, 2, 3], [1, 2, 3, 4], [], [0, 6], [0, 1, 2, 3, 4, 5, 6, 7]] (by simp -dsimp only [go_sem, hn]) (by kernel_rfl) ?_
     simp -dsimp only [go_sem, g0, g2, load_own hX6, pRow, hge, hr]
     exact ⟨far6, s6, hx16, hX6, hf6, .inr ⟨hneg, by have := hlow (s - 1) hs10 (Int.le_refl _); omega, _, _, _, _, rfl, rfl⟩⟩
 have k7 : decide (d.data.toList = [111, 112, 116]) = false := decide_eq_false c7
 by_cases c8 : d.data.toList = [110, 111, 116]
 · have k8 : decide (d.data.toList = [110, 111, 116]) = true := decide_eq_true c8
   obtain ⟨x, rfl, hnx, hfx, hkx, hatx⟩ := one1 (.inr (.inr c8))
   have hAv := hA (by simp)
   subst hAv
   obtain ⟨Av1, c1', hcs⟩ := hkx.shape
   rw [hcs] at hkx hatx
   obtain ⟨v6, h6, hs6, far6, s6, hx6, hX6, hf6, hcase⟩ := ih x hnx hfx (s - 1) far q h2 _ hs1k (by omega) (by omega) hfar hq hrom2 hb2 hXp hkx
   have hix : indexAddr' Try.prog 50 (.slice (some ⟨b, o, none⟩) 1 c) (.int .i64 0) = some (.pointer (some ⟨b, o, none⟩)) := hix0 (by simp)
   simp -dsimp only [go_sem, g0, g1, g2, load_own hP1, k1, k2, k3, k4, k5, k6, k7, k8, hix, loads_ro (n := 3) hrom2 hatx rfl]
   refine ⟨_, h6, hs6, ?_⟩
   have hx16 := hx1.trans hx6
   rcases hcase with ⟨k9, ⟨r6, n6, f6⟩, hrun, hss, hsp6, hff, hres⟩ | ⟨hneg, hlw, A, n, c', e', rfl, hspA⟩
   · have hss : s6 = s - 1 - (n6 : Int) := hss
     have hff : far6 = max far f6 := hff
     have hrun' := map_some (f := notO q) hrun
     rw [← run_not (d := d) (t := t) c8] at hrun'
     have hge : decide (0 ≤ s6) = true := decide_eq_true hsp6
     cases r6 with
     | none =>
       obtain ⟨A, n, c', e', rfl, hspA⟩ := hres
       simp -dsimp only [go_sem]
       refine Dw_text (n := 241) [[], [], [1], [1, 2], [1, 2, 3], [1, 2, 3, 4], [], [0, 6], [0, 1, 2, 3, 4, 5, 6, 7]] (by simp -dsimp only [go_sem, hn]) (by kernel_rfl) ?_
       simp -dsimp only [go_sem, g0, g2, load_own hX6, pRow, hge, hr]
       exact ⟨far6, s6, hx16, hX6, hf6, .inl ⟨_, _, hrun', by show s6 = s - ((n6 + 1 : Nat) : Int); omega, hsp6, hff, ⟨_, rfl, KidsAt.nil⟩⟩⟩
     | some y =>
       obtain ⟨ks, e⟩ := y
       obtain ⟨kv, rfl, hkv⟩ := hres
       simp -dsimp only [go_sem, hr]
       exact ⟨far6, s6, hx16, hX6, hf6, .inl ⟨_, _, hrun', by show s6 = s - ((n6 + 1 : Nat) : Int); omega, hsp6, hff, ⟨_, _, _, _, rfl, rfl⟩⟩⟩
   · have hge : decide (0 ≤ s6) = false := decide_eq_false (by omega)
     simp -dsimp only [go_sem]
     refine Dw_text (n := 241) [[], [], [1], [1, 2], [1, 2, 3], [1, 2, 3, 4], [], [0, 6], [0, 1, 2, 3, 4, 5, 6, 7]] (by simp -dsimp only [go_sem, hn]) (by kernel_rfl) ?_
     simp -dsimp only [go_sem, g0, g2, load_own hX6, pRow, hge, hr]
     exact ⟨far6, s6, hx16, hX6, hf6, .inr ⟨hneg, by have := hlow (s - 1) hs10 (Int.le_refl _); omega, _, _, _, _, rfl, rfl⟩⟩
 have k8 : decide (d.data.toList = [110, 111, 116]) = false := decide_eq_false c8
 have hge : decide (0 ≤ s - 1) = true := decide_eq_true hs10
 simp -dsimp only [go_sem, g0, g1, g2, load_own hP1, k1, k2, k3, k4, k5, k6, k7, k8]
 refine Dw_text (n := 241) [[], [], [1], [1, 2], [1, 2, 3], [1, 2, 3, 4], [], [0, 6], [0, 1, 2, 3, 4, 5, 6, 7]] (by simp -dsimp only [go_sem, hn]) (by kernel_rfl) ?_
 simp -dsimp only [go_sem, g0, g2, load_own hX1, hge, hr]
 exact ⟨far, s - 1, hx1, hXp, hfar, .inl ⟨1, _, run_else c1 c2 c3 c4 c5 c6 c7 c8, rfl, hs10, by simp, ⟨_, rfl, KidsAt.nil⟩⟩⟩
theorem ref_part {gb go ib io : Nat} {gcss : Nat → List Value} (R : RoRules r G Gv gc gb go gcss) (RI : RoItems r items Iv ic ib io) (hnm : ∀ (i : Nat) (x : Rule), G[i]? = some x → named (nms G) x.body) (hfw : ∀ (i : Nat) (x : Rule), G[i]? = some x → Few x.body) :
  ∀ (k : Nat), k ≤ 50000 → ∀ p, named (nms G) p → Few p → RefC r G items Gv Iv gc ic xb k p := by
 intro k
 induction k with
 | zero => exact fun _ p hn hf s far q h cs hsk hs1 hs2 hfar hq hrom hb hX hp => ref_neg (k := 0) s (by omega) far q h cs hs1 hfar hrom hb hX hp
 | succ k ih =>
   intro hk5 p hn hf s far q h cs hsk hs1 hs2 hfar hq hrom hb hX hp
   by_cases hs : s ≤ 0
   · exact ref_neg (k := 0) s hs far q h cs hs1 hfar hrom hb hX hp
   · exact ref_pos R RI hnm hfw (ih (by omega)) hn hf s (by omega) far q h cs hsk (by omega) hfar hq hrom hb hX hp
end Go.Ev.G24
end
section
set_option linter.unusedSimpArgs false
set_option linter.unusedVariables false
namespace Go.Ev.G24
open Go.RowKit Go.Proofs
variable {r : Ro} {G : List Rule} {items : List ByteArray} {Gv Iv : Option Addr} {gc ic xb : Nat}
def zeroT : Value := .agg #[.string ⟨#[]⟩, .string ⟨#[]⟩, .slice none 0 0]
def ruleP (s : ByteArray) : Part := ⟨⟨#[114, 117, 108, 101]⟩, s, []⟩
def RunV (items : List ByteArray) (rule : ByteArray) (o : Outc) (h h1 : Hp) (v : Value) : Prop := match o.1 with
 | none => v = .tuple #[zeroT, .int .i64 (o.2.2 : Int), .int .i64 5, .bool true]
 | some (ks, e) => if e < items.length then v = .tuple #[zeroT, .int .i64 ((max o.2.2 e : Nat) : Int), .int .i64 5, .bool true]
   else ∃ ks' cs, ks = [ruleT rule ks'] ∧ v = .tuple #[.agg cs.toArray, .int .i64 (items.length : Int), .int .i64 0, .bool true] ∧ TreeAt h1 (fun b => b < h.next) (fun f => f ≠ 0 ∧ f < h.nfam) (ruleT rule ks') cs
def RefParseP (G : List Rule) (items : List ByteArray) (rule : ByteArray) (h : Hp) (v : Value) (h1 : Hp) : Prop := Ext h h1 ∧
 (((rightG G = true → ∃ em, Found G em ∧ withB G em rule = false) ∧ v = .tuple #[zeroT, .int .i64 0, .int .i64 240, .bool true]) ∨
   ((rightG G = true ∧ ∃ em, Found G em ∧ withB G em rule = true) ∧ (v = .tuple #[zeroT, .int .i64 0, .int .i64 0, .bool false] ∨
     ∃ k o, run G items k (.part (ruleP rule) 0) = some o ∧ o.2.1 ≤ 20000 ∧ RunV items rule o h h1 v)))
theorem run_ruleP {k : Nat} {rule : ByteArray} {q : Nat} {o : Outc} (h : run G items k (.part (ruleP rule) q) = some o) : ∀ ks e, o.1 = some (ks, e) → ∃ ks', ks = [ruleT rule ks'] := by
 cases k with
 | zero => cases h
 | succ k =>
   have hd : (⟨#[114, 117, 108, 101]⟩ : ByteArray).data.toList = [114, 117, 108, 101] := rfl
   unfold ruleP at h
   rw [run_rule hd, Option.map_eq_some_iff] at h
   obtain ⟨⟨r, n, f⟩, _, rfl⟩ := h
   intro ks e he
   cases r with
   | none => cases he
   | some y =>
     obtain ⟨ks0, e0⟩ := y
     simp only [ruleO, Option.some.injEq, Prod.mk.injEq] at he
     exact ⟨ks0, he.1.symm⟩
theorem ro_ruleP (r : Ro) (s : ByteArray) : RoPart r (ruleP s) [.string ⟨#[114, 117, 108, 101]⟩, .string s, .slice none 0 0] :=
 .mk _ _ [] none 0 0 0 (fun _ => []) (Nat.le_refl _) (Nat.zero_le _) (fun e => absurd rfl e) (fun i p e => by simp at e) (fun i p e => by simp at e) rfl
theorem named_ruleP {s : ByteArray} (h : idxOf (nms G) s < (nms G).length) : named (nms G) (ruleP s) := by
 unfold ruleP
 rw [named]
 exact ⟨fun _ => h, fun c => by
  rcases c with c | c | c <;> exact absurd c (by decide), by rw [namedL]; trivial⟩
theorem few_ruleP (s : ByteArray) : Few (ruleP s) := .mk _ _ _ (by simp) (fun i p e => by simp at e)
set_option maxHeartbeats 4000000 in
set_option maxRecDepth 10000 in
theorem refParse_c {gb go ib io : Nat} {gcss : Nat → List Value} (R : RoRules r G Gv gc gb go gcss) (hft : fitsG G) (RI : RoItems r items Iv ic ib io) (hfw : ∀ (i : Nat) (x : Rule), G[i]? = some x → Few x.body) (rule : ByteArray) (h : Hp) (hrom : h.rom = r) (hb : h.base ≤ h.next) :
  ∃ v h1, Snd Try.prog 13 [.agg #[.slice Gv G.length gc], .string rule, .slice Iv items.length ic, .int .i64 20000] h v h1 ∧ RefParseP G items rule h v h1 := by
 refine snd_go wf Try.func13 rfl rfl (n := 73) rfl (by kernel_rfl) rfl ?_
 intro a hn hg
 have hr : Try.f13.results.toList = [.cell 8 31, .tmp 9, .tmp 10, .tmp 11] := rfl
 have g0 := hg 0
 have g1 := hg 1
 have g2 := hg 2
 have g3 := hg 3
 clear hg
 simp only [List.getElem?_cons_zero, List.getElem?_cons_succ] at g0 g1 g2 g3
 have hGl : (nms G).length = G.length := by simp [nms]
 have hG := own_new hb 24 [.slice Gv G.length gc]
 have hxg := Ext.new h (CObj.cells { c := [.slice Gv G.length gc], e := 24, fam := 0, base := 0, grown := false })
 have hbg := Nat.le_succ_of_le (m := h.next) hb
 have hZ := own_new (h := h.newH (CObj.cells { c := [.slice Gv G.length gc], e := 24, fam := 0, base := 0, grown := false })) hbg 31 [.string ⟨#[]⟩, .string ⟨#[]⟩, .slice none 0 0]
 have hG1 := own_newH hG (CObj.cells { c := [.string ⟨#[]⟩, .string ⟨#[]⟩, .slice none 0 0], e := 31, fam := 0, base := 0, grown := false })
 have hx0 := hxg.trans (Ext.new _ (CObj.cells { c := [.string ⟨#[]⟩, .string ⟨#[]⟩, .slice none 0 0], e := 31, fam := 0, base := 0, grown := false }))
 simp -dsimp only [go_sem, g0, g1, g2, g3, next_newH, loads_own hG1]
 simp only [next_newH] at hZ
 generalize (h.newH (CObj.cells { c := [.slice Gv G.length gc], e := 24, fam := 0, base := 0, grown := false })).newH (CObj.cells { c := [.string ⟨#[]⟩, .string ⟨#[]⟩, .slice none 0 0], e := 31, fam := 0, base := 0, grown := false }) = h2 at hZ hG1 hx0 ⊢
 have hb2 : h2.base ≤ h2.next := by rw [hx0.base]; exact Nat.le_trans hb hx0.next
 have hrom2 : h2.rom = r := hx0.rom.trans hrom
 have zst : ∀ {h9 : Hp}, Ext h2 h9 → ∀ x y z : Value, [x, y, z].all oneCell = true → h9.stores ⟨h.next + 1, 0, none⟩ [x, y, z] = some (h9.put (h.next + 1) (.cells ⟨[x, y, z], 31, 0, 0, false⟩)) ∧ (h9.put (h.next + 1) (.cells ⟨[x, y, z], 31, 0, 0, false⟩)).loads ⟨h.next + 1, 0, none⟩ 3 = some [x, y, z] ∧ Ext h (h9.put (h.next + 1) (.cells ⟨[x, y, z], 31, 0, 0, false⟩)) := by
  intro h9 hx9 x y z hc
  have hZ9 := own_ext hx9 hZ
  exact ⟨stores_own hZ9 hc rfl (by simp), by rw [loads_own (own_put_same hZ9 [x, y, z])]; rfl, (hx0.trans hx9).put (Nat.le_succ _) _⟩
 obtain ⟨_, h3, hs3, hx3, hv3⟩ := refFine_c R hft h2 hrom2 hb2
 refine ⟨_, h3, hs3, ?_⟩
 have bad : ∀ {h9 : Hp}, Ext h2 h9 → (rightG G = true → ∃ em, Found G em ∧ withB G em rule = false) → RefParseP G items rule h (.tuple #[zeroT, .int .i64 0, .int .i64 240, .bool true]) (h9.put (h.next + 1) (.cells ⟨[.string ⟨#[]⟩, .string ⟨#[]⟩, .slice none 0 0], 31, 0, 0, false⟩)) := by
  intro h9 hx9 hw
  exact ⟨(zst hx9 _ _ _ rfl).2.2, .inl ⟨hw, rfl⟩⟩
 by_cases hrg : rightG G = true
 rotate_left
 · rw [if_neg hrg] at hv3
   subst hv3
   obtain ⟨z1, z2, _⟩ := zst hx3 (.string ⟨#[]⟩) (.string ⟨#[]⟩) (.slice none 0 0) rfl
   simp -dsimp only [go_sem, undef', z1, z2, hr]
   exact bad hx3 (fun e => absurd e hrg)
 rw [if_pos hrg] at hv3
 obtain ⟨em, hF, rfl⟩ := hv3
 obtain ⟨hfr, hnm⟩ := rightG_named hrg
 cases hfi : fineB G em with
 | false =>
   obtain ⟨z1, z2, _⟩ := zst hx3 (.string ⟨#[]⟩) (.string ⟨#[]⟩) (.slice none 0 0) rfl
   simp -dsimp only [go_sem, undef', z1, z2, hr]
   exact bad hx3 (fun _ => ⟨em, hF, by simp [withB, hfi]⟩)
 | true =>
   have hG3 := own_ext hx3 hG1
   have hrom3 : h3.rom = r := hx3.rom.trans hrom2
   have hb3 : h3.base ≤ h3.next := by rw [hx3.base]; exact Nat.le_trans hb2 hx3.next
   obtain ⟨_, h4, hs4, rfl, hx4⟩ := find_c R rule h3 hrom3 hb3
   rw [findB_idx, Nat.zero_add] at hs4
   simp -dsimp only [go_sem, undef', g1, loads_own hG3]
   refine ⟨_, h4, hs4, ?_⟩
   have hx34 := hx3.trans hx4
   have hb4 : h4.base ≤ h4.next := by rw [hx4.base]; exact Nat.le_trans hb3 hx4.next
   by_cases hidx : idxOf (nms G) rule < (nms G).length
   rotate_left
   · have kk : decide ((-1 : Int) < 0) = true := rfl
     obtain ⟨z1, z2, _⟩ := zst hx34 (.string ⟨#[]⟩) (.string ⟨#[]⟩) (.slice none 0 0) rfl
     simp -dsimp only [go_sem, undef', if_neg hidx, kk, z1, z2, hr]
     rw [hGl] at hidx
     exact bad hx34 (fun _ => ⟨em, hF, by simp [withB, hidx]⟩)
   have kk : decide (((idxOf (nms G) rule : Nat) : Int) < 0) = false := decide_eq_false (by omega)
   have hG4 := own_ext hx34 hG1
   have hXn := own_new hb4 71 [.slice Gv G.length gc, .slice Iv items.length ic, .int .i64 0, .int .i64 20000]
   have hxX := Ext.new h4 (CObj.cells { c := [.slice Gv G.length gc, .slice Iv items.length ic, .int .i64 0, .int .i64 20000], e := 71, fam := 0, base := 0, grown := false })
   simp -dsimp only [go_sem, undef', g1, g2, g3, if_pos hidx, kk, loads_own hG4]
   generalize h4.newH (CObj.cells { c := [.slice Gv G.length gc, .slice Iv items.length ic, .int .i64 0, .int .i64 20000], e := 71, fam := 0, base := 0, grown := false }) = h5 at hXn hxX ⊢
   have hx5 := hx34.trans hxX
   have hb5 : h5.base ≤ h5.next := by rw [hxX.base]; exact Nat.le_trans hb4 hxX.next
   obtain ⟨v6, h6, hs6, far6, s6, hx6, hX6, hf6, hcase⟩ := ref_part (G := G) (items := items) (Gv := Gv) (Iv := Iv) (gc := gc) (ic := ic) (xb := h4.next) R RI hnm hfw 20001 (by decide) (ruleP rule) (named_ruleP hidx) (few_ruleP rule) 20000 0 0 h5 _ (by decide) (by decide) (by decide) (Nat.zero_le _) (Nat.zero_le _) (hx5.rom.trans hrom2) hb5 hXn (ro_ruleP r rule)
   have hs6' : Snd Try.prog 40 [.pointer (some ⟨h4.next, 0, none⟩), .agg #[.string ⟨#[114, 117, 108, 101]⟩, .string rule, .slice none 0 0], .int .i64 0] h5 v6 h6 := hs6
   refine ⟨_, h6, hs6', ?_⟩
   have hx26 : Ext h2 h6 := (hx5.toS.trans hx6).ext (fun b hb hs => by
    have : b = h4.next := hs
    have := hx34.next
    omega)
   unfold pRow at hX6
   have hW : rightG G = true ∧ ∃ em, Found G em ∧ withB G em rule = true := ⟨hrg, em, hF, by rw [hGl] at hidx; simp [withB, hfi, hidx]⟩
   rcases hcase with ⟨k6, ⟨r6, n6, f6⟩, hrun, hss, hsp6, hff, hres⟩ | ⟨hneg, hlw, A, n, c', e', rfl, hspA⟩
   · have hss : s6 = 20000 - (n6 : Int) := hss
     have hff : far6 = f6 := by
      have : far6 = max 0 f6 := hff
      omega
     subst hff
     have hge : decide (s6 < 0) = false := decide_eq_false (by omega)
     cases r6 with
     | none =>
       obtain ⟨A, n, c', e', rfl, hspA⟩ := hres
       obtain ⟨z1, z2, z3⟩ := zst hx26 (.string ⟨#[]⟩) (.string ⟨#[]⟩) (.slice none 0 0) rfl
       simp -dsimp only [go_sem, undef', load_own hX6, hge]
       refine Dw_text (n := 73) [[], [], [1], [1, 2], [1, 2, 3], [0], [0, 1, 2, 3, 4, 5], [0, 1, 2, 3, 4, 5, 6], [0, 1, 2, 3, 4, 5, 6, 7]] (by simp -dsimp only [go_sem, hn]) (by kernel_rfl) ?_
       have hX6z := own_put hX6 (d := h.next + 1) (by have := hZ.2.1; have := hx34.next; omega) (.cells ⟨[.string ⟨#[]⟩, .string ⟨#[]⟩, .slice none 0 0], 31, 0, 0, false⟩)
       simp -dsimp only [go_sem, undef', load_own hX6, load_own hX6z, z1, z2, hr]
       refine ⟨z3, .inr ⟨hW, .inr ⟨k6, _, hrun, by omega, rfl⟩⟩⟩
     | some y =>
       obtain ⟨ks, e⟩ := y
       obtain ⟨kv, rfl, hkv⟩ := hres
       have hfair := run_fair _ _ _ (show placeT (.part (ruleP rule) 0) ≤ items.length from Nat.zero_le _) hrun
       obtain ⟨ks', rfl⟩ := run_ruleP hrun _ _ rfl
       have hen : e ≤ items.length := hfair.2.1
       have hst7 := stores_own hX6 (o := 2) (vs := [.int .i64 ((max far6 e : Nat) : Int)]) (c1 := [.slice Gv G.length gc, .slice Iv items.length ic, .int .i64 ((max far6 e : Nat) : Int), .int .i64 s6]) rfl rfl (by simp)
       have hX7 := own_put_same hX6 [.slice Gv G.length gc, .slice Iv items.length ic, .int .i64 ((max far6 e : Nat) : Int), .int .i64 s6]
       have hx7 := hx26.put (b := h4.next) hx34.next (.cells ⟨[.slice Gv G.length gc, .slice Iv items.length ic, .int .i64 ((max far6 e : Nat) : Int), .int .i64 s6], 71, 0, 0, false⟩)
       have hkeep7 : Keeps (fun _ => False) (fun _ => False) h6 (h6.put h4.next (.cells ⟨[.slice Gv G.length gc, .slice Iv items.length ic, .int .i64 ((max far6 e : Nat) : Int), .int .i64 s6], 71, 0, 0, false⟩)) := keepsN (S := Only h4.next) (((Ext.refl h6).toS (S := Only h4.next)).put (b := h4.next) (.inr rfl) _) (noRow_own hX6 (by decide))
       simp -dsimp only [go_sem, undef', load_own hX6, hge, max_int, hst7]
       generalize (h6.put h4.next (.cells ⟨[.slice Gv G.length gc, .slice Iv items.length ic, .int .i64 ((max far6 e : Nat) : Int), .int .i64 s6], 71, 0, 0, false⟩)) = h7 at hX7 hx7 hkeep7 ⊢
       have hkv7 := hkv.keep hkeep7.any
       by_cases hel : e < items.length
       · have k9 : decide ((e : Int) < (items.length : Int)) = true := decide_eq_true (by omega)
         obtain ⟨z1, z2, z3⟩ := zst hx7 (.string ⟨#[]⟩) (.string ⟨#[]⟩) (.slice none 0 0) rfl
         simp -dsimp only [go_sem, undef', g2, k9]
         refine Dw_text (n := 73) [[], [], [1], [1, 2], [1, 2, 3], [0], [0, 1, 2, 3, 4, 5], [0, 1, 2, 3, 4, 5, 6], [0, 1, 2, 3, 4, 5, 6, 7]] (by simp -dsimp only [go_sem, hn]) (by kernel_rfl) ?_
         have hX7z := own_put hX7 (d := h.next + 1) (by have := hZ.2.1; have := hx34.next; omega) (.cells ⟨[.string ⟨#[]⟩, .string ⟨#[]⟩, .slice none 0 0], 31, 0, 0, false⟩)
         simp -dsimp only [go_sem, undef', load_own hX7, load_own hX7z, z1, z2, hr]
         refine ⟨z3, .inr ⟨hW, .inr ⟨k6, _, hrun, by omega, ?_⟩⟩⟩
         show if e < items.length then _ else _
         rw [if_pos hel]
         rfl
       · have k9 : decide ((e : Int) < (items.length : Int)) = false := decide_eq_false (by omega)
         obtain ⟨A9, c9, b9, o9, f9, row9, css9, rfl, hc9, hs9, hA9, hat9, hk9⟩ := hkv7
         obtain ⟨rfl, hrow9, _, _⟩ := hA9 (by simp)
         have hat0 := hat9 0 (ruleT rule ks') rfl
         have hk0 := hk9 0 (ruleT rule ks') rfl
         rw [Nat.zero_mul, Nat.add_zero] at hat0
         obtain ⟨kv0, hcs0, hkv0⟩ := hk0.kids
         rw [hcs0] at hat0
         obtain ⟨A0, c0, rfl, hsp0⟩ := hkv0.slice
         have hix : indexAddr' Try.prog 29 (.slice (some ⟨b9, o9, none⟩) 1 c9) (.int .i64 0) = some (.pointer (some ⟨b9, o9, none⟩)) := by
          have := ia29 (b := b9) (o := o9) (c := c9) (n := 1) (i := 0) (by decide)
          simpa using this
         have hld9 : h7.loads ⟨b9, o9, none⟩ 3 = some [.string (ruleT rule ks').d, .string (ruleT rule ks').t, .slice A0 (ruleT rule ks').l.length c0] := by rw [row_loads hrow9, hat0]
         obtain ⟨z1, z2, z3⟩ := zst hx7 (.string (ruleT rule ks').d) (.string (ruleT rule ks').t) (.slice A0 (ruleT rule ks').l.length c0) rfl
         simp -dsimp only [go_sem, undef', g2, k9, hix, hld9, z1, z2, hr, List.length_cons, List.length_nil]
         refine ⟨z3, .inr ⟨hW, .inr ⟨k6, _, hrun, by omega, ?_⟩⟩⟩
         show if e < items.length then _ else _
         rw [if_neg hel]
         refine ⟨ks', _, rfl, rfl, ?_⟩
         have hT := (hkv0.tree (d := (ruleT rule ks').d) (t := (ruleT rule ks').t))
         refine (hT.more (B' := fun b => b < h2.next) (F' := fun f => f ≠ 0 ∧ f < h2.nfam) (fun b _ c => Nat.lt_of_lt_of_le c hx5.next) (fun f c => .inl ⟨c.1, Nat.lt_of_lt_of_le c.2 hx5.nfam⟩)).keep ?_ |>.more (fun b _ c => Nat.lt_of_lt_of_le c hx0.next) (fun f c => .inl ⟨c.1, Nat.lt_of_lt_of_le c.2 hx0.nfam⟩)
         exact (keepsS (S := fun b => b < h2.next) (((Ext.refl h7).toS (S := fun b => b < h2.next)).put (b := h.next + 1) (.inr hZ.2.1) _)).mono (fun _ _ c => c) (fun _ _ _ c => c.elim) (fun c => c)
   · have hge : decide (s6 < 0) = true := decide_eq_true hneg
     obtain ⟨z1, z2, z3⟩ := zst hx26 (.string ⟨#[]⟩) (.string ⟨#[]⟩) (.slice none 0 0) rfl
     simp -dsimp only [go_sem, undef', load_own hX6, hge, z1, z2, hr]
     exact ⟨z3, .inr ⟨hW, .inl rfl⟩⟩
end Go.Ev.G24
end
section
set_option linter.unusedSimpArgs false
set_option linter.unusedVariables false
namespace Go.Ev.G24
open Go.RowKit Go.Proofs
variable {r : Ro} {G : List Rule} {items : List ByteArray} {Gv Iv : Option Addr} {gc ic : Nat}
def farO (o : Outc) : Nat := match o.1 with
 | some (_, e) => max o.2.2 e
 | none => o.2.2
def WholeP (G : List Rule) (items : List ByteArray) (rule : ByteArray) (h : Hp) (v : Value) (h1 : Hp) : Prop := Ext h h1 ∧
 ((v = .tuple #[.agg #[.bool false, .int .i64 0, .slice none 0 0], .int .i64 0, .bool false] ∧ (rightG G = true → ∃ em, Found G em ∧ withB G em rule = false)) ∨
   ((rightG G = true ∧ ∃ em, Found G em ∧ withB G em rule = true) ∧ ∃ k o x y z, run G items k (.part (ruleP rule) 0) = some o ∧ v = .tuple #[.agg #[x, y, z], .int .i64 (farO o : Int), .bool true] ∧ OutV h1 (fun b => b < h.next) (fun f => f ≠ 0 ∧ f < h.nfam) o.1 (.agg #[x, y, z])))
set_option maxHeartbeats 8000000 in
set_option maxRecDepth 10000 in
theorem whole_c {gb go ib io : Nat} {gcss : Nat → List Value} (R : RoRules r G Gv gc gb go gcss) (hft : fitsG G) (RI : RoItems r items Iv ic ib io) (hfw : ∀ (i : Nat) (x : Rule), G[i]? = some x → Few x.body) (rule : ByteArray)
  (hrun : rightG G = true → ∀ em, Found G em → withB G em rule = true → ∃ k o, run G items k (.part (ruleP rule) 0) = some o ∧ o.2.1 ≤ 50000) (h : Hp) (hrom : h.rom = r) (hb : h.base ≤ h.next) :
  ∃ v h1, Snd Try.prog 41 [.agg #[.slice Gv G.length gc], .string rule, .slice Iv items.length ic] h v h1 ∧ WholeP G items rule h v h1 := by
 refine snd_go wf Try.func41 rfl rfl (n := 40) rfl (by kernel_rfl) rfl ?_
 intro a hn hg
 have hr : Try.f41.results.toList = [.cell 6 75, .tmp 7, .tmp 8] := rfl
 have g0 := hg 0
 have g1 := hg 1
 have g2 := hg 2
 clear hg
 simp only [List.getElem?_cons_zero, List.getElem?_cons_succ] at g0 g1 g2
 have hGl : (nms G).length = G.length := by simp [nms]
 have hG := own_new hb 24 [.slice Gv G.length gc]
 have hxg := Ext.new h (CObj.cells { c := [.slice Gv G.length gc], e := 24, fam := 0, base := 0, grown := false })
 have hbg := Nat.le_succ_of_le (m := h.next) hb
 have hZ := own_new (h := h.newH (CObj.cells { c := [.slice Gv G.length gc], e := 24, fam := 0, base := 0, grown := false })) hbg 75 [.bool false, .int .i64 0, .slice none 0 0]
 have hG1 := own_newH hG (CObj.cells { c := [.bool false, .int .i64 0, .slice none 0 0], e := 75, fam := 0, base := 0, grown := false })
 have hx0 := hxg.trans (Ext.new _ (CObj.cells { c := [.bool false, .int .i64 0, .slice none 0 0], e := 75, fam := 0, base := 0, grown := false }))
 simp -dsimp only [go_sem, g0, g1, g2, next_newH, loads_own hG1]
 simp only [next_newH] at hZ
 generalize (h.newH (CObj.cells { c := [.slice Gv G.length gc], e := 24, fam := 0, base := 0, grown := false })).newH (CObj.cells { c := [.bool false, .int .i64 0, .slice none 0 0], e := 75, fam := 0, base := 0, grown := false }) = h2 at hZ hG1 hx0 ⊢
 have hb2 : h2.base ≤ h2.next := by rw [hx0.base]; exact Nat.le_trans hb hx0.next
 have hrom2 : h2.rom = r := hx0.rom.trans hrom
 obtain ⟨_, h3, hs3, hx3, hcase⟩ := with_c R hft rule h2 hrom2 hb2
 refine ⟨_, h3, hs3, ?_⟩
 have hb3 : h3.base ≤ h3.next := by rw [hx3.base]; exact Nat.le_trans hb2 hx3.next
 rcases hcase with ⟨rfl, hbad⟩ | ⟨hrg, bk, m, eb, em, rfl, l1, l2, l3, hBk, hF, hW⟩
 · obtain ⟨vS, vO, vX, vB, vR⟩ := var_ok hb3 (e := 52) (c0 := [.string ⟨#[]⟩, .string ⟨#[]⟩, .slice none 0 0]) (c1 := [.string ⟨#[]⟩, .string ⟨#[]⟩, .slice none 0 0]) rfl rfl (by simp)
   have hZ4 := own_ext (hx3.trans vX) hZ
   have hzs := stores_own hZ4 (o := 0) (vs := [.bool false, .int .i64 0, .slice none 0 0]) (c1 := [.bool false, .int .i64 0, .slice none 0 0]) rfl rfl (by simp)
   have hZ5 := own_put_same hZ4 [.bool false, .int .i64 0, .slice none 0 0]
   simp -dsimp only [go_sem, vS, hzs, loads_own hZ5, hr]
   exact ⟨(hx0.trans (hx3.trans vX)).put (Nat.le_succ _) _, .inl ⟨rfl, hbad⟩⟩
 · obtain ⟨k9, o9, hrk, hno⟩ := hrun hrg em hF hW
   obtain ⟨hfr, hnm⟩ := rightG_named hrg
   obtain ⟨vS, vO, vX, vB, vR⟩ := var_ok hb3 (e := 52) (c0 := [.string ⟨#[]⟩, .string ⟨#[]⟩, .slice none 0 0]) (c1 := [.string ⟨#[114, 117, 108, 101]⟩, .string rule, .slice none 0 0]) rfl rfl (by simp)
   simp -dsimp only [go_sem, vS]
   generalize h3.var 52 [.string ⟨#[]⟩, .string ⟨#[]⟩, .slice none 0 0] [.string ⟨#[114, 117, 108, 101]⟩, .string rule, .slice none 0 0] = h4 at vS vO vX vB vR ⊢
   have hx4 := hx3.trans vX
   have hM5 : (h4.newH (.map [] 0)).objs.get h4.next = some (.map [] 0) := by rw [get_newH, if_pos rfl]
   have hx5 := Ext.new h4 (.map [] 0)
   have hb5 := Nat.le_succ_of_le vB
   have hXn := own_new (h := h4.newH (.map [] 0)) hb5 128 [.pointer (some ⟨bk, 0, none⟩), .slice Iv items.length ic, .map (some h4.next), .int .i64 0]
   have hx6 := Ext.new (h4.newH (.map [] 0)) (CObj.cells { c := [.pointer (some ⟨bk, 0, none⟩), .slice Iv items.length ic, .map (some h4.next), .int .i64 0], e := 128, fam := 0, base := 0, grown := false })
   simp -dsimp only [go_sem, g2, next_newH]
   simp only [next_newH] at hXn
   have hM6 : ((h4.newH (.map [] 0)).newH (CObj.cells { c := [.pointer (some ⟨bk, 0, none⟩), .slice Iv items.length ic, .map (some h4.next), .int .i64 0], e := 128, fam := 0, base := 0, grown := false })).objs.get h4.next = some (.map [] 0) := by
    rw [get_newH, if_neg (by show h4.next ≠ h4.next + 1; omega)]
    exact hM5
   have hn6 : h4.next + 1 + 1 = ((h4.newH (.map [] 0)).newH (CObj.cells { c := [.pointer (some ⟨bk, 0, none⟩), .slice Iv items.length ic, .map (some h4.next), .int .i64 0], e := 128, fam := 0, base := 0, grown := false })).next := rfl
   have hP6 := own_ext (hx5.trans hx6) vO
   simp -dsimp only [go_sem, loads_own hP6]
   generalize ((h4.newH (.map [] 0)).newH (CObj.cells { c := [.pointer (some ⟨bk, 0, none⟩), .slice Iv items.length ic, .map (some h4.next), .int .i64 0], e := 128, fam := 0, base := 0, grown := false })) = h6 at hXn hM6 hn6 hP6 hx6 ⊢
   have hx46 := hx5.trans hx6
   have hx26 := hx4.trans hx46
   have hx06 := hx0.trans hx26
   have hb6 : h6.base ≤ h6.next := by rw [hx06.base]; exact Nat.le_trans hb hx06.next
   have hidx : idxOf (nms G) rule < (nms G).length := by
    have := hW
    unfold withB at this
    rw [Bool.and_eq_true] at this
    rw [hGl]
    exact of_decide_eq_true this.2
   have hmm : m ≠ h4.next := by
    have := hBk.map.1
    have := vX.next
    omega
   have hMe : MemoOk G items h6 (fun b => b < h.next) (fun f => f ≠ 0 ∧ f < h.nfam) 0 h4.next [] := ⟨⟨by omega, [], 0, hM6, rfl⟩, fun e he => by simp at he⟩
   obtain ⟨v7, h7, hs7, memo7, hx7, hX7, hM7, hV7⟩ := take_c R RI hnm hfw hmm k9 (ruleP rule) (named_ruleP hidx) (few_ruleP rule) (fun b => b < h.next) (fun f => f ≠ 0 ∧ f < h.nfam) 0 0 h6 _ [] o9 ⟨fun b c => Nat.lt_of_lt_of_le c hx06.next, fun f c => ⟨c.1, Nat.lt_of_lt_of_le c.2 hx06.nfam⟩⟩ (Nat.zero_le _) (Nat.zero_le _) (hx06.rom.trans hrom) hb6 hXn hMe ((hBk.ext vX).ext hx46) (ro_ruleP r rule) hrk hno
   have hs7' : Snd Try.prog 70 [.pointer (some ⟨h4.next + 1, 0, none⟩), .agg #[.string ⟨#[114, 117, 108, 101]⟩, .string rule, .slice none 0 0], .int .i64 0] h6 v7 h7 := hs7
   refine ⟨_, h7, hs7', ?_⟩
   obtain ⟨e7, A7, n7, c7, hv7, hsp7⟩ := hV7.shape
   subst hv7
   have hx27 : Ext h2 h7 := (hx26.toS.trans hx7).ext (fun b hb hs => by
    have h1 : h2.next ≤ h4.next := hx4.next
    rcases hs with c | c <;> omega)
   have hb7 : h7.base ≤ h7.next := by rw [hx27.base]; exact Nat.le_trans hb2 hx27.next
   obtain ⟨wS, wO, wX, wB, wR⟩ := var_ok hb7 (e := 75) (c0 := [.bool false, .int .i64 0, .slice none 0 0]) (c1 := [.bool o9.1.isSome, .int .i64 e7, .slice A7 n7 c7]) rfl rfl (by simp)
   simp -dsimp only [go_sem, wS]
   have hX8 := own_ext wX hX7
   unfold runRow at hX8
   have hZ8 := own_ext (hx27.trans wX) hZ
   have hV8 := hV7.keep (keepsE wX).any
   have hxz : h.next + 1 ≠ h7.next := by have := hZ8.2.1; have := hZ.2.1; have := hx27.next; omega
   have hxb8 : h4.next + 1 ≠ h.next + 1 := by have := hZ.2.1; have := hx4.next; omega
   have hx08 : Ext h2 _ := hx27.trans wX
   generalize h7.var 75 [.bool false, .int .i64 0, .slice none 0 0] [.bool o9.1.isSome, .int .i64 e7, .slice A7 n7 c7] = h8 at wS wO wX wB wR hX8 hZ8 hV8 hx08 ⊢
   have hzs := stores_own hZ8 (o := 0) (vs := [.bool o9.1.isSome, .int .i64 e7, .slice A7 n7 c7]) (c1 := [.bool o9.1.isSome, .int .i64 e7, .slice A7 n7 c7]) rfl rfl (by simp)
   have hZ9 := own_put_same hZ8 [.bool o9.1.isSome, .int .i64 e7, .slice A7 n7 c7]
   have hX9 := own_put hX8 hxb8 (.cells ⟨[.bool o9.1.isSome, .int .i64 e7, .slice A7 n7 c7], 75, 0, 0, false⟩)
   have wO9 := own_put wO (d := h.next + 1) hxz.symm (.cells ⟨[.bool o9.1.isSome, .int .i64 e7, .slice A7 n7 c7], 75, 0, 0, false⟩)
   refine Dw_text (n := 40) [[], [], [1], [1, 2], [1, 2, 3], [], [5], [1, 2, 3, 4, 5, 6], [0], [0, 1, 2, 3, 4, 5, 6, 7, 8], [0, 1, 2, 3, 4, 5, 6, 7, 8, 9]] (by simp -dsimp only [go_sem, hn]) (by kernel_rfl) ?_
   have he7 : ∃ e : Nat, e7 = (e : Int) ∧ max o9.2.2 e = farO o9 := by
    cases ho : o9.1 with
    | none =>
      rw [ho] at hV7
      have hV7 : Value.agg #[.bool false, .int .i64 e7, .slice A7 n7 c7] = .agg #[.bool false, .int .i64 0, .slice none 0 0] := hV7
      injection hV7 with h1
      have := congrArg Array.toList h1
      simp only [List.cons.injEq, Value.int.injEq] at this
      exact ⟨0, this.2.1.2, by unfold farO; rw [ho]; simp⟩
    | some y =>
      obtain ⟨ks, e⟩ := y
      rw [ho] at hV7
      obtain ⟨kv, h1, h2⟩ := hV7
      injection h1 with h1
      have := congrArg Array.toList h1
      simp only [List.cons.injEq, Value.int.injEq] at this
      exact ⟨e, this.2.1.2, by unfold farO; rw [ho]⟩
   obtain ⟨e, rfl, hfe⟩ := he7
   simp -dsimp only [go_sem, loads_own wO, load_own wO, load_own wO9, load_own hX8, load_own hX9, max_int, Nat.zero_max, hzs, sameN_sliceA hsp7, loads_own hZ9, hr]
   have xz : ExtS (Only (h.next + 1)) h8 (h8.put (h.next + 1) (.cells ⟨[.bool o9.1.isSome, .int .i64 (e : Int), .slice A7 n7 c7], 75, 0, 0, false⟩)) := ((Ext.refl h8).toS (S := Only (h.next + 1))).put (b := h.next + 1) (.inr rfl) _
   refine ⟨(hx0.trans hx08).put (Nat.le_succ _) _, .inr ⟨⟨hrg, em, hF, hW⟩, k9, o9, _, _, _, hrk, by rw [hfe], hV8.keep (keepsN xz (noRow_own hZ8 (by decide))).any⟩⟩
end Go.Ev.G24
end
section
set_option linter.unusedSimpArgs false
set_option linter.unusedVariables false
namespace Go.Ev.G24
open Go.RowKit Go.Proofs
variable {r : Ro} {G : List Rule} {items : List ByteArray} {Gv Iv : Option Addr} {gc ic : Nat}
def ParseV (items : List ByteArray) (rule : ByteArray) (o : Outc) (h1 : Hp) (v : Value) : Prop := match o.1 with
 | none => v = .tuple #[zeroT, .int .i64 5]
 | some (ks, e) => if e < items.length then v = .tuple #[zeroT, .int .i64 5]
   else ∃ ks' cs, ks = [ruleT rule ks'] ∧ v = .tuple #[.agg cs.toArray, .int .i64 0] ∧ TreeAt h1 (fun _ => False) (fun _ => False) (ruleT rule ks') cs
def ParseP (G : List Rule) (items : List ByteArray) (rule : ByteArray) (h : Hp) (v : Value) (h1 : Hp) : Prop := Ext h h1 ∧
 ((v = .tuple #[zeroT, .int .i64 240] ∧ (rightG G = true → ∃ em, Found G em ∧ withB G em rule = false)) ∨
   ((rightG G = true ∧ ∃ em, Found G em ∧ withB G em rule = true) ∧ ∃ k o, run G items k (.part (ruleP rule) 0) = some o ∧ ParseV items rule o h1 v))
def farV (items : List ByteArray) (o : Outc) : Nat := match o.1 with
 | some (_, e) => if e = items.length then items.length else farO o
 | none => farO o
def FarP (G : List Rule) (items : List ByteArray) (rule : ByteArray) (h : Hp) (v : Value) (h1 : Hp) : Prop := Ext h h1 ∧
 ((v = .tuple #[.int .i64 0, .int .i64 240] ∧ (rightG G = true → ∃ em, Found G em ∧ withB G em rule = false)) ∨
   ((rightG G = true ∧ ∃ em, Found G em ∧ withB G em rule = true) ∧ ∃ k o, run G items k (.part (ruleP rule) 0) = some o ∧ v = .tuple #[.int .i64 (farV items o : Int), .int .i64 0]))
set_option maxHeartbeats 8000000 in
set_option maxRecDepth 10000 in
theorem parse_c {gb go ib io : Nat} {gcss : Nat → List Value} (R : RoRules r G Gv gc gb go gcss) (hft : fitsG G) (RI : RoItems r items Iv ic ib io) (hfw : ∀ (i : Nat) (x : Rule), G[i]? = some x → Few x.body) (rule : ByteArray)
  (hrun : rightG G = true → ∀ em, Found G em → withB G em rule = true → ∃ k o, run G items k (.part (ruleP rule) 0) = some o ∧ o.2.1 ≤ 50000) (h : Hp) (hrom : h.rom = r) (hb : h.base ≤ h.next) :
  ∃ v h1, Snd Try.prog 14 [.agg #[.slice Gv G.length gc], .string rule, .slice Iv items.length ic] h v h1 ∧ ParseP G items rule h v h1 := by
 refine snd_go wf Try.func14 rfl rfl (n := 38) rfl (by kernel_rfl) rfl ?_
 intro a hn hg
 have hr : Try.f14.results.toList = [.cell 6 31, .tmp 7] := rfl
 have g0 := hg 0
 have g1 := hg 1
 have g2 := hg 2
 clear hg
 simp only [List.getElem?_cons_zero, List.getElem?_cons_succ] at g0 g1 g2
 have hG := own_new hb 24 [.slice Gv G.length gc]
 have hxg := Ext.new h (CObj.cells { c := [.slice Gv G.length gc], e := 24, fam := 0, base := 0, grown := false })
 have hbg := Nat.le_succ_of_le (m := h.next) hb
 have hZ := own_new (h := h.newH (CObj.cells { c := [.slice Gv G.length gc], e := 24, fam := 0, base := 0, grown := false })) hbg 31 [.string ⟨#[]⟩, .string ⟨#[]⟩, .slice none 0 0]
 have hG1 := own_newH hG (CObj.cells { c := [.string ⟨#[]⟩, .string ⟨#[]⟩, .slice none 0 0], e := 31, fam := 0, base := 0, grown := false })
 have hx0 := hxg.trans (Ext.new _ (CObj.cells { c := [.string ⟨#[]⟩, .string ⟨#[]⟩, .slice none 0 0], e := 31, fam := 0, base := 0, grown := false }))
 simp -dsimp only [go_sem, g0, g1, g2, next_newH, loads_own hG1]
 simp only [next_newH] at hZ
 generalize (h.newH (CObj.cells { c := [.slice Gv G.length gc], e := 24, fam := 0, base := 0, grown := false })).newH (CObj.cells { c := [.string ⟨#[]⟩, .string ⟨#[]⟩, .slice none 0 0], e := 31, fam := 0, base := 0, grown := false }) = h2 at hZ hG1 hx0 ⊢
 have hb2 : h2.base ≤ h2.next := by rw [hx0.base]; exact Nat.le_trans hb hx0.next
 have zst : ∀ {h9 : Hp}, Ext h2 h9 → ∀ x y z : Value, [x, y, z].all oneCell = true → h9.stores ⟨h.next + 1, 0, none⟩ [x, y, z] = some (h9.put (h.next + 1) (.cells ⟨[x, y, z], 31, 0, 0, false⟩)) ∧ (h9.put (h.next + 1) (.cells ⟨[x, y, z], 31, 0, 0, false⟩)).loads ⟨h.next + 1, 0, none⟩ 3 = some [x, y, z] ∧ Ext h (h9.put (h.next + 1) (.cells ⟨[x, y, z], 31, 0, 0, false⟩)) := by
  intro h9 hx9 x y z hc
  have hZ9 := own_ext hx9 hZ
  exact ⟨stores_own hZ9 hc rfl (by simp), by rw [loads_own (own_put_same hZ9 [x, y, z])]; rfl, (hx0.trans hx9).put (Nat.le_succ _) _⟩
 obtain ⟨_, h3, hs3, hx3, hcase⟩ := whole_c R hft RI hfw rule hrun h2 (hx0.rom.trans hrom) hb2
 refine ⟨_, h3, hs3, ?_⟩
 have hb3 : h3.base ≤ h3.next := by rw [hx3.base]; exact Nat.le_trans hb2 hx3.next
 rcases hcase with ⟨rfl, hbad⟩ | ⟨hW, k9, o9, x, y, z, hrk, rfl, hV⟩
 · obtain ⟨vS, vO, vX, vB, vR⟩ := var_ok hb3 (e := 75) (c0 := [.bool false, .int .i64 0, .slice none 0 0]) (c1 := [.bool false, .int .i64 0, .slice none 0 0]) rfl rfl (by simp)
   obtain ⟨z1, z2, z3⟩ := zst (hx3.trans vX) (.string ⟨#[]⟩) (.string ⟨#[]⟩) (.slice none 0 0) rfl
   simp -dsimp only [go_sem, vS, z1, z2, hr]
   exact ⟨z3, .inl ⟨rfl, hbad⟩⟩
 · obtain ⟨e7, A7, n7, c7, hv7, hsp7⟩ := hV.shape
   injection hv7 with hv7
   have hv8 := congrArg Array.toList hv7
   simp only [List.cons.injEq] at hv8
   obtain ⟨rfl, rfl, rfl, _⟩ := hv8
   obtain ⟨vS, vO, vX, vB, vR⟩ := var_ok hb3 (e := 75) (c0 := [.bool false, .int .i64 0, .slice none 0 0]) (c1 := [.bool o9.1.isSome, .int .i64 e7, .slice A7 n7 c7]) rfl rfl (by simp)
   have hx4 := hx3.trans vX
   cases ho : o9.1 with
   | none =>
     obtain ⟨z1, z2, z3⟩ := zst hx4 (.string ⟨#[]⟩) (.string ⟨#[]⟩) (.slice none 0 0) rfl
     rw [ho] at vS vO z1 z2 z3
     simp only [Option.isSome_none] at vS vO z1 z2 z3
     simp -dsimp only [go_sem, undef', Option.isSome_none, vS, load_own vO, z1, z2, hr]
     refine ⟨z3, .inr ⟨hW, k9, o9, hrk, ?_⟩⟩
     unfold ParseV
     rw [ho]
     rfl
   | some w =>
     obtain ⟨ks, e⟩ := w
     have hV' := hV
     rw [ho] at hV'
     obtain ⟨kv, hv1, hkv⟩ := hV'
     injection hv1 with hv1
     have hv2 := congrArg Array.toList hv1
     simp only [List.cons.injEq, Value.int.injEq] at hv2
     obtain ⟨_, ⟨_, rfl⟩, hkv0, _⟩ := hv2
     subst hkv0
     obtain ⟨ks', hks⟩ := run_ruleP hrk _ _ ho
     subst hks
     by_cases hel : e < items.length
     · have k9' : decide ((e : Int) < (items.length : Int)) = true := decide_eq_true (by omega)
       obtain ⟨z1, z2, z3⟩ := zst hx4 (.string ⟨#[]⟩) (.string ⟨#[]⟩) (.slice none 0 0) rfl
       rw [ho] at vS vO z1 z2 z3
       simp only [Option.isSome_some] at vS vO z1 z2 z3
       simp -dsimp only [go_sem, undef', Option.isSome_some, vS, load_own vO, g2, k9', z1, z2, hr]
       refine ⟨z3, .inr ⟨hW, k9, o9, hrk, ?_⟩⟩
       unfold ParseV
       rw [ho]
       show if e < items.length then _ else _
       rw [if_pos hel]
       rfl
     · have k9' : decide ((e : Int) < (items.length : Int)) = false := decide_eq_false (by omega)
       rw [ho] at vS vO hx4 vX vB vR
       simp only [Option.isSome_some, show [ruleT rule ks'].length = 1 from rfl] at vS vO hx4 vX vB vR hkv
       have hkv4 := hkv.keep (keepsE vX).any
       obtain ⟨A9, c9, b9, o0, f9, row9, css9, hve, hc9, hs9, hA9, hat9, hk9⟩ := hkv4
       injection hve with hve1 hve2 hve3
       have hve2 : n7 = 1 := hve2
       subst hve1 hve2 hve3
       obtain ⟨rfl, hrow9, _, _⟩ := hA9 (by simp)
       have hat0 := hat9 0 (ruleT rule ks') rfl
       have hk0 := hk9 0 (ruleT rule ks') rfl
       rw [Nat.zero_mul, Nat.add_zero] at hat0
       obtain ⟨kv0, hcs0, hkv0⟩ := hk0.kids
       rw [hcs0] at hat0 hk0
       obtain ⟨A0, c0, rfl, hsp0⟩ := hkv0.slice
       have hix : ∀ cc : Nat, indexAddr' Try.prog 29 (.slice (some ⟨b9, o0, none⟩) 1 cc) (.int .i64 0) = some (.pointer (some ⟨b9, o0, none⟩)) := by
        intro cc
        have := ia29 (b := b9) (o := o0) (c := cc) (n := 1) (i := 0) (by decide)
        simpa using this
       have hld9 := row_loads (o := o0) (n := 3) hrow9
       rw [hat0] at hld9
       obtain ⟨hrg, em, hF, hWb⟩ := hW
       obtain ⟨k', o', hr', hn'⟩ := hrun hrg em hF hWb
       have hoo : o9 = o' := run_det hrk hr'
       have hfair := run_fair _ _ _ (show placeT (.part (ruleP rule) 0) ≤ items.length from Nat.zero_le _) hrk
       unfold Fair at hfair
       rw [ho] at hfair
       obtain ⟨_, _, hfk⟩ := hfair
       obtain ⟨_, hfew⟩ := hfk (by rw [hoo]; simp only [accT, List.length_nil]; omega) (fun p hp => by simp [accT] at hp)
       obtain ⟨_, h5, hs5, hx5, cs1, rfl, ht5⟩ := copied_c _ (ruleT rule ks') (Nat.lt_succ_self _) (hfew _ (by simp)) _ _ vB (hk0.more (fun b _ c => c.elim) (fun f c => c.elim))
       obtain ⟨kv1, hcs1, hkv1⟩ := ht5.kids
       subst hcs1
       obtain ⟨A1, c1, rfl, hsp1⟩ := hkv1.slice
       obtain ⟨z1, z2, z3⟩ := zst (hx4.trans hx5) (.string (ruleT rule ks').d) (.string (ruleT rule ks').t) (.slice A1 (ruleT rule ks').l.length c1) rfl
       simp -dsimp only [go_sem, undef', Option.isSome_some, vS, load_own vO, g2, k9', hix, hld9]
       refine ⟨_, h5, hs5, ?_⟩
       simp -dsimp only [go_sem, z1, z2, hr]
       refine ⟨z3, .inr ⟨⟨hrg, em, hF, hWb⟩, k9, o9, hrk, ?_⟩⟩
       unfold ParseV
       rw [ho]
       show if e < items.length then _ else _
       rw [if_neg hel]
       refine ⟨ks', _, rfl, rfl, ?_⟩
       have hzlt := Nat.lt_of_lt_of_le hZ.2.1 hx4.next
       exact (ht5.keep ((keepsS (S := Only (h.next + 1)) (((Ext.refl h5).toS (S := Only (h.next + 1))).put (b := h.next + 1) (.inr rfl) _)).mono (fun b _ c => by have c' : b = h.next + 1 := c; rw [c']; exact hzlt) (fun _ _ _ c => c.elim) (fun c => c))).more (fun b _ c => c.elim) (fun f c => c.elim)
set_option maxHeartbeats 8000000 in
set_option maxRecDepth 10000 in
theorem far_c {gb go ib io : Nat} {gcss : Nat → List Value} (R : RoRules r G Gv gc gb go gcss) (hft : fitsG G) (RI : RoItems r items Iv ic ib io) (hfw : ∀ (i : Nat) (x : Rule), G[i]? = some x → Few x.body) (rule : ByteArray)
  (hrun : rightG G = true → ∀ em, Found G em → withB G em rule = true → ∃ k o, run G items k (.part (ruleP rule) 0) = some o ∧ o.2.1 ≤ 50000) (h : Hp) (hrom : h.rom = r) (hb : h.base ≤ h.next) :
  ∃ v h1, Snd Try.prog 15 [.agg #[.slice Gv G.length gc], .string rule, .slice Iv items.length ic] h v h1 ∧ FarP G items rule h v h1 := by
 refine snd_go wf Try.func15 rfl rfl (n := 33) rfl (by kernel_rfl) rfl ?_
 intro a hn hg
 have hr : Try.f15.results.toList = [.tmp 6, .tmp 7] := rfl
 have g0 := hg 0
 have g1 := hg 1
 have g2 := hg 2
 clear hg
 simp only [List.getElem?_cons_zero, List.getElem?_cons_succ] at g0 g1 g2
 have hG := own_new hb 24 [.slice Gv G.length gc]
 have hx0 := Ext.new h (CObj.cells { c := [.slice Gv G.length gc], e := 24, fam := 0, base := 0, grown := false })
 simp -dsimp only [go_sem, g0, g1, g2, next_newH, loads_own hG]
 generalize (h.newH (CObj.cells { c := [.slice Gv G.length gc], e := 24, fam := 0, base := 0, grown := false })) = h2 at hG hx0 ⊢
 have hb2 : h2.base ≤ h2.next := by rw [hx0.base]; exact Nat.le_trans hb hx0.next
 obtain ⟨_, h3, hs3, hx3, hcase⟩ := whole_c R hft RI hfw rule hrun h2 (hx0.rom.trans hrom) hb2
 refine ⟨_, h3, hs3, ?_⟩
 have hb3 : h3.base ≤ h3.next := by rw [hx3.base]; exact Nat.le_trans hb2 hx3.next
 rcases hcase with ⟨rfl, hbad⟩ | ⟨hW, k9, o9, x, y, z, hrk, rfl, hV⟩
 · obtain ⟨vS, vO, vX, vB, vR⟩ := var_ok hb3 (e := 75) (c0 := [.bool false, .int .i64 0, .slice none 0 0]) (c1 := [.bool false, .int .i64 0, .slice none 0 0]) rfl rfl (by simp)
   simp -dsimp only [go_sem, vS, hr]
   exact ⟨hx0.trans (hx3.trans vX), .inl ⟨rfl, hbad⟩⟩
 · obtain ⟨e7, A7, n7, c7, hv7, hsp7⟩ := hV.shape
   injection hv7 with hv7
   have hv8 := congrArg Array.toList hv7
   simp only [List.cons.injEq] at hv8
   obtain ⟨rfl, rfl, rfl, _⟩ := hv8
   obtain ⟨vS, vO, vX, vB, vR⟩ := var_ok hb3 (e := 75) (c0 := [.bool false, .int .i64 0, .slice none 0 0]) (c1 := [.bool o9.1.isSome, .int .i64 e7, .slice A7 n7 c7]) rfl rfl (by simp)
   have hx4 := hx0.trans (hx3.trans vX)
   cases ho : o9.1 with
   | none =>
     have hfv : farV items o9 = farO o9 := by unfold farV; rw [ho]
     rw [ho] at vS vO hx4
     simp only [Option.isSome_none] at vS vO hx4
     simp -dsimp only [go_sem, undef', Option.isSome_none, vS, load_own vO, hr]
     exact ⟨hx4, .inr ⟨hW, k9, o9, hrk, by rw [hfv]⟩⟩
   | some w =>
     obtain ⟨ks, e⟩ := w
     have hV' := hV
     rw [ho] at hV'
     obtain ⟨kv, hv1, hkv⟩ := hV'
     injection hv1 with hv1
     have hv2 := congrArg Array.toList hv1
     simp only [List.cons.injEq, Value.int.injEq] at hv2
     obtain ⟨_, ⟨_, rfl⟩, hkv0, _⟩ := hv2
     rw [ho] at vS vO hx4
     simp only [Option.isSome_some] at vS vO hx4
     by_cases hel : e = items.length
     · have hfv : farV items o9 = items.length := by unfold farV; rw [ho]; exact if_pos hel
       have k8 : decide ((e : Int) = (items.length : Int)) = true := decide_eq_true (by omega)
       simp -dsimp only [go_sem, undef', Option.isSome_some, vS, load_own vO, g2, k8, hr]
       exact ⟨hx4, .inr ⟨hW, k9, o9, hrk, by rw [hfv]⟩⟩
     · have hfv : farV items o9 = farO o9 := by unfold farV; rw [ho]; exact if_neg hel
       have k8 : decide ((e : Int) = (items.length : Int)) = false := decide_eq_false (by omega)
       simp -dsimp only [go_sem, undef', Option.isSome_some, vS, load_own vO, g2, k8, hr]
       exact ⟨hx4, .inr ⟨hW, k9, o9, hrk, by rw [hfv]⟩⟩
end Go.Ev.G24
end
section
set_option linter.unusedSimpArgs false
set_option linter.unusedVariables false
namespace Go.Ev.G24
open Go.RowKit Go.Proofs
variable {G : List Rule}
theorem iter_add {α : Type} (f : α → α) (a : Nat) : ∀ (b : Nat) (x : α), iter f (a + b) x = iter f b (iter f a x)
 | 0, x => rfl
 | b + 1, x => by show f (iter f (a + b) x) = f (iter f b (iter f a x)); rw [iter_add f a b x]
theorem iter_fix {α : Type} (f : α → α) {x : α} (h : f x = x) : ∀ b : Nat, iter f b x = x
 | 0 => rfl
 | b + 1 => by show f (iter f b x) = x; rw [iter_fix f h b, h]
theorem Found.uniq {l : List Rule} {em em' : List Bool} (h : Found l em) (h' : Found l em') : em = em' := by
 obtain ⟨⟨k, hk⟩, hf⟩ := h
 obtain ⟨⟨k', hk'⟩, hf'⟩ := h'
 rcases Nat.le_total k k' with c | c
 · obtain ⟨d, rfl⟩ := Nat.le.dest c
   rw [iter_add, ← hk, iter_fix _ hf d] at hk'
   exact hk'.symm
 · obtain ⟨d, rfl⟩ := Nat.le.dest c
   rw [iter_add, ← hk', iter_fix _ hf' d] at hk
   exact hk
mutual
theorem partsB_pos (most : Nat) : ∀ (p : Part) (deep : Nat), 1 ≤ partsB most deep p
 | ⟨d, t, l⟩, deep => by
   unfold partsB
   split
   · omega
   split
   · omega
   split
   · omega
   exact Nat.le_trans (Nat.le_refl 1) (partsL_ge most l (deep - 1) 1)
theorem partsL_ge (most : Nat) : ∀ (l : List Part) (deep n : Nat), n ≤ partsL most deep l n
 | [], deep, n => by unfold partsL; exact Nat.le_refl _
 | x :: l, deep, n => by
   unfold partsL
   split
   · exact Nat.le_trans (Nat.le_add_right _ _) (partsL_ge most l deep _)
   · exact Nat.le_refl _
end
theorem partsL_in (most : Nat) : ∀ (l : List Part) (deep n : Nat), partsL most deep l n ≤ most → n + l.length ≤ most ∧ ∀ x ∈ l, partsB most deep x ≤ most
 | [], deep, n, h => by unfold partsL at h; exact ⟨by simpa using h, fun x hx => by simp at hx⟩
 | y :: l, deep, n, h => by
   unfold partsL at h
   split at h
   · obtain ⟨h1, h2⟩ := partsL_in most l deep _ h
     have := partsB_pos most y deep
     refine ⟨by rw [List.length_cons]; omega, fun x hx => ?_⟩
     rcases List.mem_cons.1 hx with rfl | hx
     · omega
     · exact h2 x hx
   · rename_i c
     exact absurd h c
theorem size_list (s : ByteArray) : s.data.toList.length = s.size := by rw [Array.length_toList]; rfl
mutual
theorem parts_fit (most : Nat) (hm : most ≤ 1000) : ∀ (p : Part) (deep : Nat), partsB most deep p ≤ most → fits p ∧ Few p
 | ⟨d, t, l⟩, deep, h => by
   unfold partsB at h
   split at h
   · omega
   split at h
   · omega
   rename_i ht
   split at h
   · omega
   obtain ⟨h1, h2⟩ := partsL_in most l (deep - 1) 1 h
   obtain ⟨h3, h4⟩ := partsL_fit most hm l (deep - 1) h2
   rw [size_list] at ht
   refine ⟨by unfold fits; exact ⟨by omega, h3⟩, .mk d t l (by omega) (fun i p hp => h4 p (List.mem_of_getElem? hp))⟩
theorem partsL_fit (most : Nat) (hm : most ≤ 1000) : ∀ (l : List Part) (deep : Nat), (∀ x ∈ l, partsB most deep x ≤ most) → fitsL l ∧ ∀ x ∈ l, Few x
 | [], deep, h => ⟨by unfold fitsL; trivial, fun x hx => by simp at hx⟩
 | y :: l, deep, h => by
   obtain ⟨h1, h2⟩ := parts_fit most hm y deep (h y (.head _))
   obtain ⟨h3, h4⟩ := partsL_fit most hm l deep (fun x hx => h x (.tail _ hx))
   refine ⟨by unfold fitsL; exact ⟨h1, h3⟩, fun x hx => ?_⟩
   rcases List.mem_cons.1 hx with rfl | hx
   · exact h2
   · exact h4 x hx
end
theorem smallL_ge (most : Nat) : ∀ (l : List Rule) (n z : Nat), smallL most l n = some z → n ≤ z
 | [], n, z, h => by unfold smallL at h; injection h with h; omega
 | x :: l, n, z, h => by
   unfold smallL at h
   split at h
   · split at h
     · cases h
     · have := smallL_ge most l _ z h
       omega
   · injection h with h; omega
theorem smallL_in (most : Nat) : ∀ (l : List Rule) (n z : Nat), smallL most l n = some z → z ≤ most → ∀ x ∈ l, x.name.data.toList.length ≤ 200 ∧ partsB most 40 x.body ≤ most
 | [], n, z, _, _ => fun x hx => by simp at hx
 | y :: l, n, z, h, hz => by
   unfold smallL at h
   split at h
   · split at h
     · cases h
     · rename_i hc
       have h1 := smallL_ge most l _ z h
       have h2 := smallL_in most l _ z h hz
       intro x hx
       rcases List.mem_cons.1 hx with rfl | hx
       · exact ⟨by omega, by omega⟩
       · exact h2 x hx
   · injection h with h; omega
theorem small_fit {most : Nat} (hm : most ≤ 1000) (h : smallB most G = true) : G.length ≤ 30 ∧ fitsG G ∧ ∀ (i : Nat) (x : Rule), G[i]? = some x → Few x.body := by
 unfold smallB at h
 split at h
 · cases h
 · rename_i z hz
   rw [Bool.and_eq_true] at h
   have h1 := of_decide_eq_true h.1
   have h2 := of_decide_eq_true h.2
   have h3 := smallL_in most G 0 z hz h1
   refine ⟨h2, fun i x hx => ?_, fun i x hx => (parts_fit most hm x.body 40 (h3 x (List.mem_of_getElem? hx)).2).2⟩
   obtain ⟨a1, a2⟩ := h3 x (List.mem_of_getElem? hx)
   rw [size_list] at a1
   exact ⟨by omega, (parts_fit most hm x.body 40 a2).1⟩
mutual
theorem sameT_refl : ∀ p : Part, sameT p p = true
 | ⟨d, t, l⟩ => by unfold sameT; simp [sameTs_refl l]
theorem sameTs_refl : ∀ l : List Part, sameTs l l = true
 | [] => by unfold sameTs; rfl
 | x :: l => by unfold sameTs; rw [sameT_refl x, sameTs_refl l]; rfl
end
end Go.Ev.G24
end
section
set_option linter.unusedSimpArgs false
set_option linter.unusedVariables false
namespace Go.Ev.G24
open Go.RowKit Go.Proofs
variable {r : Ro} {G : List Rule} {items : List ByteArray} {Gv Iv : Option Addr} {gc ic : Nat}
theorem vrs_nil {ρ : Rho} {args' : List Value} (h : VRs ρ [] args') : args' = [] := by
 cases h
 rfl
theorem awake_c (h : Hp) : Snd Try.prog 12 [] h (.bool true) h :=
 snd_calls Try.func12 rfl rfl (fun _ _ => vrs_nil) (fun _ => .bool _) (fun w => Go.Proofs.Ytcnllhnhinmokaa.manystrandlaw24_awake.calls true w rfl) h
structure RoGram (r : Ro) (l : List Rule) (Av : Option Addr) (c b o : Nat) (css : Nat → List Value) : Prop where
 hc : l.length ≤ c
 hb : l.length ≤ 9223372036854775807
 hA : l ≠ [] → Av = some ⟨b, o, none⟩
 hat : ∀ (i : Nat) (x : Rule), l[i]? = some x → roAt r b (o + i * 4) (.string x.name :: css i)
 hk : ∀ (i : Nat) (x : Rule), l[i]? = some x → RoPart r x.body (css i)
 hs : spotless Av = true
def zeroP : Part := ⟨⟨#[]⟩, ⟨#[]⟩, []⟩
def treeO (items : List ByteArray) (o : Outc) : Part := match o.1 with
 | none => zeroP
 | some (ks, e) => if e < items.length then zeroP else ks.headD zeroP
def codeO (items : List ByteArray) (o : Outc) : Int := match o.1 with
 | none => 5
 | some (_, e) => if e < items.length then 5 else 0
theorem codeO_ne (o : Outc) : codeO items o = 5 ∨ codeO items o = 0 := by
 unfold codeO
 split
 · exact .inl rfl
 · split
   · exact .inl rfl
   · exact .inr rfl
theorem zero_at {h : Hp} {B F : Nat → Prop} : TreeAt h B F zeroP [.string ⟨#[]⟩, .string ⟨#[]⟩, .slice none 0 0] := KidsAt.nil.tree
theorem few_zero : Few zeroP := .mk _ _ _ (by simp) (fun i p e => by simp at e)
theorem few_treeO {o : Outc} (h : ∀ ks e, o.1 = some (ks, e) → ∀ p ∈ ks, Few p) : Few (treeO items o) := by
 unfold treeO
 split
 · exact few_zero
 · rename_i ks e ho
   split
   · exact few_zero
   · cases ks with
     | nil => exact few_zero
     | cons p ks => exact h _ _ ho p (.head _)
theorem run_v {o : Outc} {rule : ByteArray} {h0 h1 : Hp} {v : Value} (hfair : ∀ ks e, o.1 = some (ks, e) → e ≤ items.length) (hv : RunV items rule o h0 h1 v) :
  ∃ cs, v = .tuple #[.agg cs.toArray, .int .i64 (farV items o : Int), .int .i64 (codeO items o), .bool true] ∧ TreeAt h1 (fun _ => False) (fun _ => False) (treeO items o) cs := by
 unfold RunV at hv
 cases ho : o.1 with
 | none =>
   rw [ho] at hv
   have hf : farV items o = o.2.2 := by unfold farV farO; rw [ho]
   have hc : codeO items o = 5 := by unfold codeO; rw [ho]
   have ht : treeO items o = zeroP := by unfold treeO; rw [ho]
   rw [hf, hc, ht]
   exact ⟨_, hv, zero_at⟩
 | some y =>
   obtain ⟨ks, e⟩ := y
   rw [ho] at hv
   have hv : if e < items.length then _ else _ := hv
   have he := hfair ks e ho
   by_cases hel : e < items.length
   · rw [if_pos hel] at hv
     have hf : farV items o = max o.2.2 e := by unfold farV farO; rw [ho]; exact if_neg (by omega)
     have hc : codeO items o = 5 := by unfold codeO; rw [ho]; exact if_pos hel
     have ht : treeO items o = zeroP := by unfold treeO; rw [ho]; exact if_pos hel
     rw [hf, hc, ht]
     exact ⟨_, hv, zero_at⟩
   · rw [if_neg hel] at hv
     obtain ⟨ks1, cs, e1, e2, e3⟩ := hv
     have hf : farV items o = items.length := by unfold farV; rw [ho]; exact if_pos (by omega)
     have hc : codeO items o = 0 := by unfold codeO; rw [ho]; exact if_neg hel
     have ht : treeO items o = ruleT rule ks1 := by unfold treeO; rw [ho, e1]; exact if_neg hel
     rw [hf, hc, ht]
     exact ⟨_, e2, e3.more (fun b _ c => c.elim) (fun f c => c.elim)⟩
theorem parse_v {o : Outc} {rule : ByteArray} {h1 : Hp} {v : Value} (hv : ParseV items rule o h1 v) :
  ∃ cs, v = .tuple #[.agg cs.toArray, .int .i64 (codeO items o)] ∧ TreeAt h1 (fun _ => False) (fun _ => False) (treeO items o) cs := by
 unfold ParseV at hv
 cases ho : o.1 with
 | none =>
   rw [ho] at hv
   have hc : codeO items o = 5 := by unfold codeO; rw [ho]
   have ht : treeO items o = zeroP := by unfold treeO; rw [ho]
   rw [hc, ht]
   exact ⟨_, hv, zero_at⟩
 | some y =>
   obtain ⟨ks, e⟩ := y
   rw [ho] at hv
   have hv : if e < items.length then _ else _ := hv
   by_cases hel : e < items.length
   · rw [if_pos hel] at hv
     have hc : codeO items o = 5 := by unfold codeO; rw [ho]; exact if_pos hel
     have ht : treeO items o = zeroP := by unfold treeO; rw [ho]; exact if_pos hel
     rw [hc, ht]
     exact ⟨_, hv, zero_at⟩
   · rw [if_neg hel] at hv
     obtain ⟨ks1, cs, e1, e2, e3⟩ := hv
     have hc : codeO items o = 0 := by unfold codeO; rw [ho]; exact if_neg hel
     have ht : treeO items o = ruleT rule ks1 := by unfold treeO; rw [ho, e1]; exact if_neg hel
     rw [hc, ht]
     exact ⟨_, e2, e3⟩
theorem tree_shape {h : Hp} {B F : Nat → Prop} {t : Part} {cs : List Value} (k : TreeAt h B F t cs) : ∃ A c, cs = [.string t.d, .string t.t, .slice A t.l.length c] := by
 obtain ⟨kv, e1, e2⟩ := k.kids
 obtain ⟨A, c, e3, _⟩ := e2.slice
 exact ⟨A, c, by rw [e1, e3]⟩
set_option maxHeartbeats 8000000 in
set_option maxRecDepth 10000 in
theorem law_c {gb go ib io : Nat} {gcss : Nat → List Value} (RG : RoGram r G Gv gc gb go gcss) (RS : RoStrs r items Iv ic ib io) (hsp : spotless Iv = true) (rule : ByteArray) (h : Hp) (hrom : h.rom = r) (hb : h.base ≤ h.next) :
  ∃ v h1, Snd Try.prog 3 [.agg #[.slice Gv G.length gc], .string rule, .slice Iv items.length ic] h v h1 ∧ v = .bool true := by
 refine snd_go wf Try.func3 rfl rfl (n := 82) rfl (by kernel_rfl) rfl ?_
 intro a hn hg
 have hr : Try.f3.results.toList = [.tmp 6] := rfl
 have g0 := hg 0
 have g1 := hg 1
 have g2 := hg 2
 clear hg
 simp only [List.getElem?_cons_zero, List.getElem?_cons_succ] at g0 g1 g2
 have hG := own_new hb 24 [.slice Gv G.length gc]
 have hx0 := Ext.new h (CObj.cells { c := [.slice Gv G.length gc], e := 24, fam := 0, base := 0, grown := false })
 simp -dsimp only [go_sem, g0, g1, g2, next_newH, loads_own hG]
 generalize (h.newH (CObj.cells { c := [.slice Gv G.length gc], e := 24, fam := 0, base := 0, grown := false })) = h2 at hG hx0 ⊢
 have hb2 : h2.base ≤ h2.next := by rw [hx0.base]; exact Nat.le_trans hb hx0.next
 have hrom2 : h2.rom = r := hx0.rom.trans hrom
 obtain ⟨_, h3, hs3, rfl, hx3⟩ := small_c RG.hb RG.hA RG.hat RG.hk (c := gc) (most := 120) (by decide) h2 hrom2 hb2
 have hs3' : Snd Try.prog 10 [.agg #[.slice Gv G.length gc], .int .i64 120] h2 (.bool (smallB 120 G)) h3 := hs3
 refine ⟨_, h3, hs3', ?_⟩
 have hrom3 : h3.rom = r := hx3.rom.trans hrom2
 have hb3 : h3.base ≤ h3.next := by rw [hx3.base]; exact Nat.le_trans hb2 hx3.next
 have hG3 := own_ext hx3 hG
 cases hsm : smallB 120 G with
 | false =>
   simp -dsimp only [go_sem, undef']
   refine ⟨_, _, awake_c h3, ?_⟩
   simp -dsimp only [go_sem, hr]
 | true =>
   by_cases hln : 200 < rule.data.toList.length
   · have k1 : decide ((200 : Int) < (rule.data.toList.length : Int)) = true := decide_eq_true (by omega)
     simp -dsimp only [go_sem, undef', g1, k1]
     refine ⟨_, _, awake_c h3, ?_⟩
     simp -dsimp only [go_sem, hr]
   · have k1 : decide ((200 : Int) < (rule.data.toList.length : Int)) = false := decide_eq_false (by omega)
     obtain ⟨_, _, hs4, rfl, he4⟩ := short_c RS 40 h3 hrom3
     rw [he4] at hs4
     have hs4' : Snd Try.prog 11 [.slice Iv items.length ic, .int .i64 40] h3 (.bool (shortB items 40)) h3 := hs4
     simp -dsimp only [go_sem, undef', g1, g2, k1]
     refine ⟨_, _, hs4', ?_⟩
     cases hsh : shortB items 40 with
     | false =>
       simp -dsimp only [go_sem, undef']
       refine ⟨_, _, awake_c h3, ?_⟩
       simp -dsimp only [go_sem, hr]
     | true =>
       obtain ⟨hGl, hft, hfw⟩ := small_fit (by decide) hsm
       have hil : items.length ≤ 40 := by
        unfold shortB at hsh
        rw [Bool.and_eq_true] at hsh
        exact of_decide_eq_true hsh.1
       have R : RoRules r G Gv gc gb go gcss := ⟨RG.hc, by omega, RG.hA, RG.hat, RG.hk, RG.hs⟩
       have RI : RoItems r items Iv ic ib io := ⟨RS.hc, by omega, RS.hA, RS.hat, hsp⟩
       simp -dsimp only [go_sem, undef', g1, g2, loads_own hG3]
       obtain ⟨_, h5, hs5, hx5, hcase⟩ := refParse_c R hft RI hfw rule h3 hrom3 hb3
       refine ⟨_, h5, hs5, ?_⟩
       have hrom5 : h5.rom = r := hx5.rom.trans hrom3
       have hb5 : h5.base ≤ h5.next := by rw [hx5.base]; exact Nat.le_trans hb3 hx5.next
       have hG5 := own_ext hx5 hG3
       rcases hcase with ⟨hbad, rfl⟩ | ⟨hW, rfl | ⟨k9, o9, hrk, hno, hV⟩⟩
       · obtain ⟨vS, vO, vX, vB, vR⟩ := var_ok hb5 (e := 31) (c0 := [.string ⟨#[]⟩, .string ⟨#[]⟩, .slice none 0 0]) (c1 := [.string ⟨#[]⟩, .string ⟨#[]⟩, .slice none 0 0]) rfl rfl (by simp)
         have hG6 := own_ext vX hG5
         simp -dsimp only [go_sem, zeroT, vS, g1, g2, loads_own hG6]
         generalize h5.var 31 [.string ⟨#[]⟩, .string ⟨#[]⟩, .slice none 0 0] [.string ⟨#[]⟩, .string ⟨#[]⟩, .slice none 0 0] = h6 at vS vO vX vB vR hG6 ⊢
         have hnr : rightG G = true → ∀ em, Found G em → withB G em rule = true → ∃ k o, run G items k (.part (ruleP rule) 0) = some o ∧ o.2.1 ≤ 50000 := by
          intro e1 em e2 e3
          obtain ⟨em', e4, e5⟩ := hbad e1
          rw [e4.uniq e2] at e5
          rw [e3] at e5
          cases e5
         obtain ⟨_, h7, hs7, hx7, hc7⟩ := parse_c R hft RI hfw rule hnr h6 (vR.trans hrom5) vB
         refine ⟨_, h7, hs7, ?_⟩
         have hb7 : h7.base ≤ h7.next := by rw [hx7.base]; exact Nat.le_trans vB hx7.next
         rcases hc7 with ⟨rfl, _⟩ | ⟨⟨e1, em, e2, e3⟩, _⟩
         rotate_left
         · obtain ⟨em', e4, e5⟩ := hbad e1
           rw [e4.uniq e2, e3] at e5
           cases e5
         obtain ⟨wS, wO, wX, wB, wR⟩ := var_ok hb7 (e := 31) (c0 := [.string ⟨#[]⟩, .string ⟨#[]⟩, .slice none 0 0]) (c1 := [.string ⟨#[]⟩, .string ⟨#[]⟩, .slice none 0 0]) rfl rfl (by simp)
         have hG8 := own_ext (hx7.trans wX) hG6
         have vO8 := own_ext (hx7.trans wX) vO
         simp -dsimp only [go_sem, zeroT, wS, g1, g2, loads_own hG8]
         generalize h7.var 31 [.string ⟨#[]⟩, .string ⟨#[]⟩, .slice none 0 0] [.string ⟨#[]⟩, .string ⟨#[]⟩, .slice none 0 0] = h8 at wS wO wX wB wR hG8 vO8 ⊢
         obtain ⟨_, h9, hs9, hx9, hc9⟩ := far_c R hft RI hfw rule hnr h8 (wR.trans (hx7.rom.trans (vR.trans hrom5))) wB
         refine ⟨_, h9, hs9, ?_⟩
         have hb9 : h9.base ≤ h9.next := by rw [hx9.base]; exact Nat.le_trans wB hx9.next
         rcases hc9 with ⟨rfl, _⟩ | ⟨⟨e1, em, e2, e3⟩, _⟩
         rotate_left
         · obtain ⟨em', e4, e5⟩ := hbad e1
           rw [e4.uniq e2, e3] at e5
           cases e5
         have t0 : TreeAt h9 No No ⟨⟨#[]⟩, ⟨#[]⟩, []⟩ [.string ⟨#[]⟩, .string ⟨#[]⟩, .slice none 0 0] := KidsAt.nil.tree
         obtain ⟨_, ha, hsa, rfl, hxa⟩ := same_c _ (⟨⟨#[]⟩, ⟨#[]⟩, []⟩ : Part) (Nat.lt_succ_self _) (.mk _ _ _ (by simp) (fun i p e => by simp at e)) ⟨⟨#[]⟩, ⟨#[]⟩, []⟩ h9 _ _ hb9 t0 t0
         rw [sameT_refl] at hsa
         have k240 : decide ((240 : Int) = 240) = true := rfl
         simp -dsimp only [go_sem, undef', k240, decide_true, loads_own (own_ext hx9 vO8), loads_own (own_ext hx9 wO)]
         refine ⟨_, ha, hsa, ?_⟩
         simp -dsimp only [go_sem, undef', k240, decide_true]
         refine ⟨_, _, awake_c ha, ?_⟩
         simp -dsimp only [go_sem, undef', hr]
       · obtain ⟨vS, vO, vX, vB, vR⟩ := var_ok hb5 (e := 31) (c0 := [.string ⟨#[]⟩, .string ⟨#[]⟩, .slice none 0 0]) (c1 := [.string ⟨#[]⟩, .string ⟨#[]⟩, .slice none 0 0]) rfl rfl (by simp)
         simp -dsimp only [go_sem, zeroT, vS]
         refine ⟨_, _, awake_c _, ?_⟩
         simp -dsimp only [go_sem, hr]
       · have hnr : rightG G = true → ∀ em, Found G em → withB G em rule = true → ∃ k o, run G items k (.part (ruleP rule) 0) = some o ∧ o.2.1 ≤ 50000 := fun _ _ _ _ => ⟨k9, o9, hrk, by omega⟩
         obtain ⟨hrg, em9, hF9, hW9⟩ := hW
         have hf0 := run_fair _ _ _ (show placeT (.part (ruleP rule) 0) ≤ items.length from Nat.zero_le _) hrk
         have hfair : ∀ ks e, o9.1 = some (ks, e) → e ≤ items.length := by
          intro ks e ho
          have := hf0
          unfold Fair at this
          rw [ho] at this
          exact this.2.1
         have hfew : Few (treeO items o9) := few_treeO (fun ks e ho => by
          have := hf0
          unfold Fair at this
          rw [ho] at this
          exact (this.2.2 (by simp only [accT, List.length_nil]; omega) (fun p hp => by simp [accT] at hp)).2)
         obtain ⟨cs, rfl, hT⟩ := run_v hfair hV
         obtain ⟨A1, c1, rfl⟩ := tree_shape hT
         obtain ⟨vS, vO, vX, vB, vR⟩ := var_ok hb5 (e := 31) (c0 := [.string ⟨#[]⟩, .string ⟨#[]⟩, .slice none 0 0]) (c1 := [.string (treeO items o9).d, .string (treeO items o9).t, .slice A1 (treeO items o9).l.length c1]) rfl rfl (by simp)
         have hG6 := own_ext vX hG5
         have hT6 := hT.keep (keepsE vX)
         simp -dsimp only [go_sem, vS, g1, g2, loads_own hG6]
         generalize h5.var 31 [.string ⟨#[]⟩, .string ⟨#[]⟩, .slice none 0 0] [.string (treeO items o9).d, .string (treeO items o9).t, .slice A1 (treeO items o9).l.length c1] = h6 at vS vO vX vB vR hG6 hT6 ⊢
         obtain ⟨_, h7, hs7, hx7, hc7⟩ := parse_c R hft RI hfw rule hnr h6 (vR.trans hrom5) vB
         refine ⟨_, h7, hs7, ?_⟩
         have hb7 : h7.base ≤ h7.next := by rw [hx7.base]; exact Nat.le_trans vB hx7.next
         rcases hc7 with ⟨_, hbad⟩ | ⟨_, k7, o7, hr7, hV7⟩
         · obtain ⟨em', e4, e5⟩ := hbad hrg
           rw [e4.uniq hF9, hW9] at e5
           cases e5
         have ho7 : o7 = o9 := run_det hr7 hrk
         subst ho7
         obtain ⟨cs', rfl, hT7⟩ := parse_v hV7
         obtain ⟨A2, c2, rfl⟩ := tree_shape hT7
         obtain ⟨wS, wO, wX, wB, wR⟩ := var_ok hb7 (e := 31) (c0 := [.string ⟨#[]⟩, .string ⟨#[]⟩, .slice none 0 0]) (c1 := [.string (treeO items o7).d, .string (treeO items o7).t, .slice A2 (treeO items o7).l.length c2]) rfl rfl (by simp)
         have hG8 := own_ext (hx7.trans wX) hG6
         have vO8 := own_ext (hx7.trans wX) vO
         have hT8 := hT6.keep (keepsE (hx7.trans wX))
         have hU8 := hT7.keep (keepsE wX)
         simp -dsimp only [go_sem, wS, g1, g2, loads_own hG8]
         generalize h7.var 31 [.string ⟨#[]⟩, .string ⟨#[]⟩, .slice none 0 0] [.string (treeO items o7).d, .string (treeO items o7).t, .slice A2 (treeO items o7).l.length c2] = h8 at wS wO wX wB wR hG8 vO8 hT8 hU8 ⊢
         obtain ⟨_, h9, hs9, hx9, hc9⟩ := far_c R hft RI hfw rule hnr h8 (wR.trans (hx7.rom.trans (vR.trans hrom5))) wB
         refine ⟨_, h9, hs9, ?_⟩
         have hb9 : h9.base ≤ h9.next := by rw [hx9.base]; exact Nat.le_trans wB hx9.next
         rcases hc9 with ⟨_, hbad⟩ | ⟨_, k8, o8, hr8, rfl⟩
         · obtain ⟨em', e4, e5⟩ := hbad hrg
           rw [e4.uniq hF9, hW9] at e5
           cases e5
         have ho8 : o8 = o7 := run_det hr8 hrk
         subst ho8
         obtain ⟨_, ha, hsa, rfl, hxa⟩ := same_c _ (treeO items o8) (Nat.lt_succ_self _) hfew (treeO items o8) h9 _ _ hb9 (hU8.keep (keepsE hx9)) (hT8.keep (keepsE hx9))
         rw [sameT_refl] at hsa
         have kz : decide (codeO items o8 = codeO items o8) = true := decide_eq_true rfl
         have kn : decide (codeO items o8 = 240) = false := decide_eq_false (by rcases codeO_ne (items := items) o8 with e | e <;> rw [e] <;> decide)
         have k0 : decide ((0 : Int) = 0) = true := rfl
         have kf : decide ((farV items o8 : Int) = (farV items o8 : Int)) = true := decide_eq_true rfl
         simp -dsimp only [go_sem, undef', kz, decide_true, loads_own (own_ext hx9 vO8), loads_own (own_ext hx9 wO)]
         refine ⟨_, ha, hsa, ?_⟩
         simp -dsimp only [go_sem, undef', kn, k0, kf, decide_true]
         refine ⟨_, _, awake_c ha, ?_⟩
         simp -dsimp only [go_sem, undef', hr]
end Go.Ev.G24
end
section
set_option linter.unusedSimpArgs false
set_option linter.unusedVariables false
namespace Go.Ev.G24
open Go.ChangeShapes Go.WideShapes Go.ChangeAt Go.RowKit Go.Proofs
open Go.ChangeMaps (open_string shut_string)
def rho0 (w : World) : Rho := fun b => if b < w.heap.size then some ⟨b, 0, 0, 0, true⟩ else none
def cleanV : Value → Value
 | .slice (some a) n c => if c = 0 then .slice (some ⟨0, 0, none⟩) n c else .slice (some a) n c
 | v => v
open Classical in
noncomputable def roW (w : World) : Ro := ⟨w.heap.size, fun b k => match w.cell? ⟨b, k, none⟩ with
 | some v => if VR (rho0 w) (cleanV v) v then some (cleanV v) else none
 | none => none⟩
noncomputable def heap0 (w : World) : Hp := ⟨.lf, w.heap.size, .lf, 1, w.heap.size, (roW w).f⟩
theorem heap0_rom (w : World) : (heap0 w).rom = roW w := rfl
theorem start0 (P : Program) (w : World) : HR P (rho0 w) ⟨w.heap.size, fun _ => False⟩ (heap0 w) w := by
 have hi : ∀ b i, rho0 w b = some i → b < w.heap.size ∧ i.b = b := by
  intro b i h
  unfold rho0 at h
  split at h
  · injection h with h
    subst h
    exact ⟨by assumption, rfl⟩
  · cases h
 refine ⟨?_, ?_, ?_, ?_, ?_, ?_, ?_, ?_, Nat.le_refl _, fun _ hb => hb.elim, Nat.le_refl _, ?_, ?_, ?_⟩
 · intro b o i h
   simp [heap0, Tr.get_lf] at h
 · intro b i h
   exact (hi b i h).1
 · intro b i h
   obtain ⟨h1, h2⟩ := hi b i h
   refine ⟨fun h3 => ?_, by rw [h2]; exact h1⟩
   have h3 : w.heap.size ≤ b := h3
   omega
 · intro b d i j h1 h2 hne e
   exact absurd (by rw [← (hi b i h1).2, ← (hi d j h2).2, e]) hne
 · intro b r' h
   simp [heap0, Tr.get_lf] at h
 · intro f l m h
   simp [heap0, Tr.get_lf] at h
 · intro b o h
   simp [heap0, Tr.get_lf] at h
 · exact Nat.lt_succ_self 0
 · intro b h
   have h : b < w.heap.size := h
   unfold rho0
   rw [if_pos h]
 · intro b o h
   simp [heap0, Tr.get_lf] at h
 · intro b k v hb hv
   have hv : (roW w).f b k = some v := hv
   unfold roW at hv
   simp only at hv
   cases hc : w.cell? ⟨b, k, none⟩ with
   | none => rw [hc] at hv; cases hv
   | some u =>
     rw [hc] at hv
     simp only at hv
     split at hv
     · rename_i h1
       injection hv with hv
       subst hv
       exact ⟨u, rfl, h1⟩
     · cases hv
theorem ro_clean {w : World} {b k : Nat} {v : Value} (h : w.cell? ⟨b, k, none⟩ = some v) (hv : VR (rho0 w) (cleanV v) v) : (roW w).f b k = some (cleanV v) := by
 unfold roW
 simp only [h]
 rw [if_pos hv]
theorem cell_lt {w : World} {a : Addr} {v : Value} (h : w.cell? a = some v) : a.spot = none ∧ a.block < w.heap.size := by
 unfold World.cell? at h
 split at h
 · rename_i c _ _ hc
   refine ⟨?_, ?_⟩
   · cases hs : a.spot with
     | none => rfl
     | some s => rw [hs] at h; simp at h
   · rcases Nat.lt_or_ge a.block w.heap.size with q | q
     · exact q
     · rw [Array.getElem?_eq_none q] at hc; cases hc
 · cases h
theorem addr_eta {a : Addr} (h : a.spot = none) : a = ⟨a.block, a.off, none⟩ := by
 cases a
 simp at h
 subst h
 rfl
theorem add_flat {a : Addr} (h : a.spot = none) (n : Nat) : a.add n = ⟨a.block, a.off + n, none⟩ := by
 unfold Addr.add
 split
 · rename_i e
   subst e
   exact addr_eta h
 · rfl
structure OkS (w : World) (A : Option Addr) (n c : Nat) : Prop where
 le : n ≤ c
 nil : A = none → n = 0 ∧ c = 0
 at' : ∀ a, A = some a → 0 < c → a.spot = none ∧ a.block < w.heap.size
def cleanA (A : Option Addr) (c : Nat) : Option Addr := match A with
 | none => none
 | some a => if c = 0 then some ⟨0, 0, none⟩ else some a
theorem cleanV_slice (A : Option Addr) (n c : Nat) : cleanV (.slice A n c) = .slice (cleanA A c) n c := by
 cases A with
 | none => rfl
 | some a =>
   by_cases hc : c = 0 <;> simp [cleanV, cleanA, hc]
theorem OkS.spotless {w : World} {A : Option Addr} {n c : Nat} (k : OkS w A n c) : spotless (cleanA A c) = true := by
 cases A with
 | none => rfl
 | some a =>
   by_cases hc : c = 0
   · simp [cleanA, hc, Go.Ev.spotless]
   · have := (k.at' a rfl (by omega)).1
     simp [cleanA, hc, Go.Ev.spotless, this]
theorem OkS.vr {w : World} {A : Option Addr} {n c : Nat} (k : OkS w A n c) (hp : 0 < w.heap.size) : VR (rho0 w) (cleanV (.slice A n c)) (.slice A n c) := by
 rw [cleanV_slice]
 cases A with
 | none =>
   obtain ⟨rfl, rfl⟩ := k.nil rfl
   exact .slNil
 | some a =>
   unfold cleanA
   by_cases hc : c = 0
   · subst hc
     have hn : n = 0 := by have := k.le; omega
     subst hn
     exact .slZero _ _ (i := ⟨0, 0, 0, 0, true⟩) (by unfold rho0; rw [if_pos hp])
   · have := k.at' a rfl (by omega)
     simp only [if_neg hc]
     exact .sl (i := ⟨a.block, 0, 0, 0, true⟩) ⟨this.1, by unfold rho0; rw [if_pos this.2], by rw [Nat.zero_add]; exact addr_eta this.1⟩ (.inl rfl)
theorem choose_list {α : Type} {Q : Nat → α → Prop} : ∀ n, (∀ i, i < n → ∃ y, Q i y) → ∃ ys : List α, ys.length = n ∧ ∀ (i : Nat) (y : α), ys[i]? = some y → Q i y
 | 0, _ => ⟨[], rfl, fun i y h => by simp at h⟩
 | n + 1, h => by
   obtain ⟨ys, h1, h2⟩ := choose_list n (fun i hi => h i (by omega))
   obtain ⟨y, hy⟩ := h n (by omega)
   refine ⟨ys ++ [y], by simp [h1], fun i z hz => ?_⟩
   by_cases hi : i < ys.length
   · rw [List.getElem?_append_left hi] at hz
     exact h2 i z hz
   · rw [List.getElem?_append_right (by omega)] at hz
     have hin : i = n := by
      have := (List.getElem?_eq_some_iff.1 hz).1
      simp at this
      omega
     subst hin
     rw [h1] at hz
     simp at hz
     subst hz
     exact hy
theorem open_ro {α : Type} (K : α → List Value → Prop) {H : Type} {enc : TypeId × Value → H} {P : Program} {w : World} {base : Nat} {held : Bool} {t e : TypeId} {sz fuel : Nat} {cs : List Value} {x : DataW H × List MemPlace}
  (ht : P.underlying t = some (.slice e)) (hsz : P.cellsOf e = sz) (hpos : 0 < sz)
  (ih : ∀ n, n < fuel → ∀ cs x, DataW.trod enc P w base (fun _ => true) held n e cs = some x → ∃ y : α, K y cs)
  (h : DataW.trod enc P w base (fun _ => true) held fuel t cs = some x) :
  ∃ (A : Option Addr) (c : Nat) (ys : List α) (css : Nat → List Value), cs = [.slice A ys.length c] ∧ OkS w A ys.length c ∧ ys.length ≤ 9223372036854775807 ∧
   (∀ a, A = some a → ∀ (i : Nat) (y : α), ys[i]? = some y → (css i).length = sz ∧ K y (css i) ∧ ∀ (j : Nat) (u : Value), (css i)[j]? = some u → w.cell? ⟨a.block, a.off + (i * sz + j), none⟩ = some u) := by
 rcases DataW.trod_slice ht h with ⟨rfl, _⟩ | ⟨a, len, cap, elems, rest, n, hf, rfl, rfl, hb, hl, hm, hlen, hel, hsp, hns⟩
 · exact ⟨none, 0, [], fun _ => [], rfl, ⟨Nat.le_refl _, fun _ => ⟨rfl, rfl⟩, fun a e => by cases e⟩, by simp, fun a e => by cases e⟩
 · obtain ⟨hrl, hrest⟩ := hsp rfl
   have first : 0 < cap → a.spot = none ∧ a.block < w.heap.size := by
    intro hc
    have zero : ∀ {y : DataW H × List MemPlace}, (w.cells? base a (P.cellsOf e)).bind (DataW.trod enc P w base (fun _ => true) held n e) = some y → a.spot = none ∧ a.block < w.heap.size := by
     intro y hy
     obtain ⟨c, h1, h2⟩ := Option.bind_eq_some_iff.1 hy
     obtain ⟨_, hcl, hcc⟩ := World.cells?_some h1
     have := hcc 0 (by rw [hsz]; exact hpos)
     have hc0 : 0 < c.length := by rw [hcl, hsz]; exact hpos
     rw [List.getElem?_eq_getElem hc0] at this
     have ha : a.add 0 = a := rfl
     rw [ha] at this
     exact cell_lt this
    by_cases hl0 : 0 < len
    · have := hel 0 hl0
      have hi' : 0 < elems.length := by omega
      rw [List.getElem?_eq_getElem hi', Nat.zero_mul] at this
      exact zero this
    · have := hrest 0 (by omega)
      have hi' : 0 < rest.length := by omega
      rw [List.getElem?_eq_getElem hi', show (len + 0) * P.cellsOf e = 0 by rw [show len = 0 by omega]; simp] at this
      exact zero this
   have each : ∀ i, i < len → ∃ yc : α × List Value, yc.2.length = sz ∧ K yc.1 yc.2 ∧ ∀ (j : Nat) (u : Value), yc.2[j]? = some u → w.cell? ⟨a.block, a.off + (i * sz + j), none⟩ = some u := by
    intro i hi
    have hi' : i < elems.length := by omega
    have := hel i hi
    rw [List.getElem?_eq_getElem hi', hsz] at this
    obtain ⟨c, h1, h2⟩ := Option.bind_eq_some_iff.1 this
    obtain ⟨y, hy⟩ := ih n (by omega) c _ h2
    obtain ⟨_, hcl, hc⟩ := World.cells?_some h1
    refine ⟨(y, c), hcl, hy, fun j u hj => ?_⟩
    have hlt : j < c.length := (List.getElem?_eq_some_iff.1 hj).1
    have hs := (first (by omega)).1
    have h3 := hc j (by omega)
    rw [add_flat hs, add_flat (a := ⟨a.block, a.off + i * sz, none⟩) rfl, hj] at h3
    rw [← Nat.add_assoc]
    exact h3
   obtain ⟨ys, h1, h2⟩ := choose_list len each
   have hml : (ys.map (·.1)).length = len := by rw [List.length_map, h1]
   refine ⟨some a, cap, ys.map (·.1), fun i => match ys[i]? with
    | some y => y.2
    | none => [], by rw [hml], ⟨by rw [hml]; exact hl, fun e => (by cases e), fun a' e hc => by injection e with e; subst e; exact first hc⟩, ?_, fun a' e i y hy => ?_⟩
   · rw [hml]; unfold maxLen at hm; omega
   · injection e with e
     subst e
     rw [List.getElem?_map] at hy
     cases hyi : ys[i]? with
     | none => rw [hyi] at hy; cases hy
     | some yc =>
       rw [hyi] at hy
       simp at hy
       subst hy
       simp only [hyi]
       exact h2 i yc hyi
theorem three {cs : List Value} {a b c : Value} (hl : cs.length = 3) (h0 : (cs.drop 0).take 1 = [a]) (h1 : (cs.drop 1).take 1 = [b]) (h2 : (cs.drop 2).take 1 = [c]) : cs = [a, b, c] := by
 match cs, hl with
 | [x, y, z], _ => simp at h0 h1 h2; simp [h0, h1, h2]
theorem c9 : Try.prog.cellsOf 9 = 1 := by kernel_rfl
theorem c50 : Try.prog.cellsOf 50 = 1 := by kernel_rfl
theorem c52 : Try.prog.cellsOf 52 = 3 := by kernel_rfl
theorem c54 : Try.prog.cellsOf 54 = 4 := by kernel_rfl
theorem c22 : Try.prog.cellsOf 22 = 1 := by kernel_rfl
theorem c24 : Try.prog.cellsOf 24 = 1 := by kernel_rfl
def KPart (w : World) (y : Part) (cs : List Value) : Prop := ∃ (A : Option Addr) (c : Nat), cs = [.string y.d, .string y.t, .slice A y.l.length c] ∧ OkS w A y.l.length c ∧ (0 < w.heap.size → RoPart (roW w) y [.string y.d, .string y.t, .slice (cleanA A c) y.l.length c])
theorem KPart.cells {w : World} {y : Part} {cs : List Value} (k : KPart w y cs) (hp : 0 < w.heap.size) : RoPart (roW w) y (cs.map cleanV) ∧ ∀ u ∈ cs, VR (rho0 w) (cleanV u) u := by
 obtain ⟨A, c, rfl, h1, h2⟩ := k
 refine ⟨by simp only [List.map_cons, List.map_nil, cleanV_slice]; exact h2 hp, fun u hu => ?_⟩
 simp only [List.mem_cons, List.not_mem_nil, or_false] at hu
 rcases hu with rfl | rfl | rfl
 · exact .string _
 · exact .string _
 · exact h1.vr hp
theorem ro_cells {w : World} {b o : Nat} {cc : List Value} (hb : b < w.heap.size) (h : ∀ (j : Nat) (u : Value), cc[j]? = some u → w.cell? ⟨b, o + j, none⟩ = some u) (hv : ∀ u ∈ cc, VR (rho0 w) (cleanV u) u) : roAt (roW w) b o (cc.map cleanV) := by
 refine ⟨hb, fun j v hj => ?_⟩
 rw [List.getElem?_map] at hj
 cases hc : cc[j]? with
 | none => rw [hc] at hj; cases hj
 | some u =>
   rw [hc] at hj
   simp at hj
   subst hj
   exact ro_clean (h j u hc) (hv u (List.mem_of_getElem? hc))
theorem open_part {H : Type} {enc : TypeId × Value → H} {w : World} {base : Nat} {held : Bool} : ∀ (fuel : Nat) (cs : List Value) (x : DataW H × List MemPlace),
  DataW.trod enc Try.prog w base (fun _ => true) held fuel 52 cs = some x → ∃ y : Part, KPart w y cs := by
 intro fuel
 induction fuel using Nat.strongRecOn with
 | _ fuel ih =>
   intro cs x h
   obtain ⟨xs, n, hf, rfl, hlen, hxl, hfs⟩ := DataW.trod_struct Try.underlying52 h
   rw [c52] at hlen
   match xs, hxl with
   | [y0, y1, y2], _ =>
     have g0 := hfs 0 { name := "Do", type := 9, offset := 0, embedded := false, tag := "", pkgPath := "", byteOffset := 0 } rfl
     have g1 := hfs 1 { name := "Text", type := 9, offset := 1, embedded := false, tag := "", pkgPath := "", byteOffset := 16 } rfl
     have g2 := hfs 2 { name := "Kids", type := 50, offset := 2, embedded := false, tag := "", pkgPath := "", byteOffset := 32 } rfl
     simp only [c9, c50] at g0 g1 g2
     obtain ⟨s0, e0, _, _⟩ := DataW.trod_string Try.underlying9 g0
     obtain ⟨s1, e1, _, _⟩ := DataW.trod_string Try.underlying9 g1
     obtain ⟨A, c, ys, css, e2, hok, hmx, hcell⟩ := open_ro (KPart w) Try.underlying50 c52 (by decide) (fun m hm cs x hx => ih m (by omega) cs x hx) g2
     have := three hlen e0 e1 e2
     subst this
     refine ⟨⟨s0, s1, ys⟩, A, c, rfl, hok, fun hp => ?_⟩
     cases A with
     | none =>
       obtain ⟨h1, rfl⟩ := hok.nil rfl
       have h1 : ys = [] := List.length_eq_zero_iff.1 h1
       subst h1
       exact .mk s0 s1 [] none 0 0 0 (fun _ => []) (Nat.le_refl _) (by simp) (fun e => absurd rfl e) (fun i p e => by simp at e) (fun i p e => by simp at e) rfl
     | some a =>
       refine .mk s0 s1 ys (cleanA (some a) c) c a.block a.off (fun i => (css i).map cleanV) hok.le hmx (fun hne => ?_) (fun i p hi => ?_) (fun i p hi => ?_) hok.spotless
       · have hpos := List.length_pos_iff.2 hne
         have hc : ¬ c = 0 := by have := hok.le; omega
         have := hok.at' a rfl (by omega)
         unfold cleanA
         simp only [if_neg hc]
         rw [← addr_eta this.1]
       · obtain ⟨q1, q2, q3⟩ := hcell a rfl i p hi
         have hil := (List.getElem?_eq_some_iff.1 hi).1
         have := hok.at' a rfl (by have := hok.le; omega)
         refine ro_cells this.2 (fun j u hj => ?_) (q2.cells hp).2
         rw [Nat.add_assoc]
         exact q3 j u hj
       · obtain ⟨q1, q2, q3⟩ := hcell a rfl i p hi
         exact (q2.cells hp).1
def KRule (w : World) (y : Rule) (cs : List Value) : Prop := ∃ cs', cs = .string y.name :: cs' ∧ KPart w y.body cs'
set_option maxRecDepth 100000 in
theorem open_rule {H : Type} {enc : TypeId × Value → H} {w : World} {base : Nat} {held : Bool} (fuel : Nat) (cs : List Value) (x : DataW H × List MemPlace)
  (h : DataW.trod enc Try.prog w base (fun _ => true) held fuel 54 cs = some x) : ∃ y : Rule, KRule w y cs := by
 obtain ⟨xs, n, hf, rfl, hlen, hxl, hfs⟩ := DataW.trod_struct Try.underlying54 h
 rw [c54] at hlen
 match xs, hxl with
 | [y0, y1], _ =>
   have g0 := hfs 0 { name := "Name", type := 9, offset := 0, embedded := false, tag := "", pkgPath := "", byteOffset := 0 } rfl
   have g1 := hfs 1 { name := "Body", type := 52, offset := 1, embedded := false, tag := "", pkgPath := "", byteOffset := 16 } rfl
   simp only [c9, c52] at g0 g1
   obtain ⟨s0, e0, _, _⟩ := DataW.trod_string Try.underlying9 g0
   obtain ⟨y, hy⟩ := open_part n _ _ g1
   refine ⟨⟨s0, y⟩, (cs.drop 1).take 3, ?_, hy⟩
   match cs, hlen with
   | [a, b, d, e], _ => simp at e0; simp [e0]
set_option maxRecDepth 100000 in
theorem open_grammar {H : Type} {enc : TypeId × Value → H} {w : World} {base : Nat} {held : Bool} (fuel : Nat) (cs : List Value) (x : DataW H × List MemPlace)
  (h : DataW.trod enc Try.prog w base (fun _ => true) held fuel 24 cs = some x) : ∃ (A : Option Addr) (c : Nat) (g : List Rule), cs = [.slice A g.length c] ∧ OkS w A g.length c ∧ ∃ b o css, RoGram (roW w) g (cleanA A c) c b o css := by
 obtain ⟨xs, n, hf, rfl, hlen, hxl, hfs⟩ := DataW.trod_struct Try.underlying24 h
 rw [c24] at hlen
 match xs, hxl with
 | [y0], _ =>
   have g0 := hfs 0 { name := "Rules", type := 22, offset := 0, embedded := false, tag := "", pkgPath := "", byteOffset := 0 } rfl
   simp only [c22] at g0
   obtain ⟨A, c, ys, css, e2, hok, hmx, hcell⟩ := open_ro (KRule w) Try.underlying22 c54 (by decide) (fun m hm cs x hx => open_rule m cs x hx) g0
   refine ⟨A, c, ys, ?_, hok, ?_⟩
   · match cs, hlen with
     | [a], _ => simpa using e2
   cases A with
   | none =>
     obtain ⟨h1, rfl⟩ := hok.nil rfl
     have h1 : ys = [] := List.length_eq_zero_iff.1 h1
     subst h1
     exact ⟨0, 0, fun _ => [], Nat.le_refl _, by simp, fun e => absurd rfl e, fun i p e => by simp at e, fun i p e => by simp at e, rfl⟩
   | some a =>
     have inr : ∀ (i : Nat) (p : Rule), ys[i]? = some p → a.spot = none ∧ a.block < w.heap.size := by
      intro i p hi
      have hil := (List.getElem?_eq_some_iff.1 hi).1
      exact hok.at' a rfl (by have := hok.le; omega)
     refine ⟨a.block, a.off, fun i => ((css i).drop 1).map cleanV, hok.le, hmx, fun hne => ?_, fun i p hi => ?_, fun i p hi => ?_, hok.spotless⟩
     · have hpos := List.length_pos_iff.2 hne
       have hc : ¬ c = 0 := by have := hok.le; omega
       have := hok.at' a rfl (by omega)
       unfold cleanA
       simp only [if_neg hc]
       rw [← addr_eta this.1]
     · obtain ⟨q1, ⟨cs', q2, q3⟩, q4⟩ := hcell a rfl i p hi
       have hin := (inr i p hi).2
       have hp : 0 < w.heap.size := by omega
       have := ro_cells (cc := css i) (b := a.block) (o := a.off + i * 4) hin (fun j u hj => by rw [Nat.add_assoc]; exact q4 j u hj) (fun u hu => by
        rw [q2] at hu
        rcases List.mem_cons.1 hu with rfl | hu
        · exact .string _
        · exact (q3.cells hp).2 u hu)
       rw [q2] at this ⊢
       exact this
     · obtain ⟨q1, ⟨cs', q2, q3⟩, q4⟩ := hcell a rfl i p hi
       have hp : 0 < w.heap.size := by have := (inr i p hi).2; omega
       rw [q2]
       exact (q3.cells hp).1
theorem open_items {H : Type} {enc : TypeId × Value → H} {w : World} {base : Nat} {held : Bool} (fuel : Nat) (cs : List Value) (x : DataW H × List MemPlace)
  (h : DataW.trod enc Try.prog w base (fun _ => true) held fuel 25 cs = some x) : ∃ (A : Option Addr) (c : Nat) (g : List ByteArray), cs = [.slice A g.length c] ∧ OkS w A g.length c ∧ ∃ b o, RoStrs (roW w) g (cleanA A c) c b o := by
 obtain ⟨A, c, ys, css, e2, hok, hmx, hcell⟩ := open_ro (fun (s : ByteArray) cs => cs = [.string s]) Try.underlying25 c9 (by decide) (fun m hm cs x hx => by
  obtain ⟨s, e, _, _⟩ := DataW.trod_string Try.underlying9 hx
  exact ⟨s, e⟩) h
 refine ⟨A, c, ys, e2, hok, ?_⟩
 cases A with
 | none =>
   obtain ⟨h1, rfl⟩ := hok.nil rfl
   have h1 : ys = [] := List.length_eq_zero_iff.1 h1
   subst h1
   exact ⟨0, 0, Nat.le_refl _, by simp, fun e => absurd rfl e, fun i p e => by simp at e, rfl⟩
 | some a =>
   refine ⟨a.block, a.off, hok.le, hmx, fun hne => ?_, fun i p hi => ?_, hok.spotless⟩
   · have hpos := List.length_pos_iff.2 hne
     have hc : ¬ c = 0 := by have := hok.le; omega
     have := hok.at' a rfl (by omega)
     unfold cleanA
     simp only [if_neg hc]
     rw [← addr_eta this.1]
   · obtain ⟨q1, q2, q4⟩ := hcell a rfl i p hi
     have hil := (List.getElem?_eq_some_iff.1 hi).1
     have hin := hok.at' a rfl (by have := hok.le; omega)
     have := ro_cells (cc := css i) (b := a.block) (o := a.off + i) hin.2 (fun j u hj => by
      have := q4 j u hj
      rw [Nat.mul_one, ← Nat.add_assoc] at this
      exact this) (fun u hu => by
      rw [q2] at hu
      simp at hu
      subst hu
      exact .string _)
     rw [q2] at this
     exact this
set_option maxRecDepth 100000 in
theorem pos_cell {w : World} {base : Nat} {e t : TypeId} {a : Addr} {n c : Nat} (ht : Try.prog.underlying t = some (.slice e)) (h : Cell.okWide Try.prog w .any base t (.slice (some a) n c)) : 0 < w.heap.size := by
 simp only [Cell.okWide, ht, Cell.ok] at h
 obtain ⟨_, _, _, _, row, cells, hs, _⟩ := h
 unfold World.shape? at hs
 split at hs
 · rename_i cc el fr hc
   rcases Nat.lt_or_ge a.block w.heap.size with q | q
   · omega
   · rw [Array.getElem?_eq_none q] at hc; cases hc
 · cases hs
set_option maxRecDepth 100000 in
theorem ct24 : Try.prog.cellTypes Try.prog.depth 24 = some [22] := by kernel_rfl
set_option maxRecDepth 100000 in
theorem pos_gram {w : World} {base : Nat} {a : Addr} {n c : Nat} (h : Value.okWide Try.prog w .any base 24 (.agg #[.slice (some a) n c])) : 0 < w.heap.size := by
 simp only [Value.okWide, Try.underlying24] at h
 obtain ⟨cs, e, _, ts, hts, _, hcell⟩ := h
 injection e with e
 subst e
 rw [ct24] at hts
 injection hts with hts
 subst hts
 obtain ⟨u, hu, hk⟩ := hcell 0 (.slice (some a) n c) rfl
 simp at hu
 subst hu
 exact pos_cell Try.underlying22 hk
set_option maxRecDepth 100000 in
theorem pos_items {w : World} {base : Nat} {a : Addr} {n c : Nat} (h : Value.okWide Try.prog w .any base 25 (.slice (some a) n c)) : 0 < w.heap.size := by
 simp only [Value.okWide, Try.underlying25] at h
 exact pos_cell Try.underlying25 h
theorem vr_arg {w : World} {A : Option Addr} {n c : Nat} (k : OkS w A n c) (hp : ∀ a, A = some a → 0 < w.heap.size) : VR (rho0 w) (.slice (cleanA A c) n c) (.slice A n c) := by
 cases A with
 | none =>
   obtain ⟨rfl, rfl⟩ := k.nil rfl
   exact .slNil
 | some a =>
   rw [← cleanV_slice]
   exact k.vr (hp a rfl)
set_option maxRecDepth 100000 in
theorem called {f : FuncId} {args args' : List Value} {w : World} {b : Bool} {h1 : Hp} (s : Snd Try.prog f args (heap0 w) (.bool b) h1) (hv : VRs (rho0 w) args args') : Calls Try.prog f args'.toArray w fun e w' => e = .returned (.bool b) ∧ Below w.heap.size w w' := by
 refine (s.2 (rho0 w) ⟨w.heap.size, fun _ => False⟩ w args' (start0 Try.prog w) hv).mono ?_
 rintro e w1 ⟨ρ1, v', rfl, _, _, r3, r4⟩
 cases r3
 exact ⟨rfl, r4⟩
end Go.Ev.G24
end
section
namespace Go.Proofs.Ytcnllhnhinmokaa.parseOrdered
open Go.ChangeShapes Go.WideShapes Go.ChangeAt Go.RowKit Go.Ev Go.Ev.G24
open Go.ChangeMaps (open_string shut_string)
set_option linter.unusedVariables false
theorem own : ownKnob Try.prog.godebug = none := by kernel_rfl
theorem laidOut : laidOutB Try.prog = true := by kernel_rfl
set_option maxRecDepth 100000 in
theorem lifted (os : Os) (started : os.Started) (H : Type) (enc : TypeId × Value → H) :
  ReturnsInHanded {} Try.checked os 3 .any (Rows.parseOrderedSpec.pre6 enc Try.prog Try.f3 Rows.parseOrderedRow.domain false) (Rows.parseOrderedSpec.post enc Try.prog Try.f3 false true false false) := by
 refine returnsInHanded_of_change_sized (C := Try.checked) own started (by kernel_rfl) Try.func3
  (ChangeSpec.witness6 (enc := enc) (C := Try.checked) false ⟨#[], #[.agg #[.slice none 0 0], .string ⟨#[]⟩, .slice none 0 0], []⟩ 8 (by kernel_rfl) (by kernel_rfl) (by kernel_rfl) (by kernel_rfl)) ?_
 intro W base args ds gs before hval0 hW hcnd hsz0 _
 have hval : ∀ (j : Nat) t v, Try.f3.params[j]? = some t → args[j]? = some v → Value.okWide Try.prog W .any base t v := hval0
 have hW' := hW
 obtain ⟨p, q, hA0, hV, rfl, hfz, hnd⟩ := hW
 have hA : DataW.TrodAll enc Try.prog W 0 (fun _ => true) true Try.f3.params.toList args.toList ds p := hA0
 rw [Try.params3] at hA hval
 obtain ⟨v0, vs0, d0, ds0, p0, q0, hargs, rfl, rfl, h0, r0⟩ := trodAll_cons hA
 obtain ⟨v1, vs1, d1, ds1, p1, q1, rfl, rfl, rfl, h1, r1⟩ := trodAll_cons r0
 obtain ⟨v2, vs2, d2, ds2, p2, q2, rfl, rfl, rfl, h2, r2⟩ := trodAll_cons r1
 obtain ⟨rfl, rfl, rfl⟩ := trodAll_nil r2
 obtain rfl : args = #[v0, v1, v2] := by cases args; simp_all
 obtain ⟨rfl, rfl⟩ := trodVars_none hV
 obtain ⟨cs, rfl, hcs⟩ := okWide_struct Try.underlying24 (hval 0 24 v0 rfl rfl)
 have k0 := h0
 have k1 := h1
 have k2 := h2
 have lt0 : ∀ x ∈ p0, x.block < W.heap.size := by
  obtain ⟨m, hm⟩ := k0
  exact DataW.trod_lt m _ _ _ hm
 have lt1 : ∀ x ∈ p1, x.block < W.heap.size := by
  obtain ⟨m, hm⟩ := k1
  exact DataW.trod_lt m _ _ _ hm
 have lt2 : ∀ x ∈ p2, x.block < W.heap.size := by
  obtain ⟨m, hm⟩ := k2
  exact DataW.trod_lt m _ _ _ hm
 obtain ⟨fuel0, hf0⟩ := h0
 obtain ⟨fuel1, hf1⟩ := h1
 obtain ⟨fuel2, hf2⟩ := h2
 obtain ⟨A0, c0, g, hcells0, ok0, b0, o0, css0, RG⟩ := open_grammar fuel0 _ _ hf0
 obtain ⟨A2, c2, items, hcells2, ok2, b2, o2, RS⟩ := open_items fuel2 _ _ hf2
 obtain ⟨rule, hcells1, _, _⟩ := DataW.trod_string Try.underlying9 hf1
 have hagg : cs = #[.slice A0 g.length c0] := by
  apply Array.ext'
  simpa [Value.cells] using hcells0
 subst hagg
 have hv1 : v1 = .string rule := by
  obtain ⟨s, rfl⟩ := okWide_string Try.underlying9 (hval 1 9 v1 rfl rfl)
  simpa [Value.cells] using hcells1
 have hv2 : v2 = .slice A2 items.length c2 := by
  obtain ⟨a, n, c, rfl⟩ := okWide_slice Try.underlying25 (hval 2 25 v2 rfl rfl)
  simpa [Value.cells] using hcells2
 subst hv1
 subst hv2
 have pos0 : ∀ a, A0 = some a → 0 < W.heap.size := fun a e => by
  subst e
  exact pos_gram (hval 0 24 _ rfl rfl)
 have pos2 : ∀ a, A2 = some a → 0 < W.heap.size := fun a e => by
  subst e
  exact pos_items (hval 2 25 _ rfl rfl)
 obtain ⟨_, hh, hs, rfl⟩ := law_c RG RS ok2.spotless rule (heap0 W) (heap0_rom W) (Nat.le_refl _)
 clear hA0 hval0 hsz0
 refine (called hs (args' := [.agg #[.slice A0 g.length c0], .string rule, .slice A2 items.length c2]) (.cons (.agg (.cons (vr_arg ok0 pos0) .nil)) (.cons (.string _) (.cons (vr_arg ok2 pos2) .nil)))).mono fun e W' ⟨he, bel⟩ => ?_
 subst he
 exact ⟨_, rfl, _, _, _, [], _, [], hW', trodAll_mk1 (shut_bool Try.underlying4 _), (trodAll_cons_mk (Below.trod laidOut (by kernel_rfl) (of_decide_eq_true (by kernel_rfl)) k0 bel lt0) (trodAll_cons_mk (Below.trod laidOut (by kernel_rfl) (of_decide_eq_true (by kernel_rfl)) k1 bel lt1) (trodAll_cons_mk (Below.trod laidOut (by kernel_rfl) (of_decide_eq_true (by kernel_rfl)) k2 bel lt2) trodAll_mk0))), rfl, bel.frame _, fun h => by cases h⟩
theorem over : Rows.parseOrderedRow.holds Try.pinned (OpenSpec.ofChange Rows.parseOrderedSpec) :=
 OpenClaim.holds_of_wide 3 Try.f3 rfl rfl rfl rfl rfl rfl rfl ⟨rfl, rfl, rfl, rfl, rfl⟩ rfl rfl rfl rfl rfl (by kernel_rfl) Try.func3 (by kernel_rfl)
  (of_decide_eq_true (by kernel_rfl)) (by unfold Func.isWrapper; first | (rw [if_pos (by decide +kernel)]; kernel_rfl) | (rw [if_neg (by decide +kernel)]; exact ⟨rfl, rfl⟩))
  (fun os started H enc _ => lifted os started H enc)
theorem proved : Rows.ParseOrderedSaid := over
#print axioms proved
end Go.Proofs.Ytcnllhnhinmokaa.parseOrdered
namespace Go.Proofs.Ytcnllhnhinmokaa
theorem parseOrdered_holds : Rows.ParseOrderedSaid := parseOrdered.proved
end Go.Proofs.Ytcnllhnhinmokaa
end
