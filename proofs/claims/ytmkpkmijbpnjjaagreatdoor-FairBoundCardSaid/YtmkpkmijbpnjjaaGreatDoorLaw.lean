/- The law FairBound holds: for any number of threads and any options the program's bound and error are those of the document's answer. The row lists ten tables of Go's library as the program's text lays them; nothing on the road to the answer reads one. -/
import Derived.Test.YtmkpkmijbpnjjaaGreatDoorRows
import Derived.Test.YtmkpkmijbpnjjaaGreatDoorPHFbx1
import Derived.Test.YtmkpkmijbpnjjaaGreatDoorFacts
import Derived.WalkKit
import Derived.ProofKit
import Derived.OpenShut
import Derived.ChangeOld
import Derived.Below
import Derived.SizedLaws
import Derived.Carry
import Derived.Lay
import Derived.LaidOnce
import Derived.Lib.LaidRTab
namespace Go.Proofs.YtmkpkmijbpnjjaaGreatDoor.fairBound
open Go.ChangeShapes Go.WideShapes Go.ChangeAt Go.RowKit Go.Proofs.YtmkpkmijbpnjjaaGreatDoor.PHFb
set_option linter.unusedVariables false

theorem fits_valid (q r : Int) : fair_fits.f q r = manystrandref14_valid.f q r := rfl
theorem valid_some (q r : Int) : ∃ b, manystrandref14_valid.f q r = some b := by
  unfold manystrandref14_valid.f
  repeat' split
  all_goals exact ⟨_, rfl⟩

/-- Both bounds are one. -/
theorem pure (a q r : Int) : manystrandlaw14_FairBound.f a q r = some true := by
  have e : fair_Bound.f a q r = manystrandref14_Bound.f a q r ∧ ∃ x, fair_Bound.f a q r = some x := by
    unfold fair_Bound.f manystrandref14_Bound.f
    rw [fits_valid]
    obtain ⟨b, hb⟩ := valid_some q r
    rw [hb]
    simp only [Option.bind_some]
    cases b <;> by_cases h1 : a < 1 <;> by_cases h2 : a > 4000 <;> simp [h1, h2]
  obtain ⟨e1, x, e2⟩ := e
  unfold manystrandlaw14_FairBound.f
  rw [← e1, e2]
  simp [manystrandlaw14_awake.f]

theorem own : ownKnob Tryz.prog.godebug = none := by kernel_rfl
theorem laidOut : laidOutB Tryz.prog = true := by kernel_rfl

set_option maxRecDepth 100000 in
theorem lifted (os : Os) (started : os.Started) (H : Type) (enc : TypeId × Value → H) :
    ReturnsInHanded {} Tryz.checked os 3 .any (fun w args => (Rows.fairBoundSpec.pre enc Tryz.prog Tryz.f3 [] false w args ∧ laidMetH Tryz.prog Rows.fairBoundRow.laid w) ∧ sizedMet enc Tryz.prog Tryz.f3 (OpenSpec.ofChange Rows.fairBoundSpec) false w args)
      (Rows.fairBoundSpec.post enc Tryz.prog Tryz.f3 false true false false) := by
  refine returnsInHanded_of_change_and (C := Tryz.checked) (X := fun w _ => laidMetH Tryz.prog Rows.fairBoundRow.laid w) (fun _ _ _ hh h => h.of_heap hh) own started (by kernel_rfl) Tryz.func3
    (ChangeSpec.witness_shaped (enc := enc) (C := Tryz.checked) (os := os) (X := fun w _ => laidMetH Tryz.prog Rows.fairBoundRow.laid w) false (World.laidAll Tryz.prog os Rows.fairBoundRow.laid) #[.int .i64 0, .agg #[.int .i64 0, .int .i64 0]] 8 (World.laidAll_os _ _ _)
      (World.shaped_of_ZipB (by kernel_rfl) (by kernel_rfl)) (by kernel_rfl) (by kernel_rfl) (by kernel_rfl)
      (by rw [MakeChecks.laidMetH_plain _ _ _ (by kernel_rfl)]; exact laidMet_laidAll _ (by kernel_rfl) (by kernel_rfl))) ?_
  intro W base args ds gs before hval0 hW _ _ hL _
  have hval : ∀ (j : Nat) t v, Tryz.f3.params[j]? = some t → args[j]? = some v → Value.okWide Tryz.prog W .any base t v := hval0
  have hW' := hW
  obtain ⟨p, q, hA0, hV, rfl, _, _⟩ := hW
  have hA : DataW.TrodAll enc Tryz.prog W 0 (fun _ => true) true Tryz.f3.params.toList args.toList ds p := hA0
  rw [Tryz.params3] at hA hval
  obtain ⟨v0, vs0, d0, ds0, p0, q0, hargs, rfl, rfl, h0, r0⟩ := trodAll_cons hA
  obtain ⟨v1, vs1, d1, ds1, p1, q1, rfl, rfl, rfl, h1, r1⟩ := trodAll_cons r0
  obtain ⟨rfl, rfl, rfl⟩ := trodAll_nil r1
  obtain rfl : args = #[v0, v1] := by apply Array.ext'; simpa using hargs
  obtain ⟨rfl, rfl⟩ := trodVars_none hV
  obtain ⟨x, rfl, rfl, rfl, wx⟩ := open_int Tryz.underlying3 (hval 0 3 v0 rfl rfl) h0
  obtain ⟨cs, rfl, hcs⟩ := okWide_struct Tryz.underlying23 (hval 1 23 v1 rfl rfl)
  have lt1 : ∀ y ∈ p1, y.block < W.heap.size := by
    obtain ⟨m, hm⟩ := h1
    exact DataW.trod_lt m _ _ _ hm
  have k1 := h1
  obtain ⟨fuel, hf⟩ := h1
  obtain ⟨xs, n, hfu, hdp, hlen, hxl, hfs⟩ := DataW.trod_struct Tryz.underlying23 hf
  have c3 : Tryz.prog.cellsOf 3 = 1 := by kernel_rfl
  have c23 : Tryz.prog.cellsOf 23 = 2 := by kernel_rfl
  rw [c23] at hlen
  obtain ⟨y0, y1, rfl⟩ : ∃ y0 y1, xs = [y0, y1] := by
    match xs, hxl with
    | [y0, y1], _ => exact ⟨_, _, rfl⟩
  have g0 := hfs 0 { name := "Quantum", type := 3, offset := 0, embedded := false, tag := "", pkgPath := "", byteOffset := 0 } rfl
  have g1 := hfs 1 { name := "Ratio", type := 3, offset := 1, embedded := false, tag := "", pkgPath := "", byteOffset := 8 } rfl
  simp only [c3, List.getElem?_cons_zero, List.getElem?_cons_succ] at g0 g1
  obtain ⟨a0, e0, _, _⟩ := DataW.trod_int Tryz.underlying3 g0
  obtain ⟨a1, e1, _, _⟩ := DataW.trod_int Tryz.underlying3 g1
  have hagg : cs = #[.int .i64 a0, .int .i64 a1] := by
    apply Array.ext'
    simp only [Value.cells] at hlen e0 e1
    revert hlen e0 e1
    match cs.toList with
    | [] => intro h; simp at h
    | [_] => intro h; simp at h
    | [u, v] => intro _ h1 h2; simp at h1 h2; simp [h1, h2]
    | _ :: _ :: _ :: _ => intro h; simp at h
  subst hagg
  clear hA0 hval0
  refine (manystrandlaw14_FairBound.calls x a0 a1 true W (pure x a0 a1)).mono fun e W' ⟨he, bel⟩ => ?_
  subst he
  exact ⟨_, rfl, _, _, _, [], _, [], hW', trodAll_mk1 (shut_bool Tryz.underlying4 _), (trodAll_cons_mk (shut_int Tryz.underlying3 wx) (trodAll_cons_mk (Below.trod laidOut (by kernel_rfl) (of_decide_eq_true (by kernel_rfl)) k1 bel lt1) trodAll_mk0)), rfl, bel.frame _, fun h => by cases h⟩

theorem named3 : Tryz.prog.funcNamed "manystrand/manystrandlaw14.FairBound" = some 3 := by kernel_rfl
theorem over : Rows.FairBoundSaid :=
  OpenClaim.holds_of_wide 3 Tryz.f3 rfl rfl rfl rfl rfl rfl rfl ⟨rfl, rfl, rfl, rfl, rfl⟩ rfl rfl rfl rfl rfl named3 Tryz.func3 closed
    (of_decide_eq_true (by kernel_rfl)) (by unfold Func.isWrapper; first | (rw [if_pos (by decide +kernel)]; kernel_rfl) | (rw [if_neg (by decide +kernel)]; exact ⟨rfl, rfl⟩))
    (fun os started H enc _ => lifted os started H enc)
#print axioms over
end Go.Proofs.YtmkpkmijbpnjjaaGreatDoor.fairBound
