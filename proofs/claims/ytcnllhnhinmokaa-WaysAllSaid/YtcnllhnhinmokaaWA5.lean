/- For every grammar, rule, items and number, Ways answers exactly the document's trees in their order, where the document's search takes at most 20,000 steps (no condition on the arguments): part 6 of 6. -/
import Derived.Test.YtcnllhnhinmokaaWA4
section
namespace Go.Proofs.Ytcnllhnhinmokaa.waysAll
open Go.ChangeShapes Go.WideShapes Go.ChangeAt Go.RowKit Go.Ev Go.Ev.G24
open Go.ChangeMaps (open_string shut_string)
set_option linter.unusedVariables false
theorem own : ownKnob Try.prog.godebug = none := by kernel_rfl
theorem laidOut : laidOutB Try.prog = true := by kernel_rfl
set_option maxRecDepth 100000 in
theorem lifted (os : Os) (started : os.Started) (H : Type) (enc : TypeId × Value → H) :
  ReturnsInHanded {} Try.checked os 5 .any (Rows.waysAllSpec.pre6 enc Try.prog Try.f5 Rows.waysAllRow.domain false) (Rows.waysAllSpec.post enc Try.prog Try.f5 false true false false) := by
 refine returnsInHanded_of_change_sized (C := Try.checked) own started (by kernel_rfl) Try.func5
  (ChangeSpec.witness6 (enc := enc) (C := Try.checked) false ⟨#[], #[.agg #[.slice none 0 0], .string ⟨#[]⟩, .slice none 0 0, .int .i64 0], []⟩ 8 (by kernel_rfl) (by kernel_rfl) (by kernel_rfl) (by kernel_rfl)) ?_
 intro W base args ds gs before hval0 hW hcnd hsz0 _
 have hval : ∀ (j : Nat) t v, Try.f5.params[j]? = some t → args[j]? = some v → Value.okWide Try.prog W .any base t v := hval0
 have hW' := hW
 obtain ⟨p, q, hA0, hV, rfl, hfz, hnd⟩ := hW
 have hA : DataW.TrodAll enc Try.prog W 0 (fun _ => true) true Try.f5.params.toList args.toList ds p := hA0
 rw [Try.params5] at hA hval
 obtain ⟨v0, vs0, d0, ds0, p0, q0, hargs, rfl, rfl, h0, r0⟩ := trodAll_cons hA
 obtain ⟨v1, vs1, d1, ds1, p1, q1, rfl, rfl, rfl, h1, r1⟩ := trodAll_cons r0
 obtain ⟨v2, vs2, d2, ds2, p2, q2, rfl, rfl, rfl, h2, r2⟩ := trodAll_cons r1
 obtain ⟨v3, vs3, d3, ds3, p3, q3, rfl, rfl, rfl, h3, r3⟩ := trodAll_cons r2
 obtain ⟨rfl, rfl, rfl⟩ := trodAll_nil r3
 obtain rfl : args = #[v0, v1, v2, v3] := by cases args; simp_all
 obtain ⟨rfl, rfl⟩ := trodVars_none hV
 obtain ⟨cs, rfl, hcs⟩ := okWide_struct Try.underlying24 (hval 0 24 v0 rfl rfl)
 have k0 := h0
 have k1 := h1
 have k2 := h2
 have k3 := h3
 have lt0 : ∀ x ∈ p0, x.block < W.heap.size := by
  obtain ⟨m, hm⟩ := k0
  exact DataW.trod_lt m _ _ _ hm
 have lt1 : ∀ x ∈ p1, x.block < W.heap.size := by
  obtain ⟨m, hm⟩ := k1
  exact DataW.trod_lt m _ _ _ hm
 have lt2 : ∀ x ∈ p2, x.block < W.heap.size := by
  obtain ⟨m, hm⟩ := k2
  exact DataW.trod_lt m _ _ _ hm
 have lt3 : ∀ x ∈ p3, x.block < W.heap.size := by
  obtain ⟨m, hm⟩ := k3
  exact DataW.trod_lt m _ _ _ hm
 obtain ⟨most, rfl⟩ := okWide_int Try.underlying3 (hval 3 3 v3 rfl rfl)
 obtain ⟨fuel0, hf0⟩ := h0
 obtain ⟨fuel1, hf1⟩ := h1
 obtain ⟨fuel2, hf2⟩ := h2
 obtain ⟨A0, c0, g, hcells0, ok0, b0, o0, css0, RG⟩ := open_grammar fuel0 _ _ hf0
 obtain ⟨A2, c2, items, hcells2, ok2, b2, o2, RS⟩ := open_items fuel2 _ _ hf2
 obtain ⟨rule, hcells1, _, _⟩ := DataW.trod_string Try.underlying9 hf1
 have hagg : cs = #[.slice A0 g.length c0] := by
  apply Array.ext'
  simpa [Value.cells] using hcells0
 subst hagg
 have hv1 : v1 = .string rule := by
  obtain ⟨s, rfl⟩ := okWide_string Try.underlying9 (hval 1 9 v1 rfl rfl)
  simpa [Value.cells] using hcells1
 have hv2 : v2 = .slice A2 items.length c2 := by
  obtain ⟨a, n, c, rfl⟩ := okWide_slice Try.underlying25 (hval 2 25 v2 rfl rfl)
  simpa [Value.cells] using hcells2
 subst hv1
 subst hv2
 have pos0 : ∀ a, A0 = some a → 0 < W.heap.size := fun a e => by
  subst e
  exact pos_gram (hval 0 24 _ rfl rfl)
 have pos2 : ∀ a, A2 = some a → 0 < W.heap.size := fun a e => by
  subst e
  exact pos_items (hval 2 25 _ rfl rfl)
 obtain ⟨_, hh, hs, rfl⟩ := law2_c RG RS ok2.spotless rule most (heap0 W) (heap0_rom W) (Nat.le_refl _)
 clear hA0 hval0 hsz0
 refine (called hs (args' := [.agg #[.slice A0 g.length c0], .string rule, .slice A2 items.length c2, .int .i64 most]) (.cons (.agg (.cons (vr_arg ok0 pos0) .nil)) (.cons (.string _) (.cons (vr_arg ok2 pos2) (.cons (.int _ _) .nil))))).mono fun e W' ⟨he, bel⟩ => ?_
 subst he
 exact ⟨_, rfl, _, _, _, [], _, [], hW', trodAll_mk1 (shut_bool Try.underlying4 _), (trodAll_cons_mk (Below.trod laidOut (by kernel_rfl) (of_decide_eq_true (by kernel_rfl)) k0 bel lt0) (trodAll_cons_mk (Below.trod laidOut (by kernel_rfl) (of_decide_eq_true (by kernel_rfl)) k1 bel lt1) (trodAll_cons_mk (Below.trod laidOut (by kernel_rfl) (of_decide_eq_true (by kernel_rfl)) k2 bel lt2) (trodAll_cons_mk (Below.trod laidOut (by kernel_rfl) (of_decide_eq_true (by kernel_rfl)) k3 bel lt3) trodAll_mk0)))), rfl, bel.frame _, fun h => by cases h⟩
theorem over : Rows.waysAllRow.holds Try.pinned (OpenSpec.ofChange Rows.waysAllSpec) :=
 OpenClaim.holds_of_wide 5 Try.f5 rfl rfl rfl rfl rfl rfl rfl ⟨rfl, rfl, rfl, rfl, rfl⟩ rfl rfl rfl rfl rfl (by kernel_rfl) Try.func5 (by kernel_rfl)
  (of_decide_eq_true (by kernel_rfl)) (by unfold Func.isWrapper; first | (rw [if_pos (by decide +kernel)]; kernel_rfl) | (rw [if_neg (by decide +kernel)]; exact ⟨rfl, rfl⟩))
  (fun os started H enc _ => lifted os started H enc)
theorem proved : Rows.WaysAllSaid := over
#print axioms proved
end Go.Proofs.Ytcnllhnhinmokaa.waysAll
namespace Go.Proofs.Ytcnllhnhinmokaa
theorem waysAll_holds : Rows.WaysAllSaid := waysAll.proved
end Go.Proofs.Ytcnllhnhinmokaa
end
