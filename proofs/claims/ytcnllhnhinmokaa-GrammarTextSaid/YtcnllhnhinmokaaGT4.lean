/- For every grammar, Text tells what the document's answer tells, and Read of a told Text is the grammar (no condition on the grammar): part 5 of 6. -/
import Derived.Test.YtcnllhnhinmokaaGT3
section
namespace Go.Proofs.Ytcnllhnhinmokaa.PHGr
open Go.RowKit Go.Proofs.YtcnllhnhinmokaaW.PrintWords Go.Proofs.YtcnllhnhinmokaaW.PrintLast Go.Proofs.YtcnllhnhinmokaaW.PrintMore
attribute [local go_sem] max2_int min2_int max_two min_two max_three min_three max_four min_four
set_option linter.unusedVariables false
set_option linter.unusedSimpArgs false
mutual
def grammar_reader_body.l0 : Nat → ByteArray → Int → Bool → ByteArray → ByteArray → List (S52) → Option (ByteArray × ByteArray × (List (S52)) × ByteArray × Int × Bool)
 | 0, _, _, _, _, _, _ => none
 | k + 1, x1000, x1001, x1002, x291000, x291001, x291002 => (grammar_reader_takes.f x1000 x1001 x1002 (⟨#[32, 47, 32]⟩ : ByteArray)).bind fun bt291 => (if bt291.1 = true then ((grammar_reader_body.f k bt291.2.1 bt291.2.2.1 bt291.2.2.2).bind fun bt295 => (if x291002.length < 2513169434916 then (grammar_reader_body.l0 k bt295.2.2.2.1 bt295.2.2.2.2.1 bt295.2.2.2.2.2 x291000 x291001 (x291002 ++ [(⟨bt295.1, bt295.2.1, bt295.2.2.1⟩ : S52)])) else (none))) else ((grammar_reader_must.f bt291.2.1 bt291.2.2.1 bt291.2.2.2 (⟨#[32, 41]⟩ : ByteArray)).bind fun bt306 => (some (x291000, x291001, x291002, bt306.1, bt306.2.1, bt306.2.2))))
def grammar_reader_body.l1 : Nat → List (S52) → ByteArray → Int → Bool → Option (ByteArray × ByteArray × (List (S52)) × ByteArray × Int × Bool)
 | 0, _, _, _, _ => none
 | k + 1, x5, x1000, x1001, x1002 => if x1002 = true then (grammar_reader_body.j2 k x5 false x1000 x1001 x1002) else ((grammar_reader_takes.f x1000 x1001 x1002 (⟨#[32, 41]⟩ : ByteArray)).bind fun bt336 => (grammar_reader_body.j2 k x5 (!bt336.1) bt336.2.1 bt336.2.2.1 bt336.2.2.2))
def grammar_reader_body.j2 : Nat → List (S52) → Bool → ByteArray → Int → Bool → Option (ByteArray × ByteArray × (List (S52)) × ByteArray × Int × Bool)
 | 0, _, _, _, _, _ => none
 | k + 1, x5, x84, x1000, x1001, x1002 => if x84 = true then ((grammar_reader_must.f x1000 x1001 x1002 (⟨#[32]⟩ : ByteArray)).bind fun bt340 => ((grammar_reader_body.f k bt340.1 bt340.2.1 bt340.2.2).bind fun bt343 => (if x5.length < 2513169434916 then (grammar_reader_body.l1 k (x5 ++ [(⟨bt343.1, bt343.2.1, bt343.2.2.1⟩ : S52)]) bt343.2.2.2.1 bt343.2.2.2.2.1 bt343.2.2.2.2.2) else (none)))) else (some ((⟨#[115, 101, 113]⟩ : ByteArray), (⟨#[]⟩ : ByteArray), x5, x1000, x1001, x1002))
def grammar_reader_body.f : Nat → ByteArray → Int → Bool → Option (ByteArray × ByteArray × (List (S52)) × ByteArray × Int × Bool)
 | 0, _, _, _ => none
 | k + 1, s0_0, s0_1, s0_2 => if s0_2 = true then (some ((⟨#[]⟩ : ByteArray), (⟨#[]⟩ : ByteArray), ([] : List (S52)), s0_0, s0_1, s0_2)) else ((grammar_reader_takes.f s0_0 s0_1 s0_2 (⟨#[39]⟩ : ByteArray)).bind fun bt240 => (if bt240.1 = true then ((grammar_reader_atom.f k bt240.2.1 bt240.2.2.1 bt240.2.2.2).bind fun bt244 => (some ((⟨#[105, 115]⟩ : ByteArray), bt244.1, ([] : List (S52)), bt244.2.1, bt244.2.2.1, bt244.2.2.2))) else ((grammar_reader_takes.f bt240.2.1 bt240.2.2.1 bt240.2.2.2 (⟨#[46]⟩ : ByteArray)).bind fun bt248 => (if bt248.1 = true then (some ((⟨#[97, 110, 121]⟩ : ByteArray), (⟨#[]⟩ : ByteArray), ([] : List (S52)), bt248.2.1, bt248.2.2.1, bt248.2.2.2)) else ((grammar_reader_takes.f bt248.2.1 bt248.2.2.1 bt248.2.2.2 (⟨#[40, 41]⟩ : ByteArray)).bind fun bt252 => (if bt252.1 = true then (some ((⟨#[110, 111, 116, 104, 105, 110, 103]⟩ : ByteArray), (⟨#[]⟩ : ByteArray), ([] : List (S52)), bt252.2.1, bt252.2.2.1, bt252.2.2.2)) else ((grammar_reader_takes.f bt252.2.1 bt252.2.2.1 bt252.2.2.2 (⟨#[40, 32, 33, 32]⟩ : ByteArray)).bind fun bt256 => (if bt256.1 = true then ((grammar_reader_body.f k bt256.2.1 bt256.2.2.1 bt256.2.2.2).bind fun bt260 => ((grammar_reader_must.f bt260.2.2.2.1 bt260.2.2.2.2.1 bt260.2.2.2.2.2 (⟨#[32, 41]⟩ : ByteArray)).bind fun bt272 => (some ((⟨#[110, 111, 116]⟩ : ByteArray), (⟨#[]⟩ : ByteArray), (([(⟨bt260.1, bt260.2.1, bt260.2.2.1⟩ : S52)] : List (S52))), bt272.1, bt272.2.1, bt272.2.2)))) else ((grammar_reader_takes.f bt256.2.1 bt256.2.2.1 bt256.2.2.2 (⟨#[40, 32, 47, 32]⟩ : ByteArray)).bind fun bt275 => (if bt275.1 = true then ((grammar_reader_body.f k bt275.2.1 bt275.2.2.1 bt275.2.2.2).bind fun bt279 => (grammar_reader_body.l0 k bt279.2.2.2.1 bt279.2.2.2.2.1 bt279.2.2.2.2.2 (⟨#[111, 114]⟩ : ByteArray) (⟨#[]⟩ : ByteArray) (([(⟨bt279.1, bt279.2.1, bt279.2.2.1⟩ : S52)] : List (S52))))) else ((grammar_reader_takes.f bt275.2.1 bt275.2.2.1 bt275.2.2.2 (⟨#[40, 32]⟩ : ByteArray)).bind fun bt309 => (if bt309.1 = true then ((grammar_reader_body.f k bt309.2.1 bt309.2.2.1 bt309.2.2.2).bind fun bt317 => ((some (([(⟨bt317.1, bt317.2.1, bt317.2.2.1⟩ : S52)] : List (S52)) : List (S52))).bind fun y325 => ((grammar_reader_takes.f bt317.2.2.2.1 bt317.2.2.2.2.1 bt317.2.2.2.2.2 (⟨#[32, 42, 32, 41]⟩ : ByteArray)).bind fun bt328 => (if bt328.1 = true then (some ((⟨#[109, 97, 110, 121]⟩ : ByteArray), (⟨#[]⟩ : ByteArray), y325, bt328.2.1, bt328.2.2.1, bt328.2.2.2)) else ((grammar_reader_takes.f bt328.2.1 bt328.2.2.1 bt328.2.2.2 (⟨#[32, 63, 32, 41]⟩ : ByteArray)).bind fun bt332 => (if bt332.1 = true then (some ((⟨#[111, 112, 116]⟩ : ByteArray), (⟨#[]⟩ : ByteArray), y325, bt332.2.1, bt332.2.2.1, bt332.2.2.2)) else (grammar_reader_body.l1 k y325 bt332.2.1 bt332.2.2.1 bt332.2.2.2))))))) else ((grammar_reader_name.f k bt309.2.1 bt309.2.2.1 bt309.2.2.2).bind fun bt313 => (some ((⟨#[114, 117, 108, 101]⟩ : ByteArray), bt313.1, ([] : List (S52)), bt313.2.1, bt313.2.2.1, bt313.2.2.2)))))))))))))))
end
def grammar_reader_body.T16 : Bool × List (List Nat × List Nat) := (true, [([], []), ([0], [0]), ([], []), ([2], [2]), ([3], [3]), ([1, 4, 3], [1, 4]), ([0, 1, 2, 3, 4, 5], []), ([6, 5, 5, 0, 1, 2, 3, 4, 5], [5, 6])])
def grammar_reader_body.B16 : List Nat := [0, 1, 0, 4, 12, 31, 63, 127]
theorem grammar_reader_body.tab16 : rtab .any (opsOf Try.f54 16) = grammar_reader_body.T16 := by kernel_rfl
theorem grammar_reader_body.bits16 : waitsOk grammar_reader_body.T16.2 grammar_reader_body.B16 = true := by kernel_rfl
set_option maxHeartbeats 8000000 in
set_option maxRecDepth 100000 in
theorem grammar_reader_body.calls (k : Nat) : ∀ (g : Nat) (s0_0 : ByteArray) (s0_1 : Int) (s0_2 : Bool) (r1 : ByteArray) (r2 : ByteArray) (r3 : List (S52)) (r4 : ByteArray) (r5 : Int) (r6 : Bool) (w0 w : World) (hI : IsS99 w0 w g s0_0 s0_1 s0_2) (hB : Below w0.heap.size w0 w) (h : grammar_reader_body.f k s0_0 s0_1 s0_2 = some (r1, r2, r3, r4, r5, r6)),
 Calls Try.prog 54 #[.pointer (some ⟨g, 0, none⟩)] w fun e w' => ∃ v2_ : Value, e = .returned (.agg #[.string r1, .string r2, v2_]) ∧ Kd.N k52 52 w' w.heap.size (fun k_ => (w.heap.size ≤ k_)) v2_ r3 ∧ IsS99 w0 w' g r4 r5 r6 ∧ Below w0.heap.size w0 w' ∧ KeepBut w w' g none := by
 induction k using Nat.strongRecOn with
 | _ k ih =>
 intro g s0_0 s0_1 s0_2 r1 r2 r3 r4 r5 r6 w0 w hI hB h
 cases k with
 | zero => exact absurd h (by simp [grammar_reader_body.f])
 | succ k =>
 simp only [grammar_reader_body.f] at h
 have hu52 := Try.underlying52
 have HI0 := Aside0.mk hI
 have HK := Aside0.mk (KeepBut.refl w g none)
 have HL := Aside0.mk hB.size
 clear hI
 have HW0 := Aside0.mk hB.size
 have HB := Aside0.mk hB
 clear hB
 have H : (if s0_2 = true then (some ((⟨#[]⟩ : ByteArray), (⟨#[]⟩ : ByteArray), ([] : List (S52)), s0_0, s0_1, s0_2)) else ((grammar_reader_takes.f s0_0 s0_1 s0_2 (⟨#[39]⟩ : ByteArray)).bind fun bt240 => (if bt240.1 = true then ((grammar_reader_atom.f k bt240.2.1 bt240.2.2.1 bt240.2.2.2).bind fun bt244 => (some ((⟨#[105, 115]⟩ : ByteArray), bt244.1, ([] : List (S52)), bt244.2.1, bt244.2.2.1, bt244.2.2.2))) else ((grammar_reader_takes.f bt240.2.1 bt240.2.2.1 bt240.2.2.2 (⟨#[46]⟩ : ByteArray)).bind fun bt248 => (if bt248.1 = true then (some ((⟨#[97, 110, 121]⟩ : ByteArray), (⟨#[]⟩ : ByteArray), ([] : List (S52)), bt248.2.1, bt248.2.2.1, bt248.2.2.2)) else ((grammar_reader_takes.f bt248.2.1 bt248.2.2.1 bt248.2.2.2 (⟨#[40, 41]⟩ : ByteArray)).bind fun bt252 => (if bt252.1 = true then (some ((⟨#[110, 111, 116, 104, 105, 110, 103]⟩ : ByteArray), (⟨#[]⟩ : ByteArray), ([] : List (S52)), bt252.2.1, bt252.2.2.1, bt252.2.2.2)) else ((grammar_reader_takes.f bt252.2.1 bt252.2.2.1 bt252.2.2.2 (⟨#[40, 32, 33, 32]⟩ : ByteArray)).bind fun bt256 => (if bt256.1 = true then ((grammar_reader_body.f k bt256.2.1 bt256.2.2.1 bt256.2.2.2).bind fun bt260 => ((grammar_reader_must.f bt260.2.2.2.1 bt260.2.2.2.2.1 bt260.2.2.2.2.2 (⟨#[32, 41]⟩ : ByteArray)).bind fun bt272 => (some ((⟨#[110, 111, 116]⟩ : ByteArray), (⟨#[]⟩ : ByteArray), (([(⟨bt260.1, bt260.2.1, bt260.2.2.1⟩ : S52)] : List (S52))), bt272.1, bt272.2.1, bt272.2.2)))) else ((grammar_reader_takes.f bt256.2.1 bt256.2.2.1 bt256.2.2.2 (⟨#[40, 32, 47, 32]⟩ : ByteArray)).bind fun bt275 => (if bt275.1 = true then ((grammar_reader_body.f k bt275.2.1 bt275.2.2.1 bt275.2.2.2).bind fun bt279 => (grammar_reader_body.l0 k bt279.2.2.2.1 bt279.2.2.2.2.1 bt279.2.2.2.2.2 (⟨#[111, 114]⟩ : ByteArray) (⟨#[]⟩ : ByteArray) (([(⟨bt279.1, bt279.2.1, bt279.2.2.1⟩ : S52)] : List (S52))))) else ((grammar_reader_takes.f bt275.2.1 bt275.2.2.1 bt275.2.2.2 (⟨#[40, 32]⟩ : ByteArray)).bind fun bt309 => (if bt309.1 = true then ((grammar_reader_body.f k bt309.2.1 bt309.2.2.1 bt309.2.2.2).bind fun bt317 => ((some (([(⟨bt317.1, bt317.2.1, bt317.2.2.1⟩ : S52)] : List (S52)) : List (S52))).bind fun y325 => ((grammar_reader_takes.f bt317.2.2.2.1 bt317.2.2.2.2.1 bt317.2.2.2.2.2 (⟨#[32, 42, 32, 41]⟩ : ByteArray)).bind fun bt328 => (if bt328.1 = true then (some ((⟨#[109, 97, 110, 121]⟩ : ByteArray), (⟨#[]⟩ : ByteArray), y325, bt328.2.1, bt328.2.2.1, bt328.2.2.2)) else ((grammar_reader_takes.f bt328.2.1 bt328.2.2.1 bt328.2.2.2 (⟨#[32, 63, 32, 41]⟩ : ByteArray)).bind fun bt332 => (if bt332.1 = true then (some ((⟨#[111, 112, 116]⟩ : ByteArray), (⟨#[]⟩ : ByteArray), y325, bt332.2.1, bt332.2.2.1, bt332.2.2.2)) else (grammar_reader_body.l1 k y325 bt332.2.1 bt332.2.2.1 bt332.2.2.2))))))) else ((grammar_reader_name.f k bt309.2.1 bt309.2.2.1 bt309.2.2.2).bind fun bt313 => (some ((⟨#[114, 117, 108, 101]⟩ : ByteArray), bt313.1, ([] : List (S52)), bt313.2.1, bt313.2.2.1, bt313.2.2.2)))))))))))))))) = some (r1, r2, r3, r4, r5, r6) := h
 clear h
 by_cases c2 : s0_2 = true
 · subst c2
   rw [if_pos rfl] at H
   simp only [Option.some.injEq, Prod.mk.injEq] at H
   obtain ⟨rfl, rfl, rfl, rfl, rfl, rfl⟩ := H
   go_enter Try.func54, Try.ntmps54
   go_wp2_with (((with_reducible refine gate_dst (N := 2) rfl ?_); refine box_event ?hg (N := 2) ?hd (cs := #[.string (⟨#[]⟩ : ByteArray), .string (⟨#[]⟩ : ByteArray), .slice none 0 0]) (t := 52) ?hr ?_; (case hd => rfl); (case hg => rfl); (case hr => (go_simp; done)); intro gb239 hg w3 hbox hb; have n0_ := Aside0.mk (IsS99.below HI0.out hb); have n1_ := Aside0.mk (KeepBut.trans HK.out (KeepBut.of_below hb g none) (.inl rfl)); have n2_ := Aside0.mk (below_step HB.out hb); have n3_ := Aside0.mk (hbox); have n4_ := Aside0.mk ((by rw [hg]; exact (keep_size (w := w) (g := g) (row := none) HK.out) : w.heap.size ≤ gb239)); have n5_ := Aside0.mk ((Nat.le_trans HW0.out (by rw [hg]; exact (keep_size (w := w) (g := g) (row := none) HK.out) : w.heap.size ≤ gb239) : w0.heap.size ≤ gb239)); have n6_ := Aside0.mk ((by rw [hg]; exact Nat.ne_of_lt (IsS99.lt (show IsS99 w0 _ g s0_0 s0_1 true from by exact HI0.out)) : g ≠ gb239)); have n7_ := Aside0.mk ((by rw [hg]; exact Nat.ne_of_gt (IsS99.lt (show IsS99 w0 _ g s0_0 s0_1 true from by exact HI0.out)) : gb239 ≠ g)); clear HI0; clear HK; clear HB; have HI0 := n0_; have HK := n1_; have HB := n2_; have BK239 := n3_; have GW239 := n4_; have GE239 := n5_; have NB0_239 := n6_; have NB239_0 := n7_; clear n0_ n1_ n2_ n3_ n4_ n5_ n6_ n7_; clear hb hbox hg; obtain ⟨HGz4, hgz4⟩ := HI0.out; have hcz4_0 := cellS99_0 HGz4; have hcz4_1 := cellS99_1 HGz4; have hcz4_2 := cellS99_2 HGz4; have hfz4_0 := blk_frozen HGz4 0; have hfz4_1 := blk_frozen HGz4 1; have hfz4_2 := blk_frozen HGz4 2; clear HGz4 hgz4; have hnb5 := NB239_0.out; have hnc5 := NB0_239.out; have hcz6_0 : w3.cell? ⟨gb239, 0, none⟩ = some (.string (⟨#[]⟩ : ByteArray)) := (blk_cell BK239.out 0).trans rfl; have hcz6_1 : w3.cell? ⟨gb239, 1, none⟩ = some (.string (⟨#[]⟩ : ByteArray)) := (blk_cell BK239.out 1).trans rfl; have hcz6_2 : w3.cell? ⟨gb239, 2, none⟩ = some (.slice none 0 0) := (blk_cell BK239.out 2).trans rfl; have hfz6_0 := blk_frozen BK239.out 0; have hfz6_1 := blk_frozen BK239.out 1; have hfz6_2 := blk_frozen BK239.out 2))
   refine bodyPost_ret (results_cell_row rfl _ _ gb239 52 #[.string (⟨#[]⟩ : ByteArray), .string (⟨#[]⟩ : ByteArray), .slice none 0 0] (0, 0) _ rfl (by (with_reducible repeat (first | fail)); refine blk_put (cs := #[.string (⟨#[]⟩ : ByteArray), .string (⟨#[]⟩ : ByteArray), .slice none 0 0]) ?_ 2 _ rfl; (with_reducible repeat (first | fail)); refine blk_put (cs := #[.string (⟨#[]⟩ : ByteArray), .string (⟨#[]⟩ : ByteArray), .slice none 0 0]) ?_ 1 _ rfl; (with_reducible repeat (first | fail)); refine blk_put (cs := #[.string (⟨#[]⟩ : ByteArray), .string (⟨#[]⟩ : ByteArray), .slice none 0 0]) ?_ 0 _ rfl; (with_reducible repeat (first | fail)); exact BK239.out) Try.underlying52 rfl (by kernel_rfl)) rfl ?_
   exact ⟨_, by first | rfl, by first | exact Kd.N_nil _ _ _ _ _, by repeat ((with_reducible first | exact HI0.out | refine IsS99.far ?_ NB0_239.out _)), by repeat ((with_reducible first | exact HB.out | refine below_set ?_ GE239.out)), by repeat ((with_reducible first | exact HK.out | refine keep_far ?_ GW239.out _))⟩
 replace c2 := Bool.eq_false_iff.mpr c2
 subst c2
 rw [if_neg (show ¬ (false = true) by decide)] at H
 replace H := Option.bind_eq_some_iff.mp H
 obtain ⟨⟨t240, t241, t242, t243⟩, A70, H⟩ := H
 dsimp only at H
 have A7 := Aside0.mk A70
 clear A70
 by_cases c8 : t240 = true
 · subst c8
   rw [if_pos rfl] at H
   replace H := Option.bind_eq_some_iff.mp H
   obtain ⟨⟨t244, t245, t246, t247⟩, A90, H⟩ := H
   dsimp only at H
   have A9 := Aside0.mk A90
   clear A90
   simp only [Option.some.injEq, Prod.mk.injEq] at H
   obtain ⟨rfl, rfl, rfl, rfl, rfl, rfl⟩ := H
   go_enter Try.func54, Try.ntmps54
   go_wp2_with (first | ((with_reducible refine gate_dst (N := 2) rfl ?_); refine box_event ?hg (N := 2) ?hd (cs := #[.string (⟨#[]⟩ : ByteArray), .string (⟨#[]⟩ : ByteArray), .slice none 0 0]) (t := 52) ?hr ?_; (case hd => rfl); (case hg => rfl); (case hr => (go_simp; done)); intro gb239 hg w10 hbox hb; have n0_ := Aside0.mk (IsS99.below HI0.out hb); have n1_ := Aside0.mk (KeepBut.trans HK.out (KeepBut.of_below hb g none) (.inl rfl)); have n2_ := Aside0.mk (below_step HB.out hb); have n3_ := Aside0.mk (hbox); have n4_ := Aside0.mk ((by rw [hg]; exact (keep_size (w := w) (g := g) (row := none) HK.out) : w.heap.size ≤ gb239)); have n5_ := Aside0.mk ((Nat.le_trans HW0.out (by rw [hg]; exact (keep_size (w := w) (g := g) (row := none) HK.out) : w.heap.size ≤ gb239) : w0.heap.size ≤ gb239)); have n6_ := Aside0.mk ((by rw [hg]; exact Nat.ne_of_lt (IsS99.lt (show IsS99 w0 _ g s0_0 s0_1 false from by exact HI0.out)) : g ≠ gb239)); have n7_ := Aside0.mk ((by rw [hg]; exact Nat.ne_of_gt (IsS99.lt (show IsS99 w0 _ g s0_0 s0_1 false from by exact HI0.out)) : gb239 ≠ g)); clear HI0; clear HK; clear HB; have HI0 := n0_; have HK := n1_; have HB := n2_; have BK239 := n3_; have GW239 := n4_; have GE239 := n5_; have NB0_239 := n6_; have NB239_0 := n7_; clear n0_ n1_ n2_ n3_ n4_ n5_ n6_ n7_; clear hb hbox hg; obtain ⟨HGz11, hgz11⟩ := HI0.out; have hcz11_0 := cellS99_0 HGz11; have hcz11_1 := cellS99_1 HGz11; have hcz11_2 := cellS99_2 HGz11; have hfz11_0 := blk_frozen HGz11 0; have hfz11_1 := blk_frozen HGz11 1; have hfz11_2 := blk_frozen HGz11 2; clear HGz11 hgz11) | ((with_reducible refine gate_callee (f := 79) rfl ?_); refine goesL_ (some 14) rfl rfl Try.func79 (by kernel_rfl) rfl #[.pointer (some ⟨g, 0, none⟩), .string (⟨#[39]⟩ : ByteArray)] rfl (by (try simp only [List.map_toArray, List.map_cons, List.map_nil]); first | rfl) ?_; (with_reducible refine (grammar_reader_takes.calls g s0_0 s0_1 false (⟨#[39]⟩ : ByteArray) true t241 t242 t243 w0 _ ?side1 ?side2 A7.out).mono ?_); (case side1 => exact HI0.out); (case side2 => exact HB.out); rintro e w12 ⟨rfl, hi, hb, hk⟩; refine ⟨_, rfl, ?_⟩; have n0_ := Aside0.mk (KeepBut.blk hk (g' := gb239) (o := .cells #[.string (⟨#[]⟩ : ByteArray), .string (⟨#[]⟩ : ByteArray), .slice none 0 0] 52 (0, 0)) BK239.out NB239_0.out (by simp)); have n1_ := Aside0.mk (KeepBut.trans HK.out hk (.inl rfl)); have n2_ := Aside0.mk (hb); have n3_ := Aside0.mk (hi); clear BK239; clear HK; clear HB; clear HI0; have BK239 := n0_; have HK := n1_; have HB := n2_; have HI0 := n3_; clear n0_ n1_ n2_ n3_; (try clear hb); (try clear hk); (try clear hi)) | ((with_reducible refine gate_callee (f := 80) rfl ?_); refine goesL_ (some 16) rfl rfl Try.func80 (by kernel_rfl) rfl #[.pointer (some ⟨g, 0, none⟩)] rfl (by (try simp only [List.map_toArray, List.map_cons, List.map_nil]); first | rfl) ?_; (with_reducible refine (grammar_reader_atom.calls k g t241 t242 t243 t244 t245 t246 t247 w0 _ ?side1 ?side2 A9.out).mono ?_); (case side1 => exact HI0.out); (case side2 => exact HB.out); rintro e w13 ⟨rfl, hi, hb, hk⟩; refine ⟨_, rfl, ?_⟩; have n0_ := Aside0.mk (KeepBut.blk hk (g' := gb239) (o := .cells #[.string (⟨#[]⟩ : ByteArray), .string (⟨#[]⟩ : ByteArray), .slice none 0 0] 52 (0, 0)) BK239.out NB239_0.out (by simp)); have n1_ := Aside0.mk (KeepBut.trans HK.out hk (.inl rfl)); have n2_ := Aside0.mk (hb); have n3_ := Aside0.mk (hi); clear BK239; clear HK; clear HB; clear HI0; have BK239 := n0_; have HK := n1_; have HB := n2_; have HI0 := n3_; clear n0_ n1_ n2_ n3_; (try clear hb); (try clear hk); (try clear hi); have hnb14 := NB239_0.out; have hnc14 := NB0_239.out; have hcz15_0 : w13.cell? ⟨gb239, 0, none⟩ = some (.string (⟨#[]⟩ : ByteArray)) := (blk_cell BK239.out 0).trans rfl; have hcz15_1 : w13.cell? ⟨gb239, 1, none⟩ = some (.string (⟨#[]⟩ : ByteArray)) := (blk_cell BK239.out 1).trans rfl; have hcz15_2 : w13.cell? ⟨gb239, 2, none⟩ = some (.slice none 0 0) := (blk_cell BK239.out 2).trans rfl; have hfz15_0 := blk_frozen BK239.out 0; have hfz15_1 := blk_frozen BK239.out 1; have hfz15_2 := blk_frozen BK239.out 2))
   refine bodyPost_ret (results_cell_row rfl _ _ gb239 52 #[.string (⟨#[105, 115]⟩ : ByteArray), .string t244, .slice none 0 0] (0, 0) _ rfl (by (with_reducible repeat (first | fail)); refine blk_put (cs := #[.string (⟨#[105, 115]⟩ : ByteArray), .string t244, .slice none 0 0]) ?_ 2 _ rfl; (with_reducible repeat (first | fail)); refine blk_put (cs := #[.string (⟨#[105, 115]⟩ : ByteArray), .string (⟨#[]⟩ : ByteArray), .slice none 0 0]) ?_ 1 _ rfl; (with_reducible repeat (first | fail)); refine blk_put (cs := #[.string (⟨#[]⟩ : ByteArray), .string (⟨#[]⟩ : ByteArray), .slice none 0 0]) ?_ 0 _ rfl; (with_reducible repeat (first | fail)); exact BK239.out) Try.underlying52 rfl (by kernel_rfl)) rfl ?_
   exact ⟨_, by first | rfl, by first | exact Kd.N_nil _ _ _ _ _, by repeat ((with_reducible first | exact HI0.out | refine IsS99.far ?_ NB0_239.out _)), by repeat ((with_reducible first | exact HB.out | refine below_set ?_ GE239.out)), by repeat ((with_reducible first | exact HK.out | refine keep_far ?_ GW239.out _))⟩
 replace c8 := Bool.eq_false_iff.mpr c8
 subst c8
 rw [if_neg (show ¬ (false = true) by decide)] at H
 replace H := Option.bind_eq_some_iff.mp H
 obtain ⟨⟨t248, t249, t250, t251⟩, A160, H⟩ := H
 dsimp only at H
 have A16 := Aside0.mk A160
 clear A160
 by_cases c17 : t248 = true
 · subst c17
   rw [if_pos rfl] at H
   simp only [Option.some.injEq, Prod.mk.injEq] at H
   obtain ⟨rfl, rfl, rfl, rfl, rfl, rfl⟩ := H
   go_enter Try.func54, Try.ntmps54
   go_wp2_with (first | ((with_reducible refine gate_dst (N := 2) rfl ?_); refine box_event ?hg (N := 2) ?hd (cs := #[.string (⟨#[]⟩ : ByteArray), .string (⟨#[]⟩ : ByteArray), .slice none 0 0]) (t := 52) ?hr ?_; (case hd => rfl); (case hg => rfl); (case hr => (go_simp; done)); intro gb239 hg w18 hbox hb; have n0_ := Aside0.mk (IsS99.below HI0.out hb); have n1_ := Aside0.mk (KeepBut.trans HK.out (KeepBut.of_below hb g none) (.inl rfl)); have n2_ := Aside0.mk (below_step HB.out hb); have n3_ := Aside0.mk (hbox); have n4_ := Aside0.mk ((by rw [hg]; exact (keep_size (w := w) (g := g) (row := none) HK.out) : w.heap.size ≤ gb239)); have n5_ := Aside0.mk ((Nat.le_trans HW0.out (by rw [hg]; exact (keep_size (w := w) (g := g) (row := none) HK.out) : w.heap.size ≤ gb239) : w0.heap.size ≤ gb239)); have n6_ := Aside0.mk ((by rw [hg]; exact Nat.ne_of_lt (IsS99.lt (show IsS99 w0 _ g s0_0 s0_1 false from by exact HI0.out)) : g ≠ gb239)); have n7_ := Aside0.mk ((by rw [hg]; exact Nat.ne_of_gt (IsS99.lt (show IsS99 w0 _ g s0_0 s0_1 false from by exact HI0.out)) : gb239 ≠ g)); clear HI0; clear HK; clear HB; have HI0 := n0_; have HK := n1_; have HB := n2_; have BK239 := n3_; have GW239 := n4_; have GE239 := n5_; have NB0_239 := n6_; have NB239_0 := n7_; clear n0_ n1_ n2_ n3_ n4_ n5_ n6_ n7_; clear hb hbox hg; obtain ⟨HGz19, hgz19⟩ := HI0.out; have hcz19_0 := cellS99_0 HGz19; have hcz19_1 := cellS99_1 HGz19; have hcz19_2 := cellS99_2 HGz19; have hfz19_0 := blk_frozen HGz19 0; have hfz19_1 := blk_frozen HGz19 1; have hfz19_2 := blk_frozen HGz19 2; clear HGz19 hgz19) | ((with_reducible refine gate_callee (f := 79) rfl ?_); refine goesL_ (some 14) rfl rfl Try.func79 (by kernel_rfl) rfl #[.pointer (some ⟨g, 0, none⟩), .string (⟨#[39]⟩ : ByteArray)] rfl (by (try simp only [List.map_toArray, List.map_cons, List.map_nil]); first | rfl) ?_; (with_reducible refine (grammar_reader_takes.calls g s0_0 s0_1 false (⟨#[39]⟩ : ByteArray) false t241 t242 t243 w0 _ ?side1 ?side2 A7.out).mono ?_); (case side1 => exact HI0.out); (case side2 => exact HB.out); rintro e w20 ⟨rfl, hi, hb, hk⟩; refine ⟨_, rfl, ?_⟩; have n0_ := Aside0.mk (KeepBut.blk hk (g' := gb239) (o := .cells #[.string (⟨#[]⟩ : ByteArray), .string (⟨#[]⟩ : ByteArray), .slice none 0 0] 52 (0, 0)) BK239.out NB239_0.out (by simp)); have n1_ := Aside0.mk (KeepBut.trans HK.out hk (.inl rfl)); have n2_ := Aside0.mk (hb); have n3_ := Aside0.mk (hi); clear BK239; clear HK; clear HB; clear HI0; have BK239 := n0_; have HK := n1_; have HB := n2_; have HI0 := n3_; clear n0_ n1_ n2_ n3_; (try clear hb); (try clear hk); (try clear hi)) | ((with_reducible refine gate_callee (f := 79) rfl ?_); refine goesL_ (some 20) rfl rfl Try.func79 (by kernel_rfl) rfl #[.pointer (some ⟨g, 0, none⟩), .string (⟨#[46]⟩ : ByteArray)] rfl (by (try simp only [List.map_toArray, List.map_cons, List.map_nil]); first | rfl) ?_; (with_reducible refine (grammar_reader_takes.calls g t241 t242 t243 (⟨#[46]⟩ : ByteArray) true t249 t250 t251 w0 _ ?side1 ?side2 A16.out).mono ?_); (case side1 => exact HI0.out); (case side2 => exact HB.out); rintro e w21 ⟨rfl, hi, hb, hk⟩; refine ⟨_, rfl, ?_⟩; have n0_ := Aside0.mk (KeepBut.blk hk (g' := gb239) (o := .cells #[.string (⟨#[]⟩ : ByteArray), .string (⟨#[]⟩ : ByteArray), .slice none 0 0] 52 (0, 0)) BK239.out NB239_0.out (by simp)); have n1_ := Aside0.mk (KeepBut.trans HK.out hk (.inl rfl)); have n2_ := Aside0.mk (hb); have n3_ := Aside0.mk (hi); clear BK239; clear HK; clear HB; clear HI0; have BK239 := n0_; have HK := n1_; have HB := n2_; have HI0 := n3_; clear n0_ n1_ n2_ n3_; (try clear hb); (try clear hk); (try clear hi); have hnb22 := NB239_0.out; have hnc22 := NB0_239.out; have hcz23_0 : w21.cell? ⟨gb239, 0, none⟩ = some (.string (⟨#[]⟩ : ByteArray)) := (blk_cell BK239.out 0).trans rfl; have hcz23_1 : w21.cell? ⟨gb239, 1, none⟩ = some (.string (⟨#[]⟩ : ByteArray)) := (blk_cell BK239.out 1).trans rfl; have hcz23_2 : w21.cell? ⟨gb239, 2, none⟩ = some (.slice none 0 0) := (blk_cell BK239.out 2).trans rfl; have hfz23_0 := blk_frozen BK239.out 0; have hfz23_1 := blk_frozen BK239.out 1; have hfz23_2 := blk_frozen BK239.out 2))
   refine bodyPost_ret (results_cell_row rfl _ _ gb239 52 #[.string (⟨#[97, 110, 121]⟩ : ByteArray), .string (⟨#[]⟩ : ByteArray), .slice none 0 0] (0, 0) _ rfl (by (with_reducible repeat (first | fail)); refine blk_put (cs := #[.string (⟨#[97, 110, 121]⟩ : ByteArray), .string (⟨#[]⟩ : ByteArray), .slice none 0 0]) ?_ 2 _ rfl; (with_reducible repeat (first | fail)); refine blk_put (cs := #[.string (⟨#[97, 110, 121]⟩ : ByteArray), .string (⟨#[]⟩ : ByteArray), .slice none 0 0]) ?_ 1 _ rfl; (with_reducible repeat (first | fail)); refine blk_put (cs := #[.string (⟨#[]⟩ : ByteArray), .string (⟨#[]⟩ : ByteArray), .slice none 0 0]) ?_ 0 _ rfl; (with_reducible repeat (first | fail)); exact BK239.out) Try.underlying52 rfl (by kernel_rfl)) rfl ?_
   exact ⟨_, by first | rfl, by first | exact Kd.N_nil _ _ _ _ _, by repeat ((with_reducible first | exact HI0.out | refine IsS99.far ?_ NB0_239.out _)), by repeat ((with_reducible first | exact HB.out | refine below_set ?_ GE239.out)), by repeat ((with_reducible first | exact HK.out | refine keep_far ?_ GW239.out _))⟩
 replace c17 := Bool.eq_false_iff.mpr c17
 subst c17
 rw [if_neg (show ¬ (false = true) by decide)] at H
 replace H := Option.bind_eq_some_iff.mp H
 obtain ⟨⟨t252, t253, t254, t255⟩, A240, H⟩ := H
 dsimp only at H
 have A24 := Aside0.mk A240
 clear A240
 by_cases c25 : t252 = true
 · subst c25
   rw [if_pos rfl] at H
   simp only [Option.some.injEq, Prod.mk.injEq] at H
   obtain ⟨rfl, rfl, rfl, rfl, rfl, rfl⟩ := H
   go_enter Try.func54, Try.ntmps54
   go_wp2_with (first | ((with_reducible refine gate_dst (N := 2) rfl ?_); refine box_event ?hg (N := 2) ?hd (cs := #[.string (⟨#[]⟩ : ByteArray), .string (⟨#[]⟩ : ByteArray), .slice none 0 0]) (t := 52) ?hr ?_; (case hd => rfl); (case hg => rfl); (case hr => (go_simp; done)); intro gb239 hg w26 hbox hb; have n0_ := Aside0.mk (IsS99.below HI0.out hb); have n1_ := Aside0.mk (KeepBut.trans HK.out (KeepBut.of_below hb g none) (.inl rfl)); have n2_ := Aside0.mk (below_step HB.out hb); have n3_ := Aside0.mk (hbox); have n4_ := Aside0.mk ((by rw [hg]; exact (keep_size (w := w) (g := g) (row := none) HK.out) : w.heap.size ≤ gb239)); have n5_ := Aside0.mk ((Nat.le_trans HW0.out (by rw [hg]; exact (keep_size (w := w) (g := g) (row := none) HK.out) : w.heap.size ≤ gb239) : w0.heap.size ≤ gb239)); have n6_ := Aside0.mk ((by rw [hg]; exact Nat.ne_of_lt (IsS99.lt (show IsS99 w0 _ g s0_0 s0_1 false from by exact HI0.out)) : g ≠ gb239)); have n7_ := Aside0.mk ((by rw [hg]; exact Nat.ne_of_gt (IsS99.lt (show IsS99 w0 _ g s0_0 s0_1 false from by exact HI0.out)) : gb239 ≠ g)); clear HI0; clear HK; clear HB; have HI0 := n0_; have HK := n1_; have HB := n2_; have BK239 := n3_; have GW239 := n4_; have GE239 := n5_; have NB0_239 := n6_; have NB239_0 := n7_; clear n0_ n1_ n2_ n3_ n4_ n5_ n6_ n7_; clear hb hbox hg; obtain ⟨HGz27, hgz27⟩ := HI0.out; have hcz27_0 := cellS99_0 HGz27; have hcz27_1 := cellS99_1 HGz27; have hcz27_2 := cellS99_2 HGz27; have hfz27_0 := blk_frozen HGz27 0; have hfz27_1 := blk_frozen HGz27 1; have hfz27_2 := blk_frozen HGz27 2; clear HGz27 hgz27) | ((with_reducible refine gate_callee (f := 79) rfl ?_); refine goesL_ (some 14) rfl rfl Try.func79 (by kernel_rfl) rfl #[.pointer (some ⟨g, 0, none⟩), .string (⟨#[39]⟩ : ByteArray)] rfl (by (try simp only [List.map_toArray, List.map_cons, List.map_nil]); first | rfl) ?_; (with_reducible refine (grammar_reader_takes.calls g s0_0 s0_1 false (⟨#[39]⟩ : ByteArray) false t241 t242 t243 w0 _ ?side1 ?side2 A7.out).mono ?_); (case side1 => exact HI0.out); (case side2 => exact HB.out); rintro e w28 ⟨rfl, hi, hb, hk⟩; refine ⟨_, rfl, ?_⟩; have n0_ := Aside0.mk (KeepBut.blk hk (g' := gb239) (o := .cells #[.string (⟨#[]⟩ : ByteArray), .string (⟨#[]⟩ : ByteArray), .slice none 0 0] 52 (0, 0)) BK239.out NB239_0.out (by simp)); have n1_ := Aside0.mk (KeepBut.trans HK.out hk (.inl rfl)); have n2_ := Aside0.mk (hb); have n3_ := Aside0.mk (hi); clear BK239; clear HK; clear HB; clear HI0; have BK239 := n0_; have HK := n1_; have HB := n2_; have HI0 := n3_; clear n0_ n1_ n2_ n3_; (try clear hb); (try clear hk); (try clear hi)) | ((with_reducible refine gate_callee (f := 79) rfl ?_); refine goesL_ (some 20) rfl rfl Try.func79 (by kernel_rfl) rfl #[.pointer (some ⟨g, 0, none⟩), .string (⟨#[46]⟩ : ByteArray)] rfl (by (try simp only [List.map_toArray, List.map_cons, List.map_nil]); first | rfl) ?_; (with_reducible refine (grammar_reader_takes.calls g t241 t242 t243 (⟨#[46]⟩ : ByteArray) false t249 t250 t251 w0 _ ?side1 ?side2 A16.out).mono ?_); (case side1 => exact HI0.out); (case side2 => exact HB.out); rintro e w29 ⟨rfl, hi, hb, hk⟩; refine ⟨_, rfl, ?_⟩; have n0_ := Aside0.mk (KeepBut.blk hk (g' := gb239) (o := .cells #[.string (⟨#[]⟩ : ByteArray), .string (⟨#[]⟩ : ByteArray), .slice none 0 0] 52 (0, 0)) BK239.out NB239_0.out (by simp)); have n1_ := Aside0.mk (KeepBut.trans HK.out hk (.inl rfl)); have n2_ := Aside0.mk (hb); have n3_ := Aside0.mk (hi); clear BK239; clear HK; clear HB; clear HI0; have BK239 := n0_; have HK := n1_; have HB := n2_; have HI0 := n3_; clear n0_ n1_ n2_ n3_; (try clear hb); (try clear hk); (try clear hi)) | ((with_reducible refine gate_callee (f := 79) rfl ?_); refine goesL_ (some 24) rfl rfl Try.func79 (by kernel_rfl) rfl #[.pointer (some ⟨g, 0, none⟩), .string (⟨#[40, 41]⟩ : ByteArray)] rfl (by (try simp only [List.map_toArray, List.map_cons, List.map_nil]); first | rfl) ?_; (with_reducible refine (grammar_reader_takes.calls g t249 t250 t251 (⟨#[40, 41]⟩ : ByteArray) true t253 t254 t255 w0 _ ?side1 ?side2 A24.out).mono ?_); (case side1 => exact HI0.out); (case side2 => exact HB.out); rintro e w30 ⟨rfl, hi, hb, hk⟩; refine ⟨_, rfl, ?_⟩; have n0_ := Aside0.mk (KeepBut.blk hk (g' := gb239) (o := .cells #[.string (⟨#[]⟩ : ByteArray), .string (⟨#[]⟩ : ByteArray), .slice none 0 0] 52 (0, 0)) BK239.out NB239_0.out (by simp)); have n1_ := Aside0.mk (KeepBut.trans HK.out hk (.inl rfl)); have n2_ := Aside0.mk (hb); have n3_ := Aside0.mk (hi); clear BK239; clear HK; clear HB; clear HI0; have BK239 := n0_; have HK := n1_; have HB := n2_; have HI0 := n3_; clear n0_ n1_ n2_ n3_; (try clear hb); (try clear hk); (try clear hi); have hnb31 := NB239_0.out; have hnc31 := NB0_239.out; have hcz32_0 : w30.cell? ⟨gb239, 0, none⟩ = some (.string (⟨#[]⟩ : ByteArray)) := (blk_cell BK239.out 0).trans rfl; have hcz32_1 : w30.cell? ⟨gb239, 1, none⟩ = some (.string (⟨#[]⟩ : ByteArray)) := (blk_cell BK239.out 1).trans rfl; have hcz32_2 : w30.cell? ⟨gb239, 2, none⟩ = some (.slice none 0 0) := (blk_cell BK239.out 2).trans rfl; have hfz32_0 := blk_frozen BK239.out 0; have hfz32_1 := blk_frozen BK239.out 1; have hfz32_2 := blk_frozen BK239.out 2))
   refine bodyPost_ret (results_cell_row rfl _ _ gb239 52 #[.string (⟨#[110, 111, 116, 104, 105, 110, 103]⟩ : ByteArray), .string (⟨#[]⟩ : ByteArray), .slice none 0 0] (0, 0) _ rfl (by (with_reducible repeat (first | fail)); refine blk_put (cs := #[.string (⟨#[110, 111, 116, 104, 105, 110, 103]⟩ : ByteArray), .string (⟨#[]⟩ : ByteArray), .slice none 0 0]) ?_ 2 _ rfl; (with_reducible repeat (first | fail)); refine blk_put (cs := #[.string (⟨#[110, 111, 116, 104, 105, 110, 103]⟩ : ByteArray), .string (⟨#[]⟩ : ByteArray), .slice none 0 0]) ?_ 1 _ rfl; (with_reducible repeat (first | fail)); refine blk_put (cs := #[.string (⟨#[]⟩ : ByteArray), .string (⟨#[]⟩ : ByteArray), .slice none 0 0]) ?_ 0 _ rfl; (with_reducible repeat (first | fail)); exact BK239.out) Try.underlying52 rfl (by kernel_rfl)) rfl ?_
   exact ⟨_, by first | rfl, by first | exact Kd.N_nil _ _ _ _ _, by repeat ((with_reducible first | exact HI0.out | refine IsS99.far ?_ NB0_239.out _)), by repeat ((with_reducible first | exact HB.out | refine below_set ?_ GE239.out)), by repeat ((with_reducible first | exact HK.out | refine keep_far ?_ GW239.out _))⟩
 replace c25 := Bool.eq_false_iff.mpr c25
 subst c25
 rw [if_neg (show ¬ (false = true) by decide)] at H
 replace H := Option.bind_eq_some_iff.mp H
 obtain ⟨⟨t256, t257, t258, t259⟩, A330, H⟩ := H
 dsimp only at H
 have A33 := Aside0.mk A330
 clear A330
 by_cases c34 : t256 = true
 · subst c34
   rw [if_pos rfl] at H
   replace H := Option.bind_eq_some_iff.mp H
   obtain ⟨⟨t260, t261, t262, t265, t266, t267⟩, A350, H⟩ := H
   dsimp only at H
   have A35 := Aside0.mk A350
   clear A350
   obtain ⟨y268, hy268⟩ : ∃ y_ : List (S52), y_ = (([(⟨t260, t261, t262⟩ : S52)] : List (S52))) := ⟨_, rfl⟩
   replace H : ((grammar_reader_must.f t265 t266 t267 (⟨#[32, 41]⟩ : ByteArray)).bind fun bt272 => (some ((⟨#[110, 111, 116]⟩ : ByteArray), (⟨#[]⟩ : ByteArray), y268, bt272.1, bt272.2.1, bt272.2.2))) = some (r1, r2, r3, r4, r5, r6) := by (rw [hy268]; with_reducible exact H)
   have Ny268 := Aside0.mk hy268
   clear hy268
   replace H := Option.bind_eq_some_iff.mp H
   obtain ⟨⟨t272, t273, t274⟩, A360, H⟩ := H
   dsimp only at H
   have A36 := Aside0.mk A360
   clear A360
   simp only [Option.some.injEq, Prod.mk.injEq] at H
   obtain ⟨rfl, rfl, rfl, rfl, rfl, rfl⟩ := H
   go_enter Try.func54, Try.ntmps54
   go_wp2_with (first | ((with_reducible refine gate_dst (N := 2) rfl ?_); refine box_event ?hg (N := 2) ?hd (cs := #[.string (⟨#[]⟩ : ByteArray), .string (⟨#[]⟩ : ByteArray), .slice none 0 0]) (t := 52) ?hr ?_; (case hd => rfl); (case hg => rfl); (case hr => (go_simp; done)); intro gb239 hg w37 hbox hb; have n0_ := Aside0.mk (IsS99.below HI0.out hb); have n1_ := Aside0.mk (KeepBut.trans HK.out (KeepBut.of_below hb g none) (.inl rfl)); have n2_ := Aside0.mk (below_step HB.out hb); have n3_ := Aside0.mk (hbox); have n4_ := Aside0.mk ((by rw [hg]; exact (keep_size (w := w) (g := g) (row := none) HK.out) : w.heap.size ≤ gb239)); have n5_ := Aside0.mk ((Nat.le_trans HW0.out (by rw [hg]; exact (keep_size (w := w) (g := g) (row := none) HK.out) : w.heap.size ≤ gb239) : w0.heap.size ≤ gb239)); have n6_ := Aside0.mk ((by rw [hg]; exact Nat.ne_of_lt (IsS99.lt (show IsS99 w0 _ g s0_0 s0_1 false from by exact HI0.out)) : g ≠ gb239)); have n7_ := Aside0.mk ((by rw [hg]; exact Nat.ne_of_gt (IsS99.lt (show IsS99 w0 _ g s0_0 s0_1 false from by exact HI0.out)) : gb239 ≠ g)); clear HI0; clear HK; clear HB; have HI0 := n0_; have HK := n1_; have HB := n2_; have BK239 := n3_; have GW239 := n4_; have GE239 := n5_; have NB0_239 := n6_; have NB239_0 := n7_; clear n0_ n1_ n2_ n3_ n4_ n5_ n6_ n7_; clear hb hbox hg; obtain ⟨HGz38, hgz38⟩ := HI0.out; have hcz38_0 := cellS99_0 HGz38; have hcz38_1 := cellS99_1 HGz38; have hcz38_2 := cellS99_2 HGz38; have hfz38_0 := blk_frozen HGz38 0; have hfz38_1 := blk_frozen HGz38 1; have hfz38_2 := blk_frozen HGz38 2; clear HGz38 hgz38) | ((with_reducible refine gate_callee (f := 79) rfl ?_); refine goesL_ (some 14) rfl rfl Try.func79 (by kernel_rfl) rfl #[.pointer (some ⟨g, 0, none⟩), .string (⟨#[39]⟩ : ByteArray)] rfl (by (try simp only [List.map_toArray, List.map_cons, List.map_nil]); first | rfl) ?_; (with_reducible refine (grammar_reader_takes.calls g s0_0 s0_1 false (⟨#[39]⟩ : ByteArray) false t241 t242 t243 w0 _ ?side1 ?side2 A7.out).mono ?_); (case side1 => exact HI0.out); (case side2 => exact HB.out); rintro e w39 ⟨rfl, hi, hb, hk⟩; refine ⟨_, rfl, ?_⟩; have n0_ := Aside0.mk (KeepBut.blk hk (g' := gb239) (o := .cells #[.string (⟨#[]⟩ : ByteArray), .string (⟨#[]⟩ : ByteArray), .slice none 0 0] 52 (0, 0)) BK239.out NB239_0.out (by simp)); have n1_ := Aside0.mk (KeepBut.trans HK.out hk (.inl rfl)); have n2_ := Aside0.mk (hb); have n3_ := Aside0.mk (hi); clear BK239; clear HK; clear HB; clear HI0; have BK239 := n0_; have HK := n1_; have HB := n2_; have HI0 := n3_; clear n0_ n1_ n2_ n3_; (try clear hb); (try clear hk); (try clear hi)) | ((with_reducible refine gate_callee (f := 79) rfl ?_); refine goesL_ (some 20) rfl rfl Try.func79 (by kernel_rfl) rfl #[.pointer (some ⟨g, 0, none⟩), .string (⟨#[46]⟩ : ByteArray)] rfl (by (try simp only [List.map_toArray, List.map_cons, List.map_nil]); first | rfl) ?_; (with_reducible refine (grammar_reader_takes.calls g t241 t242 t243 (⟨#[46]⟩ : ByteArray) false t249 t250 t251 w0 _ ?side1 ?side2 A16.out).mono ?_); (case side1 => exact HI0.out); (case side2 => exact HB.out); rintro e w40 ⟨rfl, hi, hb, hk⟩; refine ⟨_, rfl, ?_⟩; have n0_ := Aside0.mk (KeepBut.blk hk (g' := gb239) (o := .cells #[.string (⟨#[]⟩ : ByteArray), .string (⟨#[]⟩ : ByteArray), .slice none 0 0] 52 (0, 0)) BK239.out NB239_0.out (by simp)); have n1_ := Aside0.mk (KeepBut.trans HK.out hk (.inl rfl)); have n2_ := Aside0.mk (hb); have n3_ := Aside0.mk (hi); clear BK239; clear HK; clear HB; clear HI0; have BK239 := n0_; have HK := n1_; have HB := n2_; have HI0 := n3_; clear n0_ n1_ n2_ n3_; (try clear hb); (try clear hk); (try clear hi)) | ((with_reducible refine gate_callee (f := 79) rfl ?_); refine goesL_ (some 24) rfl rfl Try.func79 (by kernel_rfl) rfl #[.pointer (some ⟨g, 0, none⟩), .string (⟨#[40, 41]⟩ : ByteArray)] rfl (by (try simp only [List.map_toArray, List.map_cons, List.map_nil]); first | rfl) ?_; (with_reducible refine (grammar_reader_takes.calls g t249 t250 t251 (⟨#[40, 41]⟩ : ByteArray) false t253 t254 t255 w0 _ ?side1 ?side2 A24.out).mono ?_); (case side1 => exact HI0.out); (case side2 => exact HB.out); rintro e w41 ⟨rfl, hi, hb, hk⟩; refine ⟨_, rfl, ?_⟩; have n0_ := Aside0.mk (KeepBut.blk hk (g' := gb239) (o := .cells #[.string (⟨#[]⟩ : ByteArray), .string (⟨#[]⟩ : ByteArray), .slice none 0 0] 52 (0, 0)) BK239.out NB239_0.out (by simp)); have n1_ := Aside0.mk (KeepBut.trans HK.out hk (.inl rfl)); have n2_ := Aside0.mk (hb); have n3_ := Aside0.mk (hi); clear BK239; clear HK; clear HB; clear HI0; have BK239 := n0_; have HK := n1_; have HB := n2_; have HI0 := n3_; clear n0_ n1_ n2_ n3_; (try clear hb); (try clear hk); (try clear hi)) | ((with_reducible refine gate_callee (f := 79) rfl ?_); refine goesL_ (some 28) rfl rfl Try.func79 (by kernel_rfl) rfl #[.pointer (some ⟨g, 0, none⟩), .string (⟨#[40, 32, 33, 32]⟩ : ByteArray)] rfl (by (try simp only [List.map_toArray, List.map_cons, List.map_nil]); first | rfl) ?_; (with_reducible refine (grammar_reader_takes.calls g t253 t254 t255 (⟨#[40, 32, 33, 32]⟩ : ByteArray) true t257 t258 t259 w0 _ ?side1 ?side2 A33.out).mono ?_); (case side1 => exact HI0.out); (case side2 => exact HB.out); rintro e w42 ⟨rfl, hi, hb, hk⟩; refine ⟨_, rfl, ?_⟩; have n0_ := Aside0.mk (KeepBut.blk hk (g' := gb239) (o := .cells #[.string (⟨#[]⟩ : ByteArray), .string (⟨#[]⟩ : ByteArray), .slice none 0 0] 52 (0, 0)) BK239.out NB239_0.out (by simp)); have n1_ := Aside0.mk (KeepBut.trans HK.out hk (.inl rfl)); have n2_ := Aside0.mk (hb); have n3_ := Aside0.mk (hi); clear BK239; clear HK; clear HB; clear HI0; have BK239 := n0_; have HK := n1_; have HB := n2_; have HI0 := n3_; clear n0_ n1_ n2_ n3_; (try clear hb); (try clear hk); (try clear hi)) | ((with_reducible refine gate_callee (f := 54) rfl ?_); refine goesL_ (some 30) rfl rfl Try.func54 (by kernel_rfl) rfl #[.pointer (some ⟨g, 0, none⟩)] rfl (by (try simp only [List.map_toArray, List.map_cons, List.map_nil]); first | rfl) ?_; (with_reducible refine (ih k (by omega) g t257 t258 t259 t260 t261 t262 t265 t266 t267 w0 _ ?side1 ?side2 A35.out).mono ?_); (case side1 => exact HI0.out); (case side2 => exact HB.out); rintro e w43 ⟨v263, rfl, ho0, hi, hb, hk⟩; refine ⟨_, rfl, ?_⟩; have n0_ := Aside0.mk (KeepBut.blk hk (g' := gb239) (o := .cells #[.string (⟨#[]⟩ : ByteArray), .string (⟨#[]⟩ : ByteArray), .slice none 0 0] 52 (0, 0)) BK239.out NB239_0.out (by simp)); have n1_ := Aside0.mk (Kd.N_lower (Kd.N_mono (ok' := fun k_ => (w.heap.size ≤ k_) ∧ k_ ≠ gb239 ∧ k_ ≠ g) ho0 (fun k_ hk_ => ⟨(Nat.le_trans (keep_size (w := w) (g := g) (row := none) HK.out) hk_), (Kd.freshB (g := gb239) (o := .cells #[.string (⟨#[]⟩ : ByteArray), .string (⟨#[]⟩ : ByteArray), .slice none 0 0] 52 (0, 0)) BK239.out k_ hk_), (IsS99.fresh HI0.out k_ hk_)⟩)) (keep_size (w := w) (g := g) (row := none) HK.out)); have n2_ := Aside0.mk (KeepBut.trans HK.out hk (.inl rfl)); have n3_ := Aside0.mk (hb); have n4_ := Aside0.mk (hi); clear BK239; clear HK; clear HB; clear HI0; have BK239 := n0_; have HO264 := n1_; have HK := n2_; have HB := n3_; have HI0 := n4_; clear n0_ n1_ n2_ n3_ n4_; (try clear hb); (try clear hk); (try clear hi); (try clear ho0); obtain ⟨Ao44, co44, eo44⟩ := Kd.N_slice HO264.out; subst eo44) | ((with_reducible refine gate_dst (N := 31) rfl ?_); refine Kd.N_lit k52 _ 52 ?hg (N' := 31) ?hd (xs := ([(⟨t260, t261, t262⟩ : S52)] : List (S52))) (inner := [.string t260, .string t261, .slice Ao44 t262.length co44]) (ok := (fun k_ => (w.heap.size ≤ k_) ∧ k_ ≠ gb239 ∧ k_ ≠ g)) (okp := (fun k_ => (w.heap.size ≤ k_) ∧ k_ ≠ gb239 ∧ k_ ≠ g)) ?hr ?hp (fun _ hk => hk) ((show ∀ k_, w43.heap.size ≤ k_ → (fun k_ => (w.heap.size ≤ k_) ∧ k_ ≠ gb239 ∧ k_ ≠ g) k_ from fun k_ hk => ⟨(Nat.le_trans (keep_size (w := w) (g := g) (row := none) HK.out) hk), Kd.freshB (g := gb239) (o := .cells #[.string (⟨#[]⟩ : ByteArray), .string (⟨#[]⟩ : ByteArray), .slice none 0 0] 52 (0, 0)) BK239.out k_ hk, IsS99.fresh HI0.out k_ hk⟩) _ (Nat.le_refl _)) (Below.refl _ _) (Nat.le_refl _) (by simp) ?_; (case hd => rfl); (case hg => rfl); (case hr => (go_simp; done)); (case hp => exact (Reps.c3 (show Kd.FK k52 _ _ (⟨t260, t261, t262⟩ : S52) [.string t260, .string t261, .slice Ao44 t262.length co44] from (k52_mkF _ _ (⟨t260, t261, t262⟩ : S52) (Kd.N_reads' (Kd.N_mono (ok' := (fun k_ => (w.heap.size ≤ k_) ∧ k_ ≠ gb239 ∧ k_ ≠ g)) (HO264.out) (fun k_ hk => ⟨hk.1, ⟨hk.2.1, hk.2.2⟩⟩))).2.1 (Kd.N_F (Kd.N_mono (ok' := (fun k_ => (w.heap.size ≤ k_) ∧ k_ ≠ gb239 ∧ k_ ≠ g)) (HO264.out) (fun k_ hk => ⟨hk.1, ⟨hk.2.1, hk.2.2⟩⟩))))) (Reps.none _ _))); intro v269 w45 ho46 hb hg_ hnew_; clear hg_ hnew_; (first | rw [← Ny268.out] at ho46); have n0_ := Aside0.mk (Kd.N_lower ho46 (keep_size (w := w) (g := g) (row := none) HK.out)); have n1_ := Aside0.mk (IsS99.below HI0.out hb); have n2_ := Aside0.mk (blk_below (g := gb239) (o := .cells #[.string (⟨#[]⟩ : ByteArray), .string (⟨#[]⟩ : ByteArray), .slice none 0 0] 52 (0, 0)) BK239.out hb); have n3_ := Aside0.mk (KeepBut.trans HK.out (KeepBut.of_below hb g none) (.inl rfl)); have n4_ := Aside0.mk (below_step HB.out hb); clear HI0; clear BK239; clear HK; clear HB; clear HO264; have HO270 := n0_; have HI0 := n1_; have BK239 := n2_; have HK := n3_; have HB := n4_; clear n0_ n1_ n2_ n3_ n4_; clear hb ho46; obtain ⟨Ao47, co47, eo47⟩ := Kd.N_slice HO270.out; subst eo47) | ((with_reducible refine gate_dst (N := 3) rfl ?_); refine box_event ?hg (N := 3) ?hd (cs := #[.string (⟨#[]⟩ : ByteArray), .string (⟨#[]⟩ : ByteArray), .slice none 0 0]) (t := 52) ?hr ?_; (case hd => rfl); (case hg => rfl); (case hr => (go_simp; done)); intro gb271 hg w48 hbox hb; have n0_ := Aside0.mk (Kd.N_below (Kd.N_elderB HO270.out gb271 (Nat.le_of_eq hg.symm)) hb); have n1_ := Aside0.mk (IsS99.below HI0.out hb); have n2_ := Aside0.mk (blk_below (g := gb239) (o := .cells #[.string (⟨#[]⟩ : ByteArray), .string (⟨#[]⟩ : ByteArray), .slice none 0 0] 52 (0, 0)) BK239.out hb); have n3_ := Aside0.mk (KeepBut.trans HK.out (KeepBut.of_below hb g none) (.inl rfl)); have n4_ := Aside0.mk (below_step HB.out hb); have n5_ := Aside0.mk (hbox); have n6_ := Aside0.mk ((by rw [hg]; exact (keep_size (w := w) (g := g) (row := none) HK.out) : w.heap.size ≤ gb271)); have n7_ := Aside0.mk ((Nat.le_trans HW0.out (by rw [hg]; exact (keep_size (w := w) (g := g) (row := none) HK.out) : w.heap.size ≤ gb271) : w0.heap.size ≤ gb271)); have n8_ := Aside0.mk ((by rw [hg]; exact Nat.ne_of_lt (blk_lt (g := gb239) (o := .cells #[.string (⟨#[]⟩ : ByteArray), .string (⟨#[]⟩ : ByteArray), .slice none 0 0] 52 (0, 0)) BK239.out) : gb239 ≠ gb271)); have n9_ := Aside0.mk ((by rw [hg]; exact Nat.ne_of_gt (blk_lt (g := gb239) (o := .cells #[.string (⟨#[]⟩ : ByteArray), .string (⟨#[]⟩ : ByteArray), .slice none 0 0] 52 (0, 0)) BK239.out) : gb271 ≠ gb239)); have n10_ := Aside0.mk ((by rw [hg]; exact Nat.ne_of_lt (IsS99.lt (show IsS99 w0 _ g t265 t266 t267 from by exact HI0.out)) : g ≠ gb271)); have n11_ := Aside0.mk ((by rw [hg]; exact Nat.ne_of_gt (IsS99.lt (show IsS99 w0 _ g t265 t266 t267 from by exact HI0.out)) : gb271 ≠ g)); clear HO270; clear HI0; clear BK239; clear HK; clear HB; have HO270 := n0_; have HI0 := n1_; have BK239 := n2_; have HK := n3_; have HB := n4_; have BK271 := n5_; have GW271 := n6_; have GE271 := n7_; have NB239_271 := n8_; have NB271_239 := n9_; have NB0_271 := n10_; have NB271_0 := n11_; clear n0_ n1_ n2_ n3_ n4_ n5_ n6_ n7_ n8_ n9_ n10_ n11_; clear hb hbox hg; have hnb49 := NB271_239.out; have hnc49 := NB239_271.out; have hnb50 := NB271_0.out; have hnc50 := NB0_271.out; have hcz51_0 : w48.cell? ⟨gb271, 0, none⟩ = some (.string (⟨#[]⟩ : ByteArray)) := (blk_cell BK271.out 0).trans rfl; have hcz51_1 : w48.cell? ⟨gb271, 1, none⟩ = some (.string (⟨#[]⟩ : ByteArray)) := (blk_cell BK271.out 1).trans rfl; have hcz51_2 : w48.cell? ⟨gb271, 2, none⟩ = some (.slice none 0 0) := (blk_cell BK271.out 2).trans rfl; have hfz51_0 := blk_frozen BK271.out 0; have hfz51_1 := blk_frozen BK271.out 1; have hfz51_2 := blk_frozen BK271.out 2) | ((with_reducible refine gate_callee (f := 53) rfl ?_); refine goesL_ (some 34) rfl rfl Try.func53 (by kernel_rfl) rfl #[.pointer (some ⟨g, 0, none⟩), .string (⟨#[32, 41]⟩ : ByteArray)] rfl (by (try simp only [List.map_toArray, List.map_cons, List.map_nil]); first | rfl) ?_; (with_reducible refine (grammar_reader_must.calls g t265 t266 t267 (⟨#[32, 41]⟩ : ByteArray) t272 t273 t274 w0 _ ?side1 ?side2 A36.out).mono ?_); (case side1 => repeat ((with_reducible first | exact HI0.out | refine IsS99.far ?_ NB0_271.out _))); (case side2 => repeat ((with_reducible first | exact HB.out | refine below_set ?_ GE271.out))); rintro e w52 ⟨rfl, hi, hb, hk⟩; refine ⟨_, rfl, ?_⟩; have n0_ := Aside0.mk (KeepBut.blk hk (g' := gb239) (o := .cells #[.string (⟨#[]⟩ : ByteArray), .string (⟨#[]⟩ : ByteArray), .slice none 0 0] 52 (0, 0)) (by (with_reducible repeat (first | fail)); refine blk_far ?_ NB239_271.out _; (with_reducible repeat (first | fail)); refine blk_far ?_ NB239_271.out _; (with_reducible repeat (first | fail)); refine blk_far ?_ NB239_271.out _; (with_reducible repeat (first | fail)); exact BK239.out) NB239_0.out (by simp)); have n1_ := Aside0.mk (Kd.N_mono (Kd.N_keep (Kd.N_mono (ok := fun k_ => ((((w.heap.size ≤ k_)) ∧ (k_ ≠ gb239 ∧ k_ ≠ g)) ∧ k_ ≠ gb271)) (by (with_reducible repeat (first | fail)); exact (Kd.N_mono (Kd.N_far (p := ⟨gb271, 2, none⟩) (Kd.N_far (p := ⟨gb271, 1, none⟩) (Kd.N_far (p := ⟨gb271, 0, none⟩) (Kd.N_mono HO270.out (fun k_ hk => (⟨hk, hk.2⟩ : _ ∧ k_ ≠ gb271))) (fun _ hk => hk.2) (.string (⟨#[110, 111, 116]⟩ : ByteArray))) (fun _ hk => hk.2) (.string (⟨#[]⟩ : ByteArray))) (fun _ hk => hk.2) (.slice Ao47 y268.length co47)) (fun _ h_ => h_.1))) (fun k_ hk_ => (⟨hk_, hk_.1.2.2⟩ : _ ∧ k_ ≠ g))) hk (fun _ h => h.2)) (fun _ h => h.1)); have n2_ := Aside0.mk (KeepBut.blk hk (g' := gb271) (o := .cells #[.string (⟨#[110, 111, 116]⟩ : ByteArray), .string (⟨#[]⟩ : ByteArray), .slice Ao47 y268.length co47] 52 (0, 0)) (by (with_reducible repeat (first | fail)); refine blk_put (cs := #[.string (⟨#[110, 111, 116]⟩ : ByteArray), .string (⟨#[]⟩ : ByteArray), .slice none 0 0]) ?_ 2 _ rfl; (with_reducible repeat (first | fail)); refine blk_put (cs := #[.string (⟨#[110, 111, 116]⟩ : ByteArray), .string (⟨#[]⟩ : ByteArray), .slice none 0 0]) ?_ 1 _ rfl; (with_reducible repeat (first | fail)); refine blk_put (cs := #[.string (⟨#[]⟩ : ByteArray), .string (⟨#[]⟩ : ByteArray), .slice none 0 0]) ?_ 0 _ rfl; (with_reducible repeat (first | fail)); exact BK271.out) NB271_0.out (by simp)); have n3_ := Aside0.mk (KeepBut.trans (by repeat ((with_reducible first | exact HK.out | refine keep_far ?_ GW271.out _))) hk (.inl rfl)); have n4_ := Aside0.mk (hb); have n5_ := Aside0.mk (hi); clear BK239; clear HO270; clear BK271; clear HK; clear HB; clear HI0; have BK239 := n0_; have HO270 := n1_; have BK271 := n2_; have HK := n3_; have HB := n4_; have HI0 := n5_; clear n0_ n1_ n2_ n3_ n4_ n5_; (try clear hb); (try clear hk); (try clear hi); have hcz53_0 : w52.cell? ⟨gb271, 0, none⟩ = some (.string (⟨#[110, 111, 116]⟩ : ByteArray)) := (blk_cell BK271.out 0).trans rfl; have hcz53_1 : w52.cell? ⟨gb271, 1, none⟩ = some (.string (⟨#[]⟩ : ByteArray)) := (blk_cell BK271.out 1).trans rfl; have hcz53_2 : w52.cell? ⟨gb271, 2, none⟩ = some (.slice Ao47 y268.length co47) := (blk_cell BK271.out 2).trans rfl; have hfz53_0 := blk_frozen BK271.out 0; have hfz53_1 := blk_frozen BK271.out 1; have hfz53_2 := blk_frozen BK271.out 2; have hnb54 := NB239_0.out; have hnc54 := NB0_239.out; have hcz55_0 : w52.cell? ⟨gb239, 0, none⟩ = some (.string (⟨#[]⟩ : ByteArray)) := (blk_cell BK239.out 0).trans rfl; have hcz55_1 : w52.cell? ⟨gb239, 1, none⟩ = some (.string (⟨#[]⟩ : ByteArray)) := (blk_cell BK239.out 1).trans rfl; have hcz55_2 : w52.cell? ⟨gb239, 2, none⟩ = some (.slice none 0 0) := (blk_cell BK239.out 2).trans rfl; have hfz55_0 := blk_frozen BK239.out 0; have hfz55_1 := blk_frozen BK239.out 1; have hfz55_2 := blk_frozen BK239.out 2))
   refine bodyPost_ret (results_cell_row rfl _ _ gb239 52 #[.string (⟨#[110, 111, 116]⟩ : ByteArray), .string (⟨#[]⟩ : ByteArray), .slice Ao47 y268.length co47] (0, 0) _ rfl (by (with_reducible repeat (first | fail)); refine blk_put (cs := #[.string (⟨#[110, 111, 116]⟩ : ByteArray), .string (⟨#[]⟩ : ByteArray), .slice none 0 0]) ?_ 2 _ rfl; (with_reducible repeat (first | fail)); refine blk_put (cs := #[.string (⟨#[110, 111, 116]⟩ : ByteArray), .string (⟨#[]⟩ : ByteArray), .slice none 0 0]) ?_ 1 _ rfl; (with_reducible repeat (first | fail)); refine blk_put (cs := #[.string (⟨#[]⟩ : ByteArray), .string (⟨#[]⟩ : ByteArray), .slice none 0 0]) ?_ 0 _ rfl; (with_reducible repeat (first | fail)); exact BK239.out) Try.underlying52 rfl (by kernel_rfl)) rfl ?_
   exact ⟨_, by first | rfl, by (with_reducible repeat (first | fail)); exact Kd.N_mono (Kd.N_far (p := ⟨gb239, 2, none⟩) (Kd.N_far (p := ⟨gb239, 1, none⟩) (Kd.N_far (p := ⟨gb239, 0, none⟩) (Kd.N_mono HO270.out (fun k_ hk => (⟨hk, hk.1.2.1⟩ : _ ∧ k_ ≠ gb239))) (fun _ hk => hk.2) (.string (⟨#[110, 111, 116]⟩ : ByteArray))) (fun _ hk => hk.2) (.string (⟨#[]⟩ : ByteArray))) (fun _ hk => hk.2) (.slice Ao47 y268.length co47)) (fun _ hk => hk.1.1.1), by repeat ((with_reducible first | exact HI0.out | refine IsS99.far ?_ NB0_239.out _)), by repeat ((with_reducible first | exact HB.out | refine below_set ?_ GE239.out)), by repeat ((with_reducible first | exact HK.out | refine keep_far ?_ GW239.out _))⟩
 replace c34 := Bool.eq_false_iff.mpr c34
 subst c34
 rw [if_neg (show ¬ (false = true) by decide)] at H
 replace H := Option.bind_eq_some_iff.mp H
 obtain ⟨⟨t275, t276, t277, t278⟩, A560, H⟩ := H
 dsimp only at H
 have A56 := Aside0.mk A560
 clear A560
 by_cases c57 : t275 = true
 rotate_left
 · replace c57 := Bool.eq_false_iff.mpr c57
   subst c57
   rw [if_neg (show ¬ (false = true) by decide)] at H
   replace H := Option.bind_eq_some_iff.mp H
   obtain ⟨⟨t309, t310, t311, t312⟩, A950, H⟩ := H
   dsimp only at H
   have A95 := Aside0.mk A950
   clear A950
   by_cases c96 : t309 = true
   rotate_left
   · replace c96 := Bool.eq_false_iff.mpr c96
     subst c96
     rw [if_neg (show ¬ (false = true) by decide)] at H
     replace H := Option.bind_eq_some_iff.mp H
     obtain ⟨⟨t313, t314, t315, t316⟩, A1660, H⟩ := H
     dsimp only at H
     have A166 := Aside0.mk A1660
     clear A1660
     simp only [Option.some.injEq, Prod.mk.injEq] at H
     obtain ⟨rfl, rfl, rfl, rfl, rfl, rfl⟩ := H
     go_enter Try.func54, Try.ntmps54
     go_wp2_with (first | ((with_reducible refine gate_dst (N := 2) rfl ?_); refine box_event ?hg (N := 2) ?hd (cs := #[.string (⟨#[]⟩ : ByteArray), .string (⟨#[]⟩ : ByteArray), .slice none 0 0]) (t := 52) ?hr ?_; (case hd => rfl); (case hg => rfl); (case hr => (go_simp; done)); intro gb239 hg w167 hbox hb; have n0_ := Aside0.mk (IsS99.below HI0.out hb); have n1_ := Aside0.mk (KeepBut.trans HK.out (KeepBut.of_below hb g none) (.inl rfl)); have n2_ := Aside0.mk (below_step HB.out hb); have n3_ := Aside0.mk (hbox); have n4_ := Aside0.mk ((by rw [hg]; exact (keep_size (w := w) (g := g) (row := none) HK.out) : w.heap.size ≤ gb239)); have n5_ := Aside0.mk ((Nat.le_trans HW0.out (by rw [hg]; exact (keep_size (w := w) (g := g) (row := none) HK.out) : w.heap.size ≤ gb239) : w0.heap.size ≤ gb239)); have n6_ := Aside0.mk ((by rw [hg]; exact Nat.ne_of_lt (IsS99.lt (show IsS99 w0 _ g s0_0 s0_1 false from by exact HI0.out)) : g ≠ gb239)); have n7_ := Aside0.mk ((by rw [hg]; exact Nat.ne_of_gt (IsS99.lt (show IsS99 w0 _ g s0_0 s0_1 false from by exact HI0.out)) : gb239 ≠ g)); clear HI0; clear HK; clear HB; have HI0 := n0_; have HK := n1_; have HB := n2_; have BK239 := n3_; have GW239 := n4_; have GE239 := n5_; have NB0_239 := n6_; have NB239_0 := n7_; clear n0_ n1_ n2_ n3_ n4_ n5_ n6_ n7_; clear hb hbox hg; obtain ⟨HGz168, hgz168⟩ := HI0.out; have hcz168_0 := cellS99_0 HGz168; have hcz168_1 := cellS99_1 HGz168; have hcz168_2 := cellS99_2 HGz168; have hfz168_0 := blk_frozen HGz168 0; have hfz168_1 := blk_frozen HGz168 1; have hfz168_2 := blk_frozen HGz168 2; clear HGz168 hgz168) | ((with_reducible refine gate_callee (f := 79) rfl ?_); refine goesL_ (some 14) rfl rfl Try.func79 (by kernel_rfl) rfl #[.pointer (some ⟨g, 0, none⟩), .string (⟨#[39]⟩ : ByteArray)] rfl (by (try simp only [List.map_toArray, List.map_cons, List.map_nil]); first | rfl) ?_; (with_reducible refine (grammar_reader_takes.calls g s0_0 s0_1 false (⟨#[39]⟩ : ByteArray) false t241 t242 t243 w0 _ ?side1 ?side2 A7.out).mono ?_); (case side1 => exact HI0.out); (case side2 => exact HB.out); rintro e w169 ⟨rfl, hi, hb, hk⟩; refine ⟨_, rfl, ?_⟩; have n0_ := Aside0.mk (KeepBut.blk hk (g' := gb239) (o := .cells #[.string (⟨#[]⟩ : ByteArray), .string (⟨#[]⟩ : ByteArray), .slice none 0 0] 52 (0, 0)) BK239.out NB239_0.out (by simp)); have n1_ := Aside0.mk (KeepBut.trans HK.out hk (.inl rfl)); have n2_ := Aside0.mk (hb); have n3_ := Aside0.mk (hi); clear BK239; clear HK; clear HB; clear HI0; have BK239 := n0_; have HK := n1_; have HB := n2_; have HI0 := n3_; clear n0_ n1_ n2_ n3_; (try clear hb); (try clear hk); (try clear hi)) | ((with_reducible refine gate_callee (f := 79) rfl ?_); refine goesL_ (some 20) rfl rfl Try.func79 (by kernel_rfl) rfl #[.pointer (some ⟨g, 0, none⟩), .string (⟨#[46]⟩ : ByteArray)] rfl (by (try simp only [List.map_toArray, List.map_cons, List.map_nil]); first | rfl) ?_; (with_reducible refine (grammar_reader_takes.calls g t241 t242 t243 (⟨#[46]⟩ : ByteArray) false t249 t250 t251 w0 _ ?side1 ?side2 A16.out).mono ?_); (case side1 => exact HI0.out); (case side2 => exact HB.out); rintro e w170 ⟨rfl, hi, hb, hk⟩; refine ⟨_, rfl, ?_⟩; have n0_ := Aside0.mk (KeepBut.blk hk (g' := gb239) (o := .cells #[.string (⟨#[]⟩ : ByteArray), .string (⟨#[]⟩ : ByteArray), .slice none 0 0] 52 (0, 0)) BK239.out NB239_0.out (by simp)); have n1_ := Aside0.mk (KeepBut.trans HK.out hk (.inl rfl)); have n2_ := Aside0.mk (hb); have n3_ := Aside0.mk (hi); clear BK239; clear HK; clear HB; clear HI0; have BK239 := n0_; have HK := n1_; have HB := n2_; have HI0 := n3_; clear n0_ n1_ n2_ n3_; (try clear hb); (try clear hk); (try clear hi)) | ((with_reducible refine gate_callee (f := 79) rfl ?_); refine goesL_ (some 24) rfl rfl Try.func79 (by kernel_rfl) rfl #[.pointer (some ⟨g, 0, none⟩), .string (⟨#[40, 41]⟩ : ByteArray)] rfl (by (try simp only [List.map_toArray, List.map_cons, List.map_nil]); first | rfl) ?_; (with_reducible refine (grammar_reader_takes.calls g t249 t250 t251 (⟨#[40, 41]⟩ : ByteArray) false t253 t254 t255 w0 _ ?side1 ?side2 A24.out).mono ?_); (case side1 => exact HI0.out); (case side2 => exact HB.out); rintro e w171 ⟨rfl, hi, hb, hk⟩; refine ⟨_, rfl, ?_⟩; have n0_ := Aside0.mk (KeepBut.blk hk (g' := gb239) (o := .cells #[.string (⟨#[]⟩ : ByteArray), .string (⟨#[]⟩ : ByteArray), .slice none 0 0] 52 (0, 0)) BK239.out NB239_0.out (by simp)); have n1_ := Aside0.mk (KeepBut.trans HK.out hk (.inl rfl)); have n2_ := Aside0.mk (hb); have n3_ := Aside0.mk (hi); clear BK239; clear HK; clear HB; clear HI0; have BK239 := n0_; have HK := n1_; have HB := n2_; have HI0 := n3_; clear n0_ n1_ n2_ n3_; (try clear hb); (try clear hk); (try clear hi)) | ((with_reducible refine gate_callee (f := 79) rfl ?_); refine goesL_ (some 28) rfl rfl Try.func79 (by kernel_rfl) rfl #[.pointer (some ⟨g, 0, none⟩), .string (⟨#[40, 32, 33, 32]⟩ : ByteArray)] rfl (by (try simp only [List.map_toArray, List.map_cons, List.map_nil]); first | rfl) ?_; (with_reducible refine (grammar_reader_takes.calls g t253 t254 t255 (⟨#[40, 32, 33, 32]⟩ : ByteArray) false t257 t258 t259 w0 _ ?side1 ?side2 A33.out).mono ?_); (case side1 => exact HI0.out); (case side2 => exact HB.out); rintro e w172 ⟨rfl, hi, hb, hk⟩; refine ⟨_, rfl, ?_⟩; have n0_ := Aside0.mk (KeepBut.blk hk (g' := gb239) (o := .cells #[.string (⟨#[]⟩ : ByteArray), .string (⟨#[]⟩ : ByteArray), .slice none 0 0] 52 (0, 0)) BK239.out NB239_0.out (by simp)); have n1_ := Aside0.mk (KeepBut.trans HK.out hk (.inl rfl)); have n2_ := Aside0.mk (hb); have n3_ := Aside0.mk (hi); clear BK239; clear HK; clear HB; clear HI0; have BK239 := n0_; have HK := n1_; have HB := n2_; have HI0 := n3_; clear n0_ n1_ n2_ n3_; (try clear hb); (try clear hk); (try clear hi)) | ((with_reducible refine gate_callee (f := 79) rfl ?_); refine goesL_ (some 38) rfl rfl Try.func79 (by kernel_rfl) rfl #[.pointer (some ⟨g, 0, none⟩), .string (⟨#[40, 32, 47, 32]⟩ : ByteArray)] rfl (by (try simp only [List.map_toArray, List.map_cons, List.map_nil]); first | rfl) ?_; (with_reducible refine (grammar_reader_takes.calls g t257 t258 t259 (⟨#[40, 32, 47, 32]⟩ : ByteArray) false t276 t277 t278 w0 _ ?side1 ?side2 A56.out).mono ?_); (case side1 => exact HI0.out); (case side2 => exact HB.out); rintro e w173 ⟨rfl, hi, hb, hk⟩; refine ⟨_, rfl, ?_⟩; have n0_ := Aside0.mk (KeepBut.blk hk (g' := gb239) (o := .cells #[.string (⟨#[]⟩ : ByteArray), .string (⟨#[]⟩ : ByteArray), .slice none 0 0] 52 (0, 0)) BK239.out NB239_0.out (by simp)); have n1_ := Aside0.mk (KeepBut.trans HK.out hk (.inl rfl)); have n2_ := Aside0.mk (hb); have n3_ := Aside0.mk (hi); clear BK239; clear HK; clear HB; clear HI0; have BK239 := n0_; have HK := n1_; have HB := n2_; have HI0 := n3_; clear n0_ n1_ n2_ n3_; (try clear hb); (try clear hk); (try clear hi)) | ((with_reducible refine gate_callee (f := 79) rfl ?_); refine goesL_ (some 57) rfl rfl Try.func79 (by kernel_rfl) rfl #[.pointer (some ⟨g, 0, none⟩), .string (⟨#[40, 32]⟩ : ByteArray)] rfl (by (try simp only [List.map_toArray, List.map_cons, List.map_nil]); first | rfl) ?_; (with_reducible refine (grammar_reader_takes.calls g t276 t277 t278 (⟨#[40, 32]⟩ : ByteArray) false t310 t311 t312 w0 _ ?side1 ?side2 A95.out).mono ?_); (case side1 => exact HI0.out); (case side2 => exact HB.out); rintro e w174 ⟨rfl, hi, hb, hk⟩; refine ⟨_, rfl, ?_⟩; have n0_ := Aside0.mk (KeepBut.blk hk (g' := gb239) (o := .cells #[.string (⟨#[]⟩ : ByteArray), .string (⟨#[]⟩ : ByteArray), .slice none 0 0] 52 (0, 0)) BK239.out NB239_0.out (by simp)); have n1_ := Aside0.mk (KeepBut.trans HK.out hk (.inl rfl)); have n2_ := Aside0.mk (hb); have n3_ := Aside0.mk (hi); clear BK239; clear HK; clear HB; clear HI0; have BK239 := n0_; have HK := n1_; have HB := n2_; have HI0 := n3_; clear n0_ n1_ n2_ n3_; (try clear hb); (try clear hk); (try clear hi)) | ((with_reducible refine gate_callee (f := 52) rfl ?_); refine goesL_ (some 60) rfl rfl Try.func52 (by kernel_rfl) rfl #[.pointer (some ⟨g, 0, none⟩)] rfl (by (try simp only [List.map_toArray, List.map_cons, List.map_nil]); first | rfl) ?_; (with_reducible refine (grammar_reader_name.calls k g t310 t311 t312 t313 t314 t315 t316 w0 _ ?side1 ?side2 A166.out).mono ?_); (case side1 => exact HI0.out); (case side2 => exact HB.out); rintro e w175 ⟨rfl, hi, hb, hk⟩; refine ⟨_, rfl, ?_⟩; have n0_ := Aside0.mk (KeepBut.blk hk (g' := gb239) (o := .cells #[.string (⟨#[]⟩ : ByteArray), .string (⟨#[]⟩ : ByteArray), .slice none 0 0] 52 (0, 0)) BK239.out NB239_0.out (by simp)); have n1_ := Aside0.mk (KeepBut.trans HK.out hk (.inl rfl)); have n2_ := Aside0.mk (hb); have n3_ := Aside0.mk (hi); clear BK239; clear HK; clear HB; clear HI0; have BK239 := n0_; have HK := n1_; have HB := n2_; have HI0 := n3_; clear n0_ n1_ n2_ n3_; (try clear hb); (try clear hk); (try clear hi); have hnb176 := NB239_0.out; have hnc176 := NB0_239.out; have hcz177_0 : w175.cell? ⟨gb239, 0, none⟩ = some (.string (⟨#[]⟩ : ByteArray)) := (blk_cell BK239.out 0).trans rfl; have hcz177_1 : w175.cell? ⟨gb239, 1, none⟩ = some (.string (⟨#[]⟩ : ByteArray)) := (blk_cell BK239.out 1).trans rfl; have hcz177_2 : w175.cell? ⟨gb239, 2, none⟩ = some (.slice none 0 0) := (blk_cell BK239.out 2).trans rfl; have hfz177_0 := blk_frozen BK239.out 0; have hfz177_1 := blk_frozen BK239.out 1; have hfz177_2 := blk_frozen BK239.out 2))
     refine bodyPost_ret (results_cell_row rfl _ _ gb239 52 #[.string (⟨#[114, 117, 108, 101]⟩ : ByteArray), .string t313, .slice none 0 0] (0, 0) _ rfl (by (with_reducible repeat (first | fail)); refine blk_put (cs := #[.string (⟨#[114, 117, 108, 101]⟩ : ByteArray), .string t313, .slice none 0 0]) ?_ 2 _ rfl; (with_reducible repeat (first | fail)); refine blk_put (cs := #[.string (⟨#[114, 117, 108, 101]⟩ : ByteArray), .string (⟨#[]⟩ : ByteArray), .slice none 0 0]) ?_ 1 _ rfl; (with_reducible repeat (first | fail)); refine blk_put (cs := #[.string (⟨#[]⟩ : ByteArray), .string (⟨#[]⟩ : ByteArray), .slice none 0 0]) ?_ 0 _ rfl; (with_reducible repeat (first | fail)); exact BK239.out) Try.underlying52 rfl (by kernel_rfl)) rfl ?_
     exact ⟨_, by first | rfl, by first | exact Kd.N_nil _ _ _ _ _, by repeat ((with_reducible first | exact HI0.out | refine IsS99.far ?_ NB0_239.out _)), by repeat ((with_reducible first | exact HB.out | refine below_set ?_ GE239.out)), by repeat ((with_reducible first | exact HK.out | refine keep_far ?_ GW239.out _))⟩
   subst c96
   rw [if_pos rfl] at H
   replace H := Option.bind_eq_some_iff.mp H
   obtain ⟨⟨t317, t318, t319, t322, t323, t324⟩, A970, H⟩ := H
   dsimp only at H
   have A97 := Aside0.mk A970
   clear A970
   obtain ⟨y325, hy325⟩ : ∃ y_ : List (S52), y_ = (([(⟨t317, t318, t319⟩ : S52)] : List (S52))) := ⟨_, rfl⟩
   replace H : ((grammar_reader_takes.f t322 t323 t324 (⟨#[32, 42, 32, 41]⟩ : ByteArray)).bind fun bt328 => (if bt328.1 = true then (some ((⟨#[109, 97, 110, 121]⟩ : ByteArray), (⟨#[]⟩ : ByteArray), y325, bt328.2.1, bt328.2.2.1, bt328.2.2.2)) else ((grammar_reader_takes.f bt328.2.1 bt328.2.2.1 bt328.2.2.2 (⟨#[32, 63, 32, 41]⟩ : ByteArray)).bind fun bt332 => (if bt332.1 = true then (some ((⟨#[111, 112, 116]⟩ : ByteArray), (⟨#[]⟩ : ByteArray), y325, bt332.2.1, bt332.2.2.1, bt332.2.2.2)) else (grammar_reader_body.l1 k y325 bt332.2.1 bt332.2.2.1 bt332.2.2.2))))) = some (r1, r2, r3, r4, r5, r6) := by (have H2_ := (Option.bind_some _ _).symm.trans H; rw [hy325]; with_reducible exact H2_)
   have Ny325 := Aside0.mk hy325
   clear hy325
   replace H := Option.bind_eq_some_iff.mp H
   obtain ⟨⟨t328, t329, t330, t331⟩, A980, H⟩ := H
   dsimp only at H
   have A98 := Aside0.mk A980
   clear A980
   by_cases c99 : t328 = true
   · subst c99
     rw [if_pos rfl] at H
     simp only [Option.some.injEq, Prod.mk.injEq] at H
     obtain ⟨rfl, rfl, rfl, rfl, rfl, rfl⟩ := H
     go_enter Try.func54, Try.ntmps54
     go_wp2_with (first | ((with_reducible refine gate_dst (N := 2) rfl ?_); refine box_event ?hg (N := 2) ?hd (cs := #[.string (⟨#[]⟩ : ByteArray), .string (⟨#[]⟩ : ByteArray), .slice none 0 0]) (t := 52) ?hr ?_; (case hd => rfl); (case hg => rfl); (case hr => (go_simp; done)); intro gb239 hg w100 hbox hb; have n0_ := Aside0.mk (IsS99.below HI0.out hb); have n1_ := Aside0.mk (KeepBut.trans HK.out (KeepBut.of_below hb g none) (.inl rfl)); have n2_ := Aside0.mk (below_step HB.out hb); have n3_ := Aside0.mk (hbox); have n4_ := Aside0.mk ((by rw [hg]; exact (keep_size (w := w) (g := g) (row := none) HK.out) : w.heap.size ≤ gb239)); have n5_ := Aside0.mk ((Nat.le_trans HW0.out (by rw [hg]; exact (keep_size (w := w) (g := g) (row := none) HK.out) : w.heap.size ≤ gb239) : w0.heap.size ≤ gb239)); have n6_ := Aside0.mk ((by rw [hg]; exact Nat.ne_of_lt (IsS99.lt (show IsS99 w0 _ g s0_0 s0_1 false from by exact HI0.out)) : g ≠ gb239)); have n7_ := Aside0.mk ((by rw [hg]; exact Nat.ne_of_gt (IsS99.lt (show IsS99 w0 _ g s0_0 s0_1 false from by exact HI0.out)) : gb239 ≠ g)); clear HI0; clear HK; clear HB; have HI0 := n0_; have HK := n1_; have HB := n2_; have BK239 := n3_; have GW239 := n4_; have GE239 := n5_; have NB0_239 := n6_; have NB239_0 := n7_; clear n0_ n1_ n2_ n3_ n4_ n5_ n6_ n7_; clear hb hbox hg; obtain ⟨HGz101, hgz101⟩ := HI0.out; have hcz101_0 := cellS99_0 HGz101; have hcz101_1 := cellS99_1 HGz101; have hcz101_2 := cellS99_2 HGz101; have hfz101_0 := blk_frozen HGz101 0; have hfz101_1 := blk_frozen HGz101 1; have hfz101_2 := blk_frozen HGz101 2; clear HGz101 hgz101) | ((with_reducible refine gate_callee (f := 79) rfl ?_); refine goesL_ (some 14) rfl rfl Try.func79 (by kernel_rfl) rfl #[.pointer (some ⟨g, 0, none⟩), .string (⟨#[39]⟩ : ByteArray)] rfl (by (try simp only [List.map_toArray, List.map_cons, List.map_nil]); first | rfl) ?_; (with_reducible refine (grammar_reader_takes.calls g s0_0 s0_1 false (⟨#[39]⟩ : ByteArray) false t241 t242 t243 w0 _ ?side1 ?side2 A7.out).mono ?_); (case side1 => exact HI0.out); (case side2 => exact HB.out); rintro e w102 ⟨rfl, hi, hb, hk⟩; refine ⟨_, rfl, ?_⟩; have n0_ := Aside0.mk (KeepBut.blk hk (g' := gb239) (o := .cells #[.string (⟨#[]⟩ : ByteArray), .string (⟨#[]⟩ : ByteArray), .slice none 0 0] 52 (0, 0)) BK239.out NB239_0.out (by simp)); have n1_ := Aside0.mk (KeepBut.trans HK.out hk (.inl rfl)); have n2_ := Aside0.mk (hb); have n3_ := Aside0.mk (hi); clear BK239; clear HK; clear HB; clear HI0; have BK239 := n0_; have HK := n1_; have HB := n2_; have HI0 := n3_; clear n0_ n1_ n2_ n3_; (try clear hb); (try clear hk); (try clear hi)) | ((with_reducible refine gate_callee (f := 79) rfl ?_); refine goesL_ (some 20) rfl rfl Try.func79 (by kernel_rfl) rfl #[.pointer (some ⟨g, 0, none⟩), .string (⟨#[46]⟩ : ByteArray)] rfl (by (try simp only [List.map_toArray, List.map_cons, List.map_nil]); first | rfl) ?_; (with_reducible refine (grammar_reader_takes.calls g t241 t242 t243 (⟨#[46]⟩ : ByteArray) false t249 t250 t251 w0 _ ?side1 ?side2 A16.out).mono ?_); (case side1 => exact HI0.out); (case side2 => exact HB.out); rintro e w103 ⟨rfl, hi, hb, hk⟩; refine ⟨_, rfl, ?_⟩; have n0_ := Aside0.mk (KeepBut.blk hk (g' := gb239) (o := .cells #[.string (⟨#[]⟩ : ByteArray), .string (⟨#[]⟩ : ByteArray), .slice none 0 0] 52 (0, 0)) BK239.out NB239_0.out (by simp)); have n1_ := Aside0.mk (KeepBut.trans HK.out hk (.inl rfl)); have n2_ := Aside0.mk (hb); have n3_ := Aside0.mk (hi); clear BK239; clear HK; clear HB; clear HI0; have BK239 := n0_; have HK := n1_; have HB := n2_; have HI0 := n3_; clear n0_ n1_ n2_ n3_; (try clear hb); (try clear hk); (try clear hi)) | ((with_reducible refine gate_callee (f := 79) rfl ?_); refine goesL_ (some 24) rfl rfl Try.func79 (by kernel_rfl) rfl #[.pointer (some ⟨g, 0, none⟩), .string (⟨#[40, 41]⟩ : ByteArray)] rfl (by (try simp only [List.map_toArray, List.map_cons, List.map_nil]); first | rfl) ?_; (with_reducible refine (grammar_reader_takes.calls g t249 t250 t251 (⟨#[40, 41]⟩ : ByteArray) false t253 t254 t255 w0 _ ?side1 ?side2 A24.out).mono ?_); (case side1 => exact HI0.out); (case side2 => exact HB.out); rintro e w104 ⟨rfl, hi, hb, hk⟩; refine ⟨_, rfl, ?_⟩; have n0_ := Aside0.mk (KeepBut.blk hk (g' := gb239) (o := .cells #[.string (⟨#[]⟩ : ByteArray), .string (⟨#[]⟩ : ByteArray), .slice none 0 0] 52 (0, 0)) BK239.out NB239_0.out (by simp)); have n1_ := Aside0.mk (KeepBut.trans HK.out hk (.inl rfl)); have n2_ := Aside0.mk (hb); have n3_ := Aside0.mk (hi); clear BK239; clear HK; clear HB; clear HI0; have BK239 := n0_; have HK := n1_; have HB := n2_; have HI0 := n3_; clear n0_ n1_ n2_ n3_; (try clear hb); (try clear hk); (try clear hi)) | ((with_reducible refine gate_callee (f := 79) rfl ?_); refine goesL_ (some 28) rfl rfl Try.func79 (by kernel_rfl) rfl #[.pointer (some ⟨g, 0, none⟩), .string (⟨#[40, 32, 33, 32]⟩ : ByteArray)] rfl (by (try simp only [List.map_toArray, List.map_cons, List.map_nil]); first | rfl) ?_; (with_reducible refine (grammar_reader_takes.calls g t253 t254 t255 (⟨#[40, 32, 33, 32]⟩ : ByteArray) false t257 t258 t259 w0 _ ?side1 ?side2 A33.out).mono ?_); (case side1 => exact HI0.out); (case side2 => exact HB.out); rintro e w105 ⟨rfl, hi, hb, hk⟩; refine ⟨_, rfl, ?_⟩; have n0_ := Aside0.mk (KeepBut.blk hk (g' := gb239) (o := .cells #[.string (⟨#[]⟩ : ByteArray), .string (⟨#[]⟩ : ByteArray), .slice none 0 0] 52 (0, 0)) BK239.out NB239_0.out (by simp)); have n1_ := Aside0.mk (KeepBut.trans HK.out hk (.inl rfl)); have n2_ := Aside0.mk (hb); have n3_ := Aside0.mk (hi); clear BK239; clear HK; clear HB; clear HI0; have BK239 := n0_; have HK := n1_; have HB := n2_; have HI0 := n3_; clear n0_ n1_ n2_ n3_; (try clear hb); (try clear hk); (try clear hi)) | ((with_reducible refine gate_callee (f := 79) rfl ?_); refine goesL_ (some 38) rfl rfl Try.func79 (by kernel_rfl) rfl #[.pointer (some ⟨g, 0, none⟩), .string (⟨#[40, 32, 47, 32]⟩ : ByteArray)] rfl (by (try simp only [List.map_toArray, List.map_cons, List.map_nil]); first | rfl) ?_; (with_reducible refine (grammar_reader_takes.calls g t257 t258 t259 (⟨#[40, 32, 47, 32]⟩ : ByteArray) false t276 t277 t278 w0 _ ?side1 ?side2 A56.out).mono ?_); (case side1 => exact HI0.out); (case side2 => exact HB.out); rintro e w106 ⟨rfl, hi, hb, hk⟩; refine ⟨_, rfl, ?_⟩; have n0_ := Aside0.mk (KeepBut.blk hk (g' := gb239) (o := .cells #[.string (⟨#[]⟩ : ByteArray), .string (⟨#[]⟩ : ByteArray), .slice none 0 0] 52 (0, 0)) BK239.out NB239_0.out (by simp)); have n1_ := Aside0.mk (KeepBut.trans HK.out hk (.inl rfl)); have n2_ := Aside0.mk (hb); have n3_ := Aside0.mk (hi); clear BK239; clear HK; clear HB; clear HI0; have BK239 := n0_; have HK := n1_; have HB := n2_; have HI0 := n3_; clear n0_ n1_ n2_ n3_; (try clear hb); (try clear hk); (try clear hi)) | ((with_reducible refine gate_callee (f := 79) rfl ?_); refine goesL_ (some 57) rfl rfl Try.func79 (by kernel_rfl) rfl #[.pointer (some ⟨g, 0, none⟩), .string (⟨#[40, 32]⟩ : ByteArray)] rfl (by (try simp only [List.map_toArray, List.map_cons, List.map_nil]); first | rfl) ?_; (with_reducible refine (grammar_reader_takes.calls g t276 t277 t278 (⟨#[40, 32]⟩ : ByteArray) true t310 t311 t312 w0 _ ?side1 ?side2 A95.out).mono ?_); (case side1 => exact HI0.out); (case side2 => exact HB.out); rintro e w107 ⟨rfl, hi, hb, hk⟩; refine ⟨_, rfl, ?_⟩; have n0_ := Aside0.mk (KeepBut.blk hk (g' := gb239) (o := .cells #[.string (⟨#[]⟩ : ByteArray), .string (⟨#[]⟩ : ByteArray), .slice none 0 0] 52 (0, 0)) BK239.out NB239_0.out (by simp)); have n1_ := Aside0.mk (KeepBut.trans HK.out hk (.inl rfl)); have n2_ := Aside0.mk (hb); have n3_ := Aside0.mk (hi); clear BK239; clear HK; clear HB; clear HI0; have BK239 := n0_; have HK := n1_; have HB := n2_; have HI0 := n3_; clear n0_ n1_ n2_ n3_; (try clear hb); (try clear hk); (try clear hi)) | ((with_reducible refine gate_callee (f := 54) rfl ?_); refine goesL_ (some 63) rfl rfl Try.func54 (by kernel_rfl) rfl #[.pointer (some ⟨g, 0, none⟩)] rfl (by (try simp only [List.map_toArray, List.map_cons, List.map_nil]); first | rfl) ?_; (with_reducible refine (ih k (by omega) g t310 t311 t312 t317 t318 t319 t322 t323 t324 w0 _ ?side1 ?side2 A97.out).mono ?_); (case side1 => exact HI0.out); (case side2 => exact HB.out); rintro e w108 ⟨v320, rfl, ho0, hi, hb, hk⟩; refine ⟨_, rfl, ?_⟩; have n0_ := Aside0.mk (KeepBut.blk hk (g' := gb239) (o := .cells #[.string (⟨#[]⟩ : ByteArray), .string (⟨#[]⟩ : ByteArray), .slice none 0 0] 52 (0, 0)) BK239.out NB239_0.out (by simp)); have n1_ := Aside0.mk (Kd.N_lower (Kd.N_mono (ok' := fun k_ => (w.heap.size ≤ k_) ∧ k_ ≠ gb239 ∧ k_ ≠ g) ho0 (fun k_ hk_ => ⟨(Nat.le_trans (keep_size (w := w) (g := g) (row := none) HK.out) hk_), (Kd.freshB (g := gb239) (o := .cells #[.string (⟨#[]⟩ : ByteArray), .string (⟨#[]⟩ : ByteArray), .slice none 0 0] 52 (0, 0)) BK239.out k_ hk_), (IsS99.fresh HI0.out k_ hk_)⟩)) (keep_size (w := w) (g := g) (row := none) HK.out)); have n2_ := Aside0.mk (KeepBut.trans HK.out hk (.inl rfl)); have n3_ := Aside0.mk (hb); have n4_ := Aside0.mk (hi); clear BK239; clear HK; clear HB; clear HI0; have BK239 := n0_; have HO321 := n1_; have HK := n2_; have HB := n3_; have HI0 := n4_; clear n0_ n1_ n2_ n3_ n4_; (try clear hb); (try clear hk); (try clear hi); (try clear ho0); obtain ⟨Ao109, co109, eo109⟩ := Kd.N_slice HO321.out; subst eo109) | ((with_reducible refine gate_dst (N := 64) rfl ?_); refine Kd.N_lit k52 _ 52 ?hg (N' := 64) ?hd (xs := ([(⟨t317, t318, t319⟩ : S52)] : List (S52))) (inner := [.string t317, .string t318, .slice Ao109 t319.length co109]) (ok := (fun k_ => (w.heap.size ≤ k_) ∧ k_ ≠ gb239 ∧ k_ ≠ g)) (okp := (fun k_ => (w.heap.size ≤ k_) ∧ k_ ≠ gb239 ∧ k_ ≠ g)) ?hr ?hp (fun _ hk => hk) ((show ∀ k_, w108.heap.size ≤ k_ → (fun k_ => (w.heap.size ≤ k_) ∧ k_ ≠ gb239 ∧ k_ ≠ g) k_ from fun k_ hk => ⟨(Nat.le_trans (keep_size (w := w) (g := g) (row := none) HK.out) hk), Kd.freshB (g := gb239) (o := .cells #[.string (⟨#[]⟩ : ByteArray), .string (⟨#[]⟩ : ByteArray), .slice none 0 0] 52 (0, 0)) BK239.out k_ hk, IsS99.fresh HI0.out k_ hk⟩) _ (Nat.le_refl _)) (Below.refl _ _) (Nat.le_refl _) (by simp) ?_; (case hd => rfl); (case hg => rfl); (case hr => (go_simp; done)); (case hp => exact (Reps.c3 (show Kd.FK k52 _ _ (⟨t317, t318, t319⟩ : S52) [.string t317, .string t318, .slice Ao109 t319.length co109] from (k52_mkF _ _ (⟨t317, t318, t319⟩ : S52) (Kd.N_reads' (Kd.N_mono (ok' := (fun k_ => (w.heap.size ≤ k_) ∧ k_ ≠ gb239 ∧ k_ ≠ g)) (HO321.out) (fun k_ hk => ⟨hk.1, ⟨hk.2.1, hk.2.2⟩⟩))).2.1 (Kd.N_F (Kd.N_mono (ok' := (fun k_ => (w.heap.size ≤ k_) ∧ k_ ≠ gb239 ∧ k_ ≠ g)) (HO321.out) (fun k_ hk => ⟨hk.1, ⟨hk.2.1, hk.2.2⟩⟩))))) (Reps.none _ _))); intro v326 w110 ho111 hb hg_ hnew_; clear hg_ hnew_; (first | rw [← Ny325.out] at ho111); have n0_ := Aside0.mk (Kd.N_lower ho111 (keep_size (w := w) (g := g) (row := none) HK.out)); have n1_ := Aside0.mk (IsS99.below HI0.out hb); have n2_ := Aside0.mk (blk_below (g := gb239) (o := .cells #[.string (⟨#[]⟩ : ByteArray), .string (⟨#[]⟩ : ByteArray), .slice none 0 0] 52 (0, 0)) BK239.out hb); have n3_ := Aside0.mk (KeepBut.trans HK.out (KeepBut.of_below hb g none) (.inl rfl)); have n4_ := Aside0.mk (below_step HB.out hb); clear HI0; clear BK239; clear HK; clear HB; clear HO321; have HO327 := n0_; have HI0 := n1_; have BK239 := n2_; have HK := n3_; have HB := n4_; clear n0_ n1_ n2_ n3_ n4_; clear hb ho111) | ((with_reducible refine gate_callee (f := 79) rfl ?_); refine goesL_ (some 67) rfl rfl Try.func79 (by kernel_rfl) rfl #[.pointer (some ⟨g, 0, none⟩), .string (⟨#[32, 42, 32, 41]⟩ : ByteArray)] rfl (by (try simp only [List.map_toArray, List.map_cons, List.map_nil]); first | rfl) ?_; (with_reducible refine (grammar_reader_takes.calls g t322 t323 t324 (⟨#[32, 42, 32, 41]⟩ : ByteArray) true t329 t330 t331 w0 _ ?side1 ?side2 A98.out).mono ?_); (case side1 => exact HI0.out); (case side2 => exact HB.out); rintro e w112 ⟨rfl, hi, hb, hk⟩; refine ⟨_, rfl, ?_⟩; have n0_ := Aside0.mk (KeepBut.blk hk (g' := gb239) (o := .cells #[.string (⟨#[]⟩ : ByteArray), .string (⟨#[]⟩ : ByteArray), .slice none 0 0] 52 (0, 0)) BK239.out NB239_0.out (by simp)); have n1_ := Aside0.mk (Kd.N_mono (Kd.N_keep (Kd.N_mono (ok := fun k_ => (((w.heap.size ≤ k_)) ∧ (k_ ≠ gb239 ∧ k_ ≠ g))) HO327.out (fun k_ hk_ => (⟨hk_, hk_.2.2⟩ : _ ∧ k_ ≠ g))) hk (fun _ h => h.2)) (fun _ h => h.1)); have n2_ := Aside0.mk (KeepBut.trans HK.out hk (.inl rfl)); have n3_ := Aside0.mk (hb); have n4_ := Aside0.mk (hi); clear BK239; clear HO327; clear HK; clear HB; clear HI0; have BK239 := n0_; have HO327 := n1_; have HK := n2_; have HB := n3_; have HI0 := n4_; clear n0_ n1_ n2_ n3_ n4_; (try clear hb); (try clear hk); (try clear hi); obtain ⟨Ao113, co113, eo113⟩ := Kd.N_slice HO327.out; subst eo113; have hnb114 := NB239_0.out; have hnc114 := NB0_239.out; have hcz115_0 : w112.cell? ⟨gb239, 0, none⟩ = some (.string (⟨#[]⟩ : ByteArray)) := (blk_cell BK239.out 0).trans rfl; have hcz115_1 : w112.cell? ⟨gb239, 1, none⟩ = some (.string (⟨#[]⟩ : ByteArray)) := (blk_cell BK239.out 1).trans rfl; have hcz115_2 : w112.cell? ⟨gb239, 2, none⟩ = some (.slice none 0 0) := (blk_cell BK239.out 2).trans rfl; have hfz115_0 := blk_frozen BK239.out 0; have hfz115_1 := blk_frozen BK239.out 1; have hfz115_2 := blk_frozen BK239.out 2))
     refine bodyPost_ret (results_cell_row rfl _ _ gb239 52 #[.string (⟨#[109, 97, 110, 121]⟩ : ByteArray), .string (⟨#[]⟩ : ByteArray), .slice Ao113 y325.length co113] (0, 0) _ rfl (by (with_reducible repeat (first | fail)); refine blk_put (cs := #[.string (⟨#[109, 97, 110, 121]⟩ : ByteArray), .string (⟨#[]⟩ : ByteArray), .slice none 0 0]) ?_ 2 _ rfl; (with_reducible repeat (first | fail)); refine blk_put (cs := #[.string (⟨#[109, 97, 110, 121]⟩ : ByteArray), .string (⟨#[]⟩ : ByteArray), .slice none 0 0]) ?_ 1 _ rfl; (with_reducible repeat (first | fail)); refine blk_put (cs := #[.string (⟨#[]⟩ : ByteArray), .string (⟨#[]⟩ : ByteArray), .slice none 0 0]) ?_ 0 _ rfl; (with_reducible repeat (first | fail)); exact BK239.out) Try.underlying52 rfl (by kernel_rfl)) rfl ?_
     exact ⟨_, by first | rfl, by (with_reducible repeat (first | fail)); exact Kd.N_mono (Kd.N_far (p := ⟨gb239, 2, none⟩) (Kd.N_far (p := ⟨gb239, 1, none⟩) (Kd.N_far (p := ⟨gb239, 0, none⟩) (Kd.N_mono HO327.out (fun k_ hk => (⟨hk, hk.2.1⟩ : _ ∧ k_ ≠ gb239))) (fun _ hk => hk.2) (.string (⟨#[109, 97, 110, 121]⟩ : ByteArray))) (fun _ hk => hk.2) (.string (⟨#[]⟩ : ByteArray))) (fun _ hk => hk.2) (.slice Ao113 y325.length co113)) (fun _ hk => hk.1.1), by repeat ((with_reducible first | exact HI0.out | refine IsS99.far ?_ NB0_239.out _)), by repeat ((with_reducible first | exact HB.out | refine below_set ?_ GE239.out)), by repeat ((with_reducible first | exact HK.out | refine keep_far ?_ GW239.out _))⟩
   replace c99 := Bool.eq_false_iff.mpr c99
   subst c99
   rw [if_neg (show ¬ (false = true) by decide)] at H
   replace H := Option.bind_eq_some_iff.mp H
   obtain ⟨⟨t332, t333, t334, t335⟩, A1160, H⟩ := H
   dsimp only at H
   have A116 := Aside0.mk A1160
   clear A1160
   by_cases c117 : t332 = true
   · subst c117
     rw [if_pos rfl] at H
     simp only [Option.some.injEq, Prod.mk.injEq] at H
     obtain ⟨rfl, rfl, rfl, rfl, rfl, rfl⟩ := H
     go_enter Try.func54, Try.ntmps54
     go_wp2_with (first | ((with_reducible refine gate_dst (N := 2) rfl ?_); refine box_event ?hg (N := 2) ?hd (cs := #[.string (⟨#[]⟩ : ByteArray), .string (⟨#[]⟩ : ByteArray), .slice none 0 0]) (t := 52) ?hr ?_; (case hd => rfl); (case hg => rfl); (case hr => (go_simp; done)); intro gb239 hg w118 hbox hb; have n0_ := Aside0.mk (IsS99.below HI0.out hb); have n1_ := Aside0.mk (KeepBut.trans HK.out (KeepBut.of_below hb g none) (.inl rfl)); have n2_ := Aside0.mk (below_step HB.out hb); have n3_ := Aside0.mk (hbox); have n4_ := Aside0.mk ((by rw [hg]; exact (keep_size (w := w) (g := g) (row := none) HK.out) : w.heap.size ≤ gb239)); have n5_ := Aside0.mk ((Nat.le_trans HW0.out (by rw [hg]; exact (keep_size (w := w) (g := g) (row := none) HK.out) : w.heap.size ≤ gb239) : w0.heap.size ≤ gb239)); have n6_ := Aside0.mk ((by rw [hg]; exact Nat.ne_of_lt (IsS99.lt (show IsS99 w0 _ g s0_0 s0_1 false from by exact HI0.out)) : g ≠ gb239)); have n7_ := Aside0.mk ((by rw [hg]; exact Nat.ne_of_gt (IsS99.lt (show IsS99 w0 _ g s0_0 s0_1 false from by exact HI0.out)) : gb239 ≠ g)); clear HI0; clear HK; clear HB; have HI0 := n0_; have HK := n1_; have HB := n2_; have BK239 := n3_; have GW239 := n4_; have GE239 := n5_; have NB0_239 := n6_; have NB239_0 := n7_; clear n0_ n1_ n2_ n3_ n4_ n5_ n6_ n7_; clear hb hbox hg; obtain ⟨HGz119, hgz119⟩ := HI0.out; have hcz119_0 := cellS99_0 HGz119; have hcz119_1 := cellS99_1 HGz119; have hcz119_2 := cellS99_2 HGz119; have hfz119_0 := blk_frozen HGz119 0; have hfz119_1 := blk_frozen HGz119 1; have hfz119_2 := blk_frozen HGz119 2; clear HGz119 hgz119) | ((with_reducible refine gate_callee (f := 79) rfl ?_); refine goesL_ (some 14) rfl rfl Try.func79 (by kernel_rfl) rfl #[.pointer (some ⟨g, 0, none⟩), .string (⟨#[39]⟩ : ByteArray)] rfl (by (try simp only [List.map_toArray, List.map_cons, List.map_nil]); first | rfl) ?_; (with_reducible refine (grammar_reader_takes.calls g s0_0 s0_1 false (⟨#[39]⟩ : ByteArray) false t241 t242 t243 w0 _ ?side1 ?side2 A7.out).mono ?_); (case side1 => exact HI0.out); (case side2 => exact HB.out); rintro e w120 ⟨rfl, hi, hb, hk⟩; refine ⟨_, rfl, ?_⟩; have n0_ := Aside0.mk (KeepBut.blk hk (g' := gb239) (o := .cells #[.string (⟨#[]⟩ : ByteArray), .string (⟨#[]⟩ : ByteArray), .slice none 0 0] 52 (0, 0)) BK239.out NB239_0.out (by simp)); have n1_ := Aside0.mk (KeepBut.trans HK.out hk (.inl rfl)); have n2_ := Aside0.mk (hb); have n3_ := Aside0.mk (hi); clear BK239; clear HK; clear HB; clear HI0; have BK239 := n0_; have HK := n1_; have HB := n2_; have HI0 := n3_; clear n0_ n1_ n2_ n3_; (try clear hb); (try clear hk); (try clear hi)) | ((with_reducible refine gate_callee (f := 79) rfl ?_); refine goesL_ (some 20) rfl rfl Try.func79 (by kernel_rfl) rfl #[.pointer (some ⟨g, 0, none⟩), .string (⟨#[46]⟩ : ByteArray)] rfl (by (try simp only [List.map_toArray, List.map_cons, List.map_nil]); first | rfl) ?_; (with_reducible refine (grammar_reader_takes.calls g t241 t242 t243 (⟨#[46]⟩ : ByteArray) false t249 t250 t251 w0 _ ?side1 ?side2 A16.out).mono ?_); (case side1 => exact HI0.out); (case side2 => exact HB.out); rintro e w121 ⟨rfl, hi, hb, hk⟩; refine ⟨_, rfl, ?_⟩; have n0_ := Aside0.mk (KeepBut.blk hk (g' := gb239) (o := .cells #[.string (⟨#[]⟩ : ByteArray), .string (⟨#[]⟩ : ByteArray), .slice none 0 0] 52 (0, 0)) BK239.out NB239_0.out (by simp)); have n1_ := Aside0.mk (KeepBut.trans HK.out hk (.inl rfl)); have n2_ := Aside0.mk (hb); have n3_ := Aside0.mk (hi); clear BK239; clear HK; clear HB; clear HI0; have BK239 := n0_; have HK := n1_; have HB := n2_; have HI0 := n3_; clear n0_ n1_ n2_ n3_; (try clear hb); (try clear hk); (try clear hi)) | ((with_reducible refine gate_callee (f := 79) rfl ?_); refine goesL_ (some 24) rfl rfl Try.func79 (by kernel_rfl) rfl #[.pointer (some ⟨g, 0, none⟩), .string (⟨#[40, 41]⟩ : ByteArray)] rfl (by (try simp only [List.map_toArray, List.map_cons, List.map_nil]); first | rfl) ?_; (with_reducible refine (grammar_reader_takes.calls g t249 t250 t251 (⟨#[40, 41]⟩ : ByteArray) false t253 t254 t255 w0 _ ?side1 ?side2 A24.out).mono ?_); (case side1 => exact HI0.out); (case side2 => exact HB.out); rintro e w122 ⟨rfl, hi, hb, hk⟩; refine ⟨_, rfl, ?_⟩; have n0_ := Aside0.mk (KeepBut.blk hk (g' := gb239) (o := .cells #[.string (⟨#[]⟩ : ByteArray), .string (⟨#[]⟩ : ByteArray), .slice none 0 0] 52 (0, 0)) BK239.out NB239_0.out (by simp)); have n1_ := Aside0.mk (KeepBut.trans HK.out hk (.inl rfl)); have n2_ := Aside0.mk (hb); have n3_ := Aside0.mk (hi); clear BK239; clear HK; clear HB; clear HI0; have BK239 := n0_; have HK := n1_; have HB := n2_; have HI0 := n3_; clear n0_ n1_ n2_ n3_; (try clear hb); (try clear hk); (try clear hi)) | ((with_reducible refine gate_callee (f := 79) rfl ?_); refine goesL_ (some 28) rfl rfl Try.func79 (by kernel_rfl) rfl #[.pointer (some ⟨g, 0, none⟩), .string (⟨#[40, 32, 33, 32]⟩ : ByteArray)] rfl (by (try simp only [List.map_toArray, List.map_cons, List.map_nil]); first | rfl) ?_; (with_reducible refine (grammar_reader_takes.calls g t253 t254 t255 (⟨#[40, 32, 33, 32]⟩ : ByteArray) false t257 t258 t259 w0 _ ?side1 ?side2 A33.out).mono ?_); (case side1 => exact HI0.out); (case side2 => exact HB.out); rintro e w123 ⟨rfl, hi, hb, hk⟩; refine ⟨_, rfl, ?_⟩; have n0_ := Aside0.mk (KeepBut.blk hk (g' := gb239) (o := .cells #[.string (⟨#[]⟩ : ByteArray), .string (⟨#[]⟩ : ByteArray), .slice none 0 0] 52 (0, 0)) BK239.out NB239_0.out (by simp)); have n1_ := Aside0.mk (KeepBut.trans HK.out hk (.inl rfl)); have n2_ := Aside0.mk (hb); have n3_ := Aside0.mk (hi); clear BK239; clear HK; clear HB; clear HI0; have BK239 := n0_; have HK := n1_; have HB := n2_; have HI0 := n3_; clear n0_ n1_ n2_ n3_; (try clear hb); (try clear hk); (try clear hi)) | ((with_reducible refine gate_callee (f := 79) rfl ?_); refine goesL_ (some 38) rfl rfl Try.func79 (by kernel_rfl) rfl #[.pointer (some ⟨g, 0, none⟩), .string (⟨#[40, 32, 47, 32]⟩ : ByteArray)] rfl (by (try simp only [List.map_toArray, List.map_cons, List.map_nil]); first | rfl) ?_; (with_reducible refine (grammar_reader_takes.calls g t257 t258 t259 (⟨#[40, 32, 47, 32]⟩ : ByteArray) false t276 t277 t278 w0 _ ?side1 ?side2 A56.out).mono ?_); (case side1 => exact HI0.out); (case side2 => exact HB.out); rintro e w124 ⟨rfl, hi, hb, hk⟩; refine ⟨_, rfl, ?_⟩; have n0_ := Aside0.mk (KeepBut.blk hk (g' := gb239) (o := .cells #[.string (⟨#[]⟩ : ByteArray), .string (⟨#[]⟩ : ByteArray), .slice none 0 0] 52 (0, 0)) BK239.out NB239_0.out (by simp)); have n1_ := Aside0.mk (KeepBut.trans HK.out hk (.inl rfl)); have n2_ := Aside0.mk (hb); have n3_ := Aside0.mk (hi); clear BK239; clear HK; clear HB; clear HI0; have BK239 := n0_; have HK := n1_; have HB := n2_; have HI0 := n3_; clear n0_ n1_ n2_ n3_; (try clear hb); (try clear hk); (try clear hi)) | ((with_reducible refine gate_callee (f := 79) rfl ?_); refine goesL_ (some 57) rfl rfl Try.func79 (by kernel_rfl) rfl #[.pointer (some ⟨g, 0, none⟩), .string (⟨#[40, 32]⟩ : ByteArray)] rfl (by (try simp only [List.map_toArray, List.map_cons, List.map_nil]); first | rfl) ?_; (with_reducible refine (grammar_reader_takes.calls g t276 t277 t278 (⟨#[40, 32]⟩ : ByteArray) true t310 t311 t312 w0 _ ?side1 ?side2 A95.out).mono ?_); (case side1 => exact HI0.out); (case side2 => exact HB.out); rintro e w125 ⟨rfl, hi, hb, hk⟩; refine ⟨_, rfl, ?_⟩; have n0_ := Aside0.mk (KeepBut.blk hk (g' := gb239) (o := .cells #[.string (⟨#[]⟩ : ByteArray), .string (⟨#[]⟩ : ByteArray), .slice none 0 0] 52 (0, 0)) BK239.out NB239_0.out (by simp)); have n1_ := Aside0.mk (KeepBut.trans HK.out hk (.inl rfl)); have n2_ := Aside0.mk (hb); have n3_ := Aside0.mk (hi); clear BK239; clear HK; clear HB; clear HI0; have BK239 := n0_; have HK := n1_; have HB := n2_; have HI0 := n3_; clear n0_ n1_ n2_ n3_; (try clear hb); (try clear hk); (try clear hi)) | ((with_reducible refine gate_callee (f := 54) rfl ?_); refine goesL_ (some 63) rfl rfl Try.func54 (by kernel_rfl) rfl #[.pointer (some ⟨g, 0, none⟩)] rfl (by (try simp only [List.map_toArray, List.map_cons, List.map_nil]); first | rfl) ?_; (with_reducible refine (ih k (by omega) g t310 t311 t312 t317 t318 t319 t322 t323 t324 w0 _ ?side1 ?side2 A97.out).mono ?_); (case side1 => exact HI0.out); (case side2 => exact HB.out); rintro e w126 ⟨v320, rfl, ho0, hi, hb, hk⟩; refine ⟨_, rfl, ?_⟩; have n0_ := Aside0.mk (KeepBut.blk hk (g' := gb239) (o := .cells #[.string (⟨#[]⟩ : ByteArray), .string (⟨#[]⟩ : ByteArray), .slice none 0 0] 52 (0, 0)) BK239.out NB239_0.out (by simp)); have n1_ := Aside0.mk (Kd.N_lower (Kd.N_mono (ok' := fun k_ => (w.heap.size ≤ k_) ∧ k_ ≠ gb239 ∧ k_ ≠ g) ho0 (fun k_ hk_ => ⟨(Nat.le_trans (keep_size (w := w) (g := g) (row := none) HK.out) hk_), (Kd.freshB (g := gb239) (o := .cells #[.string (⟨#[]⟩ : ByteArray), .string (⟨#[]⟩ : ByteArray), .slice none 0 0] 52 (0, 0)) BK239.out k_ hk_), (IsS99.fresh HI0.out k_ hk_)⟩)) (keep_size (w := w) (g := g) (row := none) HK.out)); have n2_ := Aside0.mk (KeepBut.trans HK.out hk (.inl rfl)); have n3_ := Aside0.mk (hb); have n4_ := Aside0.mk (hi); clear BK239; clear HK; clear HB; clear HI0; have BK239 := n0_; have HO321 := n1_; have HK := n2_; have HB := n3_; have HI0 := n4_; clear n0_ n1_ n2_ n3_ n4_; (try clear hb); (try clear hk); (try clear hi); (try clear ho0); obtain ⟨Ao127, co127, eo127⟩ := Kd.N_slice HO321.out; subst eo127) | ((with_reducible refine gate_dst (N := 64) rfl ?_); refine Kd.N_lit k52 _ 52 ?hg (N' := 64) ?hd (xs := ([(⟨t317, t318, t319⟩ : S52)] : List (S52))) (inner := [.string t317, .string t318, .slice Ao127 t319.length co127]) (ok := (fun k_ => (w.heap.size ≤ k_) ∧ k_ ≠ gb239 ∧ k_ ≠ g)) (okp := (fun k_ => (w.heap.size ≤ k_) ∧ k_ ≠ gb239 ∧ k_ ≠ g)) ?hr ?hp (fun _ hk => hk) ((show ∀ k_, w126.heap.size ≤ k_ → (fun k_ => (w.heap.size ≤ k_) ∧ k_ ≠ gb239 ∧ k_ ≠ g) k_ from fun k_ hk => ⟨(Nat.le_trans (keep_size (w := w) (g := g) (row := none) HK.out) hk), Kd.freshB (g := gb239) (o := .cells #[.string (⟨#[]⟩ : ByteArray), .string (⟨#[]⟩ : ByteArray), .slice none 0 0] 52 (0, 0)) BK239.out k_ hk, IsS99.fresh HI0.out k_ hk⟩) _ (Nat.le_refl _)) (Below.refl _ _) (Nat.le_refl _) (by simp) ?_; (case hd => rfl); (case hg => rfl); (case hr => (go_simp; done)); (case hp => exact (Reps.c3 (show Kd.FK k52 _ _ (⟨t317, t318, t319⟩ : S52) [.string t317, .string t318, .slice Ao127 t319.length co127] from (k52_mkF _ _ (⟨t317, t318, t319⟩ : S52) (Kd.N_reads' (Kd.N_mono (ok' := (fun k_ => (w.heap.size ≤ k_) ∧ k_ ≠ gb239 ∧ k_ ≠ g)) (HO321.out) (fun k_ hk => ⟨hk.1, ⟨hk.2.1, hk.2.2⟩⟩))).2.1 (Kd.N_F (Kd.N_mono (ok' := (fun k_ => (w.heap.size ≤ k_) ∧ k_ ≠ gb239 ∧ k_ ≠ g)) (HO321.out) (fun k_ hk => ⟨hk.1, ⟨hk.2.1, hk.2.2⟩⟩))))) (Reps.none _ _))); intro v326 w128 ho129 hb hg_ hnew_; clear hg_ hnew_; (first | rw [← Ny325.out] at ho129); have n0_ := Aside0.mk (Kd.N_lower ho129 (keep_size (w := w) (g := g) (row := none) HK.out)); have n1_ := Aside0.mk (IsS99.below HI0.out hb); have n2_ := Aside0.mk (blk_below (g := gb239) (o := .cells #[.string (⟨#[]⟩ : ByteArray), .string (⟨#[]⟩ : ByteArray), .slice none 0 0] 52 (0, 0)) BK239.out hb); have n3_ := Aside0.mk (KeepBut.trans HK.out (KeepBut.of_below hb g none) (.inl rfl)); have n4_ := Aside0.mk (below_step HB.out hb); clear HI0; clear BK239; clear HK; clear HB; clear HO321; have HO327 := n0_; have HI0 := n1_; have BK239 := n2_; have HK := n3_; have HB := n4_; clear n0_ n1_ n2_ n3_ n4_; clear hb ho129) | ((with_reducible refine gate_callee (f := 79) rfl ?_); refine goesL_ (some 67) rfl rfl Try.func79 (by kernel_rfl) rfl #[.pointer (some ⟨g, 0, none⟩), .string (⟨#[32, 42, 32, 41]⟩ : ByteArray)] rfl (by (try simp only [List.map_toArray, List.map_cons, List.map_nil]); first | rfl) ?_; (with_reducible refine (grammar_reader_takes.calls g t322 t323 t324 (⟨#[32, 42, 32, 41]⟩ : ByteArray) false t329 t330 t331 w0 _ ?side1 ?side2 A98.out).mono ?_); (case side1 => exact HI0.out); (case side2 => exact HB.out); rintro e w130 ⟨rfl, hi, hb, hk⟩; refine ⟨_, rfl, ?_⟩; have n0_ := Aside0.mk (KeepBut.blk hk (g' := gb239) (o := .cells #[.string (⟨#[]⟩ : ByteArray), .string (⟨#[]⟩ : ByteArray), .slice none 0 0] 52 (0, 0)) BK239.out NB239_0.out (by simp)); have n1_ := Aside0.mk (Kd.N_mono (Kd.N_keep (Kd.N_mono (ok := fun k_ => (((w.heap.size ≤ k_)) ∧ (k_ ≠ gb239 ∧ k_ ≠ g))) HO327.out (fun k_ hk_ => (⟨hk_, hk_.2.2⟩ : _ ∧ k_ ≠ g))) hk (fun _ h => h.2)) (fun _ h => h.1)); have n2_ := Aside0.mk (KeepBut.trans HK.out hk (.inl rfl)); have n3_ := Aside0.mk (hb); have n4_ := Aside0.mk (hi); clear BK239; clear HO327; clear HK; clear HB; clear HI0; have BK239 := n0_; have HO327 := n1_; have HK := n2_; have HB := n3_; have HI0 := n4_; clear n0_ n1_ n2_ n3_ n4_; (try clear hb); (try clear hk); (try clear hi)) | ((with_reducible refine gate_callee (f := 79) rfl ?_); refine goesL_ (some 72) rfl rfl Try.func79 (by kernel_rfl) rfl #[.pointer (some ⟨g, 0, none⟩), .string (⟨#[32, 63, 32, 41]⟩ : ByteArray)] rfl (by (try simp only [List.map_toArray, List.map_cons, List.map_nil]); first | rfl) ?_; (with_reducible refine (grammar_reader_takes.calls g t329 t330 t331 (⟨#[32, 63, 32, 41]⟩ : ByteArray) true t333 t334 t335 w0 _ ?side1 ?side2 A116.out).mono ?_); (case side1 => exact HI0.out); (case side2 => exact HB.out); rintro e w131 ⟨rfl, hi, hb, hk⟩; refine ⟨_, rfl, ?_⟩; have n0_ := Aside0.mk (KeepBut.blk hk (g' := gb239) (o := .cells #[.string (⟨#[]⟩ : ByteArray), .string (⟨#[]⟩ : ByteArray), .slice none 0 0] 52 (0, 0)) BK239.out NB239_0.out (by simp)); have n1_ := Aside0.mk (Kd.N_mono (Kd.N_keep (Kd.N_mono (ok := fun k_ => (((w.heap.size ≤ k_)) ∧ (k_ ≠ gb239 ∧ k_ ≠ g))) HO327.out (fun k_ hk_ => (⟨hk_, hk_.2.2⟩ : _ ∧ k_ ≠ g))) hk (fun _ h => h.2)) (fun _ h => h.1)); have n2_ := Aside0.mk (KeepBut.trans HK.out hk (.inl rfl)); have n3_ := Aside0.mk (hb); have n4_ := Aside0.mk (hi); clear BK239; clear HO327; clear HK; clear HB; clear HI0; have BK239 := n0_; have HO327 := n1_; have HK := n2_; have HB := n3_; have HI0 := n4_; clear n0_ n1_ n2_ n3_ n4_; (try clear hb); (try clear hk); (try clear hi); obtain ⟨Ao132, co132, eo132⟩ := Kd.N_slice HO327.out; subst eo132; have hnb133 := NB239_0.out; have hnc133 := NB0_239.out; have hcz134_0 : w131.cell? ⟨gb239, 0, none⟩ = some (.string (⟨#[]⟩ : ByteArray)) := (blk_cell BK239.out 0).trans rfl; have hcz134_1 : w131.cell? ⟨gb239, 1, none⟩ = some (.string (⟨#[]⟩ : ByteArray)) := (blk_cell BK239.out 1).trans rfl; have hcz134_2 : w131.cell? ⟨gb239, 2, none⟩ = some (.slice none 0 0) := (blk_cell BK239.out 2).trans rfl; have hfz134_0 := blk_frozen BK239.out 0; have hfz134_1 := blk_frozen BK239.out 1; have hfz134_2 := blk_frozen BK239.out 2))
     refine bodyPost_ret (results_cell_row rfl _ _ gb239 52 #[.string (⟨#[111, 112, 116]⟩ : ByteArray), .string (⟨#[]⟩ : ByteArray), .slice Ao132 y325.length co132] (0, 0) _ rfl (by (with_reducible repeat (first | fail)); refine blk_put (cs := #[.string (⟨#[111, 112, 116]⟩ : ByteArray), .string (⟨#[]⟩ : ByteArray), .slice none 0 0]) ?_ 2 _ rfl; (with_reducible repeat (first | fail)); refine blk_put (cs := #[.string (⟨#[111, 112, 116]⟩ : ByteArray), .string (⟨#[]⟩ : ByteArray), .slice none 0 0]) ?_ 1 _ rfl; (with_reducible repeat (first | fail)); refine blk_put (cs := #[.string (⟨#[]⟩ : ByteArray), .string (⟨#[]⟩ : ByteArray), .slice none 0 0]) ?_ 0 _ rfl; (with_reducible repeat (first | fail)); exact BK239.out) Try.underlying52 rfl (by kernel_rfl)) rfl ?_
     exact ⟨_, by first | rfl, by (with_reducible repeat (first | fail)); exact Kd.N_mono (Kd.N_far (p := ⟨gb239, 2, none⟩) (Kd.N_far (p := ⟨gb239, 1, none⟩) (Kd.N_far (p := ⟨gb239, 0, none⟩) (Kd.N_mono HO327.out (fun k_ hk => (⟨hk, hk.2.1⟩ : _ ∧ k_ ≠ gb239))) (fun _ hk => hk.2) (.string (⟨#[111, 112, 116]⟩ : ByteArray))) (fun _ hk => hk.2) (.string (⟨#[]⟩ : ByteArray))) (fun _ hk => hk.2) (.slice Ao132 y325.length co132)) (fun _ hk => hk.1.1), by repeat ((with_reducible first | exact HI0.out | refine IsS99.far ?_ NB0_239.out _)), by repeat ((with_reducible first | exact HB.out | refine below_set ?_ GE239.out)), by repeat ((with_reducible first | exact HK.out | refine keep_far ?_ GW239.out _))⟩
   replace c117 := Bool.eq_false_iff.mpr c117
   subst c117
   rw [if_neg (show ¬ (false = true) by decide)] at H
   have H' := Aside0.mk H
   clear H
   go_enter Try.func54, Try.ntmps54
   go_wp2_with (first | ((with_reducible refine gate_dst (N := 2) rfl ?_); refine box_event ?hg (N := 2) ?hd (cs := #[.string (⟨#[]⟩ : ByteArray), .string (⟨#[]⟩ : ByteArray), .slice none 0 0]) (t := 52) ?hr ?_; (case hd => rfl); (case hg => rfl); (case hr => (go_simp; done)); intro gb239 hg w135 hbox hb; have n0_ := Aside0.mk (IsS99.below HI0.out hb); have n1_ := Aside0.mk (KeepBut.trans HK.out (KeepBut.of_below hb g none) (.inl rfl)); have n2_ := Aside0.mk (below_step HB.out hb); have n3_ := Aside0.mk (hbox); have n4_ := Aside0.mk ((by rw [hg]; exact (keep_size (w := w) (g := g) (row := none) HK.out) : w.heap.size ≤ gb239)); have n5_ := Aside0.mk ((Nat.le_trans HW0.out (by rw [hg]; exact (keep_size (w := w) (g := g) (row := none) HK.out) : w.heap.size ≤ gb239) : w0.heap.size ≤ gb239)); have n6_ := Aside0.mk ((by rw [hg]; exact Nat.ne_of_lt (IsS99.lt (show IsS99 w0 _ g s0_0 s0_1 false from by exact HI0.out)) : g ≠ gb239)); have n7_ := Aside0.mk ((by rw [hg]; exact Nat.ne_of_gt (IsS99.lt (show IsS99 w0 _ g s0_0 s0_1 false from by exact HI0.out)) : gb239 ≠ g)); clear HI0; clear HK; clear HB; have HI0 := n0_; have HK := n1_; have HB := n2_; have BK239 := n3_; have GW239 := n4_; have GE239 := n5_; have NB0_239 := n6_; have NB239_0 := n7_; clear n0_ n1_ n2_ n3_ n4_ n5_ n6_ n7_; clear hb hbox hg; obtain ⟨HGz136, hgz136⟩ := HI0.out; have hcz136_0 := cellS99_0 HGz136; have hcz136_1 := cellS99_1 HGz136; have hcz136_2 := cellS99_2 HGz136; have hfz136_0 := blk_frozen HGz136 0; have hfz136_1 := blk_frozen HGz136 1; have hfz136_2 := blk_frozen HGz136 2; clear HGz136 hgz136) | ((with_reducible refine gate_callee (f := 79) rfl ?_); refine goesL_ (some 14) rfl rfl Try.func79 (by kernel_rfl) rfl #[.pointer (some ⟨g, 0, none⟩), .string (⟨#[39]⟩ : ByteArray)] rfl (by (try simp only [List.map_toArray, List.map_cons, List.map_nil]); first | rfl) ?_; (with_reducible refine (grammar_reader_takes.calls g s0_0 s0_1 false (⟨#[39]⟩ : ByteArray) false t241 t242 t243 w0 _ ?side1 ?side2 A7.out).mono ?_); (case side1 => exact HI0.out); (case side2 => exact HB.out); rintro e w137 ⟨rfl, hi, hb, hk⟩; refine ⟨_, rfl, ?_⟩; have n0_ := Aside0.mk (KeepBut.blk hk (g' := gb239) (o := .cells #[.string (⟨#[]⟩ : ByteArray), .string (⟨#[]⟩ : ByteArray), .slice none 0 0] 52 (0, 0)) BK239.out NB239_0.out (by simp)); have n1_ := Aside0.mk (KeepBut.trans HK.out hk (.inl rfl)); have n2_ := Aside0.mk (hb); have n3_ := Aside0.mk (hi); clear BK239; clear HK; clear HB; clear HI0; have BK239 := n0_; have HK := n1_; have HB := n2_; have HI0 := n3_; clear n0_ n1_ n2_ n3_; (try clear hb); (try clear hk); (try clear hi)) | ((with_reducible refine gate_callee (f := 79) rfl ?_); refine goesL_ (some 20) rfl rfl Try.func79 (by kernel_rfl) rfl #[.pointer (some ⟨g, 0, none⟩), .string (⟨#[46]⟩ : ByteArray)] rfl (by (try simp only [List.map_toArray, List.map_cons, List.map_nil]); first | rfl) ?_; (with_reducible refine (grammar_reader_takes.calls g t241 t242 t243 (⟨#[46]⟩ : ByteArray) false t249 t250 t251 w0 _ ?side1 ?side2 A16.out).mono ?_); (case side1 => exact HI0.out); (case side2 => exact HB.out); rintro e w138 ⟨rfl, hi, hb, hk⟩; refine ⟨_, rfl, ?_⟩; have n0_ := Aside0.mk (KeepBut.blk hk (g' := gb239) (o := .cells #[.string (⟨#[]⟩ : ByteArray), .string (⟨#[]⟩ : ByteArray), .slice none 0 0] 52 (0, 0)) BK239.out NB239_0.out (by simp)); have n1_ := Aside0.mk (KeepBut.trans HK.out hk (.inl rfl)); have n2_ := Aside0.mk (hb); have n3_ := Aside0.mk (hi); clear BK239; clear HK; clear HB; clear HI0; have BK239 := n0_; have HK := n1_; have HB := n2_; have HI0 := n3_; clear n0_ n1_ n2_ n3_; (try clear hb); (try clear hk); (try clear hi)) | ((with_reducible refine gate_callee (f := 79) rfl ?_); refine goesL_ (some 24) rfl rfl Try.func79 (by kernel_rfl) rfl #[.pointer (some ⟨g, 0, none⟩), .string (⟨#[40, 41]⟩ : ByteArray)] rfl (by (try simp only [List.map_toArray, List.map_cons, List.map_nil]); first | rfl) ?_; (with_reducible refine (grammar_reader_takes.calls g t249 t250 t251 (⟨#[40, 41]⟩ : ByteArray) false t253 t254 t255 w0 _ ?side1 ?side2 A24.out).mono ?_); (case side1 => exact HI0.out); (case side2 => exact HB.out); rintro e w139 ⟨rfl, hi, hb, hk⟩; refine ⟨_, rfl, ?_⟩; have n0_ := Aside0.mk (KeepBut.blk hk (g' := gb239) (o := .cells #[.string (⟨#[]⟩ : ByteArray), .string (⟨#[]⟩ : ByteArray), .slice none 0 0] 52 (0, 0)) BK239.out NB239_0.out (by simp)); have n1_ := Aside0.mk (KeepBut.trans HK.out hk (.inl rfl)); have n2_ := Aside0.mk (hb); have n3_ := Aside0.mk (hi); clear BK239; clear HK; clear HB; clear HI0; have BK239 := n0_; have HK := n1_; have HB := n2_; have HI0 := n3_; clear n0_ n1_ n2_ n3_; (try clear hb); (try clear hk); (try clear hi)) | ((with_reducible refine gate_callee (f := 79) rfl ?_); refine goesL_ (some 28) rfl rfl Try.func79 (by kernel_rfl) rfl #[.pointer (some ⟨g, 0, none⟩), .string (⟨#[40, 32, 33, 32]⟩ : ByteArray)] rfl (by (try simp only [List.map_toArray, List.map_cons, List.map_nil]); first | rfl) ?_; (with_reducible refine (grammar_reader_takes.calls g t253 t254 t255 (⟨#[40, 32, 33, 32]⟩ : ByteArray) false t257 t258 t259 w0 _ ?side1 ?side2 A33.out).mono ?_); (case side1 => exact HI0.out); (case side2 => exact HB.out); rintro e w140 ⟨rfl, hi, hb, hk⟩; refine ⟨_, rfl, ?_⟩; have n0_ := Aside0.mk (KeepBut.blk hk (g' := gb239) (o := .cells #[.string (⟨#[]⟩ : ByteArray), .string (⟨#[]⟩ : ByteArray), .slice none 0 0] 52 (0, 0)) BK239.out NB239_0.out (by simp)); have n1_ := Aside0.mk (KeepBut.trans HK.out hk (.inl rfl)); have n2_ := Aside0.mk (hb); have n3_ := Aside0.mk (hi); clear BK239; clear HK; clear HB; clear HI0; have BK239 := n0_; have HK := n1_; have HB := n2_; have HI0 := n3_; clear n0_ n1_ n2_ n3_; (try clear hb); (try clear hk); (try clear hi)) | ((with_reducible refine gate_callee (f := 79) rfl ?_); refine goesL_ (some 38) rfl rfl Try.func79 (by kernel_rfl) rfl #[.pointer (some ⟨g, 0, none⟩), .string (⟨#[40, 32, 47, 32]⟩ : ByteArray)] rfl (by (try simp only [List.map_toArray, List.map_cons, List.map_nil]); first | rfl) ?_; (with_reducible refine (grammar_reader_takes.calls g t257 t258 t259 (⟨#[40, 32, 47, 32]⟩ : ByteArray) false t276 t277 t278 w0 _ ?side1 ?side2 A56.out).mono ?_); (case side1 => exact HI0.out); (case side2 => exact HB.out); rintro e w141 ⟨rfl, hi, hb, hk⟩; refine ⟨_, rfl, ?_⟩; have n0_ := Aside0.mk (KeepBut.blk hk (g' := gb239) (o := .cells #[.string (⟨#[]⟩ : ByteArray), .string (⟨#[]⟩ : ByteArray), .slice none 0 0] 52 (0, 0)) BK239.out NB239_0.out (by simp)); have n1_ := Aside0.mk (KeepBut.trans HK.out hk (.inl rfl)); have n2_ := Aside0.mk (hb); have n3_ := Aside0.mk (hi); clear BK239; clear HK; clear HB; clear HI0; have BK239 := n0_; have HK := n1_; have HB := n2_; have HI0 := n3_; clear n0_ n1_ n2_ n3_; (try clear hb); (try clear hk); (try clear hi)) | ((with_reducible refine gate_callee (f := 79) rfl ?_); refine goesL_ (some 57) rfl rfl Try.func79 (by kernel_rfl) rfl #[.pointer (some ⟨g, 0, none⟩), .string (⟨#[40, 32]⟩ : ByteArray)] rfl (by (try simp only [List.map_toArray, List.map_cons, List.map_nil]); first | rfl) ?_; (with_reducible refine (grammar_reader_takes.calls g t276 t277 t278 (⟨#[40, 32]⟩ : ByteArray) true t310 t311 t312 w0 _ ?side1 ?side2 A95.out).mono ?_); (case side1 => exact HI0.out); (case side2 => exact HB.out); rintro e w142 ⟨rfl, hi, hb, hk⟩; refine ⟨_, rfl, ?_⟩; have n0_ := Aside0.mk (KeepBut.blk hk (g' := gb239) (o := .cells #[.string (⟨#[]⟩ : ByteArray), .string (⟨#[]⟩ : ByteArray), .slice none 0 0] 52 (0, 0)) BK239.out NB239_0.out (by simp)); have n1_ := Aside0.mk (KeepBut.trans HK.out hk (.inl rfl)); have n2_ := Aside0.mk (hb); have n3_ := Aside0.mk (hi); clear BK239; clear HK; clear HB; clear HI0; have BK239 := n0_; have HK := n1_; have HB := n2_; have HI0 := n3_; clear n0_ n1_ n2_ n3_; (try clear hb); (try clear hk); (try clear hi)) | ((with_reducible refine gate_callee (f := 54) rfl ?_); refine goesL_ (some 63) rfl rfl Try.func54 (by kernel_rfl) rfl #[.pointer (some ⟨g, 0, none⟩)] rfl (by (try simp only [List.map_toArray, List.map_cons, List.map_nil]); first | rfl) ?_; (with_reducible refine (ih k (by omega) g t310 t311 t312 t317 t318 t319 t322 t323 t324 w0 _ ?side1 ?side2 A97.out).mono ?_); (case side1 => exact HI0.out); (case side2 => exact HB.out); rintro e w143 ⟨v320, rfl, ho0, hi, hb, hk⟩; refine ⟨_, rfl, ?_⟩; have n0_ := Aside0.mk (KeepBut.blk hk (g' := gb239) (o := .cells #[.string (⟨#[]⟩ : ByteArray), .string (⟨#[]⟩ : ByteArray), .slice none 0 0] 52 (0, 0)) BK239.out NB239_0.out (by simp)); have n1_ := Aside0.mk (Kd.N_lower (Kd.N_mono (ok' := fun k_ => (w.heap.size ≤ k_) ∧ k_ ≠ gb239 ∧ k_ ≠ g) ho0 (fun k_ hk_ => ⟨(Nat.le_trans (keep_size (w := w) (g := g) (row := none) HK.out) hk_), (Kd.freshB (g := gb239) (o := .cells #[.string (⟨#[]⟩ : ByteArray), .string (⟨#[]⟩ : ByteArray), .slice none 0 0] 52 (0, 0)) BK239.out k_ hk_), (IsS99.fresh HI0.out k_ hk_)⟩)) (keep_size (w := w) (g := g) (row := none) HK.out)); have n2_ := Aside0.mk (KeepBut.trans HK.out hk (.inl rfl)); have n3_ := Aside0.mk (hb); have n4_ := Aside0.mk (hi); clear BK239; clear HK; clear HB; clear HI0; have BK239 := n0_; have HO321 := n1_; have HK := n2_; have HB := n3_; have HI0 := n4_; clear n0_ n1_ n2_ n3_ n4_; (try clear hb); (try clear hk); (try clear hi); (try clear ho0); obtain ⟨Ao144, co144, eo144⟩ := Kd.N_slice HO321.out; subst eo144) | ((with_reducible refine gate_dst (N := 64) rfl ?_); refine Kd.N_lit k52 _ 52 ?hg (N' := 64) ?hd (xs := ([(⟨t317, t318, t319⟩ : S52)] : List (S52))) (inner := [.string t317, .string t318, .slice Ao144 t319.length co144]) (ok := (fun k_ => (w.heap.size ≤ k_) ∧ k_ ≠ gb239 ∧ k_ ≠ g)) (okp := (fun k_ => (w.heap.size ≤ k_) ∧ k_ ≠ gb239 ∧ k_ ≠ g)) ?hr ?hp (fun _ hk => hk) ((show ∀ k_, w143.heap.size ≤ k_ → (fun k_ => (w.heap.size ≤ k_) ∧ k_ ≠ gb239 ∧ k_ ≠ g) k_ from fun k_ hk => ⟨(Nat.le_trans (keep_size (w := w) (g := g) (row := none) HK.out) hk), Kd.freshB (g := gb239) (o := .cells #[.string (⟨#[]⟩ : ByteArray), .string (⟨#[]⟩ : ByteArray), .slice none 0 0] 52 (0, 0)) BK239.out k_ hk, IsS99.fresh HI0.out k_ hk⟩) _ (Nat.le_refl _)) (Below.refl _ _) (Nat.le_refl _) (by simp) ?_; (case hd => rfl); (case hg => rfl); (case hr => (go_simp; done)); (case hp => exact (Reps.c3 (show Kd.FK k52 _ _ (⟨t317, t318, t319⟩ : S52) [.string t317, .string t318, .slice Ao144 t319.length co144] from (k52_mkF _ _ (⟨t317, t318, t319⟩ : S52) (Kd.N_reads' (Kd.N_mono (ok' := (fun k_ => (w.heap.size ≤ k_) ∧ k_ ≠ gb239 ∧ k_ ≠ g)) (HO321.out) (fun k_ hk => ⟨hk.1, ⟨hk.2.1, hk.2.2⟩⟩))).2.1 (Kd.N_F (Kd.N_mono (ok' := (fun k_ => (w.heap.size ≤ k_) ∧ k_ ≠ gb239 ∧ k_ ≠ g)) (HO321.out) (fun k_ hk => ⟨hk.1, ⟨hk.2.1, hk.2.2⟩⟩))))) (Reps.none _ _))); intro v326 w145 ho146 hb hg_ hnew_; clear hg_ hnew_; (first | rw [← Ny325.out] at ho146); have n0_ := Aside0.mk (Kd.N_lower ho146 (keep_size (w := w) (g := g) (row := none) HK.out)); have n1_ := Aside0.mk (IsS99.below HI0.out hb); have n2_ := Aside0.mk (blk_below (g := gb239) (o := .cells #[.string (⟨#[]⟩ : ByteArray), .string (⟨#[]⟩ : ByteArray), .slice none 0 0] 52 (0, 0)) BK239.out hb); have n3_ := Aside0.mk (KeepBut.trans HK.out (KeepBut.of_below hb g none) (.inl rfl)); have n4_ := Aside0.mk (below_step HB.out hb); clear HI0; clear BK239; clear HK; clear HB; clear HO321; have HO327 := n0_; have HI0 := n1_; have BK239 := n2_; have HK := n3_; have HB := n4_; clear n0_ n1_ n2_ n3_ n4_; clear hb ho146) | ((with_reducible refine gate_callee (f := 79) rfl ?_); refine goesL_ (some 67) rfl rfl Try.func79 (by kernel_rfl) rfl #[.pointer (some ⟨g, 0, none⟩), .string (⟨#[32, 42, 32, 41]⟩ : ByteArray)] rfl (by (try simp only [List.map_toArray, List.map_cons, List.map_nil]); first | rfl) ?_; (with_reducible refine (grammar_reader_takes.calls g t322 t323 t324 (⟨#[32, 42, 32, 41]⟩ : ByteArray) false t329 t330 t331 w0 _ ?side1 ?side2 A98.out).mono ?_); (case side1 => exact HI0.out); (case side2 => exact HB.out); rintro e w147 ⟨rfl, hi, hb, hk⟩; refine ⟨_, rfl, ?_⟩; have n0_ := Aside0.mk (KeepBut.blk hk (g' := gb239) (o := .cells #[.string (⟨#[]⟩ : ByteArray), .string (⟨#[]⟩ : ByteArray), .slice none 0 0] 52 (0, 0)) BK239.out NB239_0.out (by simp)); have n1_ := Aside0.mk (Kd.N_mono (Kd.N_keep (Kd.N_mono (ok := fun k_ => (((w.heap.size ≤ k_)) ∧ (k_ ≠ gb239 ∧ k_ ≠ g))) HO327.out (fun k_ hk_ => (⟨hk_, hk_.2.2⟩ : _ ∧ k_ ≠ g))) hk (fun _ h => h.2)) (fun _ h => h.1)); have n2_ := Aside0.mk (KeepBut.trans HK.out hk (.inl rfl)); have n3_ := Aside0.mk (hb); have n4_ := Aside0.mk (hi); clear BK239; clear HO327; clear HK; clear HB; clear HI0; have BK239 := n0_; have HO327 := n1_; have HK := n2_; have HB := n3_; have HI0 := n4_; clear n0_ n1_ n2_ n3_ n4_; (try clear hb); (try clear hk); (try clear hi)) | ((with_reducible refine gate_callee (f := 79) rfl ?_); refine goesL_ (some 72) rfl rfl Try.func79 (by kernel_rfl) rfl #[.pointer (some ⟨g, 0, none⟩), .string (⟨#[32, 63, 32, 41]⟩ : ByteArray)] rfl (by (try simp only [List.map_toArray, List.map_cons, List.map_nil]); first | rfl) ?_; (with_reducible refine (grammar_reader_takes.calls g t329 t330 t331 (⟨#[32, 63, 32, 41]⟩ : ByteArray) false t333 t334 t335 w0 _ ?side1 ?side2 A116.out).mono ?_); (case side1 => exact HI0.out); (case side2 => exact HB.out); rintro e w148 ⟨rfl, hi, hb, hk⟩; refine ⟨_, rfl, ?_⟩; have n0_ := Aside0.mk (KeepBut.blk hk (g' := gb239) (o := .cells #[.string (⟨#[]⟩ : ByteArray), .string (⟨#[]⟩ : ByteArray), .slice none 0 0] 52 (0, 0)) BK239.out NB239_0.out (by simp)); have n1_ := Aside0.mk (Kd.N_mono (Kd.N_keep (Kd.N_mono (ok := fun k_ => (((w.heap.size ≤ k_)) ∧ (k_ ≠ gb239 ∧ k_ ≠ g))) HO327.out (fun k_ hk_ => (⟨hk_, hk_.2.2⟩ : _ ∧ k_ ≠ g))) hk (fun _ h => h.2)) (fun _ h => h.1)); have n2_ := Aside0.mk (KeepBut.trans HK.out hk (.inl rfl)); have n3_ := Aside0.mk (hb); have n4_ := Aside0.mk (hi); clear BK239; clear HO327; clear HK; clear HB; clear HI0; have BK239 := n0_; have HO327 := n1_; have HK := n2_; have HB := n3_; have HI0 := n4_; clear n0_ n1_ n2_ n3_ n4_; (try clear hb); (try clear hk); (try clear hi)))
   go_loopg [5] k (fun kq v5 w' => ∃ (x5_1 : List (S52)) (x1000_1 : ByteArray) (x1001_1 : Int) (x1002_1 : Bool), Aside0 (grammar_reader_body.l1 kq x5_1 x1000_1 x1001_1 x1002_1 = some (r1, r2, r3, r4, r5, r6)) ∧ Aside0 (kq ≤ k) ∧ Aside0 (Kd.N k52 52 w' w.heap.size (fun k_ => (w.heap.size ≤ k_) ∧ k_ ≠ gb239 ∧ k_ ≠ g) v5 x5_1) ∧ Aside0 (w'.heap[gb239]? = some (.cells #[.string (⟨#[]⟩ : ByteArray), .string (⟨#[]⟩ : ByteArray), (.slice none 0 0)] 52 (0, 0))) ∧ Aside0 (IsS99 w0 w' g x1000_1 x1001_1 x1002_1) ∧ Aside0 (KeepBut w w' g none) ∧ Aside0 (Below w0.heap.size w0 w'))
   case atStart => exact ⟨(y325), (t333), (t334), (t335), H', ⟨Nat.le_refl _⟩, ⟨HO327.out⟩, ⟨BK239.out⟩, ⟨by exact HI0.out⟩, ⟨by exact HK.out⟩, ⟨by exact HB.out⟩⟩
   case round =>
    clear H'
    clear hcz136_0 hcz136_1 hcz136_2 hfz136_0 hfz136_1 hfz136_2
    obtain ⟨x5_1, x1000_1, x1001_1, x1002_1, HA, HK1, HO_5, BK239, HI0, HK, HB⟩ := hrel
    cases gk with
    | zero => exact absurd HA.out (by simp [grammar_reader_body.l1])
    | succ k1 =>
     have H := HA.out
     clear HA
     simp only [grammar_reader_body.l1] at H
     have HC149 := Aside0.mk H
     clear H
     go_upto_region 26 with (fail)
     go_cut [84] (fun v84 wc => ∃ (kq : Nat) (x84_148 : Bool) (x1000_148 : ByteArray) (x1001_148 : Int) (x1002_148 : Bool), v84 = .bool x84_148 ∧ Aside0 (grammar_reader_body.j2 kq x5_1 x84_148 x1000_148 x1001_148 x1002_148 = some (r1, r2, r3, r4, r5, r6)) ∧ Aside0 (kq ≤ k1) ∧ Aside0 (Kd.N k52 52 wc w.heap.size (fun k_ => (w.heap.size ≤ k_) ∧ k_ ≠ gb239 ∧ k_ ≠ g) u5 x5_1) ∧ Aside0 (wc.heap[gb239]? = some (.cells #[.string (⟨#[]⟩ : ByteArray), .string (⟨#[]⟩ : ByteArray), (.slice none 0 0)] 52 (0, 0))) ∧ Aside0 (IsS99 w0 wc g x1000_148 x1001_148 x1002_148) ∧ Aside0 (KeepBut w wc g none) ∧ Aside0 (Below w0.heap.size w0 wc))
     case first =>
      have H := HC149.out
      clear HC149
      by_cases c150 : x1002_1 = true
      · subst c150
        rw [if_pos rfl] at H
        have H' := Aside0.mk H
        clear H
        obtain ⟨HGz151, hgz151⟩ := HI0.out
        have hcz151_0 := cellS99_0 HGz151
        have hcz151_1 := cellS99_1 HGz151
        have hcz151_2 := cellS99_2 HGz151
        have hfz151_0 := blk_frozen HGz151 0
        have hfz151_1 := blk_frozen HGz151 1
        have hfz151_2 := blk_frozen HGz151 2
        clear HGz151 hgz151
        go_wp2
        go_meet
        case rel => exact ⟨_, (false), (x1000_1), (x1001_1), (true), rfl, H', ⟨by have := HK1.out; first | omega⟩, ⟨HO_5.out⟩, ⟨BK239.out⟩, ⟨by exact HI0.out⟩, ⟨by exact HK.out⟩, ⟨by exact HB.out⟩⟩
      replace c150 := Bool.eq_false_iff.mpr c150
      subst c150
      rw [if_neg (show ¬ (false = true) by decide)] at H
      replace H := Option.bind_eq_some_iff.mp H
      obtain ⟨⟨t336, t337, t338, t339⟩, A1520, H⟩ := H
      dsimp only at H
      have A152 := Aside0.mk A1520
      clear A1520
      have H' := Aside0.mk H
      clear H
      obtain ⟨HGz153, hgz153⟩ := HI0.out
      have hcz153_0 := cellS99_0 HGz153
      have hcz153_1 := cellS99_1 HGz153
      have hcz153_2 := cellS99_2 HGz153
      have hfz153_0 := blk_frozen HGz153 0
      have hfz153_1 := blk_frozen HGz153 1
      have hfz153_2 := blk_frozen HGz153 2
      clear HGz153 hgz153
      go_wp2_with ((go_at_call 79; (with_reducible refine (grammar_reader_takes.calls g x1000_1 x1001_1 false (⟨#[32, 41]⟩ : ByteArray) t336 t337 t338 t339 w0 _ ?side1 ?side2 A152.out).mono ?_); (case side1 => exact HI0.out); (case side2 => exact HB.out); rintro e w154 ⟨rfl, hi, hb, hk⟩; have n0_ := Aside0.mk (Kd.N_mono (Kd.N_keep (Kd.N_mono (ok := fun k_ => (((w.heap.size ≤ k_)) ∧ (k_ ≠ gb239 ∧ k_ ≠ g))) HO_5.out (fun k_ hk_ => (⟨hk_, hk_.2.2⟩ : _ ∧ k_ ≠ g))) hk (fun _ h => h.2)) (fun _ h => h.1)); have n1_ := Aside0.mk (KeepBut.blk hk (g' := gb239) (o := .cells #[.string (⟨#[]⟩ : ByteArray), .string (⟨#[]⟩ : ByteArray), .slice none 0 0] 52 (0, 0)) BK239.out NB239_0.out (by simp)); have n2_ := Aside0.mk (KeepBut.trans HK.out hk (.inl rfl)); have n3_ := Aside0.mk (hb); have n4_ := Aside0.mk (hi); clear HO_5; clear BK239; clear HK; clear HB; clear HI0; have HO_5 := n0_; have BK239 := n1_; have HK := n2_; have HB := n3_; have HI0 := n4_; clear n0_ n1_ n2_ n3_ n4_; (try clear hb); (try clear hk); (try clear hi)))
      go_meet
      case rel => exact ⟨_, (!t336), (t337), (t338), (t339), rfl, H', ⟨by have := HK1.out; first | omega⟩, ⟨HO_5.out⟩, ⟨BK239.out⟩, ⟨by exact HI0.out⟩, ⟨by exact HK.out⟩, ⟨by exact HB.out⟩⟩
     case rest =>
      clear HC149
      obtain ⟨kq, x84_148, x1000_148, x1001_148, x1002_148, rfl, HA, HJ148, HO_5, BK239, HI0, HK, HB⟩ := hcut
      cases kq with
      | zero => exact absurd HA.out (by simp [grammar_reader_body.j2])
      | succ kj148 =>
       have H := HA.out
       clear HA
       simp only [grammar_reader_body.j2] at H
       by_cases c155 : x84_148 = true
       rotate_left
       · replace c155 := Bool.eq_false_iff.mpr c155
         subst c155
         rw [if_neg (show ¬ (false = true) by decide)] at H
         simp only [Option.some.injEq, Prod.mk.injEq] at H
         obtain ⟨rfl, rfl, rfl, rfl, rfl, rfl⟩ := H
         obtain ⟨Ao163, co163, eo163⟩ := Kd.N_slice HO_5.out
         subst eo163
         have hnb164 := NB239_0.out
         have hnc164 := NB0_239.out
         have hcz165_0 : wc.cell? ⟨gb239, 0, none⟩ = some (.string (⟨#[]⟩ : ByteArray)) := (blk_cell BK239.out 0).trans rfl
         have hcz165_1 : wc.cell? ⟨gb239, 1, none⟩ = some (.string (⟨#[]⟩ : ByteArray)) := (blk_cell BK239.out 1).trans rfl
         have hcz165_2 : wc.cell? ⟨gb239, 2, none⟩ = some (.slice none 0 0) := (blk_cell BK239.out 2).trans rfl
         have hfz165_0 := blk_frozen BK239.out 0
         have hfz165_1 := blk_frozen BK239.out 1
         have hfz165_2 := blk_frozen BK239.out 2
         go_wp2
         refine bodyPost_ret (results_cell_row rfl _ _ gb239 52 #[.string (⟨#[115, 101, 113]⟩ : ByteArray), .string (⟨#[]⟩ : ByteArray), .slice Ao163 x5_1.length co163] (0, 0) _ rfl (by (with_reducible repeat (first | fail)); refine blk_put (cs := #[.string (⟨#[115, 101, 113]⟩ : ByteArray), .string (⟨#[]⟩ : ByteArray), .slice none 0 0]) ?_ 2 _ rfl; (with_reducible repeat (first | fail)); refine blk_put (cs := #[.string (⟨#[115, 101, 113]⟩ : ByteArray), .string (⟨#[]⟩ : ByteArray), .slice none 0 0]) ?_ 1 _ rfl; (with_reducible repeat (first | fail)); refine blk_put (cs := #[.string (⟨#[]⟩ : ByteArray), .string (⟨#[]⟩ : ByteArray), .slice none 0 0]) ?_ 0 _ rfl; (with_reducible repeat (first | fail)); exact BK239.out) Try.underlying52 rfl (by kernel_rfl)) rfl ?_
         exact ⟨_, by first | rfl, by (with_reducible repeat (first | fail)); exact Kd.N_mono (Kd.N_far (p := ⟨gb239, 2, none⟩) (Kd.N_far (p := ⟨gb239, 1, none⟩) (Kd.N_far (p := ⟨gb239, 0, none⟩) (Kd.N_mono HO_5.out (fun k_ hk => (⟨hk, hk.2.1⟩ : _ ∧ k_ ≠ gb239))) (fun _ hk => hk.2) (.string (⟨#[115, 101, 113]⟩ : ByteArray))) (fun _ hk => hk.2) (.string (⟨#[]⟩ : ByteArray))) (fun _ hk => hk.2) (.slice Ao163 x5_1.length co163)) (fun _ hk => hk.1.1), by repeat ((with_reducible first | exact HI0.out | refine IsS99.far ?_ NB0_239.out _)), by repeat ((with_reducible first | exact HB.out | refine below_set ?_ GE239.out)), by repeat ((with_reducible first | exact HK.out | refine keep_far ?_ GW239.out _))⟩
       subst c155
       rw [if_pos rfl] at H
       replace H := Option.bind_eq_some_iff.mp H
       obtain ⟨⟨t340, t341, t342⟩, A1560, H⟩ := H
       dsimp only at H
       have A156 := Aside0.mk A1560
       clear A1560
       replace H := Option.bind_eq_some_iff.mp H
       obtain ⟨⟨t343, t344, t345, t348, t349, t350⟩, A1570, H⟩ := H
       dsimp only at H
       have A157 := Aside0.mk A1570
       clear A1570
       obtain ⟨c158, H⟩ := gd H
       have LMc158 := Aside0.mk c158
       clear c158
       obtain ⟨y351, hy351⟩ : ∃ y_ : List (S52), y_ = (x5_1 ++ [(⟨t343, t344, t345⟩ : S52)]) := ⟨_, rfl⟩
       replace H : (grammar_reader_body.l1 kj148 y351 t348 t349 t350) = some (r1, r2, r3, r4, r5, r6) := by (rw [hy351]; with_reducible exact H)
       have Ny351 := Aside0.mk hy351
       clear hy351
       have H' := Aside0.mk H
       clear H
       go_wp2_with (first | ((with_reducible refine gate_callee (f := 53) rfl ?_); refine goesL_ (some 86) rfl rfl Try.func53 (by kernel_rfl) rfl #[.pointer (some ⟨g, 0, none⟩), .string (⟨#[32]⟩ : ByteArray)] rfl (by (try simp only [List.map_toArray, List.map_cons, List.map_nil]); first | rfl) ?_; (with_reducible refine (grammar_reader_must.calls g x1000_148 x1001_148 x1002_148 (⟨#[32]⟩ : ByteArray) t340 t341 t342 w0 _ ?side1 ?side2 A156.out).mono ?_); (case side1 => exact HI0.out); (case side2 => exact HB.out); rintro e w159 ⟨rfl, hi, hb, hk⟩; refine ⟨_, rfl, ?_⟩; have n0_ := Aside0.mk (Kd.N_mono (Kd.N_keep (Kd.N_mono (ok := fun k_ => (((w.heap.size ≤ k_)) ∧ (k_ ≠ gb239 ∧ k_ ≠ g))) HO_5.out (fun k_ hk_ => (⟨hk_, hk_.2.2⟩ : _ ∧ k_ ≠ g))) hk (fun _ h => h.2)) (fun _ h => h.1)); have n1_ := Aside0.mk (KeepBut.blk hk (g' := gb239) (o := .cells #[.string (⟨#[]⟩ : ByteArray), .string (⟨#[]⟩ : ByteArray), .slice none 0 0] 52 (0, 0)) BK239.out NB239_0.out (by simp)); have n2_ := Aside0.mk (KeepBut.trans HK.out hk (.inl rfl)); have n3_ := Aside0.mk (hb); have n4_ := Aside0.mk (hi); clear HO_5; clear BK239; clear HK; clear HB; clear HI0; have HO_5 := n0_; have BK239 := n1_; have HK := n2_; have HB := n3_; have HI0 := n4_; clear n0_ n1_ n2_ n3_ n4_; (try clear hb); (try clear hk); (try clear hi)) | ((with_reducible refine gate_callee (f := 54) rfl ?_); refine goesL_ (some 89) rfl rfl Try.func54 (by kernel_rfl) rfl #[.pointer (some ⟨g, 0, none⟩)] rfl (by (try simp only [List.map_toArray, List.map_cons, List.map_nil]); first | rfl) ?_; (with_reducible refine (ih kj148 (by have := HK1.out; have := HJ148.out; omega) g t340 t341 t342 t343 t344 t345 t348 t349 t350 w0 _ ?side1 ?side2 A157.out).mono ?_); (case side1 => exact HI0.out); (case side2 => exact HB.out); rintro e w160 ⟨v346, rfl, ho0, hi, hb, hk⟩; refine ⟨_, rfl, ?_⟩; have n0_ := Aside0.mk (Kd.N_mono (Kd.N_told (Kd.N_oldK (Kd.N_mono (ok := fun k_ => (((w.heap.size ≤ k_)) ∧ (k_ ≠ gb239 ∧ k_ ≠ g))) HO_5.out (fun k_ hk_ => (⟨hk_, hk_.2.2⟩ : _ ∧ k_ ≠ g))) hk) (Kd.N_base ho0)) (fun _ h_ => h_.1)); have n1_ := Aside0.mk (KeepBut.blk hk (g' := gb239) (o := .cells #[.string (⟨#[]⟩ : ByteArray), .string (⟨#[]⟩ : ByteArray), .slice none 0 0] 52 (0, 0)) BK239.out NB239_0.out (by simp)); have n2_ := Aside0.mk (Kd.N_lower (Kd.N_mono (ok' := fun k_ => (w.heap.size ≤ k_) ∧ some k_ ≠ (u5 : Value).ownBlock ∧ k_ ≠ gb239 ∧ k_ ≠ g) ho0 (fun k_ hk_ => ⟨(Nat.le_trans (keep_size (w := w) (g := g) (row := none) HK.out) hk_), (Kd.fresh' (Kd.N_lt HO_5.out) k_ hk_), (Kd.freshB (g := gb239) (o := .cells #[.string (⟨#[]⟩ : ByteArray), .string (⟨#[]⟩ : ByteArray), .slice none 0 0] 52 (0, 0)) BK239.out k_ hk_), (IsS99.fresh HI0.out k_ hk_)⟩)) (keep_size (w := w) (g := g) (row := none) HK.out)); have n3_ := Aside0.mk (KeepBut.trans HK.out hk (.inl rfl)); have n4_ := Aside0.mk (hb); have n5_ := Aside0.mk (hi); clear HO_5; clear BK239; clear HK; clear HB; clear HI0; have HO_5 := n0_; have BK239 := n1_; have HO347 := n2_; have HK := n3_; have HB := n4_; have HI0 := n5_; clear n0_ n1_ n2_ n3_ n4_ n5_; (try clear hb); (try clear hk); (try clear hi); (try clear ho0); obtain ⟨Ao162, co162, eo162⟩ := Kd.N_slice HO347.out; subst eo162) | ((with_reducible refine gate_builtin (b := .append) (xs := #[.tmp 87, .tmp 90]) rfl ?_); at_builtin; refine Kd.N_append k52 w.heap.size rfl (.tmp 87) (.tmp 90) 50 52 (.agg #[(.string ⟨#[]⟩), (.string ⟨#[]⟩), (.slice none 0 0)]) 56 rfl Try.underlying50 info52 rfl (by decide) (by omega) u5 x5_1 (⟨t343, t344, t345⟩ : S52) [.string t343, .string t344, .slice Ao162 t345.length co162] (fun k_ => (w.heap.size ≤ k_) ∧ k_ ≠ gb239 ∧ k_ ≠ g) (fun k_ => ((fun k_ => (w.heap.size ≤ k_) ∧ k_ ≠ gb239 ∧ k_ ≠ g)) k_ ∧ some k_ ≠ (u5 : Value).ownBlock) rfl rfl ?aP (fun _ hk => hk) ?aF ?aO (Below.refl _ _) ?aS ?aL ?_; (case aP => exact (k52_mkF _ _ (⟨t343, t344, t345⟩ : S52) (Kd.N_reads' (Kd.N_mono (ok' := (fun k_ => ((fun k_ => (w.heap.size ≤ k_) ∧ k_ ≠ gb239 ∧ k_ ≠ g)) k_ ∧ some k_ ≠ (u5 : Value).ownBlock)) (HO347.out) (fun k_ hk => ⟨⟨hk.1, ⟨hk.2.2.1, hk.2.2.2⟩⟩, hk.2.1⟩))).2.1 (Kd.N_F (Kd.N_mono (ok' := (fun k_ => ((fun k_ => (w.heap.size ≤ k_) ∧ k_ ≠ gb239 ∧ k_ ≠ g)) k_ ∧ some k_ ≠ (u5 : Value).ownBlock)) (HO347.out) (fun k_ hk => ⟨⟨hk.1, ⟨hk.2.2.1, hk.2.2.2⟩⟩, hk.2.1⟩))))); (case aF => exact (fun k_ hk => ⟨(Nat.le_trans (keep_size (w := w) (g := g) (row := none) HK.out) hk), Kd.freshB (g := gb239) (o := .cells #[.string (⟨#[]⟩ : ByteArray), .string (⟨#[]⟩ : ByteArray), .slice none 0 0] 52 (0, 0)) BK239.out k_ hk, IsS99.fresh HI0.out k_ hk⟩)); (case aO => exact (by (with_reducible repeat (first | fail)); exact Kd.N_mono HO_5.out (fun _ hk => ⟨hk.1.1, ⟨hk.1.2.1, hk.1.2.2⟩⟩))); (case aS => exact (keep_size (w := w) (g := g) (row := none) HK.out)); (case aL => have := LMc158.out; omega); intro v352 w161 ho hb hg hat; rw [← Ny351.out] at ho; have n0_ := Aside0.mk (blk_grown (g := gb239) (o := .cells #[.string (⟨#[]⟩ : ByteArray), .string (⟨#[]⟩ : ByteArray), .slice none 0 0] 52 (0, 0)) BK239.out hg (Kd.N_away HO_5.out (fun _ hk => hk.1.2.1))); have n1_ := Aside0.mk (IsS99.grown HI0.out hg (IsS99.own_neN HI0.out HO_5.out (by decide))); have n2_ := Aside0.mk (below_weaken HB.out HL.out hb); have n3_ := Aside0.mk (KeepBut.trans HK.out (KeepBut.of_grown hg g) (Kd.N_base2 HO_5.out)); have n4_ := Aside0.mk (ho); clear BK239; clear HI0; clear HB; clear HK; clear HO_5; clear HO347; have BK239 := n0_; have HI0 := n1_; have HB := n2_; have HK := n3_; have HO353 := n4_; clear n0_ n1_ n2_ n3_ n4_; clear ho hb hg hat))
       go_roundg kj148
       case measure => have := HK1.out; have := HJ148.out; omega
       case rel => exact ⟨(y351), (t348), (t349), (t350), H', ⟨by have := HK1.out; have := HJ148.out; omega⟩, ⟨HO353.out⟩, ⟨BK239.out⟩, ⟨by exact HI0.out⟩, ⟨by exact HK.out⟩, ⟨by exact HB.out⟩⟩
 subst c57
 rw [if_pos rfl] at H
 replace H := Option.bind_eq_some_iff.mp H
 obtain ⟨⟨t279, t280, t281, t284, t285, t286⟩, A580, H⟩ := H
 dsimp only at H
 have A58 := Aside0.mk A580
 clear A580
 obtain ⟨y287, hy287⟩ : ∃ y_ : List (S52), y_ = (([(⟨t279, t280, t281⟩ : S52)] : List (S52))) := ⟨_, rfl⟩
 replace H : (grammar_reader_body.l0 k t284 t285 t286 (⟨#[111, 114]⟩ : ByteArray) (⟨#[]⟩ : ByteArray) y287) = some (r1, r2, r3, r4, r5, r6) := by (rw [hy287]; with_reducible exact H)
 have Ny287 := Aside0.mk hy287
 clear hy287
 have H' := Aside0.mk H
 clear H
 go_enter Try.func54, Try.ntmps54
 go_wp2_with (first | ((with_reducible refine gate_dst (N := 2) rfl ?_); refine box_event ?hg (N := 2) ?hd (cs := #[.string (⟨#[]⟩ : ByteArray), .string (⟨#[]⟩ : ByteArray), .slice none 0 0]) (t := 52) ?hr ?_; (case hd => rfl); (case hg => rfl); (case hr => (go_simp; done)); intro gb239 hg w59 hbox hb; have n0_ := Aside0.mk (IsS99.below HI0.out hb); have n1_ := Aside0.mk (KeepBut.trans HK.out (KeepBut.of_below hb g none) (.inl rfl)); have n2_ := Aside0.mk (below_step HB.out hb); have n3_ := Aside0.mk (hbox); have n4_ := Aside0.mk ((by rw [hg]; exact (keep_size (w := w) (g := g) (row := none) HK.out) : w.heap.size ≤ gb239)); have n5_ := Aside0.mk ((Nat.le_trans HW0.out (by rw [hg]; exact (keep_size (w := w) (g := g) (row := none) HK.out) : w.heap.size ≤ gb239) : w0.heap.size ≤ gb239)); have n6_ := Aside0.mk ((by rw [hg]; exact Nat.ne_of_lt (IsS99.lt (show IsS99 w0 _ g s0_0 s0_1 false from by exact HI0.out)) : g ≠ gb239)); have n7_ := Aside0.mk ((by rw [hg]; exact Nat.ne_of_gt (IsS99.lt (show IsS99 w0 _ g s0_0 s0_1 false from by exact HI0.out)) : gb239 ≠ g)); clear HI0; clear HK; clear HB; have HI0 := n0_; have HK := n1_; have HB := n2_; have BK239 := n3_; have GW239 := n4_; have GE239 := n5_; have NB0_239 := n6_; have NB239_0 := n7_; clear n0_ n1_ n2_ n3_ n4_ n5_ n6_ n7_; clear hb hbox hg; obtain ⟨HGz60, hgz60⟩ := HI0.out; have hcz60_0 := cellS99_0 HGz60; have hcz60_1 := cellS99_1 HGz60; have hcz60_2 := cellS99_2 HGz60; have hfz60_0 := blk_frozen HGz60 0; have hfz60_1 := blk_frozen HGz60 1; have hfz60_2 := blk_frozen HGz60 2; clear HGz60 hgz60) | ((with_reducible refine gate_callee (f := 79) rfl ?_); refine goesL_ (some 14) rfl rfl Try.func79 (by kernel_rfl) rfl #[.pointer (some ⟨g, 0, none⟩), .string (⟨#[39]⟩ : ByteArray)] rfl (by (try simp only [List.map_toArray, List.map_cons, List.map_nil]); first | rfl) ?_; (with_reducible refine (grammar_reader_takes.calls g s0_0 s0_1 false (⟨#[39]⟩ : ByteArray) false t241 t242 t243 w0 _ ?side1 ?side2 A7.out).mono ?_); (case side1 => exact HI0.out); (case side2 => exact HB.out); rintro e w61 ⟨rfl, hi, hb, hk⟩; refine ⟨_, rfl, ?_⟩; have n0_ := Aside0.mk (KeepBut.blk hk (g' := gb239) (o := .cells #[.string (⟨#[]⟩ : ByteArray), .string (⟨#[]⟩ : ByteArray), .slice none 0 0] 52 (0, 0)) BK239.out NB239_0.out (by simp)); have n1_ := Aside0.mk (KeepBut.trans HK.out hk (.inl rfl)); have n2_ := Aside0.mk (hb); have n3_ := Aside0.mk (hi); clear BK239; clear HK; clear HB; clear HI0; have BK239 := n0_; have HK := n1_; have HB := n2_; have HI0 := n3_; clear n0_ n1_ n2_ n3_; (try clear hb); (try clear hk); (try clear hi)) | ((with_reducible refine gate_callee (f := 79) rfl ?_); refine goesL_ (some 20) rfl rfl Try.func79 (by kernel_rfl) rfl #[.pointer (some ⟨g, 0, none⟩), .string (⟨#[46]⟩ : ByteArray)] rfl (by (try simp only [List.map_toArray, List.map_cons, List.map_nil]); first | rfl) ?_; (with_reducible refine (grammar_reader_takes.calls g t241 t242 t243 (⟨#[46]⟩ : ByteArray) false t249 t250 t251 w0 _ ?side1 ?side2 A16.out).mono ?_); (case side1 => exact HI0.out); (case side2 => exact HB.out); rintro e w62 ⟨rfl, hi, hb, hk⟩; refine ⟨_, rfl, ?_⟩; have n0_ := Aside0.mk (KeepBut.blk hk (g' := gb239) (o := .cells #[.string (⟨#[]⟩ : ByteArray), .string (⟨#[]⟩ : ByteArray), .slice none 0 0] 52 (0, 0)) BK239.out NB239_0.out (by simp)); have n1_ := Aside0.mk (KeepBut.trans HK.out hk (.inl rfl)); have n2_ := Aside0.mk (hb); have n3_ := Aside0.mk (hi); clear BK239; clear HK; clear HB; clear HI0; have BK239 := n0_; have HK := n1_; have HB := n2_; have HI0 := n3_; clear n0_ n1_ n2_ n3_; (try clear hb); (try clear hk); (try clear hi)) | ((with_reducible refine gate_callee (f := 79) rfl ?_); refine goesL_ (some 24) rfl rfl Try.func79 (by kernel_rfl) rfl #[.pointer (some ⟨g, 0, none⟩), .string (⟨#[40, 41]⟩ : ByteArray)] rfl (by (try simp only [List.map_toArray, List.map_cons, List.map_nil]); first | rfl) ?_; (with_reducible refine (grammar_reader_takes.calls g t249 t250 t251 (⟨#[40, 41]⟩ : ByteArray) false t253 t254 t255 w0 _ ?side1 ?side2 A24.out).mono ?_); (case side1 => exact HI0.out); (case side2 => exact HB.out); rintro e w63 ⟨rfl, hi, hb, hk⟩; refine ⟨_, rfl, ?_⟩; have n0_ := Aside0.mk (KeepBut.blk hk (g' := gb239) (o := .cells #[.string (⟨#[]⟩ : ByteArray), .string (⟨#[]⟩ : ByteArray), .slice none 0 0] 52 (0, 0)) BK239.out NB239_0.out (by simp)); have n1_ := Aside0.mk (KeepBut.trans HK.out hk (.inl rfl)); have n2_ := Aside0.mk (hb); have n3_ := Aside0.mk (hi); clear BK239; clear HK; clear HB; clear HI0; have BK239 := n0_; have HK := n1_; have HB := n2_; have HI0 := n3_; clear n0_ n1_ n2_ n3_; (try clear hb); (try clear hk); (try clear hi)) | ((with_reducible refine gate_callee (f := 79) rfl ?_); refine goesL_ (some 28) rfl rfl Try.func79 (by kernel_rfl) rfl #[.pointer (some ⟨g, 0, none⟩), .string (⟨#[40, 32, 33, 32]⟩ : ByteArray)] rfl (by (try simp only [List.map_toArray, List.map_cons, List.map_nil]); first | rfl) ?_; (with_reducible refine (grammar_reader_takes.calls g t253 t254 t255 (⟨#[40, 32, 33, 32]⟩ : ByteArray) false t257 t258 t259 w0 _ ?side1 ?side2 A33.out).mono ?_); (case side1 => exact HI0.out); (case side2 => exact HB.out); rintro e w64 ⟨rfl, hi, hb, hk⟩; refine ⟨_, rfl, ?_⟩; have n0_ := Aside0.mk (KeepBut.blk hk (g' := gb239) (o := .cells #[.string (⟨#[]⟩ : ByteArray), .string (⟨#[]⟩ : ByteArray), .slice none 0 0] 52 (0, 0)) BK239.out NB239_0.out (by simp)); have n1_ := Aside0.mk (KeepBut.trans HK.out hk (.inl rfl)); have n2_ := Aside0.mk (hb); have n3_ := Aside0.mk (hi); clear BK239; clear HK; clear HB; clear HI0; have BK239 := n0_; have HK := n1_; have HB := n2_; have HI0 := n3_; clear n0_ n1_ n2_ n3_; (try clear hb); (try clear hk); (try clear hi)) | ((with_reducible refine gate_callee (f := 79) rfl ?_); refine goesL_ (some 38) rfl rfl Try.func79 (by kernel_rfl) rfl #[.pointer (some ⟨g, 0, none⟩), .string (⟨#[40, 32, 47, 32]⟩ : ByteArray)] rfl (by (try simp only [List.map_toArray, List.map_cons, List.map_nil]); first | rfl) ?_; (with_reducible refine (grammar_reader_takes.calls g t257 t258 t259 (⟨#[40, 32, 47, 32]⟩ : ByteArray) true t276 t277 t278 w0 _ ?side1 ?side2 A56.out).mono ?_); (case side1 => exact HI0.out); (case side2 => exact HB.out); rintro e w65 ⟨rfl, hi, hb, hk⟩; refine ⟨_, rfl, ?_⟩; have n0_ := Aside0.mk (KeepBut.blk hk (g' := gb239) (o := .cells #[.string (⟨#[]⟩ : ByteArray), .string (⟨#[]⟩ : ByteArray), .slice none 0 0] 52 (0, 0)) BK239.out NB239_0.out (by simp)); have n1_ := Aside0.mk (KeepBut.trans HK.out hk (.inl rfl)); have n2_ := Aside0.mk (hb); have n3_ := Aside0.mk (hi); clear BK239; clear HK; clear HB; clear HI0; have BK239 := n0_; have HK := n1_; have HB := n2_; have HI0 := n3_; clear n0_ n1_ n2_ n3_; (try clear hb); (try clear hk); (try clear hi)) | ((with_reducible refine gate_callee (f := 54) rfl ?_); refine goesL_ (some 40) rfl rfl Try.func54 (by kernel_rfl) rfl #[.pointer (some ⟨g, 0, none⟩)] rfl (by (try simp only [List.map_toArray, List.map_cons, List.map_nil]); first | rfl) ?_; (with_reducible refine (ih k (by omega) g t276 t277 t278 t279 t280 t281 t284 t285 t286 w0 _ ?side1 ?side2 A58.out).mono ?_); (case side1 => exact HI0.out); (case side2 => exact HB.out); rintro e w66 ⟨v282, rfl, ho0, hi, hb, hk⟩; refine ⟨_, rfl, ?_⟩; have n0_ := Aside0.mk (KeepBut.blk hk (g' := gb239) (o := .cells #[.string (⟨#[]⟩ : ByteArray), .string (⟨#[]⟩ : ByteArray), .slice none 0 0] 52 (0, 0)) BK239.out NB239_0.out (by simp)); have n1_ := Aside0.mk (Kd.N_lower (Kd.N_mono (ok' := fun k_ => (w.heap.size ≤ k_) ∧ k_ ≠ gb239 ∧ k_ ≠ g) ho0 (fun k_ hk_ => ⟨(Nat.le_trans (keep_size (w := w) (g := g) (row := none) HK.out) hk_), (Kd.freshB (g := gb239) (o := .cells #[.string (⟨#[]⟩ : ByteArray), .string (⟨#[]⟩ : ByteArray), .slice none 0 0] 52 (0, 0)) BK239.out k_ hk_), (IsS99.fresh HI0.out k_ hk_)⟩)) (keep_size (w := w) (g := g) (row := none) HK.out)); have n2_ := Aside0.mk (KeepBut.trans HK.out hk (.inl rfl)); have n3_ := Aside0.mk (hb); have n4_ := Aside0.mk (hi); clear BK239; clear HK; clear HB; clear HI0; have BK239 := n0_; have HO283 := n1_; have HK := n2_; have HB := n3_; have HI0 := n4_; clear n0_ n1_ n2_ n3_ n4_; (try clear hb); (try clear hk); (try clear hi); (try clear ho0); obtain ⟨Ao67, co67, eo67⟩ := Kd.N_slice HO283.out; subst eo67) | ((with_reducible refine gate_dst (N := 41) rfl ?_); refine Kd.N_lit k52 _ 52 ?hg (N' := 41) ?hd (xs := ([(⟨t279, t280, t281⟩ : S52)] : List (S52))) (inner := [.string t279, .string t280, .slice Ao67 t281.length co67]) (ok := (fun k_ => (w.heap.size ≤ k_) ∧ k_ ≠ gb239 ∧ k_ ≠ g)) (okp := (fun k_ => (w.heap.size ≤ k_) ∧ k_ ≠ gb239 ∧ k_ ≠ g)) ?hr ?hp (fun _ hk => hk) ((show ∀ k_, w66.heap.size ≤ k_ → (fun k_ => (w.heap.size ≤ k_) ∧ k_ ≠ gb239 ∧ k_ ≠ g) k_ from fun k_ hk => ⟨(Nat.le_trans (keep_size (w := w) (g := g) (row := none) HK.out) hk), Kd.freshB (g := gb239) (o := .cells #[.string (⟨#[]⟩ : ByteArray), .string (⟨#[]⟩ : ByteArray), .slice none 0 0] 52 (0, 0)) BK239.out k_ hk, IsS99.fresh HI0.out k_ hk⟩) _ (Nat.le_refl _)) (Below.refl _ _) (Nat.le_refl _) (by simp) ?_; (case hd => rfl); (case hg => rfl); (case hr => (go_simp; done)); (case hp => exact (Reps.c3 (show Kd.FK k52 _ _ (⟨t279, t280, t281⟩ : S52) [.string t279, .string t280, .slice Ao67 t281.length co67] from (k52_mkF _ _ (⟨t279, t280, t281⟩ : S52) (Kd.N_reads' (Kd.N_mono (ok' := (fun k_ => (w.heap.size ≤ k_) ∧ k_ ≠ gb239 ∧ k_ ≠ g)) (HO283.out) (fun k_ hk => ⟨hk.1, ⟨hk.2.1, hk.2.2⟩⟩))).2.1 (Kd.N_F (Kd.N_mono (ok' := (fun k_ => (w.heap.size ≤ k_) ∧ k_ ≠ gb239 ∧ k_ ≠ g)) (HO283.out) (fun k_ hk => ⟨hk.1, ⟨hk.2.1, hk.2.2⟩⟩))))) (Reps.none _ _))); intro v288 w68 ho69 hb hg_ hnew_; clear hg_ hnew_; (first | rw [← Ny287.out] at ho69); have n0_ := Aside0.mk (Kd.N_lower ho69 (keep_size (w := w) (g := g) (row := none) HK.out)); have n1_ := Aside0.mk (IsS99.below HI0.out hb); have n2_ := Aside0.mk (blk_below (g := gb239) (o := .cells #[.string (⟨#[]⟩ : ByteArray), .string (⟨#[]⟩ : ByteArray), .slice none 0 0] 52 (0, 0)) BK239.out hb); have n3_ := Aside0.mk (KeepBut.trans HK.out (KeepBut.of_below hb g none) (.inl rfl)); have n4_ := Aside0.mk (below_step HB.out hb); clear HI0; clear BK239; clear HK; clear HB; clear HO283; have HO289 := n0_; have HI0 := n1_; have BK239 := n2_; have HK := n3_; have HB := n4_; clear n0_ n1_ n2_ n3_ n4_; clear hb ho69; obtain ⟨Ao70, co70, eo70⟩ := Kd.N_slice HO289.out; subst eo70) | ((with_reducible refine gate_dst (N := 4) rfl ?_); refine box_event ?hg (N := 4) ?hd (cs := #[.string (⟨#[]⟩ : ByteArray), .string (⟨#[]⟩ : ByteArray), .slice none 0 0]) (t := 52) ?hr ?_; (case hd => rfl); (case hg => rfl); (case hr => (go_simp; done)); intro gb290 hg w71 hbox hb; have n0_ := Aside0.mk (Kd.N_below (Kd.N_elderB HO289.out gb290 (Nat.le_of_eq hg.symm)) hb); have n1_ := Aside0.mk (IsS99.below HI0.out hb); have n2_ := Aside0.mk (blk_below (g := gb239) (o := .cells #[.string (⟨#[]⟩ : ByteArray), .string (⟨#[]⟩ : ByteArray), .slice none 0 0] 52 (0, 0)) BK239.out hb); have n3_ := Aside0.mk (KeepBut.trans HK.out (KeepBut.of_below hb g none) (.inl rfl)); have n4_ := Aside0.mk (below_step HB.out hb); have n5_ := Aside0.mk (hbox); have n6_ := Aside0.mk ((by rw [hg]; exact (keep_size (w := w) (g := g) (row := none) HK.out) : w.heap.size ≤ gb290)); have n7_ := Aside0.mk ((Nat.le_trans HW0.out (by rw [hg]; exact (keep_size (w := w) (g := g) (row := none) HK.out) : w.heap.size ≤ gb290) : w0.heap.size ≤ gb290)); have n8_ := Aside0.mk ((by rw [hg]; exact Nat.ne_of_lt (blk_lt (g := gb239) (o := .cells #[.string (⟨#[]⟩ : ByteArray), .string (⟨#[]⟩ : ByteArray), .slice none 0 0] 52 (0, 0)) BK239.out) : gb239 ≠ gb290)); have n9_ := Aside0.mk ((by rw [hg]; exact Nat.ne_of_gt (blk_lt (g := gb239) (o := .cells #[.string (⟨#[]⟩ : ByteArray), .string (⟨#[]⟩ : ByteArray), .slice none 0 0] 52 (0, 0)) BK239.out) : gb290 ≠ gb239)); have n10_ := Aside0.mk ((by rw [hg]; exact Nat.ne_of_lt (IsS99.lt (show IsS99 w0 _ g t284 t285 t286 from by exact HI0.out)) : g ≠ gb290)); have n11_ := Aside0.mk ((by rw [hg]; exact Nat.ne_of_gt (IsS99.lt (show IsS99 w0 _ g t284 t285 t286 from by exact HI0.out)) : gb290 ≠ g)); clear HO289; clear HI0; clear BK239; clear HK; clear HB; have HO289 := n0_; have HI0 := n1_; have BK239 := n2_; have HK := n3_; have HB := n4_; have BK290 := n5_; have GW290 := n6_; have GE290 := n7_; have NB239_290 := n8_; have NB290_239 := n9_; have NB0_290 := n10_; have NB290_0 := n11_; clear n0_ n1_ n2_ n3_ n4_ n5_ n6_ n7_ n8_ n9_ n10_ n11_; clear hb hbox hg; have hnb72 := NB290_239.out; have hnc72 := NB239_290.out; have hnb73 := NB290_0.out; have hnc73 := NB0_290.out; have hcz74_0 : w71.cell? ⟨gb290, 0, none⟩ = some (.string (⟨#[]⟩ : ByteArray)) := (blk_cell BK290.out 0).trans rfl; have hcz74_1 : w71.cell? ⟨gb290, 1, none⟩ = some (.string (⟨#[]⟩ : ByteArray)) := (blk_cell BK290.out 1).trans rfl; have hcz74_2 : w71.cell? ⟨gb290, 2, none⟩ = some (.slice none 0 0) := (blk_cell BK290.out 2).trans rfl; have hfz74_0 := blk_frozen BK290.out 0; have hfz74_1 := blk_frozen BK290.out 1; have hfz74_2 := blk_frozen BK290.out 2))
 go_loopg [] k (fun kq w' => ∃ (x1000_1 : ByteArray) (x1001_1 : Int) (x1002_1 : Bool) (x291002_1 : List (S52)) (u291002 : Value), Aside0 (grammar_reader_body.l0 kq x1000_1 x1001_1 x1002_1 (⟨#[111, 114]⟩ : ByteArray) (⟨#[]⟩ : ByteArray) x291002_1 = some (r1, r2, r3, r4, r5, r6)) ∧ Aside0 (kq ≤ k) ∧ Aside0 (Kd.N k52 52 w' w.heap.size (fun k_ => (w.heap.size ≤ k_) ∧ k_ ≠ gb239 ∧ k_ ≠ gb290 ∧ k_ ≠ g) u291002 x291002_1) ∧ Aside0 (w'.heap[gb239]? = some (.cells #[.string (⟨#[]⟩ : ByteArray), .string (⟨#[]⟩ : ByteArray), (.slice none 0 0)] 52 (0, 0))) ∧ Aside0 (w'.heap[gb290]? = some (.cells #[.string (⟨#[111, 114]⟩ : ByteArray), .string (⟨#[]⟩ : ByteArray), u291002] 52 (0, 0))) ∧ Aside0 (IsS99 w0 w' g x1000_1 x1001_1 x1002_1) ∧ Aside0 (KeepBut w w' g none) ∧ Aside0 (Below w0.heap.size w0 w'))
 case atStart => exact ⟨(t284), (t285), (t286), (y287), (.slice Ao70 y287.length co70), H', ⟨Nat.le_refl _⟩, ⟨by (with_reducible repeat (first | fail)); exact Kd.N_mono (Kd.N_far (p := ⟨gb290, 2, none⟩) (Kd.N_far (p := ⟨gb290, 1, none⟩) (Kd.N_far (p := ⟨gb290, 0, none⟩) (Kd.N_mono HO289.out (fun k_ hk => (⟨hk, hk.2⟩ : _ ∧ k_ ≠ gb290))) (fun _ hk => hk.2) (.string (⟨#[111, 114]⟩ : ByteArray))) (fun _ hk => hk.2) (.string (⟨#[]⟩ : ByteArray))) (fun _ hk => hk.2) (.slice Ao70 y287.length co70)) (fun _ hk => ⟨hk.1.1.1, ⟨hk.1.1.2.1, ⟨hk.1.2, hk.1.1.2.2⟩⟩⟩)⟩, ⟨by (with_reducible repeat (first | fail)); refine blk_far ?_ NB239_290.out _; (with_reducible repeat (first | fail)); refine blk_far ?_ NB239_290.out _; (with_reducible repeat (first | fail)); refine blk_far ?_ NB239_290.out _; (with_reducible repeat (first | fail)); exact BK239.out⟩, ⟨by (with_reducible repeat (first | fail)); refine blk_put (cs := #[.string (⟨#[111, 114]⟩ : ByteArray), .string (⟨#[]⟩ : ByteArray), .slice none 0 0]) ?_ 2 _ rfl; (with_reducible repeat (first | fail)); refine blk_put (cs := #[.string (⟨#[111, 114]⟩ : ByteArray), .string (⟨#[]⟩ : ByteArray), .slice none 0 0]) ?_ 1 _ rfl; (with_reducible repeat (first | fail)); refine blk_put (cs := #[.string (⟨#[]⟩ : ByteArray), .string (⟨#[]⟩ : ByteArray), .slice none 0 0]) ?_ 0 _ rfl; (with_reducible repeat (first | fail)); exact BK290.out⟩, ⟨by repeat ((with_reducible first | exact HI0.out | refine IsS99.far ?_ NB0_290.out _))⟩, ⟨by repeat ((with_reducible first | exact HK.out | refine keep_far ?_ GW290.out _))⟩, ⟨by repeat ((with_reducible first | exact HB.out | refine below_set ?_ GE290.out))⟩⟩
 case round =>
  clear H'
  clear hcz60_0 hcz60_1 hcz60_2 hcz74_0 hcz74_1 hcz74_2 hfz60_0 hfz60_1 hfz60_2 hfz74_0 hfz74_1 hfz74_2
  obtain ⟨x1000_1, x1001_1, x1002_1, x291002_1, u291002, HA, HK1, HO_291002, BK239, BK290, HI0, HK, HB⟩ := hrel
  cases gk with
  | zero => exact absurd HA.out (by simp [grammar_reader_body.l0])
  | succ k1 =>
   have H := HA.out
   clear HA
   simp only [grammar_reader_body.l0] at H
   replace H := Option.bind_eq_some_iff.mp H
   obtain ⟨⟨t291, t292, t293, t294⟩, A750, H⟩ := H
   dsimp only at H
   have A75 := Aside0.mk A750
   clear A750
   by_cases c76 : t291 = true
   rotate_left
   · replace c76 := Bool.eq_false_iff.mpr c76
     subst c76
     rw [if_neg (show ¬ (false = true) by decide)] at H
     replace H := Option.bind_eq_some_iff.mp H
     obtain ⟨⟨t306, t307, t308⟩, A860, H⟩ := H
     dsimp only at H
     have A86 := Aside0.mk A860
     clear A860
     simp only [Option.some.injEq, Prod.mk.injEq] at H
     obtain ⟨rfl, rfl, rfl, rfl, rfl, rfl⟩ := H
     go_wp2_with (first | ((with_reducible refine gate_callee (f := 79) rfl ?_); refine goesL_ (some 44) rfl rfl Try.func79 (by kernel_rfl) rfl #[.pointer (some ⟨g, 0, none⟩), .string (⟨#[32, 47, 32]⟩ : ByteArray)] rfl (by (try simp only [List.map_toArray, List.map_cons, List.map_nil]); first | rfl) ?_; (with_reducible refine (grammar_reader_takes.calls g x1000_1 x1001_1 x1002_1 (⟨#[32, 47, 32]⟩ : ByteArray) false t292 t293 t294 w0 _ ?side1 ?side2 A75.out).mono ?_); (case side1 => exact HI0.out); (case side2 => exact HB.out); rintro e w87 ⟨rfl, hi, hb, hk⟩; refine ⟨_, rfl, ?_⟩; have n0_ := Aside0.mk (Kd.N_mono (Kd.N_keep (Kd.N_mono (ok := fun k_ => (((w.heap.size ≤ k_)) ∧ (k_ ≠ gb239 ∧ (k_ ≠ gb290 ∧ k_ ≠ g)))) HO_291002.out (fun k_ hk_ => (⟨hk_, hk_.2.2.2⟩ : _ ∧ k_ ≠ g))) hk (fun _ h => h.2)) (fun _ h => h.1)); have n1_ := Aside0.mk (KeepBut.blk hk (g' := gb239) (o := .cells #[.string (⟨#[]⟩ : ByteArray), .string (⟨#[]⟩ : ByteArray), .slice none 0 0] 52 (0, 0)) BK239.out NB239_0.out (by simp)); have n2_ := Aside0.mk (KeepBut.blk hk (g' := gb290) (o := .cells #[.string (⟨#[111, 114]⟩ : ByteArray), .string (⟨#[]⟩ : ByteArray), u291002] 52 (0, 0)) BK290.out NB290_0.out (by simp)); have n3_ := Aside0.mk (KeepBut.trans HK.out hk (.inl rfl)); have n4_ := Aside0.mk (hb); have n5_ := Aside0.mk (hi); clear HO_291002; clear BK239; clear BK290; clear HK; clear HB; clear HI0; have HO_291002 := n0_; have BK239 := n1_; have BK290 := n2_; have HK := n3_; have HB := n4_; have HI0 := n5_; clear n0_ n1_ n2_ n3_ n4_ n5_; (try clear hb); (try clear hk); (try clear hi)) | ((with_reducible refine gate_callee (f := 53) rfl ?_); refine goesL_ (some 53) rfl rfl Try.func53 (by kernel_rfl) rfl #[.pointer (some ⟨g, 0, none⟩), .string (⟨#[32, 41]⟩ : ByteArray)] rfl (by (try simp only [List.map_toArray, List.map_cons, List.map_nil]); first | rfl) ?_; (with_reducible refine (grammar_reader_must.calls g t292 t293 t294 (⟨#[32, 41]⟩ : ByteArray) t306 t307 t308 w0 _ ?side1 ?side2 A86.out).mono ?_); (case side1 => exact HI0.out); (case side2 => exact HB.out); rintro e w88 ⟨rfl, hi, hb, hk⟩; refine ⟨_, rfl, ?_⟩; have n0_ := Aside0.mk (Kd.N_mono (Kd.N_keep (Kd.N_mono (ok := fun k_ => (((w.heap.size ≤ k_)) ∧ (k_ ≠ gb239 ∧ (k_ ≠ gb290 ∧ k_ ≠ g)))) HO_291002.out (fun k_ hk_ => (⟨hk_, hk_.2.2.2⟩ : _ ∧ k_ ≠ g))) hk (fun _ h => h.2)) (fun _ h => h.1)); have n1_ := Aside0.mk (KeepBut.blk hk (g' := gb239) (o := .cells #[.string (⟨#[]⟩ : ByteArray), .string (⟨#[]⟩ : ByteArray), .slice none 0 0] 52 (0, 0)) BK239.out NB239_0.out (by simp)); have n2_ := Aside0.mk (KeepBut.blk hk (g' := gb290) (o := .cells #[.string (⟨#[111, 114]⟩ : ByteArray), .string (⟨#[]⟩ : ByteArray), u291002] 52 (0, 0)) BK290.out NB290_0.out (by simp)); have n3_ := Aside0.mk (KeepBut.trans HK.out hk (.inl rfl)); have n4_ := Aside0.mk (hb); have n5_ := Aside0.mk (hi); clear HO_291002; clear BK239; clear BK290; clear HK; clear HB; clear HI0; have HO_291002 := n0_; have BK239 := n1_; have BK290 := n2_; have HK := n3_; have HB := n4_; have HI0 := n5_; clear n0_ n1_ n2_ n3_ n4_ n5_; (try clear hb); (try clear hk); (try clear hi); have hnb89 := NB290_239.out; have hnc89 := NB239_290.out; have hnb90 := NB290_0.out; have hnc90 := NB0_290.out; have hcz91_0 : w88.cell? ⟨gb290, 0, none⟩ = some (.string (⟨#[111, 114]⟩ : ByteArray)) := (blk_cell BK290.out 0).trans rfl; have hcz91_1 : w88.cell? ⟨gb290, 1, none⟩ = some (.string (⟨#[]⟩ : ByteArray)) := (blk_cell BK290.out 1).trans rfl; have hcz91_2 : w88.cell? ⟨gb290, 2, none⟩ = some (u291002) := (blk_cell BK290.out 2).trans rfl; have hfz91_0 := blk_frozen BK290.out 0; have hfz91_1 := blk_frozen BK290.out 1; have hfz91_2 := blk_frozen BK290.out 2; have hnb92 := NB239_0.out; have hnc92 := NB0_239.out; have hcz93_0 : w88.cell? ⟨gb239, 0, none⟩ = some (.string (⟨#[]⟩ : ByteArray)) := (blk_cell BK239.out 0).trans rfl; have hcz93_1 : w88.cell? ⟨gb239, 1, none⟩ = some (.string (⟨#[]⟩ : ByteArray)) := (blk_cell BK239.out 1).trans rfl; have hcz93_2 : w88.cell? ⟨gb239, 2, none⟩ = some (.slice none 0 0) := (blk_cell BK239.out 2).trans rfl; have hfz93_0 := blk_frozen BK239.out 0; have hfz93_1 := blk_frozen BK239.out 1; have hfz93_2 := blk_frozen BK239.out 2; obtain ⟨Ao94, co94, eo94⟩ := Kd.N_slice HO_291002.out; subst eo94))
     refine bodyPost_ret (results_cell_row rfl _ _ gb239 52 #[.string (⟨#[111, 114]⟩ : ByteArray), .string (⟨#[]⟩ : ByteArray), .slice Ao94 x291002_1.length co94] (0, 0) _ rfl (by (with_reducible repeat (first | fail)); refine blk_put (cs := #[.string (⟨#[111, 114]⟩ : ByteArray), .string (⟨#[]⟩ : ByteArray), .slice none 0 0]) ?_ 2 _ rfl; (with_reducible repeat (first | fail)); refine blk_put (cs := #[.string (⟨#[111, 114]⟩ : ByteArray), .string (⟨#[]⟩ : ByteArray), .slice none 0 0]) ?_ 1 _ rfl; (with_reducible repeat (first | fail)); refine blk_put (cs := #[.string (⟨#[]⟩ : ByteArray), .string (⟨#[]⟩ : ByteArray), .slice none 0 0]) ?_ 0 _ rfl; (with_reducible repeat (first | fail)); exact BK239.out) Try.underlying52 rfl (by kernel_rfl)) rfl ?_
     exact ⟨_, by first | rfl, by (with_reducible repeat (first | fail)); exact Kd.N_mono (Kd.N_far (p := ⟨gb239, 2, none⟩) (Kd.N_far (p := ⟨gb239, 1, none⟩) (Kd.N_far (p := ⟨gb239, 0, none⟩) (Kd.N_mono HO_291002.out (fun k_ hk => (⟨hk, hk.2.1⟩ : _ ∧ k_ ≠ gb239))) (fun _ hk => hk.2) (.string (⟨#[111, 114]⟩ : ByteArray))) (fun _ hk => hk.2) (.string (⟨#[]⟩ : ByteArray))) (fun _ hk => hk.2) (.slice Ao94 x291002_1.length co94)) (fun _ hk => hk.1.1), by repeat ((with_reducible first | exact HI0.out | refine IsS99.far ?_ NB0_239.out _)), by repeat ((with_reducible first | exact HB.out | refine below_set ?_ GE239.out)), by repeat ((with_reducible first | exact HK.out | refine keep_far ?_ GW239.out _))⟩
   subst c76
   rw [if_pos rfl] at H
   replace H := Option.bind_eq_some_iff.mp H
   obtain ⟨⟨t295, t296, t297, t300, t301, t302⟩, A770, H⟩ := H
   dsimp only at H
   have A77 := Aside0.mk A770
   clear A770
   obtain ⟨c78, H⟩ := gd H
   have LMc78 := Aside0.mk c78
   clear c78
   obtain ⟨y303, hy303⟩ : ∃ y_ : List (S52), y_ = (x291002_1 ++ [(⟨t295, t296, t297⟩ : S52)]) := ⟨_, rfl⟩
   replace H : (grammar_reader_body.l0 k1 t300 t301 t302 (⟨#[111, 114]⟩ : ByteArray) (⟨#[]⟩ : ByteArray) y303) = some (r1, r2, r3, r4, r5, r6) := by (rw [hy303]; with_reducible exact H)
   have Ny303 := Aside0.mk hy303
   clear hy303
   have H' := Aside0.mk H
   clear H
   try go_wp2_with (((with_reducible refine gate_callee (f := 79) rfl ?_); refine goesL_ (some 44) rfl rfl Try.func79 (by kernel_rfl) rfl #[.pointer (some ⟨g, 0, none⟩), .string (⟨#[32, 47, 32]⟩ : ByteArray)] rfl (by (try simp only [List.map_toArray, List.map_cons, List.map_nil]); first | rfl) ?_; (with_reducible refine (grammar_reader_takes.calls g x1000_1 x1001_1 x1002_1 (⟨#[32, 47, 32]⟩ : ByteArray) true t292 t293 t294 w0 _ ?side1 ?side2 A75.out).mono ?_); (case side1 => exact HI0.out); (case side2 => exact HB.out); rintro e w79 ⟨rfl, hi, hb, hk⟩; refine ⟨_, rfl, ?_⟩; have n0_ := Aside0.mk (Kd.N_mono (Kd.N_keep (Kd.N_mono (ok := fun k_ => (((w.heap.size ≤ k_)) ∧ (k_ ≠ gb239 ∧ (k_ ≠ gb290 ∧ k_ ≠ g)))) HO_291002.out (fun k_ hk_ => (⟨hk_, hk_.2.2.2⟩ : _ ∧ k_ ≠ g))) hk (fun _ h => h.2)) (fun _ h => h.1)); have n1_ := Aside0.mk (KeepBut.blk hk (g' := gb239) (o := .cells #[.string (⟨#[]⟩ : ByteArray), .string (⟨#[]⟩ : ByteArray), .slice none 0 0] 52 (0, 0)) BK239.out NB239_0.out (by simp)); have n2_ := Aside0.mk (KeepBut.blk hk (g' := gb290) (o := .cells #[.string (⟨#[111, 114]⟩ : ByteArray), .string (⟨#[]⟩ : ByteArray), u291002] 52 (0, 0)) BK290.out NB290_0.out (by simp)); have n3_ := Aside0.mk (KeepBut.trans HK.out hk (.inl rfl)); have n4_ := Aside0.mk (hb); have n5_ := Aside0.mk (hi); clear HO_291002; clear BK239; clear BK290; clear HK; clear HB; clear HI0; have HO_291002 := n0_; have BK239 := n1_; have BK290 := n2_; have HK := n3_; have HB := n4_; have HI0 := n5_; clear n0_ n1_ n2_ n3_ n4_ n5_; (try clear hb); (try clear hk); (try clear hi)))
   have n0_ := Aside0.mk (Kd.N_drew HO_291002.out)
   have n1_ := Aside0.mk (blk_drew BK239.out)
   have n2_ := Aside0.mk (blk_drew BK290.out)
   have n3_ := Aside0.mk (IsS99.drew HI0.out)
   have n4_ := Aside0.mk (keep_drew HK.out)
   have n5_ := Aside0.mk (below_drew1 HB.out)
   clear HO_291002
   clear BK239
   clear BK290
   clear HI0
   clear HK
   clear HB
   have HO_291002 := n0_
   have BK239 := n1_
   have BK290 := n2_
   have HI0 := n3_
   have HK := n4_
   have HB := n5_
   clear n0_ n1_ n2_ n3_ n4_ n5_
   refine start_ (n := 8) (S := fun w' => w'.cell? ⟨gb290, 0, none⟩ = some (.string (⟨#[111, 114]⟩ : ByteArray)) ∧ w'.cell? ⟨gb290, 1, none⟩ = some (.string (⟨#[]⟩ : ByteArray)) ∧ w'.cell? ⟨gb290, 2, none⟩ = some (u291002)) (ds := [7]) #[F,F,F,F,F,F,F,F] (by kernel_rfl) rfl rfl ⟨(blk_cell BK290.out 0).trans rfl, (blk_cell BK290.out 1).trans rfl, (blk_cell BK290.out 2).trans rfl⟩ (fun hHeld => ?_); refine with_tabW grammar_reader_body.tab16 grammar_reader_body.bits16 (fun HT_ HW_ => ?_)
   generalize w79.drew = w80 at HO_291002 BK239 BK290 HI0 HK HB hHeld ⊢
   refine pure_ (i := 0) (N := some 45) (v := ?_) (a' := ?_) #[T,F,F,F,F,F,F,F] rfl rfl (any_of HT_.out (by kernel_rfl)) (fun _ _ _ h => h) (Or.inl ⟨by rfl, ?_⟩) ?_ ?_
   rotate_left
   · intro w'
     go_simp
     with_reducible rfl
   rotate_left
   · simp only [Act.put, List.setIfInBounds_toArray, List.set_cons_zero, List.set_cons_succ, i64_w, i32_w]
     rfl
   refine pure_ (i := 2) (N := some 47) (v := ?_) (a' := ?_) #[T,F,T,F,F,F,F,F] rfl rfl (any_of HT_.out (by kernel_rfl)) (fun _ _ _ h => h) (Or.inl ⟨by rfl, ?_⟩) ?_ ?_
   rotate_left
   · intro w'
     go_simp
     with_reducible rfl
   rotate_left
   · simp only [Act.put, List.setIfInBounds_toArray, List.set_cons_zero, List.set_cons_succ, i64_w, i32_w]
     rfl
   refine take_ (i := 1) (N := some 46) (v := ?_) (a' := ?_) #[T,T,T,F,F,F,F,F] rfl rfl (take_ofW HT_.out HW_.out (by kernel_rfl)) (fun _ _ _ h => h) (Or.inl ⟨by rfl, ?_⟩) hHeld ?_ ?_
   rotate_left
   · rintro w' ⟨s0, s1, s2⟩
     go_simp
     with_reducible rfl
   rotate_left
   · simp only [Act.put, List.setIfInBounds_toArray, List.set_cons_zero, List.set_cons_succ, i64_w, i32_w]
     rfl
   refine one_ (i := 3) (N := some 48) #[T,T,T,T,F,F,F,F] rfl rfl (one_of HT_.out (by kernel_rfl)) (by decide) (fun K hK => ?_)
   refine goes_ Try.func54 (by kernel_rfl) rfl #[.pointer (some ⟨g, 0, none⟩)] (by rfl) rfl rfl (by (try simp only [List.map_toArray, List.map_cons, List.map_nil]); first | rfl) ?_
   with_reducible refine (ih k1 (by have := HK1.out; omega) g t292 t293 t294 t295 t296 t297 t300 t301 t302 w0 _ ?side1 ?side2 A77.out).mono ?_
   (case side1 => exact HI0.out)
   (case side2 => exact HB.out)
   rintro e w81 ⟨v298, rfl, ho0, hi, hb, hk⟩
   refine ⟨_, rfl, ?_⟩
   have n0_ := Aside0.mk (Kd.N_mono (Kd.N_told (Kd.N_oldK (Kd.N_mono (ok := fun k_ => (((w.heap.size ≤ k_)) ∧ (k_ ≠ gb239 ∧ (k_ ≠ gb290 ∧ k_ ≠ g)))) HO_291002.out (fun k_ hk_ => (⟨hk_, hk_.2.2.2⟩ : _ ∧ k_ ≠ g))) hk) (Kd.N_base ho0)) (fun _ h_ => h_.1))
   have n1_ := Aside0.mk (KeepBut.blk hk (g' := gb239) (o := .cells #[.string (⟨#[]⟩ : ByteArray), .string (⟨#[]⟩ : ByteArray), .slice none 0 0] 52 (0, 0)) BK239.out NB239_0.out (by simp))
   have n2_ := Aside0.mk (KeepBut.blk hk (g' := gb290) (o := .cells #[.string (⟨#[111, 114]⟩ : ByteArray), .string (⟨#[]⟩ : ByteArray), u291002] 52 (0, 0)) BK290.out NB290_0.out (by simp))
   have n3_ := Aside0.mk (Kd.N_lower (Kd.N_mono (ok' := fun k_ => (w.heap.size ≤ k_) ∧ some k_ ≠ (u291002 : Value).ownBlock ∧ k_ ≠ gb239 ∧ k_ ≠ gb290 ∧ k_ ≠ g) ho0 (fun k_ hk_ => ⟨(Nat.le_trans (keep_size (w := w) (g := g) (row := none) HK.out) hk_), (Kd.fresh' (Kd.N_lt HO_291002.out) k_ hk_), (Kd.freshB (g := gb239) (o := .cells #[.string (⟨#[]⟩ : ByteArray), .string (⟨#[]⟩ : ByteArray), .slice none 0 0] 52 (0, 0)) BK239.out k_ hk_), (Kd.freshB (g := gb290) (o := .cells #[.string (⟨#[111, 114]⟩ : ByteArray), .string (⟨#[]⟩ : ByteArray), u291002] 52 (0, 0)) BK290.out k_ hk_), (IsS99.fresh HI0.out k_ hk_)⟩)) (keep_size (w := w) (g := g) (row := none) HK.out))
   have n4_ := Aside0.mk (KeepBut.trans HK.out hk (.inl rfl))
   have n5_ := Aside0.mk (hb)
   have n6_ := Aside0.mk (hi)
   clear HO_291002
   clear BK239
   clear BK290
   clear HK
   clear HB
   clear HI0
   have HO_291002 := n0_
   have BK239 := n1_
   have BK290 := n2_
   have HO299 := n3_
   have HK := n4_
   have HB := n5_
   have HI0 := n6_
   clear n0_ n1_ n2_ n3_ n4_ n5_ n6_
   (try clear hb)
   skip
   (try clear hk)
   (try clear hi)
   (try clear ho0)
   obtain ⟨Ao83, co83, eo83⟩ := Kd.N_slice HO299.out
   (first | subst eo83)
   refine hK.out _ _ ⟨(blk_cell BK290.out 0).trans rfl, (blk_cell BK290.out 1).trans rfl, (blk_cell BK290.out 2).trans rfl⟩ (fun hHeld => ?_)
   clear hK K
   refine norm_ (a' := ?_) ?_ ?_
   rotate_left
   · show Act.put _ (some 48) _ = _
     simp only [Act.put, List.setIfInBounds_toArray, List.set_cons_zero, List.set_cons_succ, i64_w, i32_w]
     rfl
   refine one_ (i := 4) (N := some 49) #[T,T,T,T,T,F,F,F] rfl rfl (one_of HT_.out (by kernel_rfl)) (by decide) (fun K hK => ?_)
   refine value_ (w1 := ?_) (v := ?_) (by rfl) rfl ?_ ?_
   rotate_left 2
   · go_simp
     constructor
     · rfl
     · rfl
   refine hK.out _ _ ⟨(blk_cell (blk_alloc BK290.out _) 0).trans rfl, (blk_cell (blk_alloc BK290.out _) 1).trans rfl, (blk_cell (blk_alloc BK290.out _) 2).trans rfl⟩ (fun hHeld => ?_)
   clear hK K
   refine norm_ (a' := ?_) ?_ ?_
   rotate_left
   · show Act.put _ (some 49) _ = _
     simp only [Act.put, List.setIfInBounds_toArray, List.set_cons_zero, List.set_cons_succ, i64_w, i32_w]
     rfl
   refine one_ (i := 5) (N := some 50) #[T,T,T,T,T,T,F,F] rfl rfl (one_of HT_.out (by kernel_rfl)) (by decide) (fun K hK => ?_)
   refine Kd.N_append_step k52 w.heap.size (by rfl) (.tmp 46) (.tmp 49) 50 52 (.agg #[(.string ⟨#[]⟩), (.string ⟨#[]⟩), (.slice none 0 0)]) 56 rfl Try.underlying50 info52 rfl (by decide) (by omega) u291002 x291002_1 (⟨t295, t296, t297⟩ : S52) [.string t295, .string t296, .slice Ao83 t297.length co83] (fun k_ => (w.heap.size ≤ k_) ∧ k_ ≠ gb239 ∧ k_ ≠ gb290 ∧ k_ ≠ g) (fun k_ => ((fun k_ => (w.heap.size ≤ k_) ∧ k_ ≠ gb239 ∧ k_ ≠ gb290 ∧ k_ ≠ g)) k_ ∧ some k_ ≠ (u291002 : Value).ownBlock) rfl rfl ?aP (fun _ hk => hk) ?aF ?aO (Below.refl _ _) ?aS ?aL ?_
   (case aP => exact (k52_mkF _ _ (⟨t295, t296, t297⟩ : S52) (Kd.N_reads' (Kd.N_mono (ok' := (fun k_ => ((fun k_ => (w.heap.size ≤ k_) ∧ k_ ≠ gb239 ∧ k_ ≠ gb290 ∧ k_ ≠ g)) k_ ∧ some k_ ≠ (u291002 : Value).ownBlock)) (HO299.out) (fun k_ hk => ⟨⟨hk.1, ⟨hk.2.2.1, ⟨hk.2.2.2.1, hk.2.2.2.2⟩⟩⟩, hk.2.1⟩))).2.1 (Kd.N_F (Kd.N_mono (ok' := (fun k_ => ((fun k_ => (w.heap.size ≤ k_) ∧ k_ ≠ gb239 ∧ k_ ≠ gb290 ∧ k_ ≠ g)) k_ ∧ some k_ ≠ (u291002 : Value).ownBlock)) (HO299.out) (fun k_ hk => ⟨⟨hk.1, ⟨hk.2.2.1, ⟨hk.2.2.2.1, hk.2.2.2.2⟩⟩⟩, hk.2.1⟩)))))
   (case aF => exact (fun k_ hk => ⟨(Nat.le_trans (keep_size (w := w) (g := g) (row := none) HK.out) hk), Kd.freshB (g := gb239) (o := .cells #[.string (⟨#[]⟩ : ByteArray), .string (⟨#[]⟩ : ByteArray), .slice none 0 0] 52 (0, 0)) BK239.out k_ hk, Kd.freshB (g := gb290) (o := .cells #[.string (⟨#[111, 114]⟩ : ByteArray), .string (⟨#[]⟩ : ByteArray), u291002] 52 (0, 0)) BK290.out k_ hk, IsS99.fresh HI0.out k_ hk⟩))
   (case aO => exact (by (with_reducible repeat (first | fail)); exact Kd.N_mono HO_291002.out (fun _ hk => ⟨hk.1.1, ⟨hk.1.2.1, ⟨hk.1.2.2.1, hk.1.2.2.2⟩⟩⟩)))
   (case aS => exact (keep_size (w := w) (g := g) (row := none) HK.out))
   (case aL => have := LMc78.out; omega)
   intro v304 w82 ho hb hg hat
   rw [← Ny303.out] at ho
   have n0_ := Aside0.mk (blk_grown (g := gb239) (o := .cells #[.string (⟨#[]⟩ : ByteArray), .string (⟨#[]⟩ : ByteArray), .slice none 0 0] 52 (0, 0)) BK239.out hg (Kd.N_away HO_291002.out (fun _ hk => hk.1.2.1)))
   have n1_ := Aside0.mk (blk_grown (g := gb290) (o := .cells #[.string (⟨#[111, 114]⟩ : ByteArray), .string (⟨#[]⟩ : ByteArray), u291002] 52 (0, 0)) BK290.out hg (Kd.N_away HO_291002.out (fun _ hk => hk.1.2.2.1)))
   have n2_ := Aside0.mk (IsS99.grown HI0.out hg (IsS99.own_neN HI0.out HO_291002.out (by decide)))
   have n3_ := Aside0.mk (below_weaken HB.out HL.out hb)
   have n4_ := Aside0.mk (KeepBut.trans HK.out (KeepBut.of_grown hg g) (Kd.N_base2 HO_291002.out))
   have n5_ := Aside0.mk (ho)
   clear BK239
   clear BK290
   clear HI0
   clear HB
   clear HK
   clear HO_291002
   clear HO299
   have BK239 := n0_
   have BK290 := n1_
   have HI0 := n2_
   have HB := n3_
   have HK := n4_
   have HO305 := n5_
   clear n0_ n1_ n2_ n3_ n4_ n5_
   clear ho hb hg hat
   obtain ⟨Ao84, co84, eo84⟩ := Kd.N_slice HO305.out
   (first | subst eo84)
   refine hK.out _ _ ⟨(blk_cell BK290.out 0).trans rfl, (blk_cell BK290.out 1).trans rfl, (blk_cell BK290.out 2).trans rfl⟩ (fun hHeld => ?_)
   clear hK K
   refine norm_ (a' := ?_) ?_ ?_
   rotate_left
   · show Act.put _ (some 50) _ = _
     simp only [Act.put, List.setIfInBounds_toArray, List.set_cons_zero, List.set_cons_succ, i64_w, i32_w]
     rfl
   refine pure_ (i := 6) (N := some 51) (v := ?_) (a' := ?_) #[T,T,T,T,T,T,T,F] rfl rfl (any_of HT_.out (by kernel_rfl)) (fun _ _ _ h => h) (Or.inl ⟨by rfl, ?_⟩) ?_ ?_
   rotate_left
   · intro w'
     go_simp
     with_reducible rfl
   rotate_left
   · simp only [Act.put, List.setIfInBounds_toArray, List.set_cons_zero, List.set_cons_succ, i64_w, i32_w]
     rfl
   refine last_ (i := 7) (N := none) #[T,T,T,T,T,T,T,T] rfl rfl (one_of HT_.out (by kernel_rfl)) (by decide) (fun K hK => ?_)
   have hs85 : w82.cell? ⟨gb290, 2, none⟩ = some (u291002) := (blk_cell BK290.out 2).trans rfl
   have hfs85 := blk_frozen BK290.out 2
   have hns85_0 := NB239_290.out
   have hms85_0 := NB290_239.out
   refine skip_ (w1 := ?_) (by rfl) rfl ?_ ?_
   rotate_left
   · go_simp
     rfl
   refine hK.out _ _ ?_
   clear hK K
   refine done_ (done_of HT_.out (by kernel_rfl)) ?_
   try go_wp2
   go_roundg k1
   case measure => have := HK1.out; omega
   case rel => exact ⟨(t300), (t301), (t302), (y303), (.slice Ao84 y303.length co84), H', ⟨by have := HK1.out; omega⟩, ⟨by (with_reducible repeat (first | fail)); exact Kd.N_mono (Kd.N_far (p := ⟨gb290, 2, none⟩) (Kd.N_mono HO305.out (fun k_ hk => (⟨hk, hk.2.2.1⟩ : _ ∧ k_ ≠ gb290))) (fun _ hk => hk.2) (.slice Ao84 y303.length co84)) (fun _ hk => ⟨hk.1.1, ⟨hk.1.2.1, ⟨hk.1.2.2.1, hk.1.2.2.2⟩⟩⟩)⟩, ⟨by (with_reducible repeat (first | fail)); refine blk_far ?_ NB239_290.out _; (with_reducible repeat (first | fail)); exact BK239.out⟩, ⟨by (with_reducible repeat (first | fail)); refine blk_put (cs := #[.string (⟨#[111, 114]⟩ : ByteArray), .string (⟨#[]⟩ : ByteArray), u291002]) ?_ 2 _ rfl; (with_reducible repeat (first | fail)); exact BK290.out⟩, ⟨by repeat ((with_reducible first | exact HI0.out | refine IsS99.far ?_ NB0_290.out _))⟩, ⟨by repeat ((with_reducible first | exact HK.out | refine keep_far ?_ GW290.out _))⟩, ⟨by repeat ((with_reducible first | exact HB.out | refine below_set ?_ GE290.out))⟩⟩
end Go.Proofs.Ytcnllhnhinmokaa.PHGr
end
section
namespace Go.Proofs.Ytcnllhnhinmokaa.PHGr
open Go.StrMap Go.RowKit Go.Proofs.YtcnllhnhinmokaaW.PrintWords Go.Proofs.YtcnllhnhinmokaaW.PrintLast Go.Proofs.YtcnllhnhinmokaaW.PrintMore
attribute [local go_sem] max2_int min2_int max_two min_two max_three min_three max_four min_four
set_option linter.unusedVariables false
set_option linter.unusedSimpArgs false
def grammar_Read.l0 : Nat → ByteArray → List S54 → ByteArray → Int → Bool → Option (List S54 × ByteArray × Int × Bool)
 | 0, _, _, _, _, _ => none
 | k + 1, s, g, x0, x1, x2 => if x1 < (s.size : Int) then (if x2 = true then some (g, x0, x1, x2) else
  ((grammar_reader_name.f k x0 x1 x2).bind fun t => ((grammar_reader_must.f t.2.1 t.2.2.1 t.2.2.2 (⟨#[32, 61, 32]⟩ : ByteArray)).bind fun m => ((grammar_reader_body.f k m.1 m.2.1 m.2.2).bind fun b =>
   (if g.length < 1954687338268 then ((grammar_reader_must.f b.2.2.2.1 b.2.2.2.2.1 b.2.2.2.2.2 (⟨#[32, 59, 10]⟩ : ByteArray)).bind fun n => grammar_Read.l0 k s (g ++ [(⟨t.1, ⟨b.1, b.2.1, b.2.2.1⟩⟩ : S54)]) n.1 n.2.1 n.2.2) else none)))))
  else some (g, x0, x1, x2)
def grammar_Read.f (k : Nat) (s : ByteArray) : Option (List S54 × Int) :=
 (grammar_Read.l0 k s [] s 0 false).bind fun r => if r.2.2.2 = true then some ([], 3) else
  ((grammar_Text.f k r.1).bind fun t => if t.2 = 0 then (if t.1.toList = s.toList then some (r.1, 0) else some ([], 3)) else some ([], 3))
theorem info54 : (Try.prog.info? 54).map (fun i => (i.zero, i.size, i.bytes)) = some (some (.agg #[(.string ⟨#[]⟩), (.string ⟨#[]⟩), (.string ⟨#[]⟩), (.slice none 0 0)]), 4, 72) := by kernel_rfl
set_option maxHeartbeats 8000000 in
set_option maxRecDepth 100000 in
theorem grammar_Read.calls (k : Nat) (s : ByteArray) (r1 : List S54) (r2 : Int) (w : World) (h : grammar_Read.f k s = some (r1, r2)) :
 Calls Try.prog 27 #[.string s] w fun e w' => ∃ v, e = .returned (.tuple #[.agg #[v], .int .i64 r2]) ∧ Kd.N k54 54 w' w.heap.size (fun _ => True) v r1 ∧ Below w.heap.size w w' := by
 have hu24 := Try.underlying24
 have hu54 := Try.underlying54
 have hu52 := Try.underlying52
 have hu99 := Try.underlying99
 have HB := Aside0.mk (Below.refl w.heap.size w)
 unfold grammar_Read.f at h
 obtain ⟨⟨q1, q2, q3, q4⟩, hL, hR⟩ := Option.bind_eq_some_iff.mp h
 have HL := Aside0.mk hL
 have HR := Aside0.mk hR
 clear h hL hR
 go_enter Try.func27, Try.ntmps27
 go_wp2_with (first | ((with_reducible refine gate_dst (N := 2) rfl ?_); (try (refine gate_guard (by rfl) ?_; dsimp only)); refine box_event ?hg (N := 2) ?hd (cs := #[.slice none 0 0]) (t := 24) ?hr ?_; (case hd => rfl); (case hg => rfl); (case hr => (go_simp; done)); intro gr hg w3 hbox hb; have n0_ := Aside0.mk (below_step HB.out hb); have n1_ := Aside0.mk ((by rw [hg]; exact (below_size HB.out)) : w.heap.size ≤ gr); clear HB; have HB := n0_; have GR := n1_; have BR := Aside0.mk hbox; clear n0_ n1_ hb hbox hg) | ((with_reducible refine gate_dst (N := 11) rfl ?_); (try (refine gate_guard (by rfl) ?_; dsimp only)); refine box_event ?hg (N := 11) ?hd (cs := #[.string s, .int .i64 0, .bool false]) (t := 99) ?hr ?_; (case hd => rfl); (case hg => rfl); (case hr => (go_simp; done)); intro gs hg w4 hbox hb; have n0_ := Aside0.mk (below_step HB.out hb); have n1_ := Aside0.mk ((by rw [hg]; exact (below_size HB.out)) : w.heap.size ≤ gs); have n2_ := Aside0.mk (blk_below BR.out hb); have n3_ := Aside0.mk ((by rw [hg]; exact Nat.ne_of_lt (blk_lt BR.out)) : gr ≠ gs); clear HB BR; have HB := n0_; have GS := n1_; have BR := n2_; have N1 := n3_; have HI := Aside0.mk ((⟨hbox, n1_.out⟩ : IsS99 w w4 gs s 0 false)); clear n0_ n1_ n2_ n3_ hb hbox hg) | ((with_reducible refine gate_dst (N := 5) rfl ?_); (try (refine gate_guard (by rfl) ?_; dsimp only)); refine box_event ?hg (N := 5) ?hd (cs := #[.slice none 0 0]) (t := 24) ?hr ?_; (case hd => rfl); (case hg => rfl); (case hr => (go_simp; done)); intro gg hg w5 hbox hb; have n0_ := Aside0.mk (below_step HB.out hb); have n1_ := Aside0.mk ((by rw [hg]; exact (below_size HB.out)) : w.heap.size ≤ gg); have n2_ := Aside0.mk (blk_below BR.out hb); have n3_ := Aside0.mk ((by rw [hg]; exact Nat.ne_of_lt (blk_lt BR.out)) : gr ≠ gg); have n4_ := Aside0.mk (IsS99.below HI.out hb); have n5_ := Aside0.mk ((by rw [hg]; exact Nat.ne_of_lt (blk_lt HI.out.1)) : gs ≠ gg); clear HB BR HI; have HB := n0_; have GG := n1_; have BR := n2_; have N2 := n3_; have HI := n4_; have N3 := n5_; have BG := Aside0.mk hbox; clear n0_ n1_ n2_ n3_ n4_ n5_ hb hbox hg))
 go_loopg [] k (fun kq w' => ∃ (x0 : ByteArray) (x1 : Int) (x2 : Bool) (gl : List S54) (u : Value), Aside0 (grammar_Read.l0 kq s gl x0 x1 x2 = some (q1, q2, q3, q4)) ∧ Aside0 (kq ≤ k) ∧ Aside0 (Kd.N k54 54 w' w.heap.size (fun k_ => (w.heap.size ≤ k_) ∧ k_ ≠ gr ∧ k_ ≠ gs ∧ k_ ≠ gg) u gl) ∧ Aside0 (w'.heap[gr]? = some (.cells #[.slice none 0 0] 24 (0, 0))) ∧ Aside0 (w'.heap[gg]? = some (.cells #[u] 24 (0, 0))) ∧ Aside0 (IsS99 w w' gs x0 x1 x2) ∧ Aside0 (Below w.heap.size w w'))
 case atStart => exact ⟨s, 0, false, [], .slice none 0 0, HL, ⟨Nat.le_refl _⟩, ⟨Kd.N_nil _ _ _ _ _⟩, BR, BG, HI, HB⟩
 case round =>
  clear HL BR BG HI HB
  obtain ⟨x0, x1, x2, gl, u, HA, HK1, HO, BR, BG, HI, HB⟩ := hrel
  cases gk with
  | zero => exact absurd HA.out (by simp [grammar_Read.l0])
  | succ k1 =>
   have H := HA.out
   clear HA
   simp only [grammar_Read.l0] at H
   have hc0 : wr.cell? ⟨gs, 0, none⟩ = some (.string x0) := (blk_cell HI.out.1 0).trans rfl
   have hc1 : wr.cell? ⟨gs, 1, none⟩ = some (.int .i64 x1) := (blk_cell HI.out.1 1).trans rfl
   have hc2 : wr.cell? ⟨gs, 2, none⟩ = some (.bool x2) := (blk_cell HI.out.1 2).trans rfl
   have hcr : wr.cell? ⟨gr, 0, none⟩ = some (.slice none 0 0) := (blk_cell BR.out 0).trans rfl
   have hfr := blk_frozen BR.out 0
   have hcg : wr.cell? ⟨gg, 0, none⟩ = some u := (blk_cell BG.out 0).trans rfl
   by_cases c1 : x1 < (s.size : Int)
   rotate_left
   · rw [if_neg c1] at H
     have c1b := decide_eq_false c1
     clear c1
     cases x2 with
     | true =>
      simp only [Option.some.injEq, Prod.mk.injEq] at H
      obtain ⟨rfl, rfl, rfl, rfl⟩ := H
      have hR := HR.out
      rw [if_pos rfl] at hR
      simp only [Option.some.injEq, Prod.mk.injEq] at hR
      obtain ⟨rfl, rfl⟩ := hR
      clear HR
      go_wp2
      refine bodyPost_ret (results_ct rfl _ _ gr 24 #[.slice none 0 0] (0, 0) _ rfl (blk_put BR.out 0 _ rfl) Try.underlying24 rfl (by kernel_rfl)) rfl ?_
      exact ⟨.slice none 0 0, rfl, Kd.N_nil _ _ _ _ _, below_set HB.out GR.out⟩
     | false =>
      simp only [Option.some.injEq, Prod.mk.injEq] at H
      obtain ⟨rfl, rfl, rfl, rfl⟩ := H
      have hR := HR.out
      rw [if_neg (by decide)] at hR
      obtain ⟨⟨t1, t2⟩, hT, hR⟩ := Option.bind_eq_some_iff.mp hR
      have AT := Aside0.mk hT
      clear hT HR
      simp only at hR
      obtain ⟨Au, cu, rfl⟩ := Kd.N_slice HO.out
      by_cases c2 : t2 = 0
      rotate_left
      · rw [if_neg c2] at hR
        have c2b := beq_eq_false_iff_ne.mpr c2
        have c2c := bne_iff_ne.mpr c2
        clear c2
        simp only [Option.some.injEq, Prod.mk.injEq] at hR
        obtain ⟨rfl, rfl⟩ := hR
        go_wp2_with (((with_reducible refine gate_callee (f := 25) rfl ?_); refine goesL_ (some 48) rfl rfl Try.func25 (by kernel_rfl) rfl #[.agg #[.slice Au gl.length cu]] rfl (by (try simp only [List.map_toArray, List.map_cons, List.map_nil]); first | rfl) ?_; (with_reducible refine (grammar_Text.calls k Au cu gl t1 t2 _ ?side1 ?side2 AT.out).mono ?_); (case side1 => exact (Kd.N_reads' HO.out).2.2); (case side2 => exact (Kd.N_reads' HO.out).2.1); rintro e w6 ⟨rfl, hb⟩; refine ⟨_, rfl, ?_⟩; have n0_ := Aside0.mk (Kd.N_below HO.out hb); have n1_ := Aside0.mk (blk_below BR.out hb); have n2_ := Aside0.mk (blk_below BG.out hb); have n3_ := Aside0.mk (below_step HB.out hb); clear HO BR BG HB hb; have HO := n0_; have BR := n1_; have BG := n2_; have HB := n3_; clear n0_ n1_ n2_ n3_; have hdr : w6.cell? ⟨gr, 0, none⟩ = some (.slice none 0 0) := (blk_cell BR.out 0).trans rfl; have hdf := blk_frozen BR.out 0; have hdg : w6.cell? ⟨gg, 0, none⟩ = some (.slice Au gl.length cu) := (blk_cell BG.out 0).trans rfl))
        refine bodyPost_ret (results_ct rfl _ _ gr 24 #[.slice none 0 0] (0, 0) _ rfl (blk_put BR.out 0 _ rfl) Try.underlying24 rfl (by kernel_rfl)) rfl ?_
        exact ⟨.slice none 0 0, rfl, Kd.N_nil _ _ _ _ _, below_set HB.out GR.out⟩
      subst c2
      rw [if_pos rfl] at hR
      by_cases c3 : t1.toList = s.toList
      rotate_left
      · rw [if_neg c3] at hR
        have c3b := beq_eq_false_iff_ne.mpr c3
        have c3c := bne_iff_ne.mpr c3
        clear c3
        simp only [Option.some.injEq, Prod.mk.injEq] at hR
        obtain ⟨rfl, rfl⟩ := hR
        go_wp2_with (((with_reducible refine gate_callee (f := 25) rfl ?_); refine goesL_ (some 48) rfl rfl Try.func25 (by kernel_rfl) rfl #[.agg #[.slice Au gl.length cu]] rfl (by (try simp only [List.map_toArray, List.map_cons, List.map_nil]); first | rfl) ?_; (with_reducible refine (grammar_Text.calls k Au cu gl t1 0 _ ?side1 ?side2 AT.out).mono ?_); (case side1 => exact (Kd.N_reads' HO.out).2.2); (case side2 => exact (Kd.N_reads' HO.out).2.1); rintro e w6 ⟨rfl, hb⟩; refine ⟨_, rfl, ?_⟩; have n0_ := Aside0.mk (Kd.N_below HO.out hb); have n1_ := Aside0.mk (blk_below BR.out hb); have n2_ := Aside0.mk (blk_below BG.out hb); have n3_ := Aside0.mk (below_step HB.out hb); clear HO BR BG HB hb; have HO := n0_; have BR := n1_; have BG := n2_; have HB := n3_; clear n0_ n1_ n2_ n3_; have hdr : w6.cell? ⟨gr, 0, none⟩ = some (.slice none 0 0) := (blk_cell BR.out 0).trans rfl; have hdf := blk_frozen BR.out 0; have hdg : w6.cell? ⟨gg, 0, none⟩ = some (.slice Au gl.length cu) := (blk_cell BG.out 0).trans rfl))
        refine bodyPost_ret (results_ct rfl _ _ gr 24 #[.slice none 0 0] (0, 0) _ rfl (blk_put BR.out 0 _ rfl) Try.underlying24 rfl (by kernel_rfl)) rfl ?_
        exact ⟨.slice none 0 0, rfl, Kd.N_nil _ _ _ _ _, below_set HB.out GR.out⟩
      rw [if_pos c3] at hR
      have c3b := beq_iff_eq.mpr c3
      have c3c := bne_eq_false_iff_eq.mpr c3
      clear c3
      simp only [Option.some.injEq, Prod.mk.injEq] at hR
      obtain ⟨rfl, rfl⟩ := hR
      go_wp2_with (((with_reducible refine gate_callee (f := 25) rfl ?_); refine goesL_ (some 48) rfl rfl Try.func25 (by kernel_rfl) rfl #[.agg #[.slice Au gl.length cu]] rfl (by (try simp only [List.map_toArray, List.map_cons, List.map_nil]); first | rfl) ?_; (with_reducible refine (grammar_Text.calls k Au cu gl t1 0 _ ?side1 ?side2 AT.out).mono ?_); (case side1 => exact (Kd.N_reads' HO.out).2.2); (case side2 => exact (Kd.N_reads' HO.out).2.1); rintro e w6 ⟨rfl, hb⟩; refine ⟨_, rfl, ?_⟩; have n0_ := Aside0.mk (Kd.N_below HO.out hb); have n1_ := Aside0.mk (blk_below BR.out hb); have n2_ := Aside0.mk (blk_below BG.out hb); have n3_ := Aside0.mk (below_step HB.out hb); clear HO BR BG HB hb; have HO := n0_; have BR := n1_; have BG := n2_; have HB := n3_; clear n0_ n1_ n2_ n3_; have hdr : w6.cell? ⟨gr, 0, none⟩ = some (.slice none 0 0) := (blk_cell BR.out 0).trans rfl; have hdf := blk_frozen BR.out 0; have hdg : w6.cell? ⟨gg, 0, none⟩ = some (.slice Au gl.length cu) := (blk_cell BG.out 0).trans rfl))
      refine bodyPost_ret (results_ct rfl _ _ gr 24 #[.slice Au gl.length cu] (0, 0) _ rfl (blk_put BR.out 0 _ rfl) Try.underlying24 rfl (by kernel_rfl)) rfl ?_
      exact ⟨_, rfl, Kd.N_mono (Kd.N_far (p := ⟨gr, 0, none⟩) HO.out (fun k_ hk => hk.2.1) _) (fun _ _ => trivial), below_set HB.out GR.out⟩
   rw [if_pos c1] at H
   have c1b := decide_eq_true c1
   clear c1
   cases x2 with
   | true =>
    rw [if_pos rfl] at H
    simp only [Option.some.injEq, Prod.mk.injEq] at H
    obtain ⟨rfl, rfl, rfl, rfl⟩ := H
    have hR := HR.out
    rw [if_pos rfl] at hR
    simp only [Option.some.injEq, Prod.mk.injEq] at hR
    obtain ⟨rfl, rfl⟩ := hR
    clear HR
    go_wp2
    refine bodyPost_ret (results_ct rfl _ _ gr 24 #[.slice none 0 0] (0, 0) _ rfl (blk_put BR.out 0 _ rfl) Try.underlying24 rfl (by kernel_rfl)) rfl ?_
    exact ⟨.slice none 0 0, rfl, Kd.N_nil _ _ _ _ _, below_set HB.out GR.out⟩
   | false =>
    rw [if_neg (by decide)] at H
    obtain ⟨⟨t1, t2, t3, t4⟩, hA1, H⟩ := Option.bind_eq_some_iff.mp H
    simp only at H
    obtain ⟨⟨m1, m2, m3⟩, hA2, H⟩ := Option.bind_eq_some_iff.mp H
    simp only at H
    obtain ⟨⟨b1, b2, b3, b4, b5, b6⟩, hA3, H⟩ := Option.bind_eq_some_iff.mp H
    simp only at H
    obtain ⟨cl, H⟩ := gd H
    obtain ⟨⟨n1, n2, n3⟩, hA4, H⟩ := Option.bind_eq_some_iff.mp H
    simp only at H
    have A1 := Aside0.mk hA1
    have A2 := Aside0.mk hA2
    have A3 := Aside0.mk hA3
    have A4 := Aside0.mk hA4
    have CL := Aside0.mk cl
    have HX := Aside0.mk H
    clear hA1 hA2 hA3 hA4 cl H
    go_wp2_with (first | ((with_reducible refine gate_callee (f := 52) rfl ?_); refine goesL_ (some 27) rfl rfl Try.func52 (by kernel_rfl) rfl #[.pointer (some ⟨gs, 0, none⟩)] rfl (by (try simp only [List.map_toArray, List.map_cons, List.map_nil]); first | rfl) ?_; (with_reducible refine (grammar_reader_name.calls k1 gs x0 x1 false t1 t2 t3 t4 w _ ?side1 ?side2 A1.out).mono ?_); (case side1 => exact HI.out); (case side2 => exact HB.out); rintro e w7 ⟨rfl, hi, hb, hk⟩; refine ⟨_, rfl, ?_⟩; have n0_ := Aside0.mk (Kd.N_keep HO.out hk (fun _ hk_ => hk_.2.2.1)); have n1_ := Aside0.mk (KeepBut.blk hk BR.out N1.out (by simp)); have n2_ := Aside0.mk (KeepBut.blk hk BG.out (Ne.symm N3.out) (by simp)); have n3_ := Aside0.mk hb; have n4_ := Aside0.mk hi; clear HO BR BG HB HI hi hb hk; have HO := n0_; have BR := n1_; have BG := n2_; have HB := n3_; have HI := n4_; clear n0_ n1_ n2_ n3_ n4_) | ((with_reducible refine gate_callee (f := 53) rfl ?_); refine goesL_ (some 29) rfl rfl Try.func53 (by kernel_rfl) rfl #[.pointer (some ⟨gs, 0, none⟩), .string (⟨#[32, 61, 32]⟩ : ByteArray)] rfl (by (try simp only [List.map_toArray, List.map_cons, List.map_nil]); first | rfl) ?_; (with_reducible refine (grammar_reader_must.calls gs t2 t3 t4 (⟨#[32, 61, 32]⟩ : ByteArray) m1 m2 m3 w _ ?side1 ?side2 A2.out).mono ?_); (case side1 => exact HI.out); (case side2 => exact HB.out); rintro e w7 ⟨rfl, hi, hb, hk⟩; refine ⟨_, rfl, ?_⟩; have n0_ := Aside0.mk (Kd.N_keep HO.out hk (fun _ hk_ => hk_.2.2.1)); have n1_ := Aside0.mk (KeepBut.blk hk BR.out N1.out (by simp)); have n2_ := Aside0.mk (KeepBut.blk hk BG.out (Ne.symm N3.out) (by simp)); have n3_ := Aside0.mk hb; have n4_ := Aside0.mk hi; clear HO BR BG HB HI hi hb hk; have HO := n0_; have BR := n1_; have BG := n2_; have HB := n3_; have HI := n4_; clear n0_ n1_ n2_ n3_ n4_))
    obtain ⟨Au, cu, rfl⟩ := Kd.N_slice HO.out
    have n0_ := Aside0.mk (Kd.N_drew HO.out)
    have n1_ := Aside0.mk (blk_drew BR.out)
    have n2_ := Aside0.mk (blk_drew BG.out)
    have n3_ := Aside0.mk (IsS99.drew HI.out)
    have n4_ := Aside0.mk (below_drew1 HB.out)
    clear HO BR BG HI HB
    have HO := n0_
    have BR := n1_
    have BG := n2_
    have HI := n3_
    have HB := n4_
    clear n0_ n1_ n2_ n3_ n4_
    refine start_ (n := 10) (S := fun w' => w'.cell? ⟨gg, 0, none⟩ = some (.slice Au gl.length cu)) (ds := [9]) #[F,F,F,F,F,F,F,F,F,F] (by kernel_rfl) rfl rfl ((blk_cell BG.out 0).trans rfl) (fun hHeld => ?_)
    generalize World.drew _ = w10 at HO BR BG HI HB hHeld ⊢
    refine pure_ (i := 0) (N := some 30) (v := ?_) (a' := ?_) #[T,F,F,F,F,F,F,F,F,F] rfl rfl (by kernel_rfl) (fun _ _ _ h => h) (Or.inl ⟨by rfl, ?_⟩) ?_ ?_
    rotate_left
    · intro w'
      go_simp
      with_reducible rfl
    rotate_left
    · simp only [Act.put, List.setIfInBounds_toArray, List.set_cons_zero, List.set_cons_succ, i64_w, i32_w]
      rfl
    refine pure_ (i := 2) (N := some 32) (v := ?_) (a' := ?_) #[T,F,T,F,F,F,F,F,F,F] rfl rfl (by kernel_rfl) (fun _ _ _ h => h) (Or.inl ⟨by rfl, ?_⟩) ?_ ?_
    rotate_left
    · intro w'
      go_simp
      with_reducible rfl
    rotate_left
    · simp only [Act.put, List.setIfInBounds_toArray, List.set_cons_zero, List.set_cons_succ, i64_w, i32_w]
      rfl
    refine pure_ (i := 3) (N := some 33) (v := ?_) (a' := ?_) #[T,F,T,T,F,F,F,F,F,F] rfl rfl (by kernel_rfl) (fun _ _ _ h => h) (Or.inl ⟨by rfl, ?_⟩) ?_ ?_
    rotate_left
    · intro w'
      go_simp
      with_reducible rfl
    rotate_left
    · simp only [Act.put, List.setIfInBounds_toArray, List.set_cons_zero, List.set_cons_succ, i64_w, i32_w]
      rfl
    refine take_ (i := 1) (N := some 31) (v := ?_) (a' := ?_) #[T,T,T,T,F,F,F,F,F,F] rfl rfl (by kernel_rfl) (fun _ _ _ h => h) (Or.inl ⟨by rfl, ?_⟩) hHeld ?_ ?_
    rotate_left
    · rintro w' s0
      go_simp
      with_reducible rfl
    rotate_left
    · simp only [Act.put, List.setIfInBounds_toArray, List.set_cons_zero, List.set_cons_succ, i64_w, i32_w]
      rfl
    refine one_ (i := 4) (N := some 34) #[T,T,T,T,T,F,F,F,F,F] rfl rfl (by kernel_rfl) (by decide) (fun K hK => ?_)
    refine goes_ Try.func54 (by kernel_rfl) rfl #[.pointer (some ⟨gs, 0, none⟩)] (by rfl) rfl rfl (by (try simp only [List.map_toArray, List.map_cons, List.map_nil]); first | rfl) ?_
    with_reducible refine (grammar_reader_body.calls k1 gs m1 m2 m3 b1 b2 b3 b4 b5 b6 w _ HI.out HB.out A3.out).mono ?_
    rintro e w81 ⟨vb, rfl, ho0, hi, hb, hk⟩
    refine ⟨_, rfl, ?_⟩
    have n0_ := Aside0.mk (Kd.N_mono (Kd.N_told (Kd.N_oldK (Kd.N_mono (ok := (fun k_ => (w.heap.size ≤ k_) ∧ k_ ≠ gr ∧ k_ ≠ gs ∧ k_ ≠ gg)) HO.out (fun k_ hk_ => (⟨hk_, hk_.2.2.1⟩ : _ ∧ k_ ≠ gs))) hk) (Kd.N_base ho0)) (fun _ h_ => h_.1))
    have n1_ := Aside0.mk (KeepBut.blk hk BR.out N1.out (by simp))
    have n2_ := Aside0.mk (KeepBut.blk hk BG.out (Ne.symm N3.out) (by simp))
    have n3_ := Aside0.mk (Kd.N_lower (Kd.N_mono (ok' := fun k_ => (w.heap.size ≤ k_) ∧ some k_ ≠ (Value.slice Au gl.length cu).ownBlock ∧ k_ ≠ gr ∧ k_ ≠ gs ∧ k_ ≠ gg) ho0 (fun k_ hk_ => ⟨Nat.le_trans HB.out.size hk_, Kd.fresh' (Kd.N_lt HO.out) k_ hk_, Kd.freshB (g := gr) BR.out k_ hk_, IsS99.fresh HI.out k_ hk_, Kd.freshB (g := gg) BG.out k_ hk_⟩)) HB.out.size)
    have n4_ := Aside0.mk hi
    have n5_ := Aside0.mk hb
    clear HO BR BG HI HB hi hb hk ho0 hHeld
    have HO := n0_
    have BR := n1_
    have BG := n2_
    have HV := n3_
    have HI := n4_
    have HB := n5_
    clear n0_ n1_ n2_ n3_ n4_ n5_
    obtain ⟨Av, cv, rfl⟩ := Kd.N_slice HV.out
    refine hK.out _ _ ((blk_cell BG.out 0).trans rfl) (fun hHeld => ?_)
    clear hK K
    refine norm_ (a' := ?_) ?_ ?_
    rotate_left
    · show Act.put _ (some 34) _ = _
      simp only [Act.put, List.setIfInBounds_toArray, List.set_cons_zero, List.set_cons_succ, i64_w, i32_w]
      rfl
    refine pure_ (i := 5) (N := some 35) (v := ?_) (a' := ?_) #[T,T,T,T,T,T,F,F,F,F] rfl rfl (by kernel_rfl) (fun _ _ _ h => h) (Or.inl ⟨by rfl, ?_⟩) ?_ ?_
    rotate_left
    · intro w'
      go_simp
      with_reducible rfl
    rotate_left
    · simp only [Act.put, List.setIfInBounds_toArray, List.set_cons_zero, List.set_cons_succ, i64_w, i32_w]
      rfl
    refine one_ (i := 6) (N := some 36) #[T,T,T,T,T,T,T,F,F,F] rfl rfl (by kernel_rfl) (by decide) (fun K hK => ?_)
    refine value_ (w1 := ?_) (v := ?_) (by rfl) rfl ?_ ?_
    rotate_left 2
    · go_simp
      constructor
      · rfl
      · rfl
    refine hK.out _ _ ((blk_cell (blk_alloc BG.out _) 0).trans rfl) (fun hHeld => ?_)
    clear hK K
    refine norm_ (a' := ?_) ?_ ?_
    rotate_left
    · show Act.put _ (some 36) _ = _
      simp only [Act.put, List.setIfInBounds_toArray, List.set_cons_zero, List.set_cons_succ, i64_w, i32_w]
      rfl
    refine one_ (i := 7) (N := some 37) #[T,T,T,T,T,T,T,T,F,F] rfl rfl (by kernel_rfl) (by decide) (fun K hK => ?_)
    refine Kd.N_append_step k54 w.heap.size (by rfl) (.tmp 31) (.tmp 36) 22 54 (.agg #[(.string ⟨#[]⟩), (.string ⟨#[]⟩), (.string ⟨#[]⟩), (.slice none 0 0)]) 72 rfl Try.underlying22 info54 rfl (by decide) (by omega) (Value.slice Au gl.length cu) gl (⟨t1, ⟨b1, b2, b3⟩⟩ : S54) [.string t1, .string b1, .string b2, .slice Av b3.length cv] (fun k_ => (w.heap.size ≤ k_) ∧ k_ ≠ gr ∧ k_ ≠ gs ∧ k_ ≠ gg) (fun k_ => (fun k_ => (w.heap.size ≤ k_) ∧ k_ ≠ gr ∧ k_ ≠ gs ∧ k_ ≠ gg) k_ ∧ some k_ ≠ (Value.slice Au gl.length cu).ownBlock) rfl rfl ?aP (fun _ hk => hk) ?aF ?aO (Below.refl _ _) ?aS ?aL ?_
    (case aP => exact (k54_mkF _ _ (⟨t1, ⟨b1, b2, b3⟩⟩ : S54) (Kd.N_reads' HV.out).2.1 (Kd.N_F (Kd.N_mono (ok' := (fun k_ => (fun k_ => (w.heap.size ≤ k_) ∧ k_ ≠ gr ∧ k_ ≠ gs ∧ k_ ≠ gg) k_ ∧ some k_ ≠ (Value.slice Au gl.length cu).ownBlock)) HV.out (fun k_ hk => ⟨⟨hk.1, hk.2.2⟩, hk.2.1⟩)))))
    (case aF => exact (fun k_ hk => ⟨Nat.le_trans HB.out.size hk, Kd.freshB (g := gr) BR.out k_ hk, IsS99.fresh HI.out k_ hk, Kd.freshB (g := gg) BG.out k_ hk⟩))
    (case aO => exact Kd.N_mono HO.out (fun _ hk => hk.1))
    (case aS => exact HB.out.size)
    (case aL => have := CL.out; omega)
    intro v304 w82 ho hb hg hat
    have n0_ := Aside0.mk (blk_grown (g := gr) BR.out hg (Kd.N_away HO.out (fun _ hk => hk.1.2.1)))
    have n1_ := Aside0.mk (blk_grown (g := gg) BG.out hg (Kd.N_away HO.out (fun _ hk => hk.1.2.2.2)))
    have n2_ := Aside0.mk (IsS99.grown HI.out hg (IsS99.own_neN HI.out HO.out (by decide)))
    have n3_ := Aside0.mk (HB.out.trans hb)
    have n4_ := Aside0.mk ho
    clear BR BG HI HB HO HV ho hb hg hat hHeld
    have BR := n0_
    have BG := n1_
    have HI := n2_
    have HB := n3_
    have HO := n4_
    clear n0_ n1_ n2_ n3_ n4_
    obtain ⟨Aw, c4, rfl⟩ := Kd.N_slice HO.out
    refine hK.out _ _ ((blk_cell BG.out 0).trans rfl) (fun hHeld => ?_)
    clear hK K
    refine norm_ (a' := ?_) ?_ ?_
    rotate_left
    · show Act.put _ (some 37) _ = _
      simp only [Act.put, List.setIfInBounds_toArray, List.set_cons_zero, List.set_cons_succ, i64_w, i32_w]
      rfl
    refine pure_ (i := 8) (N := some 38) (v := ?_) (a' := ?_) #[T,T,T,T,T,T,T,T,T,F] rfl rfl (by kernel_rfl) (fun _ _ _ h => h) (Or.inl ⟨by rfl, ?_⟩) ?_ ?_
    rotate_left
    · intro w'
      go_simp
      with_reducible rfl
    rotate_left
    · simp only [Act.put, List.setIfInBounds_toArray, List.set_cons_zero, List.set_cons_succ, i64_w, i32_w]
      rfl
    refine last_ (i := 9) (N := none) #[T,T,T,T,T,T,T,T,T,T] rfl rfl (by kernel_rfl) (by decide) (fun K hK => ?_)
    have hs85 : w82.cell? ⟨gg, 0, none⟩ = some (Value.slice Au gl.length cu) := (blk_cell BG.out 0).trans rfl
    have hfs85 := blk_frozen BG.out 0
    refine skip_ (w1 := ?_) (by rfl) rfl ?_ ?_
    rotate_left
    · go_simp
      rfl
    refine hK.out _ _ ?_
    clear hK K hs85 hfs85
    refine done_ (by kernel_rfl) ?_
    have n0_ := Aside0.mk (blk_far BR.out N2.out (p := ⟨gg, 0, none⟩) (Value.slice Aw (gl ++ [(⟨t1, ⟨b1, b2, b3⟩⟩ : S54)]).length c4))
    have n1_ := Aside0.mk (blk_put BG.out 0 (Value.slice Aw (gl ++ [(⟨t1, ⟨b1, b2, b3⟩⟩ : S54)]).length c4) rfl)
    have n2_ := Aside0.mk (IsS99.far HI.out N3.out (p := ⟨gg, 0, none⟩) (Value.slice Aw (gl ++ [(⟨t1, ⟨b1, b2, b3⟩⟩ : S54)]).length c4))
    have n3_ := Aside0.mk (below_set HB.out GG.out (j := 0) (v := (Value.slice Aw (gl ++ [(⟨t1, ⟨b1, b2, b3⟩⟩ : S54)]).length c4)))
    have n4_ := Aside0.mk (Kd.N_far (p := ⟨gg, 0, none⟩) HO.out (fun k_ hk => hk.2.2.2) (Value.slice Aw (gl ++ [(⟨t1, ⟨b1, b2, b3⟩⟩ : S54)]).length c4))
    have HLN : (gl ++ [(⟨t1, ⟨b1, b2, b3⟩⟩ : S54)]).length = gl.length + 1 := by simp
    rw [HLN] at n0_ n1_ n2_ n3_ n4_
    clear BR BG HI HB HO
    have BR := n0_
    have BG := n1_
    have HI := n2_
    have HB := n3_
    have HO := n4_
    clear n0_ n1_ n2_ n3_ n4_
    go_wp2_with (((with_reducible refine gate_callee (f := 53) rfl ?_); refine goesL_ (some 40) rfl rfl Try.func53 (by kernel_rfl) rfl #[.pointer (some ⟨gs, 0, none⟩), .string (⟨#[32, 59, 10]⟩ : ByteArray)] rfl (by (try simp only [List.map_toArray, List.map_cons, List.map_nil]); first | rfl) ?_; (with_reducible refine (grammar_reader_must.calls gs b4 b5 b6 (⟨#[32, 59, 10]⟩ : ByteArray) n1 n2 n3 w _ ?side1 ?side2 A4.out).mono ?_); (case side1 => exact HI.out); (case side2 => exact HB.out); rintro e w83 ⟨rfl, hi, hb, hk⟩; refine ⟨_, rfl, ?_⟩; have n0_ := Aside0.mk (Kd.N_keep HO.out hk (fun _ hk_ => hk_.2.2.1)); have n1_ := Aside0.mk (KeepBut.blk hk BR.out N1.out (by simp)); have n2_ := Aside0.mk (KeepBut.blk hk BG.out (Ne.symm N3.out) (by simp)); have n3_ := Aside0.mk hb; have n4_ := Aside0.mk hi; clear HO BR BG HB HI hi hb hk; have HO := n0_; have BR := n1_; have BG := n2_; have HB := n3_; have HI := n4_; clear n0_ n1_ n2_ n3_ n4_))
    go_roundg k1
    case measure => have := HK1.out; omega
    case rel => exact ⟨n1, n2, n3, gl ++ [(⟨t1, ⟨b1, b2, b3⟩⟩ : S54)], .slice Aw (gl.length + 1) c4, HX, ⟨by have := HK1.out; omega⟩, HO, BR, BG, HI, HB⟩
end Go.Proofs.Ytcnllhnhinmokaa.PHGr
end
section
namespace Go.Proofs.Ytcnllhnhinmokaa.PHGr
open Go.RowKit Go.Proofs.YtcnllhnhinmokaaW.PrintWords Go.Proofs.YtcnllhnhinmokaaW.PrintLast Go.Proofs.YtcnllhnhinmokaaW.PrintMore
attribute [local go_sem] max2_int min2_int max_two min_two max_three min_three max_four min_four
set_option linter.unusedVariables false
set_option linter.unusedSimpArgs false
def manystrandlaw24_GrammarText.j0 : Nat → ByteArray → Int → Bool → Option (Bool)
 | 0, _, _, _ => none
 | k + 1, x3, x6, x32 => if x32 = true then (some false) else (if x6 = 0 then ((grammar_Read.f k x3).bind fun bt235 => ((manystrandref24_Text.f k bt235.1).bind fun bt240 => (if bt235.2 = 0 then (if bt240.2 = 0 then (if bt240.1.toList = x3.toList then ((manystrandlaw24_awake.f).bind fun t242 => (some t242)) else (some false)) else (some false)) else (some false)))) else ((manystrandlaw24_awake.f).bind fun t243 => (some t243)))
def manystrandlaw24_GrammarText.f (k : Nat) (l0_0 : List (S54)) : Option (Bool) := (manystrandlaw24_small.f k l0_0 200).bind fun t229 => (if t229 = true then ((grammar_Text.f k l0_0).bind fun bt231 => ((manystrandref24_Text.f k l0_0).bind fun bt233 => (if bt231.2 = bt233.2 then (manystrandlaw24_GrammarText.j0 k bt231.1 bt233.2 (bt231.1.toList != bt233.1.toList)) else (manystrandlaw24_GrammarText.j0 k bt231.1 bt233.2 true)))) else ((manystrandlaw24_awake.f).bind fun t230 => (some t230)))
set_option maxHeartbeats 8000000 in
set_option maxRecDepth 100000 in
theorem manystrandlaw24_GrammarText.calls (k : Nat) (A0_0 : Option Addr) (c0_0 : Nat) (l0_0 : List (S54)) (r : Bool) (w : World) (hr0_0 : Kd.C k54 w A0_0 l0_0.length l0_0) (hc0_0 : l0_0.length ≤ c0_0) (h : manystrandlaw24_GrammarText.f k l0_0 = some r) :
 Calls Try.prog 7 #[.agg #[.slice A0_0 l0_0.length c0_0]] w fun e w' => e = .returned (.bool r) ∧ Below w.heap.size w w' := by
 have hu24 := Try.underlying24
 have HR0_0 := Aside0.mk hr0_0
 have HC0_0 := Aside0.mk hc0_0
 clear hr0_0 hc0_0
 have HB := Aside0.mk (Below.refl w.heap.size w)
 have H : ((manystrandlaw24_small.f k l0_0 200).bind fun t229 => (if t229 = true then ((grammar_Text.f k l0_0).bind fun bt231 => ((manystrandref24_Text.f k l0_0).bind fun bt233 => (if bt231.2 = bt233.2 then (manystrandlaw24_GrammarText.j0 k bt231.1 bt233.2 (bt231.1.toList != bt233.1.toList)) else (manystrandlaw24_GrammarText.j0 k bt231.1 bt233.2 true)))) else ((manystrandlaw24_awake.f).bind fun t230 => (some t230)))) = some r := h
 clear h
 replace H := Option.bind_eq_some_iff.mp H
 obtain ⟨t229, A20, H⟩ := H
 have A2 := Aside0.mk A20
 clear A20
 by_cases c3 : t229 = true
 rotate_left
 · replace c3 := Bool.eq_false_iff.mpr c3
   subst c3
   rw [if_neg (show ¬ (false = true) by decide)] at H
   replace H := Option.bind_eq_some_iff.mp H
   obtain ⟨t230, A500, H⟩ := H
   have A50 := Aside0.mk A500
   clear A500
   obtain rfl := Option.some.inj H
   go_enter Try.func7, Try.ntmps7
   go_wp2_with (first | ((with_reducible refine gate_dst (N := 1) rfl ?_); refine box_event ?hg (N := 1) ?hd (cs := #[.slice A0_0 l0_0.length c0_0]) (t := 24) ?hr ?_; (case hd => rfl); (case hg => rfl); (case hr => (go_simp; done)); intro gb228 hg w51 hbox hb; have n0_ := Aside0.mk (below_step HB.out hb); have n1_ := Aside0.mk (hbox); have n2_ := Aside0.mk ((by rw [hg]; exact (below_size HB.out) : w.heap.size ≤ gb228)); have n3_ := Aside0.mk ((by rw [hg]; exact (below_size HB.out) : w.heap.size ≤ gb228)); clear HB; have HB := n0_; have BK228 := n1_; have GW228 := n2_; have GE228 := n3_; clear n0_ n1_ n2_ n3_; clear hb hbox hg; have hcz52_0 : w51.cell? ⟨gb228, 0, none⟩ = some (.slice A0_0 l0_0.length c0_0) := (blk_cell BK228.out 0).trans rfl; have hfz52_0 := blk_frozen BK228.out 0) | ((with_reducible refine gate_callee (f := 10) rfl ?_); refine goesL_ (some 12) rfl rfl Try.func10 (by kernel_rfl) rfl #[.agg #[.slice A0_0 l0_0.length c0_0], .int .i64 200] rfl (by (try simp only [List.map_toArray, List.map_cons, List.map_nil]); first | rfl) ?_; (with_reducible refine (manystrandlaw24_small.calls k _ _ l0_0 200 false _ ?side1 ?side2 A2.out).mono ?_); (case side1 => repeat (first | exact (Kd.C_below HR0_0.out HB.out))); (case side2 => exact HC0_0.out); rintro e w53 ⟨rfl, hb⟩; refine ⟨_, rfl, ?_⟩; have n0_ := Aside0.mk (blk_below (g := gb228) (o := .cells #[.slice A0_0 l0_0.length c0_0] 24 (0, 0)) BK228.out hb); have n1_ := Aside0.mk (below_step HB.out hb); clear BK228; clear HB; have BK228 := n0_; have HB := n1_; clear n0_ n1_; (try clear hb)) | ((with_reducible refine gate_callee (f := 12) rfl ?_); refine goesL_ (some 14) rfl rfl Try.func12 (by kernel_rfl) rfl #[] rfl (by (try simp only [List.map_toArray, List.map_cons, List.map_nil]); first | done) ?_; (with_reducible refine (manystrandlaw24_awake.calls  t230 _ A50.out).mono ?_); rintro e w54 ⟨rfl, hb⟩; refine ⟨_, rfl, ?_⟩; have n0_ := Aside0.mk (blk_below (g := gb228) (o := .cells #[.slice A0_0 l0_0.length c0_0] 24 (0, 0)) BK228.out hb); have n1_ := Aside0.mk (below_step HB.out hb); clear BK228; clear HB; have BK228 := n0_; have HB := n1_; clear n0_ n1_; (try clear hb)))
   go_ret
   exact ⟨by first | rfl, by exact HB.out⟩
 subst c3
 rw [if_pos rfl] at H
 replace H := Option.bind_eq_some_iff.mp H
 obtain ⟨⟨t231, t232⟩, A40, H⟩ := H
 dsimp only at H
 have A4 := Aside0.mk A40
 clear A40
 replace H := Option.bind_eq_some_iff.mp H
 obtain ⟨⟨t233, t234⟩, A50, H⟩ := H
 dsimp only at H
 have A5 := Aside0.mk A50
 clear A50
 have HC6 := Aside0.mk H
 clear H
 go_enter Try.func7, Try.ntmps7
 go_upto_region 5 with (first | ((with_reducible refine gate_dst (N := 1) rfl ?_); refine box_event ?hg (N := 1) ?hd (cs := #[.slice A0_0 l0_0.length c0_0]) (t := 24) ?hr ?_; (case hd => rfl); (case hg => rfl); (case hr => (go_simp; done)); intro gb228 hg w7 hbox hb; have n0_ := Aside0.mk (below_step HB.out hb); have n1_ := Aside0.mk (hbox); have n2_ := Aside0.mk ((by rw [hg]; exact (below_size HB.out) : w.heap.size ≤ gb228)); have n3_ := Aside0.mk ((by rw [hg]; exact (below_size HB.out) : w.heap.size ≤ gb228)); clear HB; have HB := n0_; have BK228 := n1_; have GW228 := n2_; have GE228 := n3_; clear n0_ n1_ n2_ n3_; clear hb hbox hg; have hcz8_0 : w7.cell? ⟨gb228, 0, none⟩ = some (.slice A0_0 l0_0.length c0_0) := (blk_cell BK228.out 0).trans rfl; have hfz8_0 := blk_frozen BK228.out 0) | ((with_reducible refine gate_callee (f := 10) rfl ?_); refine goesL_ (some 12) rfl rfl Try.func10 (by kernel_rfl) rfl #[.agg #[.slice A0_0 l0_0.length c0_0], .int .i64 200] rfl (by (try simp only [List.map_toArray, List.map_cons, List.map_nil]); first | rfl) ?_; (with_reducible refine (manystrandlaw24_small.calls k _ _ l0_0 200 true _ ?side1 ?side2 A2.out).mono ?_); (case side1 => repeat (first | exact (Kd.C_below HR0_0.out HB.out))); (case side2 => exact HC0_0.out); rintro e w9 ⟨rfl, hb⟩; refine ⟨_, rfl, ?_⟩; have n0_ := Aside0.mk (blk_below (g := gb228) (o := .cells #[.slice A0_0 l0_0.length c0_0] 24 (0, 0)) BK228.out hb); have n1_ := Aside0.mk (below_step HB.out hb); clear BK228; clear HB; have BK228 := n0_; have HB := n1_; clear n0_ n1_; (try clear hb); have hcz10_0 : w9.cell? ⟨gb228, 0, none⟩ = some (.slice A0_0 l0_0.length c0_0) := (blk_cell BK228.out 0).trans rfl; have hfz10_0 := blk_frozen BK228.out 0) | ((with_reducible refine gate_callee (f := 25) rfl ?_); refine goesL_ (some 17) rfl rfl Try.func25 (by kernel_rfl) rfl #[.agg #[.slice A0_0 l0_0.length c0_0]] rfl (by (try simp only [List.map_toArray, List.map_cons, List.map_nil]); first | rfl) ?_; (with_reducible refine (grammar_Text.calls k _ _ l0_0 t231 t232 _ ?side1 ?side2 A4.out).mono ?_); (case side1 => repeat (first | exact (Kd.C_below HR0_0.out HB.out))); (case side2 => exact HC0_0.out); rintro e w11 ⟨rfl, hb⟩; refine ⟨_, rfl, ?_⟩; have n0_ := Aside0.mk (blk_below (g := gb228) (o := .cells #[.slice A0_0 l0_0.length c0_0] 24 (0, 0)) BK228.out hb); have n1_ := Aside0.mk (below_step HB.out hb); clear BK228; clear HB; have BK228 := n0_; have HB := n1_; clear n0_ n1_; (try clear hb); have hcz12_0 : w11.cell? ⟨gb228, 0, none⟩ = some (.slice A0_0 l0_0.length c0_0) := (blk_cell BK228.out 0).trans rfl; have hfz12_0 := blk_frozen BK228.out 0) | ((with_reducible refine gate_callee (f := 26) rfl ?_); refine goesL_ (some 22) rfl rfl Try.func26 (by kernel_rfl) rfl #[.agg #[.slice A0_0 l0_0.length c0_0]] rfl (by (try simp only [List.map_toArray, List.map_cons, List.map_nil]); first | rfl) ?_; (with_reducible refine (manystrandref24_Text.calls k _ _ l0_0 t233 t234 _ ?side1 ?side2 A5.out).mono ?_); (case side1 => repeat (first | exact (Kd.C_below HR0_0.out HB.out))); (case side2 => exact HC0_0.out); rintro e w13 ⟨rfl, hb⟩; refine ⟨_, rfl, ?_⟩; have n0_ := Aside0.mk (blk_below (g := gb228) (o := .cells #[.slice A0_0 l0_0.length c0_0] 24 (0, 0)) BK228.out hb); have n1_ := Aside0.mk (below_step HB.out hb); clear BK228; clear HB; have BK228 := n0_; have HB := n1_; clear n0_ n1_; (try clear hb)))
 skip
 go_cut [32] (fun v32 wc => ∃ (kq : Nat) (x32_5 : Bool), v32 = .bool x32_5 ∧ Aside0 (manystrandlaw24_GrammarText.j0 kq t231 t234 x32_5 = some r) ∧ Aside0 (kq ≤ k) ∧ Aside0 (wc.heap[gb228]? = some (.cells #[(.slice A0_0 l0_0.length c0_0)] 24 (0, 0))) ∧ Aside0 (Below w.heap.size w wc))
 case first =>
  have H := HC6.out
  clear HC6
  by_cases c14 : t232 = t234
  rotate_left
  · rw [if_neg c14] at H
    have c14b0 := beq_eq_false_iff_ne.mpr c14
    have c14b1 := bne_iff_ne.mpr c14
    (first | skip)
    have H' := Aside0.mk H
    clear H
    go_wp2
    go_meet
    case rel => exact ⟨_, (true), rfl, H', ⟨by first | omega⟩, ⟨BK228.out⟩, ⟨by exact HB.out⟩⟩
  rw [if_pos c14] at H
  have c14b0 := beq_iff_eq.mpr c14
  have c14b1 := bne_eq_false_iff_eq.mpr c14
  clear c14
  (first | skip)
  have H' := Aside0.mk H
  clear H
  go_wp2
  go_meet
  case rel => exact ⟨_, ((t231.toList != t233.toList)), rfl, H', ⟨by first | omega⟩, ⟨BK228.out⟩, ⟨by exact HB.out⟩⟩
 case rest =>
  clear HC6 hcz10_0 hcz12_0 hcz8_0 hfz10_0 hfz12_0 hfz8_0
  obtain ⟨kq, x32_5, rfl, HA, HJ5, BK228, HB⟩ := hcut
  cases kq with
  | zero => exact absurd HA.out (by simp [manystrandlaw24_GrammarText.j0])
  | succ kj5 =>
   have H := HA.out
   clear HA
   simp only [manystrandlaw24_GrammarText.j0] at H
   by_cases c15 : x32_5 = true
   · subst c15
     rw [if_pos rfl] at H
     obtain rfl := Option.some.inj H
     go_wp2
     go_ret
     exact ⟨by first | rfl, by exact HB.out⟩
   replace c15 := Bool.eq_false_iff.mpr c15
   subst c15
   rw [if_neg (show ¬ (false = true) by decide)] at H
   by_cases c16 : t234 = 0
   rotate_left
   · rw [if_neg c16] at H
     have c16b0 := beq_eq_false_iff_ne.mpr c16
     have c16b1 := bne_iff_ne.mpr c16
     replace H := Option.bind_eq_some_iff.mp H
     obtain ⟨t243, A480, H⟩ := H
     have A48 := Aside0.mk A480
     clear A480
     obtain rfl := Option.some.inj H
     go_wp2_with (((with_reducible refine gate_callee (f := 12) rfl ?_); refine goesL_ (some 35) rfl rfl Try.func12 (by kernel_rfl) rfl #[] rfl (by (try simp only [List.map_toArray, List.map_cons, List.map_nil]); first | done) ?_; (with_reducible refine (manystrandlaw24_awake.calls  t243 _ A48.out).mono ?_); rintro e w49 ⟨rfl, hb⟩; refine ⟨_, rfl, ?_⟩; have n0_ := Aside0.mk (blk_below (g := gb228) (o := .cells #[.slice A0_0 l0_0.length c0_0] 24 (0, 0)) BK228.out hb); have n1_ := Aside0.mk (below_step HB.out hb); clear BK228; clear HB; have BK228 := n0_; have HB := n1_; clear n0_ n1_; (try clear hb)))
     go_ret
     exact ⟨by first | rfl, by exact HB.out⟩
   rw [if_pos c16] at H
   have c16b0 := beq_iff_eq.mpr c16
   have c16b1 := bne_eq_false_iff_eq.mpr c16
   clear c16
   replace H := Option.bind_eq_some_iff.mp H
   obtain ⟨⟨t235, t238⟩, A170, H⟩ := H
   dsimp only at H
   have A17 := Aside0.mk A170
   clear A170
   replace H := Option.bind_eq_some_iff.mp H
   obtain ⟨⟨t240, t241⟩, A180, H⟩ := H
   dsimp only at H
   have A18 := Aside0.mk A180
   clear A180
   by_cases c19 : t238 = 0
   rotate_left
   · rw [if_neg c19] at H
     have c19b0 := beq_eq_false_iff_ne.mpr c19
     have c19b1 := bne_iff_ne.mpr c19
     obtain rfl := Option.some.inj H
     go_wp2_with (first | ((with_reducible refine gate_callee (f := 27) rfl ?_); refine goesL_ (some 38) rfl rfl Try.func27 (by kernel_rfl) rfl #[.string t231] rfl (by (try simp only [List.map_toArray, List.map_cons, List.map_nil]); first | rfl) ?_; (with_reducible refine (grammar_Read.calls kj5 t231 t235 t238 _ A17.out).mono ?_); rintro e w42 ⟨v236, rfl, ho0, hb⟩; refine ⟨_, rfl, ?_⟩; have n0_ := Aside0.mk (Kd.N_lower ho0 (below_size HB.out)); have n1_ := Aside0.mk (blk_below (g := gb228) (o := .cells #[.slice A0_0 l0_0.length c0_0] 24 (0, 0)) BK228.out hb); have n2_ := Aside0.mk (below_step HB.out hb); clear BK228; clear HB; have HO237 := n0_; have BK228 := n1_; have HB := n2_; clear n0_ n1_ n2_; (try clear hb); (try clear ho0)) | ((with_reducible refine gate_dst (N := 7) rfl ?_); refine box_event ?hg (N := 7) ?hd (cs := #[.slice none 0 0]) (t := 24) ?hr ?_; (case hd => rfl); (case hg => rfl); (case hr => (go_simp; done)); intro gb239 hg w43 hbox hb; have n0_ := Aside0.mk (Kd.N_mono (ok' := fun k_ => True ∧ k_ ≠ gb239) (Kd.N_old HO237.out hb) (fun k_ hk_ => ⟨trivial, by have := hk_.2; rw [hg]; exact Nat.ne_of_lt this⟩)); have n1_ := Aside0.mk (blk_below (g := gb228) (o := .cells #[.slice A0_0 l0_0.length c0_0] 24 (0, 0)) BK228.out hb); have n2_ := Aside0.mk (below_step HB.out hb); have n3_ := Aside0.mk (hbox); have n4_ := Aside0.mk ((by rw [hg]; exact (below_size HB.out) : w.heap.size ≤ gb239)); have n5_ := Aside0.mk ((by rw [hg]; exact (below_size HB.out) : w.heap.size ≤ gb239)); have n6_ := Aside0.mk ((by rw [hg]; exact Nat.ne_of_lt (blk_lt (g := gb228) (o := .cells #[.slice A0_0 l0_0.length c0_0] 24 (0, 0)) BK228.out) : gb228 ≠ gb239)); have n7_ := Aside0.mk ((by rw [hg]; exact Nat.ne_of_gt (blk_lt (g := gb228) (o := .cells #[.slice A0_0 l0_0.length c0_0] 24 (0, 0)) BK228.out) : gb239 ≠ gb228)); clear HO237; clear BK228; clear HB; have HO237 := n0_; have BK228 := n1_; have HB := n2_; have BK239 := n3_; have GW239 := n4_; have GE239 := n5_; have NB228_239 := n6_; have NB239_228 := n7_; clear n0_ n1_ n2_ n3_ n4_ n5_ n6_ n7_; clear hb hbox hg; obtain ⟨Ao44, co44, eo44⟩ := Kd.N_slice HO237.out; subst eo44; have hnb45 := NB239_228.out; have hnc45 := NB228_239.out; have hcz46_0 : w43.cell? ⟨gb239, 0, none⟩ = some (.slice none 0 0) := (blk_cell BK239.out 0).trans rfl; have hfz46_0 := blk_frozen BK239.out 0) | ((with_reducible refine gate_callee (f := 26) rfl ?_); refine goesL_ (some 43) rfl rfl Try.func26 (by kernel_rfl) rfl #[.agg #[.slice Ao44 t235.length co44]] rfl (by (try simp only [List.map_toArray, List.map_cons, List.map_nil]); first | rfl) ?_; (with_reducible refine (manystrandref24_Text.calls kj5 _ _ t235 t240 t241 _ ?side1 ?side2 A18.out).mono ?_); (case side1 => refine (Kd.N_reads' (e := 54) (base := w.heap.size) (ok := fun k_ => True) (n := t235.length) (c := co44) ?_).2.2; exact (by (with_reducible repeat (first | fail)); exact (Kd.N_mono (Kd.N_far (p := ⟨gb239, 0, none⟩) HO237.out (fun _ hk => hk.2) (.slice Ao44 t235.length co44)) (fun _ h_ => h_.1)))); (case side2 => exact (Kd.N_reads' HO237.out).2.1); rintro e w47 ⟨rfl, hb⟩; refine ⟨_, rfl, ?_⟩; have n0_ := Aside0.mk (Kd.N_below (by (with_reducible repeat (first | fail)); exact (Kd.N_mono (Kd.N_far (p := ⟨gb239, 0, none⟩) HO237.out (fun _ hk => hk.2) (.slice Ao44 t235.length co44)) (fun _ h_ => h_.1))) hb); have n1_ := Aside0.mk (blk_below (g := gb228) (o := .cells #[.slice A0_0 l0_0.length c0_0] 24 (0, 0)) (by (with_reducible repeat (first | fail)); refine blk_far ?_ NB228_239.out _; (with_reducible repeat (first | fail)); exact BK228.out) hb); have n2_ := Aside0.mk (blk_below (g := gb239) (o := .cells #[.slice Ao44 t235.length co44] 24 (0, 0)) (by (with_reducible repeat (first | fail)); refine blk_put (cs := #[.slice none 0 0]) ?_ 0 _ rfl; (with_reducible repeat (first | fail)); exact BK239.out) hb); have n3_ := Aside0.mk (below_step (by repeat ((with_reducible first | exact HB.out | refine below_set ?_ GE239.out))) hb); clear HO237; clear BK228; clear BK239; clear HB; have HO237 := n0_; have BK228 := n1_; have BK239 := n2_; have HB := n3_; clear n0_ n1_ n2_ n3_; (try clear hb)))
     go_ret
     exact ⟨by first | rfl, by exact HB.out⟩
   rw [if_pos c19] at H
   have c19b0 := beq_iff_eq.mpr c19
   have c19b1 := bne_eq_false_iff_eq.mpr c19
   clear c19
   by_cases c20 : t241 = 0
   rotate_left
   · rw [if_neg c20] at H
     have c20b0 := beq_eq_false_iff_ne.mpr c20
     have c20b1 := bne_iff_ne.mpr c20
     obtain rfl := Option.some.inj H
     go_wp2_with (first | ((with_reducible refine gate_callee (f := 27) rfl ?_); refine goesL_ (some 38) rfl rfl Try.func27 (by kernel_rfl) rfl #[.string t231] rfl (by (try simp only [List.map_toArray, List.map_cons, List.map_nil]); first | rfl) ?_; (with_reducible refine (grammar_Read.calls kj5 t231 t235 t238 _ A17.out).mono ?_); rintro e w36 ⟨v236, rfl, ho0, hb⟩; refine ⟨_, rfl, ?_⟩; have n0_ := Aside0.mk (Kd.N_lower ho0 (below_size HB.out)); have n1_ := Aside0.mk (blk_below (g := gb228) (o := .cells #[.slice A0_0 l0_0.length c0_0] 24 (0, 0)) BK228.out hb); have n2_ := Aside0.mk (below_step HB.out hb); clear BK228; clear HB; have HO237 := n0_; have BK228 := n1_; have HB := n2_; clear n0_ n1_ n2_; (try clear hb); (try clear ho0)) | ((with_reducible refine gate_dst (N := 7) rfl ?_); refine box_event ?hg (N := 7) ?hd (cs := #[.slice none 0 0]) (t := 24) ?hr ?_; (case hd => rfl); (case hg => rfl); (case hr => (go_simp; done)); intro gb239 hg w37 hbox hb; have n0_ := Aside0.mk (Kd.N_mono (ok' := fun k_ => True ∧ k_ ≠ gb239) (Kd.N_old HO237.out hb) (fun k_ hk_ => ⟨trivial, by have := hk_.2; rw [hg]; exact Nat.ne_of_lt this⟩)); have n1_ := Aside0.mk (blk_below (g := gb228) (o := .cells #[.slice A0_0 l0_0.length c0_0] 24 (0, 0)) BK228.out hb); have n2_ := Aside0.mk (below_step HB.out hb); have n3_ := Aside0.mk (hbox); have n4_ := Aside0.mk ((by rw [hg]; exact (below_size HB.out) : w.heap.size ≤ gb239)); have n5_ := Aside0.mk ((by rw [hg]; exact (below_size HB.out) : w.heap.size ≤ gb239)); have n6_ := Aside0.mk ((by rw [hg]; exact Nat.ne_of_lt (blk_lt (g := gb228) (o := .cells #[.slice A0_0 l0_0.length c0_0] 24 (0, 0)) BK228.out) : gb228 ≠ gb239)); have n7_ := Aside0.mk ((by rw [hg]; exact Nat.ne_of_gt (blk_lt (g := gb228) (o := .cells #[.slice A0_0 l0_0.length c0_0] 24 (0, 0)) BK228.out) : gb239 ≠ gb228)); clear HO237; clear BK228; clear HB; have HO237 := n0_; have BK228 := n1_; have HB := n2_; have BK239 := n3_; have GW239 := n4_; have GE239 := n5_; have NB228_239 := n6_; have NB239_228 := n7_; clear n0_ n1_ n2_ n3_ n4_ n5_ n6_ n7_; clear hb hbox hg; obtain ⟨Ao38, co38, eo38⟩ := Kd.N_slice HO237.out; subst eo38; have hnb39 := NB239_228.out; have hnc39 := NB228_239.out; have hcz40_0 : w37.cell? ⟨gb239, 0, none⟩ = some (.slice none 0 0) := (blk_cell BK239.out 0).trans rfl; have hfz40_0 := blk_frozen BK239.out 0) | ((with_reducible refine gate_callee (f := 26) rfl ?_); refine goesL_ (some 43) rfl rfl Try.func26 (by kernel_rfl) rfl #[.agg #[.slice Ao38 t235.length co38]] rfl (by (try simp only [List.map_toArray, List.map_cons, List.map_nil]); first | rfl) ?_; (with_reducible refine (manystrandref24_Text.calls kj5 _ _ t235 t240 t241 _ ?side1 ?side2 A18.out).mono ?_); (case side1 => refine (Kd.N_reads' (e := 54) (base := w.heap.size) (ok := fun k_ => True) (n := t235.length) (c := co38) ?_).2.2; exact (by (with_reducible repeat (first | fail)); exact (Kd.N_mono (Kd.N_far (p := ⟨gb239, 0, none⟩) HO237.out (fun _ hk => hk.2) (.slice Ao38 t235.length co38)) (fun _ h_ => h_.1)))); (case side2 => exact (Kd.N_reads' HO237.out).2.1); rintro e w41 ⟨rfl, hb⟩; refine ⟨_, rfl, ?_⟩; have n0_ := Aside0.mk (Kd.N_below (by (with_reducible repeat (first | fail)); exact (Kd.N_mono (Kd.N_far (p := ⟨gb239, 0, none⟩) HO237.out (fun _ hk => hk.2) (.slice Ao38 t235.length co38)) (fun _ h_ => h_.1))) hb); have n1_ := Aside0.mk (blk_below (g := gb228) (o := .cells #[.slice A0_0 l0_0.length c0_0] 24 (0, 0)) (by (with_reducible repeat (first | fail)); refine blk_far ?_ NB228_239.out _; (with_reducible repeat (first | fail)); exact BK228.out) hb); have n2_ := Aside0.mk (blk_below (g := gb239) (o := .cells #[.slice Ao38 t235.length co38] 24 (0, 0)) (by (with_reducible repeat (first | fail)); refine blk_put (cs := #[.slice none 0 0]) ?_ 0 _ rfl; (with_reducible repeat (first | fail)); exact BK239.out) hb); have n3_ := Aside0.mk (below_step (by repeat ((with_reducible first | exact HB.out | refine below_set ?_ GE239.out))) hb); clear HO237; clear BK228; clear BK239; clear HB; have HO237 := n0_; have BK228 := n1_; have BK239 := n2_; have HB := n3_; clear n0_ n1_ n2_ n3_; (try clear hb)))
     go_ret
     exact ⟨by first | rfl, by exact HB.out⟩
   rw [if_pos c20] at H
   have c20b0 := beq_iff_eq.mpr c20
   have c20b1 := bne_eq_false_iff_eq.mpr c20
   clear c20
   by_cases c21 : t240.toList = t231.toList
   rotate_left
   · rw [if_neg c21] at H
     have c21b0 := beq_eq_false_iff_ne.mpr c21
     have c21b1 := bne_iff_ne.mpr c21
     obtain rfl := Option.some.inj H
     go_wp2_with (first | ((with_reducible refine gate_callee (f := 27) rfl ?_); refine goesL_ (some 38) rfl rfl Try.func27 (by kernel_rfl) rfl #[.string t231] rfl (by (try simp only [List.map_toArray, List.map_cons, List.map_nil]); first | rfl) ?_; (with_reducible refine (grammar_Read.calls kj5 t231 t235 t238 _ A17.out).mono ?_); rintro e w30 ⟨v236, rfl, ho0, hb⟩; refine ⟨_, rfl, ?_⟩; have n0_ := Aside0.mk (Kd.N_lower ho0 (below_size HB.out)); have n1_ := Aside0.mk (blk_below (g := gb228) (o := .cells #[.slice A0_0 l0_0.length c0_0] 24 (0, 0)) BK228.out hb); have n2_ := Aside0.mk (below_step HB.out hb); clear BK228; clear HB; have HO237 := n0_; have BK228 := n1_; have HB := n2_; clear n0_ n1_ n2_; (try clear hb); (try clear ho0)) | ((with_reducible refine gate_dst (N := 7) rfl ?_); refine box_event ?hg (N := 7) ?hd (cs := #[.slice none 0 0]) (t := 24) ?hr ?_; (case hd => rfl); (case hg => rfl); (case hr => (go_simp; done)); intro gb239 hg w31 hbox hb; have n0_ := Aside0.mk (Kd.N_mono (ok' := fun k_ => True ∧ k_ ≠ gb239) (Kd.N_old HO237.out hb) (fun k_ hk_ => ⟨trivial, by have := hk_.2; rw [hg]; exact Nat.ne_of_lt this⟩)); have n1_ := Aside0.mk (blk_below (g := gb228) (o := .cells #[.slice A0_0 l0_0.length c0_0] 24 (0, 0)) BK228.out hb); have n2_ := Aside0.mk (below_step HB.out hb); have n3_ := Aside0.mk (hbox); have n4_ := Aside0.mk ((by rw [hg]; exact (below_size HB.out) : w.heap.size ≤ gb239)); have n5_ := Aside0.mk ((by rw [hg]; exact (below_size HB.out) : w.heap.size ≤ gb239)); have n6_ := Aside0.mk ((by rw [hg]; exact Nat.ne_of_lt (blk_lt (g := gb228) (o := .cells #[.slice A0_0 l0_0.length c0_0] 24 (0, 0)) BK228.out) : gb228 ≠ gb239)); have n7_ := Aside0.mk ((by rw [hg]; exact Nat.ne_of_gt (blk_lt (g := gb228) (o := .cells #[.slice A0_0 l0_0.length c0_0] 24 (0, 0)) BK228.out) : gb239 ≠ gb228)); clear HO237; clear BK228; clear HB; have HO237 := n0_; have BK228 := n1_; have HB := n2_; have BK239 := n3_; have GW239 := n4_; have GE239 := n5_; have NB228_239 := n6_; have NB239_228 := n7_; clear n0_ n1_ n2_ n3_ n4_ n5_ n6_ n7_; clear hb hbox hg; obtain ⟨Ao32, co32, eo32⟩ := Kd.N_slice HO237.out; subst eo32; have hnb33 := NB239_228.out; have hnc33 := NB228_239.out; have hcz34_0 : w31.cell? ⟨gb239, 0, none⟩ = some (.slice none 0 0) := (blk_cell BK239.out 0).trans rfl; have hfz34_0 := blk_frozen BK239.out 0) | ((with_reducible refine gate_callee (f := 26) rfl ?_); refine goesL_ (some 43) rfl rfl Try.func26 (by kernel_rfl) rfl #[.agg #[.slice Ao32 t235.length co32]] rfl (by (try simp only [List.map_toArray, List.map_cons, List.map_nil]); first | rfl) ?_; (with_reducible refine (manystrandref24_Text.calls kj5 _ _ t235 t240 t241 _ ?side1 ?side2 A18.out).mono ?_); (case side1 => refine (Kd.N_reads' (e := 54) (base := w.heap.size) (ok := fun k_ => True) (n := t235.length) (c := co32) ?_).2.2; exact (by (with_reducible repeat (first | fail)); exact (Kd.N_mono (Kd.N_far (p := ⟨gb239, 0, none⟩) HO237.out (fun _ hk => hk.2) (.slice Ao32 t235.length co32)) (fun _ h_ => h_.1)))); (case side2 => exact (Kd.N_reads' HO237.out).2.1); rintro e w35 ⟨rfl, hb⟩; refine ⟨_, rfl, ?_⟩; have n0_ := Aside0.mk (Kd.N_below (by (with_reducible repeat (first | fail)); exact (Kd.N_mono (Kd.N_far (p := ⟨gb239, 0, none⟩) HO237.out (fun _ hk => hk.2) (.slice Ao32 t235.length co32)) (fun _ h_ => h_.1))) hb); have n1_ := Aside0.mk (blk_below (g := gb228) (o := .cells #[.slice A0_0 l0_0.length c0_0] 24 (0, 0)) (by (with_reducible repeat (first | fail)); refine blk_far ?_ NB228_239.out _; (with_reducible repeat (first | fail)); exact BK228.out) hb); have n2_ := Aside0.mk (blk_below (g := gb239) (o := .cells #[.slice Ao32 t235.length co32] 24 (0, 0)) (by (with_reducible repeat (first | fail)); refine blk_put (cs := #[.slice none 0 0]) ?_ 0 _ rfl; (with_reducible repeat (first | fail)); exact BK239.out) hb); have n3_ := Aside0.mk (below_step (by repeat ((with_reducible first | exact HB.out | refine below_set ?_ GE239.out))) hb); clear HO237; clear BK228; clear BK239; clear HB; have HO237 := n0_; have BK228 := n1_; have BK239 := n2_; have HB := n3_; clear n0_ n1_ n2_ n3_; (try clear hb)))
     go_ret
     exact ⟨by first | rfl, by exact HB.out⟩
   rw [if_pos c21] at H
   have c21b0 := beq_iff_eq.mpr c21
   have c21b1 := bne_eq_false_iff_eq.mpr c21
   clear c21
   replace H := Option.bind_eq_some_iff.mp H
   obtain ⟨t242, A220, H⟩ := H
   have A22 := Aside0.mk A220
   clear A220
   obtain rfl := Option.some.inj H
   go_wp2_with (first | ((with_reducible refine gate_callee (f := 27) rfl ?_); refine goesL_ (some 38) rfl rfl Try.func27 (by kernel_rfl) rfl #[.string t231] rfl (by (try simp only [List.map_toArray, List.map_cons, List.map_nil]); first | rfl) ?_; (with_reducible refine (grammar_Read.calls kj5 t231 t235 t238 _ A17.out).mono ?_); rintro e w23 ⟨v236, rfl, ho0, hb⟩; refine ⟨_, rfl, ?_⟩; have n0_ := Aside0.mk (Kd.N_lower ho0 (below_size HB.out)); have n1_ := Aside0.mk (blk_below (g := gb228) (o := .cells #[.slice A0_0 l0_0.length c0_0] 24 (0, 0)) BK228.out hb); have n2_ := Aside0.mk (below_step HB.out hb); clear BK228; clear HB; have HO237 := n0_; have BK228 := n1_; have HB := n2_; clear n0_ n1_ n2_; (try clear hb); (try clear ho0)) | ((with_reducible refine gate_dst (N := 7) rfl ?_); refine box_event ?hg (N := 7) ?hd (cs := #[.slice none 0 0]) (t := 24) ?hr ?_; (case hd => rfl); (case hg => rfl); (case hr => (go_simp; done)); intro gb239 hg w24 hbox hb; have n0_ := Aside0.mk (Kd.N_mono (ok' := fun k_ => True ∧ k_ ≠ gb239) (Kd.N_old HO237.out hb) (fun k_ hk_ => ⟨trivial, by have := hk_.2; rw [hg]; exact Nat.ne_of_lt this⟩)); have n1_ := Aside0.mk (blk_below (g := gb228) (o := .cells #[.slice A0_0 l0_0.length c0_0] 24 (0, 0)) BK228.out hb); have n2_ := Aside0.mk (below_step HB.out hb); have n3_ := Aside0.mk (hbox); have n4_ := Aside0.mk ((by rw [hg]; exact (below_size HB.out) : w.heap.size ≤ gb239)); have n5_ := Aside0.mk ((by rw [hg]; exact (below_size HB.out) : w.heap.size ≤ gb239)); have n6_ := Aside0.mk ((by rw [hg]; exact Nat.ne_of_lt (blk_lt (g := gb228) (o := .cells #[.slice A0_0 l0_0.length c0_0] 24 (0, 0)) BK228.out) : gb228 ≠ gb239)); have n7_ := Aside0.mk ((by rw [hg]; exact Nat.ne_of_gt (blk_lt (g := gb228) (o := .cells #[.slice A0_0 l0_0.length c0_0] 24 (0, 0)) BK228.out) : gb239 ≠ gb228)); clear HO237; clear BK228; clear HB; have HO237 := n0_; have BK228 := n1_; have HB := n2_; have BK239 := n3_; have GW239 := n4_; have GE239 := n5_; have NB228_239 := n6_; have NB239_228 := n7_; clear n0_ n1_ n2_ n3_ n4_ n5_ n6_ n7_; clear hb hbox hg; obtain ⟨Ao25, co25, eo25⟩ := Kd.N_slice HO237.out; subst eo25; have hnb26 := NB239_228.out; have hnc26 := NB228_239.out; have hcz27_0 : w24.cell? ⟨gb239, 0, none⟩ = some (.slice none 0 0) := (blk_cell BK239.out 0).trans rfl; have hfz27_0 := blk_frozen BK239.out 0) | ((with_reducible refine gate_callee (f := 26) rfl ?_); refine goesL_ (some 43) rfl rfl Try.func26 (by kernel_rfl) rfl #[.agg #[.slice Ao25 t235.length co25]] rfl (by (try simp only [List.map_toArray, List.map_cons, List.map_nil]); first | rfl) ?_; (with_reducible refine (manystrandref24_Text.calls kj5 _ _ t235 t240 t241 _ ?side1 ?side2 A18.out).mono ?_); (case side1 => refine (Kd.N_reads' (e := 54) (base := w.heap.size) (ok := fun k_ => True) (n := t235.length) (c := co25) ?_).2.2; exact (by (with_reducible repeat (first | fail)); exact (Kd.N_mono (Kd.N_far (p := ⟨gb239, 0, none⟩) HO237.out (fun _ hk => hk.2) (.slice Ao25 t235.length co25)) (fun _ h_ => h_.1)))); (case side2 => exact (Kd.N_reads' HO237.out).2.1); rintro e w28 ⟨rfl, hb⟩; refine ⟨_, rfl, ?_⟩; have n0_ := Aside0.mk (Kd.N_below (by (with_reducible repeat (first | fail)); exact (Kd.N_mono (Kd.N_far (p := ⟨gb239, 0, none⟩) HO237.out (fun _ hk => hk.2) (.slice Ao25 t235.length co25)) (fun _ h_ => h_.1))) hb); have n1_ := Aside0.mk (blk_below (g := gb228) (o := .cells #[.slice A0_0 l0_0.length c0_0] 24 (0, 0)) (by (with_reducible repeat (first | fail)); refine blk_far ?_ NB228_239.out _; (with_reducible repeat (first | fail)); exact BK228.out) hb); have n2_ := Aside0.mk (blk_below (g := gb239) (o := .cells #[.slice Ao25 t235.length co25] 24 (0, 0)) (by (with_reducible repeat (first | fail)); refine blk_put (cs := #[.slice none 0 0]) ?_ 0 _ rfl; (with_reducible repeat (first | fail)); exact BK239.out) hb); have n3_ := Aside0.mk (below_step (by repeat ((with_reducible first | exact HB.out | refine below_set ?_ GE239.out))) hb); clear HO237; clear BK228; clear BK239; clear HB; have HO237 := n0_; have BK228 := n1_; have BK239 := n2_; have HB := n3_; clear n0_ n1_ n2_ n3_; (try clear hb)) | (go_at_call 12; (with_reducible refine (manystrandlaw24_awake.calls  t242 _ A22.out).mono ?_); rintro e w29 ⟨rfl, hb⟩; have n0_ := Aside0.mk (Kd.N_below HO237.out hb); have n1_ := Aside0.mk (blk_below (g := gb228) (o := .cells #[.slice A0_0 l0_0.length c0_0] 24 (0, 0)) BK228.out hb); have n2_ := Aside0.mk (blk_below (g := gb239) (o := .cells #[.slice Ao25 t235.length co25] 24 (0, 0)) BK239.out hb); have n3_ := Aside0.mk (below_step HB.out hb); clear HO237; clear BK228; clear BK239; clear HB; have HO237 := n0_; have BK228 := n1_; have BK239 := n2_; have HB := n3_; clear n0_ n1_ n2_ n3_; (try clear hb)))
   go_ret
   exact ⟨by first | rfl, by exact HB.out⟩
end Go.Proofs.Ytcnllhnhinmokaa.PHGr
end
section
namespace Go.Proofs.Ytcnllhnhinmokaa.PHGr
open Go.RowKit Go.Proofs.YtcnllhnhinmokaaW.PrintWords Go.Proofs.YtcnllhnhinmokaaW.PrintLast Go.Proofs.YtcnllhnhinmokaaW.PrintMore
set_option linter.unusedVariables false
set_option linter.unusedSimpArgs false
abbrev bs (s : ByteArray) : List UInt8 := s.data.toList
theorem bs_len (s : ByteArray) : (bs s).length = s.size := Array.length_toList
theorem tl_bs (s : ByteArray) : s.toList = bs s := ByteArray.toList_eq s
theorem w64 {n : Int} (h0 : 0 ≤ n) (h1 : n ≤ 9223372036854775807) : wrap64 n = n := by unfold wrap64; omega
theorem at_drop (s : ByteArray) (i : Nat) (h : i < s.size) : ∃ b : UInt8, (bs s).drop i = b :: (bs s).drop (i + 1) ∧ bt s (i : Int) = (b.toNat : Int) := by
 have hl : i < (bs s).length := by rw [bs_len]; exact h
 refine ⟨(bs s)[i], List.drop_eq_getElem_cons hl, ?_⟩
 unfold bt
 rw [dif_pos (by simpa using h)]
 simp only [Int.toNat_natCast]
 congr 1
theorem scan {α β : Type} (s : ByteArray) (F : Nat → β → Int → Option α) (G : β → List UInt8 → α)
 (h0 : ∀ a, Ev (fun k => F k a (s.size : Int)) (G a []))
 (h1 : ∀ a (i : Nat) (b : UInt8), i < s.size → (bs s).drop i = b :: (bs s).drop (i + 1) → bt s (i : Int) = (b.toNat : Int) →
  (∀ a', Ev (fun k => F k a' (((i + 1 : Nat) : Int))) (G a' ((bs s).drop (i + 1)))) → Ev (fun k => F k a (i : Int)) (G a (b :: (bs s).drop (i + 1)))) :
 ∀ (n i : Nat) (a : β), i + n = s.size → Ev (fun k => F k a (i : Int)) (G a ((bs s).drop i))
 | 0, i, a, h => by
  have : i = s.size := by omega
  subst this
  rw [List.drop_eq_nil_of_le (by rw [bs_len]; omega)]
  exact h0 a
 | n + 1, i, a, h => by
  obtain ⟨b, hb, hbt⟩ := at_drop s i (by omega)
  rw [hb]
  exact h1 a i b (by omega) hb hbt (fun a' => scan s F G h0 h1 n (i + 1) a' (by omega))
def smallC (n : Nat) : Bool := decide (97 ≤ n) && decide (n ≤ 122)
def innerC (n : Nat) : Bool := smallC n || (decide (65 ≤ n) && decide (n ≤ 90)) || (decide (48 ≤ n) && decide (n ≤ 57)) || n == 95
theorem ref_small (n : Nat) : manystrandref01_small.f (n : Int) = some (smallC n) := by
 unfold manystrandref01_small.f smallC
 by_cases h : 97 ≤ n
 · rw [if_pos (by omega)]; simp [h]; omega
 · rw [if_neg (by omega)]; simp [h]
theorem tok_small (n : Nat) : token_lower.f (n : Int) = some (smallC n) := by
 unfold token_lower.f smallC
 by_cases h : 97 ≤ n
 · rw [if_pos (by omega)]; simp [h]; omega
 · rw [if_neg (by omega)]; simp [h]
theorem ref_great (n : Nat) : manystrandref01_great.f (n : Int) = some (decide (65 ≤ n) && decide (n ≤ 90)) := by
 unfold manystrandref01_great.f
 by_cases h : 65 ≤ n
 · rw [if_pos (by omega)]; simp [h]; omega
 · rw [if_neg (by omega)]; simp [h]
theorem tok_great (n : Nat) : token_upper.f (n : Int) = some (decide (65 ≤ n) && decide (n ≤ 90)) := by
 unfold token_upper.f
 by_cases h : 65 ≤ n
 · rw [if_pos (by omega)]; simp [h]; omega
 · rw [if_neg (by omega)]; simp [h]
theorem ref_digit (n : Nat) : manystrandref01_digit.f (n : Int) = some (decide (48 ≤ n) && decide (n ≤ 57)) := by
 unfold manystrandref01_digit.f
 by_cases h : 48 ≤ n
 · rw [if_pos (by omega)]; simp [h]; omega
 · rw [if_neg (by omega)]; simp [h]
theorem tok_digit (n : Nat) : token_digit.f (n : Int) = some (decide (48 ≤ n) && decide (n ≤ 57)) := by
 unfold token_digit.f
 by_cases h : 48 ≤ n
 · rw [if_pos (by omega)]; simp [h]; omega
 · rw [if_neg (by omega)]; simp [h]
theorem beq95 (n : Nat) : ((n : Int) == 95) = (n == 95) := by
 rw [Bool.eq_iff_iff]; simp; omega
theorem ref_inner (n : Nat) : manystrandref01_inner.f (n : Int) = some (innerC n) := by
 unfold manystrandref01_inner.f innerC
 simp only [ref_small, ref_great, ref_digit, Option.bind_some, beq95]
 cases smallC n <;> cases (decide (65 ≤ n) && decide (n ≤ 90)) <;> cases (decide (48 ≤ n) && decide (n ≤ 57)) <;> simp
theorem tok_inner (n : Nat) : token_word.f (n : Int) = some (innerC n) := by
 unfold token_word.f innerC
 simp only [tok_small, tok_great, tok_digit, Option.bind_some, beq95]
 cases smallC n <;> cases (decide (65 ≤ n) && decide (n ≤ 90)) <;> cases (decide (48 ≤ n) && decide (n ≤ 57)) <;> simp
theorem evTo {α : Type} {g : Nat → Option α} {a b : α} (e : a = b) (h : Ev g a) : Ev g b := e ▸ h
theorem ref_word (s : ByteArray) (hs : s.size ≤ 4611686018427387904) :
 Ev (fun k => manystrandref01_word.f k s) ((bs s).all (fun b => innerC b.toNat) && !(bs s).isEmpty && decide (s.size ≤ 60)) := by
 have := scan (β := Unit) s (fun k _ i => manystrandref01_word.l0 k s i) (fun _ l => l.all (fun b => innerC b.toNat) && !(bs s).isEmpty && decide (s.size ≤ 60)) ?_ ?_ s.size 0 () (by omega)
 · simpa [manystrandref01_word.f] using this
 · intro _
   refine Ev.step (f := fun _ => some _) (fun k => ?_) (Ev.now _)
   rw [manystrandref01_word.l0, if_neg (by omega)]
   cases hl : bs s with
   | nil => rw [if_pos (by rw [tl_bs, hl])]; simp [hl]
   | cons a l => rw [if_neg (by rw [tl_bs, hl]; simp)]; simp; omega
 · intro _ i b hi hd hb ih
   have hw : wrap64 ((i : Int) + 1) = ((i + 1 : Nat) : Int) := by rw [w64 (by omega) (by omega)]; omega
   by_cases c : innerC b.toNat = true
   rotate_left
   · refine evTo (by simp [c]) (Ev.step (f := fun k => some false) (fun k => ?_) (Ev.now _))
     rw [manystrandref01_word.l0, if_pos (by omega), if_pos (by omega), hb, ref_inner]
     simp [c]
   refine evTo (by simp [c]) (Ev.step (f := fun k => manystrandref01_word.l0 k s ((i + 1 : Nat) : Int)) (fun k => ?_) (ih ()))
   rw [manystrandref01_word.l0, if_pos (by omega), if_pos (by omega), hb, ref_inner, hw]
   simp [c]
theorem tok_words (s : ByteArray) (hs : s.size ≤ 4611686018427387904) :
 Ev (fun k => token_words.f k s) ((bs s).all (fun b => innerC b.toNat)) := by
 have := scan (β := Unit) s (fun k _ i => token_words.l0 k s (s.size : Int) i) (fun _ l => l.all (fun b => innerC b.toNat)) ?_ ?_ s.size 0 () (by omega)
 · simpa [token_words.f] using this
 · intro _
   refine Ev.step (f := fun _ => some _) (fun k => ?_) (Ev.now _)
   rw [token_words.l0, if_neg (by omega)]; rfl
 · intro _ i b hi hd hb ih
   have hw : wrap64 ((i : Int) + 1) = ((i + 1 : Nat) : Int) := by rw [w64 (by omega) (by omega)]; omega
   by_cases c : innerC b.toNat = true
   rotate_left
   · refine evTo (by simp [c]) (Ev.step (f := fun k => some false) (fun k => ?_) (Ev.now _))
     rw [token_words.l0, if_pos (by omega), if_pos (by omega), if_pos (by omega), hb, tok_inner]
     simp [c]
   refine evTo (by simp [c]) (Ev.step (f := fun k => token_words.l0 k s (s.size : Int) ((i + 1 : Nat) : Int)) (fun k => ?_) (ih ()))
   rw [token_words.l0, if_pos (by omega), if_pos (by omega), if_pos (by omega), hb, tok_inner, hw]
   simp [c]
def okC (n : Nat) : Bool := n == 10 || (decide (32 ≤ n) && decide (n ≤ 126))
theorem ref_inside (s : ByteArray) (m : Int) (hs : s.size ≤ 4611686018427387904) :
 Ev (fun k => manystrandref01_inside.f k s m) ((bs s).all (fun b => okC b.toNat) && decide ((s.size : Int) ≤ m)) := by
 have := scan (β := Unit) s (fun k _ i => manystrandref01_inside.l0 k s m i) (fun _ l => l.all (fun b => okC b.toNat) && decide ((s.size : Int) ≤ m)) ?_ ?_ s.size 0 () (by omega)
 · simpa [manystrandref01_inside.f] using this
 · intro _
   refine Ev.step (f := fun _ => some _) (fun k => ?_) (Ev.now _)
   rw [manystrandref01_inside.l0, if_neg (by omega)]; simp
 · intro _ i b hi hd hb ih
   have hw : wrap64 ((i : Int) + 1) = ((i + 1 : Nat) : Int) := by rw [w64 (by omega) (by omega)]; omega
   by_cases c : okC b.toNat = true
   · refine evTo (by simp [c]) (Ev.step (f := fun k => manystrandref01_inside.l0 k s m ((i + 1 : Nat) : Int)) (fun k => ?_) (ih ()))
     rw [manystrandref01_inside.l0, if_pos (by omega), if_pos (by omega), hb, hw]
     simp only [okC, Bool.or_eq_true, Bool.and_eq_true, beq_iff_eq, decide_eq_true_eq] at c
     by_cases c1 : b.toNat = 10
     rotate_left
     · rw [if_neg (by omega), if_neg (by omega), if_neg (by omega)]
     rw [if_pos (by omega)]
   refine evTo (by simp [c]) (Ev.step (f := fun k => some false) (fun k => ?_) (Ev.now _))
   rw [manystrandref01_inside.l0, if_pos (by omega), if_pos (by omega), hb]
   simp only [okC, Bool.or_eq_true, Bool.and_eq_true, beq_iff_eq, decide_eq_true_eq] at c
   rw [if_neg (by omega)]
   by_cases c1 : b.toNat < 32
   rotate_left
   · rw [if_neg (by omega), if_pos (by omega)]
   rw [if_pos (by omega)]
theorem tok_printed (s : ByteArray) (m : Int) (hs : s.size ≤ 4611686018427387904) :
 Ev (fun k => token_printed.f k s m) ((bs s).all (fun b => okC b.toNat) && decide ((s.size : Int) ≤ m)) := by
 have := scan (β := Unit) s (fun k _ i => token_printed.l0 k s m (s.size : Int) i) (fun _ l => l.all (fun b => okC b.toNat) && decide ((s.size : Int) ≤ m)) ?_ ?_ s.size 0 () (by omega)
 · simpa [token_printed.f] using this
 · intro _
   refine Ev.step (f := fun _ => some _) (fun k => ?_) (Ev.now _)
   rw [token_printed.l0, if_neg (by omega)]; simp
 · intro _ i b hi hd hb ih
   have hw : wrap64 ((i : Int) + 1) = ((i + 1 : Nat) : Int) := by rw [w64 (by omega) (by omega)]; omega
   by_cases c : okC b.toNat = true
   · refine evTo (by simp [c]) (Ev.step (f := fun k => token_printed.l0 k s m (s.size : Int) ((i + 1 : Nat) : Int)) (fun k => ?_) (ih ()))
     rw [token_printed.l0, if_pos (by omega), if_pos (by omega), if_pos (by omega), hb, hw]
     simp only [okC, Bool.or_eq_true, Bool.and_eq_true, beq_iff_eq, decide_eq_true_eq] at c
     by_cases c1 : b.toNat = 10
     rotate_left
     · rw [if_neg (by omega), if_neg (by omega), if_neg (by omega)]
     rw [if_pos (by omega)]
   refine evTo (by simp [c]) (Ev.step (f := fun k => some false) (fun k => ?_) (Ev.now _))
   rw [token_printed.l0, if_pos (by omega), if_pos (by omega), if_pos (by omega), hb]
   simp only [okC, Bool.or_eq_true, Bool.and_eq_true, beq_iff_eq, decide_eq_true_eq] at c
   rw [if_neg (by omega)]
   by_cases c1 : b.toNat < 32
   rotate_left
   · rw [if_neg (by omega), if_pos (by omega)]
   rw [if_pos (by omega)]
def atomB (s : ByteArray) : Bool := (bs s).all (fun b => okC b.toNat) && decide (s.size ≤ 60)
theorem dec60 (n : Nat) : decide ((n : Int) ≤ 60) = decide (n ≤ 60) := by
 rw [Bool.eq_iff_iff]; simp; omega
theorem ref_atom (s : ByteArray) (hs : s.size ≤ 4611686018427387904) : Ev (fun k => manystrandref02_IsAtom.f k s) (atomB s) := by
 unfold manystrandref02_IsAtom.f
 exact Ev.bind (evTo (by unfold atomB; rw [dec60]) (ref_inside s 60 hs)) (Ev.now _)
theorem tok_atom (s : ByteArray) (hs : s.size ≤ 4611686018427387904) : Ev (fun k => grammar_isAtom.f k s) (atomB s) := by
 unfold grammar_isAtom.f
 exact Ev.bind (evTo (by unfold atomB; rw [dec60]) (tok_printed s 60 hs)) (Ev.now _)
end Go.Proofs.Ytcnllhnhinmokaa.PHGr
end
section
namespace Go.Proofs.Ytcnllhnhinmokaa.PHGr
open Go.RowKit Go.Proofs.YtcnllhnhinmokaaW.PrintWords Go.Proofs.YtcnllhnhinmokaaW.PrintLast Go.Proofs.YtcnllhnhinmokaaW.PrintMore
set_option linter.unusedVariables false
set_option linter.unusedSimpArgs false
def keys : List (List UInt8) := [[97, 110, 100, 116, 104, 101, 110], [97, 116], [98, 121], [99, 97, 115, 101], [99, 97, 116, 99, 104], [99, 104, 111, 105, 99, 101], [100, 105, 118], [100, 111], [101, 97, 99, 104], [101, 108, 115, 101], [101, 110, 100], [102, 111, 114], [102, 117, 110], [105, 102], [105, 110], [108, 97, 122, 121], [108, 111, 99, 97, 108], [108, 111, 99, 107], [109, 111, 100], [111, 114, 101, 108, 115, 101], [112, 114, 111, 99], [114, 97, 105, 115, 101], [115, 107, 105, 112], [116, 104, 101, 110], [116, 104, 114, 101, 97, 100], [116, 114, 121], [111, 102]]
theorem chain_ {l w : List UInt8} {ws : List (List UInt8)} {x : Option Bool} (h : x = some (decide (l ∈ ws))) : (if l = w then some true else x) = some (decide (l ∈ w :: ws)) := by
 by_cases c : l = w
 rotate_left
 · rw [if_neg c, h]; simp [c]
 rw [if_pos c]; simp [c]
theorem tok_key (s : ByteArray) : token_isKey.f s = some (decide (bs s ∈ keys)) := by
 unfold token_isKey.f keys
 rw [tl_bs]
 repeat' refine chain_ ?_
 simp
theorem ext_bs (s : ByteArray) (a b : Nat) : (s.extract a b).toList = ((bs s).drop a).take (b - a) := by
 rw [tl_bs]
 simp [bs, ByteArray.data_extract, Array.toList_extract, List.extract_eq_take_drop]
theorem app_bs (a b : ByteArray) : bs (a ++ b) = bs a ++ bs b := by simp [bs, ByteArray.data_append]
theorem infix_cut {w u R suf pre : List UInt8} (hw : (32 : UInt8) ∉ w) (hu : (32 : UInt8) ∉ u) (h : pre ++ (32 :: w ++ [32]) ++ suf = 32 :: (u ++ 32 :: R)) :
 w = u ∨ ∃ pre', pre' ++ (32 :: w ++ [32]) ++ suf = 32 :: R := by
 cases pre with
 | nil =>
  left
  simp only [List.nil_append, List.cons_append, List.cons.injEq, true_and, List.append_assoc] at h
  rcases List.append_eq_append_iff.1 h with ⟨x, h1, h2⟩ | ⟨x, h1, h2⟩
  · cases x with
    | nil => simpa using h1.symm
    | cons c x =>
     simp only [List.cons_append, List.cons.injEq] at h2
     exact absurd (by rw [h1, ← h2.1]; simp) hu
  · cases x with
    | nil => simpa using h1
    | cons c x =>
     simp only [List.cons_append, List.cons.injEq] at h2
     exact absurd (by rw [h1, ← h2.1]; simp) hw
 | cons c pre =>
  right
  simp only [List.cons_append, List.cons.injEq, List.append_assoc] at h
  obtain ⟨-, h⟩ := h
  rcases List.append_eq_append_iff.1 h with ⟨x, h1, h2⟩ | ⟨x, h1, h2⟩
  · cases x with
    | nil => exact ⟨[], by simpa using h2⟩
    | cons c x =>
     simp only [List.cons_append, List.cons.injEq] at h2
     exact absurd (by rw [h1, ← h2.1]; simp) hu
  · exact ⟨x, by rw [h2]; simp⟩
theorem infix_in {w : List UInt8} (hw : (32 : UInt8) ∉ w) : ∀ (ws : List (List UInt8)) (pre suf : List UInt8), (∀ u ∈ ws, (32 : UInt8) ∉ u) → pre ++ (32 :: w ++ [32]) ++ suf = 32 :: ws.flatMap (· ++ [32]) → w ∈ ws
 | [], pre, suf, _, h => by
  have := congrArg List.length h
  simp at this
  omega
 | u :: ws, pre, suf, hu, h => by
  replace h : pre ++ (32 :: w ++ [32]) ++ suf = 32 :: (u ++ 32 :: ws.flatMap (· ++ [32])) := by rw [h, List.flatMap_cons]; simp
  rcases infix_cut hw (hu u (by simp)) h with rfl | ⟨pre', h'⟩
  · simp
  · exact List.mem_cons_of_mem _ (infix_in hw ws pre' suf (fun u hm => hu u (by simp [hm])) h')
theorem in_infix {w : List UInt8} : ∀ (ws : List (List UInt8)), w ∈ ws → (32 :: w ++ [32]) <:+: 32 :: ws.flatMap (· ++ [32])
 | u :: ws, h => by
  rcases List.mem_cons.1 h with rfl | h
  · exact ⟨[], ws.flatMap (· ++ [32]), by simp⟩
  · obtain ⟨p, q, e⟩ := in_infix ws h
    refine ⟨32 :: u ++ p, q, ?_⟩
    rw [List.flatMap_cons]
    simp only [List.cons_append, List.append_assoc, List.cons.injEq, true_and] at e ⊢
    rw [e]; simp
theorem keys_infix {w : List UInt8} (hw : (32 : UInt8) ∉ w) (ws : List (List UInt8)) (hu : ∀ u ∈ ws, (32 : UInt8) ∉ u) :
 decide ((32 :: w ++ [32]) <:+: 32 :: ws.flatMap (· ++ [32])) = decide (w ∈ ws) := by
 rw [Bool.eq_iff_iff, decide_eq_true_eq, decide_eq_true_eq]
 refine ⟨fun ⟨p, q, e⟩ => infix_in hw ws p q hu e, in_infix ws⟩
theorem among_l1 (s K : ByteArray) (h0 : bs s ≠ []) (hs : s.size ≤ 4611686018427387904) (hK : K.size ≤ 2305843009213693952) :
 ∀ (n i : Nat), i + n = K.size → Ev (fun k => manystrandref01_Among.l1 k s K (i : Int)) (decide ((32 :: bs s ++ [32]) <:+: (bs K).drop i)) := by
 intro n
 induction n with
 | zero =>
  intro i hi
  refine evTo (a := false) ?_ (Ev.step (f := fun k => some false) (fun k => ?_) (Ev.now _))
  · symm
    rw [decide_eq_false_iff_not]
    intro h
    have := h.length_le
    rw [List.drop_eq_nil_of_le (by rw [bs_len]; omega)] at this
    simp at this
  · rw [manystrandref01_Among.l1, if_neg]
    rw [w64 (n := (i : Int) + (s.size : Int)) (by omega) (by omega), w64 (by omega) (by omega)]
    omega
 | succ n ih =>
  intro i hi
  have hw1 : wrap64 (wrap64 ((i : Int) + (s.size : Int)) + 2) = ((i + s.size + 2 : Nat) : Int) := by
   rw [w64 (n := (i : Int) + (s.size : Int)) (by omega) (by omega), w64 (by omega) (by omega)]
   omega
  have hw : wrap64 ((i : Int) + 1) = ((i + 1 : Nat) : Int) := by rw [w64 (by omega) (by omega)]; omega
  obtain ⟨b, hb, -⟩ := at_drop K i (by omega)
  by_cases c : i + s.size + 2 ≤ K.size
  rotate_left
  · refine evTo (a := false) ?_ (Ev.step (f := fun k => some false) (fun k => ?_) (Ev.now _))
    · symm
      rw [decide_eq_false_iff_not]
      intro h
      have := h.length_le
      simp [bs_len] at this
      omega
    · rw [manystrandref01_Among.l1, hw1, if_neg (by omega)]
  by_cases e : (32 :: bs s ++ [32]) = ((bs K).drop i).take (s.size + 2)
  · refine evTo (a := true) ?_ (Ev.step (f := fun k => some true) (fun k => ?_) (Ev.now _))
    · symm
      rw [decide_eq_true_eq, e]
      exact (List.take_prefix _ _).isInfix
    · rw [manystrandref01_Among.l1, hw1, if_pos (by omega), if_neg (by rw [tl_bs]; exact h0), if_pos (by omega), if_pos (by omega), if_pos (by omega), if_pos (by simp [ByteArray.size_append]; have : (⟨#[32]⟩ : ByteArray).size = 1 := rfl; omega), if_pos]
      rw [ext_bs, tl_bs, app_bs, app_bs, Int.toNat_natCast, Int.toNat_natCast, show i + s.size + 2 - i = s.size + 2 by omega, ← e]
      simp [bs]
  · refine evTo ?_ (Ev.step (f := fun k => manystrandref01_Among.l1 k s K ((i + 1 : Nat) : Int)) (fun k => ?_) (ih (i + 1) (by omega)))
    · rw [hb, Bool.eq_iff_iff, decide_eq_true_eq, decide_eq_true_eq, List.infix_cons_iff, ← hb]
      refine ⟨.inr, fun h => h.resolve_left fun h => e ?_⟩
      rw [List.prefix_iff_eq_take] at h
      simpa [bs_len] using h
    · rw [manystrandref01_Among.l1, hw1, if_pos (by omega), if_neg (by rw [tl_bs]; exact h0), if_pos (by omega), if_pos (by omega), if_pos (by omega), if_pos (by simp [ByteArray.size_append]; have : (⟨#[32]⟩ : ByteArray).size = 1 := rfl; omega), if_neg, hw]
      rw [ext_bs, tl_bs, app_bs, app_bs, Int.toNat_natCast, Int.toNat_natCast, show i + s.size + 2 - i = s.size + 2 by omega]
      intro e'
      exact e (by rw [e']; simp [bs])
theorem among_f (s K : ByteArray) (h0 : bs s ≠ []) (hb : (32 : UInt8) ∉ bs s) (hs : s.size ≤ 4611686018427387904) (hK : K.size ≤ 2305843009213693952) :
 Ev (fun k => manystrandref01_Among.f k s K) (decide ((32 :: bs s ++ [32]) <:+: bs K)) := by
 have := scan (β := Unit) s (fun k _ i => manystrandref01_Among.l0 k s K i) (fun _ l => if 32 ∈ l then false else decide ((32 :: bs s ++ [32]) <:+: bs K)) ?_ ?_ s.size 0 () (by omega)
 · simpa [manystrandref01_Among.f, hb] using this
 · intro _
   refine evTo (by simp) (Ev.step (f := fun k => manystrandref01_Among.l1 k s K 0) (fun k => ?_) (among_l1 s K h0 hs hK K.size 0 (by omega)))
   rw [manystrandref01_Among.l0, if_neg (by omega)]
 · intro _ i b hi hd hbt ih
   have hw : wrap64 ((i : Int) + 1) = ((i + 1 : Nat) : Int) := by rw [w64 (by omega) (by omega)]; omega
   by_cases c : b = 32
   · refine evTo (by simp [c]) (Ev.step (f := fun k => some false) (fun k => ?_) (Ev.now _))
     rw [manystrandref01_Among.l0, if_pos (by omega), if_pos (by omega), hbt, if_pos (by rw [c]; rfl)]
   refine evTo (by simp [Ne.symm c]) (Ev.step (f := fun k => manystrandref01_Among.l0 k s K ((i + 1 : Nat) : Int)) (fun k => ?_) (ih ()))
   rw [manystrandref01_Among.l0, if_pos (by omega), if_pos (by omega), hbt, if_neg, hw]
   intro h
   exact c (UInt8.toNat_inj.1 (by have : (32 : UInt8).toNat = 32 := rfl; omega))
theorem ref_key (s : ByteArray) (h0 : bs s ≠ []) (hb : (32 : UInt8) ∉ bs s) (hs : s.size ≤ 4611686018427387904) : Ev (fun k => manystrandref01_IsKey.f k s) (decide (bs s ∈ keys)) := by
 unfold manystrandref01_IsKey.f
 refine Ev.bind (a := decide (bs s ∈ keys)) (evTo ?_ (among_f s _ h0 hb hs (by decide +kernel))) (Ev.now _)
 rw [← keys_infix hb keys (by decide +kernel)]
 congr 1
def plainB (s : ByteArray) : Bool := !(bs s).isEmpty && decide (s.size ≤ 60) && smallC (bt s 0).toNat && (bs s).all (fun b => innerC b.toNat) && !decide (bs s ∈ keys)
theorem inner_32 {l : List UInt8} (h : l.all (fun b => innerC b.toNat) = true) : (32 : UInt8) ∉ l := by
 intro hm
 have := List.all_eq_true.1 h _ hm
 revert this
 decide
theorem bt_nat (s : ByteArray) (i : Int) : bt s i = ((bt s i).toNat : Int) := by have := bt_range s i; omega
theorem ref_plain (s : ByteArray) (hs : s.size ≤ 4611686018427387904) : Ev (fun k => manystrandref01_IsPlain.f k s) (plainB s) := by
 unfold manystrandref01_IsPlain.f
 refine Ev.bind (ref_word s hs) ?_
 by_cases c : ((bs s).all (fun b => innerC b.toNat) && !(bs s).isEmpty && decide (s.size ≤ 60)) = true
 rotate_left
 · refine evTo ?_ (Ev.congr (f := fun k => some false) (fun k => by rw [if_neg c]) (Ev.now _))
   unfold plainB
   cases h1 : (bs s).all (fun b => innerC b.toNat) <;> cases h2 : (bs s).isEmpty <;> cases h3 : decide (s.size ≤ 60) <;> simp_all
 rw [c]
 simp only [if_true]
 simp only [Bool.and_eq_true, Bool.not_eq_true', List.isEmpty_eq_false_iff, decide_eq_true_eq] at c
 have hp : 0 < s.size := by rw [← bs_len]; exact List.length_pos_iff.2 c.1.2
 rw [bt_nat]
 simp only [ref_small, Option.bind_some, if_pos (show 0 < (s.size : Int) by omega)]
 by_cases d : smallC (bt s 0).toNat = true
 · rw [d]
   simp only [if_true]
   refine evTo ?_ (Ev.bind (ref_key s c.1.2 (inner_32 c.1.1) hs) (Ev.now _))
   unfold plainB
   have c0' : ¬ s.data = #[] := by intro e; apply c.1.2; simp [bs, e]
   simp [c.1.1, c.1.2, c.2, d, c0']
 · refine evTo ?_ (Ev.congr (f := fun k => some false) (fun k => by rw [if_neg d]) (Ev.now _))
   unfold plainB
   simp [d]
theorem tok_plain (s : ByteArray) (hs : s.size ≤ 4611686018427387904) : Ev (fun k => token_IsPlain.f k s) (plainB s) := by
 unfold token_IsPlain.f
 rw [tl_bs]
 by_cases c0 : bs s = []
 · refine evTo ?_ (Ev.congr (f := fun k => some false) (fun k => by rw [if_pos c0]) (Ev.now _))
   unfold plainB
   rw [c0]; rfl
 have hp : 0 < s.size := by rw [← bs_len]; exact List.length_pos_iff.2 c0
 simp only [if_neg c0]
 by_cases c1 : s.size ≤ 60
 rotate_left
 · refine evTo ?_ (Ev.congr (f := fun k => some false) (fun k => by rw [if_neg (by omega)]) (Ev.now _))
   unfold plainB
   simp [c1]
 simp only [if_pos (show (s.size : Int) ≤ 60 by omega), if_pos (show 0 < (s.size : Int) by omega)]
 rw [bt_nat]
 simp only [tok_small, Option.bind_some]
 by_cases d : smallC (bt s 0).toNat = true
 · rw [d]
   simp only [if_true]
   refine Ev.bind (tok_words s hs) ?_
   by_cases e : (bs s).all (fun b => innerC b.toNat) = true
   · rw [e]
     simp only [if_true, tok_key, Option.bind_some]
     refine evTo ?_ (Ev.now _)
     unfold plainB
     have c0' : ¬ s.data = #[] := by intro e; apply c0; simp [bs, e]
     simp [c0, c1, d, e, c0']
   · refine evTo ?_ (Ev.congr (f := fun k => some false) (fun k => by rw [if_neg e]) (Ev.now _))
     unfold plainB
     simp [e]
 · refine evTo ?_ (Ev.congr (f := fun k => some false) (fun k => by rw [if_neg d]) (Ev.now _))
   unfold plainB
   simp [d]
end Go.Proofs.Ytcnllhnhinmokaa.PHGr
end
section
namespace Go.Proofs.Ytcnllhnhinmokaa.PHGr
open Go.StrMap Go.RowKit Go.Proofs.YtcnllhnhinmokaaW.PrintWords Go.Proofs.YtcnllhnhinmokaaW.PrintLast Go.Proofs.YtcnllhnhinmokaaW.PrintMore
set_option linter.unusedVariables false
set_option linter.unusedSimpArgs false
theorem evDown {α : Type} {g : Nat → Option α} {r : α} (h : Ev (fun k => g (k + 1)) r) : Ev g r := Ev.step (f := fun k => g (k + 1)) (fun _ => rfl) h
theorem scanL {α β γ : Type} (xs : List γ) (F : Nat → β → Int → Option α) (G : β → List γ → α)
 (h0 : ∀ a, Ev (fun k => F k a (xs.length : Int)) (G a []))
 (h1 : ∀ a (i : Nat) (x : γ), i < xs.length → xs.drop i = x :: xs.drop (i + 1) → (∀ d, xs.getD i d = x) → x ∈ xs →
  (∀ a', Ev (fun k => F k a' (((i + 1 : Nat) : Int))) (G a' (xs.drop (i + 1)))) → Ev (fun k => F k a (i : Int)) (G a (x :: xs.drop (i + 1)))) :
 ∀ (n i : Nat) (a : β), i + n = xs.length → Ev (fun k => F k a (i : Int)) (G a (xs.drop i))
 | 0, i, a, h => by
  have : i = xs.length := by omega
  subst this
  rw [List.drop_eq_nil_of_le (by omega)]
  exact h0 a
 | n + 1, i, a, h => by
  have hi : i < xs.length := by omega
  rw [List.drop_eq_getElem_cons hi]
  exact h1 a i xs[i] hi (List.drop_eq_getElem_cons hi) (fun d => by simp [hi]) (List.getElem_mem hi) (fun a' => scanL xs F G h0 h1 n (i + 1) a' (by omega))
mutual
def wt : S52 → Nat
 | ⟨d, t, l⟩ => 20 + d.size + 2 * t.size + wtL l
def wtL : List S52 → Nat
 | [] => 0
 | x :: l => wt x + wtL l
end
theorem wt_eq (p : S52) : wt p = 20 + p.f0.size + 2 * p.f1.size + wtL p.f2 := by cases p; simp [wt]
theorem wtL_len : ∀ l : List S52, 20 * l.length ≤ wtL l
 | [] => by simp [wtL]
 | x :: l => by
  have := wtL_len l
  have := wt_eq x
  simp only [wtL, List.length_cons]
  omega
def endB (d : ByteArray) (n : Nat) : Bool := if bs d = [109, 97, 110, 121] then n == 1 else if bs d = [111, 112, 116] then n == 1 else if bs d = [110, 111, 116] then n == 1 else false
def lateB (d : ByteArray) (n : Nat) : Bool := if (decide (bs d = [115, 101, 113]) || decide (bs d = [111, 114])) = true then decide (1 ≤ n) else endB d n
def midB (d : ByteArray) (n : Nat) : Bool := if (decide (bs d = [97, 110, 121]) || decide (bs d = [110, 111, 116, 104, 105, 110, 103])) = true then n == 0 else lateB d n
def headB (names : List ByteArray) (d t : ByteArray) (n : Nat) : Bool :=
 if bs d = [105, 115] then n == 0 && atomB t else if bs d = [114, 117, 108, 101] then n == 0 && memB t names else decide (bs t = []) && midB d n
mutual
def rightB (names : List ByteArray) : S52 → Bool
 | ⟨d, t, l⟩ => rightL names l && headB names d t l.length
def rightL (names : List ByteArray) : List S52 → Bool
 | [] => true
 | x :: l => rightB names x && rightL names l
end
theorem rightB_eq (names : List ByteArray) (p : S52) : rightB names p = (rightL names p.f2 && headB names p.f0 p.f1 p.f2.length) := by cases p; simp [rightB]
theorem beqdec (a b : List UInt8) : (a == b) = decide (a = b) := by
 rw [Bool.eq_iff_iff]; simp
theorem int0 (n : Nat) : ((n : Int) == 0) = (n == 0) := by rw [Bool.eq_iff_iff]; simp
theorem int1 (n : Nat) : ((n : Int) == 1) = (n == 1) := by rw [Bool.eq_iff_iff]; simp; omega
theorem intp (n : Nat) : decide ((n : Int) ≥ 1) = decide (1 ≤ n) := by rw [Bool.eq_iff_iff]; simp; omega
abbrev nm (g : List S54) : List ByteArray := g.map (·.f0)
def findI : List ByteArray → ByteArray → Nat → Int
 | [], _, _ => -1
 | y :: l, t, i => if y = t then i else findI l t (i + 1)
theorem bs_inj {a b : ByteArray} : bs a = bs b ↔ a = b := ⟨fun h => by cases a; cases b; simp [bs] at h; simp [h], fun h => h ▸ rfl⟩
theorem find_f (g : List S54) (t : ByteArray) (hg : g.length ≤ 4611686018427387904) : Ev (fun k => manystrandref24_find.f k g t) (findI (nm g) t 0) := by
 have := scanL (β := Unit) g (fun k _ i => manystrandref24_find.l0 k t i g) (fun _ l => findI (nm l) t (g.length - l.length)) ?_ ?_ g.length 0 () (by omega)
 · simpa [manystrandref24_find.f] using this
 · intro _
   refine evDown ?_
   simp only [manystrandref24_find.l0, Int.lt_irrefl, if_false]
   exact Ev.now _
 · intro _ i x hi hd hx hm ih
   have hw : wrap64 ((i : Int) + 1) = ((i + 1 : Nat) : Int) := by rw [w64 (by omega) (by omega)]; omega
   refine evDown ?_
   simp only [manystrandref24_find.l0, if_pos (show (i : Int) < (g.length : Int) by omega), if_pos (show (0 : Int) ≤ (i : Int) by omega), hw, tl_bs, rd_T54, Int.toNat_natCast, hx, bs_inj]
   have hn : g.length - (x :: g.drop (i + 1)).length = i := by simp; omega
   rw [hn]
   simp only [nm, List.map_cons, findI]
   by_cases c : x.f0 = t
   · simp only [if_pos c]; exact Ev.now _
   simp only [if_neg c]
   refine evTo ?_ (ih ())
   rw [show g.length - (g.drop (i + 1)).length = i + 1 by simp; omega]
theorem find_pos : ∀ (l : List ByteArray) (t : ByteArray) (i : Nat), decide (findI l t i ≥ 0) = memB t l
 | [], t, i => by simp [findI, memB]
 | y :: l, t, i => by
  unfold findI
  by_cases c : y = t
  rotate_left
  · rw [if_neg c, find_pos l t (i + 1)]
    simp [memB, Ne.symm c]
  rw [if_pos c]
  simp only [memB, List.any_cons, c, decide_true, Bool.true_or, decide_eq_true_eq]
  omega
theorem ref_j2 (d t : ByteArray) (l : List S52) (b : Bool) : Ev (fun k => manystrandref24_right.j2 k d b d t l) (decide (bs t = []) && (if b = true then decide (1 ≤ l.length) else endB d l.length)) := by
 refine evDown ?_
 simp only [manystrandref24_right.j2, tl_bs, beqdec]
 unfold endB
 by_cases b1 : b = true
 · simp only [if_pos b1]
   by_cases n1 : 1 ≤ l.length
   · simp only [if_pos (show (l.length : Int) > 0 by omega)]; exact evTo (by simp [n1]) (Ev.now _)
   · simp only [if_neg (show ¬ (l.length : Int) > 0 by omega)]; exact evTo (by simp [n1]) (Ev.now _)
 · simp only [if_neg b1]
   have hn : ((l.length : Int) = 1) = (l.length = 1) := by apply propext; omega
   simp only [hn]
   by_cases c1 : bs d = [109, 97, 110, 121]
   · simp only [if_pos c1]
     by_cases n1 : l.length = 1
     · simp only [if_pos n1]; exact evTo (by simp [n1]) (Ev.now _)
     · simp only [if_neg n1]; exact evTo (by simp [n1]) (Ev.now _)
   simp only [if_neg c1]
   by_cases c2 : bs d = [111, 112, 116]
   · simp only [if_pos c2]
     by_cases n1 : l.length = 1
     · simp only [if_pos n1]; exact evTo (by simp [n1]) (Ev.now _)
     · simp only [if_neg n1]; exact evTo (by simp [n1]) (Ev.now _)
   simp only [if_neg c2]
   by_cases c3 : bs d = [110, 111, 116]
   · simp only [if_pos c3]
     by_cases n1 : l.length = 1
     · simp only [if_pos n1]; exact evTo (by simp [n1]) (Ev.now _)
     · simp only [if_neg n1]; exact evTo (by simp [n1]) (Ev.now _)
   simp only [if_neg c3]
   exact evTo (by simp) (Ev.now _)
theorem ref_j1 (d t : ByteArray) (l : List S52) (b : Bool) : Ev (fun k => manystrandref24_right.j1 k d b d t l) (decide (bs t = []) && (if b = true then l.length == 0 else lateB d l.length)) := by
 refine evDown ?_
 simp only [manystrandref24_right.j1, tl_bs, beqdec]
 by_cases b1 : b = true
 · simp only [if_pos b1]
   by_cases n1 : l.length = 0
   · simp only [if_pos (show (l.length : Int) = 0 by omega)]; exact evTo (by simp [n1]) (Ev.now _)
   · simp only [if_neg (show ¬ (l.length : Int) = 0 by omega)]; exact evTo (by simp [n1]) (Ev.now _)
 · simp only [if_neg b1]
   unfold lateB
   by_cases c1 : bs d = [115, 101, 113]
   rotate_left
   · simp only [if_neg c1]
     exact evTo (by simp [c1]) (ref_j2 d t l _)
   simp only [if_pos c1]
   exact evTo (by simp [c1]) (ref_j2 d t l _)
theorem ref_head (g : List S54) (d t : ByteArray) (l : List S52) (ht : t.size ≤ 4611686018427387904) (hg : g.length ≤ 4611686018427387904) :
 Ev (fun k => manystrandref24_right.l0 k (l.length : Int) g d t l) (headB (nm g) d t l.length) := by
 refine evDown ?_
 simp only [manystrandref24_right.l0, Int.lt_irrefl, if_false, tl_bs, beqdec]
 unfold headB
 by_cases c1 : bs d = [105, 115]
 · simp only [if_pos c1]
   by_cases n1 : l.length = 0
   · simp only [if_pos (show (l.length : Int) = 0 by omega)]; exact evTo (by simp [n1]) (Ev.bind (ref_atom t ht) (Ev.now _))
   · simp only [if_neg (show ¬ (l.length : Int) = 0 by omega)]; exact evTo (by simp [n1]) (Ev.now _)
 simp only [if_neg c1]
 by_cases c2 : bs d = [114, 117, 108, 101]
 · simp only [if_pos c2]
   by_cases n1 : l.length = 0
   · simp only [if_pos (show (l.length : Int) = 0 by omega)]; exact evTo (by rw [find_pos]; simp [n1]) (Ev.bind (find_f g t hg) (Ev.now _))
   · simp only [if_neg (show ¬ (l.length : Int) = 0 by omega)]; exact evTo (by simp [n1]) (Ev.now _)
 simp only [if_neg c2]
 unfold midB
 by_cases c3 : bs d = [97, 110, 121]
 rotate_left
 · simp only [if_neg c3]
   exact evTo (by simp [c3]) (ref_j1 d t l _)
 simp only [if_pos c3]
 exact evTo (by simp [c3]) (ref_j1 d t l _)
mutual
theorem ref_right (g : List S54) (hg : g.length ≤ 4611686018427387904) : ∀ p : S52, wt p ≤ 4611686018427387904 → Ev (fun k => manystrandref24_right.f k g p.f0 p.f1 p.f2) (rightB (nm g) p)
 | ⟨d, t, l⟩, hp => by
  simp only [wt] at hp
  have hll := wtL_len l
  refine evDown ?_
  simp only [manystrandref24_right.f]
  have ihl := ref_rightL g hg l (by omega)
  have := scanL (β := Unit) l (fun k _ i => manystrandref24_right.l0 k i g d t l) (fun _ m => rightL (nm g) m && headB (nm g) d t l.length) ?_ ?_ l.length 0 () (by omega)
  · exact evTo (by simp [rightB]) this
  · intro _
    exact evTo (by simp [rightL]) (ref_head g d t l (by omega) hg)
  · intro _ i x hi hd hx hm ih
    have hw : wrap64 ((i : Int) + 1) = ((i + 1 : Nat) : Int) := by rw [w64 (by omega) (by omega)]; omega
    refine evDown ?_
    simp only [manystrandref24_right.l0, if_pos (show (i : Int) < (l.length : Int) by omega), if_pos (show (0 : Int) ≤ (i : Int) by omega), hw, rd_T52, Int.toNat_natCast, hx]
    refine Ev.bind (ihl x hm) ?_
    by_cases c : rightB (nm g) x = true
    rotate_left
    · simp only [if_neg c]; exact evTo (by simp [rightL, c]) (Ev.now _)
    simp only [if_pos c]; exact evTo (by simp [rightL, c]) (ih ())
theorem ref_rightL (g : List S54) (hg : g.length ≤ 4611686018427387904) : ∀ l : List S52, wtL l ≤ 4611686018427387904 → ∀ x ∈ l, Ev (fun k => manystrandref24_right.f k g x.f0 x.f1 x.f2) (rightB (nm g) x)
 | [], _, _, hm => absurd hm (by simp)
 | y :: l, hl, x, hm => by
  simp only [wtL] at hl
  rcases List.mem_cons.1 hm with hm | hm
  · rw [hm]; exact ref_right g hg y (by omega)
  · exact ref_rightL g hg l (by omega) x hm
end
theorem my_j2 (d : ByteArray) (n : Nat) (b : Bool) : Ev (fun k => grammar_right.j2 k (n : Int) d b) (if b = true then decide (1 ≤ n) else endB d n) := by
 refine evDown ?_
 simp only [grammar_right.j2, tl_bs, int1, intp]
 unfold endB
 by_cases b1 : b = true
 · simp only [if_pos b1]; exact Ev.now _
 simp only [if_neg b1]
 by_cases c1 : bs d = [109, 97, 110, 121]
 · simp only [if_pos c1]; exact Ev.now _
 simp only [if_neg c1]
 by_cases c2 : bs d = [111, 112, 116]
 · simp only [if_pos c2]; exact Ev.now _
 simp only [if_neg c2]
 by_cases c3 : bs d = [110, 111, 116]
 · simp only [if_pos c3]; exact Ev.now _
 simp only [if_neg c3]
 exact Ev.now _
theorem my_j1 (d : ByteArray) (n : Nat) (b : Bool) : Ev (fun k => grammar_right.j1 k (n : Int) d b) (if b = true then n == 0 else lateB d n) := by
 refine evDown ?_
 simp only [grammar_right.j1, tl_bs, int0, beqdec]
 unfold lateB
 by_cases b1 : b = true
 · simp only [if_pos b1]; exact Ev.now _
 simp only [if_neg b1]
 by_cases c1 : bs d = [115, 101, 113]
 rotate_left
 · simp only [if_neg c1]; exact evTo (by simp [c1]) (my_j2 d n _)
 simp only [if_pos c1]; exact evTo (by simp [c1]) (my_j2 d n _)
theorem my_head (names : List ByteArray) (d t : ByteArray) (l m : List S52) (ht : t.size ≤ 4611686018427387904) :
 Ev (fun k => grammar_right.l0 k names (l.length : Int) l (l.length : Int) (l.length : Int) d t m) (headB names d t l.length) := by
 refine evDown ?_
 simp only [grammar_right.l0, Int.lt_irrefl, if_false, tl_bs, beqdec]
 unfold headB
 by_cases c1 : bs d = [105, 115]
 · simp only [if_pos c1]
   by_cases n1 : l.length = 0
   · simp only [if_pos (show (l.length : Int) = 0 by omega)]; exact evTo (by simp [n1]) (Ev.bind (tok_atom t ht) (Ev.now _))
   · simp only [if_neg (show ¬ (l.length : Int) = 0 by omega)]; exact evTo (by simp [n1]) (Ev.now _)
 simp only [if_neg c1]
 by_cases c2 : bs d = [114, 117, 108, 101]
 · simp only [if_pos c2]
   have hlook : ∃ n : Int, mapS_look.f names t = some (n, memB t names) := by
    by_cases h : memB t names = true
    · obtain ⟨n, hn⟩ := look_hit_f (memB_iff.1 h)
      exact ⟨n, by rw [hn, h]⟩
    · exact ⟨0, by rw [look_miss_f (fun h' => h (memB_iff.2 h'))]; simp [h]⟩
   obtain ⟨n, hn⟩ := hlook
   simp only [hn, Option.bind_some]
   by_cases n1 : l.length = 0
   · simp only [if_pos (show (l.length : Int) = 0 by omega)]; exact evTo (by simp [n1]) (Ev.now _)
   · simp only [if_neg (show ¬ (l.length : Int) = 0 by omega)]; exact evTo (by simp [n1]) (Ev.now _)
 simp only [if_neg c2]
 by_cases c0 : bs t = []
 rotate_left
 · simp only [if_neg c0]
   refine evTo ?_ (Ev.now _)
   rw [decide_eq_false c0, Bool.false_and]
 simp only [if_pos c0]
 unfold midB
 by_cases c3 : bs d = [97, 110, 121]
 · simp only [if_pos c3]
   exact evTo (by simp [c0, c3]) (my_j1 d l.length _)
 simp only [if_neg c3]
 refine evTo ?_ (my_j1 d l.length _)
 rw [decide_eq_true c0, Bool.true_and]
 simp [c3]
mutual
theorem my_right (names : List ByteArray) : ∀ p : S52, wt p ≤ 4611686018427387904 → Ev (fun k => grammar_right.f k p.f0 p.f1 p.f2 names) (rightB names p)
 | ⟨d, t, l⟩, hp => by
  simp only [wt] at hp
  have hll := wtL_len l
  refine evDown ?_
  simp only [grammar_right.f]
  have ihl := my_rightL names l (by omega)
  have := scanL (β := Unit) l (fun k _ i => grammar_right.l0 k names (l.length : Int) l (l.length : Int) i d t l) (fun _ m => rightL names m && headB names d t l.length) ?_ ?_ l.length 0 () (by omega)
  · exact evTo (by simp [rightB]) this
  · intro _
    exact evTo (by simp [rightL]) (my_head names d t l l (by omega))
  · intro _ i x hi hd hx hm ih
    have hw : wrap64 ((i : Int) + 1) = ((i + 1 : Nat) : Int) := by rw [w64 (by omega) (by omega)]; omega
    refine evDown ?_
    simp only [grammar_right.l0, if_pos (show (i : Int) < (l.length : Int) by omega), if_pos (show (0 : Int) ≤ (i : Int) by omega), hw, rd_T52, Int.toNat_natCast, hx]
    refine Ev.bind (ihl x hm) ?_
    by_cases c : rightB names x = true
    rotate_left
    · simp only [if_neg c]; exact evTo (by simp [rightL, c]) (Ev.now _)
    simp only [if_pos c]; exact evTo (by simp [rightL, c]) (ih ())
theorem my_rightL (names : List ByteArray) : ∀ l : List S52, wtL l ≤ 4611686018427387904 → ∀ x ∈ l, Ev (fun k => grammar_right.f k x.f0 x.f1 x.f2 names) (rightB names x)
 | [], _, _, hm => absurd hm (by simp)
 | y :: l, hl, x, hm => by
  simp only [wtL] at hl
  rcases List.mem_cons.1 hm with hm | hm
  · rw [hm]; exact my_right names y (by omega)
  · exact my_rightL names l (by omega) x hm
end
end Go.Proofs.Ytcnllhnhinmokaa.PHGr
end
section
namespace Go.Proofs.Ytcnllhnhinmokaa.PHGr
open Go.StrMap Go.RowKit Go.Proofs.YtcnllhnhinmokaaW.PrintWords Go.Proofs.YtcnllhnhinmokaaW.PrintLast Go.Proofs.YtcnllhnhinmokaaW.PrintMore
set_option linter.unusedVariables false
set_option linter.unusedSimpArgs false
def nodupB : List ByteArray → List ByteArray → Bool
 | _, [] => true
 | seen, x :: l => !memB x seen && nodupB (seen ++ [x]) l
theorem rulesGo_eq : ∀ (l : List S54) (seen : List ByteArray), rulesGo seen l = if nodupB seen (nm l) = true then (seen ++ nm l, true) else ([], false)
 | [], seen => by simp [rulesGo, nodupB]
 | x :: l, seen => by
  unfold rulesGo
  simp only [nm, List.map_cons, nodupB]
  by_cases c : memB x.f0 seen = true
  · simp [c]
  rw [if_neg c, rulesGo_eq l]
  simp [c]
theorem find_at : ∀ (pre l : List ByteArray) (x : ByteArray) (i : Nat), decide (findI (pre ++ x :: l) x i = ((i + pre.length : Nat) : Int)) = !memB x pre
 | [], l, x, i => by simp [findI, memB]
 | y :: pre, l, x, i => by
  simp only [List.cons_append, findI]
  by_cases c : y = x
  · rw [if_pos c]
    simp only [memB, List.any_cons, c, decide_true, Bool.true_or, Bool.not_true, decide_eq_false_iff_not, List.length_cons]
    omega
  rw [if_neg c]
  have := find_at pre l x (i + 1)
  simp only [memB, List.any_cons, decide_eq_false (Ne.symm c), Bool.false_or, List.length_cons] at this ⊢
  rw [← this]
  congr 3
  omega
def wtG : List S54 → Nat
 | [] => 0
 | x :: g => 20 + 2 * x.f0.size + wt x.f1 + wtG g
theorem wtG_len : ∀ g : List S54, 20 * g.length ≤ wtG g
 | [] => by simp [wtG]
 | x :: l => by
  have := wtG_len l
  simp only [wtG, List.length_cons]
  omega
theorem wtG_mem : ∀ {l : List S54} {x : S54}, x ∈ l → 20 + 2 * x.f0.size + wt x.f1 ≤ wtG l
 | y :: l, x, h => by
  simp only [wtG]
  rcases List.mem_cons.1 h with rfl | h
  · omega
  · have := wtG_mem h; omega
def okR (g : List S54) (x : S54) : Bool := plainB x.f0 && rightB (nm g) x.f1
def rightG (g : List S54) : Bool := !g.isEmpty && nodupB [] (nm g) && g.all (okR g)
theorem ref_Right (g : List S54) (hg : wtG g ≤ 4611686018427387904) : Ev (fun k => manystrandref24_Right.f k g) (rightG g) := by
 have hgl := wtG_len g
 have := scanL (β := Unit) g (fun k _ i => manystrandref24_Right.l0 k i g) (fun _ l => (nodupB (nm (g.take (g.length - l.length))) (nm l) && l.all (okR g)) && !g.isEmpty) ?_ ?_ g.length 0 () (by omega)
 · refine evTo ?_ this
   unfold rightG
   simp only [List.drop_zero, Nat.sub_self, List.take_zero, nm, List.map_nil]
   cases g.isEmpty <;> simp
 · intro _
   refine evDown ?_
   simp only [manystrandref24_Right.l0, Int.lt_irrefl, if_false]
   refine evTo ?_ (Ev.now _)
   cases g <;> simp [nodupB] <;> omega
 · intro _ i x hi hd hx hm ih
   have hw : wrap64 ((i : Int) + 1) = ((i + 1 : Nat) : Int) := by rw [w64 (by omega) (by omega)]; omega
   have hwx := wtG_mem hm
   refine evDown ?_
   simp only [manystrandref24_Right.l0, if_pos (show (i : Int) < (g.length : Int) by omega), if_pos (show (0 : Int) ≤ (i : Int) by omega), hw, rd_T54, Int.toNat_natCast, hx]
   have hn : g.length - (x :: g.drop (i + 1)).length = i := by simp; omega
   have hn2 : g.length - (g.drop (i + 1)).length = i + 1 := by simp; omega
   have hsplit : g = g.take i ++ x :: g.drop (i + 1) := by rw [← hd]; exact (List.take_append_drop i g).symm
   have hall : nm (g.take i) ++ x.f0 :: nm (g.drop (i + 1)) = nm g := by
    conv => rhs; rw [hsplit]
    simp [nm]
   have hlen : (nm (g.take i)).length = i := by simp; omega
   have hfind : decide (findI (nm g) x.f0 0 = (i : Int)) = !memB x.f0 (nm (g.take i)) := by
    have := find_at (nm (g.take i)) (nm (g.drop (i + 1))) x.f0 0
    simp only [hall, hlen, Nat.zero_add] at this
    exact this
   rw [hn]
   simp only [nm, List.map_cons, nodupB, List.all_cons]
   have htk : List.map (·.f0) (g.take i) ++ [x.f0] = List.map (·.f0) (g.take (i + 1)) := by
    rw [List.take_succ_eq_append_getElem hi, List.map_append]
    have := hx ⟨⟨#[]⟩, ⟨⟨#[]⟩, ⟨#[]⟩, []⟩⟩
    simp [hi] at this
    simp [this]
   rw [htk]
   have ih' := ih ()
   rw [hn2] at ih'
   refine Ev.bind (ref_plain x.f0 (by omega)) ?_
   by_cases c : plainB x.f0 = true
   rotate_left
   · simp only [if_neg c]
     refine evTo ?_ (Ev.now _)
     simp [okR, c]
   simp only [if_pos c]
   refine Ev.bind (find_f g x.f0 (by omega)) ?_
   by_cases c1 : findI (nm g) x.f0 0 = (i : Int)
   rotate_left
   · simp only [if_neg c1]
     rw [decide_eq_false c1] at hfind
     refine evTo ?_ (Ev.now _)
     simp only [nm] at hfind ⊢
     simp only [← hfind, Bool.false_and]
   simp only [if_pos c1]
   rw [decide_eq_true c1] at hfind
   refine Ev.bind (ref_right g (by omega) x.f1 (by omega)) ?_
   by_cases c2 : rightB (nm g) x.f1 = true
   rotate_left
   · simp only [if_neg c2]
     refine evTo ?_ (Ev.now _)
     simp [okR, c, c2]
   simp only [if_pos c2]
   refine evTo ?_ ih'
   simp only [nm] at hfind ⊢
   simp only [okR, c, c2, ← hfind, Bool.true_and, Bool.and_true]
theorem my_Right (g : List S54) (hg : wtG g ≤ 4611686018427387904) : Ev (fun k => grammar_Right.f k g) (rightG g) := by
 have hgl := wtG_len g
 unfold grammar_Right.f grammar_rules.f
 simp only [Option.bind_some]
 rw [rulesGo_eq]
 by_cases c : nodupB [] (nm g) = true
 rotate_left
 · simp only [if_neg c, Bool.false_eq_true, if_false]
   refine evDown ?_
   simp only [grammar_Right.j0, if_true]
   refine evTo ?_ (Ev.now _)
   unfold rightG
   simp [c]
 simp only [if_pos c, if_true, List.nil_append, int0]
 by_cases e : g = []
 · refine evDown ?_
   subst e
   simp only [grammar_Right.j0]
   exact Ev.now _
 · refine evDown ?_
   have hl : (g.length == 0) = false := by cases g <;> simp_all
   simp only [grammar_Right.j0, hl, Bool.false_eq_true, if_false]
   have := scanL (β := Unit) g (fun k _ i => grammar_Right.l0 k (nm g) g (g.length : Int) i) (fun _ l => l.all (okR g)) ?_ ?_ g.length 0 () (by omega)
   · refine evTo ?_ this
     unfold rightG
     cases g <;> simp_all
   · intro _
     refine evDown ?_
     simp only [grammar_Right.l0, Int.lt_irrefl, if_false]
     exact Ev.now _
   · intro _ i x hi hd hx hm ih
     have hw : wrap64 ((i : Int) + 1) = ((i + 1 : Nat) : Int) := by rw [w64 (by omega) (by omega)]; omega
     have hwx := wtG_mem hm
     refine evDown ?_
     simp only [grammar_Right.l0, if_pos (show (i : Int) < (g.length : Int) by omega), if_pos (show (0 : Int) ≤ (i : Int) by omega), hw, rd_T54, Int.toNat_natCast, hx]
     refine Ev.bind (tok_plain x.f0 (by omega)) ?_
     by_cases c : plainB x.f0 = true
     rotate_left
     · simp only [if_neg c]; exact evTo (by simp [okR, c]) (Ev.now _)
     simp only [if_pos c]
     refine Ev.bind (my_right (nm g) x.f1 (by omega)) ?_
     by_cases c2 : rightB (nm g) x.f1 = true
     rotate_left
     · simp only [if_neg c2]; exact evTo (by simp [okR, c, c2]) (Ev.now _)
     simp only [if_pos c2]; exact evTo (by simp [okR, c, c2]) (ih ())
end Go.Proofs.Ytcnllhnhinmokaa.PHGr
end
section
namespace Go.Proofs.Ytcnllhnhinmokaa.PHGr
open Go.StrMap Go.RowKit Go.Proofs.YtcnllhnhinmokaaW.PrintWords Go.Proofs.YtcnllhnhinmokaaW.PrintLast Go.Proofs.YtcnllhnhinmokaaW.PrintMore
set_option linter.unusedVariables false
set_option linter.unusedSimpArgs false
def toB (l : List UInt8) : ByteArray := ⟨l.toArray⟩
theorem bs_toB (l : List UInt8) : bs (toB l) = l := rfl
theorem toB_bs (s : ByteArray) : toB (bs s) = s := bs_inj.1 (bs_toB _)
theorem size_toB (l : List UInt8) : (toB l).size = l.length := by rw [← bs_len, bs_toB]
theorem scanP {α β : Type} (s : ByteArray) (F : Nat → β → Int → Option α) (P : β → Nat → Prop) (G : β → List UInt8 → α)
 (h0 : ∀ a, P a s.size → Ev (fun k => F k a (s.size : Int)) (G a []))
 (h1 : ∀ a (i : Nat) (b : UInt8), P a i → i < s.size → (bs s).drop i = b :: (bs s).drop (i + 1) → bt s (i : Int) = (b.toNat : Int) →
  (∀ a', P a' (i + 1) → Ev (fun k => F k a' (((i + 1 : Nat) : Int))) (G a' ((bs s).drop (i + 1)))) → Ev (fun k => F k a (i : Int)) (G a (b :: (bs s).drop (i + 1)))) :
 ∀ (n i : Nat) (a : β), i + n = s.size → P a i → Ev (fun k => F k a (i : Int)) (G a ((bs s).drop i))
 | 0, i, a, h, p => by
  have : i = s.size := by omega
  subst this
  rw [List.drop_eq_nil_of_le (by rw [bs_len]; omega)]
  exact h0 a p
 | n + 1, i, a, h, p => by
  obtain ⟨b, hb, hbt⟩ := at_drop s i (by omega)
  rw [hb]
  exact h1 a i b p (by omega) hb hbt (fun a' p' => scanP s F P G h0 h1 n (i + 1) a' (by omega) p')
theorem scanLP {α β γ : Type} (xs : List γ) (F : Nat → β → Int → Option α) (P : β → Nat → Prop) (G : β → List γ → α)
 (h0 : ∀ a, P a xs.length → Ev (fun k => F k a (xs.length : Int)) (G a []))
 (h1 : ∀ a (i : Nat) (x : γ), P a i → i < xs.length → xs.drop i = x :: xs.drop (i + 1) → (∀ d, xs.getD i d = x) → x ∈ xs →
  (∀ a', P a' (i + 1) → Ev (fun k => F k a' (((i + 1 : Nat) : Int))) (G a' (xs.drop (i + 1)))) → Ev (fun k => F k a (i : Int)) (G a (x :: xs.drop (i + 1)))) :
 ∀ (n i : Nat) (a : β), i + n = xs.length → P a i → Ev (fun k => F k a (i : Int)) (G a (xs.drop i))
 | 0, i, a, h, p => by
  have : i = xs.length := by omega
  subst this
  rw [List.drop_eq_nil_of_le (by omega)]
  exact h0 a p
 | n + 1, i, a, h, p => by
  have hi : i < xs.length := by omega
  rw [List.drop_eq_getElem_cons hi]
  exact h1 a i xs[i] p hi (List.drop_eq_getElem_cons hi) (fun d => by simp [hi]) (List.getElem_mem hi) (fun a' p' => scanLP xs F P G h0 h1 n (i + 1) a' (by omega) p')
def q1 (b : UInt8) : List UInt8 := if b = 39 then [92, 39] else if b = 92 then [92, 92] else if b = 10 then [92, 110] else [b]
def qB (l : List UInt8) : List UInt8 := l.flatMap q1
theorem q1_len (b : UInt8) : (q1 b).length ≤ 2 := by unfold q1; (repeat' split) <;> simp
theorem qB_len : ∀ l : List UInt8, (qB l).length ≤ 2 * l.length
 | [] => by simp [qB]
 | b :: l => by
  have := qB_len l
  have := q1_len b
  simp only [qB, List.flatMap_cons, List.length_append, List.length_cons] at *
  omega
def quoteB (t : List UInt8) : List UInt8 := 39 :: qB t ++ [39]
theorem one_ext (s : ByteArray) (i : Nat) (b : UInt8) (hd : (bs s).drop i = b :: (bs s).drop (i + 1)) : s.extract ((i : Int)).toNat (((i + 1 : Nat) : Int)).toNat = toB [b] := by
 rw [← bs_inj, ← tl_bs, ext_bs, Int.toNat_natCast, Int.toNat_natCast, hd, show i + 1 - i = 1 by omega]
 rfl
theorem u8 {b : UInt8} {n : Nat} (hn : n < 256) : (b.toNat : Int) = (n : Int) ↔ b = UInt8.ofNat n := by
 constructor
 · intro h
   apply UInt8.toNat_inj.1
   rw [UInt8.toNat_ofNat']
   omega
 · rintro rfl
   rw [UInt8.toNat_ofNat']
   omega
theorem toB_cat (a : ByteArray) (x y : List UInt8) : (a ++ toB x) ++ toB y = a ++ toB (x ++ y) := by
 rw [← bs_inj]; simp [app_bs, bs_toB]
theorem ref_quoted (s : ByteArray) (hs : s.size ≤ 2305843009213693952) : Ev (fun k => manystrandref24_quoted.f k s) (toB (quoteB (bs s))) := by
 have := scanP (β := ByteArray) s (fun k a i => manystrandref24_quoted.l0 k s a i) (fun a i => a.size ≤ 1 + 2 * i) (fun a l => a ++ toB (qB l ++ [39])) ?_ ?_ s.size 0 (toB [39]) (by omega) (by rw [size_toB]; simp)
 · exact evTo (by rw [← bs_inj]; simp [app_bs, bs_toB, quoteB]) this
 · intro a p
   refine evDown ?_
   simp only [manystrandref24_quoted.l0, Int.lt_irrefl, if_false]
   simp only [if_pos (show a.size + 1 ≤ 9223372036854775807 by omega)]
   exact evTo rfl (Ev.now _)
 · intro a i b p hi hd hb ih
   have hw : wrap64 ((i : Int) + 1) = ((i + 1 : Nat) : Int) := by rw [w64 (by omega) (by omega)]; omega
   refine evDown ?_
   simp only [manystrandref24_quoted.l0, if_pos (show (i : Int) < (s.size : Int) by omega), if_pos (show (0 : Int) ≤ (i : Int) by omega), hw, hb, one_ext s i b hd, size_toB,
    if_pos (show a.size + 2 ≤ 9223372036854775807 by omega), if_pos (show (i : Int) ≤ ((i + 1 : Nat) : Int) by omega), if_pos (show ((i + 1 : Nat) : Int) ≤ (s.size : Int) by omega),
    List.length_cons, List.length_nil, if_pos (show a.size + (0 + 1) ≤ 9223372036854775807 by omega)]
   have go : ∀ x : List UInt8, q1 b = x → x.length ≤ 2 → Ev (fun k => manystrandref24_quoted.l0 k s (a ++ toB x) ((i + 1 : Nat) : Int)) (a ++ toB (qB (b :: (bs s).drop (i + 1)) ++ [39])) := by
    intro x hx hl
    refine evTo ?_ (ih (a ++ toB x) (by rw [ByteArray.size_append, size_toB]; omega))
    rw [toB_cat, ← hx]; simp [qB]
   by_cases c1 : b = 39
   · simp only [if_pos (show (b.toNat : Int) = 39 from (u8 (n := 39) (by omega)).2 c1)]
     exact go [92, 39] (by simp [q1, c1]) (by simp)
   simp only [if_neg (show ¬ (b.toNat : Int) = 39 from fun h => c1 ((u8 (n := 39) (by omega)).1 h))]
   by_cases c2 : b = 92
   · simp only [if_pos (show (b.toNat : Int) = 92 from (u8 (n := 92) (by omega)).2 c2)]
     exact go [92, 92] (by simp [q1, c2]) (by simp)
   simp only [if_neg (show ¬ (b.toNat : Int) = 92 from fun h => c2 ((u8 (n := 92) (by omega)).1 h))]
   by_cases c3 : b = 10
   · simp only [if_pos (show (b.toNat : Int) = 10 from (u8 (n := 10) (by omega)).2 c3)]
     exact go [92, 110] (by simp [q1, c3]) (by simp)
   simp only [if_neg (show ¬ (b.toNat : Int) = 10 from fun h => c3 ((u8 (n := 10) (by omega)).1 h))]
   exact go [b] (by simp [q1, c1, c2, c3]) (by simp)
theorem my_quoted (s : ByteArray) (hs : s.size ≤ 2305843009213693952) : Ev (fun k => grammar_quoted.f k s) (toB (quoteB (bs s))) := by
 have := scanP (β := ByteArray) s (fun k a i => grammar_quoted.l0 k s a i) (fun a i => a.size ≤ 1 + 2 * i) (fun a l => a ++ toB (qB l ++ [39])) ?_ ?_ s.size 0 (toB [39]) (by omega) (by rw [size_toB]; simp)
 · exact evTo (by rw [← bs_inj]; simp [app_bs, bs_toB, quoteB]) this
 · intro a p
   refine evDown ?_
   simp only [grammar_quoted.l0, Int.lt_irrefl, if_false]
   simp only [if_pos (show a.size + 1 ≤ 9223372036854775807 by omega)]
   exact evTo rfl (Ev.now _)
 · intro a i b p hi hd hb ih
   have hw : wrap64 ((i : Int) + 1) = ((i + 1 : Nat) : Int) := by rw [w64 (by omega) (by omega)]; omega
   have go : ∀ x : List UInt8, q1 b = x → x.length ≤ 2 → Ev (fun k => grammar_quoted.l0 k s (a ++ toB x) ((i + 1 : Nat) : Int)) (a ++ toB (qB (b :: (bs s).drop (i + 1)) ++ [39])) := by
    intro x hx hl
    refine evTo ?_ (ih (a ++ toB x) (by rw [ByteArray.size_append, size_toB]; omega))
    rw [toB_cat, ← hx]; simp [qB]
   have b39 : ((b.toNat : Int) == 39) = decide (b = 39) := by
    rw [Bool.eq_iff_iff, beq_iff_eq, decide_eq_true_eq]; exact u8 (n := 39) (by omega)
   have b92 : ((b.toNat : Int) == 92) = decide (b = 92) := by
    rw [Bool.eq_iff_iff, beq_iff_eq, decide_eq_true_eq]; exact u8 (n := 92) (by omega)
   have j1 : ∀ f : Bool, f = (decide (b = 39) || decide (b = 92)) → Ev (fun k => grammar_quoted.j1 k s a (i : Int) (b.toNat : Int) f) (a ++ toB (qB (b :: (bs s).drop (i + 1)) ++ [39])) := by
    intro f hf
    refine evDown ?_
    have hcat : (⟨#[92]⟩ : ByteArray) ++ toB [b] = toB [92, b] := by rw [← bs_inj]; simp [app_bs, bs_toB]
    simp only [grammar_quoted.j1, if_pos (show (0 : Int) ≤ (i : Int) by omega), hw, one_ext s i b hd, hcat, size_toB,
     if_pos (show a.size + 2 ≤ 9223372036854775807 by omega), if_pos (show (i : Int) ≤ ((i + 1 : Nat) : Int) by omega), if_pos (show ((i + 1 : Nat) : Int) ≤ (s.size : Int) by omega),
     List.length_cons, List.length_nil, if_pos (show a.size + (0 + 1) ≤ 9223372036854775807 by omega), if_pos (show a.size + (0 + 1 + 1) ≤ 9223372036854775807 by omega), if_pos (show 1 + (0 + 1) ≤ 9223372036854775807 by omega)]
    by_cases c : f = true
    · simp only [if_pos c]
      rw [c] at hf
      refine go [92, b] ?_ (by simp)
      by_cases c1 : b = 39
      · simp [q1, c1]
      have c2 : b = 92 := by simpa [c1] using hf.symm
      simp [q1, c2]
    simp only [if_neg c]
    have h2 : ¬ b = 39 ∧ ¬ b = 92 := by
     cases f
     · simpa using hf.symm
     · simp at c
    by_cases c3 : b = 10
    · simp only [if_pos (show (b.toNat : Int) = 10 from (u8 (n := 10) (by omega)).2 c3)]
      exact go [92, 110] (by simp [q1, c3]) (by simp)
    simp only [if_neg (show ¬ (b.toNat : Int) = 10 from fun h => c3 ((u8 (n := 10) (by omega)).1 h))]
    exact go [b] (by simp [q1, h2, c3]) (by simp)
   refine evDown ?_
   simp only [grammar_quoted.l0, if_pos (show (i : Int) < (s.size : Int) by omega), if_pos (show (0 : Int) ≤ (i : Int) by omega), hb, b39, b92]
   by_cases c1 : b = 39
   rotate_left
   · simp only [if_neg (show ¬ (b.toNat : Int) = 39 from fun h => c1 ((u8 (n := 39) (by omega)).1 h))]
     exact j1 _ (by simp [c1])
   simp only [if_pos (show (b.toNat : Int) = 39 from (u8 (n := 39) (by omega)).2 c1)]
   exact j1 _ (by simp [c1])
end Go.Proofs.Ytcnllhnhinmokaa.PHGr
end
