/- For every grammar, Text tells what the document's answer tells, and Read of a told Text is the grammar (no condition on the grammar): part 3 of 6. -/
import Derived.Test.YtcnllhnhinmokaaGT1
import Derived.Below
import Derived.Laws.Sem
import Derived.ChangeKeysEq
import Derived.Maps.Own
import Derived.Maps.OwnSet
import Derived.Deep.Draws
section
namespace Go.Proofs.Ytcnllhnhinmokaa.PHGr
open Go.RowKit Go.Proofs.YtcnllhnhinmokaaW.PrintWords Go.Proofs.YtcnllhnhinmokaaW.PrintLast Go.Proofs.YtcnllhnhinmokaaW.PrintMore
attribute [local go_sem] max2_int min2_int max_two min_two max_three min_three max_four min_four
set_option linter.unusedVariables false
set_option linter.unusedSimpArgs false
mutual
def manystrandref24_right.l0 : Nat → Int → List (S54) → ByteArray → ByteArray → List (S52) → Option (Bool)
 | 0, _, _, _, _, _ => none
 | k + 1, x5, x127000, x128000, x128001, x128002 => if x5 < (x128002.length : Int) then (if 0 ≤ x5 then ((manystrandref24_right.f k x127000 ((rd_T52 x128002 x5).f0) ((rd_T52 x128002 x5).f1) ((rd_T52 x128002 x5).f2)).bind fun t129 => (if t129 = true then (manystrandref24_right.l0 k (wrap64 (x5 + 1)) x127000 x128000 x128001 x128002) else (some false))) else (none)) else (if x128000.toList = ([105, 115] : List UInt8) then (if (x128002.length : Int) = 0 then ((manystrandref02_IsAtom.f k x128001).bind fun t130 => (some t130)) else (some false)) else (if x128000.toList = ([114, 117, 108, 101] : List UInt8) then (if (x128002.length : Int) = 0 then ((manystrandref24_find.f k x127000 x128001).bind fun t131 => (some (decide (t131 ≥ 0)))) else (some false)) else (if x128000.toList = ([97, 110, 121] : List UInt8) then (manystrandref24_right.j1 k x128000 (x128000.toList == ([97, 110, 121] : List UInt8)) x128000 x128001 x128002) else (manystrandref24_right.j1 k x128000 (x128000.toList == ([110, 111, 116, 104, 105, 110, 103] : List UInt8)) x128000 x128001 x128002))))
def manystrandref24_right.j1 : Nat → ByteArray → Bool → ByteArray → ByteArray → List (S52) → Option (Bool)
 | 0, _, _, _, _, _ => none
 | k + 1, x22, x47, x128000, x128001, x128002 => if x47 = true then (if (x128002.length : Int) = 0 then (some (x128001.toList == ([] : List UInt8))) else (some false)) else (if x22.toList = ([115, 101, 113] : List UInt8) then (manystrandref24_right.j2 k x22 (x22.toList == ([115, 101, 113] : List UInt8)) x128000 x128001 x128002) else (manystrandref24_right.j2 k x22 (x22.toList == ([111, 114] : List UInt8)) x128000 x128001 x128002))
def manystrandref24_right.j2 : Nat → ByteArray → Bool → ByteArray → ByteArray → List (S52) → Option (Bool)
 | 0, _, _, _, _, _ => none
 | k + 1, x22, x59, x128000, x128001, x128002 => if x59 = true then (if (x128002.length : Int) > 0 then (some (x128001.toList == ([] : List UInt8))) else (some false)) else (if x22.toList = ([109, 97, 110, 121] : List UInt8) then (if (x128002.length : Int) = 1 then (some (x128001.toList == ([] : List UInt8))) else (some false)) else (if x22.toList = ([111, 112, 116] : List UInt8) then (if (x128002.length : Int) = 1 then (some (x128001.toList == ([] : List UInt8))) else (some false)) else (if x22.toList = ([110, 111, 116] : List UInt8) then (if (x128002.length : Int) = 1 then (some (x128001.toList == ([] : List UInt8))) else (some false)) else (some false))))
def manystrandref24_right.f : Nat → List (S54) → ByteArray → ByteArray → List (S52) → Option (Bool)
 | 0, _, _, _, _ => none
 | k + 1, l0_0, a1_0, a1_1, l1_2 => manystrandref24_right.l0 k 0 l0_0 a1_0 a1_1 l1_2
end
def manystrandref24_right.T4 : Bool × List (List Nat × List Nat) := (true, [([], []), ([], []), ([1], [1]), ([], []), ([2, 3], [2, 3]), ([4], [4]), ([0, 5], [0, 5]), ([6], [6])])
def manystrandref24_right.B4 : List Nat := [0, 0, 2, 0, 14, 30, 63, 127]
theorem manystrandref24_right.tab4 : rtab .any (opsOf Try.f69 4) = manystrandref24_right.T4 := by kernel_rfl
theorem manystrandref24_right.bits4 : waitsOk manystrandref24_right.T4.2 manystrandref24_right.B4 = true := by kernel_rfl
set_option maxHeartbeats 8000000 in
set_option maxRecDepth 100000 in
theorem manystrandref24_right.calls (k : Nat) : ∀ (A0_0 : Option Addr) (c0_0 : Nat) (l0_0 : List (S54)) (a1_0 : ByteArray) (a1_1 : ByteArray) (A1_2 : Option Addr) (c1_2 : Nat) (l1_2 : List (S52)) (r : Bool) (w : World) (hr0_0 : Kd.C k54 w A0_0 l0_0.length l0_0) (hc0_0 : l0_0.length ≤ c0_0) (hr1_2 : Kd.C k52 w A1_2 l1_2.length l1_2) (hc1_2 : l1_2.length ≤ c1_2) (h : manystrandref24_right.f k l0_0 a1_0 a1_1 l1_2 = some r),
 Calls Try.prog 69 #[.agg #[.slice A0_0 l0_0.length c0_0], .agg #[.string a1_0, .string a1_1, .slice A1_2 l1_2.length c1_2]] w fun e w' => e = .returned (.bool r) ∧ Below w.heap.size w w' := by
 induction k using Nat.strongRecOn with
 | _ k ih =>
 intro A0_0 c0_0 l0_0 a1_0 a1_1 A1_2 c1_2 l1_2 r w hr0_0 hc0_0 hr1_2 hc1_2 h
 cases k with
 | zero => exact absurd h (by simp [manystrandref24_right.f])
 | succ k =>
 simp only [manystrandref24_right.f] at h
 have hu24 := Try.underlying24
 have hu52 := Try.underlying52
 have HR0_0 := Aside0.mk hr0_0
 have HC0_0 := Aside0.mk hc0_0
 clear hr0_0 hc0_0
 have HR1_2 := Aside0.mk hr1_2
 have HC1_2 := Aside0.mk hc1_2
 clear hr1_2 hc1_2
 have HB := Aside0.mk (Below.refl w.heap.size w)
 have H : (manystrandref24_right.l0 k 0 l0_0 a1_0 a1_1 l1_2) = some r := h
 clear h
 have H' := Aside0.mk H
 clear H
 go_enter Try.func69, Try.ntmps69
 go_wp2_with (first | ((with_reducible refine gate_dst (N := 2) rfl ?_); refine box_event ?hg (N := 2) ?hd (cs := #[.slice A0_0 l0_0.length c0_0]) (t := 24) ?hr ?_; (case hd => rfl); (case hg => rfl); (case hr => (go_simp; done)); intro gb126 hg w3 hbox hb; have n0_ := Aside0.mk (below_step HB.out hb); have n1_ := Aside0.mk (hbox); have n2_ := Aside0.mk ((by rw [hg]; exact (below_size HB.out) : w.heap.size ≤ gb126)); have n3_ := Aside0.mk ((by rw [hg]; exact (below_size HB.out) : w.heap.size ≤ gb126)); clear HB; have HB := n0_; have BK126 := n1_; have GW126 := n2_; have GE126 := n3_; clear n0_ n1_ n2_ n3_; clear hb hbox hg) | ((with_reducible refine gate_dst (N := 3) rfl ?_); refine box_event ?hg (N := 3) ?hd (cs := #[.string a1_0, .string a1_1, .slice A1_2 l1_2.length c1_2]) (t := 52) ?hr ?_; (case hd => rfl); (case hg => rfl); (case hr => (go_simp; done)); intro gb127 hg w4 hbox hb; have n0_ := Aside0.mk (blk_below (g := gb126) (o := .cells #[.slice A0_0 l0_0.length c0_0] 24 (0, 0)) BK126.out hb); have n1_ := Aside0.mk (below_step HB.out hb); have n2_ := Aside0.mk (hbox); have n3_ := Aside0.mk ((by rw [hg]; exact (below_size HB.out) : w.heap.size ≤ gb127)); have n4_ := Aside0.mk ((by rw [hg]; exact (below_size HB.out) : w.heap.size ≤ gb127)); have n5_ := Aside0.mk ((by rw [hg]; exact Nat.ne_of_lt (blk_lt (g := gb126) (o := .cells #[.slice A0_0 l0_0.length c0_0] 24 (0, 0)) BK126.out) : gb126 ≠ gb127)); have n6_ := Aside0.mk ((by rw [hg]; exact Nat.ne_of_gt (blk_lt (g := gb126) (o := .cells #[.slice A0_0 l0_0.length c0_0] 24 (0, 0)) BK126.out) : gb127 ≠ gb126)); clear BK126; clear HB; have BK126 := n0_; have HB := n1_; have BK127 := n2_; have GW127 := n3_; have GE127 := n4_; have NB126_127 := n5_; have NB127_126 := n6_; clear n0_ n1_ n2_ n3_ n4_ n5_ n6_; clear hb hbox hg))
 go_loopg [5] k (fun kq v5 w' => ∃ (x5_1 : Int), v5 = .int .i64 x5_1 ∧ Aside0 (manystrandref24_right.l0 kq x5_1 l0_0 a1_0 a1_1 l1_2 = some r) ∧ Aside0 (kq ≤ k) ∧ Aside0 (w'.heap[gb126]? = some (.cells #[(.slice A0_0 l0_0.length c0_0)] 24 (0, 0))) ∧ Aside0 (w'.heap[gb127]? = some (.cells #[.string a1_0, .string a1_1, (.slice A1_2 l1_2.length c1_2)] 52 (0, 0))) ∧ Aside0 (Below w.heap.size w w'))
 case atStart => exact ⟨(0), rfl, H', ⟨Nat.le_refl _⟩, ⟨BK126.out⟩, ⟨BK127.out⟩, ⟨by exact HB.out⟩⟩
 case round =>
  clear H'
  obtain ⟨x5_1, rfl, HA, HK1, BK126, BK127, HB⟩ := hrel
  cases gk with
  | zero => exact absurd HA.out (by simp [manystrandref24_right.l0])
  | succ k1 =>
   have H := HA.out
   clear HA
   simp only [manystrandref24_right.l0] at H
   by_cases c5 : x5_1 < (l1_2.length : Int)
   · rw [if_pos c5] at H
     have c5b0 := decide_eq_true c5
     clear c5
     obtain ⟨c6, H⟩ := gd H
     have c6b0 := decide_eq_true c6
     clear c6
     replace H := Option.bind_eq_some_iff.mp H
     obtain ⟨t129, A70, H⟩ := H
     have A7 := Aside0.mk A70
     clear A70
     by_cases c8 : t129 = true
     rotate_left
     · replace c8 := Bool.eq_false_iff.mpr c8
       subst c8
       rw [if_neg (show ¬ (false = true) by decide)] at H
       obtain rfl := Option.some.inj H
       have hnb13 := NB127_126.out
       have hnc13 := NB126_127.out
       have hcz14_0 : wr.cell? ⟨gb127, 0, none⟩ = some (.string a1_0) := (blk_cell BK127.out 0).trans rfl
       have hcz14_1 : wr.cell? ⟨gb127, 1, none⟩ = some (.string a1_1) := (blk_cell BK127.out 1).trans rfl
       have hcz14_2 : wr.cell? ⟨gb127, 2, none⟩ = some (.slice A1_2 l1_2.length c1_2) := (blk_cell BK127.out 2).trans rfl
       have hfz14_0 := blk_frozen BK127.out 0
       have hfz14_1 := blk_frozen BK127.out 1
       have hfz14_2 := blk_frozen BK127.out 2
       try go_wp2
       have n0_ := Aside0.mk (blk_drew BK126.out)
       have n1_ := Aside0.mk (blk_drew BK127.out)
       have n2_ := Aside0.mk (below_drew1 HB.out)
       clear BK126
       clear BK127
       clear HB
       have BK126 := n0_
       have BK127 := n1_
       have HB := n2_
       clear n0_ n1_ n2_
       have p128 : 0 ≤ (x5_1 : Int) := of_decide_eq_true (by assumption)
       have q128 : x5_1 < (l1_2.length : Int) := of_decide_eq_true (by assumption)
       obtain ⟨ad128, A128_2, c128_2, e128, hx128_0, hx128_1, hx128_2, hl128_2, hi128_2⟩ := at_T52 HR1_2.out x5_1 p128 q128
       have hw128_2 := hx128_2
       have hw128_1 := hx128_1
       have hw128_0 := hx128_0
       cases e128
       replace hx128_0 := ct HB.out hx128_0
       replace hx128_1 := ct HB.out hx128_1
       replace hx128_2 := ct HB.out hx128_2
       have HR128_2 := Aside0.mk hi128_2
       have HC128_2 := Aside0.mk hl128_2
       clear hi128_2 hl128_2
       replace p128 := eq_true p128
       replace q128 := eq_true q128
       refine start_ (n := 8) (S := fun w' => w'.cell? ⟨gb126, 0, none⟩ = some (.slice A0_0 l0_0.length c0_0) ∧ w'.cell? ⟨gb127, 0, none⟩ = some (.string a1_0) ∧ w'.cell? ⟨gb127, 1, none⟩ = some (.string a1_1) ∧ w'.cell? ⟨gb127, 2, none⟩ = some (.slice (some ad128) l1_2.length c1_2) ∧ w'.cell? (ad128.add ((x5_1).toNat * 3)) = some (.string ((rd_T52 l1_2 x5_1).f0)) ∧ w'.cell? ⟨(ad128.add ((x5_1).toNat * 3)).block, (ad128.add ((x5_1).toNat * 3)).off + 1, none⟩ = some (.string ((rd_T52 l1_2 x5_1).f1)) ∧ w'.cell? ⟨(ad128.add ((x5_1).toNat * 3)).block, (ad128.add ((x5_1).toNat * 3)).off + 2, none⟩ = some (.slice A128_2 ((rd_T52 l1_2 x5_1).f2).length c128_2)) (ds := []) #[F,F,F,F,F,F,F,F] (by kernel_rfl) rfl rfl ⟨(blk_cell BK126.out 0).trans rfl, (blk_cell BK127.out 0).trans rfl, (blk_cell BK127.out 1).trans rfl, (blk_cell BK127.out 2).trans rfl, (ct HB.out hw128_0), (ct HB.out hw128_1), (ct HB.out hw128_2)⟩ (fun hHeld => ?_); refine with_tabW manystrandref24_right.tab4 manystrandref24_right.bits4 (fun HT_ HW_ => ?_)
       generalize wr.drew = w15 at BK126 BK127 HB HR128_2 hx128_0 hx128_1 hx128_2 hHeld ⊢
       refine pure_ (i := 1) (N := some 14) (v := ?_) (a' := ?_) #[F,T,F,F,F,F,F,F] rfl rfl (any_of HT_.out (by kernel_rfl)) (fun _ _ _ h => h) (Or.inl ⟨by rfl, ?_⟩) ?_ ?_
       rotate_left
       · intro w'
         go_simp
         with_reducible rfl
       rotate_left
       · simp only [Act.put, List.setIfInBounds_toArray, List.set_cons_zero, List.set_cons_succ, i64_w, i32_w]
         rfl
       refine pure_ (i := 3) (N := some 16) (v := ?_) (a' := ?_) #[F,T,F,T,F,F,F,F] rfl rfl (any_of HT_.out (by kernel_rfl)) (fun _ _ _ h => h) (Or.inl ⟨by rfl, ?_⟩) ?_ ?_
       rotate_left
       · intro w'
         go_simp
         with_reducible rfl
       rotate_left
       · simp only [Act.put, List.setIfInBounds_toArray, List.set_cons_zero, List.set_cons_succ, i64_w, i32_w]
         rfl
       refine take_ (i := 0) (N := some 13) (v := ?_) (a' := ?_) #[T,T,F,T,F,F,F,F] rfl rfl (take_ofW HT_.out HW_.out (by kernel_rfl)) (fun _ _ _ h => h) (Or.inl ⟨by rfl, ?_⟩) hHeld ?_ ?_
       rotate_left
       · rintro w' ⟨s0, s1, s2, s3, s4, s5, s6⟩
         go_simp
         with_reducible rfl
       rotate_left
       · simp only [Act.put, List.setIfInBounds_toArray, List.set_cons_zero, List.set_cons_succ, i64_w, i32_w]
         rfl
       refine take_ (i := 2) (N := some 15) (v := ?_) (a' := ?_) #[T,T,T,T,F,F,F,F] rfl rfl (take_ofW HT_.out HW_.out (by kernel_rfl)) (fun _ _ _ h => h) (Or.inl ⟨by rfl, ?_⟩) hHeld ?_ ?_
       rotate_left
       · rintro w' ⟨s0, s1, s2, s3, s4, s5, s6⟩
         go_simp
         with_reducible rfl
       rotate_left
       · simp only [Act.put, List.setIfInBounds_toArray, List.set_cons_zero, List.set_cons_succ, i64_w, i32_w]
         rfl
       refine pure_ (i := 4) (N := some 17) (v := ?_) (a' := ?_) #[T,T,T,T,T,F,F,F] rfl rfl (any_of HT_.out (by kernel_rfl)) (fun _ _ _ h => h) (Or.inl ⟨by rfl, ?_⟩) ?_ ?_
       rotate_left
       · intro w'
         go_simp
         with_reducible rfl
       rotate_left
       · simp only [Act.put, List.setIfInBounds_toArray, List.set_cons_zero, List.set_cons_succ, i64_w, i32_w]
         rfl
       refine take_ (i := 5) (N := some 18) (v := ?_) (a' := ?_) #[T,T,T,T,T,T,F,F] rfl rfl (take_ofW HT_.out HW_.out (by kernel_rfl)) (fun _ _ _ h => h) (Or.inl ⟨by rfl, ?_⟩) hHeld ?_ ?_
       rotate_left
       · rintro w' ⟨s0, s1, s2, s3, s4, s5, s6⟩
         go_simp
         with_reducible rfl
       rotate_left
       · simp only [Act.put, List.setIfInBounds_toArray, List.set_cons_zero, List.set_cons_succ, i64_w, i32_w]
         rfl
       refine one_ (i := 6) (N := some 19) #[T,T,T,T,T,T,T,F] rfl rfl (one_of HT_.out (by kernel_rfl)) (by decide) (fun K hK => ?_)
       refine goes_ Try.func69 (by kernel_rfl) rfl #[.agg #[.slice A0_0 l0_0.length c0_0], .agg #[.string ((rd_T52 l1_2 x5_1).f0), .string ((rd_T52 l1_2 x5_1).f1), .slice A128_2 ((rd_T52 l1_2 x5_1).f2).length c128_2]] (by rfl) rfl rfl (by (try simp only [List.map_toArray, List.map_cons, List.map_nil]); first | rfl) ?_
       with_reducible refine (ih k1 (by have := HK1.out; omega) _ _ l0_0 ((rd_T52 l1_2 x5_1).f0) ((rd_T52 l1_2 x5_1).f1) _ _ ((rd_T52 l1_2 x5_1).f2) false _ ?side1 ?side2 ?side3 ?side4 A7.out).mono ?_
       (case side1 => repeat (first | exact (Kd.C_below HR0_0.out HB.out)))
       (case side2 => exact HC0_0.out)
       (case side3 => repeat (first | exact (Kd.C_below HR128_2.out HB.out)))
       (case side4 => exact HC128_2.out)
       rintro e w16 ⟨rfl, hb⟩
       refine ⟨_, rfl, ?_⟩
       have n0_ := Aside0.mk (blk_below (g := gb126) (o := .cells #[.slice A0_0 l0_0.length c0_0] 24 (0, 0)) BK126.out hb)
       have n1_ := Aside0.mk (blk_below (g := gb127) (o := .cells #[.string a1_0, .string a1_1, .slice (some ad128) l1_2.length c1_2] 52 (0, 0)) BK127.out hb)
       have n2_ := Aside0.mk (below_step HB.out hb)
       clear BK126
       clear BK127
       clear HB
       have BK126 := n0_
       have BK127 := n1_
       have HB := n2_
       clear n0_ n1_ n2_
       (try clear hb)
       skip
       skip
       skip
       refine hK.out _ _ ⟨(blk_cell BK126.out 0).trans rfl, (blk_cell BK127.out 0).trans rfl, (blk_cell BK127.out 1).trans rfl, (blk_cell BK127.out 2).trans rfl, (ct HB.out hw128_0), (ct HB.out hw128_1), (ct HB.out hw128_2)⟩ (fun hHeld => ?_)
       clear hK K
       refine norm_ (a' := ?_) ?_ ?_
       rotate_left
       · show Act.put _ (some 19) _ = _
         simp only [Act.put, List.setIfInBounds_toArray, List.set_cons_zero, List.set_cons_succ, i64_w, i32_w]
         rfl
       refine pure_ (i := 7) (N := some 20) (v := ?_) (a' := ?_) #[T,T,T,T,T,T,T,T] rfl rfl (any_of HT_.out (by kernel_rfl)) (fun _ _ _ h => h) (Or.inl ⟨by rfl, ?_⟩) ?_ ?_
       rotate_left
       · intro w'
         go_simp
         with_reducible rfl
       rotate_left
       · simp only [Act.put, List.setIfInBounds_toArray, List.set_cons_zero, List.set_cons_succ, i64_w, i32_w]
         rfl
       refine done_ (done_of HT_.out (by kernel_rfl)) ?_
       try go_wp2
       go_ret
       exact ⟨by first | rfl, by exact HB.out⟩
     subst c8
     rw [if_pos rfl] at H
     have H' := Aside0.mk H
     clear H
     have hnb9 := NB127_126.out
     have hnc9 := NB126_127.out
     have hcz10_0 : wr.cell? ⟨gb127, 0, none⟩ = some (.string a1_0) := (blk_cell BK127.out 0).trans rfl
     have hcz10_1 : wr.cell? ⟨gb127, 1, none⟩ = some (.string a1_1) := (blk_cell BK127.out 1).trans rfl
     have hcz10_2 : wr.cell? ⟨gb127, 2, none⟩ = some (.slice A1_2 l1_2.length c1_2) := (blk_cell BK127.out 2).trans rfl
     have hfz10_0 := blk_frozen BK127.out 0
     have hfz10_1 := blk_frozen BK127.out 1
     have hfz10_2 := blk_frozen BK127.out 2
     try go_wp2
     have n0_ := Aside0.mk (blk_drew BK126.out)
     have n1_ := Aside0.mk (blk_drew BK127.out)
     have n2_ := Aside0.mk (below_drew1 HB.out)
     clear BK126
     clear BK127
     clear HB
     have BK126 := n0_
     have BK127 := n1_
     have HB := n2_
     clear n0_ n1_ n2_
     have p128 : 0 ≤ (x5_1 : Int) := of_decide_eq_true (by assumption)
     have q128 : x5_1 < (l1_2.length : Int) := of_decide_eq_true (by assumption)
     obtain ⟨ad128, A128_2, c128_2, e128, hx128_0, hx128_1, hx128_2, hl128_2, hi128_2⟩ := at_T52 HR1_2.out x5_1 p128 q128
     have hw128_2 := hx128_2
     have hw128_1 := hx128_1
     have hw128_0 := hx128_0
     cases e128
     replace hx128_0 := ct HB.out hx128_0
     replace hx128_1 := ct HB.out hx128_1
     replace hx128_2 := ct HB.out hx128_2
     have HR128_2 := Aside0.mk hi128_2
     have HC128_2 := Aside0.mk hl128_2
     clear hi128_2 hl128_2
     replace p128 := eq_true p128
     replace q128 := eq_true q128
     refine start_ (n := 8) (S := fun w' => w'.cell? ⟨gb126, 0, none⟩ = some (.slice A0_0 l0_0.length c0_0) ∧ w'.cell? ⟨gb127, 0, none⟩ = some (.string a1_0) ∧ w'.cell? ⟨gb127, 1, none⟩ = some (.string a1_1) ∧ w'.cell? ⟨gb127, 2, none⟩ = some (.slice (some ad128) l1_2.length c1_2) ∧ w'.cell? (ad128.add ((x5_1).toNat * 3)) = some (.string ((rd_T52 l1_2 x5_1).f0)) ∧ w'.cell? ⟨(ad128.add ((x5_1).toNat * 3)).block, (ad128.add ((x5_1).toNat * 3)).off + 1, none⟩ = some (.string ((rd_T52 l1_2 x5_1).f1)) ∧ w'.cell? ⟨(ad128.add ((x5_1).toNat * 3)).block, (ad128.add ((x5_1).toNat * 3)).off + 2, none⟩ = some (.slice A128_2 ((rd_T52 l1_2 x5_1).f2).length c128_2)) (ds := []) #[F,F,F,F,F,F,F,F] (by kernel_rfl) rfl rfl ⟨(blk_cell BK126.out 0).trans rfl, (blk_cell BK127.out 0).trans rfl, (blk_cell BK127.out 1).trans rfl, (blk_cell BK127.out 2).trans rfl, (ct HB.out hw128_0), (ct HB.out hw128_1), (ct HB.out hw128_2)⟩ (fun hHeld => ?_); refine with_tabW manystrandref24_right.tab4 manystrandref24_right.bits4 (fun HT_ HW_ => ?_)
     generalize wr.drew = w11 at BK126 BK127 HB HR128_2 hx128_0 hx128_1 hx128_2 hHeld ⊢
     refine pure_ (i := 1) (N := some 14) (v := ?_) (a' := ?_) #[F,T,F,F,F,F,F,F] rfl rfl (any_of HT_.out (by kernel_rfl)) (fun _ _ _ h => h) (Or.inl ⟨by rfl, ?_⟩) ?_ ?_
     rotate_left
     · intro w'
       go_simp
       with_reducible rfl
     rotate_left
     · simp only [Act.put, List.setIfInBounds_toArray, List.set_cons_zero, List.set_cons_succ, i64_w, i32_w]
       rfl
     refine pure_ (i := 3) (N := some 16) (v := ?_) (a' := ?_) #[F,T,F,T,F,F,F,F] rfl rfl (any_of HT_.out (by kernel_rfl)) (fun _ _ _ h => h) (Or.inl ⟨by rfl, ?_⟩) ?_ ?_
     rotate_left
     · intro w'
       go_simp
       with_reducible rfl
     rotate_left
     · simp only [Act.put, List.setIfInBounds_toArray, List.set_cons_zero, List.set_cons_succ, i64_w, i32_w]
       rfl
     refine take_ (i := 0) (N := some 13) (v := ?_) (a' := ?_) #[T,T,F,T,F,F,F,F] rfl rfl (take_ofW HT_.out HW_.out (by kernel_rfl)) (fun _ _ _ h => h) (Or.inl ⟨by rfl, ?_⟩) hHeld ?_ ?_
     rotate_left
     · rintro w' ⟨s0, s1, s2, s3, s4, s5, s6⟩
       go_simp
       with_reducible rfl
     rotate_left
     · simp only [Act.put, List.setIfInBounds_toArray, List.set_cons_zero, List.set_cons_succ, i64_w, i32_w]
       rfl
     refine take_ (i := 2) (N := some 15) (v := ?_) (a' := ?_) #[T,T,T,T,F,F,F,F] rfl rfl (take_ofW HT_.out HW_.out (by kernel_rfl)) (fun _ _ _ h => h) (Or.inl ⟨by rfl, ?_⟩) hHeld ?_ ?_
     rotate_left
     · rintro w' ⟨s0, s1, s2, s3, s4, s5, s6⟩
       go_simp
       with_reducible rfl
     rotate_left
     · simp only [Act.put, List.setIfInBounds_toArray, List.set_cons_zero, List.set_cons_succ, i64_w, i32_w]
       rfl
     refine pure_ (i := 4) (N := some 17) (v := ?_) (a' := ?_) #[T,T,T,T,T,F,F,F] rfl rfl (any_of HT_.out (by kernel_rfl)) (fun _ _ _ h => h) (Or.inl ⟨by rfl, ?_⟩) ?_ ?_
     rotate_left
     · intro w'
       go_simp
       with_reducible rfl
     rotate_left
     · simp only [Act.put, List.setIfInBounds_toArray, List.set_cons_zero, List.set_cons_succ, i64_w, i32_w]
       rfl
     refine take_ (i := 5) (N := some 18) (v := ?_) (a' := ?_) #[T,T,T,T,T,T,F,F] rfl rfl (take_ofW HT_.out HW_.out (by kernel_rfl)) (fun _ _ _ h => h) (Or.inl ⟨by rfl, ?_⟩) hHeld ?_ ?_
     rotate_left
     · rintro w' ⟨s0, s1, s2, s3, s4, s5, s6⟩
       go_simp
       with_reducible rfl
     rotate_left
     · simp only [Act.put, List.setIfInBounds_toArray, List.set_cons_zero, List.set_cons_succ, i64_w, i32_w]
       rfl
     refine one_ (i := 6) (N := some 19) #[T,T,T,T,T,T,T,F] rfl rfl (one_of HT_.out (by kernel_rfl)) (by decide) (fun K hK => ?_)
     refine goes_ Try.func69 (by kernel_rfl) rfl #[.agg #[.slice A0_0 l0_0.length c0_0], .agg #[.string ((rd_T52 l1_2 x5_1).f0), .string ((rd_T52 l1_2 x5_1).f1), .slice A128_2 ((rd_T52 l1_2 x5_1).f2).length c128_2]] (by rfl) rfl rfl (by (try simp only [List.map_toArray, List.map_cons, List.map_nil]); first | rfl) ?_
     with_reducible refine (ih k1 (by have := HK1.out; omega) _ _ l0_0 ((rd_T52 l1_2 x5_1).f0) ((rd_T52 l1_2 x5_1).f1) _ _ ((rd_T52 l1_2 x5_1).f2) true _ ?side1 ?side2 ?side3 ?side4 A7.out).mono ?_
     (case side1 => repeat (first | exact (Kd.C_below HR0_0.out HB.out)))
     (case side2 => exact HC0_0.out)
     (case side3 => repeat (first | exact (Kd.C_below HR128_2.out HB.out)))
     (case side4 => exact HC128_2.out)
     rintro e w12 ⟨rfl, hb⟩
     refine ⟨_, rfl, ?_⟩
     have n0_ := Aside0.mk (blk_below (g := gb126) (o := .cells #[.slice A0_0 l0_0.length c0_0] 24 (0, 0)) BK126.out hb)
     have n1_ := Aside0.mk (blk_below (g := gb127) (o := .cells #[.string a1_0, .string a1_1, .slice (some ad128) l1_2.length c1_2] 52 (0, 0)) BK127.out hb)
     have n2_ := Aside0.mk (below_step HB.out hb)
     clear BK126
     clear BK127
     clear HB
     have BK126 := n0_
     have BK127 := n1_
     have HB := n2_
     clear n0_ n1_ n2_
     (try clear hb)
     skip
     skip
     skip
     refine hK.out _ _ ⟨(blk_cell BK126.out 0).trans rfl, (blk_cell BK127.out 0).trans rfl, (blk_cell BK127.out 1).trans rfl, (blk_cell BK127.out 2).trans rfl, (ct HB.out hw128_0), (ct HB.out hw128_1), (ct HB.out hw128_2)⟩ (fun hHeld => ?_)
     clear hK K
     refine norm_ (a' := ?_) ?_ ?_
     rotate_left
     · show Act.put _ (some 19) _ = _
       simp only [Act.put, List.setIfInBounds_toArray, List.set_cons_zero, List.set_cons_succ, i64_w, i32_w]
       rfl
     refine pure_ (i := 7) (N := some 20) (v := ?_) (a' := ?_) #[T,T,T,T,T,T,T,T] rfl rfl (any_of HT_.out (by kernel_rfl)) (fun _ _ _ h => h) (Or.inl ⟨by rfl, ?_⟩) ?_ ?_
     rotate_left
     · intro w'
       go_simp
       with_reducible rfl
     rotate_left
     · simp only [Act.put, List.setIfInBounds_toArray, List.set_cons_zero, List.set_cons_succ, i64_w, i32_w]
       rfl
     refine done_ (done_of HT_.out (by kernel_rfl)) ?_
     try go_wp2
     go_roundg k1
     case measure => have := HK1.out; omega
     case rel => exact ⟨(wrap64 (x5_1 + 1)), rfl, H', ⟨by have := HK1.out; omega⟩, ⟨BK126.out⟩, ⟨BK127.out⟩, ⟨by exact HB.out⟩⟩
   rw [if_neg c5] at H
   have c5b0 := decide_eq_false c5
   clear c5
   by_cases c17 : a1_0.toList = ([105, 115] : List UInt8)
   · rw [if_pos c17] at H
     have c17b0 := beq_iff_eq.mpr c17
     have c17b1 := bne_eq_false_iff_eq.mpr c17
     clear c17
     by_cases c18 : (l1_2.length : Int) = 0
     rotate_left
     · rw [if_neg c18] at H
       have c18b0 := beq_eq_false_iff_ne.mpr c18
       have c18b1 := bne_iff_ne.mpr c18
       have c18b2 : ¬ (l1_2 = []) := fun h_ => c18 (by rw [h_]; rfl)
       obtain rfl := Option.some.inj H
       have hnb23 := NB127_126.out
       have hnc23 := NB126_127.out
       have hcz24_0 : wr.cell? ⟨gb127, 0, none⟩ = some (.string a1_0) := (blk_cell BK127.out 0).trans rfl
       have hcz24_1 : wr.cell? ⟨gb127, 1, none⟩ = some (.string a1_1) := (blk_cell BK127.out 1).trans rfl
       have hcz24_2 : wr.cell? ⟨gb127, 2, none⟩ = some (.slice A1_2 l1_2.length c1_2) := (blk_cell BK127.out 2).trans rfl
       have hfz24_0 := blk_frozen BK127.out 0
       have hfz24_1 := blk_frozen BK127.out 1
       have hfz24_2 := blk_frozen BK127.out 2
       go_wp2
       go_ret
       exact ⟨by first | rfl, by exact HB.out⟩
     rw [if_pos c18] at H
     have c18b0 := beq_iff_eq.mpr c18
     have c18b1 := bne_eq_false_iff_eq.mpr c18
     clear c18
     replace H := Option.bind_eq_some_iff.mp H
     obtain ⟨t130, A190, H⟩ := H
     have A19 := Aside0.mk A190
     clear A190
     obtain rfl := Option.some.inj H
     have hnb20 := NB127_126.out
     have hnc20 := NB126_127.out
     have hcz21_0 : wr.cell? ⟨gb127, 0, none⟩ = some (.string a1_0) := (blk_cell BK127.out 0).trans rfl
     have hcz21_1 : wr.cell? ⟨gb127, 1, none⟩ = some (.string a1_1) := (blk_cell BK127.out 1).trans rfl
     have hcz21_2 : wr.cell? ⟨gb127, 2, none⟩ = some (.slice A1_2 l1_2.length c1_2) := (blk_cell BK127.out 2).trans rfl
     have hfz21_0 := blk_frozen BK127.out 0
     have hfz21_1 := blk_frozen BK127.out 1
     have hfz21_2 := blk_frozen BK127.out 2
     go_wp2_with ((go_at_call 96; (with_reducible refine (manystrandref02_IsAtom.calls k1 a1_1 t130 _ A19.out).mono ?_); rintro e w22 ⟨rfl, hb⟩; have n0_ := Aside0.mk (blk_below (g := gb126) (o := .cells #[.slice A0_0 l0_0.length c0_0] 24 (0, 0)) BK126.out hb); have n1_ := Aside0.mk (blk_below (g := gb127) (o := .cells #[.string a1_0, .string a1_1, .slice A1_2 l1_2.length c1_2] 52 (0, 0)) BK127.out hb); have n2_ := Aside0.mk (below_step HB.out hb); clear BK126; clear BK127; clear HB; have BK126 := n0_; have BK127 := n1_; have HB := n2_; clear n0_ n1_ n2_; (try clear hb)))
     go_ret
     exact ⟨by first | rfl, by exact HB.out⟩
   rw [if_neg c17] at H
   have c17b0 := beq_eq_false_iff_ne.mpr c17
   have c17b1 := bne_iff_ne.mpr c17
   by_cases c25 : a1_0.toList = ([114, 117, 108, 101] : List UInt8)
   · rw [if_pos c25] at H
     have c25b0 := beq_iff_eq.mpr c25
     have c25b1 := bne_eq_false_iff_eq.mpr c25
     clear c25
     by_cases c26 : (l1_2.length : Int) = 0
     rotate_left
     · rw [if_neg c26] at H
       have c26b0 := beq_eq_false_iff_ne.mpr c26
       have c26b1 := bne_iff_ne.mpr c26
       have c26b2 : ¬ (l1_2 = []) := fun h_ => c26 (by rw [h_]; rfl)
       obtain rfl := Option.some.inj H
       have hnb32 := NB127_126.out
       have hnc32 := NB126_127.out
       have hcz33_0 : wr.cell? ⟨gb127, 0, none⟩ = some (.string a1_0) := (blk_cell BK127.out 0).trans rfl
       have hcz33_1 : wr.cell? ⟨gb127, 1, none⟩ = some (.string a1_1) := (blk_cell BK127.out 1).trans rfl
       have hcz33_2 : wr.cell? ⟨gb127, 2, none⟩ = some (.slice A1_2 l1_2.length c1_2) := (blk_cell BK127.out 2).trans rfl
       have hfz33_0 := blk_frozen BK127.out 0
       have hfz33_1 := blk_frozen BK127.out 1
       have hfz33_2 := blk_frozen BK127.out 2
       go_wp2
       go_ret
       exact ⟨by first | rfl, by exact HB.out⟩
     rw [if_pos c26] at H
     have c26b0 := beq_iff_eq.mpr c26
     have c26b1 := bne_eq_false_iff_eq.mpr c26
     clear c26
     replace H := Option.bind_eq_some_iff.mp H
     obtain ⟨t131, A270, H⟩ := H
     have A27 := Aside0.mk A270
     clear A270
     obtain rfl := Option.some.inj H
     have hnb28 := NB127_126.out
     have hnc28 := NB126_127.out
     have hcz29_0 : wr.cell? ⟨gb127, 0, none⟩ = some (.string a1_0) := (blk_cell BK127.out 0).trans rfl
     have hcz29_1 : wr.cell? ⟨gb127, 1, none⟩ = some (.string a1_1) := (blk_cell BK127.out 1).trans rfl
     have hcz29_2 : wr.cell? ⟨gb127, 2, none⟩ = some (.slice A1_2 l1_2.length c1_2) := (blk_cell BK127.out 2).trans rfl
     have hfz29_0 := blk_frozen BK127.out 0
     have hfz29_1 := blk_frozen BK127.out 1
     have hfz29_2 := blk_frozen BK127.out 2
     have hcz30_0 : wr.cell? ⟨gb126, 0, none⟩ = some (.slice A0_0 l0_0.length c0_0) := (blk_cell BK126.out 0).trans rfl
     have hfz30_0 := blk_frozen BK126.out 0
     go_wp2_with ((go_at_call 39; (with_reducible refine (manystrandref24_find.calls k1 _ _ l0_0 a1_1 t131 _ ?side1 ?side2 A27.out).mono ?_); (case side1 => repeat (first | exact (Kd.C_below HR0_0.out HB.out))); (case side2 => exact HC0_0.out); rintro e w31 ⟨rfl, hb⟩; have n0_ := Aside0.mk (blk_below (g := gb126) (o := .cells #[.slice A0_0 l0_0.length c0_0] 24 (0, 0)) BK126.out hb); have n1_ := Aside0.mk (blk_below (g := gb127) (o := .cells #[.string a1_0, .string a1_1, .slice A1_2 l1_2.length c1_2] 52 (0, 0)) BK127.out hb); have n2_ := Aside0.mk (below_step HB.out hb); clear BK126; clear BK127; clear HB; have BK126 := n0_; have BK127 := n1_; have HB := n2_; clear n0_ n1_ n2_; (try clear hb)))
     go_ret
     exact ⟨by first | rfl, by exact HB.out⟩
   rw [if_neg c25] at H
   have c25b0 := beq_eq_false_iff_ne.mpr c25
   have c25b1 := bne_iff_ne.mpr c25
   have HC34 := Aside0.mk H
   clear H
   have hnb35 := NB127_126.out
   have hnc35 := NB126_127.out
   have hcz36_0 : wr.cell? ⟨gb127, 0, none⟩ = some (.string a1_0) := (blk_cell BK127.out 0).trans rfl
   have hcz36_1 : wr.cell? ⟨gb127, 1, none⟩ = some (.string a1_1) := (blk_cell BK127.out 1).trans rfl
   have hcz36_2 : wr.cell? ⟨gb127, 2, none⟩ = some (.slice A1_2 l1_2.length c1_2) := (blk_cell BK127.out 2).trans rfl
   have hfz36_0 := blk_frozen BK127.out 0
   have hfz36_1 := blk_frozen BK127.out 1
   have hfz36_2 := blk_frozen BK127.out 2
   go_upto_if 47 with (fail)
   go_cut [47] (fun v47 wc => ∃ (kq : Nat) (x47_33 : Bool), v47 = .bool x47_33 ∧ Aside0 (manystrandref24_right.j1 kq a1_0 x47_33 a1_0 a1_1 l1_2 = some r) ∧ Aside0 (kq ≤ k1) ∧ Aside0 (wc.heap[gb126]? = some (.cells #[(.slice A0_0 l0_0.length c0_0)] 24 (0, 0))) ∧ Aside0 (wc.heap[gb127]? = some (.cells #[.string a1_0, .string a1_1, (.slice A1_2 l1_2.length c1_2)] 52 (0, 0))) ∧ Aside0 (Below w.heap.size w wc))
   case first =>
    have H := HC34.out
    clear HC34
    by_cases c37 : a1_0.toList = ([97, 110, 121] : List UInt8)
    rotate_left
    · rw [if_neg c37] at H
      have c37b0 := beq_eq_false_iff_ne.mpr c37
      have c37b1 := bne_iff_ne.mpr c37
      (first | rw [c37b0])
      have H' := Aside0.mk H
      clear H
      go_wp2
      go_meet
      case rel => exact ⟨_, ((a1_0.toList == ([110, 111, 116, 104, 105, 110, 103] : List UInt8))), rfl, H', ⟨by have := HK1.out; first | omega⟩, ⟨BK126.out⟩, ⟨BK127.out⟩, ⟨by exact HB.out⟩⟩
    rw [if_pos c37] at H
    have c37b0 := beq_iff_eq.mpr c37
    have c37b1 := bne_eq_false_iff_eq.mpr c37
    clear c37
    (first | rw [c37b0])
    have H' := Aside0.mk H
    clear H
    go_wp2
    go_meet
    case rel => exact ⟨_, ((a1_0.toList == ([97, 110, 121] : List UInt8))), (by (simp [*]; done)), H', ⟨by have := HK1.out; first | omega⟩, ⟨BK126.out⟩, ⟨BK127.out⟩, ⟨by exact HB.out⟩⟩
   case rest =>
    clear HC34 c5b0 c17 c17b0 c17b1 c25 c25b0 c25b1 hcz36_0 hcz36_1 hcz36_2 hfz36_0 hfz36_1 hfz36_2
    obtain ⟨kq, x47_33, rfl, HA, HJ33, BK126, BK127, HB⟩ := hcut
    cases kq with
    | zero => exact absurd HA.out (by simp [manystrandref24_right.j1])
    | succ kj33 =>
     have H := HA.out
     clear HA
     simp only [manystrandref24_right.j1] at H
     by_cases c38 : x47_33 = true
     · subst c38
       rw [if_pos rfl] at H
       by_cases c39 : (l1_2.length : Int) = 0
       rotate_left
       · rw [if_neg c39] at H
         have c39b0 := beq_eq_false_iff_ne.mpr c39
         have c39b1 := bne_iff_ne.mpr c39
         have c39b2 : ¬ (l1_2 = []) := fun h_ => c39 (by rw [h_]; rfl)
         obtain rfl := Option.some.inj H
         have hnb42 := NB127_126.out
         have hnc42 := NB126_127.out
         have hcz43_0 : wc.cell? ⟨gb127, 0, none⟩ = some (.string a1_0) := (blk_cell BK127.out 0).trans rfl
         have hcz43_1 : wc.cell? ⟨gb127, 1, none⟩ = some (.string a1_1) := (blk_cell BK127.out 1).trans rfl
         have hcz43_2 : wc.cell? ⟨gb127, 2, none⟩ = some (.slice A1_2 l1_2.length c1_2) := (blk_cell BK127.out 2).trans rfl
         have hfz43_0 := blk_frozen BK127.out 0
         have hfz43_1 := blk_frozen BK127.out 1
         have hfz43_2 := blk_frozen BK127.out 2
         go_wp2
         go_ret
         exact ⟨by first | rfl, by exact HB.out⟩
       rw [if_pos c39] at H
       have c39b0 := beq_iff_eq.mpr c39
       have c39b1 := bne_eq_false_iff_eq.mpr c39
       clear c39
       obtain rfl := Option.some.inj H
       have hnb40 := NB127_126.out
       have hnc40 := NB126_127.out
       have hcz41_0 : wc.cell? ⟨gb127, 0, none⟩ = some (.string a1_0) := (blk_cell BK127.out 0).trans rfl
       have hcz41_1 : wc.cell? ⟨gb127, 1, none⟩ = some (.string a1_1) := (blk_cell BK127.out 1).trans rfl
       have hcz41_2 : wc.cell? ⟨gb127, 2, none⟩ = some (.slice A1_2 l1_2.length c1_2) := (blk_cell BK127.out 2).trans rfl
       have hfz41_0 := blk_frozen BK127.out 0
       have hfz41_1 := blk_frozen BK127.out 1
       have hfz41_2 := blk_frozen BK127.out 2
       go_wp2
       go_ret
       exact ⟨by first | rfl, by exact HB.out⟩
     replace c38 := Bool.eq_false_iff.mpr c38
     subst c38
     rw [if_neg (show ¬ (false = true) by decide)] at H
     have HC44 := Aside0.mk H
     clear H
     go_upto_if 59 with (fail)
     go_cut [59] (fun v59 wc => ∃ (kq : Nat) (x59_43 : Bool), v59 = .bool x59_43 ∧ Aside0 (manystrandref24_right.j2 kq a1_0 x59_43 a1_0 a1_1 l1_2 = some r) ∧ Aside0 (kq ≤ kj33) ∧ Aside0 (wc.heap[gb126]? = some (.cells #[(.slice A0_0 l0_0.length c0_0)] 24 (0, 0))) ∧ Aside0 (wc.heap[gb127]? = some (.cells #[.string a1_0, .string a1_1, (.slice A1_2 l1_2.length c1_2)] 52 (0, 0))) ∧ Aside0 (Below w.heap.size w wc))
     case first =>
      have H := HC44.out
      clear HC44
      by_cases c45 : a1_0.toList = ([115, 101, 113] : List UInt8)
      rotate_left
      · rw [if_neg c45] at H
        have c45b0 := beq_eq_false_iff_ne.mpr c45
        have c45b1 := bne_iff_ne.mpr c45
        (first | rw [c45b0])
        have H' := Aside0.mk H
        clear H
        go_wp2
        go_meet
        case rel => exact ⟨_, ((a1_0.toList == ([111, 114] : List UInt8))), rfl, H', ⟨by have := HK1.out; have := HJ33.out; first | omega⟩, ⟨BK126.out⟩, ⟨BK127.out⟩, ⟨by exact HB.out⟩⟩
      rw [if_pos c45] at H
      have c45b0 := beq_iff_eq.mpr c45
      have c45b1 := bne_eq_false_iff_eq.mpr c45
      clear c45
      (first | rw [c45b0])
      have H' := Aside0.mk H
      clear H
      go_wp2
      go_meet
      case rel => exact ⟨_, ((a1_0.toList == ([115, 101, 113] : List UInt8))), (by (simp [*]; done)), H', ⟨by have := HK1.out; have := HJ33.out; first | omega⟩, ⟨BK126.out⟩, ⟨BK127.out⟩, ⟨by exact HB.out⟩⟩
     case rest =>
      clear HC44
      obtain ⟨kq, x59_43, rfl, HA, HJ43, BK126, BK127, HB⟩ := hcut
      cases kq with
      | zero => exact absurd HA.out (by simp [manystrandref24_right.j2])
      | succ kj43 =>
       have H := HA.out
       clear HA
       simp only [manystrandref24_right.j2] at H
       by_cases c46 : x59_43 = true
       · subst c46
         rw [if_pos rfl] at H
         by_cases c47 : (l1_2.length : Int) > 0
         rotate_left
         · rw [if_neg c47] at H
           have c47b0 := decide_eq_false c47
           have c47b1 : decide (0 < l1_2.length) = false := decide_eq_false (by omega)
           clear c47
           obtain rfl := Option.some.inj H
           have hnb50 := NB127_126.out
           have hnc50 := NB126_127.out
           have hcz51_0 : wc.cell? ⟨gb127, 0, none⟩ = some (.string a1_0) := (blk_cell BK127.out 0).trans rfl
           have hcz51_1 : wc.cell? ⟨gb127, 1, none⟩ = some (.string a1_1) := (blk_cell BK127.out 1).trans rfl
           have hcz51_2 : wc.cell? ⟨gb127, 2, none⟩ = some (.slice A1_2 l1_2.length c1_2) := (blk_cell BK127.out 2).trans rfl
           have hfz51_0 := blk_frozen BK127.out 0
           have hfz51_1 := blk_frozen BK127.out 1
           have hfz51_2 := blk_frozen BK127.out 2
           go_wp2
           go_ret
           exact ⟨by first | rfl, by exact HB.out⟩
         rw [if_pos c47] at H
         have c47b0 := decide_eq_true c47
         have c47b1 : decide (0 < l1_2.length) = true := decide_eq_true (by omega)
         clear c47
         obtain rfl := Option.some.inj H
         have hnb48 := NB127_126.out
         have hnc48 := NB126_127.out
         have hcz49_0 : wc.cell? ⟨gb127, 0, none⟩ = some (.string a1_0) := (blk_cell BK127.out 0).trans rfl
         have hcz49_1 : wc.cell? ⟨gb127, 1, none⟩ = some (.string a1_1) := (blk_cell BK127.out 1).trans rfl
         have hcz49_2 : wc.cell? ⟨gb127, 2, none⟩ = some (.slice A1_2 l1_2.length c1_2) := (blk_cell BK127.out 2).trans rfl
         have hfz49_0 := blk_frozen BK127.out 0
         have hfz49_1 := blk_frozen BK127.out 1
         have hfz49_2 := blk_frozen BK127.out 2
         go_wp2
         go_ret
         exact ⟨by first | rfl, by exact HB.out⟩
       replace c46 := Bool.eq_false_iff.mpr c46
       subst c46
       rw [if_neg (show ¬ (false = true) by decide)] at H
       by_cases c52 : a1_0.toList = ([109, 97, 110, 121] : List UInt8)
       · rw [if_pos c52] at H
         have c52b0 := beq_iff_eq.mpr c52
         have c52b1 := bne_eq_false_iff_eq.mpr c52
         clear c52
         by_cases c53 : (l1_2.length : Int) = 1
         rotate_left
         · rw [if_neg c53] at H
           have c53b0 := beq_eq_false_iff_ne.mpr c53
           have c53b1 := bne_iff_ne.mpr c53
           obtain rfl := Option.some.inj H
           have hnb56 := NB127_126.out
           have hnc56 := NB126_127.out
           have hcz57_0 : wc.cell? ⟨gb127, 0, none⟩ = some (.string a1_0) := (blk_cell BK127.out 0).trans rfl
           have hcz57_1 : wc.cell? ⟨gb127, 1, none⟩ = some (.string a1_1) := (blk_cell BK127.out 1).trans rfl
           have hcz57_2 : wc.cell? ⟨gb127, 2, none⟩ = some (.slice A1_2 l1_2.length c1_2) := (blk_cell BK127.out 2).trans rfl
           have hfz57_0 := blk_frozen BK127.out 0
           have hfz57_1 := blk_frozen BK127.out 1
           have hfz57_2 := blk_frozen BK127.out 2
           go_wp2
           go_ret
           exact ⟨by first | rfl, by exact HB.out⟩
         rw [if_pos c53] at H
         have c53b0 := beq_iff_eq.mpr c53
         have c53b1 := bne_eq_false_iff_eq.mpr c53
         clear c53
         obtain rfl := Option.some.inj H
         have hnb54 := NB127_126.out
         have hnc54 := NB126_127.out
         have hcz55_0 : wc.cell? ⟨gb127, 0, none⟩ = some (.string a1_0) := (blk_cell BK127.out 0).trans rfl
         have hcz55_1 : wc.cell? ⟨gb127, 1, none⟩ = some (.string a1_1) := (blk_cell BK127.out 1).trans rfl
         have hcz55_2 : wc.cell? ⟨gb127, 2, none⟩ = some (.slice A1_2 l1_2.length c1_2) := (blk_cell BK127.out 2).trans rfl
         have hfz55_0 := blk_frozen BK127.out 0
         have hfz55_1 := blk_frozen BK127.out 1
         have hfz55_2 := blk_frozen BK127.out 2
         go_wp2
         go_ret
         exact ⟨by first | rfl, by exact HB.out⟩
       rw [if_neg c52] at H
       have c52b0 := beq_eq_false_iff_ne.mpr c52
       have c52b1 := bne_iff_ne.mpr c52
       by_cases c58 : a1_0.toList = ([111, 112, 116] : List UInt8)
       · rw [if_pos c58] at H
         have c58b0 := beq_iff_eq.mpr c58
         have c58b1 := bne_eq_false_iff_eq.mpr c58
         clear c58
         by_cases c59 : (l1_2.length : Int) = 1
         rotate_left
         · rw [if_neg c59] at H
           have c59b0 := beq_eq_false_iff_ne.mpr c59
           have c59b1 := bne_iff_ne.mpr c59
           obtain rfl := Option.some.inj H
           have hnb62 := NB127_126.out
           have hnc62 := NB126_127.out
           have hcz63_0 : wc.cell? ⟨gb127, 0, none⟩ = some (.string a1_0) := (blk_cell BK127.out 0).trans rfl
           have hcz63_1 : wc.cell? ⟨gb127, 1, none⟩ = some (.string a1_1) := (blk_cell BK127.out 1).trans rfl
           have hcz63_2 : wc.cell? ⟨gb127, 2, none⟩ = some (.slice A1_2 l1_2.length c1_2) := (blk_cell BK127.out 2).trans rfl
           have hfz63_0 := blk_frozen BK127.out 0
           have hfz63_1 := blk_frozen BK127.out 1
           have hfz63_2 := blk_frozen BK127.out 2
           go_wp2
           go_ret
           exact ⟨by first | rfl, by exact HB.out⟩
         rw [if_pos c59] at H
         have c59b0 := beq_iff_eq.mpr c59
         have c59b1 := bne_eq_false_iff_eq.mpr c59
         clear c59
         obtain rfl := Option.some.inj H
         have hnb60 := NB127_126.out
         have hnc60 := NB126_127.out
         have hcz61_0 : wc.cell? ⟨gb127, 0, none⟩ = some (.string a1_0) := (blk_cell BK127.out 0).trans rfl
         have hcz61_1 : wc.cell? ⟨gb127, 1, none⟩ = some (.string a1_1) := (blk_cell BK127.out 1).trans rfl
         have hcz61_2 : wc.cell? ⟨gb127, 2, none⟩ = some (.slice A1_2 l1_2.length c1_2) := (blk_cell BK127.out 2).trans rfl
         have hfz61_0 := blk_frozen BK127.out 0
         have hfz61_1 := blk_frozen BK127.out 1
         have hfz61_2 := blk_frozen BK127.out 2
         go_wp2
         go_ret
         exact ⟨by first | rfl, by exact HB.out⟩
       rw [if_neg c58] at H
       have c58b0 := beq_eq_false_iff_ne.mpr c58
       have c58b1 := bne_iff_ne.mpr c58
       by_cases c64 : a1_0.toList = ([110, 111, 116] : List UInt8)
       rotate_left
       · rw [if_neg c64] at H
         have c64b0 := beq_eq_false_iff_ne.mpr c64
         have c64b1 := bne_iff_ne.mpr c64
         obtain rfl := Option.some.inj H
         go_wp2
         go_ret
         exact ⟨by first | rfl, by exact HB.out⟩
       rw [if_pos c64] at H
       have c64b0 := beq_iff_eq.mpr c64
       have c64b1 := bne_eq_false_iff_eq.mpr c64
       clear c64
       by_cases c65 : (l1_2.length : Int) = 1
       rotate_left
       · rw [if_neg c65] at H
         have c65b0 := beq_eq_false_iff_ne.mpr c65
         have c65b1 := bne_iff_ne.mpr c65
         obtain rfl := Option.some.inj H
         have hnb68 := NB127_126.out
         have hnc68 := NB126_127.out
         have hcz69_0 : wc.cell? ⟨gb127, 0, none⟩ = some (.string a1_0) := (blk_cell BK127.out 0).trans rfl
         have hcz69_1 : wc.cell? ⟨gb127, 1, none⟩ = some (.string a1_1) := (blk_cell BK127.out 1).trans rfl
         have hcz69_2 : wc.cell? ⟨gb127, 2, none⟩ = some (.slice A1_2 l1_2.length c1_2) := (blk_cell BK127.out 2).trans rfl
         have hfz69_0 := blk_frozen BK127.out 0
         have hfz69_1 := blk_frozen BK127.out 1
         have hfz69_2 := blk_frozen BK127.out 2
         go_wp2
         go_ret
         exact ⟨by first | rfl, by exact HB.out⟩
       rw [if_pos c65] at H
       have c65b0 := beq_iff_eq.mpr c65
       have c65b1 := bne_eq_false_iff_eq.mpr c65
       clear c65
       obtain rfl := Option.some.inj H
       have hnb66 := NB127_126.out
       have hnc66 := NB126_127.out
       have hcz67_0 : wc.cell? ⟨gb127, 0, none⟩ = some (.string a1_0) := (blk_cell BK127.out 0).trans rfl
       have hcz67_1 : wc.cell? ⟨gb127, 1, none⟩ = some (.string a1_1) := (blk_cell BK127.out 1).trans rfl
       have hcz67_2 : wc.cell? ⟨gb127, 2, none⟩ = some (.slice A1_2 l1_2.length c1_2) := (blk_cell BK127.out 2).trans rfl
       have hfz67_0 := blk_frozen BK127.out 0
       have hfz67_1 := blk_frozen BK127.out 1
       have hfz67_2 := blk_frozen BK127.out 2
       go_wp2
       go_ret
       exact ⟨by first | rfl, by exact HB.out⟩
end Go.Proofs.Ytcnllhnhinmokaa.PHGr
end
section
namespace Go.Proofs.Ytcnllhnhinmokaa.PHGr
open Go.RowKit Go.Proofs.YtcnllhnhinmokaaW.PrintWords Go.Proofs.YtcnllhnhinmokaaW.PrintLast Go.Proofs.YtcnllhnhinmokaaW.PrintMore
attribute [local go_sem] max2_int min2_int max_two min_two max_three min_three max_four min_four
set_option linter.unusedVariables false
set_option linter.unusedSimpArgs false
def manystrandref24_Right.l0 : Nat → Int → List (S54) → Option (Bool)
 | 0, _, _ => none
 | k + 1, x3, x133000 => if x3 < (x133000.length : Int) then (if 0 ≤ x3 then ((manystrandref01_IsPlain.f k ((rd_T54 x133000 x3).f0)).bind fun t134 => (if t134 = true then ((manystrandref24_find.f k x133000 ((rd_T54 x133000 x3).f0)).bind fun t136 => (if t136 = x3 then ((manystrandref24_right.f k x133000 ((rd_T54 x133000 x3).f1.f0) ((rd_T54 x133000 x3).f1.f1) ((rd_T54 x133000 x3).f1.f2)).bind fun t138 => (if t138 = true then (manystrandref24_Right.l0 k (wrap64 (x3 + 1)) x133000) else (some false))) else (some false))) else (some false))) else (none)) else (some (decide ((x133000.length : Int) > 0)))
def manystrandref24_Right.f (k : Nat) (l0_0 : List (S54)) : Option (Bool) := manystrandref24_Right.l0 k 0 l0_0
def manystrandref24_Right.T4 : Bool × List (List Nat × List Nat) := (true, [([], []), ([0], [0]), ([], []), ([1, 2], [1, 2]), ([3], [3]), ([4], [4]), ([5], [5]), ([6], [6]), ([7, 6], [7]), ([8], [8]), ([8], [8]), ([10, 8], [8, 10]), ([8], [8]), ([11, 12, 8], [8, 11, 12]), ([13, 8], [8, 13]), ([14, 8], [8, 14]), ([9, 15, 8, 8], [8, 9, 15]), ([8], [8]), ([16, 17, 8], [8, 16, 17]), ([8, 18], [8, 18]), ([19, 16], [19]), ([20], [20]), ([20], [20]), ([22, 20], [20, 22]), ([20], [20]), ([23, 24, 20], [20, 23, 24]), ([25, 20], [20, 25]), ([26, 20], [20, 26]), ([21, 27, 20, 20], [20, 21, 27]), ([28, 20], [20, 28]), ([20, 29], [20, 29])])
def manystrandref24_Right.B4 : List Nat := [0, 1, 0, 7, 15, 31, 63, 127, 255, 511, 511, 1535, 511, 7679, 15871, 32255, 65535, 511, 262143, 524287, 1048575, 2097151, 2097151, 6291455, 2097151, 31457279, 65011711, 132120575, 268435455, 536870911, 1073741823]
theorem manystrandref24_Right.tab4 : rtab .any (opsOf Try.f35 4) = manystrandref24_Right.T4 := by kernel_rfl
theorem manystrandref24_Right.bits4 : waitsOk manystrandref24_Right.T4.2 manystrandref24_Right.B4 = true := by kernel_rfl
set_option maxHeartbeats 8000000 in
set_option maxRecDepth 100000 in
theorem manystrandref24_Right.calls (k : Nat) (A0_0 : Option Addr) (c0_0 : Nat) (l0_0 : List (S54)) (r : Bool) (w : World) (hr0_0 : Kd.C k54 w A0_0 l0_0.length l0_0) (hc0_0 : l0_0.length ≤ c0_0) (h : manystrandref24_Right.f k l0_0 = some r) :
 Calls Try.prog 35 #[.agg #[.slice A0_0 l0_0.length c0_0]] w fun e w' => e = .returned (.bool r) ∧ Below w.heap.size w w' := by
 have hu24 := Try.underlying24
 have hu52 := Try.underlying52
 have HR0_0 := Aside0.mk hr0_0
 have HC0_0 := Aside0.mk hc0_0
 clear hr0_0 hc0_0
 have HB := Aside0.mk (Below.refl w.heap.size w)
 have H : (manystrandref24_Right.l0 k 0 l0_0) = some r := h
 clear h
 have H' := Aside0.mk H
 clear H
 go_enter Try.func35, Try.ntmps35
 go_wp2_with (((with_reducible refine gate_dst (N := 1) rfl ?_); refine box_event ?hg (N := 1) ?hd (cs := #[.slice A0_0 l0_0.length c0_0]) (t := 24) ?hr ?_; (case hd => rfl); (case hg => rfl); (case hr => (go_simp; done)); intro gb132 hg w2 hbox hb; have n0_ := Aside0.mk (below_step HB.out hb); have n1_ := Aside0.mk (hbox); have n2_ := Aside0.mk ((by rw [hg]; exact (below_size HB.out) : w.heap.size ≤ gb132)); have n3_ := Aside0.mk ((by rw [hg]; exact (below_size HB.out) : w.heap.size ≤ gb132)); clear HB; have HB := n0_; have BK132 := n1_; have GW132 := n2_; have GE132 := n3_; clear n0_ n1_ n2_ n3_; clear hb hbox hg))
 go_loopg [3] k (fun kq v3 w' => ∃ (x3_1 : Int), v3 = .int .i64 x3_1 ∧ Aside0 (manystrandref24_Right.l0 kq x3_1 l0_0 = some r) ∧ Aside0 (kq ≤ k) ∧ Aside0 (w'.heap[gb132]? = some (.cells #[(.slice A0_0 l0_0.length c0_0)] 24 (0, 0))) ∧ Aside0 (Below w.heap.size w w'))
 case atStart => exact ⟨(0), rfl, H', ⟨Nat.le_refl _⟩, ⟨BK132.out⟩, ⟨by exact HB.out⟩⟩
 case round =>
  clear H'
  obtain ⟨x3_1, rfl, HA, HK1, BK132, HB⟩ := hrel
  cases gk with
  | zero => exact absurd HA.out (by simp [manystrandref24_Right.l0])
  | succ k1 =>
   have H := HA.out
   clear HA
   simp only [manystrandref24_Right.l0] at H
   by_cases c3 : x3_1 < (l0_0.length : Int)
   rotate_left
   · rw [if_neg c3] at H
     have c3b0 := decide_eq_false c3
     clear c3
     obtain rfl := Option.some.inj H
     have hcz24_0 : wr.cell? ⟨gb132, 0, none⟩ = some (.slice A0_0 l0_0.length c0_0) := (blk_cell BK132.out 0).trans rfl
     have hfz24_0 := blk_frozen BK132.out 0
     go_wp2
     go_ret
     exact ⟨by first | rfl, by exact HB.out⟩
   rw [if_pos c3] at H
   have c3b0 := decide_eq_true c3
   clear c3
   obtain ⟨c4, H⟩ := gd H
   have c4b0 := decide_eq_true c4
   clear c4
   replace H := Option.bind_eq_some_iff.mp H
   obtain ⟨t134, A50, H⟩ := H
   have A5 := Aside0.mk A50
   clear A50
   by_cases c6 : t134 = true
   rotate_left
   · replace c6 := Bool.eq_false_iff.mpr c6
     subst c6
     rw [if_neg (show ¬ (false = true) by decide)] at H
     obtain rfl := Option.some.inj H
     have hcz22_0 : wr.cell? ⟨gb132, 0, none⟩ = some (.slice A0_0 l0_0.length c0_0) := (blk_cell BK132.out 0).trans rfl
     have hfz22_0 := blk_frozen BK132.out 0
     try go_wp2
     have n0_ := Aside0.mk (blk_drew BK132.out)
     have n1_ := Aside0.mk (below_drew1 HB.out)
     clear BK132
     clear HB
     have BK132 := n0_
     have HB := n1_
     clear n0_ n1_
     have p133 : 0 ≤ (x3_1 : Int) := of_decide_eq_true (by assumption)
     have q133 : x3_1 < (l0_0.length : Int) := of_decide_eq_true (by assumption)
     obtain ⟨ad133, A133_3, c133_3, e133, hx133_0, hx133_1, hx133_2, hx133_3, hl133_3, hi133_3⟩ := at_T54 HR0_0.out x3_1 p133 q133
     have hw133_3 := hx133_3
     have hw133_2 := hx133_2
     have hw133_1 := hx133_1
     have hw133_0 := hx133_0
     cases e133
     replace hx133_0 := ct HB.out hx133_0
     replace hx133_1 := ct HB.out hx133_1
     replace hx133_2 := ct HB.out hx133_2
     replace hx133_3 := ct HB.out hx133_3
     have HR133_3 := Aside0.mk hi133_3
     have HC133_3 := Aside0.mk hl133_3
     clear hi133_3 hl133_3
     replace p133 := eq_true p133
     replace q133 := eq_true q133
     refine start_ (n := 31) (S := fun w' => w'.cell? ⟨gb132, 0, none⟩ = some (.slice (some ad133) l0_0.length c0_0) ∧ w'.cell? (ad133.add ((x3_1).toNat * 4)) = some (.string ((rd_T54 l0_0 x3_1).f0)) ∧ w'.cell? ⟨(ad133.add ((x3_1).toNat * 4)).block, (ad133.add ((x3_1).toNat * 4)).off + 1, none⟩ = some (.string ((rd_T54 l0_0 x3_1).f1.f0)) ∧ w'.cell? ⟨(ad133.add ((x3_1).toNat * 4)).block, (ad133.add ((x3_1).toNat * 4)).off + 2, none⟩ = some (.string ((rd_T54 l0_0 x3_1).f1.f1)) ∧ w'.cell? ⟨(ad133.add ((x3_1).toNat * 4)).block, (ad133.add ((x3_1).toNat * 4)).off + 3, none⟩ = some (.slice A133_3 ((rd_T54 l0_0 x3_1).f1.f2).length c133_3)) (ds := []) #[F,F,F,F,F,F,F,F,F,F,F,F,F,F,F,F,F,F,F,F,F,F,F,F,F,F,F,F,F,F,F] (by kernel_rfl) rfl rfl ⟨(blk_cell BK132.out 0).trans rfl, (ct HB.out hw133_0), (ct HB.out hw133_1), (ct HB.out hw133_2), (ct HB.out hw133_3)⟩ (fun hHeld => ?_); refine with_tabW manystrandref24_Right.tab4 manystrandref24_Right.bits4 (fun HT_ HW_ => ?_)
     generalize wr.drew = w23 at BK132 HB HR133_3 hx133_0 hx133_1 hx133_2 hx133_3 hHeld ⊢
     refine pure_ (i := 0) (N := some 11) (v := ?_) (a' := ?_) #[T,F,F,F,F,F,F,F,F,F,F,F,F,F,F,F,F,F,F,F,F,F,F,F,F,F,F,F,F,F,F] rfl rfl (any_of HT_.out (by kernel_rfl)) (fun _ _ _ h => h) (Or.inl ⟨by rfl, ?_⟩) ?_ ?_
     rotate_left
     · intro w'
       go_simp
       with_reducible rfl
     rotate_left
     · simp only [Act.put, List.setIfInBounds_toArray, List.set_cons_zero, List.set_cons_succ, i64_w, i32_w]
       rfl
     refine pure_ (i := 2) (N := some 13) (v := ?_) (a' := ?_) #[T,F,T,F,F,F,F,F,F,F,F,F,F,F,F,F,F,F,F,F,F,F,F,F,F,F,F,F,F,F,F] rfl rfl (any_of HT_.out (by kernel_rfl)) (fun _ _ _ h => h) (Or.inl ⟨by rfl, ?_⟩) ?_ ?_
     rotate_left
     · intro w'
       go_simp
       with_reducible rfl
     rotate_left
     · simp only [Act.put, List.setIfInBounds_toArray, List.set_cons_zero, List.set_cons_succ, i64_w, i32_w]
       rfl
     refine take_ (i := 1) (N := some 12) (v := ?_) (a' := ?_) #[T,T,T,F,F,F,F,F,F,F,F,F,F,F,F,F,F,F,F,F,F,F,F,F,F,F,F,F,F,F,F] rfl rfl (take_ofW HT_.out HW_.out (by kernel_rfl)) (fun _ _ _ h => h) (Or.inl ⟨by rfl, ?_⟩) hHeld ?_ ?_
     rotate_left
     · rintro w' ⟨s0, s1, s2, s3, s4⟩
       go_simp
       with_reducible rfl
     rotate_left
     · simp only [Act.put, List.setIfInBounds_toArray, List.set_cons_zero, List.set_cons_succ, i64_w, i32_w]
       rfl
     refine pure_ (i := 3) (N := some 14) (v := ?_) (a' := ?_) #[T,T,T,T,F,F,F,F,F,F,F,F,F,F,F,F,F,F,F,F,F,F,F,F,F,F,F,F,F,F,F] rfl rfl (any_of HT_.out (by kernel_rfl)) (fun _ _ _ h => h) (Or.inl ⟨by rfl, ?_⟩) ?_ ?_
     rotate_left
     · intro w'
       go_simp
       with_reducible rfl
     rotate_left
     · simp only [Act.put, List.setIfInBounds_toArray, List.set_cons_zero, List.set_cons_succ, i64_w, i32_w]
       rfl
     refine pure_ (i := 4) (N := some 15) (v := ?_) (a' := ?_) #[T,T,T,T,T,F,F,F,F,F,F,F,F,F,F,F,F,F,F,F,F,F,F,F,F,F,F,F,F,F,F] rfl rfl (any_of HT_.out (by kernel_rfl)) (fun _ _ _ h => h) (Or.inl ⟨by rfl, ?_⟩) ?_ ?_
     rotate_left
     · intro w'
       go_simp
       with_reducible rfl
     rotate_left
     · simp only [Act.put, List.setIfInBounds_toArray, List.set_cons_zero, List.set_cons_succ, i64_w, i32_w]
       rfl
     refine take_ (i := 5) (N := some 16) (v := ?_) (a' := ?_) #[T,T,T,T,T,T,F,F,F,F,F,F,F,F,F,F,F,F,F,F,F,F,F,F,F,F,F,F,F,F,F] rfl rfl (take_ofW HT_.out HW_.out (by kernel_rfl)) (fun _ _ _ h => h) (Or.inl ⟨by rfl, ?_⟩) hHeld ?_ ?_
     rotate_left
     · rintro w' ⟨s0, s1, s2, s3, s4⟩
       go_simp
       with_reducible rfl
     rotate_left
     · simp only [Act.put, List.setIfInBounds_toArray, List.set_cons_zero, List.set_cons_succ, i64_w, i32_w]
       rfl
     refine one_ (i := 6) (N := some 17) #[T,T,T,T,T,T,T,F,F,F,F,F,F,F,F,F,F,F,F,F,F,F,F,F,F,F,F,F,F,F,F] rfl rfl (one_of HT_.out (by kernel_rfl)) (by decide) (fun K hK => ?_)
     refine goes_ Try.func68 (by kernel_rfl) rfl #[.string ((rd_T54 l0_0 x3_1).f0)] (by rfl) rfl rfl (by (try simp only [List.map_toArray, List.map_cons, List.map_nil]); first | rfl) ?_
     with_reducible refine (manystrandref01_IsPlain.calls k1 ((rd_T54 l0_0 x3_1).f0) false _ A5.out).mono ?_
     rintro e w' ⟨rfl, ⟨nd, rfl⟩⟩
     refine ⟨_, rfl, ?_⟩
     refine hK.out _ _ ⟨(blk_cell BK132.out 0).trans rfl, (ct HB.out hw133_0), (ct HB.out hw133_1), (ct HB.out hw133_2), (ct HB.out hw133_3)⟩ (fun hHeld => ?_)
     clear hK K
     refine norm_ (a' := ?_) ?_ ?_
     rotate_left
     · show Act.put _ (some 17) _ = _
       simp only [Act.put, List.setIfInBounds_toArray, List.set_cons_zero, List.set_cons_succ, i64_w, i32_w]
       rfl
     refine pure_ (i := 7) (N := some 18) (v := ?_) (a' := ?_) #[T,T,T,T,T,T,T,T,F,F,F,F,F,F,F,F,F,F,F,F,F,F,F,F,F,F,F,F,F,F,F] rfl rfl (any_of HT_.out (by kernel_rfl)) (fun _ _ _ h => h) (Or.inl ⟨by rfl, ?_⟩) ?_ ?_
     rotate_left
     · intro w'
       go_simp
       with_reducible rfl
     rotate_left
     · simp only [Act.put, List.setIfInBounds_toArray, List.set_cons_zero, List.set_cons_succ, i64_w, i32_w]
       rfl
     refine pure_ (i := 8) (N := some 19) (v := ?_) (a' := ?_) #[T,T,T,T,T,T,T,T,T,F,F,F,F,F,F,F,F,F,F,F,F,F,F,F,F,F,F,F,F,F,F] rfl rfl (any_of HT_.out (by kernel_rfl)) (fun _ _ _ h => h) (Or.inl ⟨by rfl, ?_⟩) ?_ ?_
     rotate_left
     · intro w'
       go_simp
       with_reducible rfl
     rotate_left
     · simp only [Act.put, List.setIfInBounds_toArray, List.set_cons_zero, List.set_cons_succ, i64_w, i32_w]
       rfl
     refine pure_ (i := 9) (N := some 20) (v := undef) (a' := ?_) #[T,T,T,T,T,T,T,T,T,T,F,F,F,F,F,F,F,F,F,F,F,F,F,F,F,F,F,F,F,F,F] rfl rfl (any_of HT_.out (by kernel_rfl)) (fun _ _ _ h => h) (Or.inr ⟨by rfl, rfl⟩) ?_ ?_
     rotate_left
     · simp only [Act.put, List.setIfInBounds_toArray, List.set_cons_zero, List.set_cons_succ, i64_w, i32_w]
       rfl
     refine pure_ (i := 10) (N := some 21) (v := undef) (a' := ?_) #[T,T,T,T,T,T,T,T,T,T,T,F,F,F,F,F,F,F,F,F,F,F,F,F,F,F,F,F,F,F,F] rfl rfl (any_of HT_.out (by kernel_rfl)) (fun _ _ _ h => h) (Or.inr ⟨by rfl, rfl⟩) ?_ ?_
     rotate_left
     · simp only [Act.put, List.setIfInBounds_toArray, List.set_cons_zero, List.set_cons_succ, i64_w, i32_w]
       rfl
     refine pure_ (i := 11) (N := some 22) (v := undef) (a' := ?_) #[T,T,T,T,T,T,T,T,T,T,T,T,F,F,F,F,F,F,F,F,F,F,F,F,F,F,F,F,F,F,F] rfl rfl (any_of HT_.out (by kernel_rfl)) (fun _ _ _ h => h) (Or.inr ⟨by rfl, rfl⟩) ?_ ?_
     rotate_left
     · simp only [Act.put, List.setIfInBounds_toArray, List.set_cons_zero, List.set_cons_succ, i64_w, i32_w]
       rfl
     refine pure_ (i := 12) (N := some 23) (v := undef) (a' := ?_) #[T,T,T,T,T,T,T,T,T,T,T,T,T,F,F,F,F,F,F,F,F,F,F,F,F,F,F,F,F,F,F] rfl rfl (any_of HT_.out (by kernel_rfl)) (fun _ _ _ h => h) (Or.inr ⟨by rfl, rfl⟩) ?_ ?_
     rotate_left
     · simp only [Act.put, List.setIfInBounds_toArray, List.set_cons_zero, List.set_cons_succ, i64_w, i32_w]
       rfl
     refine pure_ (i := 13) (N := some 24) (v := undef) (a' := ?_) #[T,T,T,T,T,T,T,T,T,T,T,T,T,T,F,F,F,F,F,F,F,F,F,F,F,F,F,F,F,F,F] rfl rfl (any_of HT_.out (by kernel_rfl)) (fun _ _ _ h => h) (Or.inr ⟨by rfl, rfl⟩) ?_ ?_
     rotate_left
     · simp only [Act.put, List.setIfInBounds_toArray, List.set_cons_zero, List.set_cons_succ, i64_w, i32_w]
       rfl
     refine pure_ (i := 14) (N := some 25) (v := undef) (a' := ?_) #[T,T,T,T,T,T,T,T,T,T,T,T,T,T,T,F,F,F,F,F,F,F,F,F,F,F,F,F,F,F,F] rfl rfl (any_of HT_.out (by kernel_rfl)) (fun _ _ _ h => h) (Or.inr ⟨by rfl, rfl⟩) ?_ ?_
     rotate_left
     · simp only [Act.put, List.setIfInBounds_toArray, List.set_cons_zero, List.set_cons_succ, i64_w, i32_w]
       rfl
     refine pure_ (i := 15) (N := some 26) (v := undef) (a' := ?_) #[T,T,T,T,T,T,T,T,T,T,T,T,T,T,T,T,F,F,F,F,F,F,F,F,F,F,F,F,F,F,F] rfl rfl (any_of HT_.out (by kernel_rfl)) (fun _ _ _ h => h) (Or.inr ⟨by rfl, rfl⟩) ?_ ?_
     rotate_left
     · simp only [Act.put, List.setIfInBounds_toArray, List.set_cons_zero, List.set_cons_succ, i64_w, i32_w]
       rfl
     refine pure_ (i := 16) (N := some 27) (v := undef) (a' := ?_) #[T,T,T,T,T,T,T,T,T,T,T,T,T,T,T,T,T,F,F,F,F,F,F,F,F,F,F,F,F,F,F] rfl rfl (any_of HT_.out (by kernel_rfl)) (fun _ _ _ h => h) (Or.inr ⟨by rfl, rfl⟩) ?_ ?_
     rotate_left
     · simp only [Act.put, List.setIfInBounds_toArray, List.set_cons_zero, List.set_cons_succ, i64_w, i32_w]
       rfl
     refine pure_ (i := 17) (N := some 28) (v := undef) (a' := ?_) #[T,T,T,T,T,T,T,T,T,T,T,T,T,T,T,T,T,T,F,F,F,F,F,F,F,F,F,F,F,F,F] rfl rfl (any_of HT_.out (by kernel_rfl)) (fun _ _ _ h => h) (Or.inr ⟨by rfl, rfl⟩) ?_ ?_
     rotate_left
     · simp only [Act.put, List.setIfInBounds_toArray, List.set_cons_zero, List.set_cons_succ, i64_w, i32_w]
       rfl
     refine pure_ (i := 18) (N := some 29) (v := undef) (a' := ?_) #[T,T,T,T,T,T,T,T,T,T,T,T,T,T,T,T,T,T,T,F,F,F,F,F,F,F,F,F,F,F,F] rfl rfl (any_of HT_.out (by kernel_rfl)) (fun _ _ _ h => h) (Or.inr ⟨by rfl, rfl⟩) ?_ ?_
     rotate_left
     · simp only [Act.put, List.setIfInBounds_toArray, List.set_cons_zero, List.set_cons_succ, i64_w, i32_w]
       rfl
     refine pure_ (i := 19) (N := some 30) (v := ?_) (a' := ?_) #[T,T,T,T,T,T,T,T,T,T,T,T,T,T,T,T,T,T,T,T,F,F,F,F,F,F,F,F,F,F,F] rfl rfl (any_of HT_.out (by kernel_rfl)) (fun _ _ _ h => h) (Or.inl ⟨by rfl, ?_⟩) ?_ ?_
     rotate_left
     · intro w'
       go_simp
       with_reducible rfl
     rotate_left
     · simp only [Act.put, List.setIfInBounds_toArray, List.set_cons_zero, List.set_cons_succ, i64_w, i32_w]
       rfl
     refine pure_ (i := 20) (N := some 31) (v := ?_) (a' := ?_) #[T,T,T,T,T,T,T,T,T,T,T,T,T,T,T,T,T,T,T,T,T,F,F,F,F,F,F,F,F,F,F] rfl rfl (any_of HT_.out (by kernel_rfl)) (fun _ _ _ h => h) (Or.inl ⟨by rfl, ?_⟩) ?_ ?_
     rotate_left
     · intro w'
       go_simp
       with_reducible rfl
     rotate_left
     · simp only [Act.put, List.setIfInBounds_toArray, List.set_cons_zero, List.set_cons_succ, i64_w, i32_w]
       rfl
     refine pure_ (i := 21) (N := some 32) (v := undef) (a' := ?_) #[T,T,T,T,T,T,T,T,T,T,T,T,T,T,T,T,T,T,T,T,T,T,F,F,F,F,F,F,F,F,F] rfl rfl (any_of HT_.out (by kernel_rfl)) (fun _ _ _ h => h) (Or.inr ⟨by rfl, rfl⟩) ?_ ?_
     rotate_left
     · simp only [Act.put, List.setIfInBounds_toArray, List.set_cons_zero, List.set_cons_succ, i64_w, i32_w]
       rfl
     refine pure_ (i := 22) (N := some 33) (v := undef) (a' := ?_) #[T,T,T,T,T,T,T,T,T,T,T,T,T,T,T,T,T,T,T,T,T,T,T,F,F,F,F,F,F,F,F] rfl rfl (any_of HT_.out (by kernel_rfl)) (fun _ _ _ h => h) (Or.inr ⟨by rfl, rfl⟩) ?_ ?_
     rotate_left
     · simp only [Act.put, List.setIfInBounds_toArray, List.set_cons_zero, List.set_cons_succ, i64_w, i32_w]
       rfl
     refine pure_ (i := 23) (N := some 34) (v := undef) (a' := ?_) #[T,T,T,T,T,T,T,T,T,T,T,T,T,T,T,T,T,T,T,T,T,T,T,T,F,F,F,F,F,F,F] rfl rfl (any_of HT_.out (by kernel_rfl)) (fun _ _ _ h => h) (Or.inr ⟨by rfl, rfl⟩) ?_ ?_
     rotate_left
     · simp only [Act.put, List.setIfInBounds_toArray, List.set_cons_zero, List.set_cons_succ, i64_w, i32_w]
       rfl
     refine pure_ (i := 24) (N := some 35) (v := undef) (a' := ?_) #[T,T,T,T,T,T,T,T,T,T,T,T,T,T,T,T,T,T,T,T,T,T,T,T,T,F,F,F,F,F,F] rfl rfl (any_of HT_.out (by kernel_rfl)) (fun _ _ _ h => h) (Or.inr ⟨by rfl, rfl⟩) ?_ ?_
     rotate_left
     · simp only [Act.put, List.setIfInBounds_toArray, List.set_cons_zero, List.set_cons_succ, i64_w, i32_w]
       rfl
     refine pure_ (i := 25) (N := some 36) (v := undef) (a' := ?_) #[T,T,T,T,T,T,T,T,T,T,T,T,T,T,T,T,T,T,T,T,T,T,T,T,T,T,F,F,F,F,F] rfl rfl (any_of HT_.out (by kernel_rfl)) (fun _ _ _ h => h) (Or.inr ⟨by rfl, rfl⟩) ?_ ?_
     rotate_left
     · simp only [Act.put, List.setIfInBounds_toArray, List.set_cons_zero, List.set_cons_succ, i64_w, i32_w]
       rfl
     refine pure_ (i := 26) (N := some 37) (v := undef) (a' := ?_) #[T,T,T,T,T,T,T,T,T,T,T,T,T,T,T,T,T,T,T,T,T,T,T,T,T,T,T,F,F,F,F] rfl rfl (any_of HT_.out (by kernel_rfl)) (fun _ _ _ h => h) (Or.inr ⟨by rfl, rfl⟩) ?_ ?_
     rotate_left
     · simp only [Act.put, List.setIfInBounds_toArray, List.set_cons_zero, List.set_cons_succ, i64_w, i32_w]
       rfl
     refine pure_ (i := 27) (N := some 38) (v := undef) (a' := ?_) #[T,T,T,T,T,T,T,T,T,T,T,T,T,T,T,T,T,T,T,T,T,T,T,T,T,T,T,T,F,F,F] rfl rfl (any_of HT_.out (by kernel_rfl)) (fun _ _ _ h => h) (Or.inr ⟨by rfl, rfl⟩) ?_ ?_
     rotate_left
     · simp only [Act.put, List.setIfInBounds_toArray, List.set_cons_zero, List.set_cons_succ, i64_w, i32_w]
       rfl
     refine pure_ (i := 28) (N := some 39) (v := undef) (a' := ?_) #[T,T,T,T,T,T,T,T,T,T,T,T,T,T,T,T,T,T,T,T,T,T,T,T,T,T,T,T,T,F,F] rfl rfl (any_of HT_.out (by kernel_rfl)) (fun _ _ _ h => h) (Or.inr ⟨by rfl, rfl⟩) ?_ ?_
     rotate_left
     · simp only [Act.put, List.setIfInBounds_toArray, List.set_cons_zero, List.set_cons_succ, i64_w, i32_w]
       rfl
     refine pure_ (i := 29) (N := some 40) (v := undef) (a' := ?_) #[T,T,T,T,T,T,T,T,T,T,T,T,T,T,T,T,T,T,T,T,T,T,T,T,T,T,T,T,T,T,F] rfl rfl (any_of HT_.out (by kernel_rfl)) (fun _ _ _ h => h) (Or.inr ⟨by rfl, rfl⟩) ?_ ?_
     rotate_left
     · simp only [Act.put, List.setIfInBounds_toArray, List.set_cons_zero, List.set_cons_succ, i64_w, i32_w]
       rfl
     refine pure_ (i := 30) (N := some 41) (v := ?_) (a' := ?_) #[T,T,T,T,T,T,T,T,T,T,T,T,T,T,T,T,T,T,T,T,T,T,T,T,T,T,T,T,T,T,T] rfl rfl (any_of HT_.out (by kernel_rfl)) (fun _ _ _ h => h) (Or.inl ⟨by rfl, ?_⟩) ?_ ?_
     rotate_left
     · intro w'
       go_simp
       with_reducible rfl
     rotate_left
     · simp only [Act.put, List.setIfInBounds_toArray, List.set_cons_zero, List.set_cons_succ, i64_w, i32_w]
       rfl
     refine done_ (done_of HT_.out (by kernel_rfl)) ?_
     try go_wp2
     go_ret
     exact ⟨by first | rfl, by repeat ((with_reducible first | exact HB.out | apply pw_below_drewN))⟩
   subst c6
   rw [if_pos rfl] at H
   replace H := Option.bind_eq_some_iff.mp H
   obtain ⟨t136, A70, H⟩ := H
   have A7 := Aside0.mk A70
   clear A70
   by_cases c8 : t136 = x3_1
   rotate_left
   · rw [if_neg c8] at H
     have c8b0 := beq_eq_false_iff_ne.mpr c8
     have c8b1 := bne_iff_ne.mpr c8
     obtain rfl := Option.some.inj H
     have hcz19_0 : wr.cell? ⟨gb132, 0, none⟩ = some (.slice A0_0 l0_0.length c0_0) := (blk_cell BK132.out 0).trans rfl
     have hfz19_0 := blk_frozen BK132.out 0
     try go_wp2
     have n0_ := Aside0.mk (blk_drew BK132.out)
     have n1_ := Aside0.mk (below_drew1 HB.out)
     clear BK132
     clear HB
     have BK132 := n0_
     have HB := n1_
     clear n0_ n1_
     have p133 : 0 ≤ (x3_1 : Int) := of_decide_eq_true (by assumption)
     have q133 : x3_1 < (l0_0.length : Int) := of_decide_eq_true (by assumption)
     obtain ⟨ad133, A133_3, c133_3, e133, hx133_0, hx133_1, hx133_2, hx133_3, hl133_3, hi133_3⟩ := at_T54 HR0_0.out x3_1 p133 q133
     have hw133_3 := hx133_3
     have hw133_2 := hx133_2
     have hw133_1 := hx133_1
     have hw133_0 := hx133_0
     cases e133
     replace hx133_0 := ct HB.out hx133_0
     replace hx133_1 := ct HB.out hx133_1
     replace hx133_2 := ct HB.out hx133_2
     replace hx133_3 := ct HB.out hx133_3
     have HR133_3 := Aside0.mk hi133_3
     have HC133_3 := Aside0.mk hl133_3
     clear hi133_3 hl133_3
     replace p133 := eq_true p133
     replace q133 := eq_true q133
     have p135 : 0 ≤ (x3_1 : Int) := of_decide_eq_true (by assumption)
     have q135 : x3_1 < (l0_0.length : Int) := of_decide_eq_true (by assumption)
     obtain ⟨ad135, A135_3, c135_3, e135, hx135_0, hx135_1, hx135_2, hx135_3, hl135_3, hi135_3⟩ := at_T54 HR0_0.out x3_1 p135 q135
     have hw135_3 := hx135_3
     have hw135_2 := hx135_2
     have hw135_1 := hx135_1
     have hw135_0 := hx135_0
     obtain rfl : ad133 = ad135 := (by injection e135)
     replace hx135_0 := ct HB.out hx135_0
     replace hx135_1 := ct HB.out hx135_1
     replace hx135_2 := ct HB.out hx135_2
     replace hx135_3 := ct HB.out hx135_3
     have HR135_3 := Aside0.mk hi135_3
     have HC135_3 := Aside0.mk hl135_3
     clear hi135_3 hl135_3
     replace p135 := eq_true p135
     replace q135 := eq_true q135
     have ea_ := Option.some.inj (hx133_3.symm.trans hx135_3)
     injection ea_ with ea_ en_ ec_
     subst ea_
     subst ec_
     clear en_
     refine start_ (n := 31) (S := fun w' => w'.cell? ⟨gb132, 0, none⟩ = some (.slice (some ad133) l0_0.length c0_0) ∧ w'.cell? (ad133.add ((x3_1).toNat * 4)) = some (.string ((rd_T54 l0_0 x3_1).f0)) ∧ w'.cell? ⟨(ad133.add ((x3_1).toNat * 4)).block, (ad133.add ((x3_1).toNat * 4)).off + 1, none⟩ = some (.string ((rd_T54 l0_0 x3_1).f1.f0)) ∧ w'.cell? ⟨(ad133.add ((x3_1).toNat * 4)).block, (ad133.add ((x3_1).toNat * 4)).off + 2, none⟩ = some (.string ((rd_T54 l0_0 x3_1).f1.f1)) ∧ w'.cell? ⟨(ad133.add ((x3_1).toNat * 4)).block, (ad133.add ((x3_1).toNat * 4)).off + 3, none⟩ = some (.slice A133_3 ((rd_T54 l0_0 x3_1).f1.f2).length c133_3) ∧ w'.cell? (ad133.add ((x3_1).toNat * 4)) = some (.string ((rd_T54 l0_0 x3_1).f0)) ∧ w'.cell? ⟨(ad133.add ((x3_1).toNat * 4)).block, (ad133.add ((x3_1).toNat * 4)).off + 1, none⟩ = some (.string ((rd_T54 l0_0 x3_1).f1.f0)) ∧ w'.cell? ⟨(ad133.add ((x3_1).toNat * 4)).block, (ad133.add ((x3_1).toNat * 4)).off + 2, none⟩ = some (.string ((rd_T54 l0_0 x3_1).f1.f1)) ∧ w'.cell? ⟨(ad133.add ((x3_1).toNat * 4)).block, (ad133.add ((x3_1).toNat * 4)).off + 3, none⟩ = some (.slice A133_3 ((rd_T54 l0_0 x3_1).f1.f2).length c133_3)) (ds := []) #[F,F,F,F,F,F,F,F,F,F,F,F,F,F,F,F,F,F,F,F,F,F,F,F,F,F,F,F,F,F,F] (by kernel_rfl) rfl rfl ⟨(blk_cell BK132.out 0).trans rfl, (ct HB.out hw133_0), (ct HB.out hw133_1), (ct HB.out hw133_2), (ct HB.out hw133_3), (ct HB.out hw135_0), (ct HB.out hw135_1), (ct HB.out hw135_2), (ct HB.out hw135_3)⟩ (fun hHeld => ?_); refine with_tabW manystrandref24_Right.tab4 manystrandref24_Right.bits4 (fun HT_ HW_ => ?_)
     generalize wr.drew = w20 at BK132 HB HR133_3 HR135_3 hx133_0 hx133_1 hx133_2 hx133_3 hx135_0 hx135_1 hx135_2 hx135_3 hHeld ⊢
     refine pure_ (i := 0) (N := some 11) (v := ?_) (a' := ?_) #[T,F,F,F,F,F,F,F,F,F,F,F,F,F,F,F,F,F,F,F,F,F,F,F,F,F,F,F,F,F,F] rfl rfl (any_of HT_.out (by kernel_rfl)) (fun _ _ _ h => h) (Or.inl ⟨by rfl, ?_⟩) ?_ ?_
     rotate_left
     · intro w'
       go_simp
       with_reducible rfl
     rotate_left
     · simp only [Act.put, List.setIfInBounds_toArray, List.set_cons_zero, List.set_cons_succ, i64_w, i32_w]
       rfl
     refine pure_ (i := 2) (N := some 13) (v := ?_) (a' := ?_) #[T,F,T,F,F,F,F,F,F,F,F,F,F,F,F,F,F,F,F,F,F,F,F,F,F,F,F,F,F,F,F] rfl rfl (any_of HT_.out (by kernel_rfl)) (fun _ _ _ h => h) (Or.inl ⟨by rfl, ?_⟩) ?_ ?_
     rotate_left
     · intro w'
       go_simp
       with_reducible rfl
     rotate_left
     · simp only [Act.put, List.setIfInBounds_toArray, List.set_cons_zero, List.set_cons_succ, i64_w, i32_w]
       rfl
     refine take_ (i := 1) (N := some 12) (v := ?_) (a' := ?_) #[T,T,T,F,F,F,F,F,F,F,F,F,F,F,F,F,F,F,F,F,F,F,F,F,F,F,F,F,F,F,F] rfl rfl (take_ofW HT_.out HW_.out (by kernel_rfl)) (fun _ _ _ h => h) (Or.inl ⟨by rfl, ?_⟩) hHeld ?_ ?_
     rotate_left
     · rintro w' ⟨s0, s1, s2, s3, s4, s5, s6, s7, s8⟩
       go_simp
       with_reducible rfl
     rotate_left
     · simp only [Act.put, List.setIfInBounds_toArray, List.set_cons_zero, List.set_cons_succ, i64_w, i32_w]
       rfl
     refine pure_ (i := 3) (N := some 14) (v := ?_) (a' := ?_) #[T,T,T,T,F,F,F,F,F,F,F,F,F,F,F,F,F,F,F,F,F,F,F,F,F,F,F,F,F,F,F] rfl rfl (any_of HT_.out (by kernel_rfl)) (fun _ _ _ h => h) (Or.inl ⟨by rfl, ?_⟩) ?_ ?_
     rotate_left
     · intro w'
       go_simp
       with_reducible rfl
     rotate_left
     · simp only [Act.put, List.setIfInBounds_toArray, List.set_cons_zero, List.set_cons_succ, i64_w, i32_w]
       rfl
     refine pure_ (i := 4) (N := some 15) (v := ?_) (a' := ?_) #[T,T,T,T,T,F,F,F,F,F,F,F,F,F,F,F,F,F,F,F,F,F,F,F,F,F,F,F,F,F,F] rfl rfl (any_of HT_.out (by kernel_rfl)) (fun _ _ _ h => h) (Or.inl ⟨by rfl, ?_⟩) ?_ ?_
     rotate_left
     · intro w'
       go_simp
       with_reducible rfl
     rotate_left
     · simp only [Act.put, List.setIfInBounds_toArray, List.set_cons_zero, List.set_cons_succ, i64_w, i32_w]
       rfl
     refine take_ (i := 5) (N := some 16) (v := ?_) (a' := ?_) #[T,T,T,T,T,T,F,F,F,F,F,F,F,F,F,F,F,F,F,F,F,F,F,F,F,F,F,F,F,F,F] rfl rfl (take_ofW HT_.out HW_.out (by kernel_rfl)) (fun _ _ _ h => h) (Or.inl ⟨by rfl, ?_⟩) hHeld ?_ ?_
     rotate_left
     · rintro w' ⟨s0, s1, s2, s3, s4, s5, s6, s7, s8⟩
       go_simp
       with_reducible rfl
     rotate_left
     · simp only [Act.put, List.setIfInBounds_toArray, List.set_cons_zero, List.set_cons_succ, i64_w, i32_w]
       rfl
     refine one_ (i := 6) (N := some 17) #[T,T,T,T,T,T,T,F,F,F,F,F,F,F,F,F,F,F,F,F,F,F,F,F,F,F,F,F,F,F,F] rfl rfl (one_of HT_.out (by kernel_rfl)) (by decide) (fun K hK => ?_)
     refine goes_ Try.func68 (by kernel_rfl) rfl #[.string ((rd_T54 l0_0 x3_1).f0)] (by rfl) rfl rfl (by (try simp only [List.map_toArray, List.map_cons, List.map_nil]); first | rfl) ?_
     with_reducible refine (manystrandref01_IsPlain.calls k1 ((rd_T54 l0_0 x3_1).f0) true _ A5.out).mono ?_
     rintro e w' ⟨rfl, ⟨nd, rfl⟩⟩
     refine ⟨_, rfl, ?_⟩
     refine hK.out _ _ ⟨(blk_cell BK132.out 0).trans rfl, (ct HB.out hw133_0), (ct HB.out hw133_1), (ct HB.out hw133_2), (ct HB.out hw133_3), (ct HB.out hw135_0), (ct HB.out hw135_1), (ct HB.out hw135_2), (ct HB.out hw135_3)⟩ (fun hHeld => ?_)
     clear hK K
     refine norm_ (a' := ?_) ?_ ?_
     rotate_left
     · show Act.put _ (some 17) _ = _
       simp only [Act.put, List.setIfInBounds_toArray, List.set_cons_zero, List.set_cons_succ, i64_w, i32_w]
       rfl
     refine pure_ (i := 7) (N := some 18) (v := ?_) (a' := ?_) #[T,T,T,T,T,T,T,T,F,F,F,F,F,F,F,F,F,F,F,F,F,F,F,F,F,F,F,F,F,F,F] rfl rfl (any_of HT_.out (by kernel_rfl)) (fun _ _ _ h => h) (Or.inl ⟨by rfl, ?_⟩) ?_ ?_
     rotate_left
     · intro w'
       go_simp
       with_reducible rfl
     rotate_left
     · simp only [Act.put, List.setIfInBounds_toArray, List.set_cons_zero, List.set_cons_succ, i64_w, i32_w]
       rfl
     refine pure_ (i := 8) (N := some 19) (v := ?_) (a' := ?_) #[T,T,T,T,T,T,T,T,T,F,F,F,F,F,F,F,F,F,F,F,F,F,F,F,F,F,F,F,F,F,F] rfl rfl (any_of HT_.out (by kernel_rfl)) (fun _ _ _ h => h) (Or.inl ⟨by rfl, ?_⟩) ?_ ?_
     rotate_left
     · intro w'
       go_simp
       with_reducible rfl
     rotate_left
     · simp only [Act.put, List.setIfInBounds_toArray, List.set_cons_zero, List.set_cons_succ, i64_w, i32_w]
       rfl
     refine pure_ (i := 10) (N := some 21) (v := ?_) (a' := ?_) #[T,T,T,T,T,T,T,T,T,F,T,F,F,F,F,F,F,F,F,F,F,F,F,F,F,F,F,F,F,F,F] rfl rfl (any_of HT_.out (by kernel_rfl)) (fun _ _ _ h => h) (Or.inl ⟨by rfl, ?_⟩) ?_ ?_
     rotate_left
     · intro w'
       go_simp
       with_reducible rfl
     rotate_left
     · simp only [Act.put, List.setIfInBounds_toArray, List.set_cons_zero, List.set_cons_succ, i64_w, i32_w]
       rfl
     refine pure_ (i := 12) (N := some 23) (v := ?_) (a' := ?_) #[T,T,T,T,T,T,T,T,T,F,T,F,T,F,F,F,F,F,F,F,F,F,F,F,F,F,F,F,F,F,F] rfl rfl (any_of HT_.out (by kernel_rfl)) (fun _ _ _ h => h) (Or.inl ⟨by rfl, ?_⟩) ?_ ?_
     rotate_left
     · intro w'
       go_simp
       with_reducible rfl
     rotate_left
     · simp only [Act.put, List.setIfInBounds_toArray, List.set_cons_zero, List.set_cons_succ, i64_w, i32_w]
       rfl
     refine pure_ (i := 17) (N := some 28) (v := ?_) (a' := ?_) #[T,T,T,T,T,T,T,T,T,F,T,F,T,F,F,F,F,T,F,F,F,F,F,F,F,F,F,F,F,F,F] rfl rfl (any_of HT_.out (by kernel_rfl)) (fun _ _ _ h => h) (Or.inl ⟨by rfl, ?_⟩) ?_ ?_
     rotate_left
     · intro w'
       go_simp
       with_reducible rfl
     rotate_left
     · simp only [Act.put, List.setIfInBounds_toArray, List.set_cons_zero, List.set_cons_succ, i64_w, i32_w]
       rfl
     refine take_ (i := 9) (N := some 20) (v := ?_) (a' := ?_) #[T,T,T,T,T,T,T,T,T,T,T,F,T,F,F,F,F,T,F,F,F,F,F,F,F,F,F,F,F,F,F] rfl rfl (take_ofW HT_.out HW_.out (by kernel_rfl)) (fun _ _ _ h => h) (Or.inl ⟨by rfl, ?_⟩) hHeld ?_ ?_
     rotate_left
     · rintro w' ⟨s0, s1, s2, s3, s4, s5, s6, s7, s8⟩
       go_simp
       with_reducible rfl
     rotate_left
     · simp only [Act.put, List.setIfInBounds_toArray, List.set_cons_zero, List.set_cons_succ, i64_w, i32_w]
       rfl
     refine take_ (i := 11) (N := some 22) (v := ?_) (a' := ?_) #[T,T,T,T,T,T,T,T,T,T,T,T,T,F,F,F,F,T,F,F,F,F,F,F,F,F,F,F,F,F,F] rfl rfl (take_ofW HT_.out HW_.out (by kernel_rfl)) (fun _ _ _ h => h) (Or.inl ⟨by rfl, ?_⟩) hHeld ?_ ?_
     rotate_left
     · rintro w' ⟨s0, s1, s2, s3, s4, s5, s6, s7, s8⟩
       go_simp
       with_reducible rfl
     rotate_left
     · simp only [Act.put, List.setIfInBounds_toArray, List.set_cons_zero, List.set_cons_succ, i64_w, i32_w]
       rfl
     refine pure_ (i := 13) (N := some 24) (v := ?_) (a' := ?_) #[T,T,T,T,T,T,T,T,T,T,T,T,T,T,F,F,F,T,F,F,F,F,F,F,F,F,F,F,F,F,F] rfl rfl (any_of HT_.out (by kernel_rfl)) (fun _ _ _ h => h) (Or.inl ⟨by rfl, ?_⟩) ?_ ?_
     rotate_left
     · intro w'
       go_simp
       with_reducible rfl
     rotate_left
     · simp only [Act.put, List.setIfInBounds_toArray, List.set_cons_zero, List.set_cons_succ, i64_w, i32_w]
       rfl
     refine pure_ (i := 14) (N := some 25) (v := ?_) (a' := ?_) #[T,T,T,T,T,T,T,T,T,T,T,T,T,T,T,F,F,T,F,F,F,F,F,F,F,F,F,F,F,F,F] rfl rfl (any_of HT_.out (by kernel_rfl)) (fun _ _ _ h => h) (Or.inl ⟨by rfl, ?_⟩) ?_ ?_
     rotate_left
     · intro w'
       go_simp
       with_reducible rfl
     rotate_left
     · simp only [Act.put, List.setIfInBounds_toArray, List.set_cons_zero, List.set_cons_succ, i64_w, i32_w]
       rfl
     refine take_ (i := 15) (N := some 26) (v := ?_) (a' := ?_) #[T,T,T,T,T,T,T,T,T,T,T,T,T,T,T,T,F,T,F,F,F,F,F,F,F,F,F,F,F,F,F] rfl rfl (take_ofW HT_.out HW_.out (by kernel_rfl)) (fun _ _ _ h => h) (Or.inl ⟨by rfl, ?_⟩) hHeld ?_ ?_
     rotate_left
     · rintro w' ⟨s0, s1, s2, s3, s4, s5, s6, s7, s8⟩
       go_simp
       with_reducible rfl
     rotate_left
     · simp only [Act.put, List.setIfInBounds_toArray, List.set_cons_zero, List.set_cons_succ, i64_w, i32_w]
       rfl
     refine one_ (i := 16) (N := some 27) #[T,T,T,T,T,T,T,T,T,T,T,T,T,T,T,T,T,T,F,F,F,F,F,F,F,F,F,F,F,F,F] rfl rfl (one_of HT_.out (by kernel_rfl)) (by decide) (fun K hK => ?_)
     refine goes_ Try.func39 (by kernel_rfl) rfl #[.agg #[.slice (some ad133) l0_0.length c0_0], .string ((rd_T54 l0_0 x3_1).f0)] (by rfl) rfl rfl (by (try simp only [List.map_toArray, List.map_cons, List.map_nil]); first | rfl) ?_
     with_reducible refine (manystrandref24_find.calls k1 _ _ l0_0 ((rd_T54 l0_0 x3_1).f0) t136 _ ?side1 ?side2 A7.out).mono ?_
     (case side1 => repeat (first | exact (Kd.C_below HR0_0.out (by repeat ((with_reducible first | exact HB.out | apply pw_below_drewN))))))
     (case side2 => exact HC0_0.out)
     rintro e w21 ⟨rfl, hb⟩
     refine ⟨_, rfl, ?_⟩
     have n0_ := Aside0.mk (blk_below (g := gb132) (o := .cells #[.slice (some ad133) l0_0.length c0_0] 24 (0, 0)) (by (with_reducible repeat (first | refine blk_drewN ?_ _)); exact BK132.out) hb)
     have n1_ := Aside0.mk (below_step (by repeat ((with_reducible first | exact HB.out | apply pw_below_drewN))) hb)
     clear BK132
     clear HB
     have BK132 := n0_
     have HB := n1_
     clear n0_ n1_
     (try clear hb)
     skip
     skip
     skip
     refine hK.out _ _ ⟨(blk_cell BK132.out 0).trans rfl, (ct HB.out hw133_0), (ct HB.out hw133_1), (ct HB.out hw133_2), (ct HB.out hw133_3), (ct HB.out hw135_0), (ct HB.out hw135_1), (ct HB.out hw135_2), (ct HB.out hw135_3)⟩ (fun hHeld => ?_)
     clear hK K
     refine norm_ (a' := ?_) ?_ ?_
     rotate_left
     · show Act.put _ (some 27) _ = _
       simp only [Act.put, List.setIfInBounds_toArray, List.set_cons_zero, List.set_cons_succ, i64_w, i32_w]
       rfl
     refine pure_ (i := 18) (N := some 29) (v := ?_) (a' := ?_) #[T,T,T,T,T,T,T,T,T,T,T,T,T,T,T,T,T,T,T,F,F,F,F,F,F,F,F,F,F,F,F] rfl rfl (any_of HT_.out (by kernel_rfl)) (fun _ _ _ h => h) (Or.inl ⟨by rfl, ?_⟩) ?_ ?_
     rotate_left
     · intro w'
       go_simp
       with_reducible rfl
     rotate_left
     · simp only [Act.put, List.setIfInBounds_toArray, List.set_cons_zero, List.set_cons_succ, i64_w, i32_w]
       rfl
     refine pure_ (i := 19) (N := some 30) (v := ?_) (a' := ?_) #[T,T,T,T,T,T,T,T,T,T,T,T,T,T,T,T,T,T,T,T,F,F,F,F,F,F,F,F,F,F,F] rfl rfl (any_of HT_.out (by kernel_rfl)) (fun _ _ _ h => h) (Or.inl ⟨by rfl, ?_⟩) ?_ ?_
     rotate_left
     · intro w'
       go_simp
       with_reducible rfl
     rotate_left
     · simp only [Act.put, List.setIfInBounds_toArray, List.set_cons_zero, List.set_cons_succ, i64_w, i32_w]
       rfl
     refine pure_ (i := 20) (N := some 31) (v := ?_) (a' := ?_) #[T,T,T,T,T,T,T,T,T,T,T,T,T,T,T,T,T,T,T,T,T,F,F,F,F,F,F,F,F,F,F] rfl rfl (any_of HT_.out (by kernel_rfl)) (fun _ _ _ h => h) (Or.inl ⟨by rfl, ?_⟩) ?_ ?_
     rotate_left
     · intro w'
       go_simp
       with_reducible rfl
     rotate_left
     · simp only [Act.put, List.setIfInBounds_toArray, List.set_cons_zero, List.set_cons_succ, i64_w, i32_w]
       rfl
     refine pure_ (i := 21) (N := some 32) (v := undef) (a' := ?_) #[T,T,T,T,T,T,T,T,T,T,T,T,T,T,T,T,T,T,T,T,T,T,F,F,F,F,F,F,F,F,F] rfl rfl (any_of HT_.out (by kernel_rfl)) (fun _ _ _ h => h) (Or.inr ⟨by rfl, rfl⟩) ?_ ?_
     rotate_left
     · simp only [Act.put, List.setIfInBounds_toArray, List.set_cons_zero, List.set_cons_succ, i64_w, i32_w]
       rfl
     refine pure_ (i := 22) (N := some 33) (v := undef) (a' := ?_) #[T,T,T,T,T,T,T,T,T,T,T,T,T,T,T,T,T,T,T,T,T,T,T,F,F,F,F,F,F,F,F] rfl rfl (any_of HT_.out (by kernel_rfl)) (fun _ _ _ h => h) (Or.inr ⟨by rfl, rfl⟩) ?_ ?_
     rotate_left
     · simp only [Act.put, List.setIfInBounds_toArray, List.set_cons_zero, List.set_cons_succ, i64_w, i32_w]
       rfl
     refine pure_ (i := 23) (N := some 34) (v := undef) (a' := ?_) #[T,T,T,T,T,T,T,T,T,T,T,T,T,T,T,T,T,T,T,T,T,T,T,T,F,F,F,F,F,F,F] rfl rfl (any_of HT_.out (by kernel_rfl)) (fun _ _ _ h => h) (Or.inr ⟨by rfl, rfl⟩) ?_ ?_
     rotate_left
     · simp only [Act.put, List.setIfInBounds_toArray, List.set_cons_zero, List.set_cons_succ, i64_w, i32_w]
       rfl
     refine pure_ (i := 24) (N := some 35) (v := undef) (a' := ?_) #[T,T,T,T,T,T,T,T,T,T,T,T,T,T,T,T,T,T,T,T,T,T,T,T,T,F,F,F,F,F,F] rfl rfl (any_of HT_.out (by kernel_rfl)) (fun _ _ _ h => h) (Or.inr ⟨by rfl, rfl⟩) ?_ ?_
     rotate_left
     · simp only [Act.put, List.setIfInBounds_toArray, List.set_cons_zero, List.set_cons_succ, i64_w, i32_w]
       rfl
     refine pure_ (i := 25) (N := some 36) (v := undef) (a' := ?_) #[T,T,T,T,T,T,T,T,T,T,T,T,T,T,T,T,T,T,T,T,T,T,T,T,T,T,F,F,F,F,F] rfl rfl (any_of HT_.out (by kernel_rfl)) (fun _ _ _ h => h) (Or.inr ⟨by rfl, rfl⟩) ?_ ?_
     rotate_left
     · simp only [Act.put, List.setIfInBounds_toArray, List.set_cons_zero, List.set_cons_succ, i64_w, i32_w]
       rfl
     refine pure_ (i := 26) (N := some 37) (v := undef) (a' := ?_) #[T,T,T,T,T,T,T,T,T,T,T,T,T,T,T,T,T,T,T,T,T,T,T,T,T,T,T,F,F,F,F] rfl rfl (any_of HT_.out (by kernel_rfl)) (fun _ _ _ h => h) (Or.inr ⟨by rfl, rfl⟩) ?_ ?_
     rotate_left
     · simp only [Act.put, List.setIfInBounds_toArray, List.set_cons_zero, List.set_cons_succ, i64_w, i32_w]
       rfl
     refine pure_ (i := 27) (N := some 38) (v := undef) (a' := ?_) #[T,T,T,T,T,T,T,T,T,T,T,T,T,T,T,T,T,T,T,T,T,T,T,T,T,T,T,T,F,F,F] rfl rfl (any_of HT_.out (by kernel_rfl)) (fun _ _ _ h => h) (Or.inr ⟨by rfl, rfl⟩) ?_ ?_
     rotate_left
     · simp only [Act.put, List.setIfInBounds_toArray, List.set_cons_zero, List.set_cons_succ, i64_w, i32_w]
       rfl
     refine pure_ (i := 28) (N := some 39) (v := undef) (a' := ?_) #[T,T,T,T,T,T,T,T,T,T,T,T,T,T,T,T,T,T,T,T,T,T,T,T,T,T,T,T,T,F,F] rfl rfl (any_of HT_.out (by kernel_rfl)) (fun _ _ _ h => h) (Or.inr ⟨by rfl, rfl⟩) ?_ ?_
     rotate_left
     · simp only [Act.put, List.setIfInBounds_toArray, List.set_cons_zero, List.set_cons_succ, i64_w, i32_w]
       rfl
     refine pure_ (i := 29) (N := some 40) (v := undef) (a' := ?_) #[T,T,T,T,T,T,T,T,T,T,T,T,T,T,T,T,T,T,T,T,T,T,T,T,T,T,T,T,T,T,F] rfl rfl (any_of HT_.out (by kernel_rfl)) (fun _ _ _ h => h) (Or.inr ⟨by rfl, rfl⟩) ?_ ?_
     rotate_left
     · simp only [Act.put, List.setIfInBounds_toArray, List.set_cons_zero, List.set_cons_succ, i64_w, i32_w]
       rfl
     refine pure_ (i := 30) (N := some 41) (v := ?_) (a' := ?_) #[T,T,T,T,T,T,T,T,T,T,T,T,T,T,T,T,T,T,T,T,T,T,T,T,T,T,T,T,T,T,T] rfl rfl (any_of HT_.out (by kernel_rfl)) (fun _ _ _ h => h) (Or.inl ⟨by rfl, ?_⟩) ?_ ?_
     rotate_left
     · intro w'
       go_simp
       with_reducible rfl
     rotate_left
     · simp only [Act.put, List.setIfInBounds_toArray, List.set_cons_zero, List.set_cons_succ, i64_w, i32_w]
       rfl
     refine done_ (done_of HT_.out (by kernel_rfl)) ?_
     try go_wp2
     go_ret
     exact ⟨by first | rfl, by exact HB.out⟩
   rw [if_pos c8] at H
   have c8b0 := beq_iff_eq.mpr c8
   have c8b1 := bne_eq_false_iff_eq.mpr c8
   clear c8
   replace H := Option.bind_eq_some_iff.mp H
   obtain ⟨t138, A90, H⟩ := H
   have A9 := Aside0.mk A90
   clear A90
   by_cases c10 : t138 = true
   rotate_left
   · replace c10 := Bool.eq_false_iff.mpr c10
     subst c10
     rw [if_neg (show ¬ (false = true) by decide)] at H
     obtain rfl := Option.some.inj H
     have hcz15_0 : wr.cell? ⟨gb132, 0, none⟩ = some (.slice A0_0 l0_0.length c0_0) := (blk_cell BK132.out 0).trans rfl
     have hfz15_0 := blk_frozen BK132.out 0
     try go_wp2
     have n0_ := Aside0.mk (blk_drew BK132.out)
     have n1_ := Aside0.mk (below_drew1 HB.out)
     clear BK132
     clear HB
     have BK132 := n0_
     have HB := n1_
     clear n0_ n1_
     have p133 : 0 ≤ (x3_1 : Int) := of_decide_eq_true (by assumption)
     have q133 : x3_1 < (l0_0.length : Int) := of_decide_eq_true (by assumption)
     obtain ⟨ad133, A133_3, c133_3, e133, hx133_0, hx133_1, hx133_2, hx133_3, hl133_3, hi133_3⟩ := at_T54 HR0_0.out x3_1 p133 q133
     have hw133_3 := hx133_3
     have hw133_2 := hx133_2
     have hw133_1 := hx133_1
     have hw133_0 := hx133_0
     cases e133
     replace hx133_0 := ct HB.out hx133_0
     replace hx133_1 := ct HB.out hx133_1
     replace hx133_2 := ct HB.out hx133_2
     replace hx133_3 := ct HB.out hx133_3
     have HR133_3 := Aside0.mk hi133_3
     have HC133_3 := Aside0.mk hl133_3
     clear hi133_3 hl133_3
     replace p133 := eq_true p133
     replace q133 := eq_true q133
     have p135 : 0 ≤ (x3_1 : Int) := of_decide_eq_true (by assumption)
     have q135 : x3_1 < (l0_0.length : Int) := of_decide_eq_true (by assumption)
     obtain ⟨ad135, A135_3, c135_3, e135, hx135_0, hx135_1, hx135_2, hx135_3, hl135_3, hi135_3⟩ := at_T54 HR0_0.out x3_1 p135 q135
     have hw135_3 := hx135_3
     have hw135_2 := hx135_2
     have hw135_1 := hx135_1
     have hw135_0 := hx135_0
     obtain rfl : ad133 = ad135 := (by injection e135)
     replace hx135_0 := ct HB.out hx135_0
     replace hx135_1 := ct HB.out hx135_1
     replace hx135_2 := ct HB.out hx135_2
     replace hx135_3 := ct HB.out hx135_3
     have HR135_3 := Aside0.mk hi135_3
     have HC135_3 := Aside0.mk hl135_3
     clear hi135_3 hl135_3
     replace p135 := eq_true p135
     replace q135 := eq_true q135
     have ea_ := Option.some.inj (hx133_3.symm.trans hx135_3)
     injection ea_ with ea_ en_ ec_
     subst ea_
     subst ec_
     clear en_
     have p137 : 0 ≤ (x3_1 : Int) := of_decide_eq_true (by assumption)
     have q137 : x3_1 < (l0_0.length : Int) := of_decide_eq_true (by assumption)
     obtain ⟨ad137, A137_3, c137_3, e137, hx137_0, hx137_1, hx137_2, hx137_3, hl137_3, hi137_3⟩ := at_T54 HR0_0.out x3_1 p137 q137
     have hw137_3 := hx137_3
     have hw137_2 := hx137_2
     have hw137_1 := hx137_1
     have hw137_0 := hx137_0
     obtain rfl : ad133 = ad137 := (by injection e137)
     replace hx137_0 := ct HB.out hx137_0
     replace hx137_1 := ct HB.out hx137_1
     replace hx137_2 := ct HB.out hx137_2
     replace hx137_3 := ct HB.out hx137_3
     have HR137_3 := Aside0.mk hi137_3
     have HC137_3 := Aside0.mk hl137_3
     clear hi137_3 hl137_3
     replace p137 := eq_true p137
     replace q137 := eq_true q137
     refine start_ (n := 31) (S := fun w' => w'.cell? ⟨gb132, 0, none⟩ = some (.slice (some ad133) l0_0.length c0_0) ∧ w'.cell? (ad133.add ((x3_1).toNat * 4)) = some (.string ((rd_T54 l0_0 x3_1).f0)) ∧ w'.cell? ⟨(ad133.add ((x3_1).toNat * 4)).block, (ad133.add ((x3_1).toNat * 4)).off + 1, none⟩ = some (.string ((rd_T54 l0_0 x3_1).f1.f0)) ∧ w'.cell? ⟨(ad133.add ((x3_1).toNat * 4)).block, (ad133.add ((x3_1).toNat * 4)).off + 2, none⟩ = some (.string ((rd_T54 l0_0 x3_1).f1.f1)) ∧ w'.cell? ⟨(ad133.add ((x3_1).toNat * 4)).block, (ad133.add ((x3_1).toNat * 4)).off + 3, none⟩ = some (.slice A133_3 ((rd_T54 l0_0 x3_1).f1.f2).length c133_3) ∧ w'.cell? (ad133.add ((x3_1).toNat * 4)) = some (.string ((rd_T54 l0_0 x3_1).f0)) ∧ w'.cell? ⟨(ad133.add ((x3_1).toNat * 4)).block, (ad133.add ((x3_1).toNat * 4)).off + 1, none⟩ = some (.string ((rd_T54 l0_0 x3_1).f1.f0)) ∧ w'.cell? ⟨(ad133.add ((x3_1).toNat * 4)).block, (ad133.add ((x3_1).toNat * 4)).off + 2, none⟩ = some (.string ((rd_T54 l0_0 x3_1).f1.f1)) ∧ w'.cell? ⟨(ad133.add ((x3_1).toNat * 4)).block, (ad133.add ((x3_1).toNat * 4)).off + 3, none⟩ = some (.slice A133_3 ((rd_T54 l0_0 x3_1).f1.f2).length c133_3) ∧ w'.cell? (ad133.add ((x3_1).toNat * 4)) = some (.string ((rd_T54 l0_0 x3_1).f0)) ∧ w'.cell? ⟨(ad133.add ((x3_1).toNat * 4)).block, (ad133.add ((x3_1).toNat * 4)).off + 1, none⟩ = some (.string ((rd_T54 l0_0 x3_1).f1.f0)) ∧ w'.cell? ⟨(ad133.add ((x3_1).toNat * 4)).block, (ad133.add ((x3_1).toNat * 4)).off + 2, none⟩ = some (.string ((rd_T54 l0_0 x3_1).f1.f1)) ∧ w'.cell? ⟨(ad133.add ((x3_1).toNat * 4)).block, (ad133.add ((x3_1).toNat * 4)).off + 3, none⟩ = some (.slice A137_3 ((rd_T54 l0_0 x3_1).f1.f2).length c137_3)) (ds := []) #[F,F,F,F,F,F,F,F,F,F,F,F,F,F,F,F,F,F,F,F,F,F,F,F,F,F,F,F,F,F,F] (by kernel_rfl) rfl rfl ⟨(blk_cell BK132.out 0).trans rfl, (ct HB.out hw133_0), (ct HB.out hw133_1), (ct HB.out hw133_2), (ct HB.out hw133_3), (ct HB.out hw135_0), (ct HB.out hw135_1), (ct HB.out hw135_2), (ct HB.out hw135_3), (ct HB.out hw137_0), (ct HB.out hw137_1), (ct HB.out hw137_2), (ct HB.out hw137_3)⟩ (fun hHeld => ?_); refine with_tabW manystrandref24_Right.tab4 manystrandref24_Right.bits4 (fun HT_ HW_ => ?_)
     generalize wr.drew = w16 at BK132 HB HR133_3 HR135_3 HR137_3 hx133_0 hx133_1 hx133_2 hx133_3 hx135_0 hx135_1 hx135_2 hx135_3 hx137_0 hx137_1 hx137_2 hx137_3 hHeld ⊢
     refine pure_ (i := 0) (N := some 11) (v := ?_) (a' := ?_) #[T,F,F,F,F,F,F,F,F,F,F,F,F,F,F,F,F,F,F,F,F,F,F,F,F,F,F,F,F,F,F] rfl rfl (any_of HT_.out (by kernel_rfl)) (fun _ _ _ h => h) (Or.inl ⟨by rfl, ?_⟩) ?_ ?_
     rotate_left
     · intro w'
       go_simp
       with_reducible rfl
     rotate_left
     · simp only [Act.put, List.setIfInBounds_toArray, List.set_cons_zero, List.set_cons_succ, i64_w, i32_w]
       rfl
     refine pure_ (i := 2) (N := some 13) (v := ?_) (a' := ?_) #[T,F,T,F,F,F,F,F,F,F,F,F,F,F,F,F,F,F,F,F,F,F,F,F,F,F,F,F,F,F,F] rfl rfl (any_of HT_.out (by kernel_rfl)) (fun _ _ _ h => h) (Or.inl ⟨by rfl, ?_⟩) ?_ ?_
     rotate_left
     · intro w'
       go_simp
       with_reducible rfl
     rotate_left
     · simp only [Act.put, List.setIfInBounds_toArray, List.set_cons_zero, List.set_cons_succ, i64_w, i32_w]
       rfl
     refine take_ (i := 1) (N := some 12) (v := ?_) (a' := ?_) #[T,T,T,F,F,F,F,F,F,F,F,F,F,F,F,F,F,F,F,F,F,F,F,F,F,F,F,F,F,F,F] rfl rfl (take_ofW HT_.out HW_.out (by kernel_rfl)) (fun _ _ _ h => h) (Or.inl ⟨by rfl, ?_⟩) hHeld ?_ ?_
     rotate_left
     · rintro w' ⟨s0, s1, s2, s3, s4, s5, s6, s7, s8, s9, s10, s11, s12⟩
       go_simp
       with_reducible rfl
     rotate_left
     · simp only [Act.put, List.setIfInBounds_toArray, List.set_cons_zero, List.set_cons_succ, i64_w, i32_w]
       rfl
     refine pure_ (i := 3) (N := some 14) (v := ?_) (a' := ?_) #[T,T,T,T,F,F,F,F,F,F,F,F,F,F,F,F,F,F,F,F,F,F,F,F,F,F,F,F,F,F,F] rfl rfl (any_of HT_.out (by kernel_rfl)) (fun _ _ _ h => h) (Or.inl ⟨by rfl, ?_⟩) ?_ ?_
     rotate_left
     · intro w'
       go_simp
       with_reducible rfl
     rotate_left
     · simp only [Act.put, List.setIfInBounds_toArray, List.set_cons_zero, List.set_cons_succ, i64_w, i32_w]
       rfl
     refine pure_ (i := 4) (N := some 15) (v := ?_) (a' := ?_) #[T,T,T,T,T,F,F,F,F,F,F,F,F,F,F,F,F,F,F,F,F,F,F,F,F,F,F,F,F,F,F] rfl rfl (any_of HT_.out (by kernel_rfl)) (fun _ _ _ h => h) (Or.inl ⟨by rfl, ?_⟩) ?_ ?_
     rotate_left
     · intro w'
       go_simp
       with_reducible rfl
     rotate_left
     · simp only [Act.put, List.setIfInBounds_toArray, List.set_cons_zero, List.set_cons_succ, i64_w, i32_w]
       rfl
     refine take_ (i := 5) (N := some 16) (v := ?_) (a' := ?_) #[T,T,T,T,T,T,F,F,F,F,F,F,F,F,F,F,F,F,F,F,F,F,F,F,F,F,F,F,F,F,F] rfl rfl (take_ofW HT_.out HW_.out (by kernel_rfl)) (fun _ _ _ h => h) (Or.inl ⟨by rfl, ?_⟩) hHeld ?_ ?_
     rotate_left
     · rintro w' ⟨s0, s1, s2, s3, s4, s5, s6, s7, s8, s9, s10, s11, s12⟩
       go_simp
       with_reducible rfl
     rotate_left
     · simp only [Act.put, List.setIfInBounds_toArray, List.set_cons_zero, List.set_cons_succ, i64_w, i32_w]
       rfl
     refine one_ (i := 6) (N := some 17) #[T,T,T,T,T,T,T,F,F,F,F,F,F,F,F,F,F,F,F,F,F,F,F,F,F,F,F,F,F,F,F] rfl rfl (one_of HT_.out (by kernel_rfl)) (by decide) (fun K hK => ?_)
     refine goes_ Try.func68 (by kernel_rfl) rfl #[.string ((rd_T54 l0_0 x3_1).f0)] (by rfl) rfl rfl (by (try simp only [List.map_toArray, List.map_cons, List.map_nil]); first | rfl) ?_
     with_reducible refine (manystrandref01_IsPlain.calls k1 ((rd_T54 l0_0 x3_1).f0) true _ A5.out).mono ?_
     rintro e w' ⟨rfl, ⟨nd, rfl⟩⟩
     refine ⟨_, rfl, ?_⟩
     refine hK.out _ _ ⟨(blk_cell BK132.out 0).trans rfl, (ct HB.out hw133_0), (ct HB.out hw133_1), (ct HB.out hw133_2), (ct HB.out hw133_3), (ct HB.out hw135_0), (ct HB.out hw135_1), (ct HB.out hw135_2), (ct HB.out hw135_3), (ct HB.out hw137_0), (ct HB.out hw137_1), (ct HB.out hw137_2), (ct HB.out hw137_3)⟩ (fun hHeld => ?_)
     clear hK K
     refine norm_ (a' := ?_) ?_ ?_
     rotate_left
     · show Act.put _ (some 17) _ = _
       simp only [Act.put, List.setIfInBounds_toArray, List.set_cons_zero, List.set_cons_succ, i64_w, i32_w]
       rfl
     refine pure_ (i := 7) (N := some 18) (v := ?_) (a' := ?_) #[T,T,T,T,T,T,T,T,F,F,F,F,F,F,F,F,F,F,F,F,F,F,F,F,F,F,F,F,F,F,F] rfl rfl (any_of HT_.out (by kernel_rfl)) (fun _ _ _ h => h) (Or.inl ⟨by rfl, ?_⟩) ?_ ?_
     rotate_left
     · intro w'
       go_simp
       with_reducible rfl
     rotate_left
     · simp only [Act.put, List.setIfInBounds_toArray, List.set_cons_zero, List.set_cons_succ, i64_w, i32_w]
       rfl
     refine pure_ (i := 8) (N := some 19) (v := ?_) (a' := ?_) #[T,T,T,T,T,T,T,T,T,F,F,F,F,F,F,F,F,F,F,F,F,F,F,F,F,F,F,F,F,F,F] rfl rfl (any_of HT_.out (by kernel_rfl)) (fun _ _ _ h => h) (Or.inl ⟨by rfl, ?_⟩) ?_ ?_
     rotate_left
     · intro w'
       go_simp
       with_reducible rfl
     rotate_left
     · simp only [Act.put, List.setIfInBounds_toArray, List.set_cons_zero, List.set_cons_succ, i64_w, i32_w]
       rfl
     refine pure_ (i := 10) (N := some 21) (v := ?_) (a' := ?_) #[T,T,T,T,T,T,T,T,T,F,T,F,F,F,F,F,F,F,F,F,F,F,F,F,F,F,F,F,F,F,F] rfl rfl (any_of HT_.out (by kernel_rfl)) (fun _ _ _ h => h) (Or.inl ⟨by rfl, ?_⟩) ?_ ?_
     rotate_left
     · intro w'
       go_simp
       with_reducible rfl
     rotate_left
     · simp only [Act.put, List.setIfInBounds_toArray, List.set_cons_zero, List.set_cons_succ, i64_w, i32_w]
       rfl
     refine pure_ (i := 12) (N := some 23) (v := ?_) (a' := ?_) #[T,T,T,T,T,T,T,T,T,F,T,F,T,F,F,F,F,F,F,F,F,F,F,F,F,F,F,F,F,F,F] rfl rfl (any_of HT_.out (by kernel_rfl)) (fun _ _ _ h => h) (Or.inl ⟨by rfl, ?_⟩) ?_ ?_
     rotate_left
     · intro w'
       go_simp
       with_reducible rfl
     rotate_left
     · simp only [Act.put, List.setIfInBounds_toArray, List.set_cons_zero, List.set_cons_succ, i64_w, i32_w]
       rfl
     refine pure_ (i := 17) (N := some 28) (v := ?_) (a' := ?_) #[T,T,T,T,T,T,T,T,T,F,T,F,T,F,F,F,F,T,F,F,F,F,F,F,F,F,F,F,F,F,F] rfl rfl (any_of HT_.out (by kernel_rfl)) (fun _ _ _ h => h) (Or.inl ⟨by rfl, ?_⟩) ?_ ?_
     rotate_left
     · intro w'
       go_simp
       with_reducible rfl
     rotate_left
     · simp only [Act.put, List.setIfInBounds_toArray, List.set_cons_zero, List.set_cons_succ, i64_w, i32_w]
       rfl
     refine take_ (i := 9) (N := some 20) (v := ?_) (a' := ?_) #[T,T,T,T,T,T,T,T,T,T,T,F,T,F,F,F,F,T,F,F,F,F,F,F,F,F,F,F,F,F,F] rfl rfl (take_ofW HT_.out HW_.out (by kernel_rfl)) (fun _ _ _ h => h) (Or.inl ⟨by rfl, ?_⟩) hHeld ?_ ?_
     rotate_left
     · rintro w' ⟨s0, s1, s2, s3, s4, s5, s6, s7, s8, s9, s10, s11, s12⟩
       go_simp
       with_reducible rfl
     rotate_left
     · simp only [Act.put, List.setIfInBounds_toArray, List.set_cons_zero, List.set_cons_succ, i64_w, i32_w]
       rfl
     refine take_ (i := 11) (N := some 22) (v := ?_) (a' := ?_) #[T,T,T,T,T,T,T,T,T,T,T,T,T,F,F,F,F,T,F,F,F,F,F,F,F,F,F,F,F,F,F] rfl rfl (take_ofW HT_.out HW_.out (by kernel_rfl)) (fun _ _ _ h => h) (Or.inl ⟨by rfl, ?_⟩) hHeld ?_ ?_
     rotate_left
     · rintro w' ⟨s0, s1, s2, s3, s4, s5, s6, s7, s8, s9, s10, s11, s12⟩
       go_simp
       with_reducible rfl
     rotate_left
     · simp only [Act.put, List.setIfInBounds_toArray, List.set_cons_zero, List.set_cons_succ, i64_w, i32_w]
       rfl
     refine pure_ (i := 13) (N := some 24) (v := ?_) (a' := ?_) #[T,T,T,T,T,T,T,T,T,T,T,T,T,T,F,F,F,T,F,F,F,F,F,F,F,F,F,F,F,F,F] rfl rfl (any_of HT_.out (by kernel_rfl)) (fun _ _ _ h => h) (Or.inl ⟨by rfl, ?_⟩) ?_ ?_
     rotate_left
     · intro w'
       go_simp
       with_reducible rfl
     rotate_left
     · simp only [Act.put, List.setIfInBounds_toArray, List.set_cons_zero, List.set_cons_succ, i64_w, i32_w]
       rfl
     refine pure_ (i := 14) (N := some 25) (v := ?_) (a' := ?_) #[T,T,T,T,T,T,T,T,T,T,T,T,T,T,T,F,F,T,F,F,F,F,F,F,F,F,F,F,F,F,F] rfl rfl (any_of HT_.out (by kernel_rfl)) (fun _ _ _ h => h) (Or.inl ⟨by rfl, ?_⟩) ?_ ?_
     rotate_left
     · intro w'
       go_simp
       with_reducible rfl
     rotate_left
     · simp only [Act.put, List.setIfInBounds_toArray, List.set_cons_zero, List.set_cons_succ, i64_w, i32_w]
       rfl
     refine take_ (i := 15) (N := some 26) (v := ?_) (a' := ?_) #[T,T,T,T,T,T,T,T,T,T,T,T,T,T,T,T,F,T,F,F,F,F,F,F,F,F,F,F,F,F,F] rfl rfl (take_ofW HT_.out HW_.out (by kernel_rfl)) (fun _ _ _ h => h) (Or.inl ⟨by rfl, ?_⟩) hHeld ?_ ?_
     rotate_left
     · rintro w' ⟨s0, s1, s2, s3, s4, s5, s6, s7, s8, s9, s10, s11, s12⟩
       go_simp
       with_reducible rfl
     rotate_left
     · simp only [Act.put, List.setIfInBounds_toArray, List.set_cons_zero, List.set_cons_succ, i64_w, i32_w]
       rfl
     refine one_ (i := 16) (N := some 27) #[T,T,T,T,T,T,T,T,T,T,T,T,T,T,T,T,T,T,F,F,F,F,F,F,F,F,F,F,F,F,F] rfl rfl (one_of HT_.out (by kernel_rfl)) (by decide) (fun K hK => ?_)
     refine goes_ Try.func39 (by kernel_rfl) rfl #[.agg #[.slice (some ad133) l0_0.length c0_0], .string ((rd_T54 l0_0 x3_1).f0)] (by rfl) rfl rfl (by (try simp only [List.map_toArray, List.map_cons, List.map_nil]); first | rfl) ?_
     with_reducible refine (manystrandref24_find.calls k1 _ _ l0_0 ((rd_T54 l0_0 x3_1).f0) t136 _ ?side1 ?side2 A7.out).mono ?_
     (case side1 => repeat (first | exact (Kd.C_below HR0_0.out (by repeat ((with_reducible first | exact HB.out | apply pw_below_drewN))))))
     (case side2 => exact HC0_0.out)
     rintro e w17 ⟨rfl, hb⟩
     refine ⟨_, rfl, ?_⟩
     have n0_ := Aside0.mk (blk_below (g := gb132) (o := .cells #[.slice (some ad133) l0_0.length c0_0] 24 (0, 0)) (by (with_reducible repeat (first | refine blk_drewN ?_ _)); exact BK132.out) hb)
     have n1_ := Aside0.mk (below_step (by repeat ((with_reducible first | exact HB.out | apply pw_below_drewN))) hb)
     clear BK132
     clear HB
     have BK132 := n0_
     have HB := n1_
     clear n0_ n1_
     (try clear hb)
     skip
     skip
     skip
     refine hK.out _ _ ⟨(blk_cell BK132.out 0).trans rfl, (ct HB.out hw133_0), (ct HB.out hw133_1), (ct HB.out hw133_2), (ct HB.out hw133_3), (ct HB.out hw135_0), (ct HB.out hw135_1), (ct HB.out hw135_2), (ct HB.out hw135_3), (ct HB.out hw137_0), (ct HB.out hw137_1), (ct HB.out hw137_2), (ct HB.out hw137_3)⟩ (fun hHeld => ?_)
     clear hK K
     refine norm_ (a' := ?_) ?_ ?_
     rotate_left
     · show Act.put _ (some 27) _ = _
       simp only [Act.put, List.setIfInBounds_toArray, List.set_cons_zero, List.set_cons_succ, i64_w, i32_w]
       rfl
     refine pure_ (i := 18) (N := some 29) (v := ?_) (a' := ?_) #[T,T,T,T,T,T,T,T,T,T,T,T,T,T,T,T,T,T,T,F,F,F,F,F,F,F,F,F,F,F,F] rfl rfl (any_of HT_.out (by kernel_rfl)) (fun _ _ _ h => h) (Or.inl ⟨by rfl, ?_⟩) ?_ ?_
     rotate_left
     · intro w'
       go_simp
       with_reducible rfl
     rotate_left
     · simp only [Act.put, List.setIfInBounds_toArray, List.set_cons_zero, List.set_cons_succ, i64_w, i32_w]
       rfl
     refine pure_ (i := 19) (N := some 30) (v := ?_) (a' := ?_) #[T,T,T,T,T,T,T,T,T,T,T,T,T,T,T,T,T,T,T,T,F,F,F,F,F,F,F,F,F,F,F] rfl rfl (any_of HT_.out (by kernel_rfl)) (fun _ _ _ h => h) (Or.inl ⟨by rfl, ?_⟩) ?_ ?_
     rotate_left
     · intro w'
       go_simp
       with_reducible rfl
     rotate_left
     · simp only [Act.put, List.setIfInBounds_toArray, List.set_cons_zero, List.set_cons_succ, i64_w, i32_w]
       rfl
     refine pure_ (i := 20) (N := some 31) (v := ?_) (a' := ?_) #[T,T,T,T,T,T,T,T,T,T,T,T,T,T,T,T,T,T,T,T,T,F,F,F,F,F,F,F,F,F,F] rfl rfl (any_of HT_.out (by kernel_rfl)) (fun _ _ _ h => h) (Or.inl ⟨by rfl, ?_⟩) ?_ ?_
     rotate_left
     · intro w'
       go_simp
       with_reducible rfl
     rotate_left
     · simp only [Act.put, List.setIfInBounds_toArray, List.set_cons_zero, List.set_cons_succ, i64_w, i32_w]
       rfl
     refine pure_ (i := 22) (N := some 33) (v := ?_) (a' := ?_) #[T,T,T,T,T,T,T,T,T,T,T,T,T,T,T,T,T,T,T,T,T,F,T,F,F,F,F,F,F,F,F] rfl rfl (any_of HT_.out (by kernel_rfl)) (fun _ _ _ h => h) (Or.inl ⟨by rfl, ?_⟩) ?_ ?_
     rotate_left
     · intro w'
       go_simp
       with_reducible rfl
     rotate_left
     · simp only [Act.put, List.setIfInBounds_toArray, List.set_cons_zero, List.set_cons_succ, i64_w, i32_w]
       rfl
     refine pure_ (i := 24) (N := some 35) (v := ?_) (a' := ?_) #[T,T,T,T,T,T,T,T,T,T,T,T,T,T,T,T,T,T,T,T,T,F,T,F,T,F,F,F,F,F,F] rfl rfl (any_of HT_.out (by kernel_rfl)) (fun _ _ _ h => h) (Or.inl ⟨by rfl, ?_⟩) ?_ ?_
     rotate_left
     · intro w'
       go_simp
       with_reducible rfl
     rotate_left
     · simp only [Act.put, List.setIfInBounds_toArray, List.set_cons_zero, List.set_cons_succ, i64_w, i32_w]
       rfl
     refine take_ (i := 21) (N := some 32) (v := ?_) (a' := ?_) #[T,T,T,T,T,T,T,T,T,T,T,T,T,T,T,T,T,T,T,T,T,T,T,F,T,F,F,F,F,F,F] rfl rfl (take_ofW HT_.out HW_.out (by kernel_rfl)) (fun _ _ _ h => h) (Or.inl ⟨by rfl, ?_⟩) hHeld ?_ ?_
     rotate_left
     · rintro w' ⟨s0, s1, s2, s3, s4, s5, s6, s7, s8, s9, s10, s11, s12⟩
       go_simp
       with_reducible rfl
     rotate_left
     · simp only [Act.put, List.setIfInBounds_toArray, List.set_cons_zero, List.set_cons_succ, i64_w, i32_w]
       rfl
     refine take_ (i := 23) (N := some 34) (v := ?_) (a' := ?_) #[T,T,T,T,T,T,T,T,T,T,T,T,T,T,T,T,T,T,T,T,T,T,T,T,T,F,F,F,F,F,F] rfl rfl (take_ofW HT_.out HW_.out (by kernel_rfl)) (fun _ _ _ h => h) (Or.inl ⟨by rfl, ?_⟩) hHeld ?_ ?_
     rotate_left
     · rintro w' ⟨s0, s1, s2, s3, s4, s5, s6, s7, s8, s9, s10, s11, s12⟩
       go_simp
       with_reducible rfl
     rotate_left
     · simp only [Act.put, List.setIfInBounds_toArray, List.set_cons_zero, List.set_cons_succ, i64_w, i32_w]
       rfl
     refine pure_ (i := 25) (N := some 36) (v := ?_) (a' := ?_) #[T,T,T,T,T,T,T,T,T,T,T,T,T,T,T,T,T,T,T,T,T,T,T,T,T,T,F,F,F,F,F] rfl rfl (any_of HT_.out (by kernel_rfl)) (fun _ _ _ h => h) (Or.inl ⟨by rfl, ?_⟩) ?_ ?_
     rotate_left
     · intro w'
       go_simp
       with_reducible rfl
     rotate_left
     · simp only [Act.put, List.setIfInBounds_toArray, List.set_cons_zero, List.set_cons_succ, i64_w, i32_w]
       rfl
     refine pure_ (i := 26) (N := some 37) (v := ?_) (a' := ?_) #[T,T,T,T,T,T,T,T,T,T,T,T,T,T,T,T,T,T,T,T,T,T,T,T,T,T,T,F,F,F,F] rfl rfl (any_of HT_.out (by kernel_rfl)) (fun _ _ _ h => h) (Or.inl ⟨by rfl, ?_⟩) ?_ ?_
     rotate_left
     · intro w'
       go_simp
       with_reducible rfl
     rotate_left
     · simp only [Act.put, List.setIfInBounds_toArray, List.set_cons_zero, List.set_cons_succ, i64_w, i32_w]
       rfl
     refine take_ (i := 27) (N := some 38) (v := ?_) (a' := ?_) #[T,T,T,T,T,T,T,T,T,T,T,T,T,T,T,T,T,T,T,T,T,T,T,T,T,T,T,T,F,F,F] rfl rfl (take_ofW HT_.out HW_.out (by kernel_rfl)) (fun _ _ _ h => h) (Or.inl ⟨by rfl, ?_⟩) hHeld ?_ ?_
     rotate_left
     · rintro w' ⟨s0, s1, s2, s3, s4, s5, s6, s7, s8, s9, s10, s11, s12⟩
       go_simp
       with_reducible rfl
     rotate_left
     · simp only [Act.put, List.setIfInBounds_toArray, List.set_cons_zero, List.set_cons_succ, i64_w, i32_w]
       rfl
     refine one_ (i := 28) (N := some 39) #[T,T,T,T,T,T,T,T,T,T,T,T,T,T,T,T,T,T,T,T,T,T,T,T,T,T,T,T,T,F,F] rfl rfl (one_of HT_.out (by kernel_rfl)) (by decide) (fun K hK => ?_)
     refine goes_ Try.func69 (by kernel_rfl) rfl #[.agg #[.slice (some ad133) l0_0.length c0_0], .agg #[.string ((rd_T54 l0_0 x3_1).f1.f0), .string ((rd_T54 l0_0 x3_1).f1.f1), .slice A133_3 ((rd_T54 l0_0 x3_1).f1.f2).length c133_3]] (by rfl) rfl rfl (by (try simp only [List.map_toArray, List.map_cons, List.map_nil]); first | rfl) ?_
     with_reducible refine (manystrandref24_right.calls k1 _ _ l0_0 ((rd_T54 l0_0 x3_1).f1.f0) ((rd_T54 l0_0 x3_1).f1.f1) _ _ ((rd_T54 l0_0 x3_1).f1.f2) false _ ?side1 ?side2 ?side3 ?side4 A9.out).mono ?_
     (case side1 => repeat (first | exact (Kd.C_below HR0_0.out HB.out)))
     (case side2 => exact HC0_0.out)
     (case side3 => repeat (first | exact (Kd.C_below HR133_3.out HB.out)))
     (case side4 => exact HC133_3.out)
     rintro e w18 ⟨rfl, hb⟩
     refine ⟨_, rfl, ?_⟩
     have n0_ := Aside0.mk (blk_below (g := gb132) (o := .cells #[.slice (some ad133) l0_0.length c0_0] 24 (0, 0)) BK132.out hb)
     have n1_ := Aside0.mk (below_step HB.out hb)
     clear BK132
     clear HB
     have BK132 := n0_
     have HB := n1_
     clear n0_ n1_
     (try clear hb)
     skip
     skip
     skip
     refine hK.out _ _ ⟨(blk_cell BK132.out 0).trans rfl, (ct HB.out hw133_0), (ct HB.out hw133_1), (ct HB.out hw133_2), (ct HB.out hw133_3), (ct HB.out hw135_0), (ct HB.out hw135_1), (ct HB.out hw135_2), (ct HB.out hw135_3), (ct HB.out hw137_0), (ct HB.out hw137_1), (ct HB.out hw137_2), (ct HB.out hw137_3)⟩ (fun hHeld => ?_)
     clear hK K
     refine norm_ (a' := ?_) ?_ ?_
     rotate_left
     · show Act.put _ (some 39) _ = _
       simp only [Act.put, List.setIfInBounds_toArray, List.set_cons_zero, List.set_cons_succ, i64_w, i32_w]
       rfl
     refine pure_ (i := 29) (N := some 40) (v := ?_) (a' := ?_) #[T,T,T,T,T,T,T,T,T,T,T,T,T,T,T,T,T,T,T,T,T,T,T,T,T,T,T,T,T,T,F] rfl rfl (any_of HT_.out (by kernel_rfl)) (fun _ _ _ h => h) (Or.inl ⟨by rfl, ?_⟩) ?_ ?_
     rotate_left
     · intro w'
       go_simp
       with_reducible rfl
     rotate_left
     · simp only [Act.put, List.setIfInBounds_toArray, List.set_cons_zero, List.set_cons_succ, i64_w, i32_w]
       rfl
     refine pure_ (i := 30) (N := some 41) (v := ?_) (a' := ?_) #[T,T,T,T,T,T,T,T,T,T,T,T,T,T,T,T,T,T,T,T,T,T,T,T,T,T,T,T,T,T,T] rfl rfl (any_of HT_.out (by kernel_rfl)) (fun _ _ _ h => h) (Or.inl ⟨by rfl, ?_⟩) ?_ ?_
     rotate_left
     · intro w'
       go_simp
       with_reducible rfl
     rotate_left
     · simp only [Act.put, List.setIfInBounds_toArray, List.set_cons_zero, List.set_cons_succ, i64_w, i32_w]
       rfl
     refine done_ (done_of HT_.out (by kernel_rfl)) ?_
     try go_wp2
     go_ret
     exact ⟨by first | rfl, by exact HB.out⟩
   subst c10
   rw [if_pos rfl] at H
   have H' := Aside0.mk H
   clear H
   have hcz11_0 : wr.cell? ⟨gb132, 0, none⟩ = some (.slice A0_0 l0_0.length c0_0) := (blk_cell BK132.out 0).trans rfl
   have hfz11_0 := blk_frozen BK132.out 0
   try go_wp2
   have n0_ := Aside0.mk (blk_drew BK132.out)
   have n1_ := Aside0.mk (below_drew1 HB.out)
   clear BK132
   clear HB
   have BK132 := n0_
   have HB := n1_
   clear n0_ n1_
   have p133 : 0 ≤ (x3_1 : Int) := of_decide_eq_true (by assumption)
   have q133 : x3_1 < (l0_0.length : Int) := of_decide_eq_true (by assumption)
   obtain ⟨ad133, A133_3, c133_3, e133, hx133_0, hx133_1, hx133_2, hx133_3, hl133_3, hi133_3⟩ := at_T54 HR0_0.out x3_1 p133 q133
   have hw133_3 := hx133_3
   have hw133_2 := hx133_2
   have hw133_1 := hx133_1
   have hw133_0 := hx133_0
   cases e133
   replace hx133_0 := ct HB.out hx133_0
   replace hx133_1 := ct HB.out hx133_1
   replace hx133_2 := ct HB.out hx133_2
   replace hx133_3 := ct HB.out hx133_3
   have HR133_3 := Aside0.mk hi133_3
   have HC133_3 := Aside0.mk hl133_3
   clear hi133_3 hl133_3
   replace p133 := eq_true p133
   replace q133 := eq_true q133
   have p135 : 0 ≤ (x3_1 : Int) := of_decide_eq_true (by assumption)
   have q135 : x3_1 < (l0_0.length : Int) := of_decide_eq_true (by assumption)
   obtain ⟨ad135, A135_3, c135_3, e135, hx135_0, hx135_1, hx135_2, hx135_3, hl135_3, hi135_3⟩ := at_T54 HR0_0.out x3_1 p135 q135
   have hw135_3 := hx135_3
   have hw135_2 := hx135_2
   have hw135_1 := hx135_1
   have hw135_0 := hx135_0
   obtain rfl : ad133 = ad135 := (by injection e135)
   replace hx135_0 := ct HB.out hx135_0
   replace hx135_1 := ct HB.out hx135_1
   replace hx135_2 := ct HB.out hx135_2
   replace hx135_3 := ct HB.out hx135_3
   have HR135_3 := Aside0.mk hi135_3
   have HC135_3 := Aside0.mk hl135_3
   clear hi135_3 hl135_3
   replace p135 := eq_true p135
   replace q135 := eq_true q135
   have ea_ := Option.some.inj (hx133_3.symm.trans hx135_3)
   injection ea_ with ea_ en_ ec_
   subst ea_
   subst ec_
   clear en_
   have p137 : 0 ≤ (x3_1 : Int) := of_decide_eq_true (by assumption)
   have q137 : x3_1 < (l0_0.length : Int) := of_decide_eq_true (by assumption)
   obtain ⟨ad137, A137_3, c137_3, e137, hx137_0, hx137_1, hx137_2, hx137_3, hl137_3, hi137_3⟩ := at_T54 HR0_0.out x3_1 p137 q137
   have hw137_3 := hx137_3
   have hw137_2 := hx137_2
   have hw137_1 := hx137_1
   have hw137_0 := hx137_0
   obtain rfl : ad133 = ad137 := (by injection e137)
   replace hx137_0 := ct HB.out hx137_0
   replace hx137_1 := ct HB.out hx137_1
   replace hx137_2 := ct HB.out hx137_2
   replace hx137_3 := ct HB.out hx137_3
   have HR137_3 := Aside0.mk hi137_3
   have HC137_3 := Aside0.mk hl137_3
   clear hi137_3 hl137_3
   replace p137 := eq_true p137
   replace q137 := eq_true q137
   refine start_ (n := 31) (S := fun w' => w'.cell? ⟨gb132, 0, none⟩ = some (.slice (some ad133) l0_0.length c0_0) ∧ w'.cell? (ad133.add ((x3_1).toNat * 4)) = some (.string ((rd_T54 l0_0 x3_1).f0)) ∧ w'.cell? ⟨(ad133.add ((x3_1).toNat * 4)).block, (ad133.add ((x3_1).toNat * 4)).off + 1, none⟩ = some (.string ((rd_T54 l0_0 x3_1).f1.f0)) ∧ w'.cell? ⟨(ad133.add ((x3_1).toNat * 4)).block, (ad133.add ((x3_1).toNat * 4)).off + 2, none⟩ = some (.string ((rd_T54 l0_0 x3_1).f1.f1)) ∧ w'.cell? ⟨(ad133.add ((x3_1).toNat * 4)).block, (ad133.add ((x3_1).toNat * 4)).off + 3, none⟩ = some (.slice A133_3 ((rd_T54 l0_0 x3_1).f1.f2).length c133_3) ∧ w'.cell? (ad133.add ((x3_1).toNat * 4)) = some (.string ((rd_T54 l0_0 x3_1).f0)) ∧ w'.cell? ⟨(ad133.add ((x3_1).toNat * 4)).block, (ad133.add ((x3_1).toNat * 4)).off + 1, none⟩ = some (.string ((rd_T54 l0_0 x3_1).f1.f0)) ∧ w'.cell? ⟨(ad133.add ((x3_1).toNat * 4)).block, (ad133.add ((x3_1).toNat * 4)).off + 2, none⟩ = some (.string ((rd_T54 l0_0 x3_1).f1.f1)) ∧ w'.cell? ⟨(ad133.add ((x3_1).toNat * 4)).block, (ad133.add ((x3_1).toNat * 4)).off + 3, none⟩ = some (.slice A133_3 ((rd_T54 l0_0 x3_1).f1.f2).length c133_3) ∧ w'.cell? (ad133.add ((x3_1).toNat * 4)) = some (.string ((rd_T54 l0_0 x3_1).f0)) ∧ w'.cell? ⟨(ad133.add ((x3_1).toNat * 4)).block, (ad133.add ((x3_1).toNat * 4)).off + 1, none⟩ = some (.string ((rd_T54 l0_0 x3_1).f1.f0)) ∧ w'.cell? ⟨(ad133.add ((x3_1).toNat * 4)).block, (ad133.add ((x3_1).toNat * 4)).off + 2, none⟩ = some (.string ((rd_T54 l0_0 x3_1).f1.f1)) ∧ w'.cell? ⟨(ad133.add ((x3_1).toNat * 4)).block, (ad133.add ((x3_1).toNat * 4)).off + 3, none⟩ = some (.slice A137_3 ((rd_T54 l0_0 x3_1).f1.f2).length c137_3)) (ds := []) #[F,F,F,F,F,F,F,F,F,F,F,F,F,F,F,F,F,F,F,F,F,F,F,F,F,F,F,F,F,F,F] (by kernel_rfl) rfl rfl ⟨(blk_cell BK132.out 0).trans rfl, (ct HB.out hw133_0), (ct HB.out hw133_1), (ct HB.out hw133_2), (ct HB.out hw133_3), (ct HB.out hw135_0), (ct HB.out hw135_1), (ct HB.out hw135_2), (ct HB.out hw135_3), (ct HB.out hw137_0), (ct HB.out hw137_1), (ct HB.out hw137_2), (ct HB.out hw137_3)⟩ (fun hHeld => ?_); refine with_tabW manystrandref24_Right.tab4 manystrandref24_Right.bits4 (fun HT_ HW_ => ?_)
   generalize wr.drew = w12 at BK132 HB HR133_3 HR135_3 HR137_3 hx133_0 hx133_1 hx133_2 hx133_3 hx135_0 hx135_1 hx135_2 hx135_3 hx137_0 hx137_1 hx137_2 hx137_3 hHeld ⊢
   refine pure_ (i := 0) (N := some 11) (v := ?_) (a' := ?_) #[T,F,F,F,F,F,F,F,F,F,F,F,F,F,F,F,F,F,F,F,F,F,F,F,F,F,F,F,F,F,F] rfl rfl (any_of HT_.out (by kernel_rfl)) (fun _ _ _ h => h) (Or.inl ⟨by rfl, ?_⟩) ?_ ?_
   rotate_left
   · intro w'
     go_simp
     with_reducible rfl
   rotate_left
   · simp only [Act.put, List.setIfInBounds_toArray, List.set_cons_zero, List.set_cons_succ, i64_w, i32_w]
     rfl
   refine pure_ (i := 2) (N := some 13) (v := ?_) (a' := ?_) #[T,F,T,F,F,F,F,F,F,F,F,F,F,F,F,F,F,F,F,F,F,F,F,F,F,F,F,F,F,F,F] rfl rfl (any_of HT_.out (by kernel_rfl)) (fun _ _ _ h => h) (Or.inl ⟨by rfl, ?_⟩) ?_ ?_
   rotate_left
   · intro w'
     go_simp
     with_reducible rfl
   rotate_left
   · simp only [Act.put, List.setIfInBounds_toArray, List.set_cons_zero, List.set_cons_succ, i64_w, i32_w]
     rfl
   refine take_ (i := 1) (N := some 12) (v := ?_) (a' := ?_) #[T,T,T,F,F,F,F,F,F,F,F,F,F,F,F,F,F,F,F,F,F,F,F,F,F,F,F,F,F,F,F] rfl rfl (take_ofW HT_.out HW_.out (by kernel_rfl)) (fun _ _ _ h => h) (Or.inl ⟨by rfl, ?_⟩) hHeld ?_ ?_
   rotate_left
   · rintro w' ⟨s0, s1, s2, s3, s4, s5, s6, s7, s8, s9, s10, s11, s12⟩
     go_simp
     with_reducible rfl
   rotate_left
   · simp only [Act.put, List.setIfInBounds_toArray, List.set_cons_zero, List.set_cons_succ, i64_w, i32_w]
     rfl
   refine pure_ (i := 3) (N := some 14) (v := ?_) (a' := ?_) #[T,T,T,T,F,F,F,F,F,F,F,F,F,F,F,F,F,F,F,F,F,F,F,F,F,F,F,F,F,F,F] rfl rfl (any_of HT_.out (by kernel_rfl)) (fun _ _ _ h => h) (Or.inl ⟨by rfl, ?_⟩) ?_ ?_
   rotate_left
   · intro w'
     go_simp
     with_reducible rfl
   rotate_left
   · simp only [Act.put, List.setIfInBounds_toArray, List.set_cons_zero, List.set_cons_succ, i64_w, i32_w]
     rfl
   refine pure_ (i := 4) (N := some 15) (v := ?_) (a' := ?_) #[T,T,T,T,T,F,F,F,F,F,F,F,F,F,F,F,F,F,F,F,F,F,F,F,F,F,F,F,F,F,F] rfl rfl (any_of HT_.out (by kernel_rfl)) (fun _ _ _ h => h) (Or.inl ⟨by rfl, ?_⟩) ?_ ?_
   rotate_left
   · intro w'
     go_simp
     with_reducible rfl
   rotate_left
   · simp only [Act.put, List.setIfInBounds_toArray, List.set_cons_zero, List.set_cons_succ, i64_w, i32_w]
     rfl
   refine take_ (i := 5) (N := some 16) (v := ?_) (a' := ?_) #[T,T,T,T,T,T,F,F,F,F,F,F,F,F,F,F,F,F,F,F,F,F,F,F,F,F,F,F,F,F,F] rfl rfl (take_ofW HT_.out HW_.out (by kernel_rfl)) (fun _ _ _ h => h) (Or.inl ⟨by rfl, ?_⟩) hHeld ?_ ?_
   rotate_left
   · rintro w' ⟨s0, s1, s2, s3, s4, s5, s6, s7, s8, s9, s10, s11, s12⟩
     go_simp
     with_reducible rfl
   rotate_left
   · simp only [Act.put, List.setIfInBounds_toArray, List.set_cons_zero, List.set_cons_succ, i64_w, i32_w]
     rfl
   refine one_ (i := 6) (N := some 17) #[T,T,T,T,T,T,T,F,F,F,F,F,F,F,F,F,F,F,F,F,F,F,F,F,F,F,F,F,F,F,F] rfl rfl (one_of HT_.out (by kernel_rfl)) (by decide) (fun K hK => ?_)
   refine goes_ Try.func68 (by kernel_rfl) rfl #[.string ((rd_T54 l0_0 x3_1).f0)] (by rfl) rfl rfl (by (try simp only [List.map_toArray, List.map_cons, List.map_nil]); first | rfl) ?_
   with_reducible refine (manystrandref01_IsPlain.calls k1 ((rd_T54 l0_0 x3_1).f0) true _ A5.out).mono ?_
   rintro e w' ⟨rfl, ⟨nd, rfl⟩⟩
   refine ⟨_, rfl, ?_⟩
   refine hK.out _ _ ⟨(blk_cell BK132.out 0).trans rfl, (ct HB.out hw133_0), (ct HB.out hw133_1), (ct HB.out hw133_2), (ct HB.out hw133_3), (ct HB.out hw135_0), (ct HB.out hw135_1), (ct HB.out hw135_2), (ct HB.out hw135_3), (ct HB.out hw137_0), (ct HB.out hw137_1), (ct HB.out hw137_2), (ct HB.out hw137_3)⟩ (fun hHeld => ?_)
   clear hK K
   refine norm_ (a' := ?_) ?_ ?_
   rotate_left
   · show Act.put _ (some 17) _ = _
     simp only [Act.put, List.setIfInBounds_toArray, List.set_cons_zero, List.set_cons_succ, i64_w, i32_w]
     rfl
   refine pure_ (i := 7) (N := some 18) (v := ?_) (a' := ?_) #[T,T,T,T,T,T,T,T,F,F,F,F,F,F,F,F,F,F,F,F,F,F,F,F,F,F,F,F,F,F,F] rfl rfl (any_of HT_.out (by kernel_rfl)) (fun _ _ _ h => h) (Or.inl ⟨by rfl, ?_⟩) ?_ ?_
   rotate_left
   · intro w'
     go_simp
     with_reducible rfl
   rotate_left
   · simp only [Act.put, List.setIfInBounds_toArray, List.set_cons_zero, List.set_cons_succ, i64_w, i32_w]
     rfl
   refine pure_ (i := 8) (N := some 19) (v := ?_) (a' := ?_) #[T,T,T,T,T,T,T,T,T,F,F,F,F,F,F,F,F,F,F,F,F,F,F,F,F,F,F,F,F,F,F] rfl rfl (any_of HT_.out (by kernel_rfl)) (fun _ _ _ h => h) (Or.inl ⟨by rfl, ?_⟩) ?_ ?_
   rotate_left
   · intro w'
     go_simp
     with_reducible rfl
   rotate_left
   · simp only [Act.put, List.setIfInBounds_toArray, List.set_cons_zero, List.set_cons_succ, i64_w, i32_w]
     rfl
   refine pure_ (i := 10) (N := some 21) (v := ?_) (a' := ?_) #[T,T,T,T,T,T,T,T,T,F,T,F,F,F,F,F,F,F,F,F,F,F,F,F,F,F,F,F,F,F,F] rfl rfl (any_of HT_.out (by kernel_rfl)) (fun _ _ _ h => h) (Or.inl ⟨by rfl, ?_⟩) ?_ ?_
   rotate_left
   · intro w'
     go_simp
     with_reducible rfl
   rotate_left
   · simp only [Act.put, List.setIfInBounds_toArray, List.set_cons_zero, List.set_cons_succ, i64_w, i32_w]
     rfl
   refine pure_ (i := 12) (N := some 23) (v := ?_) (a' := ?_) #[T,T,T,T,T,T,T,T,T,F,T,F,T,F,F,F,F,F,F,F,F,F,F,F,F,F,F,F,F,F,F] rfl rfl (any_of HT_.out (by kernel_rfl)) (fun _ _ _ h => h) (Or.inl ⟨by rfl, ?_⟩) ?_ ?_
   rotate_left
   · intro w'
     go_simp
     with_reducible rfl
   rotate_left
   · simp only [Act.put, List.setIfInBounds_toArray, List.set_cons_zero, List.set_cons_succ, i64_w, i32_w]
     rfl
   refine pure_ (i := 17) (N := some 28) (v := ?_) (a' := ?_) #[T,T,T,T,T,T,T,T,T,F,T,F,T,F,F,F,F,T,F,F,F,F,F,F,F,F,F,F,F,F,F] rfl rfl (any_of HT_.out (by kernel_rfl)) (fun _ _ _ h => h) (Or.inl ⟨by rfl, ?_⟩) ?_ ?_
   rotate_left
   · intro w'
     go_simp
     with_reducible rfl
   rotate_left
   · simp only [Act.put, List.setIfInBounds_toArray, List.set_cons_zero, List.set_cons_succ, i64_w, i32_w]
     rfl
   refine take_ (i := 9) (N := some 20) (v := ?_) (a' := ?_) #[T,T,T,T,T,T,T,T,T,T,T,F,T,F,F,F,F,T,F,F,F,F,F,F,F,F,F,F,F,F,F] rfl rfl (take_ofW HT_.out HW_.out (by kernel_rfl)) (fun _ _ _ h => h) (Or.inl ⟨by rfl, ?_⟩) hHeld ?_ ?_
   rotate_left
   · rintro w' ⟨s0, s1, s2, s3, s4, s5, s6, s7, s8, s9, s10, s11, s12⟩
     go_simp
     with_reducible rfl
   rotate_left
   · simp only [Act.put, List.setIfInBounds_toArray, List.set_cons_zero, List.set_cons_succ, i64_w, i32_w]
     rfl
   refine take_ (i := 11) (N := some 22) (v := ?_) (a' := ?_) #[T,T,T,T,T,T,T,T,T,T,T,T,T,F,F,F,F,T,F,F,F,F,F,F,F,F,F,F,F,F,F] rfl rfl (take_ofW HT_.out HW_.out (by kernel_rfl)) (fun _ _ _ h => h) (Or.inl ⟨by rfl, ?_⟩) hHeld ?_ ?_
   rotate_left
   · rintro w' ⟨s0, s1, s2, s3, s4, s5, s6, s7, s8, s9, s10, s11, s12⟩
     go_simp
     with_reducible rfl
   rotate_left
   · simp only [Act.put, List.setIfInBounds_toArray, List.set_cons_zero, List.set_cons_succ, i64_w, i32_w]
     rfl
   refine pure_ (i := 13) (N := some 24) (v := ?_) (a' := ?_) #[T,T,T,T,T,T,T,T,T,T,T,T,T,T,F,F,F,T,F,F,F,F,F,F,F,F,F,F,F,F,F] rfl rfl (any_of HT_.out (by kernel_rfl)) (fun _ _ _ h => h) (Or.inl ⟨by rfl, ?_⟩) ?_ ?_
   rotate_left
   · intro w'
     go_simp
     with_reducible rfl
   rotate_left
   · simp only [Act.put, List.setIfInBounds_toArray, List.set_cons_zero, List.set_cons_succ, i64_w, i32_w]
     rfl
   refine pure_ (i := 14) (N := some 25) (v := ?_) (a' := ?_) #[T,T,T,T,T,T,T,T,T,T,T,T,T,T,T,F,F,T,F,F,F,F,F,F,F,F,F,F,F,F,F] rfl rfl (any_of HT_.out (by kernel_rfl)) (fun _ _ _ h => h) (Or.inl ⟨by rfl, ?_⟩) ?_ ?_
   rotate_left
   · intro w'
     go_simp
     with_reducible rfl
   rotate_left
   · simp only [Act.put, List.setIfInBounds_toArray, List.set_cons_zero, List.set_cons_succ, i64_w, i32_w]
     rfl
   refine take_ (i := 15) (N := some 26) (v := ?_) (a' := ?_) #[T,T,T,T,T,T,T,T,T,T,T,T,T,T,T,T,F,T,F,F,F,F,F,F,F,F,F,F,F,F,F] rfl rfl (take_ofW HT_.out HW_.out (by kernel_rfl)) (fun _ _ _ h => h) (Or.inl ⟨by rfl, ?_⟩) hHeld ?_ ?_
   rotate_left
   · rintro w' ⟨s0, s1, s2, s3, s4, s5, s6, s7, s8, s9, s10, s11, s12⟩
     go_simp
     with_reducible rfl
   rotate_left
   · simp only [Act.put, List.setIfInBounds_toArray, List.set_cons_zero, List.set_cons_succ, i64_w, i32_w]
     rfl
   refine one_ (i := 16) (N := some 27) #[T,T,T,T,T,T,T,T,T,T,T,T,T,T,T,T,T,T,F,F,F,F,F,F,F,F,F,F,F,F,F] rfl rfl (one_of HT_.out (by kernel_rfl)) (by decide) (fun K hK => ?_)
   refine goes_ Try.func39 (by kernel_rfl) rfl #[.agg #[.slice (some ad133) l0_0.length c0_0], .string ((rd_T54 l0_0 x3_1).f0)] (by rfl) rfl rfl (by (try simp only [List.map_toArray, List.map_cons, List.map_nil]); first | rfl) ?_
   with_reducible refine (manystrandref24_find.calls k1 _ _ l0_0 ((rd_T54 l0_0 x3_1).f0) t136 _ ?side1 ?side2 A7.out).mono ?_
   (case side1 => repeat (first | exact (Kd.C_below HR0_0.out (by repeat ((with_reducible first | exact HB.out | apply pw_below_drewN))))))
   (case side2 => exact HC0_0.out)
   rintro e w13 ⟨rfl, hb⟩
   refine ⟨_, rfl, ?_⟩
   have n0_ := Aside0.mk (blk_below (g := gb132) (o := .cells #[.slice (some ad133) l0_0.length c0_0] 24 (0, 0)) (by (with_reducible repeat (first | refine blk_drewN ?_ _)); exact BK132.out) hb)
   have n1_ := Aside0.mk (below_step (by repeat ((with_reducible first | exact HB.out | apply pw_below_drewN))) hb)
   clear BK132
   clear HB
   have BK132 := n0_
   have HB := n1_
   clear n0_ n1_
   (try clear hb)
   skip
   skip
   skip
   refine hK.out _ _ ⟨(blk_cell BK132.out 0).trans rfl, (ct HB.out hw133_0), (ct HB.out hw133_1), (ct HB.out hw133_2), (ct HB.out hw133_3), (ct HB.out hw135_0), (ct HB.out hw135_1), (ct HB.out hw135_2), (ct HB.out hw135_3), (ct HB.out hw137_0), (ct HB.out hw137_1), (ct HB.out hw137_2), (ct HB.out hw137_3)⟩ (fun hHeld => ?_)
   clear hK K
   refine norm_ (a' := ?_) ?_ ?_
   rotate_left
   · show Act.put _ (some 27) _ = _
     simp only [Act.put, List.setIfInBounds_toArray, List.set_cons_zero, List.set_cons_succ, i64_w, i32_w]
     rfl
   refine pure_ (i := 18) (N := some 29) (v := ?_) (a' := ?_) #[T,T,T,T,T,T,T,T,T,T,T,T,T,T,T,T,T,T,T,F,F,F,F,F,F,F,F,F,F,F,F] rfl rfl (any_of HT_.out (by kernel_rfl)) (fun _ _ _ h => h) (Or.inl ⟨by rfl, ?_⟩) ?_ ?_
   rotate_left
   · intro w'
     go_simp
     with_reducible rfl
   rotate_left
   · simp only [Act.put, List.setIfInBounds_toArray, List.set_cons_zero, List.set_cons_succ, i64_w, i32_w]
     rfl
   refine pure_ (i := 19) (N := some 30) (v := ?_) (a' := ?_) #[T,T,T,T,T,T,T,T,T,T,T,T,T,T,T,T,T,T,T,T,F,F,F,F,F,F,F,F,F,F,F] rfl rfl (any_of HT_.out (by kernel_rfl)) (fun _ _ _ h => h) (Or.inl ⟨by rfl, ?_⟩) ?_ ?_
   rotate_left
   · intro w'
     go_simp
     with_reducible rfl
   rotate_left
   · simp only [Act.put, List.setIfInBounds_toArray, List.set_cons_zero, List.set_cons_succ, i64_w, i32_w]
     rfl
   refine pure_ (i := 20) (N := some 31) (v := ?_) (a' := ?_) #[T,T,T,T,T,T,T,T,T,T,T,T,T,T,T,T,T,T,T,T,T,F,F,F,F,F,F,F,F,F,F] rfl rfl (any_of HT_.out (by kernel_rfl)) (fun _ _ _ h => h) (Or.inl ⟨by rfl, ?_⟩) ?_ ?_
   rotate_left
   · intro w'
     go_simp
     with_reducible rfl
   rotate_left
   · simp only [Act.put, List.setIfInBounds_toArray, List.set_cons_zero, List.set_cons_succ, i64_w, i32_w]
     rfl
   refine pure_ (i := 22) (N := some 33) (v := ?_) (a' := ?_) #[T,T,T,T,T,T,T,T,T,T,T,T,T,T,T,T,T,T,T,T,T,F,T,F,F,F,F,F,F,F,F] rfl rfl (any_of HT_.out (by kernel_rfl)) (fun _ _ _ h => h) (Or.inl ⟨by rfl, ?_⟩) ?_ ?_
   rotate_left
   · intro w'
     go_simp
     with_reducible rfl
   rotate_left
   · simp only [Act.put, List.setIfInBounds_toArray, List.set_cons_zero, List.set_cons_succ, i64_w, i32_w]
     rfl
   refine pure_ (i := 24) (N := some 35) (v := ?_) (a' := ?_) #[T,T,T,T,T,T,T,T,T,T,T,T,T,T,T,T,T,T,T,T,T,F,T,F,T,F,F,F,F,F,F] rfl rfl (any_of HT_.out (by kernel_rfl)) (fun _ _ _ h => h) (Or.inl ⟨by rfl, ?_⟩) ?_ ?_
   rotate_left
   · intro w'
     go_simp
     with_reducible rfl
   rotate_left
   · simp only [Act.put, List.setIfInBounds_toArray, List.set_cons_zero, List.set_cons_succ, i64_w, i32_w]
     rfl
   refine take_ (i := 21) (N := some 32) (v := ?_) (a' := ?_) #[T,T,T,T,T,T,T,T,T,T,T,T,T,T,T,T,T,T,T,T,T,T,T,F,T,F,F,F,F,F,F] rfl rfl (take_ofW HT_.out HW_.out (by kernel_rfl)) (fun _ _ _ h => h) (Or.inl ⟨by rfl, ?_⟩) hHeld ?_ ?_
   rotate_left
   · rintro w' ⟨s0, s1, s2, s3, s4, s5, s6, s7, s8, s9, s10, s11, s12⟩
     go_simp
     with_reducible rfl
   rotate_left
   · simp only [Act.put, List.setIfInBounds_toArray, List.set_cons_zero, List.set_cons_succ, i64_w, i32_w]
     rfl
   refine take_ (i := 23) (N := some 34) (v := ?_) (a' := ?_) #[T,T,T,T,T,T,T,T,T,T,T,T,T,T,T,T,T,T,T,T,T,T,T,T,T,F,F,F,F,F,F] rfl rfl (take_ofW HT_.out HW_.out (by kernel_rfl)) (fun _ _ _ h => h) (Or.inl ⟨by rfl, ?_⟩) hHeld ?_ ?_
   rotate_left
   · rintro w' ⟨s0, s1, s2, s3, s4, s5, s6, s7, s8, s9, s10, s11, s12⟩
     go_simp
     with_reducible rfl
   rotate_left
   · simp only [Act.put, List.setIfInBounds_toArray, List.set_cons_zero, List.set_cons_succ, i64_w, i32_w]
     rfl
   refine pure_ (i := 25) (N := some 36) (v := ?_) (a' := ?_) #[T,T,T,T,T,T,T,T,T,T,T,T,T,T,T,T,T,T,T,T,T,T,T,T,T,T,F,F,F,F,F] rfl rfl (any_of HT_.out (by kernel_rfl)) (fun _ _ _ h => h) (Or.inl ⟨by rfl, ?_⟩) ?_ ?_
   rotate_left
   · intro w'
     go_simp
     with_reducible rfl
   rotate_left
   · simp only [Act.put, List.setIfInBounds_toArray, List.set_cons_zero, List.set_cons_succ, i64_w, i32_w]
     rfl
   refine pure_ (i := 26) (N := some 37) (v := ?_) (a' := ?_) #[T,T,T,T,T,T,T,T,T,T,T,T,T,T,T,T,T,T,T,T,T,T,T,T,T,T,T,F,F,F,F] rfl rfl (any_of HT_.out (by kernel_rfl)) (fun _ _ _ h => h) (Or.inl ⟨by rfl, ?_⟩) ?_ ?_
   rotate_left
   · intro w'
     go_simp
     with_reducible rfl
   rotate_left
   · simp only [Act.put, List.setIfInBounds_toArray, List.set_cons_zero, List.set_cons_succ, i64_w, i32_w]
     rfl
   refine take_ (i := 27) (N := some 38) (v := ?_) (a' := ?_) #[T,T,T,T,T,T,T,T,T,T,T,T,T,T,T,T,T,T,T,T,T,T,T,T,T,T,T,T,F,F,F] rfl rfl (take_ofW HT_.out HW_.out (by kernel_rfl)) (fun _ _ _ h => h) (Or.inl ⟨by rfl, ?_⟩) hHeld ?_ ?_
   rotate_left
   · rintro w' ⟨s0, s1, s2, s3, s4, s5, s6, s7, s8, s9, s10, s11, s12⟩
     go_simp
     with_reducible rfl
   rotate_left
   · simp only [Act.put, List.setIfInBounds_toArray, List.set_cons_zero, List.set_cons_succ, i64_w, i32_w]
     rfl
   refine one_ (i := 28) (N := some 39) #[T,T,T,T,T,T,T,T,T,T,T,T,T,T,T,T,T,T,T,T,T,T,T,T,T,T,T,T,T,F,F] rfl rfl (one_of HT_.out (by kernel_rfl)) (by decide) (fun K hK => ?_)
   refine goes_ Try.func69 (by kernel_rfl) rfl #[.agg #[.slice (some ad133) l0_0.length c0_0], .agg #[.string ((rd_T54 l0_0 x3_1).f1.f0), .string ((rd_T54 l0_0 x3_1).f1.f1), .slice A133_3 ((rd_T54 l0_0 x3_1).f1.f2).length c133_3]] (by rfl) rfl rfl (by (try simp only [List.map_toArray, List.map_cons, List.map_nil]); first | rfl) ?_
   with_reducible refine (manystrandref24_right.calls k1 _ _ l0_0 ((rd_T54 l0_0 x3_1).f1.f0) ((rd_T54 l0_0 x3_1).f1.f1) _ _ ((rd_T54 l0_0 x3_1).f1.f2) true _ ?side1 ?side2 ?side3 ?side4 A9.out).mono ?_
   (case side1 => repeat (first | exact (Kd.C_below HR0_0.out HB.out)))
   (case side2 => exact HC0_0.out)
   (case side3 => repeat (first | exact (Kd.C_below HR133_3.out HB.out)))
   (case side4 => exact HC133_3.out)
   rintro e w14 ⟨rfl, hb⟩
   refine ⟨_, rfl, ?_⟩
   have n0_ := Aside0.mk (blk_below (g := gb132) (o := .cells #[.slice (some ad133) l0_0.length c0_0] 24 (0, 0)) BK132.out hb)
   have n1_ := Aside0.mk (below_step HB.out hb)
   clear BK132
   clear HB
   have BK132 := n0_
   have HB := n1_
   clear n0_ n1_
   (try clear hb)
   skip
   skip
   skip
   refine hK.out _ _ ⟨(blk_cell BK132.out 0).trans rfl, (ct HB.out hw133_0), (ct HB.out hw133_1), (ct HB.out hw133_2), (ct HB.out hw133_3), (ct HB.out hw135_0), (ct HB.out hw135_1), (ct HB.out hw135_2), (ct HB.out hw135_3), (ct HB.out hw137_0), (ct HB.out hw137_1), (ct HB.out hw137_2), (ct HB.out hw137_3)⟩ (fun hHeld => ?_)
   clear hK K
   refine norm_ (a' := ?_) ?_ ?_
   rotate_left
   · show Act.put _ (some 39) _ = _
     simp only [Act.put, List.setIfInBounds_toArray, List.set_cons_zero, List.set_cons_succ, i64_w, i32_w]
     rfl
   refine pure_ (i := 29) (N := some 40) (v := ?_) (a' := ?_) #[T,T,T,T,T,T,T,T,T,T,T,T,T,T,T,T,T,T,T,T,T,T,T,T,T,T,T,T,T,T,F] rfl rfl (any_of HT_.out (by kernel_rfl)) (fun _ _ _ h => h) (Or.inl ⟨by rfl, ?_⟩) ?_ ?_
   rotate_left
   · intro w'
     go_simp
     with_reducible rfl
   rotate_left
   · simp only [Act.put, List.setIfInBounds_toArray, List.set_cons_zero, List.set_cons_succ, i64_w, i32_w]
     rfl
   refine pure_ (i := 30) (N := some 41) (v := ?_) (a' := ?_) #[T,T,T,T,T,T,T,T,T,T,T,T,T,T,T,T,T,T,T,T,T,T,T,T,T,T,T,T,T,T,T] rfl rfl (any_of HT_.out (by kernel_rfl)) (fun _ _ _ h => h) (Or.inl ⟨by rfl, ?_⟩) ?_ ?_
   rotate_left
   · intro w'
     go_simp
     with_reducible rfl
   rotate_left
   · simp only [Act.put, List.setIfInBounds_toArray, List.set_cons_zero, List.set_cons_succ, i64_w, i32_w]
     rfl
   refine done_ (done_of HT_.out (by kernel_rfl)) ?_
   try go_wp2
   go_roundg k1
   case measure => have := HK1.out; omega
   case rel => exact ⟨(wrap64 (x3_1 + 1)), rfl, H', ⟨by have := HK1.out; omega⟩, ⟨BK132.out⟩, ⟨by exact HB.out⟩⟩
end Go.Proofs.Ytcnllhnhinmokaa.PHGr
end
section
namespace Go.Proofs.Ytcnllhnhinmokaa.PHGr
open Go.RowKit Go.Proofs.YtcnllhnhinmokaaW.PrintWords Go.Proofs.YtcnllhnhinmokaaW.PrintLast Go.Proofs.YtcnllhnhinmokaaW.PrintMore
attribute [local go_sem] max2_int min2_int max_two min_two max_three min_three max_four min_four
set_option linter.unusedVariables false
set_option linter.unusedSimpArgs false
def manystrandref24_quoted.l0 : Nat → ByteArray → ByteArray → Int → Option (ByteArray)
 | 0, _, _, _ => none
 | k + 1, x0, x3, x4 => if x4 < (x0.size : Int) then (if 0 ≤ x4 then (if (bt x0 x4) = 39 then (if x3.size + 2 ≤ 9223372036854775807 then (manystrandref24_quoted.l0 k x0 (x3 ++ (⟨#[92, 39]⟩ : ByteArray)) (wrap64 (x4 + 1))) else (none)) else (if (bt x0 x4) = 92 then (if x3.size + 2 ≤ 9223372036854775807 then (manystrandref24_quoted.l0 k x0 (x3 ++ (⟨#[92, 92]⟩ : ByteArray)) (wrap64 (x4 + 1))) else (none)) else (if (bt x0 x4) = 10 then (if x3.size + 2 ≤ 9223372036854775807 then (manystrandref24_quoted.l0 k x0 (x3 ++ (⟨#[92, 110]⟩ : ByteArray)) (wrap64 (x4 + 1))) else (none)) else (if x4 ≤ (wrap64 (x4 + 1)) then (if (wrap64 (x4 + 1)) ≤ (x0.size : Int) then (if x3.size + (x0.extract (x4 : Int).toNat ((wrap64 (x4 + 1)) : Int).toNat).size ≤ 9223372036854775807 then (manystrandref24_quoted.l0 k x0 (x3 ++ (x0.extract (x4 : Int).toNat ((wrap64 (x4 + 1)) : Int).toNat)) (wrap64 (x4 + 1))) else (none)) else (none)) else (none))))) else (none)) else (if x3.size + 1 ≤ 9223372036854775807 then (some (x3 ++ (⟨#[39]⟩ : ByteArray))) else (none))
def manystrandref24_quoted.f (k : Nat) (a0 : ByteArray) : Option (ByteArray) := manystrandref24_quoted.l0 k a0 (⟨#[39]⟩ : ByteArray) 0
set_option maxHeartbeats 8000000 in
set_option maxRecDepth 100000 in
theorem manystrandref24_quoted.calls (k : Nat) (a0 : ByteArray) (r : ByteArray) (w : World) (h : manystrandref24_quoted.f k a0 = some r) :
 Calls Try.prog 78 #[.string a0] w fun e w' => e = .returned (.string r) ∧ Drawn0 w w' := by
 have H : (manystrandref24_quoted.l0 k a0 (⟨#[39]⟩ : ByteArray) 0) = some r := h
 clear h
 have H' := Aside0.mk H
 clear H
 go_enter Try.func78, Try.ntmps78
 go_wp2
 go_loopg [3, 4] k (fun kq v3 v4 w' => ∃ (x3_1 : ByteArray) (x4_1 : Int), v3 = .string x3_1 ∧ v4 = .int .i64 x4_1 ∧ Aside0 (manystrandref24_quoted.l0 kq a0 x3_1 x4_1 = some r) ∧ Aside0 (kq ≤ k) ∧ Drawn0 w w')
 case atStart => exact ⟨((⟨#[39]⟩ : ByteArray)), (0), rfl, rfl, H', ⟨Nat.le_refl _⟩, by repeat (first | exact Drawn0.refl _)⟩
 case round =>
  clear H'
  obtain ⟨x3_1, x4_1, rfl, rfl, HA, HK1, ⟨m1, rfl⟩⟩ := hrel
  cases gk with
  | zero => exact absurd HA.out (by simp [manystrandref24_quoted.l0])
  | succ k1 =>
   have H := HA.out
   clear HA
   simp only [manystrandref24_quoted.l0] at H
   by_cases c2 : x4_1 < (a0.size : Int)
   rotate_left
   · rw [if_neg c2] at H
     have c2b0 := decide_eq_false c2
     clear c2
     obtain ⟨c15, H⟩ := gd H
     have c15b0 := eq_true c15
     have c15b1 := decide_eq_true c15
     try have c15b2 : (9223372036854775807 < x3_1.size + 1) = False := eq_false (Nat.not_lt.2 c15)
     obtain rfl := Option.some.inj H
     go_wp2
     go_ret
     exact ⟨by first | rfl, by repeat (first | exact Drawn0.refl _ | apply Drawn0.step)⟩
   rw [if_pos c2] at H
   have c2b0 := decide_eq_true c2
   clear c2
   obtain ⟨c3, H⟩ := gd H
   have c3b0 := decide_eq_true c3
   clear c3
   by_cases c5 : (bt a0 x4_1) = 39
   · rw [if_pos c5] at H
     have c5b0 := beq_iff_eq.mpr c5
     have c5b1 := bne_eq_false_iff_eq.mpr c5
     clear c5
     obtain ⟨c6, H⟩ := gd H
     have c6b0 := eq_true c6
     have c6b1 := decide_eq_true c6
     try have c6b2 : (9223372036854775807 < x3_1.size + 2) = False := eq_false (Nat.not_lt.2 c6)
     have H' := Aside0.mk H
     clear H
     have p4 : 0 ≤ (x4_1 : Int) := of_decide_eq_true (by assumption)
     have q4 : x4_1 < (a0.size : Int) := of_decide_eq_true (by assumption)
     have hx4 := bt_at a0 x4_1
     replace p4 := eq_true p4
     replace q4 := eq_true q4
     go_wp2
     go_roundg k1
     case measure => have := HK1.out; omega
     case rel => exact ⟨(x3_1 ++ (⟨#[92, 39]⟩ : ByteArray)), (wrap64 (x4_1 + 1)), rfl, rfl, H', ⟨by have := HK1.out; omega⟩, by repeat (first | exact Drawn0.refl _ | apply Drawn0.step)⟩
   rw [if_neg c5] at H
   have c5b0 := beq_eq_false_iff_ne.mpr c5
   have c5b1 := bne_iff_ne.mpr c5
   by_cases c7 : (bt a0 x4_1) = 92
   · rw [if_pos c7] at H
     have c7b0 := beq_iff_eq.mpr c7
     have c7b1 := bne_eq_false_iff_eq.mpr c7
     clear c7
     obtain ⟨c8, H⟩ := gd H
     have c8b0 := eq_true c8
     have c8b1 := decide_eq_true c8
     try have c8b2 : (9223372036854775807 < x3_1.size + 2) = False := eq_false (Nat.not_lt.2 c8)
     have H' := Aside0.mk H
     clear H
     have p4 : 0 ≤ (x4_1 : Int) := of_decide_eq_true (by assumption)
     have q4 : x4_1 < (a0.size : Int) := of_decide_eq_true (by assumption)
     have hx4 := bt_at a0 x4_1
     replace p4 := eq_true p4
     replace q4 := eq_true q4
     go_wp2
     go_roundg k1
     case measure => have := HK1.out; omega
     case rel => exact ⟨(x3_1 ++ (⟨#[92, 92]⟩ : ByteArray)), (wrap64 (x4_1 + 1)), rfl, rfl, H', ⟨by have := HK1.out; omega⟩, by repeat (first | exact Drawn0.refl _ | apply Drawn0.step)⟩
   rw [if_neg c7] at H
   have c7b0 := beq_eq_false_iff_ne.mpr c7
   have c7b1 := bne_iff_ne.mpr c7
   by_cases c9 : (bt a0 x4_1) = 10
   · rw [if_pos c9] at H
     have c9b0 := beq_iff_eq.mpr c9
     have c9b1 := bne_eq_false_iff_eq.mpr c9
     clear c9
     obtain ⟨c10, H⟩ := gd H
     have c10b0 := eq_true c10
     have c10b1 := decide_eq_true c10
     try have c10b2 : (9223372036854775807 < x3_1.size + 2) = False := eq_false (Nat.not_lt.2 c10)
     have H' := Aside0.mk H
     clear H
     have p4 : 0 ≤ (x4_1 : Int) := of_decide_eq_true (by assumption)
     have q4 : x4_1 < (a0.size : Int) := of_decide_eq_true (by assumption)
     have hx4 := bt_at a0 x4_1
     replace p4 := eq_true p4
     replace q4 := eq_true q4
     go_wp2
     go_roundg k1
     case measure => have := HK1.out; omega
     case rel => exact ⟨(x3_1 ++ (⟨#[92, 110]⟩ : ByteArray)), (wrap64 (x4_1 + 1)), rfl, rfl, H', ⟨by have := HK1.out; omega⟩, by repeat (first | exact Drawn0.refl _ | apply Drawn0.step)⟩
   rw [if_neg c9] at H
   have c9b0 := beq_eq_false_iff_ne.mpr c9
   have c9b1 := bne_iff_ne.mpr c9
   have c11b0 := eq_true (of_decide_eq_true (by assumption) : 0 ≤ x4_1)
   obtain ⟨c12, H⟩ := gd H
   have c12b0 := eq_true c12
   have c12b1 := decide_eq_true c12
   obtain ⟨c13, H⟩ := gd H
   have c13b0 := eq_true c13
   have c13b1 := decide_eq_true c13
   obtain ⟨c14, H⟩ := gd H
   have c14b0 := eq_true c14
   have c14b1 := decide_eq_true c14
   try have c14b2 : (9223372036854775807 < x3_1.size + (a0.extract (x4_1 : Int).toNat ((wrap64 (x4_1 + 1)) : Int).toNat).size) = False := eq_false (Nat.not_lt.2 c14)
   have H' := Aside0.mk H
   clear H
   have p4 : 0 ≤ (x4_1 : Int) := of_decide_eq_true (by assumption)
   have q4 : x4_1 < (a0.size : Int) := of_decide_eq_true (by assumption)
   have hx4 := bt_at a0 x4_1
   replace p4 := eq_true p4
   replace q4 := eq_true q4
   go_wp2
   go_roundg k1
   case measure => have := HK1.out; omega
   case rel => exact ⟨(x3_1 ++ (a0.extract (x4_1 : Int).toNat ((wrap64 (x4_1 + 1)) : Int).toNat)), (wrap64 (x4_1 + 1)), rfl, rfl, H', ⟨by have := HK1.out; omega⟩, by repeat (first | exact Drawn0.refl _ | apply Drawn0.step)⟩
mutual
def manystrandref24_text.l0 : Nat → ByteArray → Int → ByteArray → ByteArray → List (S52) → Option (ByteArray)
 | 0, _, _, _, _, _ => none
 | k + 1, x3, x4, x140000, x140001, x140002 => if x4 < (x140002.length : Int) then (if x140000.toList = ([111, 114] : List UInt8) then (if x3.size + 2 ≤ 9223372036854775807 then (if 0 ≤ x4 then ((manystrandref24_text.f k ((rd_T52 x140002 x4).f0) ((rd_T52 x140002 x4).f1) ((rd_T52 x140002 x4).f2)).bind fun t148 => (if 1 + t148.size ≤ 9223372036854775807 then (if (x3 ++ (⟨#[32, 47]⟩ : ByteArray)).size + ((⟨#[32]⟩ : ByteArray) ++ t148).size ≤ 9223372036854775807 then (manystrandref24_text.l0 k ((x3 ++ (⟨#[32, 47]⟩ : ByteArray)) ++ ((⟨#[32]⟩ : ByteArray) ++ t148)) (wrap64 (x4 + 1)) x140000 x140001 x140002) else (none)) else (none))) else (none)) else (none)) else (if 0 ≤ x4 then ((manystrandref24_text.f k ((rd_T52 x140002 x4).f0) ((rd_T52 x140002 x4).f1) ((rd_T52 x140002 x4).f2)).bind fun t150 => (if 1 + t150.size ≤ 9223372036854775807 then (if x3.size + ((⟨#[32]⟩ : ByteArray) ++ t150).size ≤ 9223372036854775807 then (manystrandref24_text.l0 k (x3 ++ ((⟨#[32]⟩ : ByteArray) ++ t150)) (wrap64 (x4 + 1)) x140000 x140001 x140002) else (none)) else (none))) else (none))) else (if x3.size + 2 ≤ 9223372036854775807 then (some (x3 ++ (⟨#[32, 41]⟩ : ByteArray))) else (none))
def manystrandref24_text.f : Nat → ByteArray → ByteArray → List (S52) → Option (ByteArray)
 | 0, _, _, _ => none
 | k + 1, a0_0, a0_1, l0_2 => if a0_0.toList = ([105, 115] : List UInt8) then ((manystrandref24_quoted.f k a0_1).bind fun t140 => (some t140)) else (if a0_0.toList = ([97, 110, 121] : List UInt8) then (some (⟨#[46]⟩ : ByteArray)) else (if a0_0.toList = ([114, 117, 108, 101] : List UInt8) then (some a0_1) else (if a0_0.toList = ([109, 97, 110, 121] : List UInt8) then (if 0 < (l0_2.length : Int) then ((manystrandref24_text.f k ((rd_T52 l0_2 0).f0) ((rd_T52 l0_2 0).f1) ((rd_T52 l0_2 0).f2)).bind fun t142 => (if 2 + t142.size ≤ 9223372036854775807 then (if ((⟨#[40, 32]⟩ : ByteArray) ++ t142).size + 4 ≤ 9223372036854775807 then (some (((⟨#[40, 32]⟩ : ByteArray) ++ t142) ++ (⟨#[32, 42, 32, 41]⟩ : ByteArray))) else (none)) else (none))) else (none)) else (if a0_0.toList = ([111, 112, 116] : List UInt8) then (if 0 < (l0_2.length : Int) then ((manystrandref24_text.f k ((rd_T52 l0_2 0).f0) ((rd_T52 l0_2 0).f1) ((rd_T52 l0_2 0).f2)).bind fun t144 => (if 2 + t144.size ≤ 9223372036854775807 then (if ((⟨#[40, 32]⟩ : ByteArray) ++ t144).size + 4 ≤ 9223372036854775807 then (some (((⟨#[40, 32]⟩ : ByteArray) ++ t144) ++ (⟨#[32, 63, 32, 41]⟩ : ByteArray))) else (none)) else (none))) else (none)) else (if a0_0.toList = ([110, 111, 116] : List UInt8) then (if 0 < (l0_2.length : Int) then ((manystrandref24_text.f k ((rd_T52 l0_2 0).f0) ((rd_T52 l0_2 0).f1) ((rd_T52 l0_2 0).f2)).bind fun t146 => (if 4 + t146.size ≤ 9223372036854775807 then (if ((⟨#[40, 32, 33, 32]⟩ : ByteArray) ++ t146).size + 2 ≤ 9223372036854775807 then (some (((⟨#[40, 32, 33, 32]⟩ : ByteArray) ++ t146) ++ (⟨#[32, 41]⟩ : ByteArray))) else (none)) else (none))) else (none)) else (if a0_0.toList = ([110, 111, 116, 104, 105, 110, 103] : List UInt8) then (some (⟨#[40, 41]⟩ : ByteArray)) else (manystrandref24_text.l0 k (⟨#[40]⟩ : ByteArray) 0 a0_0 a0_1 l0_2)))))))
end
set_option maxHeartbeats 8000000 in
set_option maxRecDepth 100000 in
theorem manystrandref24_text.calls (k : Nat) : ∀ (a0_0 : ByteArray) (a0_1 : ByteArray) (A0_2 : Option Addr) (c0_2 : Nat) (l0_2 : List (S52)) (r : ByteArray) (w : World) (hr0_2 : Kd.C k52 w A0_2 l0_2.length l0_2) (hc0_2 : l0_2.length ≤ c0_2) (h : manystrandref24_text.f k a0_0 a0_1 l0_2 = some r),
 Calls Try.prog 51 #[.agg #[.string a0_0, .string a0_1, .slice A0_2 l0_2.length c0_2]] w fun e w' => e = .returned (.string r) ∧ Below w.heap.size w w' := by
 induction k using Nat.strongRecOn with
 | _ k ih =>
 intro a0_0 a0_1 A0_2 c0_2 l0_2 r w hr0_2 hc0_2 h
 cases k with
 | zero => exact absurd h (by simp [manystrandref24_text.f])
 | succ k =>
 simp only [manystrandref24_text.f] at h
 have hu52 := Try.underlying52
 have HR0_2 := Aside0.mk hr0_2
 have HC0_2 := Aside0.mk hc0_2
 clear hr0_2 hc0_2
 have HB := Aside0.mk (Below.refl w.heap.size w)
 have H : (if a0_0.toList = ([105, 115] : List UInt8) then ((manystrandref24_quoted.f k a0_1).bind fun t140 => (some t140)) else (if a0_0.toList = ([97, 110, 121] : List UInt8) then (some (⟨#[46]⟩ : ByteArray)) else (if a0_0.toList = ([114, 117, 108, 101] : List UInt8) then (some a0_1) else (if a0_0.toList = ([109, 97, 110, 121] : List UInt8) then (if 0 < (l0_2.length : Int) then ((manystrandref24_text.f k ((rd_T52 l0_2 0).f0) ((rd_T52 l0_2 0).f1) ((rd_T52 l0_2 0).f2)).bind fun t142 => (if 2 + t142.size ≤ 9223372036854775807 then (if ((⟨#[40, 32]⟩ : ByteArray) ++ t142).size + 4 ≤ 9223372036854775807 then (some (((⟨#[40, 32]⟩ : ByteArray) ++ t142) ++ (⟨#[32, 42, 32, 41]⟩ : ByteArray))) else (none)) else (none))) else (none)) else (if a0_0.toList = ([111, 112, 116] : List UInt8) then (if 0 < (l0_2.length : Int) then ((manystrandref24_text.f k ((rd_T52 l0_2 0).f0) ((rd_T52 l0_2 0).f1) ((rd_T52 l0_2 0).f2)).bind fun t144 => (if 2 + t144.size ≤ 9223372036854775807 then (if ((⟨#[40, 32]⟩ : ByteArray) ++ t144).size + 4 ≤ 9223372036854775807 then (some (((⟨#[40, 32]⟩ : ByteArray) ++ t144) ++ (⟨#[32, 63, 32, 41]⟩ : ByteArray))) else (none)) else (none))) else (none)) else (if a0_0.toList = ([110, 111, 116] : List UInt8) then (if 0 < (l0_2.length : Int) then ((manystrandref24_text.f k ((rd_T52 l0_2 0).f0) ((rd_T52 l0_2 0).f1) ((rd_T52 l0_2 0).f2)).bind fun t146 => (if 4 + t146.size ≤ 9223372036854775807 then (if ((⟨#[40, 32, 33, 32]⟩ : ByteArray) ++ t146).size + 2 ≤ 9223372036854775807 then (some (((⟨#[40, 32, 33, 32]⟩ : ByteArray) ++ t146) ++ (⟨#[32, 41]⟩ : ByteArray))) else (none)) else (none))) else (none)) else (if a0_0.toList = ([110, 111, 116, 104, 105, 110, 103] : List UInt8) then (some (⟨#[40, 41]⟩ : ByteArray)) else (manystrandref24_text.l0 k (⟨#[40]⟩ : ByteArray) 0 a0_0 a0_1 l0_2)))))))) = some r := h
 clear h
 by_cases c2 : a0_0.toList = ([105, 115] : List UInt8)
 · rw [if_pos c2] at H
   have c2b0 := beq_iff_eq.mpr c2
   have c2b1 := bne_eq_false_iff_eq.mpr c2
   clear c2
   replace H := Option.bind_eq_some_iff.mp H
   obtain ⟨t140, A30, H⟩ := H
   have A3 := Aside0.mk A30
   clear A30
   obtain rfl := Option.some.inj H
   go_enter Try.func51, Try.ntmps51
   go_wp2_with (first | ((with_reducible refine gate_dst (N := 1) rfl ?_); refine box_event ?hg (N := 1) ?hd (cs := #[.string a0_0, .string a0_1, .slice A0_2 l0_2.length c0_2]) (t := 52) ?hr ?_; (case hd => rfl); (case hg => rfl); (case hr => (go_simp; done)); intro gb139 hg w4 hbox hb; have n0_ := Aside0.mk (below_step HB.out hb); have n1_ := Aside0.mk (hbox); have n2_ := Aside0.mk ((by rw [hg]; exact (below_size HB.out) : w.heap.size ≤ gb139)); have n3_ := Aside0.mk ((by rw [hg]; exact (below_size HB.out) : w.heap.size ≤ gb139)); clear HB; have HB := n0_; have BK139 := n1_; have GW139 := n2_; have GE139 := n3_; clear n0_ n1_ n2_ n3_; clear hb hbox hg; have hcz5_0 : w4.cell? ⟨gb139, 0, none⟩ = some (.string a0_0) := (blk_cell BK139.out 0).trans rfl; have hcz5_1 : w4.cell? ⟨gb139, 1, none⟩ = some (.string a0_1) := (blk_cell BK139.out 1).trans rfl; have hcz5_2 : w4.cell? ⟨gb139, 2, none⟩ = some (.slice A0_2 l0_2.length c0_2) := (blk_cell BK139.out 2).trans rfl; have hfz5_0 := blk_frozen BK139.out 0; have hfz5_1 := blk_frozen BK139.out 1; have hfz5_2 := blk_frozen BK139.out 2) | ((with_reducible refine gate_callee (f := 78) rfl ?_); refine goesL_ (some 11) rfl rfl Try.func78 (by kernel_rfl) rfl #[.string a0_1] rfl (by (try simp only [List.map_toArray, List.map_cons, List.map_nil]); first | rfl) ?_; (with_reducible refine (manystrandref24_quoted.calls k a0_1 t140 _ A3.out).mono ?_); rintro e w' ⟨rfl, ⟨nd, rfl⟩⟩; refine ⟨_, rfl, ?_⟩))
   go_ret
   exact ⟨by first | rfl, by repeat ((with_reducible first | exact HB.out | apply pw_below_drewN))⟩
 rw [if_neg c2] at H
 have c2b0 := beq_eq_false_iff_ne.mpr c2
 have c2b1 := bne_iff_ne.mpr c2
 by_cases c6 : a0_0.toList = ([97, 110, 121] : List UInt8)
 · rw [if_pos c6] at H
   have c6b0 := beq_iff_eq.mpr c6
   have c6b1 := bne_eq_false_iff_eq.mpr c6
   clear c6
   obtain rfl := Option.some.inj H
   go_enter Try.func51, Try.ntmps51
   go_wp2_with (((with_reducible refine gate_dst (N := 1) rfl ?_); refine box_event ?hg (N := 1) ?hd (cs := #[.string a0_0, .string a0_1, .slice A0_2 l0_2.length c0_2]) (t := 52) ?hr ?_; (case hd => rfl); (case hg => rfl); (case hr => (go_simp; done)); intro gb139 hg w7 hbox hb; have n0_ := Aside0.mk (below_step HB.out hb); have n1_ := Aside0.mk (hbox); have n2_ := Aside0.mk ((by rw [hg]; exact (below_size HB.out) : w.heap.size ≤ gb139)); have n3_ := Aside0.mk ((by rw [hg]; exact (below_size HB.out) : w.heap.size ≤ gb139)); clear HB; have HB := n0_; have BK139 := n1_; have GW139 := n2_; have GE139 := n3_; clear n0_ n1_ n2_ n3_; clear hb hbox hg; have hcz8_0 : w7.cell? ⟨gb139, 0, none⟩ = some (.string a0_0) := (blk_cell BK139.out 0).trans rfl; have hcz8_1 : w7.cell? ⟨gb139, 1, none⟩ = some (.string a0_1) := (blk_cell BK139.out 1).trans rfl; have hcz8_2 : w7.cell? ⟨gb139, 2, none⟩ = some (.slice A0_2 l0_2.length c0_2) := (blk_cell BK139.out 2).trans rfl; have hfz8_0 := blk_frozen BK139.out 0; have hfz8_1 := blk_frozen BK139.out 1; have hfz8_2 := blk_frozen BK139.out 2))
   go_ret
   exact ⟨by first | rfl, by exact HB.out⟩
 rw [if_neg c6] at H
 have c6b0 := beq_eq_false_iff_ne.mpr c6
 have c6b1 := bne_iff_ne.mpr c6
 by_cases c9 : a0_0.toList = ([114, 117, 108, 101] : List UInt8)
 · rw [if_pos c9] at H
   have c9b0 := beq_iff_eq.mpr c9
   have c9b1 := bne_eq_false_iff_eq.mpr c9
   clear c9
   obtain rfl := Option.some.inj H
   go_enter Try.func51, Try.ntmps51
   go_wp2_with (((with_reducible refine gate_dst (N := 1) rfl ?_); refine box_event ?hg (N := 1) ?hd (cs := #[.string a0_0, .string a0_1, .slice A0_2 l0_2.length c0_2]) (t := 52) ?hr ?_; (case hd => rfl); (case hg => rfl); (case hr => (go_simp; done)); intro gb139 hg w10 hbox hb; have n0_ := Aside0.mk (below_step HB.out hb); have n1_ := Aside0.mk (hbox); have n2_ := Aside0.mk ((by rw [hg]; exact (below_size HB.out) : w.heap.size ≤ gb139)); have n3_ := Aside0.mk ((by rw [hg]; exact (below_size HB.out) : w.heap.size ≤ gb139)); clear HB; have HB := n0_; have BK139 := n1_; have GW139 := n2_; have GE139 := n3_; clear n0_ n1_ n2_ n3_; clear hb hbox hg; have hcz11_0 : w10.cell? ⟨gb139, 0, none⟩ = some (.string a0_0) := (blk_cell BK139.out 0).trans rfl; have hcz11_1 : w10.cell? ⟨gb139, 1, none⟩ = some (.string a0_1) := (blk_cell BK139.out 1).trans rfl; have hcz11_2 : w10.cell? ⟨gb139, 2, none⟩ = some (.slice A0_2 l0_2.length c0_2) := (blk_cell BK139.out 2).trans rfl; have hfz11_0 := blk_frozen BK139.out 0; have hfz11_1 := blk_frozen BK139.out 1; have hfz11_2 := blk_frozen BK139.out 2))
   go_ret
   exact ⟨by first | rfl, by exact HB.out⟩
 rw [if_neg c9] at H
 have c9b0 := beq_eq_false_iff_ne.mpr c9
 have c9b1 := bne_iff_ne.mpr c9
 by_cases c12 : a0_0.toList = ([109, 97, 110, 121] : List UInt8)
 · rw [if_pos c12] at H
   have c12b0 := beq_iff_eq.mpr c12
   have c12b1 := bne_eq_false_iff_eq.mpr c12
   clear c12
   obtain ⟨c13, H⟩ := gd H
   have c13b0 := decide_eq_true c13
   have c13b1 : decide (0 < l0_2.length) = true := decide_eq_true (by omega)
   clear c13
   replace H := Option.bind_eq_some_iff.mp H
   obtain ⟨t142, A140, H⟩ := H
   have A14 := Aside0.mk A140
   clear A140
   obtain ⟨c15, H⟩ := gd H
   have c15b0 := eq_true c15
   have c15b1 := decide_eq_true c15
   try have c15b2 : (9223372036854775807 < 2 + t142.size) = False := eq_false (Nat.not_lt.2 c15)
   obtain ⟨c16, H⟩ := gd H
   have c16b0 := eq_true c16
   have c16b1 := decide_eq_true c16
   try have c16b2 : (9223372036854775807 < ((⟨#[40, 32]⟩ : ByteArray) ++ t142).size + 4) = False := eq_false (Nat.not_lt.2 c16)
   try have c16b3 : (9223372036854775807 < 2 + t142.size + 4) = False := eq_false (Nat.not_lt.2 (by have h_ := c16; simp only [ByteArray.size_append] at h_; exact h_))
   obtain rfl := Option.some.inj H
   go_enter Try.func51, Try.ntmps51
   go_wp2_with (first | ((with_reducible refine gate_dst (N := 1) rfl ?_); refine box_event ?hg (N := 1) ?hd (cs := #[.string a0_0, .string a0_1, .slice A0_2 l0_2.length c0_2]) (t := 52) ?hr ?_; (case hd => rfl); (case hg => rfl); (case hr => (go_simp; done)); intro gb139 hg w17 hbox hb; have n0_ := Aside0.mk (below_step HB.out hb); have n1_ := Aside0.mk (hbox); have n2_ := Aside0.mk ((by rw [hg]; exact (below_size HB.out) : w.heap.size ≤ gb139)); have n3_ := Aside0.mk ((by rw [hg]; exact (below_size HB.out) : w.heap.size ≤ gb139)); clear HB; have HB := n0_; have BK139 := n1_; have GW139 := n2_; have GE139 := n3_; clear n0_ n1_ n2_ n3_; clear hb hbox hg; have hcz18_0 : w17.cell? ⟨gb139, 0, none⟩ = some (.string a0_0) := (blk_cell BK139.out 0).trans rfl; have hcz18_1 : w17.cell? ⟨gb139, 1, none⟩ = some (.string a0_1) := (blk_cell BK139.out 1).trans rfl; have hcz18_2 : w17.cell? ⟨gb139, 2, none⟩ = some (.slice A0_2 l0_2.length c0_2) := (blk_cell BK139.out 2).trans rfl; have hfz18_0 := blk_frozen BK139.out 0; have hfz18_1 := blk_frozen BK139.out 1; have hfz18_2 := blk_frozen BK139.out 2; have p141 : 0 ≤ (0 : Int) := (by omega); have q141 : 0 < (l0_2.length : Int) := of_decide_eq_true (by assumption); obtain ⟨ad141, A141_2, c141_2, e141, hx141_0, hx141_1, hx141_2, hl141_2, hi141_2⟩ := at_T52 HR0_2.out 0 p141 q141; cases e141; have qi141 : (0 < l0_2.length) = True := eq_true (by omega); (try rw [show ((0 : Int)).toNat = 0 from rfl] at hx141_0); (try rw [show 0 * 3 = 0 from rfl] at hx141_0); (try rw [Addr.add_zero'] at hx141_0); (try rw [show ((0 : Int)).toNat = 0 from rfl] at hx141_1); (try rw [show 0 * 3 = 0 from rfl] at hx141_1); (try rw [Addr.add_zero'] at hx141_1); (try rw [show ((0 : Int)).toNat = 0 from rfl] at hx141_2); (try rw [show 0 * 3 = 0 from rfl] at hx141_2); (try rw [Addr.add_zero'] at hx141_2); replace hx141_0 := ct HB.out hx141_0; replace hx141_1 := ct HB.out hx141_1; replace hx141_2 := ct HB.out hx141_2; have HR141_2 := Aside0.mk hi141_2; have HC141_2 := Aside0.mk hl141_2; clear hi141_2 hl141_2; replace p141 := eq_true p141; replace q141 := eq_true q141) | ((with_reducible refine gate_callee (f := 51) rfl ?_); refine goesL_ (some 24) rfl rfl Try.func51 (by kernel_rfl) rfl #[.agg #[.string ((rd_T52 l0_2 0).f0), .string ((rd_T52 l0_2 0).f1), .slice A141_2 ((rd_T52 l0_2 0).f2).length c141_2]] rfl (by (try simp only [List.map_toArray, List.map_cons, List.map_nil]); first | rfl) ?_; (with_reducible refine (ih k (by omega) ((rd_T52 l0_2 0).f0) ((rd_T52 l0_2 0).f1) _ _ ((rd_T52 l0_2 0).f2) t142 _ ?side1 ?side2 A14.out).mono ?_); (case side1 => repeat (first | exact (Kd.C_below HR141_2.out HB.out))); (case side2 => exact HC141_2.out); rintro e w19 ⟨rfl, hb⟩; refine ⟨_, rfl, ?_⟩; have n0_ := Aside0.mk (blk_below (g := gb139) (o := .cells #[.string a0_0, .string a0_1, .slice (some ad141) l0_2.length c0_2] 52 (0, 0)) BK139.out hb); have n1_ := Aside0.mk (below_step HB.out hb); clear BK139; clear HB; have BK139 := n0_; have HB := n1_; clear n0_ n1_; (try clear hb)))
   go_ret
   exact ⟨by first | rfl, by exact HB.out⟩
 rw [if_neg c12] at H
 have c12b0 := beq_eq_false_iff_ne.mpr c12
 have c12b1 := bne_iff_ne.mpr c12
 by_cases c20 : a0_0.toList = ([111, 112, 116] : List UInt8)
 · rw [if_pos c20] at H
   have c20b0 := beq_iff_eq.mpr c20
   have c20b1 := bne_eq_false_iff_eq.mpr c20
   clear c20
   obtain ⟨c21, H⟩ := gd H
   have c21b0 := decide_eq_true c21
   have c21b1 : decide (0 < l0_2.length) = true := decide_eq_true (by omega)
   clear c21
   replace H := Option.bind_eq_some_iff.mp H
   obtain ⟨t144, A220, H⟩ := H
   have A22 := Aside0.mk A220
   clear A220
   obtain ⟨c23, H⟩ := gd H
   have c23b0 := eq_true c23
   have c23b1 := decide_eq_true c23
   try have c23b2 : (9223372036854775807 < 2 + t144.size) = False := eq_false (Nat.not_lt.2 c23)
   obtain ⟨c24, H⟩ := gd H
   have c24b0 := eq_true c24
   have c24b1 := decide_eq_true c24
   try have c24b2 : (9223372036854775807 < ((⟨#[40, 32]⟩ : ByteArray) ++ t144).size + 4) = False := eq_false (Nat.not_lt.2 c24)
   try have c24b3 : (9223372036854775807 < 2 + t144.size + 4) = False := eq_false (Nat.not_lt.2 (by have h_ := c24; simp only [ByteArray.size_append] at h_; exact h_))
   obtain rfl := Option.some.inj H
   go_enter Try.func51, Try.ntmps51
   go_wp2_with (first | ((with_reducible refine gate_dst (N := 1) rfl ?_); refine box_event ?hg (N := 1) ?hd (cs := #[.string a0_0, .string a0_1, .slice A0_2 l0_2.length c0_2]) (t := 52) ?hr ?_; (case hd => rfl); (case hg => rfl); (case hr => (go_simp; done)); intro gb139 hg w25 hbox hb; have n0_ := Aside0.mk (below_step HB.out hb); have n1_ := Aside0.mk (hbox); have n2_ := Aside0.mk ((by rw [hg]; exact (below_size HB.out) : w.heap.size ≤ gb139)); have n3_ := Aside0.mk ((by rw [hg]; exact (below_size HB.out) : w.heap.size ≤ gb139)); clear HB; have HB := n0_; have BK139 := n1_; have GW139 := n2_; have GE139 := n3_; clear n0_ n1_ n2_ n3_; clear hb hbox hg; have hcz26_0 : w25.cell? ⟨gb139, 0, none⟩ = some (.string a0_0) := (blk_cell BK139.out 0).trans rfl; have hcz26_1 : w25.cell? ⟨gb139, 1, none⟩ = some (.string a0_1) := (blk_cell BK139.out 1).trans rfl; have hcz26_2 : w25.cell? ⟨gb139, 2, none⟩ = some (.slice A0_2 l0_2.length c0_2) := (blk_cell BK139.out 2).trans rfl; have hfz26_0 := blk_frozen BK139.out 0; have hfz26_1 := blk_frozen BK139.out 1; have hfz26_2 := blk_frozen BK139.out 2; have p143 : 0 ≤ (0 : Int) := (by omega); have q143 : 0 < (l0_2.length : Int) := of_decide_eq_true (by assumption); obtain ⟨ad143, A143_2, c143_2, e143, hx143_0, hx143_1, hx143_2, hl143_2, hi143_2⟩ := at_T52 HR0_2.out 0 p143 q143; cases e143; have qi143 : (0 < l0_2.length) = True := eq_true (by omega); (try rw [show ((0 : Int)).toNat = 0 from rfl] at hx143_0); (try rw [show 0 * 3 = 0 from rfl] at hx143_0); (try rw [Addr.add_zero'] at hx143_0); (try rw [show ((0 : Int)).toNat = 0 from rfl] at hx143_1); (try rw [show 0 * 3 = 0 from rfl] at hx143_1); (try rw [Addr.add_zero'] at hx143_1); (try rw [show ((0 : Int)).toNat = 0 from rfl] at hx143_2); (try rw [show 0 * 3 = 0 from rfl] at hx143_2); (try rw [Addr.add_zero'] at hx143_2); replace hx143_0 := ct HB.out hx143_0; replace hx143_1 := ct HB.out hx143_1; replace hx143_2 := ct HB.out hx143_2; have HR143_2 := Aside0.mk hi143_2; have HC143_2 := Aside0.mk hl143_2; clear hi143_2 hl143_2; replace p143 := eq_true p143; replace q143 := eq_true q143) | ((with_reducible refine gate_callee (f := 51) rfl ?_); refine goesL_ (some 33) rfl rfl Try.func51 (by kernel_rfl) rfl #[.agg #[.string ((rd_T52 l0_2 0).f0), .string ((rd_T52 l0_2 0).f1), .slice A143_2 ((rd_T52 l0_2 0).f2).length c143_2]] rfl (by (try simp only [List.map_toArray, List.map_cons, List.map_nil]); first | rfl) ?_; (with_reducible refine (ih k (by omega) ((rd_T52 l0_2 0).f0) ((rd_T52 l0_2 0).f1) _ _ ((rd_T52 l0_2 0).f2) t144 _ ?side1 ?side2 A22.out).mono ?_); (case side1 => repeat (first | exact (Kd.C_below HR143_2.out HB.out))); (case side2 => exact HC143_2.out); rintro e w27 ⟨rfl, hb⟩; refine ⟨_, rfl, ?_⟩; have n0_ := Aside0.mk (blk_below (g := gb139) (o := .cells #[.string a0_0, .string a0_1, .slice (some ad143) l0_2.length c0_2] 52 (0, 0)) BK139.out hb); have n1_ := Aside0.mk (below_step HB.out hb); clear BK139; clear HB; have BK139 := n0_; have HB := n1_; clear n0_ n1_; (try clear hb)))
   go_ret
   exact ⟨by first | rfl, by exact HB.out⟩
 rw [if_neg c20] at H
 have c20b0 := beq_eq_false_iff_ne.mpr c20
 have c20b1 := bne_iff_ne.mpr c20
 by_cases c28 : a0_0.toList = ([110, 111, 116] : List UInt8)
 · rw [if_pos c28] at H
   have c28b0 := beq_iff_eq.mpr c28
   have c28b1 := bne_eq_false_iff_eq.mpr c28
   clear c28
   obtain ⟨c29, H⟩ := gd H
   have c29b0 := decide_eq_true c29
   have c29b1 : decide (0 < l0_2.length) = true := decide_eq_true (by omega)
   clear c29
   replace H := Option.bind_eq_some_iff.mp H
   obtain ⟨t146, A300, H⟩ := H
   have A30 := Aside0.mk A300
   clear A300
   obtain ⟨c31, H⟩ := gd H
   have c31b0 := eq_true c31
   have c31b1 := decide_eq_true c31
   try have c31b2 : (9223372036854775807 < 4 + t146.size) = False := eq_false (Nat.not_lt.2 c31)
   obtain ⟨c32, H⟩ := gd H
   have c32b0 := eq_true c32
   have c32b1 := decide_eq_true c32
   try have c32b2 : (9223372036854775807 < ((⟨#[40, 32, 33, 32]⟩ : ByteArray) ++ t146).size + 2) = False := eq_false (Nat.not_lt.2 c32)
   try have c32b3 : (9223372036854775807 < 4 + t146.size + 2) = False := eq_false (Nat.not_lt.2 (by have h_ := c32; simp only [ByteArray.size_append] at h_; exact h_))
   obtain rfl := Option.some.inj H
   go_enter Try.func51, Try.ntmps51
   go_wp2_with (first | ((with_reducible refine gate_dst (N := 1) rfl ?_); refine box_event ?hg (N := 1) ?hd (cs := #[.string a0_0, .string a0_1, .slice A0_2 l0_2.length c0_2]) (t := 52) ?hr ?_; (case hd => rfl); (case hg => rfl); (case hr => (go_simp; done)); intro gb139 hg w33 hbox hb; have n0_ := Aside0.mk (below_step HB.out hb); have n1_ := Aside0.mk (hbox); have n2_ := Aside0.mk ((by rw [hg]; exact (below_size HB.out) : w.heap.size ≤ gb139)); have n3_ := Aside0.mk ((by rw [hg]; exact (below_size HB.out) : w.heap.size ≤ gb139)); clear HB; have HB := n0_; have BK139 := n1_; have GW139 := n2_; have GE139 := n3_; clear n0_ n1_ n2_ n3_; clear hb hbox hg; have hcz34_0 : w33.cell? ⟨gb139, 0, none⟩ = some (.string a0_0) := (blk_cell BK139.out 0).trans rfl; have hcz34_1 : w33.cell? ⟨gb139, 1, none⟩ = some (.string a0_1) := (blk_cell BK139.out 1).trans rfl; have hcz34_2 : w33.cell? ⟨gb139, 2, none⟩ = some (.slice A0_2 l0_2.length c0_2) := (blk_cell BK139.out 2).trans rfl; have hfz34_0 := blk_frozen BK139.out 0; have hfz34_1 := blk_frozen BK139.out 1; have hfz34_2 := blk_frozen BK139.out 2; have p145 : 0 ≤ (0 : Int) := (by omega); have q145 : 0 < (l0_2.length : Int) := of_decide_eq_true (by assumption); obtain ⟨ad145, A145_2, c145_2, e145, hx145_0, hx145_1, hx145_2, hl145_2, hi145_2⟩ := at_T52 HR0_2.out 0 p145 q145; cases e145; have qi145 : (0 < l0_2.length) = True := eq_true (by omega); (try rw [show ((0 : Int)).toNat = 0 from rfl] at hx145_0); (try rw [show 0 * 3 = 0 from rfl] at hx145_0); (try rw [Addr.add_zero'] at hx145_0); (try rw [show ((0 : Int)).toNat = 0 from rfl] at hx145_1); (try rw [show 0 * 3 = 0 from rfl] at hx145_1); (try rw [Addr.add_zero'] at hx145_1); (try rw [show ((0 : Int)).toNat = 0 from rfl] at hx145_2); (try rw [show 0 * 3 = 0 from rfl] at hx145_2); (try rw [Addr.add_zero'] at hx145_2); replace hx145_0 := ct HB.out hx145_0; replace hx145_1 := ct HB.out hx145_1; replace hx145_2 := ct HB.out hx145_2; have HR145_2 := Aside0.mk hi145_2; have HC145_2 := Aside0.mk hl145_2; clear hi145_2 hl145_2; replace p145 := eq_true p145; replace q145 := eq_true q145) | ((with_reducible refine gate_callee (f := 51) rfl ?_); refine goesL_ (some 42) rfl rfl Try.func51 (by kernel_rfl) rfl #[.agg #[.string ((rd_T52 l0_2 0).f0), .string ((rd_T52 l0_2 0).f1), .slice A145_2 ((rd_T52 l0_2 0).f2).length c145_2]] rfl (by (try simp only [List.map_toArray, List.map_cons, List.map_nil]); first | rfl) ?_; (with_reducible refine (ih k (by omega) ((rd_T52 l0_2 0).f0) ((rd_T52 l0_2 0).f1) _ _ ((rd_T52 l0_2 0).f2) t146 _ ?side1 ?side2 A30.out).mono ?_); (case side1 => repeat (first | exact (Kd.C_below HR145_2.out HB.out))); (case side2 => exact HC145_2.out); rintro e w35 ⟨rfl, hb⟩; refine ⟨_, rfl, ?_⟩; have n0_ := Aside0.mk (blk_below (g := gb139) (o := .cells #[.string a0_0, .string a0_1, .slice (some ad145) l0_2.length c0_2] 52 (0, 0)) BK139.out hb); have n1_ := Aside0.mk (below_step HB.out hb); clear BK139; clear HB; have BK139 := n0_; have HB := n1_; clear n0_ n1_; (try clear hb)))
   go_ret
   exact ⟨by first | rfl, by exact HB.out⟩
 rw [if_neg c28] at H
 have c28b0 := beq_eq_false_iff_ne.mpr c28
 have c28b1 := bne_iff_ne.mpr c28
 by_cases c36 : a0_0.toList = ([110, 111, 116, 104, 105, 110, 103] : List UInt8)
 · rw [if_pos c36] at H
   have c36b0 := beq_iff_eq.mpr c36
   have c36b1 := bne_eq_false_iff_eq.mpr c36
   clear c36
   obtain rfl := Option.some.inj H
   go_enter Try.func51, Try.ntmps51
   go_wp2_with (((with_reducible refine gate_dst (N := 1) rfl ?_); refine box_event ?hg (N := 1) ?hd (cs := #[.string a0_0, .string a0_1, .slice A0_2 l0_2.length c0_2]) (t := 52) ?hr ?_; (case hd => rfl); (case hg => rfl); (case hr => (go_simp; done)); intro gb139 hg w37 hbox hb; have n0_ := Aside0.mk (below_step HB.out hb); have n1_ := Aside0.mk (hbox); have n2_ := Aside0.mk ((by rw [hg]; exact (below_size HB.out) : w.heap.size ≤ gb139)); have n3_ := Aside0.mk ((by rw [hg]; exact (below_size HB.out) : w.heap.size ≤ gb139)); clear HB; have HB := n0_; have BK139 := n1_; have GW139 := n2_; have GE139 := n3_; clear n0_ n1_ n2_ n3_; clear hb hbox hg; have hcz38_0 : w37.cell? ⟨gb139, 0, none⟩ = some (.string a0_0) := (blk_cell BK139.out 0).trans rfl; have hcz38_1 : w37.cell? ⟨gb139, 1, none⟩ = some (.string a0_1) := (blk_cell BK139.out 1).trans rfl; have hcz38_2 : w37.cell? ⟨gb139, 2, none⟩ = some (.slice A0_2 l0_2.length c0_2) := (blk_cell BK139.out 2).trans rfl; have hfz38_0 := blk_frozen BK139.out 0; have hfz38_1 := blk_frozen BK139.out 1; have hfz38_2 := blk_frozen BK139.out 2))
   go_ret
   exact ⟨by first | rfl, by exact HB.out⟩
 rw [if_neg c36] at H
 have c36b0 := beq_eq_false_iff_ne.mpr c36
 have c36b1 := bne_iff_ne.mpr c36
 have H' := Aside0.mk H
 clear H
 go_enter Try.func51, Try.ntmps51
 go_wp2_with (((with_reducible refine gate_dst (N := 1) rfl ?_); refine box_event ?hg (N := 1) ?hd (cs := #[.string a0_0, .string a0_1, .slice A0_2 l0_2.length c0_2]) (t := 52) ?hr ?_; (case hd => rfl); (case hg => rfl); (case hr => (go_simp; done)); intro gb139 hg w39 hbox hb; have n0_ := Aside0.mk (below_step HB.out hb); have n1_ := Aside0.mk (hbox); have n2_ := Aside0.mk ((by rw [hg]; exact (below_size HB.out) : w.heap.size ≤ gb139)); have n3_ := Aside0.mk ((by rw [hg]; exact (below_size HB.out) : w.heap.size ≤ gb139)); clear HB; have HB := n0_; have BK139 := n1_; have GW139 := n2_; have GE139 := n3_; clear n0_ n1_ n2_ n3_; clear hb hbox hg; have hcz40_0 : w39.cell? ⟨gb139, 0, none⟩ = some (.string a0_0) := (blk_cell BK139.out 0).trans rfl; have hcz40_1 : w39.cell? ⟨gb139, 1, none⟩ = some (.string a0_1) := (blk_cell BK139.out 1).trans rfl; have hcz40_2 : w39.cell? ⟨gb139, 2, none⟩ = some (.slice A0_2 l0_2.length c0_2) := (blk_cell BK139.out 2).trans rfl; have hfz40_0 := blk_frozen BK139.out 0; have hfz40_1 := blk_frozen BK139.out 1; have hfz40_2 := blk_frozen BK139.out 2))
 go_loopg [3, 4] k (fun kq v3 v4 w' => ∃ (x3_1 : ByteArray) (x4_1 : Int), v3 = .string x3_1 ∧ v4 = .int .i64 x4_1 ∧ Aside0 (manystrandref24_text.l0 kq x3_1 x4_1 a0_0 a0_1 l0_2 = some r) ∧ Aside0 (kq ≤ k) ∧ Aside0 (w'.heap[gb139]? = some (.cells #[.string a0_0, .string a0_1, (.slice A0_2 l0_2.length c0_2)] 52 (0, 0))) ∧ Aside0 (Below w.heap.size w w'))
 case atStart => exact ⟨((⟨#[40]⟩ : ByteArray)), (0), rfl, rfl, H', ⟨Nat.le_refl _⟩, ⟨BK139.out⟩, ⟨by exact HB.out⟩⟩
 case round =>
  clear H'
  clear c2 c2b0 c2b1 c6 c6b0 c6b1 c9 c9b0 c9b1 c12 c12b0 c12b1 c20 c20b0 c20b1 c28 c28b0 c28b1 c36 c36b0 c36b1 hcz40_0 hcz40_1 hcz40_2 hfz40_0 hfz40_1 hfz40_2
  obtain ⟨x3_1, x4_1, rfl, rfl, HA, HK1, BK139, HB⟩ := hrel
  cases gk with
  | zero => exact absurd HA.out (by simp [manystrandref24_text.l0])
  | succ k1 =>
   have H := HA.out
   clear HA
   simp only [manystrandref24_text.l0] at H
   by_cases c41 : x4_1 < (l0_2.length : Int)
   rotate_left
   · rw [if_neg c41] at H
     have c41b0 := decide_eq_false c41
     clear c41
     obtain ⟨c56, H⟩ := gd H
     have c56b0 := eq_true c56
     have c56b1 := decide_eq_true c56
     try have c56b2 : (9223372036854775807 < x3_1.size + 2) = False := eq_false (Nat.not_lt.2 c56)
     obtain rfl := Option.some.inj H
     have hcz57_0 : wr.cell? ⟨gb139, 0, none⟩ = some (.string a0_0) := (blk_cell BK139.out 0).trans rfl
     have hcz57_1 : wr.cell? ⟨gb139, 1, none⟩ = some (.string a0_1) := (blk_cell BK139.out 1).trans rfl
     have hcz57_2 : wr.cell? ⟨gb139, 2, none⟩ = some (.slice A0_2 l0_2.length c0_2) := (blk_cell BK139.out 2).trans rfl
     have hfz57_0 := blk_frozen BK139.out 0
     have hfz57_1 := blk_frozen BK139.out 1
     have hfz57_2 := blk_frozen BK139.out 2
     go_wp2
     go_ret
     exact ⟨by first | rfl, by exact HB.out⟩
   rw [if_pos c41] at H
   have c41b0 := decide_eq_true c41
   clear c41
   by_cases c42 : a0_0.toList = ([111, 114] : List UInt8)
   rotate_left
   · rw [if_neg c42] at H
     have c42b0 := beq_eq_false_iff_ne.mpr c42
     have c42b1 := bne_iff_ne.mpr c42
     obtain ⟨c50, H⟩ := gd H
     have c50b0 := decide_eq_true c50
     clear c50
     replace H := Option.bind_eq_some_iff.mp H
     obtain ⟨t150, A510, H⟩ := H
     have A51 := Aside0.mk A510
     clear A510
     obtain ⟨c52, H⟩ := gd H
     have c52b0 := eq_true c52
     have c52b1 := decide_eq_true c52
     try have c52b2 : (9223372036854775807 < 1 + t150.size) = False := eq_false (Nat.not_lt.2 c52)
     obtain ⟨c53, H⟩ := gd H
     have c53b0 := eq_true c53
     have c53b1 := decide_eq_true c53
     try have c53b2 : (9223372036854775807 < x3_1.size + ((⟨#[32]⟩ : ByteArray) ++ t150).size) = False := eq_false (Nat.not_lt.2 c53)
     try have c53b3 : (9223372036854775807 < x3_1.size + (1 + t150.size)) = False := eq_false (Nat.not_lt.2 (by have h_ := c53; simp only [ByteArray.size_append] at h_; exact h_))
     have H' := Aside0.mk H
     clear H
     have hcz54_0 : wr.cell? ⟨gb139, 0, none⟩ = some (.string a0_0) := (blk_cell BK139.out 0).trans rfl
     have hcz54_1 : wr.cell? ⟨gb139, 1, none⟩ = some (.string a0_1) := (blk_cell BK139.out 1).trans rfl
     have hcz54_2 : wr.cell? ⟨gb139, 2, none⟩ = some (.slice A0_2 l0_2.length c0_2) := (blk_cell BK139.out 2).trans rfl
     have hfz54_0 := blk_frozen BK139.out 0
     have hfz54_1 := blk_frozen BK139.out 1
     have hfz54_2 := blk_frozen BK139.out 2
     have p149 : 0 ≤ (x4_1 : Int) := of_decide_eq_true (by assumption)
     have q149 : x4_1 < (l0_2.length : Int) := of_decide_eq_true (by assumption)
     obtain ⟨ad149, A149_2, c149_2, e149, hx149_0, hx149_1, hx149_2, hl149_2, hi149_2⟩ := at_T52 HR0_2.out x4_1 p149 q149
     cases e149
     replace hx149_0 := ct HB.out hx149_0
     replace hx149_1 := ct HB.out hx149_1
     replace hx149_2 := ct HB.out hx149_2
     have HR149_2 := Aside0.mk hi149_2
     have HC149_2 := Aside0.mk hl149_2
     clear hi149_2 hl149_2
     replace p149 := eq_true p149
     replace q149 := eq_true q149
     go_wp2_with (((with_reducible refine gate_callee (f := 51) rfl ?_); refine goesL_ (some 65) rfl rfl Try.func51 (by kernel_rfl) rfl #[.agg #[.string ((rd_T52 l0_2 x4_1).f0), .string ((rd_T52 l0_2 x4_1).f1), .slice A149_2 ((rd_T52 l0_2 x4_1).f2).length c149_2]] rfl (by (try simp only [List.map_toArray, List.map_cons, List.map_nil]); first | rfl) ?_; (with_reducible refine (ih k1 (by have := HK1.out; omega) ((rd_T52 l0_2 x4_1).f0) ((rd_T52 l0_2 x4_1).f1) _ _ ((rd_T52 l0_2 x4_1).f2) t150 _ ?side1 ?side2 A51.out).mono ?_); (case side1 => repeat (first | exact (Kd.C_below HR149_2.out HB.out))); (case side2 => exact HC149_2.out); rintro e w55 ⟨rfl, hb⟩; refine ⟨_, rfl, ?_⟩; have n0_ := Aside0.mk (blk_below (g := gb139) (o := .cells #[.string a0_0, .string a0_1, .slice (some ad149) l0_2.length c0_2] 52 (0, 0)) BK139.out hb); have n1_ := Aside0.mk (below_step HB.out hb); clear BK139; clear HB; have BK139 := n0_; have HB := n1_; clear n0_ n1_; (try clear hb)))
     go_roundg k1
     case measure => have := HK1.out; omega
     case rel => exact ⟨(x3_1 ++ ((⟨#[32]⟩ : ByteArray) ++ t150)), (wrap64 (x4_1 + 1)), rfl, rfl, H', ⟨by have := HK1.out; omega⟩, ⟨BK139.out⟩, ⟨by exact HB.out⟩⟩
   rw [if_pos c42] at H
   have c42b0 := beq_iff_eq.mpr c42
   have c42b1 := bne_eq_false_iff_eq.mpr c42
   clear c42
   obtain ⟨c43, H⟩ := gd H
   have c43b0 := eq_true c43
   have c43b1 := decide_eq_true c43
   try have c43b2 : (9223372036854775807 < x3_1.size + 2) = False := eq_false (Nat.not_lt.2 c43)
   obtain ⟨c44, H⟩ := gd H
   have c44b0 := decide_eq_true c44
   clear c44
   replace H := Option.bind_eq_some_iff.mp H
   obtain ⟨t148, A450, H⟩ := H
   have A45 := Aside0.mk A450
   clear A450
   obtain ⟨c46, H⟩ := gd H
   have c46b0 := eq_true c46
   have c46b1 := decide_eq_true c46
   try have c46b2 : (9223372036854775807 < 1 + t148.size) = False := eq_false (Nat.not_lt.2 c46)
   obtain ⟨c47, H⟩ := gd H
   have c47b0 := eq_true c47
   have c47b1 := decide_eq_true c47
   try have c47b2 : (9223372036854775807 < (x3_1 ++ (⟨#[32, 47]⟩ : ByteArray)).size + ((⟨#[32]⟩ : ByteArray) ++ t148).size) = False := eq_false (Nat.not_lt.2 c47)
   try have c47b3 : (9223372036854775807 < x3_1.size + 2 + (1 + t148.size)) = False := eq_false (Nat.not_lt.2 (by have h_ := c47; simp only [ByteArray.size_append] at h_; exact h_))
   have H' := Aside0.mk H
   clear H
   have hcz48_0 : wr.cell? ⟨gb139, 0, none⟩ = some (.string a0_0) := (blk_cell BK139.out 0).trans rfl
   have hcz48_1 : wr.cell? ⟨gb139, 1, none⟩ = some (.string a0_1) := (blk_cell BK139.out 1).trans rfl
   have hcz48_2 : wr.cell? ⟨gb139, 2, none⟩ = some (.slice A0_2 l0_2.length c0_2) := (blk_cell BK139.out 2).trans rfl
   have hfz48_0 := blk_frozen BK139.out 0
   have hfz48_1 := blk_frozen BK139.out 1
   have hfz48_2 := blk_frozen BK139.out 2
   have p147 : 0 ≤ (x4_1 : Int) := of_decide_eq_true (by assumption)
   have q147 : x4_1 < (l0_2.length : Int) := of_decide_eq_true (by assumption)
   obtain ⟨ad147, A147_2, c147_2, e147, hx147_0, hx147_1, hx147_2, hl147_2, hi147_2⟩ := at_T52 HR0_2.out x4_1 p147 q147
   cases e147
   replace hx147_0 := ct HB.out hx147_0
   replace hx147_1 := ct HB.out hx147_1
   replace hx147_2 := ct HB.out hx147_2
   have HR147_2 := Aside0.mk hi147_2
   have HC147_2 := Aside0.mk hl147_2
   clear hi147_2 hl147_2
   replace p147 := eq_true p147
   replace q147 := eq_true q147
   go_wp2_with (((with_reducible refine gate_callee (f := 51) rfl ?_); refine goesL_ (some 65) rfl rfl Try.func51 (by kernel_rfl) rfl #[.agg #[.string ((rd_T52 l0_2 x4_1).f0), .string ((rd_T52 l0_2 x4_1).f1), .slice A147_2 ((rd_T52 l0_2 x4_1).f2).length c147_2]] rfl (by (try simp only [List.map_toArray, List.map_cons, List.map_nil]); first | rfl) ?_; (with_reducible refine (ih k1 (by have := HK1.out; omega) ((rd_T52 l0_2 x4_1).f0) ((rd_T52 l0_2 x4_1).f1) _ _ ((rd_T52 l0_2 x4_1).f2) t148 _ ?side1 ?side2 A45.out).mono ?_); (case side1 => repeat (first | exact (Kd.C_below HR147_2.out HB.out))); (case side2 => exact HC147_2.out); rintro e w49 ⟨rfl, hb⟩; refine ⟨_, rfl, ?_⟩; have n0_ := Aside0.mk (blk_below (g := gb139) (o := .cells #[.string a0_0, .string a0_1, .slice (some ad147) l0_2.length c0_2] 52 (0, 0)) BK139.out hb); have n1_ := Aside0.mk (below_step HB.out hb); clear BK139; clear HB; have BK139 := n0_; have HB := n1_; clear n0_ n1_; (try clear hb)))
   go_roundg k1
   case measure => have := HK1.out; omega
   case rel => exact ⟨((x3_1 ++ (⟨#[32, 47]⟩ : ByteArray)) ++ ((⟨#[32]⟩ : ByteArray) ++ t148)), (wrap64 (x4_1 + 1)), rfl, rfl, H', ⟨by have := HK1.out; omega⟩, ⟨BK139.out⟩, ⟨by exact HB.out⟩⟩
end Go.Proofs.Ytcnllhnhinmokaa.PHGr
end
section
namespace Go.Proofs.Ytcnllhnhinmokaa.PHGr
open Go.RowKit Go.Proofs.YtcnllhnhinmokaaW.PrintWords Go.Proofs.YtcnllhnhinmokaaW.PrintLast Go.Proofs.YtcnllhnhinmokaaW.PrintMore
attribute [local go_sem] max2_int min2_int max_two min_two max_three min_three max_four min_four
set_option linter.unusedVariables false
set_option linter.unusedSimpArgs false
def manystrandref24_Text.l0 : Nat → ByteArray → Int → List (S54) → Option (ByteArray × Int)
 | 0, _, _, _ => none
 | k + 1, x4, x5, x152000 => if x5 < (x152000.length : Int) then (if 0 ≤ x5 then (if ((rd_T54 x152000 x5).f0).size + 3 ≤ 9223372036854775807 then ((manystrandref24_text.f k ((rd_T54 x152000 x5).f1.f0) ((rd_T54 x152000 x5).f1.f1) ((rd_T54 x152000 x5).f1.f2)).bind fun t155 => (if (((rd_T54 x152000 x5).f0) ++ (⟨#[32, 61, 32]⟩ : ByteArray)).size + t155.size ≤ 9223372036854775807 then (if ((((rd_T54 x152000 x5).f0) ++ (⟨#[32, 61, 32]⟩ : ByteArray)) ++ t155).size + 3 ≤ 9223372036854775807 then (if x4.size + (((((rd_T54 x152000 x5).f0) ++ (⟨#[32, 61, 32]⟩ : ByteArray)) ++ t155) ++ (⟨#[32, 59, 10]⟩ : ByteArray)).size ≤ 9223372036854775807 then (manystrandref24_Text.l0 k (x4 ++ (((((rd_T54 x152000 x5).f0) ++ (⟨#[32, 61, 32]⟩ : ByteArray)) ++ t155) ++ (⟨#[32, 59, 10]⟩ : ByteArray))) (wrap64 (x5 + 1)) x152000) else (none)) else (none)) else (none))) else (none)) else (none)) else (some (x4, 0))
def manystrandref24_Text.f (k : Nat) (l0_0 : List (S54)) : Option (ByteArray × Int) := (manystrandref24_Right.f k l0_0).bind fun t152 => (if t152 = true then (manystrandref24_Text.l0 k (⟨#[]⟩ : ByteArray) 0 l0_0) else (some ((⟨#[]⟩ : ByteArray), 240)))
def manystrandref24_Text.T7 : Bool × List (List Nat × List Nat) := (true, [([], []), ([], []), ([1], [1]), ([], []), ([2, 3], [2, 3]), ([4], [4]), ([5], [5]), ([6], [6]), ([], []), ([8], [8]), ([], []), ([9, 10], [9, 10]), ([11], [11]), ([12], [12]), ([13], [13]), ([7, 14], [7, 14]), ([15], [15]), ([0, 16], [0, 16]), ([17, 14, 0, 1, 2, 3, 4, 5, 6, 7, 8, 9, 10, 11, 12, 13, 14, 15, 16, 17], [0, 17])])
def manystrandref24_Text.B7 : List Nat := [0, 0, 2, 0, 14, 30, 62, 126, 0, 256, 0, 1792, 3840, 7936, 16128, 32766, 65534, 131071, 262143]
theorem manystrandref24_Text.tab7 : rtab .any (opsOf Try.f26 7) = manystrandref24_Text.T7 := by kernel_rfl
theorem manystrandref24_Text.bits7 : waitsOk manystrandref24_Text.T7.2 manystrandref24_Text.B7 = true := by kernel_rfl
set_option maxHeartbeats 8000000 in
set_option maxRecDepth 100000 in
theorem manystrandref24_Text.calls (k : Nat) (A0_0 : Option Addr) (c0_0 : Nat) (l0_0 : List (S54)) (r1 : ByteArray) (r2 : Int) (w : World) (hr0_0 : Kd.C k54 w A0_0 l0_0.length l0_0) (hc0_0 : l0_0.length ≤ c0_0) (h : manystrandref24_Text.f k l0_0 = some (r1, r2)) :
 Calls Try.prog 26 #[.agg #[.slice A0_0 l0_0.length c0_0]] w fun e w' => e = .returned (.tuple #[.string r1, .int .i64 r2]) ∧ Below w.heap.size w w' := by
 have hu24 := Try.underlying24
 have hu52 := Try.underlying52
 have HR0_0 := Aside0.mk hr0_0
 have HC0_0 := Aside0.mk hc0_0
 clear hr0_0 hc0_0
 have HB := Aside0.mk (Below.refl w.heap.size w)
 have H : ((manystrandref24_Right.f k l0_0).bind fun t152 => (if t152 = true then (manystrandref24_Text.l0 k (⟨#[]⟩ : ByteArray) 0 l0_0) else (some ((⟨#[]⟩ : ByteArray), 240)))) = some (r1, r2) := h
 clear h
 replace H := Option.bind_eq_some_iff.mp H
 obtain ⟨t152, A20, H⟩ := H
 have A2 := Aside0.mk A20
 clear A20
 by_cases c3 : t152 = true
 rotate_left
 · replace c3 := Bool.eq_false_iff.mpr c3
   subst c3
   rw [if_neg (show ¬ (false = true) by decide)] at H
   simp only [Option.some.injEq, Prod.mk.injEq] at H
   obtain ⟨rfl, rfl⟩ := H
   go_enter Try.func26, Try.ntmps26
   go_wp2_with (first | ((with_reducible refine gate_dst (N := 1) rfl ?_); refine box_event ?hg (N := 1) ?hd (cs := #[.slice A0_0 l0_0.length c0_0]) (t := 24) ?hr ?_; (case hd => rfl); (case hg => rfl); (case hr => (go_simp; done)); intro gb151 hg w18 hbox hb; have n0_ := Aside0.mk (below_step HB.out hb); have n1_ := Aside0.mk (hbox); have n2_ := Aside0.mk ((by rw [hg]; exact (below_size HB.out) : w.heap.size ≤ gb151)); have n3_ := Aside0.mk ((by rw [hg]; exact (below_size HB.out) : w.heap.size ≤ gb151)); clear HB; have HB := n0_; have BK151 := n1_; have GW151 := n2_; have GE151 := n3_; clear n0_ n1_ n2_ n3_; clear hb hbox hg; have hcz19_0 : w18.cell? ⟨gb151, 0, none⟩ = some (.slice A0_0 l0_0.length c0_0) := (blk_cell BK151.out 0).trans rfl; have hfz19_0 := blk_frozen BK151.out 0) | ((with_reducible refine gate_callee (f := 35) rfl ?_); refine goesL_ (some 7) rfl rfl Try.func35 (by kernel_rfl) rfl #[.agg #[.slice A0_0 l0_0.length c0_0]] rfl (by (try simp only [List.map_toArray, List.map_cons, List.map_nil]); first | rfl) ?_; (with_reducible refine (manystrandref24_Right.calls k _ _ l0_0 false _ ?side1 ?side2 A2.out).mono ?_); (case side1 => repeat (first | exact (Kd.C_below HR0_0.out HB.out))); (case side2 => exact HC0_0.out); rintro e w20 ⟨rfl, hb⟩; refine ⟨_, rfl, ?_⟩; have n0_ := Aside0.mk (blk_below (g := gb151) (o := .cells #[.slice A0_0 l0_0.length c0_0] 24 (0, 0)) BK151.out hb); have n1_ := Aside0.mk (below_step HB.out hb); clear BK151; clear HB; have BK151 := n0_; have HB := n1_; clear n0_ n1_; (try clear hb)))
   go_ret2
   exact ⟨by first | rfl, by exact HB.out⟩
 subst c3
 rw [if_pos rfl] at H
 have H' := Aside0.mk H
 clear H
 go_enter Try.func26, Try.ntmps26
 go_wp2_with (first | ((with_reducible refine gate_dst (N := 1) rfl ?_); refine box_event ?hg (N := 1) ?hd (cs := #[.slice A0_0 l0_0.length c0_0]) (t := 24) ?hr ?_; (case hd => rfl); (case hg => rfl); (case hr => (go_simp; done)); intro gb151 hg w4 hbox hb; have n0_ := Aside0.mk (below_step HB.out hb); have n1_ := Aside0.mk (hbox); have n2_ := Aside0.mk ((by rw [hg]; exact (below_size HB.out) : w.heap.size ≤ gb151)); have n3_ := Aside0.mk ((by rw [hg]; exact (below_size HB.out) : w.heap.size ≤ gb151)); clear HB; have HB := n0_; have BK151 := n1_; have GW151 := n2_; have GE151 := n3_; clear n0_ n1_ n2_ n3_; clear hb hbox hg; have hcz5_0 : w4.cell? ⟨gb151, 0, none⟩ = some (.slice A0_0 l0_0.length c0_0) := (blk_cell BK151.out 0).trans rfl; have hfz5_0 := blk_frozen BK151.out 0) | ((with_reducible refine gate_callee (f := 35) rfl ?_); refine goesL_ (some 7) rfl rfl Try.func35 (by kernel_rfl) rfl #[.agg #[.slice A0_0 l0_0.length c0_0]] rfl (by (try simp only [List.map_toArray, List.map_cons, List.map_nil]); first | rfl) ?_; (with_reducible refine (manystrandref24_Right.calls k _ _ l0_0 true _ ?side1 ?side2 A2.out).mono ?_); (case side1 => repeat (first | exact (Kd.C_below HR0_0.out HB.out))); (case side2 => exact HC0_0.out); rintro e w6 ⟨rfl, hb⟩; refine ⟨_, rfl, ?_⟩; have n0_ := Aside0.mk (blk_below (g := gb151) (o := .cells #[.slice A0_0 l0_0.length c0_0] 24 (0, 0)) BK151.out hb); have n1_ := Aside0.mk (below_step HB.out hb); clear BK151; clear HB; have BK151 := n0_; have HB := n1_; clear n0_ n1_; (try clear hb)))
 go_loopg [4, 5] k (fun kq v4 v5 w' => ∃ (x4_1 : ByteArray) (x5_1 : Int), v4 = .string x4_1 ∧ v5 = .int .i64 x5_1 ∧ Aside0 (manystrandref24_Text.l0 kq x4_1 x5_1 l0_0 = some (r1, r2)) ∧ Aside0 (kq ≤ k) ∧ Aside0 (w'.heap[gb151]? = some (.cells #[(.slice A0_0 l0_0.length c0_0)] 24 (0, 0))) ∧ Aside0 (Below w.heap.size w w'))
 case atStart => exact ⟨((⟨#[]⟩ : ByteArray)), (0), rfl, rfl, H', ⟨Nat.le_refl _⟩, ⟨BK151.out⟩, ⟨by exact HB.out⟩⟩
 case round =>
  clear H'
  clear hcz5_0 hfz5_0
  obtain ⟨x4_1, x5_1, rfl, rfl, HA, HK1, BK151, HB⟩ := hrel
  cases gk with
  | zero => exact absurd HA.out (by simp [manystrandref24_Text.l0])
  | succ k1 =>
   have H := HA.out
   clear HA
   simp only [manystrandref24_Text.l0] at H
   by_cases c7 : x5_1 < (l0_0.length : Int)
   rotate_left
   · rw [if_neg c7] at H
     have c7b0 := decide_eq_false c7
     clear c7
     simp only [Option.some.injEq, Prod.mk.injEq] at H
     obtain ⟨rfl, rfl⟩ := H
     have hcz17_0 : wr.cell? ⟨gb151, 0, none⟩ = some (.slice A0_0 l0_0.length c0_0) := (blk_cell BK151.out 0).trans rfl
     have hfz17_0 := blk_frozen BK151.out 0
     go_wp2
     go_ret2
     exact ⟨by first | rfl, by exact HB.out⟩
   rw [if_pos c7] at H
   have c7b0 := decide_eq_true c7
   clear c7
   obtain ⟨c8, H⟩ := gd H
   have c8b0 := decide_eq_true c8
   clear c8
   obtain ⟨c9, H⟩ := gd H
   have c9b0 := eq_true c9
   have c9b1 := decide_eq_true c9
   try have c9b2 : (9223372036854775807 < ((rd_T54 l0_0 x5_1).f0).size + 3) = False := eq_false (Nat.not_lt.2 c9)
   replace H := Option.bind_eq_some_iff.mp H
   obtain ⟨t155, A100, H⟩ := H
   have A10 := Aside0.mk A100
   clear A100
   obtain ⟨c11, H⟩ := gd H
   have c11b0 := eq_true c11
   have c11b1 := decide_eq_true c11
   try have c11b2 : (9223372036854775807 < (((rd_T54 l0_0 x5_1).f0) ++ (⟨#[32, 61, 32]⟩ : ByteArray)).size + t155.size) = False := eq_false (Nat.not_lt.2 c11)
   try have c11b3 : (9223372036854775807 < ((rd_T54 l0_0 x5_1).f0).size + 3 + t155.size) = False := eq_false (Nat.not_lt.2 (by have h_ := c11; simp only [ByteArray.size_append] at h_; exact h_))
   obtain ⟨c12, H⟩ := gd H
   have c12b0 := eq_true c12
   have c12b1 := decide_eq_true c12
   try have c12b2 : (9223372036854775807 < ((((rd_T54 l0_0 x5_1).f0) ++ (⟨#[32, 61, 32]⟩ : ByteArray)) ++ t155).size + 3) = False := eq_false (Nat.not_lt.2 c12)
   try have c12b3 : (9223372036854775807 < ((rd_T54 l0_0 x5_1).f0).size + 3 + t155.size + 3) = False := eq_false (Nat.not_lt.2 (by have h_ := c12; simp only [ByteArray.size_append] at h_; exact h_))
   obtain ⟨c13, H⟩ := gd H
   have c13b0 := eq_true c13
   have c13b1 := decide_eq_true c13
   try have c13b2 : (9223372036854775807 < x4_1.size + (((((rd_T54 l0_0 x5_1).f0) ++ (⟨#[32, 61, 32]⟩ : ByteArray)) ++ t155) ++ (⟨#[32, 59, 10]⟩ : ByteArray)).size) = False := eq_false (Nat.not_lt.2 c13)
   try have c13b3 : (9223372036854775807 < x4_1.size + (((rd_T54 l0_0 x5_1).f0).size + 3 + t155.size + 3)) = False := eq_false (Nat.not_lt.2 (by have h_ := c13; simp only [ByteArray.size_append] at h_; exact h_))
   have H' := Aside0.mk H
   clear H
   have hcz14_0 : wr.cell? ⟨gb151, 0, none⟩ = some (.slice A0_0 l0_0.length c0_0) := (blk_cell BK151.out 0).trans rfl
   have hfz14_0 := blk_frozen BK151.out 0
   try go_wp2
   have n0_ := Aside0.mk (blk_drew BK151.out)
   have n1_ := Aside0.mk (below_drew1 HB.out)
   clear BK151
   clear HB
   have BK151 := n0_
   have HB := n1_
   clear n0_ n1_
   have p153 : 0 ≤ (x5_1 : Int) := of_decide_eq_true (by assumption)
   have q153 : x5_1 < (l0_0.length : Int) := of_decide_eq_true (by assumption)
   obtain ⟨ad153, A153_3, c153_3, e153, hx153_0, hx153_1, hx153_2, hx153_3, hl153_3, hi153_3⟩ := at_T54 HR0_0.out x5_1 p153 q153
   have hw153_3 := hx153_3
   have hw153_2 := hx153_2
   have hw153_1 := hx153_1
   have hw153_0 := hx153_0
   cases e153
   replace hx153_0 := ct HB.out hx153_0
   replace hx153_1 := ct HB.out hx153_1
   replace hx153_2 := ct HB.out hx153_2
   replace hx153_3 := ct HB.out hx153_3
   have HR153_3 := Aside0.mk hi153_3
   have HC153_3 := Aside0.mk hl153_3
   clear hi153_3 hl153_3
   replace p153 := eq_true p153
   replace q153 := eq_true q153
   have p154 : 0 ≤ (x5_1 : Int) := of_decide_eq_true (by assumption)
   have q154 : x5_1 < (l0_0.length : Int) := of_decide_eq_true (by assumption)
   obtain ⟨ad154, A154_3, c154_3, e154, hx154_0, hx154_1, hx154_2, hx154_3, hl154_3, hi154_3⟩ := at_T54 HR0_0.out x5_1 p154 q154
   have hw154_3 := hx154_3
   have hw154_2 := hx154_2
   have hw154_1 := hx154_1
   have hw154_0 := hx154_0
   obtain rfl : ad153 = ad154 := (by injection e154)
   replace hx154_0 := ct HB.out hx154_0
   replace hx154_1 := ct HB.out hx154_1
   replace hx154_2 := ct HB.out hx154_2
   replace hx154_3 := ct HB.out hx154_3
   have HR154_3 := Aside0.mk hi154_3
   have HC154_3 := Aside0.mk hl154_3
   clear hi154_3 hl154_3
   replace p154 := eq_true p154
   replace q154 := eq_true q154
   have ea_ := Option.some.inj (hx153_3.symm.trans hx154_3)
   injection ea_ with ea_ en_ ec_
   subst ea_
   subst ec_
   clear en_
   refine start_ (n := 19) (S := fun w' => w'.cell? ⟨gb151, 0, none⟩ = some (.slice (some ad153) l0_0.length c0_0) ∧ w'.cell? (ad153.add ((x5_1).toNat * 4)) = some (.string ((rd_T54 l0_0 x5_1).f0)) ∧ w'.cell? ⟨(ad153.add ((x5_1).toNat * 4)).block, (ad153.add ((x5_1).toNat * 4)).off + 1, none⟩ = some (.string ((rd_T54 l0_0 x5_1).f1.f0)) ∧ w'.cell? ⟨(ad153.add ((x5_1).toNat * 4)).block, (ad153.add ((x5_1).toNat * 4)).off + 2, none⟩ = some (.string ((rd_T54 l0_0 x5_1).f1.f1)) ∧ w'.cell? ⟨(ad153.add ((x5_1).toNat * 4)).block, (ad153.add ((x5_1).toNat * 4)).off + 3, none⟩ = some (.slice A153_3 ((rd_T54 l0_0 x5_1).f1.f2).length c153_3) ∧ w'.cell? (ad153.add ((x5_1).toNat * 4)) = some (.string ((rd_T54 l0_0 x5_1).f0)) ∧ w'.cell? ⟨(ad153.add ((x5_1).toNat * 4)).block, (ad153.add ((x5_1).toNat * 4)).off + 1, none⟩ = some (.string ((rd_T54 l0_0 x5_1).f1.f0)) ∧ w'.cell? ⟨(ad153.add ((x5_1).toNat * 4)).block, (ad153.add ((x5_1).toNat * 4)).off + 2, none⟩ = some (.string ((rd_T54 l0_0 x5_1).f1.f1)) ∧ w'.cell? ⟨(ad153.add ((x5_1).toNat * 4)).block, (ad153.add ((x5_1).toNat * 4)).off + 3, none⟩ = some (.slice A153_3 ((rd_T54 l0_0 x5_1).f1.f2).length c153_3)) (ds := []) #[F,F,F,F,F,F,F,F,F,F,F,F,F,F,F,F,F,F,F] (by kernel_rfl) rfl rfl ⟨(blk_cell BK151.out 0).trans rfl, (ct HB.out hw153_0), (ct HB.out hw153_1), (ct HB.out hw153_2), (ct HB.out hw153_3), (ct HB.out hw154_0), (ct HB.out hw154_1), (ct HB.out hw154_2), (ct HB.out hw154_3)⟩ (fun hHeld => ?_); refine with_tabW manystrandref24_Text.tab7 manystrandref24_Text.bits7 (fun HT_ HW_ => ?_)
   generalize wr.drew = w15 at BK151 HB HR153_3 HR154_3 hx153_0 hx153_1 hx153_2 hx153_3 hx154_0 hx154_1 hx154_2 hx154_3 hHeld ⊢
   refine pure_ (i := 0) (N := some 16) (v := ?_) (a' := ?_) #[T,F,F,F,F,F,F,F,F,F,F,F,F,F,F,F,F,F,F] rfl rfl (any_of HT_.out (by kernel_rfl)) (fun _ _ _ h => h) (Or.inl ⟨by rfl, ?_⟩) ?_ ?_
   rotate_left
   · intro w'
     go_simp
     with_reducible rfl
   rotate_left
   · simp only [Act.put, List.setIfInBounds_toArray, List.set_cons_zero, List.set_cons_succ, i64_w, i32_w]
     rfl
   refine pure_ (i := 1) (N := some 17) (v := ?_) (a' := ?_) #[T,T,F,F,F,F,F,F,F,F,F,F,F,F,F,F,F,F,F] rfl rfl (any_of HT_.out (by kernel_rfl)) (fun _ _ _ h => h) (Or.inl ⟨by rfl, ?_⟩) ?_ ?_
   rotate_left
   · intro w'
     go_simp
     with_reducible rfl
   rotate_left
   · simp only [Act.put, List.setIfInBounds_toArray, List.set_cons_zero, List.set_cons_succ, i64_w, i32_w]
     rfl
   refine pure_ (i := 3) (N := some 19) (v := ?_) (a' := ?_) #[T,T,F,T,F,F,F,F,F,F,F,F,F,F,F,F,F,F,F] rfl rfl (any_of HT_.out (by kernel_rfl)) (fun _ _ _ h => h) (Or.inl ⟨by rfl, ?_⟩) ?_ ?_
   rotate_left
   · intro w'
     go_simp
     with_reducible rfl
   rotate_left
   · simp only [Act.put, List.setIfInBounds_toArray, List.set_cons_zero, List.set_cons_succ, i64_w, i32_w]
     rfl
   refine pure_ (i := 8) (N := some 24) (v := ?_) (a' := ?_) #[T,T,F,T,F,F,F,F,T,F,F,F,F,F,F,F,F,F,F] rfl rfl (any_of HT_.out (by kernel_rfl)) (fun _ _ _ h => h) (Or.inl ⟨by rfl, ?_⟩) ?_ ?_
   rotate_left
   · intro w'
     go_simp
     with_reducible rfl
   rotate_left
   · simp only [Act.put, List.setIfInBounds_toArray, List.set_cons_zero, List.set_cons_succ, i64_w, i32_w]
     rfl
   refine pure_ (i := 10) (N := some 26) (v := ?_) (a' := ?_) #[T,T,F,T,F,F,F,F,T,F,T,F,F,F,F,F,F,F,F] rfl rfl (any_of HT_.out (by kernel_rfl)) (fun _ _ _ h => h) (Or.inl ⟨by rfl, ?_⟩) ?_ ?_
   rotate_left
   · intro w'
     go_simp
     with_reducible rfl
   rotate_left
   · simp only [Act.put, List.setIfInBounds_toArray, List.set_cons_zero, List.set_cons_succ, i64_w, i32_w]
     rfl
   refine take_ (i := 2) (N := some 18) (v := ?_) (a' := ?_) #[T,T,T,T,F,F,F,F,T,F,T,F,F,F,F,F,F,F,F] rfl rfl (take_ofW HT_.out HW_.out (by kernel_rfl)) (fun _ _ _ h => h) (Or.inl ⟨by rfl, ?_⟩) hHeld ?_ ?_
   rotate_left
   · rintro w' ⟨s0, s1, s2, s3, s4, s5, s6, s7, s8⟩
     go_simp
     with_reducible rfl
   rotate_left
   · simp only [Act.put, List.setIfInBounds_toArray, List.set_cons_zero, List.set_cons_succ, i64_w, i32_w]
     rfl
   refine pure_ (i := 4) (N := some 20) (v := ?_) (a' := ?_) #[T,T,T,T,T,F,F,F,T,F,T,F,F,F,F,F,F,F,F] rfl rfl (any_of HT_.out (by kernel_rfl)) (fun _ _ _ h => h) (Or.inl ⟨by rfl, ?_⟩) ?_ ?_
   rotate_left
   · intro w'
     go_simp
     with_reducible rfl
   rotate_left
   · simp only [Act.put, List.setIfInBounds_toArray, List.set_cons_zero, List.set_cons_succ, i64_w, i32_w]
     rfl
   refine pure_ (i := 5) (N := some 21) (v := ?_) (a' := ?_) #[T,T,T,T,T,T,F,F,T,F,T,F,F,F,F,F,F,F,F] rfl rfl (any_of HT_.out (by kernel_rfl)) (fun _ _ _ h => h) (Or.inl ⟨by rfl, ?_⟩) ?_ ?_
   rotate_left
   · intro w'
     go_simp
     with_reducible rfl
   rotate_left
   · simp only [Act.put, List.setIfInBounds_toArray, List.set_cons_zero, List.set_cons_succ, i64_w, i32_w]
     rfl
   refine take_ (i := 6) (N := some 22) (v := ?_) (a' := ?_) #[T,T,T,T,T,T,T,F,T,F,T,F,F,F,F,F,F,F,F] rfl rfl (take_ofW HT_.out HW_.out (by kernel_rfl)) (fun _ _ _ h => h) (Or.inl ⟨by rfl, ?_⟩) hHeld ?_ ?_
   rotate_left
   · rintro w' ⟨s0, s1, s2, s3, s4, s5, s6, s7, s8⟩
     go_simp
     with_reducible rfl
   rotate_left
   · simp only [Act.put, List.setIfInBounds_toArray, List.set_cons_zero, List.set_cons_succ, i64_w, i32_w]
     rfl
   refine pure_ (i := 7) (N := some 23) (v := ?_) (a' := ?_) #[T,T,T,T,T,T,T,T,T,F,T,F,F,F,F,F,F,F,F] rfl rfl (any_of HT_.out (by kernel_rfl)) (fun _ _ _ h => h) (Or.inl ⟨by rfl, ?_⟩) ?_ ?_
   rotate_left
   · intro w'
     go_simp
     with_reducible rfl
   rotate_left
   · simp only [Act.put, List.setIfInBounds_toArray, List.set_cons_zero, List.set_cons_succ, i64_w, i32_w]
     rfl
   refine take_ (i := 9) (N := some 25) (v := ?_) (a' := ?_) #[T,T,T,T,T,T,T,T,T,T,T,F,F,F,F,F,F,F,F] rfl rfl (take_ofW HT_.out HW_.out (by kernel_rfl)) (fun _ _ _ h => h) (Or.inl ⟨by rfl, ?_⟩) hHeld ?_ ?_
   rotate_left
   · rintro w' ⟨s0, s1, s2, s3, s4, s5, s6, s7, s8⟩
     go_simp
     with_reducible rfl
   rotate_left
   · simp only [Act.put, List.setIfInBounds_toArray, List.set_cons_zero, List.set_cons_succ, i64_w, i32_w]
     rfl
   refine pure_ (i := 11) (N := some 27) (v := ?_) (a' := ?_) #[T,T,T,T,T,T,T,T,T,T,T,T,F,F,F,F,F,F,F] rfl rfl (any_of HT_.out (by kernel_rfl)) (fun _ _ _ h => h) (Or.inl ⟨by rfl, ?_⟩) ?_ ?_
   rotate_left
   · intro w'
     go_simp
     with_reducible rfl
   rotate_left
   · simp only [Act.put, List.setIfInBounds_toArray, List.set_cons_zero, List.set_cons_succ, i64_w, i32_w]
     rfl
   refine pure_ (i := 12) (N := some 28) (v := ?_) (a' := ?_) #[T,T,T,T,T,T,T,T,T,T,T,T,T,F,F,F,F,F,F] rfl rfl (any_of HT_.out (by kernel_rfl)) (fun _ _ _ h => h) (Or.inl ⟨by rfl, ?_⟩) ?_ ?_
   rotate_left
   · intro w'
     go_simp
     with_reducible rfl
   rotate_left
   · simp only [Act.put, List.setIfInBounds_toArray, List.set_cons_zero, List.set_cons_succ, i64_w, i32_w]
     rfl
   refine take_ (i := 13) (N := some 29) (v := ?_) (a' := ?_) #[T,T,T,T,T,T,T,T,T,T,T,T,T,T,F,F,F,F,F] rfl rfl (take_ofW HT_.out HW_.out (by kernel_rfl)) (fun _ _ _ h => h) (Or.inl ⟨by rfl, ?_⟩) hHeld ?_ ?_
   rotate_left
   · rintro w' ⟨s0, s1, s2, s3, s4, s5, s6, s7, s8⟩
     go_simp
     with_reducible rfl
   rotate_left
   · simp only [Act.put, List.setIfInBounds_toArray, List.set_cons_zero, List.set_cons_succ, i64_w, i32_w]
     rfl
   refine one_ (i := 14) (N := some 30) #[T,T,T,T,T,T,T,T,T,T,T,T,T,T,T,F,F,F,F] rfl rfl (one_of HT_.out (by kernel_rfl)) (by decide) (fun K hK => ?_)
   refine goes_ Try.func51 (by kernel_rfl) rfl #[.agg #[.string ((rd_T54 l0_0 x5_1).f1.f0), .string ((rd_T54 l0_0 x5_1).f1.f1), .slice A153_3 ((rd_T54 l0_0 x5_1).f1.f2).length c153_3]] (by rfl) rfl rfl (by (try simp only [List.map_toArray, List.map_cons, List.map_nil]); first | rfl) ?_
   with_reducible refine (manystrandref24_text.calls k1 ((rd_T54 l0_0 x5_1).f1.f0) ((rd_T54 l0_0 x5_1).f1.f1) _ _ ((rd_T54 l0_0 x5_1).f1.f2) t155 _ ?side1 ?side2 A10.out).mono ?_
   (case side1 => repeat (first | exact (Kd.C_below HR154_3.out HB.out)))
   (case side2 => exact HC154_3.out)
   rintro e w16 ⟨rfl, hb⟩
   refine ⟨_, rfl, ?_⟩
   have n0_ := Aside0.mk (blk_below (g := gb151) (o := .cells #[.slice (some ad153) l0_0.length c0_0] 24 (0, 0)) BK151.out hb)
   have n1_ := Aside0.mk (below_step HB.out hb)
   clear BK151
   clear HB
   have BK151 := n0_
   have HB := n1_
   clear n0_ n1_
   (try clear hb)
   skip
   skip
   skip
   refine hK.out _ _ ⟨(blk_cell BK151.out 0).trans rfl, (ct HB.out hw153_0), (ct HB.out hw153_1), (ct HB.out hw153_2), (ct HB.out hw153_3), (ct HB.out hw154_0), (ct HB.out hw154_1), (ct HB.out hw154_2), (ct HB.out hw154_3)⟩ (fun hHeld => ?_)
   clear hK K
   refine norm_ (a' := ?_) ?_ ?_
   rotate_left
   · show Act.put _ (some 30) _ = _
     simp only [Act.put, List.setIfInBounds_toArray, List.set_cons_zero, List.set_cons_succ, i64_w, i32_w]
     rfl
   refine pure_ (i := 15) (N := some 31) (v := ?_) (a' := ?_) #[T,T,T,T,T,T,T,T,T,T,T,T,T,T,T,T,F,F,F] rfl rfl (any_of HT_.out (by kernel_rfl)) (fun _ _ _ h => h) (Or.inl ⟨by rfl, ?_⟩) ?_ ?_
   rotate_left
   · intro w'
     go_simp
     with_reducible rfl
   rotate_left
   · simp only [Act.put, List.setIfInBounds_toArray, List.set_cons_zero, List.set_cons_succ, i64_w, i32_w]
     rfl
   refine pure_ (i := 16) (N := some 32) (v := ?_) (a' := ?_) #[T,T,T,T,T,T,T,T,T,T,T,T,T,T,T,T,T,F,F] rfl rfl (any_of HT_.out (by kernel_rfl)) (fun _ _ _ h => h) (Or.inl ⟨by rfl, ?_⟩) ?_ ?_
   rotate_left
   · intro w'
     go_simp
     with_reducible rfl
   rotate_left
   · simp only [Act.put, List.setIfInBounds_toArray, List.set_cons_zero, List.set_cons_succ, i64_w, i32_w]
     rfl
   refine pure_ (i := 17) (N := some 33) (v := ?_) (a' := ?_) #[T,T,T,T,T,T,T,T,T,T,T,T,T,T,T,T,T,T,F] rfl rfl (any_of HT_.out (by kernel_rfl)) (fun _ _ _ h => h) (Or.inl ⟨by rfl, ?_⟩) ?_ ?_
   rotate_left
   · intro w'
     go_simp
     with_reducible rfl
   rotate_left
   · simp only [Act.put, List.setIfInBounds_toArray, List.set_cons_zero, List.set_cons_succ, i64_w, i32_w]
     rfl
   refine pure_ (i := 18) (N := some 4) (v := ?_) (a' := ?_) #[T,T,T,T,T,T,T,T,T,T,T,T,T,T,T,T,T,T,T] rfl rfl (any_of HT_.out (by kernel_rfl)) (fun _ _ _ h => h) (Or.inl ⟨by rfl, ?_⟩) ?_ ?_
   rotate_left
   · intro w'
     go_simp
     with_reducible rfl
   rotate_left
   · simp only [Act.put, List.setIfInBounds_toArray, List.set_cons_zero, List.set_cons_succ, i64_w, i32_w]
     rfl
   refine done_ (done_of HT_.out (by kernel_rfl)) ?_
   try go_wp2
   go_roundg k1
   case measure => have := HK1.out; omega
   case rel => exact ⟨(x4_1 ++ (((((rd_T54 l0_0 x5_1).f0) ++ (⟨#[32, 61, 32]⟩ : ByteArray)) ++ t155) ++ (⟨#[32, 59, 10]⟩ : ByteArray))), (wrap64 (x5_1 + 1)), rfl, rfl, H', ⟨by have := HK1.out; omega⟩, ⟨BK151.out⟩, ⟨by exact HB.out⟩⟩
def token_lower.f (a0 : Int) : Option (Bool) := if a0 ≥ 97 then (some (decide (a0 ≤ 122))) else (some false)
set_option maxHeartbeats 8000000 in
set_option maxRecDepth 100000 in
theorem token_lower.calls (a0 : Int) (r : Bool) (w : World) (h : token_lower.f a0 = some r) :
 Calls Try.prog 89 #[.int .u8 a0] w fun e w' => e = .returned (.bool r) ∧ Drawn0 w w' := by
 have H : (if a0 ≥ 97 then (some (decide (a0 ≤ 122))) else (some false)) = some r := h
 clear h
 by_cases c2 : a0 ≥ 97
 rotate_left
 · rw [if_neg c2] at H
   have c2b0 := decide_eq_false c2
   clear c2
   obtain rfl := Option.some.inj H
   go_enter Try.func89, Try.ntmps89
   go_wp2
   go_ret
   exact ⟨by first | rfl, by repeat (first | exact Drawn0.refl _)⟩
 rw [if_pos c2] at H
 have c2b0 := decide_eq_true c2
 clear c2
 obtain rfl := Option.some.inj H
 go_enter Try.func89, Try.ntmps89
 go_wp2
 go_ret
 exact ⟨by first | rfl, by repeat (first | exact Drawn0.refl _)⟩
def token_upper.f (a0 : Int) : Option (Bool) := if a0 ≥ 65 then (some (decide (a0 ≤ 90))) else (some false)
set_option maxHeartbeats 8000000 in
set_option maxRecDepth 100000 in
theorem token_upper.calls (a0 : Int) (r : Bool) (w : World) (h : token_upper.f a0 = some r) :
 Calls Try.prog 125 #[.int .u8 a0] w fun e w' => e = .returned (.bool r) ∧ Drawn0 w w' := by
 have H : (if a0 ≥ 65 then (some (decide (a0 ≤ 90))) else (some false)) = some r := h
 clear h
 by_cases c2 : a0 ≥ 65
 rotate_left
 · rw [if_neg c2] at H
   have c2b0 := decide_eq_false c2
   clear c2
   obtain rfl := Option.some.inj H
   go_enter Try.func125, Try.ntmps125
   go_wp2
   go_ret
   exact ⟨by first | rfl, by repeat (first | exact Drawn0.refl _)⟩
 rw [if_pos c2] at H
 have c2b0 := decide_eq_true c2
 clear c2
 obtain rfl := Option.some.inj H
 go_enter Try.func125, Try.ntmps125
 go_wp2
 go_ret
 exact ⟨by first | rfl, by repeat (first | exact Drawn0.refl _)⟩
def token_digit.f (a0 : Int) : Option (Bool) := if a0 ≥ 48 then (some (decide (a0 ≤ 57))) else (some false)
set_option maxHeartbeats 8000000 in
set_option maxRecDepth 100000 in
theorem token_digit.calls (a0 : Int) (r : Bool) (w : World) (h : token_digit.f a0 = some r) :
 Calls Try.prog 126 #[.int .u8 a0] w fun e w' => e = .returned (.bool r) ∧ Drawn0 w w' := by
 have H : (if a0 ≥ 48 then (some (decide (a0 ≤ 57))) else (some false)) = some r := h
 clear h
 by_cases c2 : a0 ≥ 48
 rotate_left
 · rw [if_neg c2] at H
   have c2b0 := decide_eq_false c2
   clear c2
   obtain rfl := Option.some.inj H
   go_enter Try.func126, Try.ntmps126
   go_wp2
   go_ret
   exact ⟨by first | rfl, by repeat (first | exact Drawn0.refl _)⟩
 rw [if_pos c2] at H
 have c2b0 := decide_eq_true c2
 clear c2
 obtain rfl := Option.some.inj H
 go_enter Try.func126, Try.ntmps126
 go_wp2
 go_ret
 exact ⟨by first | rfl, by repeat (first | exact Drawn0.refl _)⟩
def token_word.f (a0 : Int) : Option (Bool) := (token_upper.f a0).bind fun t156 => (if t156 = true then (some true) else ((token_lower.f a0).bind fun t157 => (if t157 = true then (some true) else ((token_digit.f a0).bind fun t158 => (if t158 = true then (some true) else (some (a0 == 95)))))))
set_option maxHeartbeats 8000000 in
set_option maxRecDepth 100000 in
theorem token_word.calls (a0 : Int) (r : Bool) (w : World) (h : token_word.f a0 = some r) :
 Calls Try.prog 113 #[.int .u8 a0] w fun e w' => e = .returned (.bool r) ∧ Drawn0 w w' := by
 have H : ((token_upper.f a0).bind fun t156 => (if t156 = true then (some true) else ((token_lower.f a0).bind fun t157 => (if t157 = true then (some true) else ((token_digit.f a0).bind fun t158 => (if t158 = true then (some true) else (some (a0 == 95)))))))) = some r := h
 clear h
 replace H := Option.bind_eq_some_iff.mp H
 obtain ⟨t156, A20, H⟩ := H
 have A2 := Aside0.mk A20
 clear A20
 by_cases c3 : t156 = true
 · subst c3
   rw [if_pos rfl] at H
   obtain rfl := Option.some.inj H
   go_enter Try.func113, Try.ntmps113
   go_wp2_with (((with_reducible refine gate_callee (f := 125) rfl ?_); refine goesL_ (some 4) rfl rfl Try.func125 (by kernel_rfl) rfl #[.int .u8 a0] rfl (by (try simp only [List.map_toArray, List.map_cons, List.map_nil]); first | rfl) ?_; (with_reducible refine (token_upper.calls a0 true _ A2.out).mono ?_); rintro e w' ⟨rfl, ⟨nd, rfl⟩⟩; refine ⟨_, rfl, ?_⟩))
   go_ret
   exact ⟨by first | rfl, by repeat (first | exact Drawn0.refl _ | apply Drawn0.step)⟩
 replace c3 := Bool.eq_false_iff.mpr c3
 subst c3
 rw [if_neg (show ¬ (false = true) by decide)] at H
 replace H := Option.bind_eq_some_iff.mp H
 obtain ⟨t157, A40, H⟩ := H
 have A4 := Aside0.mk A40
 clear A40
 by_cases c5 : t157 = true
 · subst c5
   rw [if_pos rfl] at H
   obtain rfl := Option.some.inj H
   go_enter Try.func113, Try.ntmps113
   go_wp2_with (first | ((with_reducible refine gate_callee (f := 125) rfl ?_); refine goesL_ (some 4) rfl rfl Try.func125 (by kernel_rfl) rfl #[.int .u8 a0] rfl (by (try simp only [List.map_toArray, List.map_cons, List.map_nil]); first | rfl) ?_; (with_reducible refine (token_upper.calls a0 false _ A2.out).mono ?_); rintro e w' ⟨rfl, ⟨nd, rfl⟩⟩; refine ⟨_, rfl, ?_⟩) | (go_at_call 89; (with_reducible refine (token_lower.calls a0 true _ A4.out).mono ?_); rintro e w' ⟨rfl, ⟨nd, rfl⟩⟩))
   go_ret
   exact ⟨by first | rfl, by repeat (first | exact Drawn0.refl _ | apply Drawn0.step)⟩
 replace c5 := Bool.eq_false_iff.mpr c5
 subst c5
 rw [if_neg (show ¬ (false = true) by decide)] at H
 replace H := Option.bind_eq_some_iff.mp H
 obtain ⟨t158, A60, H⟩ := H
 have A6 := Aside0.mk A60
 clear A60
 by_cases c7 : t158 = true
 · subst c7
   rw [if_pos rfl] at H
   obtain rfl := Option.some.inj H
   go_enter Try.func113, Try.ntmps113
   go_wp2_with (first | ((with_reducible refine gate_callee (f := 125) rfl ?_); refine goesL_ (some 4) rfl rfl Try.func125 (by kernel_rfl) rfl #[.int .u8 a0] rfl (by (try simp only [List.map_toArray, List.map_cons, List.map_nil]); first | rfl) ?_; (with_reducible refine (token_upper.calls a0 false _ A2.out).mono ?_); rintro e w' ⟨rfl, ⟨nd, rfl⟩⟩; refine ⟨_, rfl, ?_⟩) | (go_at_call 89; (with_reducible refine (token_lower.calls a0 false _ A4.out).mono ?_); rintro e w' ⟨rfl, ⟨nd, rfl⟩⟩) | (go_at_call 126; (with_reducible refine (token_digit.calls a0 true _ A6.out).mono ?_); rintro e w' ⟨rfl, ⟨nd, rfl⟩⟩))
   go_ret
   exact ⟨by first | rfl, by repeat (first | exact Drawn0.refl _ | apply Drawn0.step)⟩
 replace c7 := Bool.eq_false_iff.mpr c7
 subst c7
 rw [if_neg (show ¬ (false = true) by decide)] at H
 obtain rfl := Option.some.inj H
 go_enter Try.func113, Try.ntmps113
 go_wp2_with (first | ((with_reducible refine gate_callee (f := 125) rfl ?_); refine goesL_ (some 4) rfl rfl Try.func125 (by kernel_rfl) rfl #[.int .u8 a0] rfl (by (try simp only [List.map_toArray, List.map_cons, List.map_nil]); first | rfl) ?_; (with_reducible refine (token_upper.calls a0 false _ A2.out).mono ?_); rintro e w' ⟨rfl, ⟨nd, rfl⟩⟩; refine ⟨_, rfl, ?_⟩) | (go_at_call 89; (with_reducible refine (token_lower.calls a0 false _ A4.out).mono ?_); rintro e w' ⟨rfl, ⟨nd, rfl⟩⟩) | (go_at_call 126; (with_reducible refine (token_digit.calls a0 false _ A6.out).mono ?_); rintro e w' ⟨rfl, ⟨nd, rfl⟩⟩))
 go_ret
 exact ⟨by first | rfl, by repeat (first | exact Drawn0.refl _ | apply Drawn0.step)⟩
def token_words.l0 : Nat → ByteArray → Int → Int → Option (Bool)
 | 0, _, _, _ => none
 | k + 1, x0, x5, x6 => if x6 < x5 then (if 0 ≤ x6 then (if x6 < (x0.size : Int) then ((token_word.f (bt x0 x6)).bind fun t159 => (if t159 = true then (token_words.l0 k x0 x5 (wrap64 (x6 + 1))) else (some false))) else (none)) else (none)) else (some true)
def token_words.f (k : Nat) (a0 : ByteArray) : Option (Bool) := token_words.l0 k a0 (a0.size : Int) 0
set_option maxHeartbeats 8000000 in
set_option maxRecDepth 100000 in
theorem token_words.calls (k : Nat) (a0 : ByteArray) (r : Bool) (w : World) (h : token_words.f k a0 = some r) :
 Calls Try.prog 90 #[.string a0] w fun e w' => e = .returned (.bool r) ∧ Drawn0 w w' := by
 have H : (token_words.l0 k a0 (a0.size : Int) 0) = some r := h
 clear h
 have H' := Aside0.mk H
 clear H
 go_enter Try.func90, Try.ntmps90
 go_wp2
 go_loopg [6] k (fun kq v6 w' => ∃ (x6_1 : Int), v6 = .int .i64 x6_1 ∧ Aside0 (token_words.l0 kq a0 (a0.size : Int) x6_1 = some r) ∧ Aside0 (kq ≤ k) ∧ Drawn0 w w')
 case atStart => exact ⟨(0), rfl, H', ⟨Nat.le_refl _⟩, by repeat (first | exact Drawn0.refl _)⟩
 case round =>
  clear H'
  obtain ⟨x6_1, rfl, HA, HK1, ⟨m1, rfl⟩⟩ := hrel
  cases gk with
  | zero => exact absurd HA.out (by simp [token_words.l0])
  | succ k1 =>
   have H := HA.out
   clear HA
   simp only [token_words.l0] at H
   by_cases c2 : x6_1 < (a0.size : Int)
   rotate_left
   · rw [if_neg c2] at H
     have c2b0 := decide_eq_false c2
     clear c2
     obtain rfl := Option.some.inj H
     go_wp2
     go_ret
     exact ⟨by first | rfl, by repeat (first | exact Drawn0.refl _ | apply Drawn0.step)⟩
   rw [if_pos c2] at H
   have c2b0 := decide_eq_true c2
   clear c2
   obtain ⟨c3, H⟩ := gd H
   have c3b0 := decide_eq_true c3
   clear c3
   obtain ⟨c4, H⟩ := gd H
   have c4b0 := decide_eq_true c4
   clear c4
   replace H := Option.bind_eq_some_iff.mp H
   obtain ⟨t159, A60, H⟩ := H
   have A6 := Aside0.mk A60
   clear A60
   by_cases c7 : t159 = true
   rotate_left
   · replace c7 := Bool.eq_false_iff.mpr c7
     subst c7
     rw [if_neg (show ¬ (false = true) by decide)] at H
     obtain rfl := Option.some.inj H
     have p5 : 0 ≤ (x6_1 : Int) := of_decide_eq_true (by assumption)
     have q5 : x6_1 < (a0.size : Int) := of_decide_eq_true (by assumption)
     have hx5 := bt_at a0 x6_1
     replace p5 := eq_true p5
     replace q5 := eq_true q5
     go_wp2_with (((with_reducible refine gate_callee (f := 113) rfl ?_); refine goesL_ (some 12) rfl rfl Try.func113 (by kernel_rfl) rfl #[.int .u8 (bt a0 x6_1)] rfl (by (try simp only [List.map_toArray, List.map_cons, List.map_nil]); first | rfl) ?_; (with_reducible refine (token_word.calls (bt a0 x6_1) false _ A6.out).mono ?_); rintro e w' ⟨rfl, ⟨nd, rfl⟩⟩; refine ⟨_, rfl, ?_⟩))
     go_ret
     exact ⟨by first | rfl, by repeat (first | exact Drawn0.refl _ | apply Drawn0.step)⟩
   subst c7
   rw [if_pos rfl] at H
   have H' := Aside0.mk H
   clear H
   have p5 : 0 ≤ (x6_1 : Int) := of_decide_eq_true (by assumption)
   have q5 : x6_1 < (a0.size : Int) := of_decide_eq_true (by assumption)
   have hx5 := bt_at a0 x6_1
   replace p5 := eq_true p5
   replace q5 := eq_true q5
   go_wp2_with (((with_reducible refine gate_callee (f := 113) rfl ?_); refine goesL_ (some 12) rfl rfl Try.func113 (by kernel_rfl) rfl #[.int .u8 (bt a0 x6_1)] rfl (by (try simp only [List.map_toArray, List.map_cons, List.map_nil]); first | rfl) ?_; (with_reducible refine (token_word.calls (bt a0 x6_1) true _ A6.out).mono ?_); rintro e w' ⟨rfl, ⟨nd, rfl⟩⟩; refine ⟨_, rfl, ?_⟩))
   go_roundg k1
   case measure => have := HK1.out; omega
   case rel => exact ⟨(wrap64 (x6_1 + 1)), rfl, H', ⟨by have := HK1.out; omega⟩, by repeat (first | exact Drawn0.refl _ | apply Drawn0.step)⟩
end Go.Proofs.Ytcnllhnhinmokaa.PHGr
end
section
namespace Go.Proofs.Ytcnllhnhinmokaa.PHGr
open Go.RowKit Go.Proofs.YtcnllhnhinmokaaW.PrintWords Go.Proofs.YtcnllhnhinmokaaW.PrintLast Go.Proofs.YtcnllhnhinmokaaW.PrintMore
attribute [local go_sem] max2_int min2_int max_two min_two max_three min_three max_four min_four
set_option linter.unusedVariables false
set_option linter.unusedSimpArgs false
def token_isKey.f (a0 : ByteArray) : Option (Bool) := if a0.toList = ([97, 110, 100, 116, 104, 101, 110] : List UInt8) then (some true) else (if a0.toList = ([97, 116] : List UInt8) then (some true) else (if a0.toList = ([98, 121] : List UInt8) then (some true) else (if a0.toList = ([99, 97, 115, 101] : List UInt8) then (some true) else (if a0.toList = ([99, 97, 116, 99, 104] : List UInt8) then (some true) else (if a0.toList = ([99, 104, 111, 105, 99, 101] : List UInt8) then (some true) else (if a0.toList = ([100, 105, 118] : List UInt8) then (some true) else (if a0.toList = ([100, 111] : List UInt8) then (some true) else (if a0.toList = ([101, 97, 99, 104] : List UInt8) then (some true) else (if a0.toList = ([101, 108, 115, 101] : List UInt8) then (some true) else (if a0.toList = ([101, 110, 100] : List UInt8) then (some true) else (if a0.toList = ([102, 111, 114] : List UInt8) then (some true) else (if a0.toList = ([102, 117, 110] : List UInt8) then (some true) else (if a0.toList = ([105, 102] : List UInt8) then (some true) else (if a0.toList = ([105, 110] : List UInt8) then (some true) else (if a0.toList = ([108, 97, 122, 121] : List UInt8) then (some true) else (if a0.toList = ([108, 111, 99, 97, 108] : List UInt8) then (some true) else (if a0.toList = ([108, 111, 99, 107] : List UInt8) then (some true) else (if a0.toList = ([109, 111, 100] : List UInt8) then (some true) else (if a0.toList = ([111, 114, 101, 108, 115, 101] : List UInt8) then (some true) else (if a0.toList = ([112, 114, 111, 99] : List UInt8) then (some true) else (if a0.toList = ([114, 97, 105, 115, 101] : List UInt8) then (some true) else (if a0.toList = ([115, 107, 105, 112] : List UInt8) then (some true) else (if a0.toList = ([116, 104, 101, 110] : List UInt8) then (some true) else (if a0.toList = ([116, 104, 114, 101, 97, 100] : List UInt8) then (some true) else (if a0.toList = ([116, 114, 121] : List UInt8) then (some true) else (if a0.toList = ([111, 102] : List UInt8) then (some true) else (some false)))))))))))))))))))))))))))
set_option maxHeartbeats 8000000 in
set_option maxRecDepth 100000 in
theorem token_isKey.calls (a0 : ByteArray) (r : Bool) (w : World) (h : token_isKey.f a0 = some r) :
 Calls Try.prog 91 #[.string a0] w fun e w' => e = .returned (.bool r) ∧ Drawn0 w w' := by
 have H : (if a0.toList = ([97, 110, 100, 116, 104, 101, 110] : List UInt8) then (some true) else (if a0.toList = ([97, 116] : List UInt8) then (some true) else (if a0.toList = ([98, 121] : List UInt8) then (some true) else (if a0.toList = ([99, 97, 115, 101] : List UInt8) then (some true) else (if a0.toList = ([99, 97, 116, 99, 104] : List UInt8) then (some true) else (if a0.toList = ([99, 104, 111, 105, 99, 101] : List UInt8) then (some true) else (if a0.toList = ([100, 105, 118] : List UInt8) then (some true) else (if a0.toList = ([100, 111] : List UInt8) then (some true) else (if a0.toList = ([101, 97, 99, 104] : List UInt8) then (some true) else (if a0.toList = ([101, 108, 115, 101] : List UInt8) then (some true) else (if a0.toList = ([101, 110, 100] : List UInt8) then (some true) else (if a0.toList = ([102, 111, 114] : List UInt8) then (some true) else (if a0.toList = ([102, 117, 110] : List UInt8) then (some true) else (if a0.toList = ([105, 102] : List UInt8) then (some true) else (if a0.toList = ([105, 110] : List UInt8) then (some true) else (if a0.toList = ([108, 97, 122, 121] : List UInt8) then (some true) else (if a0.toList = ([108, 111, 99, 97, 108] : List UInt8) then (some true) else (if a0.toList = ([108, 111, 99, 107] : List UInt8) then (some true) else (if a0.toList = ([109, 111, 100] : List UInt8) then (some true) else (if a0.toList = ([111, 114, 101, 108, 115, 101] : List UInt8) then (some true) else (if a0.toList = ([112, 114, 111, 99] : List UInt8) then (some true) else (if a0.toList = ([114, 97, 105, 115, 101] : List UInt8) then (some true) else (if a0.toList = ([115, 107, 105, 112] : List UInt8) then (some true) else (if a0.toList = ([116, 104, 101, 110] : List UInt8) then (some true) else (if a0.toList = ([116, 104, 114, 101, 97, 100] : List UInt8) then (some true) else (if a0.toList = ([116, 114, 121] : List UInt8) then (some true) else (if a0.toList = ([111, 102] : List UInt8) then (some true) else (some false)))))))))))))))))))))))))))) = some r := h
 clear h
 by_cases c2 : a0.toList = ([97, 110, 100, 116, 104, 101, 110] : List UInt8)
 · rw [if_pos c2] at H
   have c2b0 := beq_iff_eq.mpr c2
   have c2b1 := bne_eq_false_iff_eq.mpr c2
   clear c2
   obtain rfl := Option.some.inj H
   go_enter Try.func91, Try.ntmps91
   go_wp2
   go_ret
   exact ⟨by first | rfl, by repeat (first | exact Drawn0.refl _)⟩
 rw [if_neg c2] at H
 have c2b0 := beq_eq_false_iff_ne.mpr c2
 have c2b1 := bne_iff_ne.mpr c2
 by_cases c3 : a0.toList = ([97, 116] : List UInt8)
 · rw [if_pos c3] at H
   have c3b0 := beq_iff_eq.mpr c3
   have c3b1 := bne_eq_false_iff_eq.mpr c3
   clear c3
   obtain rfl := Option.some.inj H
   go_enter Try.func91, Try.ntmps91
   go_wp2
   go_ret
   exact ⟨by first | rfl, by repeat (first | exact Drawn0.refl _)⟩
 rw [if_neg c3] at H
 have c3b0 := beq_eq_false_iff_ne.mpr c3
 have c3b1 := bne_iff_ne.mpr c3
 by_cases c4 : a0.toList = ([98, 121] : List UInt8)
 · rw [if_pos c4] at H
   have c4b0 := beq_iff_eq.mpr c4
   have c4b1 := bne_eq_false_iff_eq.mpr c4
   clear c4
   obtain rfl := Option.some.inj H
   go_enter Try.func91, Try.ntmps91
   go_wp2
   go_ret
   exact ⟨by first | rfl, by repeat (first | exact Drawn0.refl _)⟩
 rw [if_neg c4] at H
 have c4b0 := beq_eq_false_iff_ne.mpr c4
 have c4b1 := bne_iff_ne.mpr c4
 by_cases c5 : a0.toList = ([99, 97, 115, 101] : List UInt8)
 · rw [if_pos c5] at H
   have c5b0 := beq_iff_eq.mpr c5
   have c5b1 := bne_eq_false_iff_eq.mpr c5
   clear c5
   obtain rfl := Option.some.inj H
   go_enter Try.func91, Try.ntmps91
   go_wp2
   go_ret
   exact ⟨by first | rfl, by repeat (first | exact Drawn0.refl _)⟩
 rw [if_neg c5] at H
 have c5b0 := beq_eq_false_iff_ne.mpr c5
 have c5b1 := bne_iff_ne.mpr c5
 by_cases c6 : a0.toList = ([99, 97, 116, 99, 104] : List UInt8)
 · rw [if_pos c6] at H
   have c6b0 := beq_iff_eq.mpr c6
   have c6b1 := bne_eq_false_iff_eq.mpr c6
   clear c6
   obtain rfl := Option.some.inj H
   go_enter Try.func91, Try.ntmps91
   go_wp2
   go_ret
   exact ⟨by first | rfl, by repeat (first | exact Drawn0.refl _)⟩
 rw [if_neg c6] at H
 have c6b0 := beq_eq_false_iff_ne.mpr c6
 have c6b1 := bne_iff_ne.mpr c6
 by_cases c7 : a0.toList = ([99, 104, 111, 105, 99, 101] : List UInt8)
 · rw [if_pos c7] at H
   have c7b0 := beq_iff_eq.mpr c7
   have c7b1 := bne_eq_false_iff_eq.mpr c7
   clear c7
   obtain rfl := Option.some.inj H
   go_enter Try.func91, Try.ntmps91
   go_wp2
   go_ret
   exact ⟨by first | rfl, by repeat (first | exact Drawn0.refl _)⟩
 rw [if_neg c7] at H
 have c7b0 := beq_eq_false_iff_ne.mpr c7
 have c7b1 := bne_iff_ne.mpr c7
 by_cases c8 : a0.toList = ([100, 105, 118] : List UInt8)
 · rw [if_pos c8] at H
   have c8b0 := beq_iff_eq.mpr c8
   have c8b1 := bne_eq_false_iff_eq.mpr c8
   clear c8
   obtain rfl := Option.some.inj H
   go_enter Try.func91, Try.ntmps91
   go_wp2
   go_ret
   exact ⟨by first | rfl, by repeat (first | exact Drawn0.refl _)⟩
 rw [if_neg c8] at H
 have c8b0 := beq_eq_false_iff_ne.mpr c8
 have c8b1 := bne_iff_ne.mpr c8
 by_cases c9 : a0.toList = ([100, 111] : List UInt8)
 · rw [if_pos c9] at H
   have c9b0 := beq_iff_eq.mpr c9
   have c9b1 := bne_eq_false_iff_eq.mpr c9
   clear c9
   obtain rfl := Option.some.inj H
   go_enter Try.func91, Try.ntmps91
   go_wp2
   go_ret
   exact ⟨by first | rfl, by repeat (first | exact Drawn0.refl _)⟩
 rw [if_neg c9] at H
 have c9b0 := beq_eq_false_iff_ne.mpr c9
 have c9b1 := bne_iff_ne.mpr c9
 by_cases c10 : a0.toList = ([101, 97, 99, 104] : List UInt8)
 · rw [if_pos c10] at H
   have c10b0 := beq_iff_eq.mpr c10
   have c10b1 := bne_eq_false_iff_eq.mpr c10
   clear c10
   obtain rfl := Option.some.inj H
   go_enter Try.func91, Try.ntmps91
   go_wp2
   go_ret
   exact ⟨by first | rfl, by repeat (first | exact Drawn0.refl _)⟩
 rw [if_neg c10] at H
 have c10b0 := beq_eq_false_iff_ne.mpr c10
 have c10b1 := bne_iff_ne.mpr c10
 by_cases c11 : a0.toList = ([101, 108, 115, 101] : List UInt8)
 · rw [if_pos c11] at H
   have c11b0 := beq_iff_eq.mpr c11
   have c11b1 := bne_eq_false_iff_eq.mpr c11
   clear c11
   obtain rfl := Option.some.inj H
   go_enter Try.func91, Try.ntmps91
   go_wp2
   go_ret
   exact ⟨by first | rfl, by repeat (first | exact Drawn0.refl _)⟩
 rw [if_neg c11] at H
 have c11b0 := beq_eq_false_iff_ne.mpr c11
 have c11b1 := bne_iff_ne.mpr c11
 by_cases c12 : a0.toList = ([101, 110, 100] : List UInt8)
 · rw [if_pos c12] at H
   have c12b0 := beq_iff_eq.mpr c12
   have c12b1 := bne_eq_false_iff_eq.mpr c12
   clear c12
   obtain rfl := Option.some.inj H
   go_enter Try.func91, Try.ntmps91
   go_wp2
   go_ret
   exact ⟨by first | rfl, by repeat (first | exact Drawn0.refl _)⟩
 rw [if_neg c12] at H
 have c12b0 := beq_eq_false_iff_ne.mpr c12
 have c12b1 := bne_iff_ne.mpr c12
 by_cases c13 : a0.toList = ([102, 111, 114] : List UInt8)
 · rw [if_pos c13] at H
   have c13b0 := beq_iff_eq.mpr c13
   have c13b1 := bne_eq_false_iff_eq.mpr c13
   clear c13
   obtain rfl := Option.some.inj H
   go_enter Try.func91, Try.ntmps91
   go_wp2
   go_ret
   exact ⟨by first | rfl, by repeat (first | exact Drawn0.refl _)⟩
 rw [if_neg c13] at H
 have c13b0 := beq_eq_false_iff_ne.mpr c13
 have c13b1 := bne_iff_ne.mpr c13
 by_cases c14 : a0.toList = ([102, 117, 110] : List UInt8)
 · rw [if_pos c14] at H
   have c14b0 := beq_iff_eq.mpr c14
   have c14b1 := bne_eq_false_iff_eq.mpr c14
   clear c14
   obtain rfl := Option.some.inj H
   go_enter Try.func91, Try.ntmps91
   go_wp2
   go_ret
   exact ⟨by first | rfl, by repeat (first | exact Drawn0.refl _)⟩
 rw [if_neg c14] at H
 have c14b0 := beq_eq_false_iff_ne.mpr c14
 have c14b1 := bne_iff_ne.mpr c14
 by_cases c15 : a0.toList = ([105, 102] : List UInt8)
 · rw [if_pos c15] at H
   have c15b0 := beq_iff_eq.mpr c15
   have c15b1 := bne_eq_false_iff_eq.mpr c15
   clear c15
   obtain rfl := Option.some.inj H
   go_enter Try.func91, Try.ntmps91
   go_wp2
   go_ret
   exact ⟨by first | rfl, by repeat (first | exact Drawn0.refl _)⟩
 rw [if_neg c15] at H
 have c15b0 := beq_eq_false_iff_ne.mpr c15
 have c15b1 := bne_iff_ne.mpr c15
 by_cases c16 : a0.toList = ([105, 110] : List UInt8)
 · rw [if_pos c16] at H
   have c16b0 := beq_iff_eq.mpr c16
   have c16b1 := bne_eq_false_iff_eq.mpr c16
   clear c16
   obtain rfl := Option.some.inj H
   go_enter Try.func91, Try.ntmps91
   go_wp2
   go_ret
   exact ⟨by first | rfl, by repeat (first | exact Drawn0.refl _)⟩
 rw [if_neg c16] at H
 have c16b0 := beq_eq_false_iff_ne.mpr c16
 have c16b1 := bne_iff_ne.mpr c16
 by_cases c17 : a0.toList = ([108, 97, 122, 121] : List UInt8)
 · rw [if_pos c17] at H
   have c17b0 := beq_iff_eq.mpr c17
   have c17b1 := bne_eq_false_iff_eq.mpr c17
   clear c17
   obtain rfl := Option.some.inj H
   go_enter Try.func91, Try.ntmps91
   go_wp2
   go_ret
   exact ⟨by first | rfl, by repeat (first | exact Drawn0.refl _)⟩
 rw [if_neg c17] at H
 have c17b0 := beq_eq_false_iff_ne.mpr c17
 have c17b1 := bne_iff_ne.mpr c17
 by_cases c18 : a0.toList = ([108, 111, 99, 97, 108] : List UInt8)
 · rw [if_pos c18] at H
   have c18b0 := beq_iff_eq.mpr c18
   have c18b1 := bne_eq_false_iff_eq.mpr c18
   clear c18
   obtain rfl := Option.some.inj H
   go_enter Try.func91, Try.ntmps91
   go_wp2
   go_ret
   exact ⟨by first | rfl, by repeat (first | exact Drawn0.refl _)⟩
 rw [if_neg c18] at H
 have c18b0 := beq_eq_false_iff_ne.mpr c18
 have c18b1 := bne_iff_ne.mpr c18
 by_cases c19 : a0.toList = ([108, 111, 99, 107] : List UInt8)
 · rw [if_pos c19] at H
   have c19b0 := beq_iff_eq.mpr c19
   have c19b1 := bne_eq_false_iff_eq.mpr c19
   clear c19
   obtain rfl := Option.some.inj H
   go_enter Try.func91, Try.ntmps91
   go_wp2
   go_ret
   exact ⟨by first | rfl, by repeat (first | exact Drawn0.refl _)⟩
 rw [if_neg c19] at H
 have c19b0 := beq_eq_false_iff_ne.mpr c19
 have c19b1 := bne_iff_ne.mpr c19
 by_cases c20 : a0.toList = ([109, 111, 100] : List UInt8)
 · rw [if_pos c20] at H
   have c20b0 := beq_iff_eq.mpr c20
   have c20b1 := bne_eq_false_iff_eq.mpr c20
   clear c20
   obtain rfl := Option.some.inj H
   go_enter Try.func91, Try.ntmps91
   go_wp2
   go_ret
   exact ⟨by first | rfl, by repeat (first | exact Drawn0.refl _)⟩
 rw [if_neg c20] at H
 have c20b0 := beq_eq_false_iff_ne.mpr c20
 have c20b1 := bne_iff_ne.mpr c20
 by_cases c21 : a0.toList = ([111, 114, 101, 108, 115, 101] : List UInt8)
 · rw [if_pos c21] at H
   have c21b0 := beq_iff_eq.mpr c21
   have c21b1 := bne_eq_false_iff_eq.mpr c21
   clear c21
   obtain rfl := Option.some.inj H
   go_enter Try.func91, Try.ntmps91
   go_wp2
   go_ret
   exact ⟨by first | rfl, by repeat (first | exact Drawn0.refl _)⟩
 rw [if_neg c21] at H
 have c21b0 := beq_eq_false_iff_ne.mpr c21
 have c21b1 := bne_iff_ne.mpr c21
 by_cases c22 : a0.toList = ([112, 114, 111, 99] : List UInt8)
 · rw [if_pos c22] at H
   have c22b0 := beq_iff_eq.mpr c22
   have c22b1 := bne_eq_false_iff_eq.mpr c22
   clear c22
   obtain rfl := Option.some.inj H
   go_enter Try.func91, Try.ntmps91
   go_wp2
   go_ret
   exact ⟨by first | rfl, by repeat (first | exact Drawn0.refl _)⟩
 rw [if_neg c22] at H
 have c22b0 := beq_eq_false_iff_ne.mpr c22
 have c22b1 := bne_iff_ne.mpr c22
 by_cases c23 : a0.toList = ([114, 97, 105, 115, 101] : List UInt8)
 · rw [if_pos c23] at H
   have c23b0 := beq_iff_eq.mpr c23
   have c23b1 := bne_eq_false_iff_eq.mpr c23
   clear c23
   obtain rfl := Option.some.inj H
   go_enter Try.func91, Try.ntmps91
   go_wp2
   go_ret
   exact ⟨by first | rfl, by repeat (first | exact Drawn0.refl _)⟩
 rw [if_neg c23] at H
 have c23b0 := beq_eq_false_iff_ne.mpr c23
 have c23b1 := bne_iff_ne.mpr c23
 by_cases c24 : a0.toList = ([115, 107, 105, 112] : List UInt8)
 · rw [if_pos c24] at H
   have c24b0 := beq_iff_eq.mpr c24
   have c24b1 := bne_eq_false_iff_eq.mpr c24
   clear c24
   obtain rfl := Option.some.inj H
   go_enter Try.func91, Try.ntmps91
   go_wp2
   go_ret
   exact ⟨by first | rfl, by repeat (first | exact Drawn0.refl _)⟩
 rw [if_neg c24] at H
 have c24b0 := beq_eq_false_iff_ne.mpr c24
 have c24b1 := bne_iff_ne.mpr c24
 by_cases c25 : a0.toList = ([116, 104, 101, 110] : List UInt8)
 · rw [if_pos c25] at H
   have c25b0 := beq_iff_eq.mpr c25
   have c25b1 := bne_eq_false_iff_eq.mpr c25
   clear c25
   obtain rfl := Option.some.inj H
   go_enter Try.func91, Try.ntmps91
   go_wp2
   go_ret
   exact ⟨by first | rfl, by repeat (first | exact Drawn0.refl _)⟩
 rw [if_neg c25] at H
 have c25b0 := beq_eq_false_iff_ne.mpr c25
 have c25b1 := bne_iff_ne.mpr c25
 by_cases c26 : a0.toList = ([116, 104, 114, 101, 97, 100] : List UInt8)
 · rw [if_pos c26] at H
   have c26b0 := beq_iff_eq.mpr c26
   have c26b1 := bne_eq_false_iff_eq.mpr c26
   clear c26
   obtain rfl := Option.some.inj H
   go_enter Try.func91, Try.ntmps91
   go_wp2
   go_ret
   exact ⟨by first | rfl, by repeat (first | exact Drawn0.refl _)⟩
 rw [if_neg c26] at H
 have c26b0 := beq_eq_false_iff_ne.mpr c26
 have c26b1 := bne_iff_ne.mpr c26
 by_cases c27 : a0.toList = ([116, 114, 121] : List UInt8)
 · rw [if_pos c27] at H
   have c27b0 := beq_iff_eq.mpr c27
   have c27b1 := bne_eq_false_iff_eq.mpr c27
   clear c27
   obtain rfl := Option.some.inj H
   go_enter Try.func91, Try.ntmps91
   go_wp2
   go_ret
   exact ⟨by first | rfl, by repeat (first | exact Drawn0.refl _)⟩
 rw [if_neg c27] at H
 have c27b0 := beq_eq_false_iff_ne.mpr c27
 have c27b1 := bne_iff_ne.mpr c27
 by_cases c28 : a0.toList = ([111, 102] : List UInt8)
 rotate_left
 · rw [if_neg c28] at H
   have c28b0 := beq_eq_false_iff_ne.mpr c28
   have c28b1 := bne_iff_ne.mpr c28
   obtain rfl := Option.some.inj H
   go_enter Try.func91, Try.ntmps91
   go_wp2
   go_ret
   exact ⟨by first | rfl, by repeat (first | exact Drawn0.refl _)⟩
 rw [if_pos c28] at H
 have c28b0 := beq_iff_eq.mpr c28
 have c28b1 := bne_eq_false_iff_eq.mpr c28
 clear c28
 obtain rfl := Option.some.inj H
 go_enter Try.func91, Try.ntmps91
 go_wp2
 go_ret
 exact ⟨by first | rfl, by repeat (first | exact Drawn0.refl _)⟩
def token_IsPlain.f (k : Nat) (a0 : ByteArray) : Option (Bool) := if a0.toList = ([] : List UInt8) then (some false) else (if (a0.size : Int) ≤ 60 then (if 0 < (a0.size : Int) then ((token_lower.f (bt a0 0)).bind fun t160 => (if t160 = true then ((token_words.f k a0).bind fun t161 => (if t161 = true then ((token_isKey.f a0).bind fun t162 => (some (!t162))) else (some false))) else (some false))) else (none)) else (some false))
set_option maxHeartbeats 8000000 in
set_option maxRecDepth 100000 in
theorem token_IsPlain.calls (k : Nat) (a0 : ByteArray) (r : Bool) (w : World) (h : token_IsPlain.f k a0 = some r) :
 Calls Try.prog 66 #[.string a0] w fun e w' => e = .returned (.bool r) ∧ Drawn0 w w' := by
 have H : (if a0.toList = ([] : List UInt8) then (some false) else (if (a0.size : Int) ≤ 60 then (if 0 < (a0.size : Int) then ((token_lower.f (bt a0 0)).bind fun t160 => (if t160 = true then ((token_words.f k a0).bind fun t161 => (if t161 = true then ((token_isKey.f a0).bind fun t162 => (some (!t162))) else (some false))) else (some false))) else (none)) else (some false))) = some r := h
 clear h
 by_cases c2 : a0.toList = ([] : List UInt8)
 · rw [if_pos c2] at H
   have c2b0 := beq_iff_eq.mpr c2
   have c2b1 := bne_eq_false_iff_eq.mpr c2
   clear c2
   obtain rfl := Option.some.inj H
   go_enter Try.func66, Try.ntmps66
   go_wp2
   go_ret
   exact ⟨by first | rfl, by repeat (first | exact Drawn0.refl _)⟩
 rw [if_neg c2] at H
 have c2b0 := beq_eq_false_iff_ne.mpr c2
 have c2b1 := bne_iff_ne.mpr c2
 by_cases c3 : (a0.size : Int) ≤ 60
 rotate_left
 · rw [if_neg c3] at H
   have c3b0 := decide_eq_false c3
   have c3b1 : decide (a0.size ≤ 60) = false := decide_eq_false (by omega)
   clear c3
   obtain rfl := Option.some.inj H
   go_enter Try.func66, Try.ntmps66
   go_wp2
   go_ret
   exact ⟨by first | rfl, by repeat (first | exact Drawn0.refl _)⟩
 rw [if_pos c3] at H
 have c3b0 := decide_eq_true c3
 have c3b1 : decide (a0.size ≤ 60) = true := decide_eq_true (by omega)
 clear c3
 obtain ⟨c4, H⟩ := gd H
 have c4b0 := decide_eq_true c4
 have c4b1 : decide (0 < a0.size) = true := decide_eq_true (by omega)
 clear c4
 replace H := Option.bind_eq_some_iff.mp H
 obtain ⟨t160, A60, H⟩ := H
 have A6 := Aside0.mk A60
 clear A60
 by_cases c7 : t160 = true
 rotate_left
 · replace c7 := Bool.eq_false_iff.mpr c7
   subst c7
   rw [if_neg (show ¬ (false = true) by decide)] at H
   obtain rfl := Option.some.inj H
   have p5 : 0 ≤ (0 : Int) := (by omega)
   have q5 : 0 < a0.size := (by have : (0 : Int) < (a0.size : Int) := of_decide_eq_true (by assumption); omega)
   have hx5 : ∀ h : 0 < a0.size, ((a0[0]'h).toNat : Int) = bt a0 0 := bt_at a0 0
   clear p5
   have qi5 : (0 < (a0.size : Int)) = True := eq_true (of_decide_eq_true (by assumption))
   replace q5 := eq_true q5
   go_enter Try.func66, Try.ntmps66
   go_wp2_with ((go_at_call 89; (with_reducible refine (token_lower.calls (bt a0 0) false _ A6.out).mono ?_); rintro e w' ⟨rfl, ⟨nd, rfl⟩⟩))
   go_ret
   exact ⟨by first | rfl, by repeat (first | exact Drawn0.refl _ | apply Drawn0.step)⟩
 subst c7
 rw [if_pos rfl] at H
 replace H := Option.bind_eq_some_iff.mp H
 obtain ⟨t161, A80, H⟩ := H
 have A8 := Aside0.mk A80
 clear A80
 by_cases c9 : t161 = true
 rotate_left
 · replace c9 := Bool.eq_false_iff.mpr c9
   subst c9
   rw [if_neg (show ¬ (false = true) by decide)] at H
   obtain rfl := Option.some.inj H
   have p5 : 0 ≤ (0 : Int) := (by omega)
   have q5 : 0 < a0.size := (by have : (0 : Int) < (a0.size : Int) := of_decide_eq_true (by assumption); omega)
   have hx5 : ∀ h : 0 < a0.size, ((a0[0]'h).toNat : Int) = bt a0 0 := bt_at a0 0
   clear p5
   have qi5 : (0 < (a0.size : Int)) = True := eq_true (of_decide_eq_true (by assumption))
   replace q5 := eq_true q5
   go_enter Try.func66, Try.ntmps66
   go_wp2_with (first | (go_at_call 89; (with_reducible refine (token_lower.calls (bt a0 0) true _ A6.out).mono ?_); rintro e w' ⟨rfl, ⟨nd, rfl⟩⟩) | (go_at_call 90; (with_reducible refine (token_words.calls k a0 false _ A8.out).mono ?_); rintro e w' ⟨rfl, ⟨nd, rfl⟩⟩))
   go_ret
   exact ⟨by first | rfl, by repeat (first | exact Drawn0.refl _ | apply Drawn0.step)⟩
 subst c9
 rw [if_pos rfl] at H
 replace H := Option.bind_eq_some_iff.mp H
 obtain ⟨t162, A100, H⟩ := H
 have A10 := Aside0.mk A100
 clear A100
 obtain rfl := Option.some.inj H
 have p5 : 0 ≤ (0 : Int) := (by omega)
 have q5 : 0 < a0.size := (by have : (0 : Int) < (a0.size : Int) := of_decide_eq_true (by assumption); omega)
 have hx5 : ∀ h : 0 < a0.size, ((a0[0]'h).toNat : Int) = bt a0 0 := bt_at a0 0
 clear p5
 have qi5 : (0 < (a0.size : Int)) = True := eq_true (of_decide_eq_true (by assumption))
 replace q5 := eq_true q5
 go_enter Try.func66, Try.ntmps66
 go_wp2_with (first | (go_at_call 89; (with_reducible refine (token_lower.calls (bt a0 0) true _ A6.out).mono ?_); rintro e w' ⟨rfl, ⟨nd, rfl⟩⟩) | (go_at_call 90; (with_reducible refine (token_words.calls k a0 true _ A8.out).mono ?_); rintro e w' ⟨rfl, ⟨nd, rfl⟩⟩) | (go_at_call 91; (with_reducible refine (token_isKey.calls a0 t162 _ A10.out).mono ?_); rintro e w' ⟨rfl, ⟨nd, rfl⟩⟩))
 go_ret
 exact ⟨by first | rfl, by repeat (first | exact Drawn0.refl _ | apply Drawn0.step)⟩
def token_printed.l0 : Nat → ByteArray → Int → Int → Int → Option (Bool)
 | 0, _, _, _, _ => none
 | k + 1, x0, x1, x7, x8 => if x8 < x7 then (if 0 ≤ x8 then (if x8 < (x0.size : Int) then (if (bt x0 x8) = 10 then (token_printed.l0 k x0 x1 x7 (wrap64 (x8 + 1))) else (if (bt x0 x8) < 32 then (some false) else (if (bt x0 x8) > 126 then (some false) else (token_printed.l0 k x0 x1 x7 (wrap64 (x8 + 1)))))) else (none)) else (none)) else (some (decide ((x0.size : Int) ≤ x1)))
def token_printed.f (k : Nat) (a0 : ByteArray) (a1 : Int) : Option (Bool) := token_printed.l0 k a0 a1 (a0.size : Int) 0
set_option maxHeartbeats 8000000 in
set_option maxRecDepth 100000 in
theorem token_printed.calls (k : Nat) (a0 : ByteArray) (a1 : Int) (r : Bool) (w : World) (h : token_printed.f k a0 a1 = some r) :
 Calls Try.prog 128 #[.string a0, .int .i64 a1] w fun e w' => e = .returned (.bool r) ∧ Drawn0 w w' := by
 have H : (token_printed.l0 k a0 a1 (a0.size : Int) 0) = some r := h
 clear h
 have H' := Aside0.mk H
 clear H
 go_enter Try.func128, Try.ntmps128
 go_wp2
 go_loopg [8] k (fun kq v8 w' => ∃ (x8_1 : Int), v8 = .int .i64 x8_1 ∧ Aside0 (token_printed.l0 kq a0 a1 (a0.size : Int) x8_1 = some r) ∧ Aside0 (kq ≤ k) ∧ Drawn0 w w')
 case atStart => exact ⟨(0), rfl, H', ⟨Nat.le_refl _⟩, by repeat (first | exact Drawn0.refl _)⟩
 case round =>
  clear H'
  obtain ⟨x8_1, rfl, HA, HK1, ⟨m1, rfl⟩⟩ := hrel
  cases gk with
  | zero => exact absurd HA.out (by simp [token_printed.l0])
  | succ k1 =>
   have H := HA.out
   clear HA
   simp only [token_printed.l0] at H
   by_cases c3 : x8_1 < (a0.size : Int)
   rotate_left
   · rw [if_neg c3] at H
     have c3b0 := decide_eq_false c3
     clear c3
     obtain rfl := Option.some.inj H
     go_wp2
     go_ret
     exact ⟨by first | rfl, by repeat (first | exact Drawn0.refl _ | apply Drawn0.step)⟩
   rw [if_pos c3] at H
   have c3b0 := decide_eq_true c3
   clear c3
   obtain ⟨c4, H⟩ := gd H
   have c4b0 := decide_eq_true c4
   clear c4
   obtain ⟨c5, H⟩ := gd H
   have c5b0 := decide_eq_true c5
   clear c5
   by_cases c7 : (bt a0 x8_1) = 10
   · rw [if_pos c7] at H
     have c7b0 := beq_iff_eq.mpr c7
     have c7b1 := bne_eq_false_iff_eq.mpr c7
     clear c7
     have H' := Aside0.mk H
     clear H
     have p6 : 0 ≤ (x8_1 : Int) := of_decide_eq_true (by assumption)
     have q6 : x8_1 < (a0.size : Int) := of_decide_eq_true (by assumption)
     have hx6 := bt_at a0 x8_1
     replace p6 := eq_true p6
     replace q6 := eq_true q6
     go_wp2
     go_roundg k1
     case measure => have := HK1.out; omega
     case rel => exact ⟨(wrap64 (x8_1 + 1)), rfl, H', ⟨by have := HK1.out; omega⟩, by repeat (first | exact Drawn0.refl _ | apply Drawn0.step)⟩
   rw [if_neg c7] at H
   have c7b0 := beq_eq_false_iff_ne.mpr c7
   have c7b1 := bne_iff_ne.mpr c7
   by_cases c9 : (bt a0 x8_1) < 32
   · rw [if_pos c9] at H
     have c9b0 := decide_eq_true c9
     clear c9
     obtain rfl := Option.some.inj H
     have p6 : 0 ≤ (x8_1 : Int) := of_decide_eq_true (by assumption)
     have q6 : x8_1 < (a0.size : Int) := of_decide_eq_true (by assumption)
     have hx6 := bt_at a0 x8_1
     replace p6 := eq_true p6
     replace q6 := eq_true q6
     have p8 : 0 ≤ (x8_1 : Int) := of_decide_eq_true (by assumption)
     have q8 : x8_1 < (a0.size : Int) := of_decide_eq_true (by assumption)
     have hx8 := bt_at a0 x8_1
     replace p8 := eq_true p8
     replace q8 := eq_true q8
     go_wp2
     go_ret
     exact ⟨by first | rfl, by repeat (first | exact Drawn0.refl _ | apply Drawn0.step)⟩
   rw [if_neg c9] at H
   have c9b0 := decide_eq_false c9
   clear c9
   by_cases c11 : (bt a0 x8_1) > 126
   · rw [if_pos c11] at H
     have c11b0 := decide_eq_true c11
     clear c11
     obtain rfl := Option.some.inj H
     have p6 : 0 ≤ (x8_1 : Int) := of_decide_eq_true (by assumption)
     have q6 : x8_1 < (a0.size : Int) := of_decide_eq_true (by assumption)
     have hx6 := bt_at a0 x8_1
     replace p6 := eq_true p6
     replace q6 := eq_true q6
     have p8 : 0 ≤ (x8_1 : Int) := of_decide_eq_true (by assumption)
     have q8 : x8_1 < (a0.size : Int) := of_decide_eq_true (by assumption)
     have hx8 := bt_at a0 x8_1
     replace p8 := eq_true p8
     replace q8 := eq_true q8
     have p10 : 0 ≤ (x8_1 : Int) := of_decide_eq_true (by assumption)
     have q10 : x8_1 < (a0.size : Int) := of_decide_eq_true (by assumption)
     have hx10 := bt_at a0 x8_1
     replace p10 := eq_true p10
     replace q10 := eq_true q10
     go_wp2
     go_ret
     exact ⟨by first | rfl, by repeat (first | exact Drawn0.refl _ | apply Drawn0.step)⟩
   rw [if_neg c11] at H
   have c11b0 := decide_eq_false c11
   clear c11
   have H' := Aside0.mk H
   clear H
   have p6 : 0 ≤ (x8_1 : Int) := of_decide_eq_true (by assumption)
   have q6 : x8_1 < (a0.size : Int) := of_decide_eq_true (by assumption)
   have hx6 := bt_at a0 x8_1
   replace p6 := eq_true p6
   replace q6 := eq_true q6
   have p8 : 0 ≤ (x8_1 : Int) := of_decide_eq_true (by assumption)
   have q8 : x8_1 < (a0.size : Int) := of_decide_eq_true (by assumption)
   have hx8 := bt_at a0 x8_1
   replace p8 := eq_true p8
   replace q8 := eq_true q8
   have p10 : 0 ≤ (x8_1 : Int) := of_decide_eq_true (by assumption)
   have q10 : x8_1 < (a0.size : Int) := of_decide_eq_true (by assumption)
   have hx10 := bt_at a0 x8_1
   replace p10 := eq_true p10
   replace q10 := eq_true q10
   go_wp2
   go_roundg k1
   case measure => have := HK1.out; omega
   case rel => exact ⟨(wrap64 (x8_1 + 1)), rfl, H', ⟨by have := HK1.out; omega⟩, by repeat (first | exact Drawn0.refl _ | apply Drawn0.step)⟩
end Go.Proofs.Ytcnllhnhinmokaa.PHGr
end
section
namespace Go.Proofs.Ytcnllhnhinmokaa.PHGr
open Go.RowKit Go.Proofs.YtcnllhnhinmokaaW.PrintWords Go.Proofs.YtcnllhnhinmokaaW.PrintLast Go.Proofs.YtcnllhnhinmokaaW.PrintMore
attribute [local go_sem] max2_int min2_int max_two min_two max_three min_three max_four min_four
set_option linter.unusedVariables false
set_option linter.unusedSimpArgs false
theorem token_ValidAtom.calls (k : Nat) (a0_1 : ByteArray) (a0_2 : Int) (r : Bool) (w : World) (h : token_printed.f k a0_1 60 = some r) :
 Calls Try.prog 114 #[.agg #[.string (⟨#[97, 116, 111, 109]⟩ : ByteArray), .string a0_1, .int .i64 a0_2]] w fun e w' => e = .returned (.bool r) ∧ Below w.heap.size w w' := by
 have hu164 := Try.underlying164
 have HB := Aside0.mk (Below.refl w.heap.size w)
 have c2b0 : ((⟨#[97, 116, 111, 109]⟩ : ByteArray).toList == ([118, 97, 114] : List UInt8)) = false := by rw [ByteArray.toList_eq]; rfl
 have c2b1 : ((⟨#[97, 116, 111, 109]⟩ : ByteArray).toList != ([118, 97, 114] : List UInt8)) = true := by rw [ByteArray.toList_eq]; rfl
 have c9b0 : ((⟨#[97, 116, 111, 109]⟩ : ByteArray).toList == ([97, 116, 111, 109] : List UInt8)) = true := by rw [ByteArray.toList_eq]; rfl
 have c9b1 : ((⟨#[97, 116, 111, 109]⟩ : ByteArray).toList != ([97, 116, 111, 109] : List UInt8)) = false := by rw [ByteArray.toList_eq]; rfl
 have c11b0 : ((⟨#[97, 116, 111, 109]⟩ : ByteArray).toList == ([116, 101, 120, 116] : List UInt8)) = false := by rw [ByteArray.toList_eq]; rfl
 have c11b1 : ((⟨#[97, 116, 111, 109]⟩ : ByteArray).toList != ([116, 101, 120, 116] : List UInt8)) = true := by rw [ByteArray.toList_eq]; rfl
 have A14 := Aside0.mk h
 go_enter Try.func114, Try.ntmps114
 go_wp2_with (first | ((with_reducible refine gate_dst (N := 1) rfl ?_); (try (refine gate_guard (by rfl) ?_; dsimp only)); refine box_event ?hg (N := 1) ?hd (cs := #[.string (⟨#[97, 116, 111, 109]⟩ : ByteArray), .string a0_1, .int .i64 a0_2]) (t := 164) ?hr ?_; (case hd => rfl); (case hg => rfl); (case hr => (go_simp; done)); intro gb166 hg w4 hbox hb; have n0_ := Aside0.mk (below_step HB.out hb); have n1_ := Aside0.mk (hbox); have n2_ := Aside0.mk ((by rw [hg]; exact (below_size HB.out) : w.heap.size ≤ gb166)); have n3_ := Aside0.mk ((by rw [hg]; exact (below_size HB.out) : w.heap.size ≤ gb166)); clear HB; have HB := n0_; have BK166 := n1_; have GW166 := n2_; have GE166 := n3_; clear n0_ n1_ n2_ n3_; clear hb hbox hg; have hcz5_0 : w4.cell? ⟨gb166, 0, none⟩ = some (.string (⟨#[97, 116, 111, 109]⟩ : ByteArray)) := (blk_cell BK166.out 0).trans rfl; have hcz5_1 : w4.cell? ⟨gb166, 1, none⟩ = some (.string a0_1) := (blk_cell BK166.out 1).trans rfl; have hcz5_2 : w4.cell? ⟨gb166, 2, none⟩ = some (.int .i64 a0_2) := (blk_cell BK166.out 2).trans rfl; have hfz5_0 := blk_frozen BK166.out 0; have hfz5_1 := blk_frozen BK166.out 1; have hfz5_2 := blk_frozen BK166.out 2) | ((with_reducible refine gate_callee (f := 128) rfl ?_); refine goesL_ (some 23) rfl rfl Try.func128 (by kernel_rfl) rfl #[.string a0_1, .int .i64 60] rfl (by (try simp only [List.map_toArray, List.map_cons, List.map_nil]); first | rfl) ?_; (with_reducible refine (token_printed.calls k a0_1 60 r _ A14.out).mono ?_); rintro e w' ⟨rfl, ⟨nd, rfl⟩⟩; refine ⟨_, rfl, ?_⟩))
 go_ret
 exact ⟨by first | rfl, by repeat ((with_reducible first | exact HB.out | apply pw_below_drewN))⟩
def grammar_isAtom.f (k : Nat) (a0 : ByteArray) : Option (Bool) := (token_printed.f k a0 60).bind fun t177 => (some t177)
set_option maxHeartbeats 8000000 in
set_option maxRecDepth 100000 in
theorem grammar_isAtom.calls (k : Nat) (a0 : ByteArray) (r : Bool) (w : World) (h : grammar_isAtom.f k a0 = some r) :
 Calls Try.prog 92 #[.string a0] w fun e w' => e = .returned (.bool r) ∧ Below w.heap.size w w' := by
 have hu164 := Try.underlying164
 have HB := Aside0.mk (Below.refl w.heap.size w)
 have H : ((token_printed.f k a0 60).bind fun t177 => (some t177)) = some r := h
 clear h
 replace H := Option.bind_eq_some_iff.mp H
 obtain ⟨t177, A20, H⟩ := H
 have A2 := Aside0.mk A20
 clear A20
 obtain rfl := Option.some.inj H
 go_enter Try.func92, Try.ntmps92
 go_wp2_with (((with_reducible refine gate_callee (f := 114) rfl ?_); refine goesL_ (some 5) rfl rfl Try.func114 (by kernel_rfl) rfl #[.agg #[.string (⟨#[97, 116, 111, 109]⟩ : ByteArray), .string a0, .int .i64 0]] rfl (by (try simp only [List.map_toArray, List.map_cons, List.map_nil]); first | rfl) ?_; (with_reducible refine (token_ValidAtom.calls k a0 0 t177 _ A2.out).mono ?_); rintro e w3 ⟨rfl, hb⟩; refine ⟨_, rfl, ?_⟩; have n0_ := Aside0.mk (below_step HB.out hb); clear HB; have HB := n0_; clear n0_; (try clear hb)))
 go_ret
 exact ⟨by first | rfl, by exact HB.out⟩
end Go.Proofs.Ytcnllhnhinmokaa.PHGr
end
section
namespace Go.StrMap
open Go.RowKit
def MapS (w : World) (b : Nat) (l : List (ByteArray × Value)) : Prop :=
 ∃ (es : Array MapEntry) (clk : Nat), w.heap[b]? = some (.map es clk) ∧ es.toList.map (fun e => (e.key, e.val)) = l.map (fun x => (Value.string x.1, x.2))
def findS : List (ByteArray × Value) → ByteArray → Option Value
 | [], _ => none
 | (s, v) :: l, t => if t = s then some v else findS l t
theorem bytes_beq (s t : ByteArray) : (s == t) = decide (s = t) := by
 obtain ⟨a⟩ := s
 obtain ⟨b⟩ := t
 show (a == b) = _
 by_cases h : a = b
 · subst h
   simp
 · have : ¬ (ByteArray.mk a = ByteArray.mk b) := fun e => h (by injection e)
   simp [h]
theorem findNow_S (s : ByteArray) : ∀ (es : List MapEntry) (l : List (ByteArray × Value)) (i : Nat), es.map (fun e => (e.key, e.val)) = l.map (fun x => (Value.string x.1, x.2)) →
  match findS l s with
  | some v => ∃ j, Instr.findNow .string (.string s) es i = some (some (j, v))
  | none => Instr.findNow .string (.string s) es i = some none
 | [], [], i, _ => rfl
 | [], _ :: _, _, h => by simp at h
 | _ :: _, [], _, h => by simp at h
 | e :: es, (t, v) :: l, i, h => by
   simp only [List.map_cons, List.cons.injEq, Prod.mk.injEq] at h
   obtain ⟨⟨h1, h2⟩, h3⟩ := h
   have rec' := findNow_S s es l (i + 1) h3
   simp only [findS, Instr.findNow, h1, Instr.sameNow]
   by_cases hs : s = t
   · subst hs
     simp [h2, bytes_beq]
   · have hb : (s == t) = false := by rw [bytes_beq]; simpa using hs
     simp only [hs, if_false, hb]
     exact rec'
theorem checkKey_S {P : Program} {w : World} {kt : TypeId} (hk : P.underlying kt = some .string) (s : ByteArray) (em : Bool) (n : Nat) : (Instr.checkKey em (n + 1) kt (.string s)).run P w = .ok () w := by
 simp [Instr.checkKey, run_underlying hk]
theorem findKey_S {P : Program} {w : World} {kt : TypeId} (hk : P.underlying kt = some .string) (s : ByteArray) {es : List MapEntry} {l : List (ByteArray × Value)} (h : es.map (fun e => (e.key, e.val)) = l.map (fun x => (Value.string x.1, x.2))) :
  match findS l s with
  | some v => ∃ j, (Instr.findKey kt (.string s) es).run P w = .ok (some (j, v)) w
  | none => (Instr.findKey kt (.string s) es).run P w = .ok none w := by
 have := findNow_S s es l 0 h
 cases hf : findS l s with
 | none =>
   rw [hf] at this
   simp [Instr.findKey, run_underlying hk, this]
 | some v =>
   rw [hf] at this
   obtain ⟨j, hj⟩ := this
   exact ⟨j, by simp [Instr.findKey, run_underlying hk, hj]⟩
theorem run_getMap {P : Program} {w : World} {r : Nat} {es : Array MapEntry} {k : Nat} (hw : w.heap[r]? = some (.map es k)) : (getObj r).run P w = .ok (.map es k) w := by
 simp [getObj, Sem.run, hw]
theorem look_hit {P : Program} {w : World} {t kt et : TypeId} {b : Nat} {l : List (ByteArray × Value)} {s : ByteArray} {v : Value} (ht : P.underlying t = some (.map kt et)) (hk : P.underlying kt = some .string) (h : MapS w b l) (hf : findS l s = some v) (ok : Bool) :
  (Instr.lookup t (.map (some b)) (.string s) ok).run P w = .ok (if ok then .tuple #[v, .bool true] else v) w := by
 obtain ⟨es, clk, hb, he⟩ := h
 have := findKey_S (P := P) (w := w) hk s he
 rw [hf] at this
 obtain ⟨j, hj⟩ := this
 simp [Instr.lookup, run_underlying ht, run_getMap hb, checkKey_S hk, hj]
theorem look_miss {P : Program} {w : World} {t kt et : TypeId} {b : Nat} {l : List (ByteArray × Value)} {s : ByteArray} {z : Value} (ht : P.underlying t = some (.map kt et)) (hk : P.underlying kt = some .string) (hz : (zeroValue et).run P w = .ok z w) (h : MapS w b l) (hf : findS l s = none) (ok : Bool) :
  (Instr.lookup t (.map (some b)) (.string s) ok).run P w = .ok (if ok then .tuple #[z, .bool false] else z) w := by
 obtain ⟨es, clk, hb, he⟩ := h
 have := findKey_S (P := P) (w := w) hk s he
 rw [hf] at this
 simp [Instr.lookup, run_underlying ht, run_getMap hb, checkKey_S hk, this, hz]
open Go.ChangeMaps in
theorem put_new {P : Program} {w : World} {t kt et : TypeId} {b : Nat} {l : List (ByteArray × Value)} {s : ByteArray} (ht : P.underlying t = some (.map kt et)) (hk : P.underlying kt = some .string) (h : MapS w b l) (hf : findS l s = none) (v : Value) :
  ∃ w', (Instr.mapUpdate t (.map (some b)) (.string s) v).run P w = .ok () w' ∧ MapS w' b (l ++ [(s, v)]) ∧ w.grownBy w' (some b) := by
 obtain ⟨es, clk, hb, he⟩ := h
 have hfind := findKey_S (P := P) (w := w) hk s he
 rw [hf] at hfind
 refine ⟨setBlock w b (.map (es.push { key := .string s, val := v, born := clk }) (clk + 1)), ?_, ⟨_, _, heap_setBlock_same hb _, by simp [he]⟩, ?_⟩
 · simp [Instr.mapUpdate, run_underlying ht, run_getMap hb, checkKey_S hk, hfind, MapKept.run_setObj_map _ hb, setBlock]
 · exact ⟨rfl, rfl, rfl, by simp [setBlock], fun i _ hi => heap_setBlock_other hb _ (fun e => hi (by rw [e]))⟩
theorem MapS.kept {w w' : World} {b : Nat} {l : List (ByteArray × Value)} (h : MapS w b l) (hw : w'.heap[b]? = w.heap[b]?) : MapS w' b l := by
 obtain ⟨es, clk, hb, he⟩ := h
 exact ⟨es, clk, by rw [hw, hb], he⟩
theorem MapS.lt {w : World} {b : Nat} {l : List (ByteArray × Value)} (h : MapS w b l) : b < w.heap.size := by
 obtain ⟨es, clk, hb, _⟩ := h
 exact (Array.getElem?_eq_some_iff.1 hb).1
theorem MapS.below {w w' : World} {b : Nat} {l : List (ByteArray × Value)} (h : MapS w b l) (hb : Below w.heap.size w w') : MapS w' b l := h.kept (hb.block b h.lt)
end Go.StrMap
end
section
namespace Go.StrMap
open Go.RowKit
def keyed (l : List ByteArray) : List (ByteArray × Value) := l.zipIdx.map fun x => (x.1, Value.int .i64 (x.2 : Int))
def MV (A : Option Addr) : Value := .map (A.map (·.block))
def MC (w : World) (A : Option Addr) (l : List ByteArray) : Prop := (A = none ∧ l = []) ∨ ∃ b, A = some ⟨b, 0, none⟩ ∧ MapS w b (keyed l)
def MR (w : World) (v : Value) (l : List ByteArray) : Prop := ∃ A, v = MV A ∧ MC w A l
theorem MC_kept {w w' : World} {A : Option Addr} {l : List ByteArray} (h : MC w A l) (hw : ∀ k, k < w.heap.size → w'.heap[k]? = w.heap[k]?) : MC w' A l := by
 rcases h with h | ⟨b, e, hM⟩
 · exact .inl h
 · exact .inr ⟨b, e, hM.kept (hw b hM.lt)⟩
theorem MC_below {w w' : World} {A : Option Addr} {l : List ByteArray} (h : MC w A l) (hb : Below w.heap.size w w') : MC w' A l := MC_kept h hb.block
theorem MR_below {w w' : World} {v : Value} {l : List ByteArray} (h : MR w v l) (hb : Below w.heap.size w w') : MR w' v l := by
 obtain ⟨A, e, h⟩ := h
 exact ⟨A, e, MC_below h hb⟩
def mapS_look.f (l : List ByteArray) (s : ByteArray) : Option (Int × Bool) :=
 match findS (keyed l) s with
 | some (.int _ n) => some (n, true)
 | some _ => none
 | none => some (0, false)
theorem findS_keyed_aux (s : ByteArray) : ∀ (l : List ByteArray) (i : Nat) (v : Value), findS ((l.zipIdx i).map fun x => (x.1, Value.int .i64 (x.2 : Int))) s = some v → ∃ n : Nat, v = .int .i64 (n : Int)
 | [], _, _, h => by simp [findS] at h
 | t :: l, i, v, h => by
   simp only [List.zipIdx_cons, List.map_cons, findS] at h
   split at h
   · injection h with h
     exact ⟨i, h.symm⟩
   · exact findS_keyed_aux s l (i + 1) v h
theorem wpList_look_MC {P : Program} {ops : Array Oper} {rest : List Oper} {o : Oper} {a : Act} {Q : Exit → Act → World → Prop} (w : World) (hg : o.guard = none) (m x : Operand) (t : TypeId) (hop : o.op = Op.lookup t m x true)
  (kt et : TypeId) (ht : P.underlying t = some (.map kt et)) (hk : P.underlying kt = some .string) (hz : (zeroValue et).run P w = .ok (.int .i64 0) w) (A : Option Addr) (l : List ByteArray) (s : ByteArray)
  (hm : a.eval m = MV A) (hM : MC w A l) (hx : a.eval x = .string s) (r1 : Int) (r2 : Bool) (hf : mapS_look.f l s = some (r1, r2))
  (hK : wpList P ops Q rest (a.put o.dst (.tuple #[.int .i64 r1, .bool r2])) w) : wpList P ops Q (o :: rest) a w := by
 refine wpList_plain hg fun K' hK' => ?_
 rcases hM with ⟨rfl, rfl⟩ | ⟨b, rfl, hM⟩
 · have hm' : a.eval m = .map none := hm
   have he : mapS_look.f [] s = some (0, false) := rfl
   rw [he] at hf
   simp only [Option.some.injEq, Prod.mk.injEq] at hf
   obtain ⟨rfl, rfl⟩ := hf
   have hrun : (Instr.lookup t (.map none) (.string s) true).run P w = .ok (.tuple #[.int .i64 0, .bool false]) w := by
    have hfind : (Instr.findKey kt (.string s) []).run P w = .ok none w := by simp [Instr.findKey, run_underlying hk, Instr.findNow]
    simp [Instr.lookup, run_underlying ht, checkKey_S hk, hfind, hz]
   unfold Oper.wp
   simp [execOp, hop, hm', hx, hrun, Result.andThen]
   exact hK' _ _ hK
 have hrun : (Instr.lookup t (.map (some b)) (.string s) true).run P w = .ok (.tuple #[.int .i64 r1, .bool r2]) w := by
  unfold mapS_look.f at hf
  cases hfs : findS (keyed l) s with
  | none =>
    rw [hfs] at hf
    simp only [Option.some.injEq, Prod.mk.injEq] at hf
    obtain ⟨rfl, rfl⟩ := hf
    simpa using look_miss ht hk hz hM hfs true
  | some v =>
    obtain ⟨n, rfl⟩ := findS_keyed_aux s l 0 v hfs
    rw [hfs] at hf
    simp only [Option.some.injEq, Prod.mk.injEq] at hf
    obtain ⟨rfl, rfl⟩ := hf
    simpa using look_hit ht hk hM hfs true
 have hm' : a.eval m = .map (some b) := hm
 unfold Oper.wp
 simp [execOp, hop, hm', hx, hrun, Result.andThen]
 exact hK' _ _ hK
theorem MapS_set {w : World} {b : Nat} {l : List (ByteArray × Value)} (h : MapS w b l) (p : Addr) (u : Value) : MapS (w.setCell p u) b l := by
 obtain ⟨es, clk, hb, he⟩ := h
 refine ⟨es, clk, ?_, he⟩
 simp [World.setCell, Array.getElem?_modify, hb]
def MQ (w : World) (_base : Nat) (_ok : Nat → Prop) (v : Value) (l : List ByteArray) : Prop := MR w v l
section
variable {w w' : World} {base base' : Nat} {ok ok' : Nat → Prop} {v : Value} {l : List ByteArray}
theorem MR_of (h : MR w v l) (hw : ∀ b m, MapS w b m → MapS w' b m) : MR w' v l := by
 obtain ⟨A, e, h⟩ := h
 refine ⟨A, e, ?_⟩
 rcases h with h | ⟨b, e2, hM⟩
 · exact .inl h
 · exact .inr ⟨b, e2, hw _ _ hM⟩
theorem MQ_lower (h : MQ w base ok v l) (_ : base' ≤ base) : MQ w base' ok v l := h
theorem MQ_mono (h : MQ w base ok v l) (_ : ∀ k, ok k → ok' k) : MQ w base ok' v l := h
theorem MQ_types {g : Nat} {o : Obj} (h : MQ w base ok v l) (_ : w.heap[g]? = some o) (_ : True) : MQ w base (fun k => ok k ∧ k ≠ g) v l := h
theorem MQ_far {p : Addr} (h : MQ w base ok v l) (_ : ∀ k, ok k → k ≠ p.block) (u : Value) : MQ (w.setCell p u) base ok v l := MR_of h fun _ _ hM => MapS_set hM p u
theorem MQ_drewN (h : MQ w base ok v l) (n : Nat) : MQ (w.drewN n) base ok v l := h
theorem MQ_below (h : MQ w base ok v l) (hb : Below w.heap.size w w') : MQ w' base ok v l := MR_below h hb
theorem MQ_open (h : MQ w base ok v l) : ∃ A, v = MV A ∧ MC w A l := h
theorem MC_of_MQ {w0 : World} {l0 : List ByteArray} {A : Option Addr} (h : MQ w base ok (MV A) l) (h0 : MC w0 A l0) : MC w A l := by
 obtain ⟨A', e, h⟩ := h
 have : A' = A := by
  rcases h with ⟨rfl, _⟩ | ⟨b, rfl, _⟩ <;> rcases h0 with ⟨rfl, _⟩ | ⟨b0, rfl, _⟩
  · rfl
  · simp [MV] at e
  · simp [MV] at e
  · simp only [MV, Option.map_some, Value.map.injEq, Option.some.injEq] at e
    rw [e]
 rw [this] at h
 exact h
end
theorem findS_keyed_none_aux (s : ByteArray) : ∀ (l : List ByteArray) (i : Nat), (s ∉ l) ↔ findS ((l.zipIdx i).map fun x => (x.1, Value.int .i64 (x.2 : Int))) s = none
 | [], _ => by simp [findS]
 | t :: l, i => by
   have ih := findS_keyed_none_aux s l (i + 1)
   simp only [List.zipIdx_cons, List.map_cons, findS, List.mem_cons, not_or]
   by_cases h : s = t
   · simp [h]
   · simp only [h, not_false_eq_true, true_and, if_false]
     exact ih
theorem findS_keyed_none {s : ByteArray} {l : List ByteArray} : s ∉ l ↔ findS (keyed l) s = none := findS_keyed_none_aux s l 0
theorem look_miss_f {s : ByteArray} {l : List ByteArray} (h : s ∉ l) : mapS_look.f l s = some (0, false) := by
 unfold mapS_look.f
 rw [findS_keyed_none.1 h]
theorem look_hit_f {s : ByteArray} {l : List ByteArray} (h : s ∈ l) : ∃ n : Int, mapS_look.f l s = some (n, true) := by
 unfold mapS_look.f
 cases hf : findS (keyed l) s with
 | none => exact absurd h (findS_keyed_none.2 hf)
 | some v =>
   obtain ⟨n, rfl⟩ := findS_keyed_aux s l 0 v hf
   exact ⟨n, rfl⟩
theorem keyed_snoc (l : List ByteArray) (s : ByteArray) : keyed l ++ [(s, Value.int .i64 (l.length : Int))] = keyed (l ++ [s]) := by
 simp [keyed, List.zipIdx_append]
theorem wpList_put_new {P : Program} {ops : Array Oper} {rest : List Oper} {o : Oper} {a : Act} {Q : Exit → Act → World → Prop} (w : World) (hg : o.guard = none) (m x v : Operand) (t : TypeId) (hop : o.op = Op.mapUpdate t m x v)
  (kt et : TypeId) (ht : P.underlying t = some (.map kt et)) (hk : P.underlying kt = some .string) (b : Nat) (l : List (ByteArray × Value)) (s : ByteArray) (u : Value)
  (hm : a.eval m = .map (some b)) (hM : MapS w b l) (hx : a.eval x = .string s) (hv : a.eval v = u) (hf : findS l s = none)
  (hK : ∀ w', MapS w' b (l ++ [(s, u)]) → w.grownBy w' (some b) → wpList P ops Q rest (a.put o.dst undef) w') : wpList P ops Q (o :: rest) a w := by
 refine wpList_plain hg fun K' hK' => ?_
 obtain ⟨w', hrun, r1, r2⟩ := put_new ht hk hM hf u
 unfold Oper.wp
 simp [execOp, hop, hm, hx, hv, hrun, Result.andThen]
 exact hK' _ _ (hK w' r1 r2)
theorem wpList_makeMap_new {P : Program} {ops : Array Oper} {rest : List Oper} {o : Oper} {a : Act} {Q : Exit → Act → World → Prop} (w : World) (hg : o.guard = none) (t : TypeId) (hop : o.op = Op.makeMap t none)
  (hK : ∀ b w', b = w.heap.size → MapS w' b [] → Below w.heap.size w w' → wpList P ops Q rest (a.put o.dst (.map (some b))) w') : wpList P ops Q (o :: rest) a w := by
 refine wpList_plain hg fun K' hK' => ?_
 have hrun : (Instr.makeMap t none).run P w = .ok (.map (some w.heap.size)) (w.alloc (.map #[] 0)) := by
  simp [Instr.makeMap]
 unfold Oper.wp
 simp [execOp, hop, hrun, Result.andThen]
 exact hK' _ _ (hK _ _ rfl ⟨#[], 0, heap_alloc_new w _, rfl⟩ ((Below.refl _ _).alloc (Nat.le_refl _) _))
end Go.StrMap
end
section
namespace Go.Proofs.Ytcnllhnhinmokaa.PHGr
open Go.StrMap Go.RowKit Go.Proofs.YtcnllhnhinmokaaW.PrintWords Go.Proofs.YtcnllhnhinmokaaW.PrintLast Go.Proofs.YtcnllhnhinmokaaW.PrintMore
attribute [local go_sem] max2_int min2_int max_two min_two max_three min_three max_four min_four
set_option linter.unusedVariables false
set_option linter.unusedSimpArgs false
mutual
def grammar_right.l0 : Nat → List ByteArray → Int → List (S52) → Int → Int → ByteArray → ByteArray → List (S52) → Option (Bool)
 | 0, _, _, _, _, _, _, _, _ => none
 | k + 1, x1, x5, x14, x15, x16, x179000, x179001, x179002 => if x16 < x15 then (if 0 ≤ x16 then (if x16 < (x14.length : Int) then ((grammar_right.f k ((rd_T52 x14 x16).f0) ((rd_T52 x14 x16).f1) ((rd_T52 x14 x16).f2) x1).bind fun t181 => (if t181 = true then (grammar_right.l0 k x1 x5 x14 x15 (wrap64 (x16 + 1)) x179000 x179001 x179002) else (some false))) else (none)) else (none)) else (if x179000.toList = ([105, 115] : List UInt8) then (if x5 = 0 then ((grammar_isAtom.f k x179001).bind fun t182 => (some t182)) else (some false)) else (if x179000.toList = ([114, 117, 108, 101] : List UInt8) then ((mapS_look.f x1 x179001).bind fun bt183 => (if x5 = 0 then (some bt183.2) else (some false))) else (if x179001.toList = ([] : List UInt8) then (if x179000.toList = ([97, 110, 121] : List UInt8) then (grammar_right.j1 k x5 x179000 (x179000.toList == ([97, 110, 121] : List UInt8))) else (grammar_right.j1 k x5 x179000 (x179000.toList == ([110, 111, 116, 104, 105, 110, 103] : List UInt8)))) else (some false))))
def grammar_right.j1 : Nat → Int → ByteArray → Bool → Option (Bool)
 | 0, _, _, _ => none
 | k + 1, x5, x54, x55 => if x55 = true then (some (x5 == 0)) else (if x54.toList = ([115, 101, 113] : List UInt8) then (grammar_right.j2 k x5 x54 (x54.toList == ([115, 101, 113] : List UInt8))) else (grammar_right.j2 k x5 x54 (x54.toList == ([111, 114] : List UInt8))))
def grammar_right.j2 : Nat → Int → ByteArray → Bool → Option (Bool)
 | 0, _, _, _ => none
 | k + 1, x5, x54, x60 => if x60 = true then (some (decide (x5 ≥ 1))) else (if x54.toList = ([109, 97, 110, 121] : List UInt8) then (some (x5 == 1)) else (if x54.toList = ([111, 112, 116] : List UInt8) then (some (x5 == 1)) else (if x54.toList = ([110, 111, 116] : List UInt8) then (some (x5 == 1)) else (some false))))
def grammar_right.f : Nat → ByteArray → ByteArray → List (S52) → List ByteArray → Option (Bool)
 | 0, _, _, _, _ => none
 | k + 1, a0_0, a0_1, l0_2, l1 => grammar_right.l0 k l1 (l0_2.length : Int) l0_2 (l0_2.length : Int) 0 a0_0 a0_1 l0_2
end
set_option maxHeartbeats 8000000 in
set_option maxRecDepth 100000 in
theorem grammar_right.calls (k : Nat) : ∀ (a0_0 : ByteArray) (a0_1 : ByteArray) (A0_2 : Option Addr) (c0_2 : Nat) (l0_2 : List (S52)) (A1 : Option Addr) (c1 : Nat) (l1 : List ByteArray) (r : Bool) (w : World) (hr0_2 : Kd.C k52 w A0_2 l0_2.length l0_2) (hc0_2 : l0_2.length ≤ c0_2) (hr1 : MC w A1 l1) (hc1 : l1.length ≤ c1) (h : grammar_right.f k a0_0 a0_1 l0_2 l1 = some r),
 Calls Try.prog 67 #[.agg #[.string a0_0, .string a0_1, .slice A0_2 l0_2.length c0_2], MV A1] w fun e w' => e = .returned (.bool r) ∧ Below w.heap.size w w' := by
 induction k using Nat.strongRecOn with
 | _ k ih =>
 intro a0_0 a0_1 A0_2 c0_2 l0_2 A1 c1 l1 r w hr0_2 hc0_2 hr1 hc1 h
 cases k with
 | zero => exact absurd h (by simp [grammar_right.f])
 | succ k =>
 simp only [grammar_right.f] at h
 have hu52 := Try.underlying52
 have HR0_2 := Aside0.mk hr0_2
 have HC0_2 := Aside0.mk hc0_2
 clear hr0_2 hc0_2
 have HR1 := Aside0.mk hr1
 have HC1 := Aside0.mk hc1
 clear hr1 hc1
 have HB := Aside0.mk (Below.refl w.heap.size w)
 have H : (grammar_right.l0 k l1 (l0_2.length : Int) l0_2 (l0_2.length : Int) 0 a0_0 a0_1 l0_2) = some r := h
 clear h
 have H' := Aside0.mk H
 clear H
 go_enter Try.func67, Try.ntmps67
 go_wp2_with (((with_reducible refine gate_dst (N := 2) rfl ?_); refine box_event ?hg (N := 2) ?hd (cs := #[.string a0_0, .string a0_1, .slice A0_2 l0_2.length c0_2]) (t := 52) ?hr ?_; (case hd => rfl); (case hg => rfl); (case hr => (go_simp; done)); intro gb178 hg w3 hbox hb; have n0_ := Aside0.mk (below_step HB.out hb); have n1_ := Aside0.mk (hbox); have n2_ := Aside0.mk ((by rw [hg]; exact (below_size HB.out) : w.heap.size ≤ gb178)); have n3_ := Aside0.mk ((by rw [hg]; exact (below_size HB.out) : w.heap.size ≤ gb178)); clear HB; have HB := n0_; have BK178 := n1_; have GW178 := n2_; have GE178 := n3_; clear n0_ n1_ n2_ n3_; clear hb hbox hg; have hcz4_0 : w3.cell? ⟨gb178, 0, none⟩ = some (.string a0_0) := (blk_cell BK178.out 0).trans rfl; have hcz4_1 : w3.cell? ⟨gb178, 1, none⟩ = some (.string a0_1) := (blk_cell BK178.out 1).trans rfl; have hcz4_2 : w3.cell? ⟨gb178, 2, none⟩ = some (.slice A0_2 l0_2.length c0_2) := (blk_cell BK178.out 2).trans rfl; have hfz4_0 := blk_frozen BK178.out 0; have hfz4_1 := blk_frozen BK178.out 1; have hfz4_2 := blk_frozen BK178.out 2))
 go_loopg [16] k (fun kq v16 w' => ∃ (x16_1 : Int), v16 = .int .i64 x16_1 ∧ Aside0 (grammar_right.l0 kq l1 (l0_2.length : Int) l0_2 (l0_2.length : Int) x16_1 a0_0 a0_1 l0_2 = some r) ∧ Aside0 (kq ≤ k) ∧ Aside0 (w'.heap[gb178]? = some (.cells #[.string a0_0, .string a0_1, (.slice A0_2 l0_2.length c0_2)] 52 (0, 0))) ∧ Aside0 (Below w.heap.size w w'))
 case atStart => exact ⟨(0), rfl, H', ⟨Nat.le_refl _⟩, ⟨BK178.out⟩, ⟨by exact HB.out⟩⟩
 case round =>
  clear H'
  clear hcz4_0 hcz4_1 hcz4_2 hfz4_0 hfz4_1 hfz4_2
  obtain ⟨x16_1, rfl, HA, HK1, BK178, HB⟩ := hrel
  cases gk with
  | zero => exact absurd HA.out (by simp [grammar_right.l0])
  | succ k1 =>
   have H := HA.out
   clear HA
   simp only [grammar_right.l0] at H
   by_cases c5 : x16_1 < (l0_2.length : Int)
   · rw [if_pos c5] at H
     have c5b0 := decide_eq_true c5
     clear c5
     obtain ⟨c6, H⟩ := gd H
     have c6b0 := decide_eq_true c6
     clear c6
     obtain ⟨c7, H⟩ := gd H
     have c7b0 := decide_eq_true c7
     clear c7
     replace H := Option.bind_eq_some_iff.mp H
     obtain ⟨t181, A80, H⟩ := H
     have A8 := Aside0.mk A80
     clear A80
     by_cases c9 : t181 = true
     rotate_left
     · replace c9 := Bool.eq_false_iff.mpr c9
       subst c9
       rw [if_neg (show ¬ (false = true) by decide)] at H
       obtain rfl := Option.some.inj H
       have p179 : 0 ≤ (x16_1 : Int) := of_decide_eq_true (by assumption)
       have q179 : x16_1 < (l0_2.length : Int) := of_decide_eq_true (by assumption)
       obtain ⟨ad179, A179_2, c179_2, e179, hx179_0, hx179_1, hx179_2, hl179_2, hi179_2⟩ := at_T52 HR0_2.out x16_1 p179 q179
       cases e179
       replace hx179_0 := ct HB.out hx179_0
       replace hx179_1 := ct HB.out hx179_1
       replace hx179_2 := ct HB.out hx179_2
       have HR179_2 := Aside0.mk hi179_2
       have HC179_2 := Aside0.mk hl179_2
       clear hi179_2 hl179_2
       replace p179 := eq_true p179
       replace q179 := eq_true q179
       go_wp2_with (first | ((with_reducible refine gate_dst (N := 7) rfl ?_); refine box_event ?hg (N := 7) ?hd (cs := #[.string (⟨#[]⟩ : ByteArray), .string (⟨#[]⟩ : ByteArray), .slice none 0 0]) (t := 52) ?hr ?_; (case hd => rfl); (case hg => rfl); (case hr => (go_simp; done)); intro gb180 hg w14 hbox hb; have n0_ := Aside0.mk (blk_below (g := gb178) (o := .cells #[.string a0_0, .string a0_1, .slice (some ad179) l0_2.length c0_2] 52 (0, 0)) BK178.out hb); have n1_ := Aside0.mk (below_step HB.out hb); have n2_ := Aside0.mk (hbox); have n3_ := Aside0.mk ((by rw [hg]; exact (below_size HB.out) : w.heap.size ≤ gb180)); have n4_ := Aside0.mk ((by rw [hg]; exact (below_size HB.out) : w.heap.size ≤ gb180)); have n5_ := Aside0.mk ((by rw [hg]; exact Nat.ne_of_lt (blk_lt (g := gb178) (o := .cells #[.string a0_0, .string a0_1, .slice (some ad179) l0_2.length c0_2] 52 (0, 0)) BK178.out) : gb178 ≠ gb180)); have n6_ := Aside0.mk ((by rw [hg]; exact Nat.ne_of_gt (blk_lt (g := gb178) (o := .cells #[.string a0_0, .string a0_1, .slice (some ad179) l0_2.length c0_2] 52 (0, 0)) BK178.out) : gb180 ≠ gb178)); clear BK178; clear HB; have BK178 := n0_; have HB := n1_; have BK180 := n2_; have GW180 := n3_; have GE180 := n4_; have NB178_180 := n5_; have NB180_178 := n6_; clear n0_ n1_ n2_ n3_ n4_ n5_ n6_; clear hb hbox hg; have hnb15 := NB180_178.out; have hnc15 := NB178_180.out; have hcz16_0 : w14.cell? ⟨gb180, 0, none⟩ = some (.string (⟨#[]⟩ : ByteArray)) := (blk_cell BK180.out 0).trans rfl; have hcz16_1 : w14.cell? ⟨gb180, 1, none⟩ = some (.string (⟨#[]⟩ : ByteArray)) := (blk_cell BK180.out 1).trans rfl; have hcz16_2 : w14.cell? ⟨gb180, 2, none⟩ = some (.slice none 0 0) := (blk_cell BK180.out 2).trans rfl; have hfz16_0 := blk_frozen BK180.out 0; have hfz16_1 := blk_frozen BK180.out 1; have hfz16_2 := blk_frozen BK180.out 2) | ((with_reducible refine gate_callee (f := 67) rfl ?_); refine goesL_ (some 22) rfl rfl Try.func67 (by kernel_rfl) rfl #[.agg #[.string ((rd_T52 l0_2 x16_1).f0), .string ((rd_T52 l0_2 x16_1).f1), .slice A179_2 ((rd_T52 l0_2 x16_1).f2).length c179_2], MV A1] rfl (by (try simp only [List.map_toArray, List.map_cons, List.map_nil]); first | rfl) ?_; (with_reducible refine (ih k1 (by have := HK1.out; omega) ((rd_T52 l0_2 x16_1).f0) ((rd_T52 l0_2 x16_1).f1) _ _ ((rd_T52 l0_2 x16_1).f2) A1 c1 l1 false _ ?side1 ?side2 ?side3 ?side4 A8.out).mono ?_); (case side1 => exact Kd.C_below HR179_2.out (by repeat ((with_reducible first | exact HB.out | refine below_set ?_ GE180.out)))); (case side2 => exact HC179_2.out); (case side3 => exact MC_below HR1.out (by repeat ((with_reducible first | exact HB.out | refine below_set ?_ GE180.out)))); (case side4 => exact HC1.out); rintro e w17 ⟨rfl, hb⟩; refine ⟨_, rfl, ?_⟩; have n0_ := Aside0.mk (blk_below (g := gb178) (o := .cells #[.string a0_0, .string a0_1, .slice (some ad179) l0_2.length c0_2] 52 (0, 0)) (by (with_reducible repeat (first | fail)); refine blk_far ?_ NB178_180.out _; (with_reducible repeat (first | fail)); refine blk_far ?_ NB178_180.out _; (with_reducible repeat (first | fail)); refine blk_far ?_ NB178_180.out _; (with_reducible repeat (first | fail)); exact BK178.out) hb); have n1_ := Aside0.mk (blk_below (g := gb180) (o := .cells #[.string ((rd_T52 l0_2 x16_1).f0), .string ((rd_T52 l0_2 x16_1).f1), .slice A179_2 ((rd_T52 l0_2 x16_1).f2).length c179_2] 52 (0, 0)) (by (with_reducible repeat (first | fail)); refine blk_put (cs := #[.string ((rd_T52 l0_2 x16_1).f0), .string ((rd_T52 l0_2 x16_1).f1), .slice none 0 0]) ?_ 2 _ rfl; (with_reducible repeat (first | fail)); refine blk_put (cs := #[.string ((rd_T52 l0_2 x16_1).f0), .string (⟨#[]⟩ : ByteArray), .slice none 0 0]) ?_ 1 _ rfl; (with_reducible repeat (first | fail)); refine blk_put (cs := #[.string (⟨#[]⟩ : ByteArray), .string (⟨#[]⟩ : ByteArray), .slice none 0 0]) ?_ 0 _ rfl; (with_reducible repeat (first | fail)); exact BK180.out) hb); have n2_ := Aside0.mk (below_step (by repeat ((with_reducible first | exact HB.out | refine below_set ?_ GE180.out))) hb); clear BK178; clear BK180; clear HB; have BK178 := n0_; have BK180 := n1_; have HB := n2_; clear n0_ n1_ n2_; (try clear hb)))
       go_ret
       exact ⟨by first | rfl, by exact HB.out⟩
     subst c9
     rw [if_pos rfl] at H
     have H' := Aside0.mk H
     clear H
     have p179 : 0 ≤ (x16_1 : Int) := of_decide_eq_true (by assumption)
     have q179 : x16_1 < (l0_2.length : Int) := of_decide_eq_true (by assumption)
     obtain ⟨ad179, A179_2, c179_2, e179, hx179_0, hx179_1, hx179_2, hl179_2, hi179_2⟩ := at_T52 HR0_2.out x16_1 p179 q179
     cases e179
     replace hx179_0 := ct HB.out hx179_0
     replace hx179_1 := ct HB.out hx179_1
     replace hx179_2 := ct HB.out hx179_2
     have HR179_2 := Aside0.mk hi179_2
     have HC179_2 := Aside0.mk hl179_2
     clear hi179_2 hl179_2
     replace p179 := eq_true p179
     replace q179 := eq_true q179
     go_wp2_with (first | ((with_reducible refine gate_dst (N := 7) rfl ?_); refine box_event ?hg (N := 7) ?hd (cs := #[.string (⟨#[]⟩ : ByteArray), .string (⟨#[]⟩ : ByteArray), .slice none 0 0]) (t := 52) ?hr ?_; (case hd => rfl); (case hg => rfl); (case hr => (go_simp; done)); intro gb180 hg w10 hbox hb; have n0_ := Aside0.mk (blk_below (g := gb178) (o := .cells #[.string a0_0, .string a0_1, .slice (some ad179) l0_2.length c0_2] 52 (0, 0)) BK178.out hb); have n1_ := Aside0.mk (below_step HB.out hb); have n2_ := Aside0.mk (hbox); have n3_ := Aside0.mk ((by rw [hg]; exact (below_size HB.out) : w.heap.size ≤ gb180)); have n4_ := Aside0.mk ((by rw [hg]; exact (below_size HB.out) : w.heap.size ≤ gb180)); have n5_ := Aside0.mk ((by rw [hg]; exact Nat.ne_of_lt (blk_lt (g := gb178) (o := .cells #[.string a0_0, .string a0_1, .slice (some ad179) l0_2.length c0_2] 52 (0, 0)) BK178.out) : gb178 ≠ gb180)); have n6_ := Aside0.mk ((by rw [hg]; exact Nat.ne_of_gt (blk_lt (g := gb178) (o := .cells #[.string a0_0, .string a0_1, .slice (some ad179) l0_2.length c0_2] 52 (0, 0)) BK178.out) : gb180 ≠ gb178)); clear BK178; clear HB; have BK178 := n0_; have HB := n1_; have BK180 := n2_; have GW180 := n3_; have GE180 := n4_; have NB178_180 := n5_; have NB180_178 := n6_; clear n0_ n1_ n2_ n3_ n4_ n5_ n6_; clear hb hbox hg; have hnb11 := NB180_178.out; have hnc11 := NB178_180.out; have hcz12_0 : w10.cell? ⟨gb180, 0, none⟩ = some (.string (⟨#[]⟩ : ByteArray)) := (blk_cell BK180.out 0).trans rfl; have hcz12_1 : w10.cell? ⟨gb180, 1, none⟩ = some (.string (⟨#[]⟩ : ByteArray)) := (blk_cell BK180.out 1).trans rfl; have hcz12_2 : w10.cell? ⟨gb180, 2, none⟩ = some (.slice none 0 0) := (blk_cell BK180.out 2).trans rfl; have hfz12_0 := blk_frozen BK180.out 0; have hfz12_1 := blk_frozen BK180.out 1; have hfz12_2 := blk_frozen BK180.out 2) | ((with_reducible refine gate_callee (f := 67) rfl ?_); refine goesL_ (some 22) rfl rfl Try.func67 (by kernel_rfl) rfl #[.agg #[.string ((rd_T52 l0_2 x16_1).f0), .string ((rd_T52 l0_2 x16_1).f1), .slice A179_2 ((rd_T52 l0_2 x16_1).f2).length c179_2], MV A1] rfl (by (try simp only [List.map_toArray, List.map_cons, List.map_nil]); first | rfl) ?_; (with_reducible refine (ih k1 (by have := HK1.out; omega) ((rd_T52 l0_2 x16_1).f0) ((rd_T52 l0_2 x16_1).f1) _ _ ((rd_T52 l0_2 x16_1).f2) A1 c1 l1 true _ ?side1 ?side2 ?side3 ?side4 A8.out).mono ?_); (case side1 => exact Kd.C_below HR179_2.out (by repeat ((with_reducible first | exact HB.out | refine below_set ?_ GE180.out)))); (case side2 => exact HC179_2.out); (case side3 => exact MC_below HR1.out (by repeat ((with_reducible first | exact HB.out | refine below_set ?_ GE180.out)))); (case side4 => exact HC1.out); rintro e w13 ⟨rfl, hb⟩; refine ⟨_, rfl, ?_⟩; have n0_ := Aside0.mk (blk_below (g := gb178) (o := .cells #[.string a0_0, .string a0_1, .slice (some ad179) l0_2.length c0_2] 52 (0, 0)) (by (with_reducible repeat (first | fail)); refine blk_far ?_ NB178_180.out _; (with_reducible repeat (first | fail)); refine blk_far ?_ NB178_180.out _; (with_reducible repeat (first | fail)); refine blk_far ?_ NB178_180.out _; (with_reducible repeat (first | fail)); exact BK178.out) hb); have n1_ := Aside0.mk (blk_below (g := gb180) (o := .cells #[.string ((rd_T52 l0_2 x16_1).f0), .string ((rd_T52 l0_2 x16_1).f1), .slice A179_2 ((rd_T52 l0_2 x16_1).f2).length c179_2] 52 (0, 0)) (by (with_reducible repeat (first | fail)); refine blk_put (cs := #[.string ((rd_T52 l0_2 x16_1).f0), .string ((rd_T52 l0_2 x16_1).f1), .slice none 0 0]) ?_ 2 _ rfl; (with_reducible repeat (first | fail)); refine blk_put (cs := #[.string ((rd_T52 l0_2 x16_1).f0), .string (⟨#[]⟩ : ByteArray), .slice none 0 0]) ?_ 1 _ rfl; (with_reducible repeat (first | fail)); refine blk_put (cs := #[.string (⟨#[]⟩ : ByteArray), .string (⟨#[]⟩ : ByteArray), .slice none 0 0]) ?_ 0 _ rfl; (with_reducible repeat (first | fail)); exact BK180.out) hb); have n2_ := Aside0.mk (below_step (by repeat ((with_reducible first | exact HB.out | refine below_set ?_ GE180.out))) hb); clear BK178; clear BK180; clear HB; have BK178 := n0_; have BK180 := n1_; have HB := n2_; clear n0_ n1_ n2_; (try clear hb)))
     go_roundg k1
     case measure => have := HK1.out; omega
     case rel => exact ⟨(wrap64 (x16_1 + 1)), rfl, H', ⟨by have := HK1.out; omega⟩, ⟨BK178.out⟩, ⟨by exact HB.out⟩⟩
   rw [if_neg c5] at H
   have c5b0 := decide_eq_false c5
   clear c5
   by_cases c18 : a0_0.toList = ([105, 115] : List UInt8)
   · rw [if_pos c18] at H
     have c18b0 := beq_iff_eq.mpr c18
     have c18b1 := bne_eq_false_iff_eq.mpr c18
     clear c18
     by_cases c19 : (l0_2.length : Int) = 0
     rotate_left
     · rw [if_neg c19] at H
       have c19b0 := beq_eq_false_iff_ne.mpr c19
       have c19b1 := bne_iff_ne.mpr c19
       have c19b2 : ¬ (l0_2 = []) := fun h_ => c19 (by rw [h_]; rfl)
       obtain rfl := Option.some.inj H
       have hcz23_0 : wr.cell? ⟨gb178, 0, none⟩ = some (.string a0_0) := (blk_cell BK178.out 0).trans rfl
       have hcz23_1 : wr.cell? ⟨gb178, 1, none⟩ = some (.string a0_1) := (blk_cell BK178.out 1).trans rfl
       have hcz23_2 : wr.cell? ⟨gb178, 2, none⟩ = some (.slice A0_2 l0_2.length c0_2) := (blk_cell BK178.out 2).trans rfl
       have hfz23_0 := blk_frozen BK178.out 0
       have hfz23_1 := blk_frozen BK178.out 1
       have hfz23_2 := blk_frozen BK178.out 2
       go_wp2
       go_ret
       exact ⟨by first | rfl, by exact HB.out⟩
     rw [if_pos c19] at H
     have c19b0 := beq_iff_eq.mpr c19
     have c19b1 := bne_eq_false_iff_eq.mpr c19
     clear c19
     replace H := Option.bind_eq_some_iff.mp H
     obtain ⟨t182, A200, H⟩ := H
     have A20 := Aside0.mk A200
     clear A200
     obtain rfl := Option.some.inj H
     have hcz21_0 : wr.cell? ⟨gb178, 0, none⟩ = some (.string a0_0) := (blk_cell BK178.out 0).trans rfl
     have hcz21_1 : wr.cell? ⟨gb178, 1, none⟩ = some (.string a0_1) := (blk_cell BK178.out 1).trans rfl
     have hcz21_2 : wr.cell? ⟨gb178, 2, none⟩ = some (.slice A0_2 l0_2.length c0_2) := (blk_cell BK178.out 2).trans rfl
     have hfz21_0 := blk_frozen BK178.out 0
     have hfz21_1 := blk_frozen BK178.out 1
     have hfz21_2 := blk_frozen BK178.out 2
     go_wp2_with ((go_at_call 92; (with_reducible refine (grammar_isAtom.calls k1 a0_1 t182 _ A20.out).mono ?_); rintro e w22 ⟨rfl, hb⟩; have n0_ := Aside0.mk (blk_below (g := gb178) (o := .cells #[.string a0_0, .string a0_1, .slice A0_2 l0_2.length c0_2] 52 (0, 0)) BK178.out hb); have n1_ := Aside0.mk (below_step HB.out hb); clear BK178; clear HB; have BK178 := n0_; have HB := n1_; clear n0_ n1_; (try clear hb)))
     go_ret
     exact ⟨by first | rfl, by exact HB.out⟩
   rw [if_neg c18] at H
   have c18b0 := beq_eq_false_iff_ne.mpr c18
   have c18b1 := bne_iff_ne.mpr c18
   by_cases c24 : a0_0.toList = ([114, 117, 108, 101] : List UInt8)
   · rw [if_pos c24] at H
     have c24b0 := beq_iff_eq.mpr c24
     have c24b1 := bne_eq_false_iff_eq.mpr c24
     clear c24
     replace H := Option.bind_eq_some_iff.mp H
     obtain ⟨⟨t183, t184⟩, A250, H⟩ := H
     dsimp only at H
     have A25 := Aside0.mk A250
     clear A250
     by_cases c26 : (l0_2.length : Int) = 0
     rotate_left
     · rw [if_neg c26] at H
       have c26b0 := beq_eq_false_iff_ne.mpr c26
       have c26b1 := bne_iff_ne.mpr c26
       have c26b2 : ¬ (l0_2 = []) := fun h_ => c26 (by rw [h_]; rfl)
       obtain rfl := Option.some.inj H
       have hcz28_0 : wr.cell? ⟨gb178, 0, none⟩ = some (.string a0_0) := (blk_cell BK178.out 0).trans rfl
       have hcz28_1 : wr.cell? ⟨gb178, 1, none⟩ = some (.string a0_1) := (blk_cell BK178.out 1).trans rfl
       have hcz28_2 : wr.cell? ⟨gb178, 2, none⟩ = some (.slice A0_2 l0_2.length c0_2) := (blk_cell BK178.out 2).trans rfl
       have hfz28_0 := blk_frozen BK178.out 0
       have hfz28_1 := blk_frozen BK178.out 1
       have hfz28_2 := blk_frozen BK178.out 2
       go_wp2_with ((at_lookup; refine wpList_look_MC _ rfl _ _ 113 rfl 9 3 Try.underlying113 Try.underlying9 (by (go_simp; done)) A1 l1 a0_1 rfl (MC_below HR1.out HB.out) (by (go_simp; done)) t183 t184 A25.out ?_))
       go_ret
       exact ⟨by first | rfl, by exact HB.out⟩
     rw [if_pos c26] at H
     have c26b0 := beq_iff_eq.mpr c26
     have c26b1 := bne_eq_false_iff_eq.mpr c26
     clear c26
     obtain rfl := Option.some.inj H
     have hcz27_0 : wr.cell? ⟨gb178, 0, none⟩ = some (.string a0_0) := (blk_cell BK178.out 0).trans rfl
     have hcz27_1 : wr.cell? ⟨gb178, 1, none⟩ = some (.string a0_1) := (blk_cell BK178.out 1).trans rfl
     have hcz27_2 : wr.cell? ⟨gb178, 2, none⟩ = some (.slice A0_2 l0_2.length c0_2) := (blk_cell BK178.out 2).trans rfl
     have hfz27_0 := blk_frozen BK178.out 0
     have hfz27_1 := blk_frozen BK178.out 1
     have hfz27_2 := blk_frozen BK178.out 2
     go_wp2_with ((at_lookup; refine wpList_look_MC _ rfl _ _ 113 rfl 9 3 Try.underlying113 Try.underlying9 (by (go_simp; done)) A1 l1 a0_1 rfl (MC_below HR1.out HB.out) (by (go_simp; done)) t183 t184 A25.out ?_))
     go_ret
     exact ⟨by first | rfl, by exact HB.out⟩
   rw [if_neg c24] at H
   have c24b0 := beq_eq_false_iff_ne.mpr c24
   have c24b1 := bne_iff_ne.mpr c24
   by_cases c29 : a0_1.toList = ([] : List UInt8)
   rotate_left
   · rw [if_neg c29] at H
     have c29b0 := beq_eq_false_iff_ne.mpr c29
     have c29b1 := bne_iff_ne.mpr c29
     obtain rfl := Option.some.inj H
     have hcz40_0 : wr.cell? ⟨gb178, 0, none⟩ = some (.string a0_0) := (blk_cell BK178.out 0).trans rfl
     have hcz40_1 : wr.cell? ⟨gb178, 1, none⟩ = some (.string a0_1) := (blk_cell BK178.out 1).trans rfl
     have hcz40_2 : wr.cell? ⟨gb178, 2, none⟩ = some (.slice A0_2 l0_2.length c0_2) := (blk_cell BK178.out 2).trans rfl
     have hfz40_0 := blk_frozen BK178.out 0
     have hfz40_1 := blk_frozen BK178.out 1
     have hfz40_2 := blk_frozen BK178.out 2
     go_wp2
     go_ret
     exact ⟨by first | rfl, by exact HB.out⟩
   rw [if_pos c29] at H
   have c29b0 := beq_iff_eq.mpr c29
   have c29b1 := bne_eq_false_iff_eq.mpr c29
   clear c29
   have HC30 := Aside0.mk H
   clear H
   have hcz31_0 : wr.cell? ⟨gb178, 0, none⟩ = some (.string a0_0) := (blk_cell BK178.out 0).trans rfl
   have hcz31_1 : wr.cell? ⟨gb178, 1, none⟩ = some (.string a0_1) := (blk_cell BK178.out 1).trans rfl
   have hcz31_2 : wr.cell? ⟨gb178, 2, none⟩ = some (.slice A0_2 l0_2.length c0_2) := (blk_cell BK178.out 2).trans rfl
   have hfz31_0 := blk_frozen BK178.out 0
   have hfz31_1 := blk_frozen BK178.out 1
   have hfz31_2 := blk_frozen BK178.out 2
   go_upto_if 55 with (fail)
   go_cut [55] (fun v55 wc => ∃ (kq : Nat) (x55_29 : Bool), v55 = .bool x55_29 ∧ Aside0 (grammar_right.j1 kq (l0_2.length : Int) a0_0 x55_29 = some r) ∧ Aside0 (kq ≤ k1) ∧ Aside0 (wc.heap[gb178]? = some (.cells #[.string a0_0, .string a0_1, (.slice A0_2 l0_2.length c0_2)] 52 (0, 0))) ∧ Aside0 (Below w.heap.size w wc))
   case first =>
    have H := HC30.out
    clear HC30
    by_cases c32 : a0_0.toList = ([97, 110, 121] : List UInt8)
    rotate_left
    · rw [if_neg c32] at H
      have c32b0 := beq_eq_false_iff_ne.mpr c32
      have c32b1 := bne_iff_ne.mpr c32
      (first | rw [c32b0])
      have H' := Aside0.mk H
      clear H
      go_wp2
      go_meet
      case rel => exact ⟨_, ((a0_0.toList == ([110, 111, 116, 104, 105, 110, 103] : List UInt8))), rfl, H', ⟨by have := HK1.out; first | omega⟩, ⟨BK178.out⟩, ⟨by exact HB.out⟩⟩
    rw [if_pos c32] at H
    have c32b0 := beq_iff_eq.mpr c32
    have c32b1 := bne_eq_false_iff_eq.mpr c32
    clear c32
    (first | rw [c32b0])
    have H' := Aside0.mk H
    clear H
    go_wp2
    go_meet
    case rel => exact ⟨_, ((a0_0.toList == ([97, 110, 121] : List UInt8))), (by (simp [*]; done)), H', ⟨by have := HK1.out; first | omega⟩, ⟨BK178.out⟩, ⟨by exact HB.out⟩⟩
   case rest =>
    clear HC30 c5b0 c18 c18b0 c18b1 c24 c24b0 c24b1 c29b0 c29b1 hcz31_0 hcz31_1 hcz31_2 hfz31_0 hfz31_1 hfz31_2
    obtain ⟨kq, x55_29, rfl, HA, HJ29, BK178, HB⟩ := hcut
    cases kq with
    | zero => exact absurd HA.out (by simp [grammar_right.j1])
    | succ kj29 =>
     have H := HA.out
     clear HA
     simp only [grammar_right.j1] at H
     by_cases c33 : x55_29 = true
     · subst c33
       rw [if_pos rfl] at H
       obtain rfl := Option.some.inj H
       go_wp2
       go_ret
       exact ⟨by first | rfl, by exact HB.out⟩
     replace c33 := Bool.eq_false_iff.mpr c33
     subst c33
     rw [if_neg (show ¬ (false = true) by decide)] at H
     have HC34 := Aside0.mk H
     clear H
     go_upto_if 60 with (fail)
     go_cut [60] (fun v60 wc => ∃ (kq : Nat) (x60_33 : Bool), v60 = .bool x60_33 ∧ Aside0 (grammar_right.j2 kq (l0_2.length : Int) a0_0 x60_33 = some r) ∧ Aside0 (kq ≤ kj29) ∧ Aside0 (wc.heap[gb178]? = some (.cells #[.string a0_0, .string a0_1, (.slice A0_2 l0_2.length c0_2)] 52 (0, 0))) ∧ Aside0 (Below w.heap.size w wc))
     case first =>
      have H := HC34.out
      clear HC34
      by_cases c35 : a0_0.toList = ([115, 101, 113] : List UInt8)
      rotate_left
      · rw [if_neg c35] at H
        have c35b0 := beq_eq_false_iff_ne.mpr c35
        have c35b1 := bne_iff_ne.mpr c35
        (first | rw [c35b0])
        have H' := Aside0.mk H
        clear H
        go_wp2
        go_meet
        case rel => exact ⟨_, ((a0_0.toList == ([111, 114] : List UInt8))), rfl, H', ⟨by have := HK1.out; have := HJ29.out; first | omega⟩, ⟨BK178.out⟩, ⟨by exact HB.out⟩⟩
      rw [if_pos c35] at H
      have c35b0 := beq_iff_eq.mpr c35
      have c35b1 := bne_eq_false_iff_eq.mpr c35
      clear c35
      (first | rw [c35b0])
      have H' := Aside0.mk H
      clear H
      go_wp2
      go_meet
      case rel => exact ⟨_, ((a0_0.toList == ([115, 101, 113] : List UInt8))), (by (simp [*]; done)), H', ⟨by have := HK1.out; have := HJ29.out; first | omega⟩, ⟨BK178.out⟩, ⟨by exact HB.out⟩⟩
     case rest =>
      clear HC34
      obtain ⟨kq, x60_33, rfl, HA, HJ33, BK178, HB⟩ := hcut
      cases kq with
      | zero => exact absurd HA.out (by simp [grammar_right.j2])
      | succ kj33 =>
       have H := HA.out
       clear HA
       simp only [grammar_right.j2] at H
       by_cases c36 : x60_33 = true
       · subst c36
         rw [if_pos rfl] at H
         obtain rfl := Option.some.inj H
         go_wp2
         go_ret
         exact ⟨by first | rfl, by exact HB.out⟩
       replace c36 := Bool.eq_false_iff.mpr c36
       subst c36
       rw [if_neg (show ¬ (false = true) by decide)] at H
       by_cases c37 : a0_0.toList = ([109, 97, 110, 121] : List UInt8)
       · rw [if_pos c37] at H
         have c37b0 := beq_iff_eq.mpr c37
         have c37b1 := bne_eq_false_iff_eq.mpr c37
         clear c37
         obtain rfl := Option.some.inj H
         go_wp2
         go_ret
         exact ⟨by first | rfl, by exact HB.out⟩
       rw [if_neg c37] at H
       have c37b0 := beq_eq_false_iff_ne.mpr c37
       have c37b1 := bne_iff_ne.mpr c37
       by_cases c38 : a0_0.toList = ([111, 112, 116] : List UInt8)
       · rw [if_pos c38] at H
         have c38b0 := beq_iff_eq.mpr c38
         have c38b1 := bne_eq_false_iff_eq.mpr c38
         clear c38
         obtain rfl := Option.some.inj H
         go_wp2
         go_ret
         exact ⟨by first | rfl, by exact HB.out⟩
       rw [if_neg c38] at H
       have c38b0 := beq_eq_false_iff_ne.mpr c38
       have c38b1 := bne_iff_ne.mpr c38
       by_cases c39 : a0_0.toList = ([110, 111, 116] : List UInt8)
       rotate_left
       · rw [if_neg c39] at H
         have c39b0 := beq_eq_false_iff_ne.mpr c39
         have c39b1 := bne_iff_ne.mpr c39
         obtain rfl := Option.some.inj H
         go_wp2
         go_ret
         exact ⟨by first | rfl, by exact HB.out⟩
       rw [if_pos c39] at H
       have c39b0 := beq_iff_eq.mpr c39
       have c39b1 := bne_eq_false_iff_eq.mpr c39
       clear c39
       obtain rfl := Option.some.inj H
       go_wp2
       go_ret
       exact ⟨by first | rfl, by exact HB.out⟩
end Go.Proofs.Ytcnllhnhinmokaa.PHGr
end
