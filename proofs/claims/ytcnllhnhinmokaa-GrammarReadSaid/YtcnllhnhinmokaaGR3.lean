/- A text is read as a grammar only if it is the Text of what is read (no condition on the text): part 4 of 6. -/
import Derived.Test.YtcnllhnhinmokaaGR2
section
namespace Go.Proofs.Ytcnllhnhinmokaa.PHGr
open Go.StrMap Go.RowKit Go.Proofs.YtcnllhnhinmokaaW.PrintWords Go.Proofs.YtcnllhnhinmokaaW.PrintLast Go.Proofs.YtcnllhnhinmokaaW.PrintMore
attribute [local go_sem] max2_int min2_int max_two min_two max_three min_three max_four min_four
set_option linter.unusedVariables false
set_option linter.unusedSimpArgs false
def memB (s : ByteArray) (l : List ByteArray) : Bool := l.any fun t => decide (s = t)
theorem memB_iff {s : ByteArray} {l : List ByteArray} : memB s l = true ↔ s ∈ l := by
 simp [memB]
def rulesGo : List ByteArray → List S54 → List ByteArray × Bool
 | seen, [] => (seen, true)
 | seen, x :: l => if memB x.f0 seen = true then ([], false) else rulesGo (seen ++ [x.f0]) l
def grammar_rules.f (l : List S54) : Option (List ByteArray × Bool) := some (rulesGo [] l)
theorem take_names (l : List S54) (j : Nat) (hj : j < l.length) : (l.take (j + 1)).map (·.f0) = (l.take j).map (·.f0) ++ [(rd_T54 l (j : Int)).f0] := by
 rw [List.take_succ_eq_append_getElem hj, List.map_append]
 simp [rd_T54, hj]
theorem drop_rule (l : List S54) (j : Nat) (hj : j < l.length) : l.drop j = rd_T54 l (j : Int) :: l.drop (j + 1) := by
 rw [List.drop_eq_getElem_cons hj]
 congr 1
 simp [rd_T54, hj]
set_option maxHeartbeats 4000000 in
set_option maxRecDepth 100000 in
theorem grammar_rules.calls (A : Option Addr) (c : Nat) (l : List S54) (r1 : List ByteArray) (r2 : Bool) (w : World) (hr : Kd.C k54 w A l.length l) (hc : l.length ≤ c) (h : grammar_rules.f l = some (r1, r2)) :
 Calls Try.prog 65 #[.agg #[.slice A l.length c]] w fun e w' => ∃ v, e = .returned (.tuple #[v, .bool r2]) ∧ MQ w' w.heap.size (fun _ => True) v r1 ∧ Below w.heap.size w w' := by
 have hu24 := Try.underlying24
 have hu54 := Try.underlying54
 have hu52 := Try.underlying52
 have HR := Aside0.mk hr
 have HC := Aside0.mk hc
 have HB := Aside0.mk (Below.refl w.heap.size w)
 unfold grammar_rules.f at h
 have hg0 := Aside0.mk (Option.some.inj h)
 clear hr hc h
 go_enter Try.func65, Try.ntmps65
 go_wp2_with (first | ((with_reducible refine gate_dst (N := 1) rfl ?_); (try (refine gate_guard (by rfl) ?_; dsimp only)); refine box_event ?hg (N := 1) ?hd (cs := #[.slice A l.length c]) (t := 24) ?hr ?_; (case hd => rfl); (case hg => rfl); (case hr => (go_simp; done)); intro gb hg w3 hbox hb; have n0_ := Aside0.mk (below_step HB.out hb); have n2_ := Aside0.mk ((by rw [hg]; exact (below_size HB.out)) : w.heap.size ≤ gb); clear HB; have HB := n0_; have GE := n2_; have BK := Aside0.mk hbox; have hc0 : w3.cell? ⟨gb, 0, none⟩ = some (.slice A l.length c) := (blk_cell hbox 0).trans rfl; have hf0 := blk_frozen hbox 0; clear n0_ n2_ hb hbox hg) | ((with_reducible refine wpList_makeMap_new _ rfl 113 rfl ?_); intro mb w4 hmb hM0 hb; have n0_ := Aside0.mk (below_step HB.out hb); have n1_ := Aside0.mk (blk_below BK.out hb); have n2_ := Aside0.mk ((by rw [hmb]; exact (below_size HB.out)) : w.heap.size ≤ mb); have n3_ := Aside0.mk ((by rw [hmb]; exact Nat.ne_of_lt (blk_lt BK.out)) : gb ≠ mb); clear HB BK; have HB := n0_; have BK := n1_; have GM := n2_; have NE := n3_; have HM := Aside0.mk hM0; have hd0 : w4.cell? ⟨gb, 0, none⟩ = some (.slice A l.length c) := (blk_cell BK.out 0).trans rfl; have hf1 := blk_frozen BK.out 0; clear n0_ n1_ n2_ n3_ hM0 hb hmb hc0 hf0))
 go_loopg [13] (l.length + 1) (fun kq v13 w' => ∃ j : Nat, v13 = .int .i64 (j : Int) ∧ Aside0 (j + kq = l.length + 1) ∧ Aside0 (j ≤ l.length) ∧ Aside0 (rulesGo ((l.take j).map (·.f0)) (l.drop j) = (r1, r2)) ∧ Aside0 (MapS w' mb (keyed ((l.take j).map (·.f0)))) ∧ Aside0 (w'.heap[gb]? = some (.cells #[(.slice A l.length c)] 24 (0, 0))) ∧ Aside0 (Below w.heap.size w w'))
 case atStart => exact ⟨0, rfl, ⟨by omega⟩, ⟨by omega⟩, ⟨by simpa using hg0.out⟩, ⟨HM.out⟩, ⟨BK.out⟩, ⟨HB.out⟩⟩
 case round =>
  clear hg0 HM BK HB
  obtain ⟨j, rfl, HJ, HL, HG, HM, BK, HB⟩ := hrel
  cases gk with
  | zero => exact absurd HJ.out (by have := HL.out; omega)
  | succ k2 =>
   have hcw : wr.cell? ⟨gb, 0, none⟩ = some (.slice A l.length c) := (blk_cell BK.out 0).trans rfl
   have hfw := blk_frozen BK.out 0
   have NG := Aside0.mk ((by intro e; injection e with e; exact NE.out e) : some gb ≠ some mb)
   by_cases hlt : j < l.length
   · have hg := HG.out
     rw [drop_rule l j hlt] at hg
     simp only [rulesGo] at hg
     have HS := Aside0.mk (take_names l j hlt)
     have HSL := Aside0.mk ((by simp; omega) : ((l.take j).map (·.f0)).length = j)
     have c11b0 : decide ((j : Int) < (l.length : Int)) = true := decide_eq_true (by omega)
     have p190 : 0 ≤ (j : Int) := by omega
     have q190 : (j : Int) < (l.length : Int) := by omega
     obtain ⟨ad190, A190_3, c190_3, e190, hx190_0, hx190_1, hx190_2, hx190_3, hl190_3, hi190_3⟩ := at_T54 HR.out (j : Int) p190 q190
     cases e190
     replace hx190_0 := ct HB.out hx190_0
     replace hx190_1 := ct HB.out hx190_1
     replace hx190_2 := ct HB.out hx190_2
     replace hx190_3 := ct HB.out hx190_3
     clear hl190_3 hi190_3
     simp only [Int.toNat_natCast] at hx190_0 hx190_1 hx190_2 hx190_3
     have HLT := Aside0.mk hlt
     clear hlt
     replace p190 := eq_true p190
     replace q190 := eq_true q190
     by_cases hm : memB (rd_T54 l (j : Int)).f0 ((l.take j).map (·.f0)) = true
     · rw [if_pos hm] at hg
       obtain ⟨n, hn⟩ := look_hit_f (memB_iff.1 hm)
       have HN := Aside0.mk hn
       clear hn hm
       simp only [Prod.mk.injEq] at hg
       obtain ⟨rfl, rfl⟩ := hg
       go_wp2_with (first | ((with_reducible refine gate_dst (N := 6) rfl ?_); (try (refine gate_guard (by rfl) ?_; dsimp only)); refine box_event ?hg (N := 6) ?hd (cs := #[.string (⟨#[]⟩ : ByteArray), .string (⟨#[]⟩ : ByteArray), .string (⟨#[]⟩ : ByteArray), .slice none 0 0]) (t := 54) ?hr ?_; (case hd => rfl); (case hg => rfl); (case hr => (go_simp; done)); intro gx hgx w18 hbox hb; have n0_ := Aside0.mk (HM.out.below hb); have n1_ := Aside0.mk (blk_below BK.out hb); have n2_ := Aside0.mk (below_step HB.out hb); have n4_ := Aside0.mk ((by rw [hgx]; exact (below_size HB.out)) : w.heap.size ≤ gx); have n6_ := Aside0.mk ((by rw [hgx]; exact Nat.ne_of_lt (blk_lt BK.out)) : gb ≠ gx); clear HM BK HB; have HM := n0_; have BK := n1_; have HB := n2_; have BX := Aside0.mk hbox; have GX := n4_; have NX := n6_; clear n0_ n1_ n2_ n4_ n6_ hb hbox hgx; have hnb19 := NX.out; have hnc19 := Ne.symm NX.out; have hcz20_0 : w18.cell? ⟨gx, 0, none⟩ = some (.string (⟨#[]⟩ : ByteArray)) := (blk_cell BX.out 0).trans rfl; have hcz20_1 : w18.cell? ⟨gx, 1, none⟩ = some (.string (⟨#[]⟩ : ByteArray)) := (blk_cell BX.out 1).trans rfl; have hcz20_2 : w18.cell? ⟨gx, 2, none⟩ = some (.string (⟨#[]⟩ : ByteArray)) := (blk_cell BX.out 2).trans rfl; have hcz20_3 : w18.cell? ⟨gx, 3, none⟩ = some (.slice none 0 0) := (blk_cell BX.out 3).trans rfl; have hfz20_0 := blk_frozen BX.out 0; have hfz20_1 := blk_frozen BX.out 1; have hfz20_2 := blk_frozen BX.out 2; have hfz20_3 := blk_frozen BX.out 3) | (at_lookup; refine wpList_look_MC _ rfl _ _ 113 rfl 9 3 Try.underlying113 Try.underlying9 (by (go_simp; done)) (some ⟨mb, 0, none⟩) ((l.take j).map (·.f0)) (rd_T54 l (j : Int)).f0 rfl (.inr ⟨mb, rfl, (by (with_reducible repeat (first | exact HM.out | refine MapS_set ?_ _ _)))⟩) (by (go_simp; done)) n true HN.out ?_))
       go_ret2
       exact ⟨.map none, rfl, ⟨none, rfl, .inl ⟨rfl, rfl⟩⟩, (by repeat ((with_reducible first | exact HB.out | refine below_set ?_ GX.out)))⟩
     · rw [if_neg hm] at hg
       have hm2 : (rd_T54 l (j : Int)).f0 ∉ (l.take j).map (·.f0) := fun h => hm (memB_iff.2 h)
       have HN := Aside0.mk (look_miss_f hm2)
       have HN2 := Aside0.mk (findS_keyed_none.1 hm2)
       have HG2 := Aside0.mk hg
       clear hg hm hm2 HG
       go_wp2_with (first | ((with_reducible refine gate_dst (N := 6) rfl ?_); (try (refine gate_guard (by rfl) ?_; dsimp only)); refine box_event ?hg (N := 6) ?hd (cs := #[.string (⟨#[]⟩ : ByteArray), .string (⟨#[]⟩ : ByteArray), .string (⟨#[]⟩ : ByteArray), .slice none 0 0]) (t := 54) ?hr ?_; (case hd => rfl); (case hg => rfl); (case hr => (go_simp; done)); intro gx hgx w18 hbox hb; have n0_ := Aside0.mk (HM.out.below hb); have n1_ := Aside0.mk (blk_below BK.out hb); have n2_ := Aside0.mk (below_step HB.out hb); have n4_ := Aside0.mk ((by rw [hgx]; exact (below_size HB.out)) : w.heap.size ≤ gx); have n6_ := Aside0.mk ((by rw [hgx]; exact Nat.ne_of_lt (blk_lt BK.out)) : gb ≠ gx); clear HM BK HB; have HM := n0_; have BK := n1_; have HB := n2_; have BX := Aside0.mk hbox; have GX := n4_; have NX := n6_; clear n0_ n1_ n2_ n4_ n6_ hb hbox hgx; have hnb19 := NX.out; have hnc19 := Ne.symm NX.out; have hcz20_0 : w18.cell? ⟨gx, 0, none⟩ = some (.string (⟨#[]⟩ : ByteArray)) := (blk_cell BX.out 0).trans rfl; have hcz20_1 : w18.cell? ⟨gx, 1, none⟩ = some (.string (⟨#[]⟩ : ByteArray)) := (blk_cell BX.out 1).trans rfl; have hcz20_2 : w18.cell? ⟨gx, 2, none⟩ = some (.string (⟨#[]⟩ : ByteArray)) := (blk_cell BX.out 2).trans rfl; have hcz20_3 : w18.cell? ⟨gx, 3, none⟩ = some (.slice none 0 0) := (blk_cell BX.out 3).trans rfl; have hfz20_0 := blk_frozen BX.out 0; have hfz20_1 := blk_frozen BX.out 1; have hfz20_2 := blk_frozen BX.out 2; have hfz20_3 := blk_frozen BX.out 3) | (at_lookup; refine wpList_look_MC _ rfl _ _ 113 rfl 9 3 Try.underlying113 Try.underlying9 (by (go_simp; done)) (some ⟨mb, 0, none⟩) ((l.take j).map (·.f0)) (rd_T54 l (j : Int)).f0 rfl (.inr ⟨mb, rfl, (by (with_reducible repeat (first | exact HM.out | refine MapS_set ?_ _ _)))⟩) (by (go_simp; done)) 0 false HN.out ?_) | (at_mapUpdate; refine wpList_put_new _ rfl _ _ _ 113 rfl 9 3 Try.underlying113 Try.underlying9 mb (keyed ((l.take j).map (·.f0))) (rd_T54 l (j : Int)).f0 (.int .i64 (j : Int)) rfl (by (with_reducible repeat (first | exact HM.out | refine MapS_set ?_ _ _))) (by (go_simp; done)) (by (go_simp; done)) HN2.out ?_; intro w9 hM9 hgr9; have n0_ := Aside0.mk hM9; have n1_ : Aside0 (w9.heap[gb]? = some (.cells #[(.slice (some ad190) l.length c)] 24 (0, 0))) := ⟨blk_grown (by repeat (first | (exact BK.out) | refine blk_far ?_ NX.out _)) hgr9 NG.out⟩; have n2_ : Aside0 (Below w.heap.size w w9) := ⟨pw_below_grown (by repeat ((with_reducible first | exact HB.out | refine below_set ?_ GX.out))) (some mb) (below_size (by repeat ((with_reducible first | exact HB.out | refine below_set ?_ GX.out)))) hgr9 (fun k hk => Option.some.inj hk ▸ GM.out)⟩; clear HM BK HB; have HM := n0_; have BK := n1_; have HB := n2_; clear n0_ n1_ n2_ hM9 hgr9))
       go_roundg k2
       case measure => have h_ := HJ.out; clear p190 q190; omega
       case rel => exact ⟨j + 1, (by have hb_ := HR.out.2.1; have h_ := HLT.out; clear p190 q190; have e_ : wrap64 ((j : Int) + 1) = ((j + 1 : Nat) : Int) := (by unfold wrap64; omega); rw [e_]), ⟨by have h_ := HJ.out; clear p190 q190; omega⟩, ⟨by have h_ := HLT.out; clear p190 q190; omega⟩, ⟨by rw [HS.out]; exact HG2.out⟩, ⟨by rw [HS.out, ← keyed_snoc, HSL.out]; exact HM.out⟩, ⟨BK.out⟩, ⟨HB.out⟩⟩
   · obtain rfl : j = l.length := by have := HL.out; omega
     have hg := HG.out
     rw [List.drop_length] at hg
     simp only [rulesGo, Prod.mk.injEq] at hg
     have c11b0 : decide (((l.length : Nat) : Int) < (l.length : Int)) = false := decide_eq_false (by omega)
     obtain ⟨rfl, rfl⟩ := hg
     clear hlt HG
     go_wp2
     go_ret2
     exact ⟨.map (some mb), rfl, ⟨some ⟨mb, 0, none⟩, rfl, .inr ⟨mb, rfl, by have h_ := HM.out; (rw [List.take_length] at h_; exact h_)⟩⟩, HB.out⟩
end Go.Proofs.Ytcnllhnhinmokaa.PHGr
end
section
namespace Go.Proofs.Ytcnllhnhinmokaa.PHGr
open Go.StrMap Go.RowKit Go.Proofs.YtcnllhnhinmokaaW.PrintWords Go.Proofs.YtcnllhnhinmokaaW.PrintLast Go.Proofs.YtcnllhnhinmokaaW.PrintMore
attribute [local go_sem] max2_int min2_int max_two min_two max_three min_three max_four min_four
set_option linter.unusedVariables false
set_option linter.unusedSimpArgs false
mutual
def grammar_Right.j0 : Nat → List ByteArray → Bool → List (S54) → Option (Bool)
 | 0, _, _, _ => none
 | k + 1, x3, x19, x186000 => if x19 = true then (some false) else (grammar_Right.l0 k x3 x186000 (x186000.length : Int) 0)
def grammar_Right.l0 : Nat → List ByteArray → List (S54) → Int → Int → Option (Bool)
 | 0, _, _, _, _ => none
 | k + 1, x3, x21, x22, x23 => if x23 < x22 then (if 0 ≤ x23 then (if x23 < (x21.length : Int) then ((token_IsPlain.f k ((rd_T54 x21 x23).f0)).bind fun t192 => (if t192 = true then ((grammar_right.f k ((rd_T54 x21 x23).f1.f0) ((rd_T54 x21 x23).f1.f1) ((rd_T54 x21 x23).f1.f2) x3).bind fun t193 => (if t193 = true then (grammar_Right.l0 k x3 x21 x22 (wrap64 (x23 + 1))) else (some false))) else (some false))) else (none)) else (none)) else (some true)
end
def grammar_Right.f (k : Nat) (l0_0 : List (S54)) : Option (Bool) := (grammar_rules.f l0_0).bind fun bt186 => (if bt186.2 = true then (grammar_Right.j0 k bt186.1 ((l0_0.length : Int) == 0) l0_0) else (grammar_Right.j0 k bt186.1 true l0_0))
set_option maxHeartbeats 8000000 in
set_option maxRecDepth 100000 in
theorem grammar_Right.calls (k : Nat) (A0_0 : Option Addr) (c0_0 : Nat) (l0_0 : List (S54)) (r : Bool) (w : World) (hr0_0 : Kd.C k54 w A0_0 l0_0.length l0_0) (hc0_0 : l0_0.length ≤ c0_0) (h : grammar_Right.f k l0_0 = some r) :
 Calls Try.prog 34 #[.agg #[.slice A0_0 l0_0.length c0_0]] w fun e w' => e = .returned (.bool r) ∧ Below w.heap.size w w' := by
 have hu24 := Try.underlying24
 have hu54 := Try.underlying54
 have hu52 := Try.underlying52
 have HR0_0 := Aside0.mk hr0_0
 have HC0_0 := Aside0.mk hc0_0
 clear hr0_0 hc0_0
 have HB := Aside0.mk (Below.refl w.heap.size w)
 have H : ((grammar_rules.f l0_0).bind fun bt186 => (if bt186.2 = true then (grammar_Right.j0 k bt186.1 ((l0_0.length : Int) == 0) l0_0) else (grammar_Right.j0 k bt186.1 true l0_0))) = some r := h
 clear h
 replace H := Option.bind_eq_some_iff.mp H
 obtain ⟨⟨t186, t189⟩, A20, H⟩ := H
 dsimp only at H
 have A2 := Aside0.mk A20
 clear A20
 have HC3 := Aside0.mk H
 clear H
 go_enter Try.func34, Try.ntmps34
 go_upto_region 2 with (first | ((with_reducible refine gate_dst (N := 1) rfl ?_); (try (refine gate_guard (by rfl) ?_; dsimp only)); refine box_event ?hg (N := 1) ?hd (cs := #[.slice A0_0 l0_0.length c0_0]) (t := 24) ?hr ?_; (case hd => rfl); (case hg => rfl); (case hr => (go_simp; done)); intro gb185 hg w4 hbox hb; have n0_ := Aside0.mk (below_step HB.out hb); have n1_ := Aside0.mk (hbox); have n2_ := Aside0.mk ((by rw [hg]; exact (below_size HB.out) : w.heap.size ≤ gb185)); have n3_ := Aside0.mk ((by rw [hg]; exact (below_size HB.out) : w.heap.size ≤ gb185)); clear HB; have HB := n0_; have BK185 := n1_; have GW185 := n2_; have GE185 := n3_; clear n0_ n1_ n2_ n3_; clear hb hbox hg; have hcz5_0 : w4.cell? ⟨gb185, 0, none⟩ = some (.slice A0_0 l0_0.length c0_0) := (blk_cell BK185.out 0).trans rfl; have hfz5_0 := blk_frozen BK185.out 0) | ((with_reducible refine gate_callee (f := 65) rfl ?_); refine goesL_ (some 9) rfl rfl Try.func65 (by kernel_rfl) rfl #[.agg #[.slice A0_0 l0_0.length c0_0]] rfl (by (try simp only [List.map_toArray, List.map_cons, List.map_nil]); first | rfl) ?_; (with_reducible refine (grammar_rules.calls _ _ l0_0 t186 t189 _ ?side1 ?side2 A2.out).mono ?_); (case side1 => repeat (first | exact (Kd.C_below HR0_0.out HB.out))); (case side2 => exact HC0_0.out); rintro e w6 ⟨v187, rfl, ho0, hb⟩; refine ⟨_, rfl, ?_⟩; have n0_ := Aside0.mk (MQ_lower ho0 (below_size HB.out)); have n1_ := Aside0.mk (blk_below (g := gb185) (o := .cells #[.slice A0_0 l0_0.length c0_0] 24 (0, 0)) BK185.out hb); have n2_ := Aside0.mk (below_step HB.out hb); clear BK185; clear HB; have HO188 := n0_; have BK185 := n1_; have HB := n2_; clear n0_ n1_ n2_; (try clear hb); (try clear ho0)))
 skip
 go_cut [19] (fun v19 wc => ∃ (kq : Nat) (x19_2 : Bool), v19 = .bool x19_2 ∧ Aside0 (grammar_Right.j0 kq t186 x19_2 l0_0 = some r) ∧ Aside0 (kq ≤ k) ∧ Aside0 (MQ wc w.heap.size (fun _ => True) v187 t186) ∧ Aside0 (wc.heap[gb185]? = some (.cells #[(.slice A0_0 l0_0.length c0_0)] 24 (0, 0))) ∧ Aside0 (Below w.heap.size w wc))
 case first =>
  have H := HC3.out
  clear HC3
  by_cases c7 : t189 = true
  rotate_left
  · replace c7 := Bool.eq_false_iff.mpr c7
    subst c7
    rw [if_neg (show ¬ (false = true) by decide)] at H
    have H' := Aside0.mk H
    clear H
    go_wp2
    go_meet
    case rel => exact ⟨_, (true), rfl, H', ⟨by first | omega⟩, ⟨HO188.out⟩, ⟨BK185.out⟩, ⟨by exact HB.out⟩⟩
  subst c7
  rw [if_pos rfl] at H
  have H' := Aside0.mk H
  clear H
  have hcz8_0 : w6.cell? ⟨gb185, 0, none⟩ = some (.slice A0_0 l0_0.length c0_0) := (blk_cell BK185.out 0).trans rfl
  have hfz8_0 := blk_frozen BK185.out 0
  go_wp2
  go_meet
  case rel => exact ⟨_, (((l0_0.length : Int) == 0)), rfl, H', ⟨by first | omega⟩, ⟨HO188.out⟩, ⟨BK185.out⟩, ⟨by exact HB.out⟩⟩
 case rest =>
  clear HC3 hcz5_0 hfz5_0
  obtain ⟨kq, x19_2, rfl, HA, HJ2, HO_3, BK185, HB⟩ := hcut
  cases kq with
  | zero => exact absurd HA.out (by simp [grammar_Right.j0])
  | succ kj2 =>
   have H := HA.out
   clear HA
   simp only [grammar_Right.j0] at H
   by_cases c9 : x19_2 = true
   · subst c9
     rw [if_pos rfl] at H
     obtain rfl := Option.some.inj H
     go_wp2
     go_ret
     exact ⟨by first | rfl, by exact HB.out⟩
   replace c9 := Bool.eq_false_iff.mpr c9
   subst c9
   rw [if_neg (show ¬ (false = true) by decide)] at H
   have H' := Aside0.mk H
   clear H
   have hcz10_0 : wc.cell? ⟨gb185, 0, none⟩ = some (.slice A0_0 l0_0.length c0_0) := (blk_cell BK185.out 0).trans rfl
   have hfz10_0 := blk_frozen BK185.out 0
   go_wp2
   go_loopg [23] kj2 (fun kq v23 w' => ∃ (x23_2 : Int), v23 = .int .i64 x23_2 ∧ Aside0 (grammar_Right.l0 kq t186 l0_0 (l0_0.length : Int) x23_2 = some r) ∧ Aside0 (kq ≤ kj2) ∧ Aside0 (MQ w' w.heap.size (fun _ => True) v187 t186) ∧ Aside0 (w'.heap[gb185]? = some (.cells #[(.slice A0_0 l0_0.length c0_0)] 24 (0, 0))) ∧ Aside0 (Below w.heap.size w w'))
   case atStart => exact ⟨(0), rfl, H', ⟨Nat.le_refl _⟩, ⟨HO_3.out⟩, ⟨BK185.out⟩, ⟨by exact HB.out⟩⟩
   case round =>
    clear H'
    clear hcz10_0 hfz10_0
    obtain ⟨x23_2, rfl, HA, HK2, HO_3, BK185, HB⟩ := hrel
    cases gk with
    | zero => exact absurd HA.out (by simp [grammar_Right.l0])
    | succ k2 =>
     have H := HA.out
     clear HA
     simp only [grammar_Right.l0] at H
     by_cases c11 : x23_2 < (l0_0.length : Int)
     rotate_left
     · rw [if_neg c11] at H
       have c11b0 := decide_eq_false c11
       clear c11
       obtain rfl := Option.some.inj H
       go_wp2
       go_ret
       exact ⟨by first | rfl, by exact HB.out⟩
     rw [if_pos c11] at H
     have c11b0 := decide_eq_true c11
     clear c11
     obtain ⟨c12, H⟩ := gd H
     have c12b0 := decide_eq_true c12
     clear c12
     obtain ⟨c13, H⟩ := gd H
     have c13b0 := decide_eq_true c13
     clear c13
     replace H := Option.bind_eq_some_iff.mp H
     obtain ⟨t192, A140, H⟩ := H
     have A14 := Aside0.mk A140
     clear A140
     by_cases c15 : t192 = true
     rotate_left
     · replace c15 := Bool.eq_false_iff.mpr c15
       subst c15
       rw [if_neg (show ¬ (false = true) by decide)] at H
       obtain rfl := Option.some.inj H
       have p190 : 0 ≤ (x23_2 : Int) := of_decide_eq_true (by assumption)
       have q190 : x23_2 < (l0_0.length : Int) := of_decide_eq_true (by assumption)
       obtain ⟨ad190, A190_3, c190_3, e190, hx190_0, hx190_1, hx190_2, hx190_3, hl190_3, hi190_3⟩ := at_T54 HR0_0.out x23_2 p190 q190
       cases e190
       replace hx190_0 := ct HB.out hx190_0
       replace hx190_1 := ct HB.out hx190_1
       replace hx190_2 := ct HB.out hx190_2
       replace hx190_3 := ct HB.out hx190_3
       have HR190_3 := Aside0.mk hi190_3
       have HC190_3 := Aside0.mk hl190_3
       clear hi190_3 hl190_3
       replace p190 := eq_true p190
       replace q190 := eq_true q190
       go_wp2_with (first | ((with_reducible refine gate_dst (N := 6) rfl ?_); (try (refine gate_guard (by rfl) ?_; dsimp only)); refine box_event ?hg (N := 6) ?hd (cs := #[.string (⟨#[]⟩ : ByteArray), .string (⟨#[]⟩ : ByteArray), .string (⟨#[]⟩ : ByteArray), .slice none 0 0]) (t := 54) ?hr ?_; (case hd => rfl); (case hg => rfl); (case hr => (go_simp; done)); intro gb191 hg w28 hbox hb; have n0_ := Aside0.mk (MQ_below HO_3.out hb); have n1_ := Aside0.mk (blk_below (g := gb185) (o := .cells #[.slice (some ad190) l0_0.length c0_0] 24 (0, 0)) BK185.out hb); have n2_ := Aside0.mk (below_step HB.out hb); have n3_ := Aside0.mk (hbox); have n4_ := Aside0.mk ((by rw [hg]; exact (below_size HB.out) : w.heap.size ≤ gb191)); have n5_ := Aside0.mk ((by rw [hg]; exact (below_size HB.out) : w.heap.size ≤ gb191)); have n6_ := Aside0.mk ((by rw [hg]; exact Nat.ne_of_lt (blk_lt (g := gb185) (o := .cells #[.slice (some ad190) l0_0.length c0_0] 24 (0, 0)) BK185.out) : gb185 ≠ gb191)); have n7_ := Aside0.mk ((by rw [hg]; exact Nat.ne_of_gt (blk_lt (g := gb185) (o := .cells #[.slice (some ad190) l0_0.length c0_0] 24 (0, 0)) BK185.out) : gb191 ≠ gb185)); clear HO_3; clear BK185; clear HB; have HO_3 := n0_; have BK185 := n1_; have HB := n2_; have BK191 := n3_; have GW191 := n4_; have GE191 := n5_; have NB185_191 := n6_; have NB191_185 := n7_; clear n0_ n1_ n2_ n3_ n4_ n5_ n6_ n7_; clear hb hbox hg; have hnb29 := NB191_185.out; have hnc29 := NB185_191.out; have hcz30_0 : w28.cell? ⟨gb191, 0, none⟩ = some (.string (⟨#[]⟩ : ByteArray)) := (blk_cell BK191.out 0).trans rfl; have hcz30_1 : w28.cell? ⟨gb191, 1, none⟩ = some (.string (⟨#[]⟩ : ByteArray)) := (blk_cell BK191.out 1).trans rfl; have hcz30_2 : w28.cell? ⟨gb191, 2, none⟩ = some (.string (⟨#[]⟩ : ByteArray)) := (blk_cell BK191.out 2).trans rfl; have hcz30_3 : w28.cell? ⟨gb191, 3, none⟩ = some (.slice none 0 0) := (blk_cell BK191.out 3).trans rfl; have hfz30_0 := blk_frozen BK191.out 0; have hfz30_1 := blk_frozen BK191.out 1; have hfz30_2 := blk_frozen BK191.out 2; have hfz30_3 := blk_frozen BK191.out 3) | ((with_reducible refine gate_callee (f := 66) rfl ?_); refine goesL_ (some 29) rfl rfl Try.func66 (by kernel_rfl) rfl #[.string ((rd_T54 l0_0 x23_2).f0)] rfl (by (try simp only [List.map_toArray, List.map_cons, List.map_nil]); first | rfl) ?_; (with_reducible refine (token_IsPlain.calls k2 ((rd_T54 l0_0 x23_2).f0) false _ A14.out).mono ?_); rintro e w' ⟨rfl, ⟨nd, rfl⟩⟩; refine ⟨_, rfl, ?_⟩))
       go_ret
       exact ⟨by first | rfl, by repeat ((with_reducible first | exact HB.out | apply pw_below_drewN | refine below_set ?_ GE191.out))⟩
     subst c15
     rw [if_pos rfl] at H
     replace H := Option.bind_eq_some_iff.mp H
     obtain ⟨t193, A160, H⟩ := H
     have A16 := Aside0.mk A160
     clear A160
     by_cases c17 : t193 = true
     rotate_left
     · replace c17 := Bool.eq_false_iff.mpr c17
       subst c17
       rw [if_neg (show ¬ (false = true) by decide)] at H
       obtain rfl := Option.some.inj H
       have p190 : 0 ≤ (x23_2 : Int) := of_decide_eq_true (by assumption)
       have q190 : x23_2 < (l0_0.length : Int) := of_decide_eq_true (by assumption)
       obtain ⟨ad190, A190_3, c190_3, e190, hx190_0, hx190_1, hx190_2, hx190_3, hl190_3, hi190_3⟩ := at_T54 HR0_0.out x23_2 p190 q190
       cases e190
       replace hx190_0 := ct HB.out hx190_0
       replace hx190_1 := ct HB.out hx190_1
       replace hx190_2 := ct HB.out hx190_2
       replace hx190_3 := ct HB.out hx190_3
       have HR190_3 := Aside0.mk hi190_3
       have HC190_3 := Aside0.mk hl190_3
       clear hi190_3 hl190_3
       replace p190 := eq_true p190
       replace q190 := eq_true q190
       go_wp2_with (first | ((with_reducible refine gate_dst (N := 6) rfl ?_); (try (refine gate_guard (by rfl) ?_; dsimp only)); refine box_event ?hg (N := 6) ?hd (cs := #[.string (⟨#[]⟩ : ByteArray), .string (⟨#[]⟩ : ByteArray), .string (⟨#[]⟩ : ByteArray), .slice none 0 0]) (t := 54) ?hr ?_; (case hd => rfl); (case hg => rfl); (case hr => (go_simp; done)); intro gb191 hg w23 hbox hb; have n0_ := Aside0.mk (MQ_below HO_3.out hb); have n1_ := Aside0.mk (blk_below (g := gb185) (o := .cells #[.slice (some ad190) l0_0.length c0_0] 24 (0, 0)) BK185.out hb); have n2_ := Aside0.mk (below_step HB.out hb); have n3_ := Aside0.mk (hbox); have n4_ := Aside0.mk ((by rw [hg]; exact (below_size HB.out) : w.heap.size ≤ gb191)); have n5_ := Aside0.mk ((by rw [hg]; exact (below_size HB.out) : w.heap.size ≤ gb191)); have n6_ := Aside0.mk ((by rw [hg]; exact Nat.ne_of_lt (blk_lt (g := gb185) (o := .cells #[.slice (some ad190) l0_0.length c0_0] 24 (0, 0)) BK185.out) : gb185 ≠ gb191)); have n7_ := Aside0.mk ((by rw [hg]; exact Nat.ne_of_gt (blk_lt (g := gb185) (o := .cells #[.slice (some ad190) l0_0.length c0_0] 24 (0, 0)) BK185.out) : gb191 ≠ gb185)); clear HO_3; clear BK185; clear HB; have HO_3 := n0_; have BK185 := n1_; have HB := n2_; have BK191 := n3_; have GW191 := n4_; have GE191 := n5_; have NB185_191 := n6_; have NB191_185 := n7_; clear n0_ n1_ n2_ n3_ n4_ n5_ n6_ n7_; clear hb hbox hg; have hnb24 := NB191_185.out; have hnc24 := NB185_191.out; have hcz25_0 : w23.cell? ⟨gb191, 0, none⟩ = some (.string (⟨#[]⟩ : ByteArray)) := (blk_cell BK191.out 0).trans rfl; have hcz25_1 : w23.cell? ⟨gb191, 1, none⟩ = some (.string (⟨#[]⟩ : ByteArray)) := (blk_cell BK191.out 1).trans rfl; have hcz25_2 : w23.cell? ⟨gb191, 2, none⟩ = some (.string (⟨#[]⟩ : ByteArray)) := (blk_cell BK191.out 2).trans rfl; have hcz25_3 : w23.cell? ⟨gb191, 3, none⟩ = some (.slice none 0 0) := (blk_cell BK191.out 3).trans rfl; have hfz25_0 := blk_frozen BK191.out 0; have hfz25_1 := blk_frozen BK191.out 1; have hfz25_2 := blk_frozen BK191.out 2; have hfz25_3 := blk_frozen BK191.out 3) | ((with_reducible refine gate_callee (f := 66) rfl ?_); refine goesL_ (some 29) rfl rfl Try.func66 (by kernel_rfl) rfl #[.string ((rd_T54 l0_0 x23_2).f0)] rfl (by (try simp only [List.map_toArray, List.map_cons, List.map_nil]); first | rfl) ?_; (with_reducible refine (token_IsPlain.calls k2 ((rd_T54 l0_0 x23_2).f0) true _ A14.out).mono ?_); rintro e w' ⟨rfl, ⟨nd, rfl⟩⟩; refine ⟨_, rfl, ?_⟩; obtain ⟨Ao26, eo26, hm26⟩ := MQ_open HO_3.out; have HN26 := Aside0.mk hm26; clear hm26; subst eo26) | (go_at_call 67; (with_reducible refine (grammar_right.calls k2 ((rd_T54 l0_0 x23_2).f1.f0) ((rd_T54 l0_0 x23_2).f1.f1) _ _ ((rd_T54 l0_0 x23_2).f1.f2) Ao26 t186.length t186 false _ ?side1 ?side2 ?side3 ?side4 A16.out).mono ?_); (case side1 => exact Kd.C_below HR190_3.out (by repeat ((with_reducible first | exact HB.out | apply pw_below_drewN | refine below_set ?_ GE191.out)))); (case side2 => exact HC190_3.out); (case side3 => refine MC_of_MQ (base := w.heap.size) (ok := fun k_ => True) ?_ HN26.out; exact (by (with_reducible repeat (first | apply MQ_drewN)); exact (MQ_mono (MQ_far (p := ⟨gb191, 3, none⟩) (MQ_far (p := ⟨gb191, 2, none⟩) (MQ_far (p := ⟨gb191, 1, none⟩) (MQ_far (p := ⟨gb191, 0, none⟩) (MQ_types HO_3.out BK191.out (by decide)) (fun _ hk => hk.2) (.string ((rd_T54 l0_0 x23_2).f0))) (fun _ hk => hk.2) (.string ((rd_T54 l0_0 x23_2).f1.f0))) (fun _ hk => hk.2) (.string ((rd_T54 l0_0 x23_2).f1.f1))) (fun _ hk => hk.2) (.slice A190_3 ((rd_T54 l0_0 x23_2).f1.f2).length c190_3)) (fun _ h_ => h_.1)))); (case side4 => exact Nat.le_refl _); rintro e w27 ⟨rfl, hb⟩; have n0_ := Aside0.mk (MQ_below (by (with_reducible repeat (first | apply MQ_drewN)); exact (MQ_mono (MQ_far (p := ⟨gb191, 3, none⟩) (MQ_far (p := ⟨gb191, 2, none⟩) (MQ_far (p := ⟨gb191, 1, none⟩) (MQ_far (p := ⟨gb191, 0, none⟩) (MQ_types HO_3.out BK191.out (by decide)) (fun _ hk => hk.2) (.string ((rd_T54 l0_0 x23_2).f0))) (fun _ hk => hk.2) (.string ((rd_T54 l0_0 x23_2).f1.f0))) (fun _ hk => hk.2) (.string ((rd_T54 l0_0 x23_2).f1.f1))) (fun _ hk => hk.2) (.slice A190_3 ((rd_T54 l0_0 x23_2).f1.f2).length c190_3)) (fun _ h_ => h_.1))) hb); have n1_ := Aside0.mk (blk_below (g := gb185) (o := .cells #[.slice (some ad190) l0_0.length c0_0] 24 (0, 0)) (by (with_reducible repeat (first | refine blk_drewN ?_ _)); refine blk_far ?_ NB185_191.out _; (with_reducible repeat (first | fail)); refine blk_far ?_ NB185_191.out _; (with_reducible repeat (first | fail)); refine blk_far ?_ NB185_191.out _; (with_reducible repeat (first | fail)); refine blk_far ?_ NB185_191.out _; (with_reducible repeat (first | fail)); exact BK185.out) hb); have n2_ := Aside0.mk (blk_below (g := gb191) (o := .cells #[.string ((rd_T54 l0_0 x23_2).f0), .string ((rd_T54 l0_0 x23_2).f1.f0), .string ((rd_T54 l0_0 x23_2).f1.f1), .slice A190_3 ((rd_T54 l0_0 x23_2).f1.f2).length c190_3] 54 (0, 0)) (by (with_reducible repeat (first | refine blk_drewN ?_ _)); refine blk_put (cs := #[.string ((rd_T54 l0_0 x23_2).f0), .string ((rd_T54 l0_0 x23_2).f1.f0), .string ((rd_T54 l0_0 x23_2).f1.f1), .slice none 0 0]) ?_ 3 _ rfl; (with_reducible repeat (first | fail)); refine blk_put (cs := #[.string ((rd_T54 l0_0 x23_2).f0), .string ((rd_T54 l0_0 x23_2).f1.f0), .string (⟨#[]⟩ : ByteArray), .slice none 0 0]) ?_ 2 _ rfl; (with_reducible repeat (first | fail)); refine blk_put (cs := #[.string ((rd_T54 l0_0 x23_2).f0), .string (⟨#[]⟩ : ByteArray), .string (⟨#[]⟩ : ByteArray), .slice none 0 0]) ?_ 1 _ rfl; (with_reducible repeat (first | fail)); refine blk_put (cs := #[.string (⟨#[]⟩ : ByteArray), .string (⟨#[]⟩ : ByteArray), .string (⟨#[]⟩ : ByteArray), .slice none 0 0]) ?_ 0 _ rfl; (with_reducible repeat (first | fail)); exact BK191.out) hb); have n3_ := Aside0.mk (below_step (by repeat ((with_reducible first | exact HB.out | apply pw_below_drewN | refine below_set ?_ GE191.out))) hb); clear HO_3; clear BK185; clear BK191; clear HB; have HO_3 := n0_; have BK185 := n1_; have BK191 := n2_; have HB := n3_; clear n0_ n1_ n2_ n3_; (try clear hb)))
       go_ret
       exact ⟨by first | rfl, by exact HB.out⟩
     subst c17
     rw [if_pos rfl] at H
     have H' := Aside0.mk H
     clear H
     have p190 : 0 ≤ (x23_2 : Int) := of_decide_eq_true (by assumption)
     have q190 : x23_2 < (l0_0.length : Int) := of_decide_eq_true (by assumption)
     obtain ⟨ad190, A190_3, c190_3, e190, hx190_0, hx190_1, hx190_2, hx190_3, hl190_3, hi190_3⟩ := at_T54 HR0_0.out x23_2 p190 q190
     cases e190
     replace hx190_0 := ct HB.out hx190_0
     replace hx190_1 := ct HB.out hx190_1
     replace hx190_2 := ct HB.out hx190_2
     replace hx190_3 := ct HB.out hx190_3
     have HR190_3 := Aside0.mk hi190_3
     have HC190_3 := Aside0.mk hl190_3
     clear hi190_3 hl190_3
     replace p190 := eq_true p190
     replace q190 := eq_true q190
     go_wp2_with (first | ((with_reducible refine gate_dst (N := 6) rfl ?_); (try (refine gate_guard (by rfl) ?_; dsimp only)); refine box_event ?hg (N := 6) ?hd (cs := #[.string (⟨#[]⟩ : ByteArray), .string (⟨#[]⟩ : ByteArray), .string (⟨#[]⟩ : ByteArray), .slice none 0 0]) (t := 54) ?hr ?_; (case hd => rfl); (case hg => rfl); (case hr => (go_simp; done)); intro gb191 hg w18 hbox hb; have n0_ := Aside0.mk (MQ_below HO_3.out hb); have n1_ := Aside0.mk (blk_below (g := gb185) (o := .cells #[.slice (some ad190) l0_0.length c0_0] 24 (0, 0)) BK185.out hb); have n2_ := Aside0.mk (below_step HB.out hb); have n3_ := Aside0.mk (hbox); have n4_ := Aside0.mk ((by rw [hg]; exact (below_size HB.out) : w.heap.size ≤ gb191)); have n5_ := Aside0.mk ((by rw [hg]; exact (below_size HB.out) : w.heap.size ≤ gb191)); have n6_ := Aside0.mk ((by rw [hg]; exact Nat.ne_of_lt (blk_lt (g := gb185) (o := .cells #[.slice (some ad190) l0_0.length c0_0] 24 (0, 0)) BK185.out) : gb185 ≠ gb191)); have n7_ := Aside0.mk ((by rw [hg]; exact Nat.ne_of_gt (blk_lt (g := gb185) (o := .cells #[.slice (some ad190) l0_0.length c0_0] 24 (0, 0)) BK185.out) : gb191 ≠ gb185)); clear HO_3; clear BK185; clear HB; have HO_3 := n0_; have BK185 := n1_; have HB := n2_; have BK191 := n3_; have GW191 := n4_; have GE191 := n5_; have NB185_191 := n6_; have NB191_185 := n7_; clear n0_ n1_ n2_ n3_ n4_ n5_ n6_ n7_; clear hb hbox hg; have hnb19 := NB191_185.out; have hnc19 := NB185_191.out; have hcz20_0 : w18.cell? ⟨gb191, 0, none⟩ = some (.string (⟨#[]⟩ : ByteArray)) := (blk_cell BK191.out 0).trans rfl; have hcz20_1 : w18.cell? ⟨gb191, 1, none⟩ = some (.string (⟨#[]⟩ : ByteArray)) := (blk_cell BK191.out 1).trans rfl; have hcz20_2 : w18.cell? ⟨gb191, 2, none⟩ = some (.string (⟨#[]⟩ : ByteArray)) := (blk_cell BK191.out 2).trans rfl; have hcz20_3 : w18.cell? ⟨gb191, 3, none⟩ = some (.slice none 0 0) := (blk_cell BK191.out 3).trans rfl; have hfz20_0 := blk_frozen BK191.out 0; have hfz20_1 := blk_frozen BK191.out 1; have hfz20_2 := blk_frozen BK191.out 2; have hfz20_3 := blk_frozen BK191.out 3) | ((with_reducible refine gate_callee (f := 66) rfl ?_); refine goesL_ (some 29) rfl rfl Try.func66 (by kernel_rfl) rfl #[.string ((rd_T54 l0_0 x23_2).f0)] rfl (by (try simp only [List.map_toArray, List.map_cons, List.map_nil]); first | rfl) ?_; (with_reducible refine (token_IsPlain.calls k2 ((rd_T54 l0_0 x23_2).f0) true _ A14.out).mono ?_); rintro e w' ⟨rfl, ⟨nd, rfl⟩⟩; refine ⟨_, rfl, ?_⟩; obtain ⟨Ao21, eo21, hm21⟩ := MQ_open HO_3.out; have HN21 := Aside0.mk hm21; clear hm21; subst eo21) | (go_at_call 67; (with_reducible refine (grammar_right.calls k2 ((rd_T54 l0_0 x23_2).f1.f0) ((rd_T54 l0_0 x23_2).f1.f1) _ _ ((rd_T54 l0_0 x23_2).f1.f2) Ao21 t186.length t186 true _ ?side1 ?side2 ?side3 ?side4 A16.out).mono ?_); (case side1 => exact Kd.C_below HR190_3.out (by repeat ((with_reducible first | exact HB.out | apply pw_below_drewN | refine below_set ?_ GE191.out)))); (case side2 => exact HC190_3.out); (case side3 => refine MC_of_MQ (base := w.heap.size) (ok := fun k_ => True) ?_ HN21.out; exact (by (with_reducible repeat (first | apply MQ_drewN)); exact (MQ_mono (MQ_far (p := ⟨gb191, 3, none⟩) (MQ_far (p := ⟨gb191, 2, none⟩) (MQ_far (p := ⟨gb191, 1, none⟩) (MQ_far (p := ⟨gb191, 0, none⟩) (MQ_types HO_3.out BK191.out (by decide)) (fun _ hk => hk.2) (.string ((rd_T54 l0_0 x23_2).f0))) (fun _ hk => hk.2) (.string ((rd_T54 l0_0 x23_2).f1.f0))) (fun _ hk => hk.2) (.string ((rd_T54 l0_0 x23_2).f1.f1))) (fun _ hk => hk.2) (.slice A190_3 ((rd_T54 l0_0 x23_2).f1.f2).length c190_3)) (fun _ h_ => h_.1)))); (case side4 => exact Nat.le_refl _); rintro e w22 ⟨rfl, hb⟩; have n0_ := Aside0.mk (MQ_below (by (with_reducible repeat (first | apply MQ_drewN)); exact (MQ_mono (MQ_far (p := ⟨gb191, 3, none⟩) (MQ_far (p := ⟨gb191, 2, none⟩) (MQ_far (p := ⟨gb191, 1, none⟩) (MQ_far (p := ⟨gb191, 0, none⟩) (MQ_types HO_3.out BK191.out (by decide)) (fun _ hk => hk.2) (.string ((rd_T54 l0_0 x23_2).f0))) (fun _ hk => hk.2) (.string ((rd_T54 l0_0 x23_2).f1.f0))) (fun _ hk => hk.2) (.string ((rd_T54 l0_0 x23_2).f1.f1))) (fun _ hk => hk.2) (.slice A190_3 ((rd_T54 l0_0 x23_2).f1.f2).length c190_3)) (fun _ h_ => h_.1))) hb); have n1_ := Aside0.mk (blk_below (g := gb185) (o := .cells #[.slice (some ad190) l0_0.length c0_0] 24 (0, 0)) (by (with_reducible repeat (first | refine blk_drewN ?_ _)); refine blk_far ?_ NB185_191.out _; (with_reducible repeat (first | fail)); refine blk_far ?_ NB185_191.out _; (with_reducible repeat (first | fail)); refine blk_far ?_ NB185_191.out _; (with_reducible repeat (first | fail)); refine blk_far ?_ NB185_191.out _; (with_reducible repeat (first | fail)); exact BK185.out) hb); have n2_ := Aside0.mk (blk_below (g := gb191) (o := .cells #[.string ((rd_T54 l0_0 x23_2).f0), .string ((rd_T54 l0_0 x23_2).f1.f0), .string ((rd_T54 l0_0 x23_2).f1.f1), .slice A190_3 ((rd_T54 l0_0 x23_2).f1.f2).length c190_3] 54 (0, 0)) (by (with_reducible repeat (first | refine blk_drewN ?_ _)); refine blk_put (cs := #[.string ((rd_T54 l0_0 x23_2).f0), .string ((rd_T54 l0_0 x23_2).f1.f0), .string ((rd_T54 l0_0 x23_2).f1.f1), .slice none 0 0]) ?_ 3 _ rfl; (with_reducible repeat (first | fail)); refine blk_put (cs := #[.string ((rd_T54 l0_0 x23_2).f0), .string ((rd_T54 l0_0 x23_2).f1.f0), .string (⟨#[]⟩ : ByteArray), .slice none 0 0]) ?_ 2 _ rfl; (with_reducible repeat (first | fail)); refine blk_put (cs := #[.string ((rd_T54 l0_0 x23_2).f0), .string (⟨#[]⟩ : ByteArray), .string (⟨#[]⟩ : ByteArray), .slice none 0 0]) ?_ 1 _ rfl; (with_reducible repeat (first | fail)); refine blk_put (cs := #[.string (⟨#[]⟩ : ByteArray), .string (⟨#[]⟩ : ByteArray), .string (⟨#[]⟩ : ByteArray), .slice none 0 0]) ?_ 0 _ rfl; (with_reducible repeat (first | fail)); exact BK191.out) hb); have n3_ := Aside0.mk (below_step (by repeat ((with_reducible first | exact HB.out | apply pw_below_drewN | refine below_set ?_ GE191.out))) hb); clear HO_3; clear BK185; clear BK191; clear HB; have HO_3 := n0_; have BK185 := n1_; have BK191 := n2_; have HB := n3_; clear n0_ n1_ n2_ n3_; (try clear hb)))
     go_roundg k2
     case measure => have := HJ2.out; have := HK2.out; omega
     case rel => exact ⟨(wrap64 (x23_2 + 1)), rfl, H', ⟨by have := HJ2.out; have := HK2.out; omega⟩, ⟨HO_3.out⟩, ⟨BK185.out⟩, ⟨by exact HB.out⟩⟩
mutual
def grammar_quoted.l0 : Nat → ByteArray → ByteArray → Int → Option (ByteArray)
 | 0, _, _, _ => none
 | k + 1, x0, x3, x4 => if x4 < (x0.size : Int) then (if 0 ≤ x4 then (if (bt x0 x4) = 39 then (grammar_quoted.j1 k x0 x3 x4 (bt x0 x4) ((bt x0 x4) == 39)) else (grammar_quoted.j1 k x0 x3 x4 (bt x0 x4) ((bt x0 x4) == 92))) else (none)) else (if x3.size + 1 ≤ 9223372036854775807 then (some (x3 ++ (⟨#[39]⟩ : ByteArray))) else (none))
def grammar_quoted.j1 : Nat → ByteArray → ByteArray → Int → Int → Bool → Option (ByteArray)
 | 0, _, _, _, _, _ => none
 | k + 1, x0, x3, x4, x13, x21 => if x21 = true then (if 0 ≤ x4 then (if x4 ≤ (wrap64 (x4 + 1)) then (if (wrap64 (x4 + 1)) ≤ (x0.size : Int) then (if 1 + (x0.extract (x4 : Int).toNat ((wrap64 (x4 + 1)) : Int).toNat).size ≤ 9223372036854775807 then (if x3.size + ((⟨#[92]⟩ : ByteArray) ++ (x0.extract (x4 : Int).toNat ((wrap64 (x4 + 1)) : Int).toNat)).size ≤ 9223372036854775807 then (grammar_quoted.l0 k x0 (x3 ++ ((⟨#[92]⟩ : ByteArray) ++ (x0.extract (x4 : Int).toNat ((wrap64 (x4 + 1)) : Int).toNat))) (wrap64 (x4 + 1))) else (none)) else (none)) else (none)) else (none)) else (none)) else (if x13 = 10 then (if x3.size + 2 ≤ 9223372036854775807 then (grammar_quoted.l0 k x0 (x3 ++ (⟨#[92, 110]⟩ : ByteArray)) (wrap64 (x4 + 1))) else (none)) else (if 0 ≤ x4 then (if x4 ≤ (wrap64 (x4 + 1)) then (if (wrap64 (x4 + 1)) ≤ (x0.size : Int) then (if x3.size + (x0.extract (x4 : Int).toNat ((wrap64 (x4 + 1)) : Int).toNat).size ≤ 9223372036854775807 then (grammar_quoted.l0 k x0 (x3 ++ (x0.extract (x4 : Int).toNat ((wrap64 (x4 + 1)) : Int).toNat)) (wrap64 (x4 + 1))) else (none)) else (none)) else (none)) else (none)))
end
def grammar_quoted.f (k : Nat) (a0 : ByteArray) : Option (ByteArray) := grammar_quoted.l0 k a0 (⟨#[39]⟩ : ByteArray) 0
set_option maxHeartbeats 8000000 in
set_option maxRecDepth 100000 in
theorem grammar_quoted.calls (k : Nat) (a0 : ByteArray) (r : ByteArray) (w : World) (h : grammar_quoted.f k a0 = some r) :
 Calls Try.prog 77 #[.string a0] w fun e w' => e = .returned (.string r) ∧ Drawn0 w w' := by
 have H : (grammar_quoted.l0 k a0 (⟨#[39]⟩ : ByteArray) 0) = some r := h
 clear h
 have H' := Aside0.mk H
 clear H
 go_enter Try.func77, Try.ntmps77
 go_wp2
 go_loopg [3, 4] k (fun kq v3 v4 w' => ∃ (x3_1 : ByteArray) (x4_1 : Int), v3 = .string x3_1 ∧ v4 = .int .i64 x4_1 ∧ Aside0 (grammar_quoted.l0 kq a0 x3_1 x4_1 = some r) ∧ Aside0 (kq ≤ k) ∧ Drawn0 w w')
 case atStart => exact ⟨((⟨#[39]⟩ : ByteArray)), (0), rfl, rfl, H', ⟨Nat.le_refl _⟩, by repeat (first | exact Drawn0.refl _)⟩
 case round =>
  clear H'
  obtain ⟨x3_1, x4_1, rfl, rfl, HA, HK1, ⟨m1, rfl⟩⟩ := hrel
  cases gk with
  | zero => exact absurd HA.out (by simp [grammar_quoted.l0])
  | succ k1 =>
   have H := HA.out
   clear HA
   simp only [grammar_quoted.l0] at H
   by_cases c2 : x4_1 < (a0.size : Int)
   rotate_left
   · rw [if_neg c2] at H
     have c2b0 := decide_eq_false c2
     clear c2
     obtain ⟨c19, H⟩ := gd H
     have c19b0 := eq_true c19
     have c19b1 := decide_eq_true c19
     try have c19b2 : (9223372036854775807 < x3_1.size + 1) = False := eq_false (Nat.not_lt.2 c19)
     obtain rfl := Option.some.inj H
     go_wp2
     go_ret
     exact ⟨by first | rfl, by repeat (first | exact Drawn0.refl _ | apply Drawn0.step)⟩
   rw [if_pos c2] at H
   have c2b0 := decide_eq_true c2
   clear c2
   obtain ⟨c3, H⟩ := gd H
   have c3b0 := decide_eq_true c3
   clear c3
   have HC5 := Aside0.mk H
   clear H
   have p4 : 0 ≤ (x4_1 : Int) := of_decide_eq_true (by assumption)
   have q4 : x4_1 < (a0.size : Int) := of_decide_eq_true (by assumption)
   have hx4 := bt_at a0 x4_1
   replace p4 := eq_true p4
   replace q4 := eq_true q4
   go_upto_if 21 with (fail)
   go_cut [21] (fun v21 wc => ∃ (kq : Nat) (x21_4 : Bool), v21 = .bool x21_4 ∧ Aside0 (grammar_quoted.j1 kq a0 x3_1 x4_1 (bt a0 x4_1) x21_4 = some r) ∧ Aside0 (kq ≤ k1) ∧ Drawn0 w wc)
   case first =>
    have H := HC5.out
    clear HC5
    by_cases c6 : (bt a0 x4_1) = 39
    rotate_left
    · rw [if_neg c6] at H
      have c6b0 := beq_eq_false_iff_ne.mpr c6
      have c6b1 := bne_iff_ne.mpr c6
      (first | rw [c6b0])
      have H' := Aside0.mk H
      clear H
      go_wp2
      go_meet
      case rel => exact ⟨_, (((bt a0 x4_1) == 92)), rfl, H', ⟨by have := HK1.out; first | omega⟩, by repeat (first | exact Drawn0.refl _ | apply Drawn0.step)⟩
    rw [if_pos c6] at H
    have c6b0 := beq_iff_eq.mpr c6
    have c6b1 := bne_eq_false_iff_eq.mpr c6
    clear c6
    (first | rw [c6b0])
    have H' := Aside0.mk H
    clear H
    go_wp2
    go_meet
    case rel => exact ⟨_, (((bt a0 x4_1) == 39)), (by (simp [*]; done)), H', ⟨by have := HK1.out; first | omega⟩, by repeat (first | exact Drawn0.refl _ | apply Drawn0.step)⟩
   case rest =>
    clear HC5 c2b0 c3b0 p4 q4 hx4
    obtain ⟨kq, x21_4, rfl, HA, HJ4, ⟨mc4, rfl⟩⟩ := hcut
    cases kq with
    | zero => exact absurd HA.out (by simp [grammar_quoted.j1])
    | succ kj4 =>
     have H := HA.out
     clear HA
     simp only [grammar_quoted.j1] at H
     by_cases c7 : x21_4 = true
     · subst c7
       rw [if_pos rfl] at H
       obtain ⟨c8, H⟩ := gd H
       have c8b0 := eq_true c8
       have c8b1 := decide_eq_true c8
       clear c8
       obtain ⟨c9, H⟩ := gd H
       have c9b0 := eq_true c9
       have c9b1 := decide_eq_true c9
       obtain ⟨c10, H⟩ := gd H
       have c10b0 := eq_true c10
       have c10b1 := decide_eq_true c10
       obtain ⟨c11, H⟩ := gd H
       have c11b0 := eq_true c11
       have c11b1 := decide_eq_true c11
       try have c11b2 : (9223372036854775807 < 1 + (a0.extract (x4_1 : Int).toNat ((wrap64 (x4_1 + 1)) : Int).toNat).size) = False := eq_false (Nat.not_lt.2 c11)
       obtain ⟨c12, H⟩ := gd H
       have c12b0 := eq_true c12
       have c12b1 := decide_eq_true c12
       try have c12b2 : (9223372036854775807 < x3_1.size + ((⟨#[92]⟩ : ByteArray) ++ (a0.extract (x4_1 : Int).toNat ((wrap64 (x4_1 + 1)) : Int).toNat)).size) = False := eq_false (Nat.not_lt.2 c12)
       try have c12b3 : (9223372036854775807 < x3_1.size + (1 + ((a0.extract (x4_1 : Int).toNat ((wrap64 (x4_1 + 1)) : Int).toNat).size))) = False := eq_false (Nat.not_lt.2 (by have h_ := c12; simp only [ByteArray.size_append] at h_; exact h_))
       have e11_ : (wrap64 (x4_1 + 1)) ≤ (a0.size : Int) := of_decide_eq_true (by assumption)
       have f11_ : (9223372036854775807 < 1 + ((wrap64 (x4_1 + 1)).toNat - x4_1.toNat)) = False := eq_false (by have h_ := c11; rw [ByteArray.size_extract] at h_; omega)
       have f12_ : (9223372036854775807 < x3_1.size + (1 + ((wrap64 (x4_1 + 1)).toNat - x4_1.toNat))) = False := eq_false (by have h_ := c12; rw [ByteArray.size_append, ByteArray.size_extract] at h_; have z_ : (⟨#[92]⟩ : ByteArray).size = 1 := rfl; omega)
       clear e11_
       have H' := Aside0.mk H
       clear H
       go_wp2
       go_roundg kj4
       case measure => have := HK1.out; have := HJ4.out; omega
       case rel => exact ⟨(x3_1 ++ ((⟨#[92]⟩ : ByteArray) ++ (a0.extract (x4_1 : Int).toNat ((wrap64 (x4_1 + 1)) : Int).toNat))), (wrap64 (x4_1 + 1)), rfl, rfl, H', ⟨by have := HK1.out; have := HJ4.out; omega⟩, by repeat (first | exact Drawn0.refl _ | apply Drawn0.step)⟩
     replace c7 := Bool.eq_false_iff.mpr c7
     subst c7
     rw [if_neg (show ¬ (false = true) by decide)] at H
     by_cases c13 : (bt a0 x4_1) = 10
     · rw [if_pos c13] at H
       have c13b0 := beq_iff_eq.mpr c13
       have c13b1 := bne_eq_false_iff_eq.mpr c13
       clear c13
       obtain ⟨c14, H⟩ := gd H
       have c14b0 := eq_true c14
       have c14b1 := decide_eq_true c14
       try have c14b2 : (9223372036854775807 < x3_1.size + 2) = False := eq_false (Nat.not_lt.2 c14)
       have H' := Aside0.mk H
       clear H
       go_wp2
       go_roundg kj4
       case measure => have := HK1.out; have := HJ4.out; omega
       case rel => exact ⟨(x3_1 ++ (⟨#[92, 110]⟩ : ByteArray)), (wrap64 (x4_1 + 1)), rfl, rfl, H', ⟨by have := HK1.out; have := HJ4.out; omega⟩, by repeat (first | exact Drawn0.refl _ | apply Drawn0.step)⟩
     rw [if_neg c13] at H
     have c13b0 := beq_eq_false_iff_ne.mpr c13
     have c13b1 := bne_iff_ne.mpr c13
     obtain ⟨c15, H⟩ := gd H
     have c15b0 := eq_true c15
     have c15b1 := decide_eq_true c15
     clear c15
     obtain ⟨c16, H⟩ := gd H
     have c16b0 := eq_true c16
     have c16b1 := decide_eq_true c16
     obtain ⟨c17, H⟩ := gd H
     have c17b0 := eq_true c17
     have c17b1 := decide_eq_true c17
     obtain ⟨c18, H⟩ := gd H
     have c18b0 := eq_true c18
     have c18b1 := decide_eq_true c18
     try have c18b2 : (9223372036854775807 < x3_1.size + (a0.extract (x4_1 : Int).toNat ((wrap64 (x4_1 + 1)) : Int).toNat).size) = False := eq_false (Nat.not_lt.2 c18)
     have H' := Aside0.mk H
     clear H
     go_wp2
     go_roundg kj4
     case measure => have := HK1.out; have := HJ4.out; omega
     case rel => exact ⟨(x3_1 ++ (a0.extract (x4_1 : Int).toNat ((wrap64 (x4_1 + 1)) : Int).toNat)), (wrap64 (x4_1 + 1)), rfl, rfl, H', ⟨by have := HK1.out; have := HJ4.out; omega⟩, by repeat (first | exact Drawn0.refl _ | apply Drawn0.step)⟩
end Go.Proofs.Ytcnllhnhinmokaa.PHGr
end
section
namespace Go.Proofs.Ytcnllhnhinmokaa.PHGr
open Go.RowKit Go.Proofs.YtcnllhnhinmokaaW.PrintWords Go.Proofs.YtcnllhnhinmokaaW.PrintLast Go.Proofs.YtcnllhnhinmokaaW.PrintMore
attribute [local go_sem] max2_int min2_int max_two min_two max_three min_three max_four min_four
set_option linter.unusedVariables false
set_option linter.unusedSimpArgs false
mutual
def grammar_text.l0 : Nat → ByteArray → List (S52) → Int → Int → ByteArray → ByteArray → List (S52) → Option (ByteArray)
 | 0, _, _, _, _, _, _, _ => none
 | k + 1, x3, x49, x50, x51, x195000, x195001, x195002 => if x51 < x50 then (if 0 ≤ x51 then (if x51 < (x49.length : Int) then (if x195000.toList = ([111, 114] : List UInt8) then (if x3.size + 2 ≤ 9223372036854775807 then ((grammar_text.f k ((rd_T52 x49 x51).f0) ((rd_T52 x49 x51).f1) ((rd_T52 x49 x51).f2)).bind fun t204 => (if 1 + t204.size ≤ 9223372036854775807 then (if (x3 ++ (⟨#[32, 47]⟩ : ByteArray)).size + ((⟨#[32]⟩ : ByteArray) ++ t204).size ≤ 9223372036854775807 then (grammar_text.l0 k ((x3 ++ (⟨#[32, 47]⟩ : ByteArray)) ++ ((⟨#[32]⟩ : ByteArray) ++ t204)) x49 x50 (wrap64 (x51 + 1)) x195000 x195001 x195002) else (none)) else (none))) else (none)) else ((grammar_text.f k ((rd_T52 x49 x51).f0) ((rd_T52 x49 x51).f1) ((rd_T52 x49 x51).f2)).bind fun t205 => (if 1 + t205.size ≤ 9223372036854775807 then (if x3.size + ((⟨#[32]⟩ : ByteArray) ++ t205).size ≤ 9223372036854775807 then (grammar_text.l0 k (x3 ++ ((⟨#[32]⟩ : ByteArray) ++ t205)) x49 x50 (wrap64 (x51 + 1)) x195000 x195001 x195002) else (none)) else (none)))) else (none)) else (none)) else (if x3.size + 2 ≤ 9223372036854775807 then (some (x3 ++ (⟨#[32, 41]⟩ : ByteArray))) else (none))
def grammar_text.f : Nat → ByteArray → ByteArray → List (S52) → Option (ByteArray)
 | 0, _, _, _ => none
 | k + 1, a0_0, a0_1, l0_2 => if a0_0.toList = ([105, 115] : List UInt8) then ((grammar_quoted.f k a0_1).bind fun t195 => (some t195)) else (if a0_0.toList = ([97, 110, 121] : List UInt8) then (some (⟨#[46]⟩ : ByteArray)) else (if a0_0.toList = ([114, 117, 108, 101] : List UInt8) then (some a0_1) else (if a0_0.toList = ([110, 111, 116, 104, 105, 110, 103] : List UInt8) then (some (⟨#[40, 41]⟩ : ByteArray)) else (if a0_0.toList = ([109, 97, 110, 121] : List UInt8) then (if 0 < (l0_2.length : Int) then ((grammar_text.f k ((rd_T52 l0_2 0).f0) ((rd_T52 l0_2 0).f1) ((rd_T52 l0_2 0).f2)).bind fun t197 => (if 2 + t197.size ≤ 9223372036854775807 then (if ((⟨#[40, 32]⟩ : ByteArray) ++ t197).size + 4 ≤ 9223372036854775807 then (some (((⟨#[40, 32]⟩ : ByteArray) ++ t197) ++ (⟨#[32, 42, 32, 41]⟩ : ByteArray))) else (none)) else (none))) else (none)) else (if a0_0.toList = ([111, 112, 116] : List UInt8) then (if 0 < (l0_2.length : Int) then ((grammar_text.f k ((rd_T52 l0_2 0).f0) ((rd_T52 l0_2 0).f1) ((rd_T52 l0_2 0).f2)).bind fun t199 => (if 2 + t199.size ≤ 9223372036854775807 then (if ((⟨#[40, 32]⟩ : ByteArray) ++ t199).size + 4 ≤ 9223372036854775807 then (some (((⟨#[40, 32]⟩ : ByteArray) ++ t199) ++ (⟨#[32, 63, 32, 41]⟩ : ByteArray))) else (none)) else (none))) else (none)) else (if a0_0.toList = ([110, 111, 116] : List UInt8) then (if 0 < (l0_2.length : Int) then ((grammar_text.f k ((rd_T52 l0_2 0).f0) ((rd_T52 l0_2 0).f1) ((rd_T52 l0_2 0).f2)).bind fun t201 => (if 4 + t201.size ≤ 9223372036854775807 then (if ((⟨#[40, 32, 33, 32]⟩ : ByteArray) ++ t201).size + 2 ≤ 9223372036854775807 then (some (((⟨#[40, 32, 33, 32]⟩ : ByteArray) ++ t201) ++ (⟨#[32, 41]⟩ : ByteArray))) else (none)) else (none))) else (none)) else (grammar_text.l0 k (⟨#[40]⟩ : ByteArray) l0_2 (l0_2.length : Int) 0 a0_0 a0_1 l0_2)))))))
end
set_option maxHeartbeats 8000000 in
set_option maxRecDepth 100000 in
theorem grammar_text.calls (k : Nat) : ∀ (a0_0 : ByteArray) (a0_1 : ByteArray) (A0_2 : Option Addr) (c0_2 : Nat) (l0_2 : List (S52)) (r : ByteArray) (w : World) (hr0_2 : Kd.C k52 w A0_2 l0_2.length l0_2) (hc0_2 : l0_2.length ≤ c0_2) (h : grammar_text.f k a0_0 a0_1 l0_2 = some r),
 Calls Try.prog 50 #[.agg #[.string a0_0, .string a0_1, .slice A0_2 l0_2.length c0_2]] w fun e w' => e = .returned (.string r) ∧ Below w.heap.size w w' := by
 induction k using Nat.strongRecOn with
 | _ k ih =>
 intro a0_0 a0_1 A0_2 c0_2 l0_2 r w hr0_2 hc0_2 h
 cases k with
 | zero => exact absurd h (by simp [grammar_text.f])
 | succ k =>
 simp only [grammar_text.f] at h
 have hu52 := Try.underlying52
 have HR0_2 := Aside0.mk hr0_2
 have HC0_2 := Aside0.mk hc0_2
 clear hr0_2 hc0_2
 have HB := Aside0.mk (Below.refl w.heap.size w)
 have H : (if a0_0.toList = ([105, 115] : List UInt8) then ((grammar_quoted.f k a0_1).bind fun t195 => (some t195)) else (if a0_0.toList = ([97, 110, 121] : List UInt8) then (some (⟨#[46]⟩ : ByteArray)) else (if a0_0.toList = ([114, 117, 108, 101] : List UInt8) then (some a0_1) else (if a0_0.toList = ([110, 111, 116, 104, 105, 110, 103] : List UInt8) then (some (⟨#[40, 41]⟩ : ByteArray)) else (if a0_0.toList = ([109, 97, 110, 121] : List UInt8) then (if 0 < (l0_2.length : Int) then ((grammar_text.f k ((rd_T52 l0_2 0).f0) ((rd_T52 l0_2 0).f1) ((rd_T52 l0_2 0).f2)).bind fun t197 => (if 2 + t197.size ≤ 9223372036854775807 then (if ((⟨#[40, 32]⟩ : ByteArray) ++ t197).size + 4 ≤ 9223372036854775807 then (some (((⟨#[40, 32]⟩ : ByteArray) ++ t197) ++ (⟨#[32, 42, 32, 41]⟩ : ByteArray))) else (none)) else (none))) else (none)) else (if a0_0.toList = ([111, 112, 116] : List UInt8) then (if 0 < (l0_2.length : Int) then ((grammar_text.f k ((rd_T52 l0_2 0).f0) ((rd_T52 l0_2 0).f1) ((rd_T52 l0_2 0).f2)).bind fun t199 => (if 2 + t199.size ≤ 9223372036854775807 then (if ((⟨#[40, 32]⟩ : ByteArray) ++ t199).size + 4 ≤ 9223372036854775807 then (some (((⟨#[40, 32]⟩ : ByteArray) ++ t199) ++ (⟨#[32, 63, 32, 41]⟩ : ByteArray))) else (none)) else (none))) else (none)) else (if a0_0.toList = ([110, 111, 116] : List UInt8) then (if 0 < (l0_2.length : Int) then ((grammar_text.f k ((rd_T52 l0_2 0).f0) ((rd_T52 l0_2 0).f1) ((rd_T52 l0_2 0).f2)).bind fun t201 => (if 4 + t201.size ≤ 9223372036854775807 then (if ((⟨#[40, 32, 33, 32]⟩ : ByteArray) ++ t201).size + 2 ≤ 9223372036854775807 then (some (((⟨#[40, 32, 33, 32]⟩ : ByteArray) ++ t201) ++ (⟨#[32, 41]⟩ : ByteArray))) else (none)) else (none))) else (none)) else (grammar_text.l0 k (⟨#[40]⟩ : ByteArray) l0_2 (l0_2.length : Int) 0 a0_0 a0_1 l0_2)))))))) = some r := h
 clear h
 by_cases c2 : a0_0.toList = ([105, 115] : List UInt8)
 · rw [if_pos c2] at H
   have c2b0 := beq_iff_eq.mpr c2
   have c2b1 := bne_eq_false_iff_eq.mpr c2
   clear c2
   replace H := Option.bind_eq_some_iff.mp H
   obtain ⟨t195, A30, H⟩ := H
   have A3 := Aside0.mk A30
   clear A30
   obtain rfl := Option.some.inj H
   go_enter Try.func50, Try.ntmps50
   go_wp2_with (first | ((with_reducible refine gate_dst (N := 1) rfl ?_); refine box_event ?hg (N := 1) ?hd (cs := #[.string a0_0, .string a0_1, .slice A0_2 l0_2.length c0_2]) (t := 52) ?hr ?_; (case hd => rfl); (case hg => rfl); (case hr => (go_simp; done)); intro gb194 hg w4 hbox hb; have n0_ := Aside0.mk (below_step HB.out hb); have n1_ := Aside0.mk (hbox); have n2_ := Aside0.mk ((by rw [hg]; exact (below_size HB.out) : w.heap.size ≤ gb194)); have n3_ := Aside0.mk ((by rw [hg]; exact (below_size HB.out) : w.heap.size ≤ gb194)); clear HB; have HB := n0_; have BK194 := n1_; have GW194 := n2_; have GE194 := n3_; clear n0_ n1_ n2_ n3_; clear hb hbox hg; have hcz5_0 : w4.cell? ⟨gb194, 0, none⟩ = some (.string a0_0) := (blk_cell BK194.out 0).trans rfl; have hcz5_1 : w4.cell? ⟨gb194, 1, none⟩ = some (.string a0_1) := (blk_cell BK194.out 1).trans rfl; have hcz5_2 : w4.cell? ⟨gb194, 2, none⟩ = some (.slice A0_2 l0_2.length c0_2) := (blk_cell BK194.out 2).trans rfl; have hfz5_0 := blk_frozen BK194.out 0; have hfz5_1 := blk_frozen BK194.out 1; have hfz5_2 := blk_frozen BK194.out 2) | ((with_reducible refine gate_callee (f := 77) rfl ?_); refine goesL_ (some 12) rfl rfl Try.func77 (by kernel_rfl) rfl #[.string a0_1] rfl (by (try simp only [List.map_toArray, List.map_cons, List.map_nil]); first | rfl) ?_; (with_reducible refine (grammar_quoted.calls k a0_1 t195 _ A3.out).mono ?_); rintro e w' ⟨rfl, ⟨nd, rfl⟩⟩; refine ⟨_, rfl, ?_⟩))
   go_ret
   exact ⟨by first | rfl, by repeat ((with_reducible first | exact HB.out | apply pw_below_drewN))⟩
 rw [if_neg c2] at H
 have c2b0 := beq_eq_false_iff_ne.mpr c2
 have c2b1 := bne_iff_ne.mpr c2
 by_cases c6 : a0_0.toList = ([97, 110, 121] : List UInt8)
 · rw [if_pos c6] at H
   have c6b0 := beq_iff_eq.mpr c6
   have c6b1 := bne_eq_false_iff_eq.mpr c6
   clear c6
   obtain rfl := Option.some.inj H
   go_enter Try.func50, Try.ntmps50
   go_wp2_with (((with_reducible refine gate_dst (N := 1) rfl ?_); refine box_event ?hg (N := 1) ?hd (cs := #[.string a0_0, .string a0_1, .slice A0_2 l0_2.length c0_2]) (t := 52) ?hr ?_; (case hd => rfl); (case hg => rfl); (case hr => (go_simp; done)); intro gb194 hg w7 hbox hb; have n0_ := Aside0.mk (below_step HB.out hb); have n1_ := Aside0.mk (hbox); have n2_ := Aside0.mk ((by rw [hg]; exact (below_size HB.out) : w.heap.size ≤ gb194)); have n3_ := Aside0.mk ((by rw [hg]; exact (below_size HB.out) : w.heap.size ≤ gb194)); clear HB; have HB := n0_; have BK194 := n1_; have GW194 := n2_; have GE194 := n3_; clear n0_ n1_ n2_ n3_; clear hb hbox hg; have hcz8_0 : w7.cell? ⟨gb194, 0, none⟩ = some (.string a0_0) := (blk_cell BK194.out 0).trans rfl; have hcz8_1 : w7.cell? ⟨gb194, 1, none⟩ = some (.string a0_1) := (blk_cell BK194.out 1).trans rfl; have hcz8_2 : w7.cell? ⟨gb194, 2, none⟩ = some (.slice A0_2 l0_2.length c0_2) := (blk_cell BK194.out 2).trans rfl; have hfz8_0 := blk_frozen BK194.out 0; have hfz8_1 := blk_frozen BK194.out 1; have hfz8_2 := blk_frozen BK194.out 2))
   go_ret
   exact ⟨by first | rfl, by exact HB.out⟩
 rw [if_neg c6] at H
 have c6b0 := beq_eq_false_iff_ne.mpr c6
 have c6b1 := bne_iff_ne.mpr c6
 by_cases c9 : a0_0.toList = ([114, 117, 108, 101] : List UInt8)
 · rw [if_pos c9] at H
   have c9b0 := beq_iff_eq.mpr c9
   have c9b1 := bne_eq_false_iff_eq.mpr c9
   clear c9
   obtain rfl := Option.some.inj H
   go_enter Try.func50, Try.ntmps50
   go_wp2_with (((with_reducible refine gate_dst (N := 1) rfl ?_); refine box_event ?hg (N := 1) ?hd (cs := #[.string a0_0, .string a0_1, .slice A0_2 l0_2.length c0_2]) (t := 52) ?hr ?_; (case hd => rfl); (case hg => rfl); (case hr => (go_simp; done)); intro gb194 hg w10 hbox hb; have n0_ := Aside0.mk (below_step HB.out hb); have n1_ := Aside0.mk (hbox); have n2_ := Aside0.mk ((by rw [hg]; exact (below_size HB.out) : w.heap.size ≤ gb194)); have n3_ := Aside0.mk ((by rw [hg]; exact (below_size HB.out) : w.heap.size ≤ gb194)); clear HB; have HB := n0_; have BK194 := n1_; have GW194 := n2_; have GE194 := n3_; clear n0_ n1_ n2_ n3_; clear hb hbox hg; have hcz11_0 : w10.cell? ⟨gb194, 0, none⟩ = some (.string a0_0) := (blk_cell BK194.out 0).trans rfl; have hcz11_1 : w10.cell? ⟨gb194, 1, none⟩ = some (.string a0_1) := (blk_cell BK194.out 1).trans rfl; have hcz11_2 : w10.cell? ⟨gb194, 2, none⟩ = some (.slice A0_2 l0_2.length c0_2) := (blk_cell BK194.out 2).trans rfl; have hfz11_0 := blk_frozen BK194.out 0; have hfz11_1 := blk_frozen BK194.out 1; have hfz11_2 := blk_frozen BK194.out 2))
   go_ret
   exact ⟨by first | rfl, by exact HB.out⟩
 rw [if_neg c9] at H
 have c9b0 := beq_eq_false_iff_ne.mpr c9
 have c9b1 := bne_iff_ne.mpr c9
 by_cases c12 : a0_0.toList = ([110, 111, 116, 104, 105, 110, 103] : List UInt8)
 · rw [if_pos c12] at H
   have c12b0 := beq_iff_eq.mpr c12
   have c12b1 := bne_eq_false_iff_eq.mpr c12
   clear c12
   obtain rfl := Option.some.inj H
   go_enter Try.func50, Try.ntmps50
   go_wp2_with (((with_reducible refine gate_dst (N := 1) rfl ?_); refine box_event ?hg (N := 1) ?hd (cs := #[.string a0_0, .string a0_1, .slice A0_2 l0_2.length c0_2]) (t := 52) ?hr ?_; (case hd => rfl); (case hg => rfl); (case hr => (go_simp; done)); intro gb194 hg w13 hbox hb; have n0_ := Aside0.mk (below_step HB.out hb); have n1_ := Aside0.mk (hbox); have n2_ := Aside0.mk ((by rw [hg]; exact (below_size HB.out) : w.heap.size ≤ gb194)); have n3_ := Aside0.mk ((by rw [hg]; exact (below_size HB.out) : w.heap.size ≤ gb194)); clear HB; have HB := n0_; have BK194 := n1_; have GW194 := n2_; have GE194 := n3_; clear n0_ n1_ n2_ n3_; clear hb hbox hg; have hcz14_0 : w13.cell? ⟨gb194, 0, none⟩ = some (.string a0_0) := (blk_cell BK194.out 0).trans rfl; have hcz14_1 : w13.cell? ⟨gb194, 1, none⟩ = some (.string a0_1) := (blk_cell BK194.out 1).trans rfl; have hcz14_2 : w13.cell? ⟨gb194, 2, none⟩ = some (.slice A0_2 l0_2.length c0_2) := (blk_cell BK194.out 2).trans rfl; have hfz14_0 := blk_frozen BK194.out 0; have hfz14_1 := blk_frozen BK194.out 1; have hfz14_2 := blk_frozen BK194.out 2))
   go_ret
   exact ⟨by first | rfl, by exact HB.out⟩
 rw [if_neg c12] at H
 have c12b0 := beq_eq_false_iff_ne.mpr c12
 have c12b1 := bne_iff_ne.mpr c12
 by_cases c15 : a0_0.toList = ([109, 97, 110, 121] : List UInt8)
 · rw [if_pos c15] at H
   have c15b0 := beq_iff_eq.mpr c15
   have c15b1 := bne_eq_false_iff_eq.mpr c15
   clear c15
   obtain ⟨c16, H⟩ := gd H
   have c16b0 := decide_eq_true c16
   have c16b1 : decide (0 < l0_2.length) = true := decide_eq_true (by omega)
   clear c16
   replace H := Option.bind_eq_some_iff.mp H
   obtain ⟨t197, A170, H⟩ := H
   have A17 := Aside0.mk A170
   clear A170
   obtain ⟨c18, H⟩ := gd H
   have c18b0 := eq_true c18
   have c18b1 := decide_eq_true c18
   try have c18b2 : (9223372036854775807 < 2 + t197.size) = False := eq_false (Nat.not_lt.2 c18)
   obtain ⟨c19, H⟩ := gd H
   have c19b0 := eq_true c19
   have c19b1 := decide_eq_true c19
   try have c19b2 : (9223372036854775807 < ((⟨#[40, 32]⟩ : ByteArray) ++ t197).size + 4) = False := eq_false (Nat.not_lt.2 c19)
   try have c19b3 : (9223372036854775807 < 2 + t197.size + 4) = False := eq_false (Nat.not_lt.2 (by have h_ := c19; simp only [ByteArray.size_append] at h_; exact h_))
   obtain rfl := Option.some.inj H
   go_enter Try.func50, Try.ntmps50
   go_wp2_with (first | ((with_reducible refine gate_dst (N := 1) rfl ?_); refine box_event ?hg (N := 1) ?hd (cs := #[.string a0_0, .string a0_1, .slice A0_2 l0_2.length c0_2]) (t := 52) ?hr ?_; (case hd => rfl); (case hg => rfl); (case hr => (go_simp; done)); intro gb194 hg w20 hbox hb; have n0_ := Aside0.mk (below_step HB.out hb); have n1_ := Aside0.mk (hbox); have n2_ := Aside0.mk ((by rw [hg]; exact (below_size HB.out) : w.heap.size ≤ gb194)); have n3_ := Aside0.mk ((by rw [hg]; exact (below_size HB.out) : w.heap.size ≤ gb194)); clear HB; have HB := n0_; have BK194 := n1_; have GW194 := n2_; have GE194 := n3_; clear n0_ n1_ n2_ n3_; clear hb hbox hg; have hcz21_0 : w20.cell? ⟨gb194, 0, none⟩ = some (.string a0_0) := (blk_cell BK194.out 0).trans rfl; have hcz21_1 : w20.cell? ⟨gb194, 1, none⟩ = some (.string a0_1) := (blk_cell BK194.out 1).trans rfl; have hcz21_2 : w20.cell? ⟨gb194, 2, none⟩ = some (.slice A0_2 l0_2.length c0_2) := (blk_cell BK194.out 2).trans rfl; have hfz21_0 := blk_frozen BK194.out 0; have hfz21_1 := blk_frozen BK194.out 1; have hfz21_2 := blk_frozen BK194.out 2; have p196 : 0 ≤ (0 : Int) := (by omega); have q196 : 0 < (l0_2.length : Int) := of_decide_eq_true (by assumption); obtain ⟨ad196, A196_2, c196_2, e196, hx196_0, hx196_1, hx196_2, hl196_2, hi196_2⟩ := at_T52 HR0_2.out 0 p196 q196; cases e196; have qi196 : (0 < l0_2.length) = True := eq_true (by omega); (try rw [show ((0 : Int)).toNat = 0 from rfl] at hx196_0); (try rw [show 0 * 3 = 0 from rfl] at hx196_0); (try rw [Addr.add_zero'] at hx196_0); (try rw [show ((0 : Int)).toNat = 0 from rfl] at hx196_1); (try rw [show 0 * 3 = 0 from rfl] at hx196_1); (try rw [Addr.add_zero'] at hx196_1); (try rw [show ((0 : Int)).toNat = 0 from rfl] at hx196_2); (try rw [show 0 * 3 = 0 from rfl] at hx196_2); (try rw [Addr.add_zero'] at hx196_2); replace hx196_0 := ct HB.out hx196_0; replace hx196_1 := ct HB.out hx196_1; replace hx196_2 := ct HB.out hx196_2; have HR196_2 := Aside0.mk hi196_2; have HC196_2 := Aside0.mk hl196_2; clear hi196_2 hl196_2; replace p196 := eq_true p196; replace q196 := eq_true q196) | ((with_reducible refine gate_callee (f := 50) rfl ?_); refine goesL_ (some 27) rfl rfl Try.func50 (by kernel_rfl) rfl #[.agg #[.string ((rd_T52 l0_2 0).f0), .string ((rd_T52 l0_2 0).f1), .slice A196_2 ((rd_T52 l0_2 0).f2).length c196_2]] rfl (by (try simp only [List.map_toArray, List.map_cons, List.map_nil]); first | rfl) ?_; (with_reducible refine (ih k (by omega) ((rd_T52 l0_2 0).f0) ((rd_T52 l0_2 0).f1) _ _ ((rd_T52 l0_2 0).f2) t197 _ ?side1 ?side2 A17.out).mono ?_); (case side1 => repeat (first | exact (Kd.C_below HR196_2.out HB.out))); (case side2 => exact HC196_2.out); rintro e w22 ⟨rfl, hb⟩; refine ⟨_, rfl, ?_⟩; have n0_ := Aside0.mk (blk_below (g := gb194) (o := .cells #[.string a0_0, .string a0_1, .slice (some ad196) l0_2.length c0_2] 52 (0, 0)) BK194.out hb); have n1_ := Aside0.mk (below_step HB.out hb); clear BK194; clear HB; have BK194 := n0_; have HB := n1_; clear n0_ n1_; (try clear hb)))
   go_ret
   exact ⟨by first | rfl, by exact HB.out⟩
 rw [if_neg c15] at H
 have c15b0 := beq_eq_false_iff_ne.mpr c15
 have c15b1 := bne_iff_ne.mpr c15
 by_cases c23 : a0_0.toList = ([111, 112, 116] : List UInt8)
 · rw [if_pos c23] at H
   have c23b0 := beq_iff_eq.mpr c23
   have c23b1 := bne_eq_false_iff_eq.mpr c23
   clear c23
   obtain ⟨c24, H⟩ := gd H
   have c24b0 := decide_eq_true c24
   have c24b1 : decide (0 < l0_2.length) = true := decide_eq_true (by omega)
   clear c24
   replace H := Option.bind_eq_some_iff.mp H
   obtain ⟨t199, A250, H⟩ := H
   have A25 := Aside0.mk A250
   clear A250
   obtain ⟨c26, H⟩ := gd H
   have c26b0 := eq_true c26
   have c26b1 := decide_eq_true c26
   try have c26b2 : (9223372036854775807 < 2 + t199.size) = False := eq_false (Nat.not_lt.2 c26)
   obtain ⟨c27, H⟩ := gd H
   have c27b0 := eq_true c27
   have c27b1 := decide_eq_true c27
   try have c27b2 : (9223372036854775807 < ((⟨#[40, 32]⟩ : ByteArray) ++ t199).size + 4) = False := eq_false (Nat.not_lt.2 c27)
   try have c27b3 : (9223372036854775807 < 2 + t199.size + 4) = False := eq_false (Nat.not_lt.2 (by have h_ := c27; simp only [ByteArray.size_append] at h_; exact h_))
   obtain rfl := Option.some.inj H
   go_enter Try.func50, Try.ntmps50
   go_wp2_with (first | ((with_reducible refine gate_dst (N := 1) rfl ?_); refine box_event ?hg (N := 1) ?hd (cs := #[.string a0_0, .string a0_1, .slice A0_2 l0_2.length c0_2]) (t := 52) ?hr ?_; (case hd => rfl); (case hg => rfl); (case hr => (go_simp; done)); intro gb194 hg w28 hbox hb; have n0_ := Aside0.mk (below_step HB.out hb); have n1_ := Aside0.mk (hbox); have n2_ := Aside0.mk ((by rw [hg]; exact (below_size HB.out) : w.heap.size ≤ gb194)); have n3_ := Aside0.mk ((by rw [hg]; exact (below_size HB.out) : w.heap.size ≤ gb194)); clear HB; have HB := n0_; have BK194 := n1_; have GW194 := n2_; have GE194 := n3_; clear n0_ n1_ n2_ n3_; clear hb hbox hg; have hcz29_0 : w28.cell? ⟨gb194, 0, none⟩ = some (.string a0_0) := (blk_cell BK194.out 0).trans rfl; have hcz29_1 : w28.cell? ⟨gb194, 1, none⟩ = some (.string a0_1) := (blk_cell BK194.out 1).trans rfl; have hcz29_2 : w28.cell? ⟨gb194, 2, none⟩ = some (.slice A0_2 l0_2.length c0_2) := (blk_cell BK194.out 2).trans rfl; have hfz29_0 := blk_frozen BK194.out 0; have hfz29_1 := blk_frozen BK194.out 1; have hfz29_2 := blk_frozen BK194.out 2; have p198 : 0 ≤ (0 : Int) := (by omega); have q198 : 0 < (l0_2.length : Int) := of_decide_eq_true (by assumption); obtain ⟨ad198, A198_2, c198_2, e198, hx198_0, hx198_1, hx198_2, hl198_2, hi198_2⟩ := at_T52 HR0_2.out 0 p198 q198; cases e198; have qi198 : (0 < l0_2.length) = True := eq_true (by omega); (try rw [show ((0 : Int)).toNat = 0 from rfl] at hx198_0); (try rw [show 0 * 3 = 0 from rfl] at hx198_0); (try rw [Addr.add_zero'] at hx198_0); (try rw [show ((0 : Int)).toNat = 0 from rfl] at hx198_1); (try rw [show 0 * 3 = 0 from rfl] at hx198_1); (try rw [Addr.add_zero'] at hx198_1); (try rw [show ((0 : Int)).toNat = 0 from rfl] at hx198_2); (try rw [show 0 * 3 = 0 from rfl] at hx198_2); (try rw [Addr.add_zero'] at hx198_2); replace hx198_0 := ct HB.out hx198_0; replace hx198_1 := ct HB.out hx198_1; replace hx198_2 := ct HB.out hx198_2; have HR198_2 := Aside0.mk hi198_2; have HC198_2 := Aside0.mk hl198_2; clear hi198_2 hl198_2; replace p198 := eq_true p198; replace q198 := eq_true q198) | ((with_reducible refine gate_callee (f := 50) rfl ?_); refine goesL_ (some 36) rfl rfl Try.func50 (by kernel_rfl) rfl #[.agg #[.string ((rd_T52 l0_2 0).f0), .string ((rd_T52 l0_2 0).f1), .slice A198_2 ((rd_T52 l0_2 0).f2).length c198_2]] rfl (by (try simp only [List.map_toArray, List.map_cons, List.map_nil]); first | rfl) ?_; (with_reducible refine (ih k (by omega) ((rd_T52 l0_2 0).f0) ((rd_T52 l0_2 0).f1) _ _ ((rd_T52 l0_2 0).f2) t199 _ ?side1 ?side2 A25.out).mono ?_); (case side1 => repeat (first | exact (Kd.C_below HR198_2.out HB.out))); (case side2 => exact HC198_2.out); rintro e w30 ⟨rfl, hb⟩; refine ⟨_, rfl, ?_⟩; have n0_ := Aside0.mk (blk_below (g := gb194) (o := .cells #[.string a0_0, .string a0_1, .slice (some ad198) l0_2.length c0_2] 52 (0, 0)) BK194.out hb); have n1_ := Aside0.mk (below_step HB.out hb); clear BK194; clear HB; have BK194 := n0_; have HB := n1_; clear n0_ n1_; (try clear hb)))
   go_ret
   exact ⟨by first | rfl, by exact HB.out⟩
 rw [if_neg c23] at H
 have c23b0 := beq_eq_false_iff_ne.mpr c23
 have c23b1 := bne_iff_ne.mpr c23
 by_cases c31 : a0_0.toList = ([110, 111, 116] : List UInt8)
 · rw [if_pos c31] at H
   have c31b0 := beq_iff_eq.mpr c31
   have c31b1 := bne_eq_false_iff_eq.mpr c31
   clear c31
   obtain ⟨c32, H⟩ := gd H
   have c32b0 := decide_eq_true c32
   have c32b1 : decide (0 < l0_2.length) = true := decide_eq_true (by omega)
   clear c32
   replace H := Option.bind_eq_some_iff.mp H
   obtain ⟨t201, A330, H⟩ := H
   have A33 := Aside0.mk A330
   clear A330
   obtain ⟨c34, H⟩ := gd H
   have c34b0 := eq_true c34
   have c34b1 := decide_eq_true c34
   try have c34b2 : (9223372036854775807 < 4 + t201.size) = False := eq_false (Nat.not_lt.2 c34)
   obtain ⟨c35, H⟩ := gd H
   have c35b0 := eq_true c35
   have c35b1 := decide_eq_true c35
   try have c35b2 : (9223372036854775807 < ((⟨#[40, 32, 33, 32]⟩ : ByteArray) ++ t201).size + 2) = False := eq_false (Nat.not_lt.2 c35)
   try have c35b3 : (9223372036854775807 < 4 + t201.size + 2) = False := eq_false (Nat.not_lt.2 (by have h_ := c35; simp only [ByteArray.size_append] at h_; exact h_))
   obtain rfl := Option.some.inj H
   go_enter Try.func50, Try.ntmps50
   go_wp2_with (first | ((with_reducible refine gate_dst (N := 1) rfl ?_); refine box_event ?hg (N := 1) ?hd (cs := #[.string a0_0, .string a0_1, .slice A0_2 l0_2.length c0_2]) (t := 52) ?hr ?_; (case hd => rfl); (case hg => rfl); (case hr => (go_simp; done)); intro gb194 hg w36 hbox hb; have n0_ := Aside0.mk (below_step HB.out hb); have n1_ := Aside0.mk (hbox); have n2_ := Aside0.mk ((by rw [hg]; exact (below_size HB.out) : w.heap.size ≤ gb194)); have n3_ := Aside0.mk ((by rw [hg]; exact (below_size HB.out) : w.heap.size ≤ gb194)); clear HB; have HB := n0_; have BK194 := n1_; have GW194 := n2_; have GE194 := n3_; clear n0_ n1_ n2_ n3_; clear hb hbox hg; have hcz37_0 : w36.cell? ⟨gb194, 0, none⟩ = some (.string a0_0) := (blk_cell BK194.out 0).trans rfl; have hcz37_1 : w36.cell? ⟨gb194, 1, none⟩ = some (.string a0_1) := (blk_cell BK194.out 1).trans rfl; have hcz37_2 : w36.cell? ⟨gb194, 2, none⟩ = some (.slice A0_2 l0_2.length c0_2) := (blk_cell BK194.out 2).trans rfl; have hfz37_0 := blk_frozen BK194.out 0; have hfz37_1 := blk_frozen BK194.out 1; have hfz37_2 := blk_frozen BK194.out 2; have p200 : 0 ≤ (0 : Int) := (by omega); have q200 : 0 < (l0_2.length : Int) := of_decide_eq_true (by assumption); obtain ⟨ad200, A200_2, c200_2, e200, hx200_0, hx200_1, hx200_2, hl200_2, hi200_2⟩ := at_T52 HR0_2.out 0 p200 q200; cases e200; have qi200 : (0 < l0_2.length) = True := eq_true (by omega); (try rw [show ((0 : Int)).toNat = 0 from rfl] at hx200_0); (try rw [show 0 * 3 = 0 from rfl] at hx200_0); (try rw [Addr.add_zero'] at hx200_0); (try rw [show ((0 : Int)).toNat = 0 from rfl] at hx200_1); (try rw [show 0 * 3 = 0 from rfl] at hx200_1); (try rw [Addr.add_zero'] at hx200_1); (try rw [show ((0 : Int)).toNat = 0 from rfl] at hx200_2); (try rw [show 0 * 3 = 0 from rfl] at hx200_2); (try rw [Addr.add_zero'] at hx200_2); replace hx200_0 := ct HB.out hx200_0; replace hx200_1 := ct HB.out hx200_1; replace hx200_2 := ct HB.out hx200_2; have HR200_2 := Aside0.mk hi200_2; have HC200_2 := Aside0.mk hl200_2; clear hi200_2 hl200_2; replace p200 := eq_true p200; replace q200 := eq_true q200) | ((with_reducible refine gate_callee (f := 50) rfl ?_); refine goesL_ (some 45) rfl rfl Try.func50 (by kernel_rfl) rfl #[.agg #[.string ((rd_T52 l0_2 0).f0), .string ((rd_T52 l0_2 0).f1), .slice A200_2 ((rd_T52 l0_2 0).f2).length c200_2]] rfl (by (try simp only [List.map_toArray, List.map_cons, List.map_nil]); first | rfl) ?_; (with_reducible refine (ih k (by omega) ((rd_T52 l0_2 0).f0) ((rd_T52 l0_2 0).f1) _ _ ((rd_T52 l0_2 0).f2) t201 _ ?side1 ?side2 A33.out).mono ?_); (case side1 => repeat (first | exact (Kd.C_below HR200_2.out HB.out))); (case side2 => exact HC200_2.out); rintro e w38 ⟨rfl, hb⟩; refine ⟨_, rfl, ?_⟩; have n0_ := Aside0.mk (blk_below (g := gb194) (o := .cells #[.string a0_0, .string a0_1, .slice (some ad200) l0_2.length c0_2] 52 (0, 0)) BK194.out hb); have n1_ := Aside0.mk (below_step HB.out hb); clear BK194; clear HB; have BK194 := n0_; have HB := n1_; clear n0_ n1_; (try clear hb)))
   go_ret
   exact ⟨by first | rfl, by exact HB.out⟩
 rw [if_neg c31] at H
 have c31b0 := beq_eq_false_iff_ne.mpr c31
 have c31b1 := bne_iff_ne.mpr c31
 have H' := Aside0.mk H
 clear H
 go_enter Try.func50, Try.ntmps50
 go_wp2_with (((with_reducible refine gate_dst (N := 1) rfl ?_); refine box_event ?hg (N := 1) ?hd (cs := #[.string a0_0, .string a0_1, .slice A0_2 l0_2.length c0_2]) (t := 52) ?hr ?_; (case hd => rfl); (case hg => rfl); (case hr => (go_simp; done)); intro gb194 hg w39 hbox hb; have n0_ := Aside0.mk (below_step HB.out hb); have n1_ := Aside0.mk (hbox); have n2_ := Aside0.mk ((by rw [hg]; exact (below_size HB.out) : w.heap.size ≤ gb194)); have n3_ := Aside0.mk ((by rw [hg]; exact (below_size HB.out) : w.heap.size ≤ gb194)); clear HB; have HB := n0_; have BK194 := n1_; have GW194 := n2_; have GE194 := n3_; clear n0_ n1_ n2_ n3_; clear hb hbox hg; have hcz40_0 : w39.cell? ⟨gb194, 0, none⟩ = some (.string a0_0) := (blk_cell BK194.out 0).trans rfl; have hcz40_1 : w39.cell? ⟨gb194, 1, none⟩ = some (.string a0_1) := (blk_cell BK194.out 1).trans rfl; have hcz40_2 : w39.cell? ⟨gb194, 2, none⟩ = some (.slice A0_2 l0_2.length c0_2) := (blk_cell BK194.out 2).trans rfl; have hfz40_0 := blk_frozen BK194.out 0; have hfz40_1 := blk_frozen BK194.out 1; have hfz40_2 := blk_frozen BK194.out 2))
 go_loopg [3, 51] k (fun kq v3 v51 w' => ∃ (x3_1 : ByteArray) (x51_1 : Int), v3 = .string x3_1 ∧ v51 = .int .i64 x51_1 ∧ Aside0 (grammar_text.l0 kq x3_1 l0_2 (l0_2.length : Int) x51_1 a0_0 a0_1 l0_2 = some r) ∧ Aside0 (kq ≤ k) ∧ Aside0 (w'.heap[gb194]? = some (.cells #[.string a0_0, .string a0_1, (.slice A0_2 l0_2.length c0_2)] 52 (0, 0))) ∧ Aside0 (Below w.heap.size w w'))
 case atStart => exact ⟨((⟨#[40]⟩ : ByteArray)), (0), rfl, rfl, H', ⟨Nat.le_refl _⟩, ⟨BK194.out⟩, ⟨by exact HB.out⟩⟩
 case round =>
  clear H'
  clear c2 c2b0 c2b1 c6 c6b0 c6b1 c9 c9b0 c9b1 c12 c12b0 c12b1 c15 c15b0 c15b1 c23 c23b0 c23b1 c31 c31b0 c31b1 hcz40_0 hcz40_1 hcz40_2 hfz40_0 hfz40_1 hfz40_2
  obtain ⟨x3_1, x51_1, rfl, rfl, HA, HK1, BK194, HB⟩ := hrel
  cases gk with
  | zero => exact absurd HA.out (by simp [grammar_text.l0])
  | succ k1 =>
   have H := HA.out
   clear HA
   simp only [grammar_text.l0] at H
   by_cases c41 : x51_1 < (l0_2.length : Int)
   rotate_left
   · rw [if_neg c41] at H
     have c41b0 := decide_eq_false c41
     clear c41
     obtain ⟨c62, H⟩ := gd H
     have c62b0 := eq_true c62
     have c62b1 := decide_eq_true c62
     try have c62b2 : (9223372036854775807 < x3_1.size + 2) = False := eq_false (Nat.not_lt.2 c62)
     obtain rfl := Option.some.inj H
     go_wp2
     go_ret
     exact ⟨by first | rfl, by exact HB.out⟩
   rw [if_pos c41] at H
   have c41b0 := decide_eq_true c41
   clear c41
   obtain ⟨c42, H⟩ := gd H
   have c42b0 := decide_eq_true c42
   clear c42
   obtain ⟨c43, H⟩ := gd H
   have c43b0 := decide_eq_true c43
   clear c43
   by_cases c44 : a0_0.toList = ([111, 114] : List UInt8)
   rotate_left
   · rw [if_neg c44] at H
     have c44b0 := beq_eq_false_iff_ne.mpr c44
     have c44b1 := bne_iff_ne.mpr c44
     replace H := Option.bind_eq_some_iff.mp H
     obtain ⟨t205, A540, H⟩ := H
     have A54 := Aside0.mk A540
     clear A540
     obtain ⟨c55, H⟩ := gd H
     have c55b0 := eq_true c55
     have c55b1 := decide_eq_true c55
     try have c55b2 : (9223372036854775807 < 1 + t205.size) = False := eq_false (Nat.not_lt.2 c55)
     obtain ⟨c56, H⟩ := gd H
     have c56b0 := eq_true c56
     have c56b1 := decide_eq_true c56
     try have c56b2 : (9223372036854775807 < x3_1.size + ((⟨#[32]⟩ : ByteArray) ++ t205).size) = False := eq_false (Nat.not_lt.2 c56)
     try have c56b3 : (9223372036854775807 < x3_1.size + (1 + t205.size)) = False := eq_false (Nat.not_lt.2 (by have h_ := c56; simp only [ByteArray.size_append] at h_; exact h_))
     have H' := Aside0.mk H
     clear H
     have p202 : 0 ≤ (x51_1 : Int) := of_decide_eq_true (by assumption)
     have q202 : x51_1 < (l0_2.length : Int) := of_decide_eq_true (by assumption)
     obtain ⟨ad202, A202_2, c202_2, e202, hx202_0, hx202_1, hx202_2, hl202_2, hi202_2⟩ := at_T52 HR0_2.out x51_1 p202 q202
     cases e202
     replace hx202_0 := ct HB.out hx202_0
     replace hx202_1 := ct HB.out hx202_1
     replace hx202_2 := ct HB.out hx202_2
     have HR202_2 := Aside0.mk hi202_2
     have HC202_2 := Aside0.mk hl202_2
     clear hi202_2 hl202_2
     replace p202 := eq_true p202
     replace q202 := eq_true q202
     go_wp2_with (first | ((with_reducible refine gate_dst (N := 5) rfl ?_); refine box_event ?hg (N := 5) ?hd (cs := #[.string (⟨#[]⟩ : ByteArray), .string (⟨#[]⟩ : ByteArray), .slice none 0 0]) (t := 52) ?hr ?_; (case hd => rfl); (case hg => rfl); (case hr => (go_simp; done)); intro gb203 hg w57 hbox hb; have n0_ := Aside0.mk (blk_below (g := gb194) (o := .cells #[.string a0_0, .string a0_1, .slice (some ad202) l0_2.length c0_2] 52 (0, 0)) BK194.out hb); have n1_ := Aside0.mk (below_step HB.out hb); have n2_ := Aside0.mk (hbox); have n3_ := Aside0.mk ((by rw [hg]; exact (below_size HB.out) : w.heap.size ≤ gb203)); have n4_ := Aside0.mk ((by rw [hg]; exact (below_size HB.out) : w.heap.size ≤ gb203)); have n5_ := Aside0.mk ((by rw [hg]; exact Nat.ne_of_lt (blk_lt (g := gb194) (o := .cells #[.string a0_0, .string a0_1, .slice (some ad202) l0_2.length c0_2] 52 (0, 0)) BK194.out) : gb194 ≠ gb203)); have n6_ := Aside0.mk ((by rw [hg]; exact Nat.ne_of_gt (blk_lt (g := gb194) (o := .cells #[.string a0_0, .string a0_1, .slice (some ad202) l0_2.length c0_2] 52 (0, 0)) BK194.out) : gb203 ≠ gb194)); clear BK194; clear HB; have BK194 := n0_; have HB := n1_; have BK203 := n2_; have GW203 := n3_; have GE203 := n4_; have NB194_203 := n5_; have NB203_194 := n6_; clear n0_ n1_ n2_ n3_ n4_ n5_ n6_; clear hb hbox hg; have hnb58 := NB203_194.out; have hnc58 := NB194_203.out; have hcz59_0 : w57.cell? ⟨gb203, 0, none⟩ = some (.string (⟨#[]⟩ : ByteArray)) := (blk_cell BK203.out 0).trans rfl; have hcz59_1 : w57.cell? ⟨gb203, 1, none⟩ = some (.string (⟨#[]⟩ : ByteArray)) := (blk_cell BK203.out 1).trans rfl; have hcz59_2 : w57.cell? ⟨gb203, 2, none⟩ = some (.slice none 0 0) := (blk_cell BK203.out 2).trans rfl; have hfz59_0 := blk_frozen BK203.out 0; have hfz59_1 := blk_frozen BK203.out 1; have hfz59_2 := blk_frozen BK203.out 2; have hcz60_0 : w57.cell? ⟨gb194, 0, none⟩ = some (.string a0_0) := (blk_cell BK194.out 0).trans rfl; have hcz60_1 : w57.cell? ⟨gb194, 1, none⟩ = some (.string a0_1) := (blk_cell BK194.out 1).trans rfl; have hcz60_2 : w57.cell? ⟨gb194, 2, none⟩ = some (.slice (some ad202) l0_2.length c0_2) := (blk_cell BK194.out 2).trans rfl; have hfz60_0 := blk_frozen BK194.out 0; have hfz60_1 := blk_frozen BK194.out 1; have hfz60_2 := blk_frozen BK194.out 2) | ((with_reducible refine gate_callee (f := 50) rfl ?_); refine goesL_ (some 62) rfl rfl Try.func50 (by kernel_rfl) rfl #[.agg #[.string ((rd_T52 l0_2 x51_1).f0), .string ((rd_T52 l0_2 x51_1).f1), .slice A202_2 ((rd_T52 l0_2 x51_1).f2).length c202_2]] rfl (by (try simp only [List.map_toArray, List.map_cons, List.map_nil]); first | rfl) ?_; (with_reducible refine (ih k1 (by have := HK1.out; omega) ((rd_T52 l0_2 x51_1).f0) ((rd_T52 l0_2 x51_1).f1) _ _ ((rd_T52 l0_2 x51_1).f2) t205 _ ?side1 ?side2 A54.out).mono ?_); (case side1 => exact Kd.C_below HR202_2.out (by repeat ((with_reducible first | exact HB.out | refine below_set ?_ GE203.out)))); (case side2 => exact HC202_2.out); rintro e w61 ⟨rfl, hb⟩; refine ⟨_, rfl, ?_⟩; have n0_ := Aside0.mk (blk_below (g := gb194) (o := .cells #[.string a0_0, .string a0_1, .slice (some ad202) l0_2.length c0_2] 52 (0, 0)) (by (with_reducible repeat (first | fail)); refine blk_far ?_ NB194_203.out _; (with_reducible repeat (first | fail)); refine blk_far ?_ NB194_203.out _; (with_reducible repeat (first | fail)); refine blk_far ?_ NB194_203.out _; (with_reducible repeat (first | fail)); exact BK194.out) hb); have n1_ := Aside0.mk (blk_below (g := gb203) (o := .cells #[.string ((rd_T52 l0_2 x51_1).f0), .string ((rd_T52 l0_2 x51_1).f1), .slice A202_2 ((rd_T52 l0_2 x51_1).f2).length c202_2] 52 (0, 0)) (by (with_reducible repeat (first | fail)); refine blk_put (cs := #[.string ((rd_T52 l0_2 x51_1).f0), .string ((rd_T52 l0_2 x51_1).f1), .slice none 0 0]) ?_ 2 _ rfl; (with_reducible repeat (first | fail)); refine blk_put (cs := #[.string ((rd_T52 l0_2 x51_1).f0), .string (⟨#[]⟩ : ByteArray), .slice none 0 0]) ?_ 1 _ rfl; (with_reducible repeat (first | fail)); refine blk_put (cs := #[.string (⟨#[]⟩ : ByteArray), .string (⟨#[]⟩ : ByteArray), .slice none 0 0]) ?_ 0 _ rfl; (with_reducible repeat (first | fail)); exact BK203.out) hb); have n2_ := Aside0.mk (below_step (by repeat ((with_reducible first | exact HB.out | refine below_set ?_ GE203.out))) hb); clear BK194; clear BK203; clear HB; have BK194 := n0_; have BK203 := n1_; have HB := n2_; clear n0_ n1_ n2_; (try clear hb)))
     go_roundg k1
     case measure => have := HK1.out; omega
     case rel => exact ⟨(x3_1 ++ ((⟨#[32]⟩ : ByteArray) ++ t205)), (wrap64 (x51_1 + 1)), rfl, rfl, H', ⟨by have := HK1.out; omega⟩, ⟨BK194.out⟩, ⟨by exact HB.out⟩⟩
   rw [if_pos c44] at H
   have c44b0 := beq_iff_eq.mpr c44
   have c44b1 := bne_eq_false_iff_eq.mpr c44
   clear c44
   obtain ⟨c45, H⟩ := gd H
   have c45b0 := eq_true c45
   have c45b1 := decide_eq_true c45
   try have c45b2 : (9223372036854775807 < x3_1.size + 2) = False := eq_false (Nat.not_lt.2 c45)
   replace H := Option.bind_eq_some_iff.mp H
   obtain ⟨t204, A460, H⟩ := H
   have A46 := Aside0.mk A460
   clear A460
   obtain ⟨c47, H⟩ := gd H
   have c47b0 := eq_true c47
   have c47b1 := decide_eq_true c47
   try have c47b2 : (9223372036854775807 < 1 + t204.size) = False := eq_false (Nat.not_lt.2 c47)
   obtain ⟨c48, H⟩ := gd H
   have c48b0 := eq_true c48
   have c48b1 := decide_eq_true c48
   try have c48b2 : (9223372036854775807 < (x3_1 ++ (⟨#[32, 47]⟩ : ByteArray)).size + ((⟨#[32]⟩ : ByteArray) ++ t204).size) = False := eq_false (Nat.not_lt.2 c48)
   try have c48b3 : (9223372036854775807 < x3_1.size + 2 + (1 + t204.size)) = False := eq_false (Nat.not_lt.2 (by have h_ := c48; simp only [ByteArray.size_append] at h_; exact h_))
   have H' := Aside0.mk H
   clear H
   have p202 : 0 ≤ (x51_1 : Int) := of_decide_eq_true (by assumption)
   have q202 : x51_1 < (l0_2.length : Int) := of_decide_eq_true (by assumption)
   obtain ⟨ad202, A202_2, c202_2, e202, hx202_0, hx202_1, hx202_2, hl202_2, hi202_2⟩ := at_T52 HR0_2.out x51_1 p202 q202
   cases e202
   replace hx202_0 := ct HB.out hx202_0
   replace hx202_1 := ct HB.out hx202_1
   replace hx202_2 := ct HB.out hx202_2
   have HR202_2 := Aside0.mk hi202_2
   have HC202_2 := Aside0.mk hl202_2
   clear hi202_2 hl202_2
   replace p202 := eq_true p202
   replace q202 := eq_true q202
   go_wp2_with (first | ((with_reducible refine gate_dst (N := 5) rfl ?_); refine box_event ?hg (N := 5) ?hd (cs := #[.string (⟨#[]⟩ : ByteArray), .string (⟨#[]⟩ : ByteArray), .slice none 0 0]) (t := 52) ?hr ?_; (case hd => rfl); (case hg => rfl); (case hr => (go_simp; done)); intro gb203 hg w49 hbox hb; have n0_ := Aside0.mk (blk_below (g := gb194) (o := .cells #[.string a0_0, .string a0_1, .slice (some ad202) l0_2.length c0_2] 52 (0, 0)) BK194.out hb); have n1_ := Aside0.mk (below_step HB.out hb); have n2_ := Aside0.mk (hbox); have n3_ := Aside0.mk ((by rw [hg]; exact (below_size HB.out) : w.heap.size ≤ gb203)); have n4_ := Aside0.mk ((by rw [hg]; exact (below_size HB.out) : w.heap.size ≤ gb203)); have n5_ := Aside0.mk ((by rw [hg]; exact Nat.ne_of_lt (blk_lt (g := gb194) (o := .cells #[.string a0_0, .string a0_1, .slice (some ad202) l0_2.length c0_2] 52 (0, 0)) BK194.out) : gb194 ≠ gb203)); have n6_ := Aside0.mk ((by rw [hg]; exact Nat.ne_of_gt (blk_lt (g := gb194) (o := .cells #[.string a0_0, .string a0_1, .slice (some ad202) l0_2.length c0_2] 52 (0, 0)) BK194.out) : gb203 ≠ gb194)); clear BK194; clear HB; have BK194 := n0_; have HB := n1_; have BK203 := n2_; have GW203 := n3_; have GE203 := n4_; have NB194_203 := n5_; have NB203_194 := n6_; clear n0_ n1_ n2_ n3_ n4_ n5_ n6_; clear hb hbox hg; have hnb50 := NB203_194.out; have hnc50 := NB194_203.out; have hcz51_0 : w49.cell? ⟨gb203, 0, none⟩ = some (.string (⟨#[]⟩ : ByteArray)) := (blk_cell BK203.out 0).trans rfl; have hcz51_1 : w49.cell? ⟨gb203, 1, none⟩ = some (.string (⟨#[]⟩ : ByteArray)) := (blk_cell BK203.out 1).trans rfl; have hcz51_2 : w49.cell? ⟨gb203, 2, none⟩ = some (.slice none 0 0) := (blk_cell BK203.out 2).trans rfl; have hfz51_0 := blk_frozen BK203.out 0; have hfz51_1 := blk_frozen BK203.out 1; have hfz51_2 := blk_frozen BK203.out 2; have hcz52_0 : w49.cell? ⟨gb194, 0, none⟩ = some (.string a0_0) := (blk_cell BK194.out 0).trans rfl; have hcz52_1 : w49.cell? ⟨gb194, 1, none⟩ = some (.string a0_1) := (blk_cell BK194.out 1).trans rfl; have hcz52_2 : w49.cell? ⟨gb194, 2, none⟩ = some (.slice (some ad202) l0_2.length c0_2) := (blk_cell BK194.out 2).trans rfl; have hfz52_0 := blk_frozen BK194.out 0; have hfz52_1 := blk_frozen BK194.out 1; have hfz52_2 := blk_frozen BK194.out 2) | ((with_reducible refine gate_callee (f := 50) rfl ?_); refine goesL_ (some 62) rfl rfl Try.func50 (by kernel_rfl) rfl #[.agg #[.string ((rd_T52 l0_2 x51_1).f0), .string ((rd_T52 l0_2 x51_1).f1), .slice A202_2 ((rd_T52 l0_2 x51_1).f2).length c202_2]] rfl (by (try simp only [List.map_toArray, List.map_cons, List.map_nil]); first | rfl) ?_; (with_reducible refine (ih k1 (by have := HK1.out; omega) ((rd_T52 l0_2 x51_1).f0) ((rd_T52 l0_2 x51_1).f1) _ _ ((rd_T52 l0_2 x51_1).f2) t204 _ ?side1 ?side2 A46.out).mono ?_); (case side1 => exact Kd.C_below HR202_2.out (by repeat ((with_reducible first | exact HB.out | refine below_set ?_ GE203.out)))); (case side2 => exact HC202_2.out); rintro e w53 ⟨rfl, hb⟩; refine ⟨_, rfl, ?_⟩; have n0_ := Aside0.mk (blk_below (g := gb194) (o := .cells #[.string a0_0, .string a0_1, .slice (some ad202) l0_2.length c0_2] 52 (0, 0)) (by (with_reducible repeat (first | fail)); refine blk_far ?_ NB194_203.out _; (with_reducible repeat (first | fail)); refine blk_far ?_ NB194_203.out _; (with_reducible repeat (first | fail)); refine blk_far ?_ NB194_203.out _; (with_reducible repeat (first | fail)); exact BK194.out) hb); have n1_ := Aside0.mk (blk_below (g := gb203) (o := .cells #[.string ((rd_T52 l0_2 x51_1).f0), .string ((rd_T52 l0_2 x51_1).f1), .slice A202_2 ((rd_T52 l0_2 x51_1).f2).length c202_2] 52 (0, 0)) (by (with_reducible repeat (first | fail)); refine blk_put (cs := #[.string ((rd_T52 l0_2 x51_1).f0), .string ((rd_T52 l0_2 x51_1).f1), .slice none 0 0]) ?_ 2 _ rfl; (with_reducible repeat (first | fail)); refine blk_put (cs := #[.string ((rd_T52 l0_2 x51_1).f0), .string (⟨#[]⟩ : ByteArray), .slice none 0 0]) ?_ 1 _ rfl; (with_reducible repeat (first | fail)); refine blk_put (cs := #[.string (⟨#[]⟩ : ByteArray), .string (⟨#[]⟩ : ByteArray), .slice none 0 0]) ?_ 0 _ rfl; (with_reducible repeat (first | fail)); exact BK203.out) hb); have n2_ := Aside0.mk (below_step (by repeat ((with_reducible first | exact HB.out | refine below_set ?_ GE203.out))) hb); clear BK194; clear BK203; clear HB; have BK194 := n0_; have BK203 := n1_; have HB := n2_; clear n0_ n1_ n2_; (try clear hb)))
   go_roundg k1
   case measure => have := HK1.out; omega
   case rel => exact ⟨((x3_1 ++ (⟨#[32, 47]⟩ : ByteArray)) ++ ((⟨#[32]⟩ : ByteArray) ++ t204)), (wrap64 (x51_1 + 1)), rfl, rfl, H', ⟨by have := HK1.out; omega⟩, ⟨BK194.out⟩, ⟨by exact HB.out⟩⟩
def grammar_Text.l0 : Nat → ByteArray → List (S54) → Int → Int → Option (ByteArray × Int)
 | 0, _, _, _, _ => none
 | k + 1, x4, x11, x12, x13 => if x13 < x12 then (if 0 ≤ x13 then (if x13 < (x11.length : Int) then (if ((rd_T54 x11 x13).f0).size + 3 ≤ 9223372036854775807 then ((grammar_text.f k ((rd_T54 x11 x13).f1.f0) ((rd_T54 x11 x13).f1.f1) ((rd_T54 x11 x13).f1.f2)).bind fun t210 => (if (((rd_T54 x11 x13).f0) ++ (⟨#[32, 61, 32]⟩ : ByteArray)).size + t210.size ≤ 9223372036854775807 then (if ((((rd_T54 x11 x13).f0) ++ (⟨#[32, 61, 32]⟩ : ByteArray)) ++ t210).size + 3 ≤ 9223372036854775807 then (if x4.size + (((((rd_T54 x11 x13).f0) ++ (⟨#[32, 61, 32]⟩ : ByteArray)) ++ t210) ++ (⟨#[32, 59, 10]⟩ : ByteArray)).size ≤ 9223372036854775807 then (grammar_Text.l0 k (x4 ++ (((((rd_T54 x11 x13).f0) ++ (⟨#[32, 61, 32]⟩ : ByteArray)) ++ t210) ++ (⟨#[32, 59, 10]⟩ : ByteArray))) x11 x12 (wrap64 (x13 + 1))) else (none)) else (none)) else (none))) else (none)) else (none)) else (none)) else (some (x4, 0))
def grammar_Text.f (k : Nat) (l0_0 : List (S54)) : Option (ByteArray × Int) := (grammar_Right.f k l0_0).bind fun t207 => (if t207 = true then (grammar_Text.l0 k (⟨#[]⟩ : ByteArray) l0_0 (l0_0.length : Int) 0) else (some ((⟨#[]⟩ : ByteArray), 240)))
def grammar_Text.T7 : Bool × List (List Nat × List Nat) := (true, [([], []), ([], []), ([1], [1]), ([2], [2]), ([], []), ([4], [4]), ([5], [5]), ([3, 6], [3, 6]), ([7], [7]), ([0, 8], [0, 8]), ([9, 6, 0, 1, 2, 3, 4, 5, 6, 7, 8, 9], [0, 9])])
def grammar_Text.B7 : List Nat := [0, 0, 2, 6, 0, 16, 48, 126, 254, 511, 1023]
theorem grammar_Text.tab7 : rtab .any (opsOf Try.f25 7) = grammar_Text.T7 := by kernel_rfl
theorem grammar_Text.bits7 : waitsOk grammar_Text.T7.2 grammar_Text.B7 = true := by kernel_rfl
set_option maxHeartbeats 8000000 in
set_option maxRecDepth 100000 in
theorem grammar_Text.calls (k : Nat) (A0_0 : Option Addr) (c0_0 : Nat) (l0_0 : List (S54)) (r1 : ByteArray) (r2 : Int) (w : World) (hr0_0 : Kd.C k54 w A0_0 l0_0.length l0_0) (hc0_0 : l0_0.length ≤ c0_0) (h : grammar_Text.f k l0_0 = some (r1, r2)) :
 Calls Try.prog 25 #[.agg #[.slice A0_0 l0_0.length c0_0]] w fun e w' => e = .returned (.tuple #[.string r1, .int .i64 r2]) ∧ Below w.heap.size w w' := by
 have hu24 := Try.underlying24
 have hu54 := Try.underlying54
 have hu52 := Try.underlying52
 have HR0_0 := Aside0.mk hr0_0
 have HC0_0 := Aside0.mk hc0_0
 clear hr0_0 hc0_0
 have HB := Aside0.mk (Below.refl w.heap.size w)
 have H : ((grammar_Right.f k l0_0).bind fun t207 => (if t207 = true then (grammar_Text.l0 k (⟨#[]⟩ : ByteArray) l0_0 (l0_0.length : Int) 0) else (some ((⟨#[]⟩ : ByteArray), 240)))) = some (r1, r2) := h
 clear h
 replace H := Option.bind_eq_some_iff.mp H
 obtain ⟨t207, A20, H⟩ := H
 have A2 := Aside0.mk A20
 clear A20
 by_cases c3 : t207 = true
 rotate_left
 · replace c3 := Bool.eq_false_iff.mpr c3
   subst c3
   rw [if_neg (show ¬ (false = true) by decide)] at H
   simp only [Option.some.injEq, Prod.mk.injEq] at H
   obtain ⟨rfl, rfl⟩ := H
   go_enter Try.func25, Try.ntmps25
   go_wp2_with (first | ((with_reducible refine gate_dst (N := 1) rfl ?_); refine box_event ?hg (N := 1) ?hd (cs := #[.slice A0_0 l0_0.length c0_0]) (t := 24) ?hr ?_; (case hd => rfl); (case hg => rfl); (case hr => (go_simp; done)); intro gb206 hg w22 hbox hb; have n0_ := Aside0.mk (below_step HB.out hb); have n1_ := Aside0.mk (hbox); have n2_ := Aside0.mk ((by rw [hg]; exact (below_size HB.out) : w.heap.size ≤ gb206)); have n3_ := Aside0.mk ((by rw [hg]; exact (below_size HB.out) : w.heap.size ≤ gb206)); clear HB; have HB := n0_; have BK206 := n1_; have GW206 := n2_; have GE206 := n3_; clear n0_ n1_ n2_ n3_; clear hb hbox hg; have hcz23_0 : w22.cell? ⟨gb206, 0, none⟩ = some (.slice A0_0 l0_0.length c0_0) := (blk_cell BK206.out 0).trans rfl; have hfz23_0 := blk_frozen BK206.out 0) | ((with_reducible refine gate_callee (f := 34) rfl ?_); refine goesL_ (some 8) rfl rfl Try.func34 (by kernel_rfl) rfl #[.agg #[.slice A0_0 l0_0.length c0_0]] rfl (by (try simp only [List.map_toArray, List.map_cons, List.map_nil]); first | rfl) ?_; (with_reducible refine (grammar_Right.calls k _ _ l0_0 false _ ?side1 ?side2 A2.out).mono ?_); (case side1 => repeat (first | exact (Kd.C_below HR0_0.out HB.out))); (case side2 => exact HC0_0.out); rintro e w24 ⟨rfl, hb⟩; refine ⟨_, rfl, ?_⟩; have n0_ := Aside0.mk (blk_below (g := gb206) (o := .cells #[.slice A0_0 l0_0.length c0_0] 24 (0, 0)) BK206.out hb); have n1_ := Aside0.mk (below_step HB.out hb); clear BK206; clear HB; have BK206 := n0_; have HB := n1_; clear n0_ n1_; (try clear hb)))
   go_ret2
   exact ⟨by first | rfl, by exact HB.out⟩
 subst c3
 rw [if_pos rfl] at H
 have H' := Aside0.mk H
 clear H
 go_enter Try.func25, Try.ntmps25
 go_wp2_with (first | ((with_reducible refine gate_dst (N := 1) rfl ?_); refine box_event ?hg (N := 1) ?hd (cs := #[.slice A0_0 l0_0.length c0_0]) (t := 24) ?hr ?_; (case hd => rfl); (case hg => rfl); (case hr => (go_simp; done)); intro gb206 hg w4 hbox hb; have n0_ := Aside0.mk (below_step HB.out hb); have n1_ := Aside0.mk (hbox); have n2_ := Aside0.mk ((by rw [hg]; exact (below_size HB.out) : w.heap.size ≤ gb206)); have n3_ := Aside0.mk ((by rw [hg]; exact (below_size HB.out) : w.heap.size ≤ gb206)); clear HB; have HB := n0_; have BK206 := n1_; have GW206 := n2_; have GE206 := n3_; clear n0_ n1_ n2_ n3_; clear hb hbox hg; have hcz5_0 : w4.cell? ⟨gb206, 0, none⟩ = some (.slice A0_0 l0_0.length c0_0) := (blk_cell BK206.out 0).trans rfl; have hfz5_0 := blk_frozen BK206.out 0) | ((with_reducible refine gate_callee (f := 34) rfl ?_); refine goesL_ (some 8) rfl rfl Try.func34 (by kernel_rfl) rfl #[.agg #[.slice A0_0 l0_0.length c0_0]] rfl (by (try simp only [List.map_toArray, List.map_cons, List.map_nil]); first | rfl) ?_; (with_reducible refine (grammar_Right.calls k _ _ l0_0 true _ ?side1 ?side2 A2.out).mono ?_); (case side1 => repeat (first | exact (Kd.C_below HR0_0.out HB.out))); (case side2 => exact HC0_0.out); rintro e w6 ⟨rfl, hb⟩; refine ⟨_, rfl, ?_⟩; have n0_ := Aside0.mk (blk_below (g := gb206) (o := .cells #[.slice A0_0 l0_0.length c0_0] 24 (0, 0)) BK206.out hb); have n1_ := Aside0.mk (below_step HB.out hb); clear BK206; clear HB; have BK206 := n0_; have HB := n1_; clear n0_ n1_; (try clear hb); have hcz7_0 : w6.cell? ⟨gb206, 0, none⟩ = some (.slice A0_0 l0_0.length c0_0) := (blk_cell BK206.out 0).trans rfl; have hfz7_0 := blk_frozen BK206.out 0))
 go_loopg [4, 13] k (fun kq v4 v13 w' => ∃ (x4_1 : ByteArray) (x13_1 : Int), v4 = .string x4_1 ∧ v13 = .int .i64 x13_1 ∧ Aside0 (grammar_Text.l0 kq x4_1 l0_0 (l0_0.length : Int) x13_1 = some (r1, r2)) ∧ Aside0 (kq ≤ k) ∧ Aside0 (w'.heap[gb206]? = some (.cells #[(.slice A0_0 l0_0.length c0_0)] 24 (0, 0))) ∧ Aside0 (Below w.heap.size w w'))
 case atStart => exact ⟨((⟨#[]⟩ : ByteArray)), (0), rfl, rfl, H', ⟨Nat.le_refl _⟩, ⟨BK206.out⟩, ⟨by exact HB.out⟩⟩
 case round =>
  clear H'
  clear hcz5_0 hcz7_0 hfz5_0 hfz7_0
  obtain ⟨x4_1, x13_1, rfl, rfl, HA, HK1, BK206, HB⟩ := hrel
  cases gk with
  | zero => exact absurd HA.out (by simp [grammar_Text.l0])
  | succ k1 =>
   have H := HA.out
   clear HA
   simp only [grammar_Text.l0] at H
   by_cases c8 : x13_1 < (l0_0.length : Int)
   rotate_left
   · rw [if_neg c8] at H
     have c8b0 := decide_eq_false c8
     clear c8
     simp only [Option.some.injEq, Prod.mk.injEq] at H
     obtain ⟨rfl, rfl⟩ := H
     go_wp2
     go_ret2
     exact ⟨by first | rfl, by exact HB.out⟩
   rw [if_pos c8] at H
   have c8b0 := decide_eq_true c8
   clear c8
   obtain ⟨c9, H⟩ := gd H
   have c9b0 := decide_eq_true c9
   clear c9
   obtain ⟨c10, H⟩ := gd H
   have c10b0 := decide_eq_true c10
   clear c10
   obtain ⟨c11, H⟩ := gd H
   have c11b0 := eq_true c11
   have c11b1 := decide_eq_true c11
   try have c11b2 : (9223372036854775807 < ((rd_T54 l0_0 x13_1).f0).size + 3) = False := eq_false (Nat.not_lt.2 c11)
   replace H := Option.bind_eq_some_iff.mp H
   obtain ⟨t210, A120, H⟩ := H
   have A12 := Aside0.mk A120
   clear A120
   obtain ⟨c13, H⟩ := gd H
   have c13b0 := eq_true c13
   have c13b1 := decide_eq_true c13
   try have c13b2 : (9223372036854775807 < (((rd_T54 l0_0 x13_1).f0) ++ (⟨#[32, 61, 32]⟩ : ByteArray)).size + t210.size) = False := eq_false (Nat.not_lt.2 c13)
   try have c13b3 : (9223372036854775807 < ((rd_T54 l0_0 x13_1).f0).size + 3 + t210.size) = False := eq_false (Nat.not_lt.2 (by have h_ := c13; simp only [ByteArray.size_append] at h_; exact h_))
   obtain ⟨c14, H⟩ := gd H
   have c14b0 := eq_true c14
   have c14b1 := decide_eq_true c14
   try have c14b2 : (9223372036854775807 < ((((rd_T54 l0_0 x13_1).f0) ++ (⟨#[32, 61, 32]⟩ : ByteArray)) ++ t210).size + 3) = False := eq_false (Nat.not_lt.2 c14)
   try have c14b3 : (9223372036854775807 < ((rd_T54 l0_0 x13_1).f0).size + 3 + t210.size + 3) = False := eq_false (Nat.not_lt.2 (by have h_ := c14; simp only [ByteArray.size_append] at h_; exact h_))
   obtain ⟨c15, H⟩ := gd H
   have c15b0 := eq_true c15
   have c15b1 := decide_eq_true c15
   try have c15b2 : (9223372036854775807 < x4_1.size + (((((rd_T54 l0_0 x13_1).f0) ++ (⟨#[32, 61, 32]⟩ : ByteArray)) ++ t210) ++ (⟨#[32, 59, 10]⟩ : ByteArray)).size) = False := eq_false (Nat.not_lt.2 c15)
   try have c15b3 : (9223372036854775807 < x4_1.size + (((rd_T54 l0_0 x13_1).f0).size + 3 + t210.size + 3)) = False := eq_false (Nat.not_lt.2 (by have h_ := c15; simp only [ByteArray.size_append] at h_; exact h_))
   have H' := Aside0.mk H
   clear H
   have p208 : 0 ≤ (x13_1 : Int) := of_decide_eq_true (by assumption)
   have q208 : x13_1 < (l0_0.length : Int) := of_decide_eq_true (by assumption)
   obtain ⟨ad208, A208_3, c208_3, e208, hx208_0, hx208_1, hx208_2, hx208_3, hl208_3, hi208_3⟩ := at_T54 HR0_0.out x13_1 p208 q208
   cases e208
   replace hx208_0 := ct HB.out hx208_0
   replace hx208_1 := ct HB.out hx208_1
   replace hx208_2 := ct HB.out hx208_2
   replace hx208_3 := ct HB.out hx208_3
   have HR208_3 := Aside0.mk hi208_3
   have HC208_3 := Aside0.mk hl208_3
   clear hi208_3 hl208_3
   replace p208 := eq_true p208
   replace q208 := eq_true q208
   try go_wp2_with (((with_reducible refine gate_dst (N := 6) rfl ?_); refine box_event ?hg (N := 6) ?hd (cs := #[.string (⟨#[]⟩ : ByteArray), .string (⟨#[]⟩ : ByteArray), .string (⟨#[]⟩ : ByteArray), .slice none 0 0]) (t := 54) ?hr ?_; (case hd => rfl); (case hg => rfl); (case hr => (go_simp; done)); intro gb209 hg w16 hbox hb; have n0_ := Aside0.mk (blk_below (g := gb206) (o := .cells #[.slice (some ad208) l0_0.length c0_0] 24 (0, 0)) BK206.out hb); have n1_ := Aside0.mk (below_step HB.out hb); have n2_ := Aside0.mk (hbox); have n3_ := Aside0.mk ((by rw [hg]; exact (below_size HB.out) : w.heap.size ≤ gb209)); have n4_ := Aside0.mk ((by rw [hg]; exact (below_size HB.out) : w.heap.size ≤ gb209)); have n5_ := Aside0.mk ((by rw [hg]; exact Nat.ne_of_lt (blk_lt (g := gb206) (o := .cells #[.slice (some ad208) l0_0.length c0_0] 24 (0, 0)) BK206.out) : gb206 ≠ gb209)); have n6_ := Aside0.mk ((by rw [hg]; exact Nat.ne_of_gt (blk_lt (g := gb206) (o := .cells #[.slice (some ad208) l0_0.length c0_0] 24 (0, 0)) BK206.out) : gb209 ≠ gb206)); clear BK206; clear HB; have BK206 := n0_; have HB := n1_; have BK209 := n2_; have GW209 := n3_; have GE209 := n4_; have NB206_209 := n5_; have NB209_206 := n6_; clear n0_ n1_ n2_ n3_ n4_ n5_ n6_; clear hb hbox hg; have hnb17 := NB209_206.out; have hnc17 := NB206_209.out; have hcz18_0 : w16.cell? ⟨gb209, 0, none⟩ = some (.string (⟨#[]⟩ : ByteArray)) := (blk_cell BK209.out 0).trans rfl; have hcz18_1 : w16.cell? ⟨gb209, 1, none⟩ = some (.string (⟨#[]⟩ : ByteArray)) := (blk_cell BK209.out 1).trans rfl; have hcz18_2 : w16.cell? ⟨gb209, 2, none⟩ = some (.string (⟨#[]⟩ : ByteArray)) := (blk_cell BK209.out 2).trans rfl; have hcz18_3 : w16.cell? ⟨gb209, 3, none⟩ = some (.slice none 0 0) := (blk_cell BK209.out 3).trans rfl; have hfz18_0 := blk_frozen BK209.out 0; have hfz18_1 := blk_frozen BK209.out 1; have hfz18_2 := blk_frozen BK209.out 2; have hfz18_3 := blk_frozen BK209.out 3))
   have n0_ : Aside0 (((((w16.setCell ⟨gb209, 0, none⟩ (.string ((rd_T54 l0_0 x13_1).f0))).setCell ⟨gb209, 1, none⟩ (.string ((rd_T54 l0_0 x13_1).f1.f0))).setCell ⟨gb209, 2, none⟩ (.string ((rd_T54 l0_0 x13_1).f1.f1))).setCell ⟨gb209, 3, none⟩ (.slice A208_3 ((rd_T54 l0_0 x13_1).f1.f2).length c208_3)).heap[gb206]? = some (.cells #[.slice (some ad208) l0_0.length c0_0] 24 (0, 0))) := ⟨by (with_reducible repeat (first | fail)); refine blk_far ?_ NB206_209.out _; (with_reducible repeat (first | fail)); refine blk_far ?_ NB206_209.out _; (with_reducible repeat (first | fail)); refine blk_far ?_ NB206_209.out _; (with_reducible repeat (first | fail)); refine blk_far ?_ NB206_209.out _; (with_reducible repeat (first | fail)); exact BK206.out⟩
   have n1_ : Aside0 (((((w16.setCell ⟨gb209, 0, none⟩ (.string ((rd_T54 l0_0 x13_1).f0))).setCell ⟨gb209, 1, none⟩ (.string ((rd_T54 l0_0 x13_1).f1.f0))).setCell ⟨gb209, 2, none⟩ (.string ((rd_T54 l0_0 x13_1).f1.f1))).setCell ⟨gb209, 3, none⟩ (.slice A208_3 ((rd_T54 l0_0 x13_1).f1.f2).length c208_3)).heap[gb209]? = some (.cells #[.string ((rd_T54 l0_0 x13_1).f0), .string ((rd_T54 l0_0 x13_1).f1.f0), .string ((rd_T54 l0_0 x13_1).f1.f1), .slice A208_3 ((rd_T54 l0_0 x13_1).f1.f2).length c208_3] 54 (0, 0))) := ⟨by (with_reducible repeat (first | fail)); refine blk_put (cs := #[.string ((rd_T54 l0_0 x13_1).f0), .string ((rd_T54 l0_0 x13_1).f1.f0), .string ((rd_T54 l0_0 x13_1).f1.f1), .slice none 0 0]) ?_ 3 _ rfl; (with_reducible repeat (first | fail)); refine blk_put (cs := #[.string ((rd_T54 l0_0 x13_1).f0), .string ((rd_T54 l0_0 x13_1).f1.f0), .string (⟨#[]⟩ : ByteArray), .slice none 0 0]) ?_ 2 _ rfl; (with_reducible repeat (first | fail)); refine blk_put (cs := #[.string ((rd_T54 l0_0 x13_1).f0), .string (⟨#[]⟩ : ByteArray), .string (⟨#[]⟩ : ByteArray), .slice none 0 0]) ?_ 1 _ rfl; (with_reducible repeat (first | fail)); refine blk_put (cs := #[.string (⟨#[]⟩ : ByteArray), .string (⟨#[]⟩ : ByteArray), .string (⟨#[]⟩ : ByteArray), .slice none 0 0]) ?_ 0 _ rfl; (with_reducible repeat (first | fail)); exact BK209.out⟩
   have n2_ : Aside0 (Below w.heap.size w ((((w16.setCell ⟨gb209, 0, none⟩ (.string ((rd_T54 l0_0 x13_1).f0))).setCell ⟨gb209, 1, none⟩ (.string ((rd_T54 l0_0 x13_1).f1.f0))).setCell ⟨gb209, 2, none⟩ (.string ((rd_T54 l0_0 x13_1).f1.f1))).setCell ⟨gb209, 3, none⟩ (.slice A208_3 ((rd_T54 l0_0 x13_1).f1.f2).length c208_3))) := ⟨by repeat ((with_reducible first | exact HB.out | refine below_set ?_ GE209.out))⟩
   (try clear BK206)
   (try clear BK209)
   (try clear HB)
   generalize ((((w16.setCell ⟨gb209, 0, none⟩ (.string ((rd_T54 l0_0 x13_1).f0))).setCell ⟨gb209, 1, none⟩ (.string ((rd_T54 l0_0 x13_1).f1.f0))).setCell ⟨gb209, 2, none⟩ (.string ((rd_T54 l0_0 x13_1).f1.f1))).setCell ⟨gb209, 3, none⟩ (.slice A208_3 ((rd_T54 l0_0 x13_1).f1.f2).length c208_3)) = w19 at n0_ n1_ n2_ ⊢
   have BK206 := n0_
   have BK209 := n1_
   have HB := n2_
   clear n0_ n1_ n2_
   have n0_ := Aside0.mk (blk_drew BK206.out)
   have n1_ := Aside0.mk (blk_drew BK209.out)
   have n2_ := Aside0.mk (below_drew1 HB.out)
   clear BK206
   clear BK209
   clear HB
   have BK206 := n0_
   have BK209 := n1_
   have HB := n2_
   clear n0_ n1_ n2_
   refine start_ (n := 11) (S := fun w' => w'.cell? ⟨gb209, 0, none⟩ = some (.string ((rd_T54 l0_0 x13_1).f0)) ∧ w'.cell? ⟨gb209, 1, none⟩ = some (.string ((rd_T54 l0_0 x13_1).f1.f0)) ∧ w'.cell? ⟨gb209, 2, none⟩ = some (.string ((rd_T54 l0_0 x13_1).f1.f1)) ∧ w'.cell? ⟨gb209, 3, none⟩ = some (.slice A208_3 ((rd_T54 l0_0 x13_1).f1.f2).length c208_3)) (ds := []) #[F,F,F,F,F,F,F,F,F,F,F] (by kernel_rfl) rfl rfl ⟨(blk_cell BK209.out 0).trans rfl, (blk_cell BK209.out 1).trans rfl, (blk_cell BK209.out 2).trans rfl, (blk_cell BK209.out 3).trans rfl⟩ (fun hHeld => ?_); refine with_tabW grammar_Text.tab7 grammar_Text.bits7 (fun HT_ HW_ => ?_)
   generalize w19.drew = w20 at BK206 BK209 HB hHeld ⊢
   refine pure_ (i := 0) (N := some 17) (v := ?_) (a' := ?_) #[T,F,F,F,F,F,F,F,F,F,F] rfl rfl (any_of HT_.out (by kernel_rfl)) (fun _ _ _ h => h) (Or.inl ⟨by rfl, ?_⟩) ?_ ?_
   rotate_left
   · intro w'
     go_simp
     with_reducible rfl
   rotate_left
   · simp only [Act.put, List.setIfInBounds_toArray, List.set_cons_zero, List.set_cons_succ, i64_w, i32_w]
     rfl
   refine pure_ (i := 1) (N := some 18) (v := ?_) (a' := ?_) #[T,T,F,F,F,F,F,F,F,F,F] rfl rfl (any_of HT_.out (by kernel_rfl)) (fun _ _ _ h => h) (Or.inl ⟨by rfl, ?_⟩) ?_ ?_
   rotate_left
   · intro w'
     go_simp
     with_reducible rfl
   rotate_left
   · simp only [Act.put, List.setIfInBounds_toArray, List.set_cons_zero, List.set_cons_succ, i64_w, i32_w]
     rfl
   refine pure_ (i := 4) (N := some 21) (v := ?_) (a' := ?_) #[T,T,F,F,T,F,F,F,F,F,F] rfl rfl (any_of HT_.out (by kernel_rfl)) (fun _ _ _ h => h) (Or.inl ⟨by rfl, ?_⟩) ?_ ?_
   rotate_left
   · intro w'
     go_simp
     with_reducible rfl
   rotate_left
   · simp only [Act.put, List.setIfInBounds_toArray, List.set_cons_zero, List.set_cons_succ, i64_w, i32_w]
     rfl
   refine take_ (i := 2) (N := some 19) (v := ?_) (a' := ?_) #[T,T,T,F,T,F,F,F,F,F,F] rfl rfl (take_ofW HT_.out HW_.out (by kernel_rfl)) (fun _ _ _ h => h) (Or.inl ⟨by rfl, ?_⟩) hHeld ?_ ?_
   rotate_left
   · rintro w' ⟨s0, s1, s2, s3⟩
     go_simp
     with_reducible rfl
   rotate_left
   · simp only [Act.put, List.setIfInBounds_toArray, List.set_cons_zero, List.set_cons_succ, i64_w, i32_w]
     rfl
   refine pure_ (i := 3) (N := some 20) (v := ?_) (a' := ?_) #[T,T,T,T,T,F,F,F,F,F,F] rfl rfl (any_of HT_.out (by kernel_rfl)) (fun _ _ _ h => h) (Or.inl ⟨by rfl, ?_⟩) ?_ ?_
   rotate_left
   · intro w'
     go_simp
     with_reducible rfl
   rotate_left
   · simp only [Act.put, List.setIfInBounds_toArray, List.set_cons_zero, List.set_cons_succ, i64_w, i32_w]
     rfl
   refine take_ (i := 5) (N := some 22) (v := ?_) (a' := ?_) #[T,T,T,T,T,T,F,F,F,F,F] rfl rfl (take_ofW HT_.out HW_.out (by kernel_rfl)) (fun _ _ _ h => h) (Or.inl ⟨by rfl, ?_⟩) hHeld ?_ ?_
   rotate_left
   · rintro w' ⟨s0, s1, s2, s3⟩
     go_simp
     with_reducible rfl
   rotate_left
   · simp only [Act.put, List.setIfInBounds_toArray, List.set_cons_zero, List.set_cons_succ, i64_w, i32_w]
     rfl
   refine one_ (i := 6) (N := some 23) #[T,T,T,T,T,T,T,F,F,F,F] rfl rfl (one_of HT_.out (by kernel_rfl)) (by decide) (fun K hK => ?_)
   refine goes_ Try.func50 (by kernel_rfl) rfl #[.agg #[.string ((rd_T54 l0_0 x13_1).f1.f0), .string ((rd_T54 l0_0 x13_1).f1.f1), .slice A208_3 ((rd_T54 l0_0 x13_1).f1.f2).length c208_3]] (by rfl) rfl rfl (by (try simp only [List.map_toArray, List.map_cons, List.map_nil]); first | rfl) ?_
   with_reducible refine (grammar_text.calls k1 ((rd_T54 l0_0 x13_1).f1.f0) ((rd_T54 l0_0 x13_1).f1.f1) _ _ ((rd_T54 l0_0 x13_1).f1.f2) t210 _ ?side1 ?side2 A12.out).mono ?_
   (case side1 => repeat (first | exact (Kd.C_below HR208_3.out HB.out)))
   (case side2 => exact HC208_3.out)
   rintro e w21 ⟨rfl, hb⟩
   refine ⟨_, rfl, ?_⟩
   have n0_ := Aside0.mk (blk_below (g := gb206) (o := .cells #[.slice (some ad208) l0_0.length c0_0] 24 (0, 0)) BK206.out hb)
   have n1_ := Aside0.mk (blk_below (g := gb209) (o := .cells #[.string ((rd_T54 l0_0 x13_1).f0), .string ((rd_T54 l0_0 x13_1).f1.f0), .string ((rd_T54 l0_0 x13_1).f1.f1), .slice A208_3 ((rd_T54 l0_0 x13_1).f1.f2).length c208_3] 54 (0, 0)) BK209.out hb)
   have n2_ := Aside0.mk (below_step HB.out hb)
   clear BK206
   clear BK209
   clear HB
   have BK206 := n0_
   have BK209 := n1_
   have HB := n2_
   clear n0_ n1_ n2_
   (try clear hb)
   skip
   skip
   skip
   refine hK.out _ _ ⟨(blk_cell BK209.out 0).trans rfl, (blk_cell BK209.out 1).trans rfl, (blk_cell BK209.out 2).trans rfl, (blk_cell BK209.out 3).trans rfl⟩ (fun hHeld => ?_)
   clear hK K
   refine norm_ (a' := ?_) ?_ ?_
   rotate_left
   · show Act.put _ (some 23) _ = _
     simp only [Act.put, List.setIfInBounds_toArray, List.set_cons_zero, List.set_cons_succ, i64_w, i32_w]
     rfl
   refine pure_ (i := 7) (N := some 24) (v := ?_) (a' := ?_) #[T,T,T,T,T,T,T,T,F,F,F] rfl rfl (any_of HT_.out (by kernel_rfl)) (fun _ _ _ h => h) (Or.inl ⟨by rfl, ?_⟩) ?_ ?_
   rotate_left
   · intro w'
     go_simp
     with_reducible rfl
   rotate_left
   · simp only [Act.put, List.setIfInBounds_toArray, List.set_cons_zero, List.set_cons_succ, i64_w, i32_w]
     rfl
   refine pure_ (i := 8) (N := some 25) (v := ?_) (a' := ?_) #[T,T,T,T,T,T,T,T,T,F,F] rfl rfl (any_of HT_.out (by kernel_rfl)) (fun _ _ _ h => h) (Or.inl ⟨by rfl, ?_⟩) ?_ ?_
   rotate_left
   · intro w'
     go_simp
     with_reducible rfl
   rotate_left
   · simp only [Act.put, List.setIfInBounds_toArray, List.set_cons_zero, List.set_cons_succ, i64_w, i32_w]
     rfl
   refine pure_ (i := 9) (N := some 26) (v := ?_) (a' := ?_) #[T,T,T,T,T,T,T,T,T,T,F] rfl rfl (any_of HT_.out (by kernel_rfl)) (fun _ _ _ h => h) (Or.inl ⟨by rfl, ?_⟩) ?_ ?_
   rotate_left
   · intro w'
     go_simp
     with_reducible rfl
   rotate_left
   · simp only [Act.put, List.setIfInBounds_toArray, List.set_cons_zero, List.set_cons_succ, i64_w, i32_w]
     rfl
   refine pure_ (i := 10) (N := some 4) (v := ?_) (a' := ?_) #[T,T,T,T,T,T,T,T,T,T,T] rfl rfl (any_of HT_.out (by kernel_rfl)) (fun _ _ _ h => h) (Or.inl ⟨by rfl, ?_⟩) ?_ ?_
   rotate_left
   · intro w'
     go_simp
     with_reducible rfl
   rotate_left
   · simp only [Act.put, List.setIfInBounds_toArray, List.set_cons_zero, List.set_cons_succ, i64_w, i32_w]
     rfl
   refine done_ (done_of HT_.out (by kernel_rfl)) ?_
   try go_wp2
   go_roundg k1
   case measure => have := HK1.out; omega
   case rel => exact ⟨(x4_1 ++ (((((rd_T54 l0_0 x13_1).f0) ++ (⟨#[32, 61, 32]⟩ : ByteArray)) ++ t210) ++ (⟨#[32, 59, 10]⟩ : ByteArray))), (wrap64 (x13_1 + 1)), rfl, rfl, H', ⟨by have := HK1.out; omega⟩, ⟨BK206.out⟩, ⟨by exact HB.out⟩⟩
end Go.Proofs.Ytcnllhnhinmokaa.PHGr
end
section
namespace Go.Proofs.Ytcnllhnhinmokaa.PHGr
open Go.RowKit Go.Proofs.YtcnllhnhinmokaaW.PrintWords Go.Proofs.YtcnllhnhinmokaaW.PrintLast Go.Proofs.YtcnllhnhinmokaaW.PrintMore
attribute [local go_sem] max2_int min2_int max_two min_two max_three min_three max_four min_four
set_option linter.unusedVariables false
set_option linter.unusedSimpArgs false
end Go.Proofs.Ytcnllhnhinmokaa.PHGr
end
section
namespace Go.Proofs.Ytcnllhnhinmokaa.PHGr
open Go.RowKit Go.Proofs.YtcnllhnhinmokaaW.PrintWords Go.Proofs.YtcnllhnhinmokaaW.PrintLast Go.Proofs.YtcnllhnhinmokaaW.PrintMore
attribute [local go_sem] max2_int min2_int max_two min_two max_three min_three max_four min_four
set_option linter.unusedVariables false
set_option linter.unusedSimpArgs false
def IsS99 (w0 W : World) (g : Nat) (f0 : ByteArray) (f1 : Int) (f2 : Bool) : Prop := W.heap[g]? = some (.cells #[.string f0, .int .i64 f1, .bool f2] 99 (0, 0)) ∧ w0.heap.size ≤ g
theorem IsS99.grown {w0 W : World} {g : Nat} {f0 : ByteArray} {f1 : Int} {f2 : Bool} {W1 : World} {row : Option Nat} (h : IsS99 w0 W g f0 f1 f2) (hw : W.grownBy W1 row) (hne : some g ≠ row) : IsS99 w0 W1 g f0 f1 f2 := by
 obtain ⟨hb, hg⟩ := h
 exact ⟨blk_grown hb hw hne, hg⟩
theorem IsS99.own_neN {w0 W : World} {g : Nat} {f0 : ByteArray} {f1 : Int} {f2 : Bool} {α : Type} {d : Kd α} {e : Nat} {base : Nat} {ok : Nat → Prop} {v : Value} {xs : List α} (h : IsS99 w0 W g f0 f1 f2) (ho : Kd.N d e W base ok v xs) (ht : e ≠ 99) : some g ≠ v.ownBlock := by
 obtain ⟨hb, hg⟩ := h
 exact Kd.N_ne ho hb ht
theorem IsS99.fresh {w0 W : World} {g : Nat} {f0 : ByteArray} {f1 : Int} {f2 : Bool} (h : IsS99 w0 W g f0 f1 f2) : ∀ k, W.heap.size ≤ k → k ≠ g := by
 obtain ⟨hb, hg⟩ := h
 exact Kd.freshB hb
theorem IsS99.kept {w0 W : World} {g : Nat} {f0 : ByteArray} {f1 : Int} {f2 : Bool} {W1 : World} {S : Nat → Prop} (h : IsS99 w0 W g f0 f1 f2) (hk : Kept W W1 S) (hne : ¬ S g) : IsS99 w0 W1 g f0 f1 f2 := by
 obtain ⟨hb, hg⟩ := h
 exact ⟨blk_kept hb hk hne, hg⟩
theorem IsS99.below {w0 W : World} {g : Nat} {f0 : ByteArray} {f1 : Int} {f2 : Bool} {W1 : World} (h : IsS99 w0 W g f0 f1 f2) (hw : Below W.heap.size W W1) : IsS99 w0 W1 g f0 f1 f2 := h.grown (grown_of_below hw none) (by simp)
theorem IsS99.alloc {w0 W : World} {g : Nat} {f0 : ByteArray} {f1 : Int} {f2 : Bool} (h : IsS99 w0 W g f0 f1 f2) (o : Obj) : IsS99 w0 (W.alloc o) g f0 f1 f2 := h.below (below_alloc (Below.refl _ _) o)
theorem IsS99.drewN {w0 W : World} {g : Nat} {f0 : ByteArray} {f1 : Int} {f2 : Bool} (h : IsS99 w0 W g f0 f1 f2) (m : Nat) : IsS99 w0 (W.drewN m) g f0 f1 f2 := h
theorem IsS99.drew {w0 W : World} {g : Nat} {f0 : ByteArray} {f1 : Int} {f2 : Bool} (h : IsS99 w0 W g f0 f1 f2) : IsS99 w0 W.drew g f0 f1 f2 := h
theorem IsS99.apart {w0 W : World} {g : Nat} {f0 : ByteArray} {f1 : Int} {f2 : Bool} {α : Type} {d : Kd α} {e : Nat} {base : Nat} {ok : Nat → Prop} {v : Value} {xs : List α} (h : IsS99 w0 W g f0 f1 f2) (ho : d.R e W base ok v xs) (ht : ∀ q, q ∈ e :: d.E → q ≠ 99) : d.R e W base (fun k => ok k ∧ k ≠ g) v xs := by
 obtain ⟨hb, hg⟩ := h
 exact Kd.R_types ho hb ht
theorem IsS99.own_ne {w0 W : World} {g : Nat} {f0 : ByteArray} {f1 : Int} {f2 : Bool} {α : Type} {d : Kd α} {e : Nat} {base : Nat} {ok : Nat → Prop} {v : Value} {xs : List α} (h : IsS99 w0 W g f0 f1 f2) (ho : d.R e W base ok v xs) (ht : e ≠ 99) : some g ≠ v.ownBlock := by
 obtain ⟨hb, hg⟩ := h
 exact Kd.R_ne ho hb ht
theorem IsS99.lt {w0 W : World} {g : Nat} {f0 : ByteArray} {f1 : Int} {f2 : Bool} (h : IsS99 w0 W g f0 f1 f2) : g < W.heap.size := by
 obtain ⟨hb, hg⟩ := h
 exact blk_lt hb
theorem IsS99.ge {w0 W : World} {g : Nat} {f0 : ByteArray} {f1 : Int} {f2 : Bool} (h : IsS99 w0 W g f0 f1 f2) : w0.heap.size ≤ g := by
 obtain ⟨hb, hg⟩ := h
 exact hg
theorem IsS99.far {w0 W : World} {g : Nat} {f0 : ByteArray} {f1 : Int} {f2 : Bool} {p : Addr} (h : IsS99 w0 W g f0 f1 f2) (hne : g ≠ p.block) (u : Value) : IsS99 w0 (W.setCell p u) g f0 f1 f2 := by
 obtain ⟨hb, hg⟩ := h
 exact ⟨blk_far hb hne u, hg⟩
theorem cellS99_0 {W : World} {g : Nat} {f0 : ByteArray} {f1 : Int} {f2 : Bool} (h : W.heap[g]? = some (.cells #[.string f0, .int .i64 f1, .bool f2] 99 (0, 0))) : W.cell? ⟨g, 0, none⟩ = some (.string f0) := (blk_cell h 0).trans rfl
theorem cellS99_1 {W : World} {g : Nat} {f0 : ByteArray} {f1 : Int} {f2 : Bool} (h : W.heap[g]? = some (.cells #[.string f0, .int .i64 f1, .bool f2] 99 (0, 0))) : W.cell? ⟨g, 1, none⟩ = some (.int .i64 f1) := (blk_cell h 1).trans rfl
theorem IsS99.set_1 {w0 W : World} {g : Nat} {f0 : ByteArray} {f1 : Int} {f2 : Bool} (h : IsS99 w0 W g f0 f1 f2) (x : Int) : IsS99 w0 (W.setCell ⟨g, 1, none⟩ (.int .i64 x)) g f0 x f2 := by
 obtain ⟨hb, hg⟩ := h
 exact ⟨by simpa using blk_set hb 1 (.int .i64 x), hg⟩
theorem cellS99_2 {W : World} {g : Nat} {f0 : ByteArray} {f1 : Int} {f2 : Bool} (h : W.heap[g]? = some (.cells #[.string f0, .int .i64 f1, .bool f2] 99 (0, 0))) : W.cell? ⟨g, 2, none⟩ = some (.bool f2) := (blk_cell h 2).trans rfl
theorem IsS99.set_2 {w0 W : World} {g : Nat} {f0 : ByteArray} {f1 : Int} {f2 : Bool} (h : IsS99 w0 W g f0 f1 f2) (x : Bool) : IsS99 w0 (W.setCell ⟨g, 2, none⟩ (.bool x)) g f0 f1 x := by
 obtain ⟨hb, hg⟩ := h
 exact ⟨by simpa using blk_set hb 2 (.bool x), hg⟩
theorem IsS99.new (w0 W : World) (f0 : ByteArray) (f1 : Int) (f2 : Bool) (hB : Below w0.heap.size w0 W) : IsS99 w0 (W.alloc (.cells #[.string f0, .int .i64 f1, .bool f2] 99)) W.heap.size f0 f1 f2 := ⟨by simpa using heap_alloc_new W _, hB.size⟩
def grammar_reader_name.l0 : Nat → Int → ByteArray → Int → Bool → Option (ByteArray × ByteArray × Int × Bool)
 | 0, _, _, _, _ => none
 | k + 1, x3, x1000, x1001, x1002 => if x1001 < (x1000.size : Int) then (if 0 ≤ x1001 then (if (bt x1000 x1001) ≥ 97 then (if (bt x1000 x1001) ≤ 122 then (grammar_reader_name.l0 k x3 x1000 (wrap64 (x1001 + 1)) x1002) else (if (bt x1000 x1001) ≥ 65 then (if (bt x1000 x1001) ≤ 90 then (grammar_reader_name.l0 k x3 x1000 (wrap64 (x1001 + 1)) x1002) else (if (bt x1000 x1001) ≥ 48 then (if (bt x1000 x1001) ≤ 57 then (grammar_reader_name.l0 k x3 x1000 (wrap64 (x1001 + 1)) x1002) else (if ((bt x1000 x1001) = 95) then (grammar_reader_name.l0 k x3 x1000 (wrap64 (x1001 + 1)) x1002) else (if x1002 = true then (if 0 ≤ x3 then (if x3 ≤ x1001 then (if x1001 ≤ (x1000.size : Int) then (some (x1000.extract (x3 : Int).toNat (x1001 : Int).toNat, x1000, x1001, true)) else (none)) else (none)) else (none)) else (if 0 ≤ x3 then (if x3 ≤ x1001 then (if x1001 ≤ (x1000.size : Int) then (some (x1000.extract (x3 : Int).toNat (x1001 : Int).toNat, x1000, x1001, (x1001 == x3))) else (none)) else (none)) else (none))))) else (if ((bt x1000 x1001) = 95) then (grammar_reader_name.l0 k x3 x1000 (wrap64 (x1001 + 1)) x1002) else (if x1002 = true then (if 0 ≤ x3 then (if x3 ≤ x1001 then (if x1001 ≤ (x1000.size : Int) then (some (x1000.extract (x3 : Int).toNat (x1001 : Int).toNat, x1000, x1001, true)) else (none)) else (none)) else (none)) else (if 0 ≤ x3 then (if x3 ≤ x1001 then (if x1001 ≤ (x1000.size : Int) then (some (x1000.extract (x3 : Int).toNat (x1001 : Int).toNat, x1000, x1001, (x1001 == x3))) else (none)) else (none)) else (none)))))) else (if (bt x1000 x1001) ≥ 48 then (if (bt x1000 x1001) ≤ 57 then (grammar_reader_name.l0 k x3 x1000 (wrap64 (x1001 + 1)) x1002) else (if ((bt x1000 x1001) = 95) then (grammar_reader_name.l0 k x3 x1000 (wrap64 (x1001 + 1)) x1002) else (if x1002 = true then (if 0 ≤ x3 then (if x3 ≤ x1001 then (if x1001 ≤ (x1000.size : Int) then (some (x1000.extract (x3 : Int).toNat (x1001 : Int).toNat, x1000, x1001, true)) else (none)) else (none)) else (none)) else (if 0 ≤ x3 then (if x3 ≤ x1001 then (if x1001 ≤ (x1000.size : Int) then (some (x1000.extract (x3 : Int).toNat (x1001 : Int).toNat, x1000, x1001, (x1001 == x3))) else (none)) else (none)) else (none))))) else (if ((bt x1000 x1001) = 95) then (grammar_reader_name.l0 k x3 x1000 (wrap64 (x1001 + 1)) x1002) else (if x1002 = true then (if 0 ≤ x3 then (if x3 ≤ x1001 then (if x1001 ≤ (x1000.size : Int) then (some (x1000.extract (x3 : Int).toNat (x1001 : Int).toNat, x1000, x1001, true)) else (none)) else (none)) else (none)) else (if 0 ≤ x3 then (if x3 ≤ x1001 then (if x1001 ≤ (x1000.size : Int) then (some (x1000.extract (x3 : Int).toNat (x1001 : Int).toNat, x1000, x1001, (x1001 == x3))) else (none)) else (none)) else (none))))))) else (if (bt x1000 x1001) ≥ 65 then (if (bt x1000 x1001) ≤ 90 then (grammar_reader_name.l0 k x3 x1000 (wrap64 (x1001 + 1)) x1002) else (if (bt x1000 x1001) ≥ 48 then (if (bt x1000 x1001) ≤ 57 then (grammar_reader_name.l0 k x3 x1000 (wrap64 (x1001 + 1)) x1002) else (if ((bt x1000 x1001) = 95) then (grammar_reader_name.l0 k x3 x1000 (wrap64 (x1001 + 1)) x1002) else (if x1002 = true then (if 0 ≤ x3 then (if x3 ≤ x1001 then (if x1001 ≤ (x1000.size : Int) then (some (x1000.extract (x3 : Int).toNat (x1001 : Int).toNat, x1000, x1001, true)) else (none)) else (none)) else (none)) else (if 0 ≤ x3 then (if x3 ≤ x1001 then (if x1001 ≤ (x1000.size : Int) then (some (x1000.extract (x3 : Int).toNat (x1001 : Int).toNat, x1000, x1001, (x1001 == x3))) else (none)) else (none)) else (none))))) else (if ((bt x1000 x1001) = 95) then (grammar_reader_name.l0 k x3 x1000 (wrap64 (x1001 + 1)) x1002) else (if x1002 = true then (if 0 ≤ x3 then (if x3 ≤ x1001 then (if x1001 ≤ (x1000.size : Int) then (some (x1000.extract (x3 : Int).toNat (x1001 : Int).toNat, x1000, x1001, true)) else (none)) else (none)) else (none)) else (if 0 ≤ x3 then (if x3 ≤ x1001 then (if x1001 ≤ (x1000.size : Int) then (some (x1000.extract (x3 : Int).toNat (x1001 : Int).toNat, x1000, x1001, (x1001 == x3))) else (none)) else (none)) else (none)))))) else (if (bt x1000 x1001) ≥ 48 then (if (bt x1000 x1001) ≤ 57 then (grammar_reader_name.l0 k x3 x1000 (wrap64 (x1001 + 1)) x1002) else (if ((bt x1000 x1001) = 95) then (grammar_reader_name.l0 k x3 x1000 (wrap64 (x1001 + 1)) x1002) else (if x1002 = true then (if 0 ≤ x3 then (if x3 ≤ x1001 then (if x1001 ≤ (x1000.size : Int) then (some (x1000.extract (x3 : Int).toNat (x1001 : Int).toNat, x1000, x1001, true)) else (none)) else (none)) else (none)) else (if 0 ≤ x3 then (if x3 ≤ x1001 then (if x1001 ≤ (x1000.size : Int) then (some (x1000.extract (x3 : Int).toNat (x1001 : Int).toNat, x1000, x1001, (x1001 == x3))) else (none)) else (none)) else (none))))) else (if ((bt x1000 x1001) = 95) then (grammar_reader_name.l0 k x3 x1000 (wrap64 (x1001 + 1)) x1002) else (if x1002 = true then (if 0 ≤ x3 then (if x3 ≤ x1001 then (if x1001 ≤ (x1000.size : Int) then (some (x1000.extract (x3 : Int).toNat (x1001 : Int).toNat, x1000, x1001, true)) else (none)) else (none)) else (none)) else (if 0 ≤ x3 then (if x3 ≤ x1001 then (if x1001 ≤ (x1000.size : Int) then (some (x1000.extract (x3 : Int).toNat (x1001 : Int).toNat, x1000, x1001, (x1001 == x3))) else (none)) else (none)) else (none))))))) else (none)) else (if x1002 = true then (if 0 ≤ x3 then (if x3 ≤ x1001 then (if x1001 ≤ (x1000.size : Int) then (some (x1000.extract (x3 : Int).toNat (x1001 : Int).toNat, x1000, x1001, true)) else (none)) else (none)) else (none)) else (if 0 ≤ x3 then (if x3 ≤ x1001 then (if x1001 ≤ (x1000.size : Int) then (some (x1000.extract (x3 : Int).toNat (x1001 : Int).toNat, x1000, x1001, (x1001 == x3))) else (none)) else (none)) else (none)))
def grammar_reader_name.f (k : Nat) (s0_0 : ByteArray) (s0_1 : Int) (s0_2 : Bool) : Option (ByteArray × ByteArray × Int × Bool) := grammar_reader_name.l0 k s0_1 s0_0 s0_1 s0_2
set_option maxHeartbeats 8000000 in
set_option maxRecDepth 100000 in
theorem grammar_reader_name.calls (k : Nat) (g : Nat) (s0_0 : ByteArray) (s0_1 : Int) (s0_2 : Bool) (r1 : ByteArray) (r2 : ByteArray) (r3 : Int) (r4 : Bool) (w0 w : World) (hI : IsS99 w0 w g s0_0 s0_1 s0_2) (hB : Below w0.heap.size w0 w) (h : grammar_reader_name.f k s0_0 s0_1 s0_2 = some (r1, r2, r3, r4)) :
 Calls Try.prog 52 #[.pointer (some ⟨g, 0, none⟩)] w fun e w' => e = .returned (.string r1) ∧ IsS99 w0 w' g r2 r3 r4 ∧ Below w0.heap.size w0 w' ∧ KeepBut w w' g none := by
 have HI0 := Aside0.mk hI
 have HK := Aside0.mk (KeepBut.refl w g none)
 have HL := Aside0.mk hB.size
 clear hI
 have HW0 := Aside0.mk hB.size
 have HB := Aside0.mk hB
 clear hB
 have H : (grammar_reader_name.l0 k s0_1 s0_0 s0_1 s0_2) = some (r1, r2, r3, r4) := h
 clear h
 have H' := Aside0.mk H
 clear H
 obtain ⟨HGz2, hgz2⟩ := HI0.out
 have hcz2_0 := cellS99_0 HGz2
 have hcz2_1 := cellS99_1 HGz2
 have hcz2_2 := cellS99_2 HGz2
 have hfz2_0 := blk_frozen HGz2 0
 have hfz2_1 := blk_frozen HGz2 1
 have hfz2_2 := blk_frozen HGz2 2
 clear HGz2 hgz2
 go_enter Try.func52, Try.ntmps52
 go_wp2
 repeat (go_quiet (fail); try go_wp2)
 go_loopg [] k (fun kq w' => ∃ (x1001_1 : Int), Aside0 (grammar_reader_name.l0 kq s0_1 s0_0 x1001_1 s0_2 = some (r1, r2, r3, r4)) ∧ Aside0 (kq ≤ k) ∧ Aside0 (IsS99 w0 w' g s0_0 x1001_1 s0_2) ∧ Aside0 (KeepBut w w' g none) ∧ Aside0 (Below w0.heap.size w0 w'))
 case atStart => exact ⟨(s0_1), H', ⟨Nat.le_refl _⟩, ⟨by exact HI0.out⟩, ⟨by exact HK.out⟩, ⟨by exact HB.out⟩⟩
 case round =>
  clear H'
  clear hcz2_0 hcz2_1 hcz2_2 hfz2_0 hfz2_1 hfz2_2
  obtain ⟨x1001_1, HA, HK1, HI0, HK, HB⟩ := hrel
  cases gk with
  | zero => exact absurd HA.out (by simp [grammar_reader_name.l0])
  | succ k1 =>
   have H := HA.out
   clear HA
   simp only [grammar_reader_name.l0] at H
   by_cases c3 : x1001_1 < (s0_0.size : Int)
   rotate_left
   · rw [if_neg c3] at H
     have c3b0 := decide_eq_false c3
     clear c3
     by_cases c115 : s0_2 = true
     · subst c115
       rw [if_pos rfl] at H
       obtain ⟨c116, H⟩ := gd H
       have c116b0 := eq_true c116
       have c116b1 := decide_eq_true c116
       clear c116
       obtain ⟨c117, H⟩ := gd H
       have c117b0 := eq_true c117
       have c117b1 := decide_eq_true c117
       clear c117
       obtain ⟨c118, H⟩ := gd H
       have c118b0 := eq_true c118
       have c118b1 := decide_eq_true c118
       clear c118
       simp only [Option.some.injEq, Prod.mk.injEq] at H
       obtain ⟨rfl, rfl, rfl, rfl⟩ := H
       obtain ⟨HGz119, hgz119⟩ := HI0.out
       have hcz119_0 := cellS99_0 HGz119
       have hcz119_1 := cellS99_1 HGz119
       have hcz119_2 := cellS99_2 HGz119
       have hfz119_0 := blk_frozen HGz119 0
       have hfz119_1 := blk_frozen HGz119 1
       have hfz119_2 := blk_frozen HGz119 2
       clear HGz119 hgz119
       go_wp2
       repeat (go_quiet (fail); try go_wp2)
       go_ret
       exact ⟨by first | rfl, by repeat ((with_reducible first | exact HI0.out | apply IsS99.drewN | apply IsS99.set_2)), by repeat ((with_reducible first | exact HB.out | apply pw_below_drewN | refine below_set ?_ (IsS99.ge HI0.out))), by repeat ((with_reducible first | exact HK.out | apply KeepBut.set_ | apply keep_drewN))⟩
     replace c115 := Bool.eq_false_iff.mpr c115
     subst c115
     rw [if_neg (show ¬ (false = true) by decide)] at H
     obtain ⟨c120, H⟩ := gd H
     have c120b0 := eq_true c120
     have c120b1 := decide_eq_true c120
     clear c120
     obtain ⟨c121, H⟩ := gd H
     have c121b0 := eq_true c121
     have c121b1 := decide_eq_true c121
     clear c121
     obtain ⟨c122, H⟩ := gd H
     have c122b0 := eq_true c122
     have c122b1 := decide_eq_true c122
     clear c122
     simp only [Option.some.injEq, Prod.mk.injEq] at H
     obtain ⟨rfl, rfl, rfl, rfl⟩ := H
     obtain ⟨HGz123, hgz123⟩ := HI0.out
     have hcz123_0 := cellS99_0 HGz123
     have hcz123_1 := cellS99_1 HGz123
     have hcz123_2 := cellS99_2 HGz123
     have hfz123_0 := blk_frozen HGz123 0
     have hfz123_1 := blk_frozen HGz123 1
     have hfz123_2 := blk_frozen HGz123 2
     clear HGz123 hgz123
     go_wp2
     repeat (go_quiet (fail); try go_wp2)
     go_ret
     exact ⟨by first | rfl, by repeat ((with_reducible first | exact HI0.out | apply IsS99.drewN | apply IsS99.set_2)), by repeat ((with_reducible first | exact HB.out | apply pw_below_drewN | refine below_set ?_ (IsS99.ge HI0.out))), by repeat ((with_reducible first | exact HK.out | apply KeepBut.set_ | apply keep_drewN))⟩
   rw [if_pos c3] at H
   have c3b0 := decide_eq_true c3
   clear c3
   obtain ⟨c4, H⟩ := gd H
   have c4b0 := decide_eq_true c4
   clear c4
   by_cases c6 : (bt s0_0 x1001_1) ≥ 97
   rotate_left
   · rw [if_neg c6] at H
     have c6b0 := decide_eq_false c6
     clear c6
     by_cases c62 : (bt s0_0 x1001_1) ≥ 65
     rotate_left
     · rw [if_neg c62] at H
       have c62b0 := decide_eq_false c62
       clear c62
       by_cases c90 : (bt s0_0 x1001_1) ≥ 48
       rotate_left
       · rw [if_neg c90] at H
         have c90b0 := decide_eq_false c90
         clear c90
         by_cases c104 : ((bt s0_0 x1001_1) = 95)
         · rw [if_pos c104] at H
           have c104b0 := beq_iff_eq.mpr c104
           have c104b1 := bne_eq_false_iff_eq.mpr c104
           clear c104
           have H' := Aside0.mk H
           clear H
           obtain ⟨HGz105, hgz105⟩ := HI0.out
           have hcz105_0 := cellS99_0 HGz105
           have hcz105_1 := cellS99_1 HGz105
           have hcz105_2 := cellS99_2 HGz105
           have hfz105_0 := blk_frozen HGz105 0
           have hfz105_1 := blk_frozen HGz105 1
           have hfz105_2 := blk_frozen HGz105 2
           clear HGz105 hgz105
           have p5 : 0 ≤ (x1001_1 : Int) := of_decide_eq_true (by assumption)
           have q5 : x1001_1 < (s0_0.size : Int) := of_decide_eq_true (by assumption)
           have hx5 := bt_at s0_0 x1001_1
           replace p5 := eq_true p5
           replace q5 := eq_true q5
           go_wp2
           repeat (go_quiet (fail); try go_wp2)
           go_roundg k1
           case measure => have := HK1.out; omega
           case rel => exact ⟨(wrap64 (x1001_1 + 1)), H', ⟨by have := HK1.out; omega⟩, ⟨by repeat ((with_reducible first | exact HI0.out | apply IsS99.drewN | apply IsS99.set_1))⟩, ⟨by repeat ((with_reducible first | exact HK.out | apply KeepBut.set_ | apply keep_drewN))⟩, ⟨by repeat ((with_reducible first | exact HB.out | apply pw_below_drewN | refine below_set ?_ (IsS99.ge HI0.out)))⟩⟩
         rw [if_neg c104] at H
         have c104b0 := beq_eq_false_iff_ne.mpr c104
         have c104b1 := bne_iff_ne.mpr c104
         by_cases c106 : s0_2 = true
         · subst c106
           rw [if_pos rfl] at H
           obtain ⟨c107, H⟩ := gd H
           have c107b0 := eq_true c107
           have c107b1 := decide_eq_true c107
           clear c107
           obtain ⟨c108, H⟩ := gd H
           have c108b0 := eq_true c108
           have c108b1 := decide_eq_true c108
           clear c108
           obtain ⟨c109, H⟩ := gd H
           have c109b0 := eq_true c109
           have c109b1 := decide_eq_true c109
           clear c109
           simp only [Option.some.injEq, Prod.mk.injEq] at H
           obtain ⟨rfl, rfl, rfl, rfl⟩ := H
           obtain ⟨HGz110, hgz110⟩ := HI0.out
           have hcz110_0 := cellS99_0 HGz110
           have hcz110_1 := cellS99_1 HGz110
           have hcz110_2 := cellS99_2 HGz110
           have hfz110_0 := blk_frozen HGz110 0
           have hfz110_1 := blk_frozen HGz110 1
           have hfz110_2 := blk_frozen HGz110 2
           clear HGz110 hgz110
           have p5 : 0 ≤ (x1001_1 : Int) := of_decide_eq_true (by assumption)
           have q5 : x1001_1 < (s0_0.size : Int) := of_decide_eq_true (by assumption)
           have hx5 := bt_at s0_0 x1001_1
           replace p5 := eq_true p5
           replace q5 := eq_true q5
           go_wp2
           repeat (go_quiet (fail); try go_wp2)
           go_ret
           exact ⟨by first | rfl, by repeat ((with_reducible first | exact HI0.out | apply IsS99.drewN | apply IsS99.set_2)), by repeat ((with_reducible first | exact HB.out | apply pw_below_drewN | refine below_set ?_ (IsS99.ge HI0.out))), by repeat ((with_reducible first | exact HK.out | apply KeepBut.set_ | apply keep_drewN))⟩
         replace c106 := Bool.eq_false_iff.mpr c106
         subst c106
         rw [if_neg (show ¬ (false = true) by decide)] at H
         obtain ⟨c111, H⟩ := gd H
         have c111b0 := eq_true c111
         have c111b1 := decide_eq_true c111
         clear c111
         obtain ⟨c112, H⟩ := gd H
         have c112b0 := eq_true c112
         have c112b1 := decide_eq_true c112
         clear c112
         obtain ⟨c113, H⟩ := gd H
         have c113b0 := eq_true c113
         have c113b1 := decide_eq_true c113
         clear c113
         simp only [Option.some.injEq, Prod.mk.injEq] at H
         obtain ⟨rfl, rfl, rfl, rfl⟩ := H
         obtain ⟨HGz114, hgz114⟩ := HI0.out
         have hcz114_0 := cellS99_0 HGz114
         have hcz114_1 := cellS99_1 HGz114
         have hcz114_2 := cellS99_2 HGz114
         have hfz114_0 := blk_frozen HGz114 0
         have hfz114_1 := blk_frozen HGz114 1
         have hfz114_2 := blk_frozen HGz114 2
         clear HGz114 hgz114
         have p5 : 0 ≤ (x1001_1 : Int) := of_decide_eq_true (by assumption)
         have q5 : x1001_1 < (s0_0.size : Int) := of_decide_eq_true (by assumption)
         have hx5 := bt_at s0_0 x1001_1
         replace p5 := eq_true p5
         replace q5 := eq_true q5
         go_wp2
         repeat (go_quiet (fail); try go_wp2)
         go_ret
         exact ⟨by first | rfl, by repeat ((with_reducible first | exact HI0.out | apply IsS99.drewN | apply IsS99.set_2)), by repeat ((with_reducible first | exact HB.out | apply pw_below_drewN | refine below_set ?_ (IsS99.ge HI0.out))), by repeat ((with_reducible first | exact HK.out | apply KeepBut.set_ | apply keep_drewN))⟩
       rw [if_pos c90] at H
       have c90b0 := decide_eq_true c90
       clear c90
       by_cases c91 : (bt s0_0 x1001_1) ≤ 57
       · rw [if_pos c91] at H
         have c91b0 := decide_eq_true c91
         clear c91
         have H' := Aside0.mk H
         clear H
         obtain ⟨HGz92, hgz92⟩ := HI0.out
         have hcz92_0 := cellS99_0 HGz92
         have hcz92_1 := cellS99_1 HGz92
         have hcz92_2 := cellS99_2 HGz92
         have hfz92_0 := blk_frozen HGz92 0
         have hfz92_1 := blk_frozen HGz92 1
         have hfz92_2 := blk_frozen HGz92 2
         clear HGz92 hgz92
         have p5 : 0 ≤ (x1001_1 : Int) := of_decide_eq_true (by assumption)
         have q5 : x1001_1 < (s0_0.size : Int) := of_decide_eq_true (by assumption)
         have hx5 := bt_at s0_0 x1001_1
         replace p5 := eq_true p5
         replace q5 := eq_true q5
         go_wp2
         repeat (go_quiet (fail); try go_wp2)
         go_roundg k1
         case measure => have := HK1.out; omega
         case rel => exact ⟨(wrap64 (x1001_1 + 1)), H', ⟨by have := HK1.out; omega⟩, ⟨by repeat ((with_reducible first | exact HI0.out | apply IsS99.drewN | apply IsS99.set_1))⟩, ⟨by repeat ((with_reducible first | exact HK.out | apply KeepBut.set_ | apply keep_drewN))⟩, ⟨by repeat ((with_reducible first | exact HB.out | apply pw_below_drewN | refine below_set ?_ (IsS99.ge HI0.out)))⟩⟩
       rw [if_neg c91] at H
       have c91b0 := decide_eq_false c91
       clear c91
       by_cases c93 : ((bt s0_0 x1001_1) = 95)
       · rw [if_pos c93] at H
         have c93b0 := beq_iff_eq.mpr c93
         have c93b1 := bne_eq_false_iff_eq.mpr c93
         clear c93
         have H' := Aside0.mk H
         clear H
         obtain ⟨HGz94, hgz94⟩ := HI0.out
         have hcz94_0 := cellS99_0 HGz94
         have hcz94_1 := cellS99_1 HGz94
         have hcz94_2 := cellS99_2 HGz94
         have hfz94_0 := blk_frozen HGz94 0
         have hfz94_1 := blk_frozen HGz94 1
         have hfz94_2 := blk_frozen HGz94 2
         clear HGz94 hgz94
         have p5 : 0 ≤ (x1001_1 : Int) := of_decide_eq_true (by assumption)
         have q5 : x1001_1 < (s0_0.size : Int) := of_decide_eq_true (by assumption)
         have hx5 := bt_at s0_0 x1001_1
         replace p5 := eq_true p5
         replace q5 := eq_true q5
         go_wp2
         repeat (go_quiet (fail); try go_wp2)
         go_roundg k1
         case measure => have := HK1.out; omega
         case rel => exact ⟨(wrap64 (x1001_1 + 1)), H', ⟨by have := HK1.out; omega⟩, ⟨by repeat ((with_reducible first | exact HI0.out | apply IsS99.drewN | apply IsS99.set_1))⟩, ⟨by repeat ((with_reducible first | exact HK.out | apply KeepBut.set_ | apply keep_drewN))⟩, ⟨by repeat ((with_reducible first | exact HB.out | apply pw_below_drewN | refine below_set ?_ (IsS99.ge HI0.out)))⟩⟩
       rw [if_neg c93] at H
       have c93b0 := beq_eq_false_iff_ne.mpr c93
       have c93b1 := bne_iff_ne.mpr c93
       by_cases c95 : s0_2 = true
       · subst c95
         rw [if_pos rfl] at H
         obtain ⟨c96, H⟩ := gd H
         have c96b0 := eq_true c96
         have c96b1 := decide_eq_true c96
         clear c96
         obtain ⟨c97, H⟩ := gd H
         have c97b0 := eq_true c97
         have c97b1 := decide_eq_true c97
         clear c97
         obtain ⟨c98, H⟩ := gd H
         have c98b0 := eq_true c98
         have c98b1 := decide_eq_true c98
         clear c98
         simp only [Option.some.injEq, Prod.mk.injEq] at H
         obtain ⟨rfl, rfl, rfl, rfl⟩ := H
         obtain ⟨HGz99, hgz99⟩ := HI0.out
         have hcz99_0 := cellS99_0 HGz99
         have hcz99_1 := cellS99_1 HGz99
         have hcz99_2 := cellS99_2 HGz99
         have hfz99_0 := blk_frozen HGz99 0
         have hfz99_1 := blk_frozen HGz99 1
         have hfz99_2 := blk_frozen HGz99 2
         clear HGz99 hgz99
         have p5 : 0 ≤ (x1001_1 : Int) := of_decide_eq_true (by assumption)
         have q5 : x1001_1 < (s0_0.size : Int) := of_decide_eq_true (by assumption)
         have hx5 := bt_at s0_0 x1001_1
         replace p5 := eq_true p5
         replace q5 := eq_true q5
         go_wp2
         repeat (go_quiet (fail); try go_wp2)
         go_ret
         exact ⟨by first | rfl, by repeat ((with_reducible first | exact HI0.out | apply IsS99.drewN | apply IsS99.set_2)), by repeat ((with_reducible first | exact HB.out | apply pw_below_drewN | refine below_set ?_ (IsS99.ge HI0.out))), by repeat ((with_reducible first | exact HK.out | apply KeepBut.set_ | apply keep_drewN))⟩
       replace c95 := Bool.eq_false_iff.mpr c95
       subst c95
       rw [if_neg (show ¬ (false = true) by decide)] at H
       obtain ⟨c100, H⟩ := gd H
       have c100b0 := eq_true c100
       have c100b1 := decide_eq_true c100
       clear c100
       obtain ⟨c101, H⟩ := gd H
       have c101b0 := eq_true c101
       have c101b1 := decide_eq_true c101
       clear c101
       obtain ⟨c102, H⟩ := gd H
       have c102b0 := eq_true c102
       have c102b1 := decide_eq_true c102
       clear c102
       simp only [Option.some.injEq, Prod.mk.injEq] at H
       obtain ⟨rfl, rfl, rfl, rfl⟩ := H
       obtain ⟨HGz103, hgz103⟩ := HI0.out
       have hcz103_0 := cellS99_0 HGz103
       have hcz103_1 := cellS99_1 HGz103
       have hcz103_2 := cellS99_2 HGz103
       have hfz103_0 := blk_frozen HGz103 0
       have hfz103_1 := blk_frozen HGz103 1
       have hfz103_2 := blk_frozen HGz103 2
       clear HGz103 hgz103
       have p5 : 0 ≤ (x1001_1 : Int) := of_decide_eq_true (by assumption)
       have q5 : x1001_1 < (s0_0.size : Int) := of_decide_eq_true (by assumption)
       have hx5 := bt_at s0_0 x1001_1
       replace p5 := eq_true p5
       replace q5 := eq_true q5
       go_wp2
       repeat (go_quiet (fail); try go_wp2)
       go_ret
       exact ⟨by first | rfl, by repeat ((with_reducible first | exact HI0.out | apply IsS99.drewN | apply IsS99.set_2)), by repeat ((with_reducible first | exact HB.out | apply pw_below_drewN | refine below_set ?_ (IsS99.ge HI0.out))), by repeat ((with_reducible first | exact HK.out | apply KeepBut.set_ | apply keep_drewN))⟩
     rw [if_pos c62] at H
     have c62b0 := decide_eq_true c62
     clear c62
     by_cases c63 : (bt s0_0 x1001_1) ≤ 90
     · rw [if_pos c63] at H
       have c63b0 := decide_eq_true c63
       clear c63
       have H' := Aside0.mk H
       clear H
       obtain ⟨HGz64, hgz64⟩ := HI0.out
       have hcz64_0 := cellS99_0 HGz64
       have hcz64_1 := cellS99_1 HGz64
       have hcz64_2 := cellS99_2 HGz64
       have hfz64_0 := blk_frozen HGz64 0
       have hfz64_1 := blk_frozen HGz64 1
       have hfz64_2 := blk_frozen HGz64 2
       clear HGz64 hgz64
       have p5 : 0 ≤ (x1001_1 : Int) := of_decide_eq_true (by assumption)
       have q5 : x1001_1 < (s0_0.size : Int) := of_decide_eq_true (by assumption)
       have hx5 := bt_at s0_0 x1001_1
       replace p5 := eq_true p5
       replace q5 := eq_true q5
       go_wp2
       repeat (go_quiet (fail); try go_wp2)
       go_roundg k1
       case measure => have := HK1.out; omega
       case rel => exact ⟨(wrap64 (x1001_1 + 1)), H', ⟨by have := HK1.out; omega⟩, ⟨by repeat ((with_reducible first | exact HI0.out | apply IsS99.drewN | apply IsS99.set_1))⟩, ⟨by repeat ((with_reducible first | exact HK.out | apply KeepBut.set_ | apply keep_drewN))⟩, ⟨by repeat ((with_reducible first | exact HB.out | apply pw_below_drewN | refine below_set ?_ (IsS99.ge HI0.out)))⟩⟩
     rw [if_neg c63] at H
     have c63b0 := decide_eq_false c63
     clear c63
     by_cases c65 : (bt s0_0 x1001_1) ≥ 48
     rotate_left
     · rw [if_neg c65] at H
       have c65b0 := decide_eq_false c65
       clear c65
       by_cases c79 : ((bt s0_0 x1001_1) = 95)
       · rw [if_pos c79] at H
         have c79b0 := beq_iff_eq.mpr c79
         have c79b1 := bne_eq_false_iff_eq.mpr c79
         clear c79
         have H' := Aside0.mk H
         clear H
         obtain ⟨HGz80, hgz80⟩ := HI0.out
         have hcz80_0 := cellS99_0 HGz80
         have hcz80_1 := cellS99_1 HGz80
         have hcz80_2 := cellS99_2 HGz80
         have hfz80_0 := blk_frozen HGz80 0
         have hfz80_1 := blk_frozen HGz80 1
         have hfz80_2 := blk_frozen HGz80 2
         clear HGz80 hgz80
         have p5 : 0 ≤ (x1001_1 : Int) := of_decide_eq_true (by assumption)
         have q5 : x1001_1 < (s0_0.size : Int) := of_decide_eq_true (by assumption)
         have hx5 := bt_at s0_0 x1001_1
         replace p5 := eq_true p5
         replace q5 := eq_true q5
         go_wp2
         repeat (go_quiet (fail); try go_wp2)
         go_roundg k1
         case measure => have := HK1.out; omega
         case rel => exact ⟨(wrap64 (x1001_1 + 1)), H', ⟨by have := HK1.out; omega⟩, ⟨by repeat ((with_reducible first | exact HI0.out | apply IsS99.drewN | apply IsS99.set_1))⟩, ⟨by repeat ((with_reducible first | exact HK.out | apply KeepBut.set_ | apply keep_drewN))⟩, ⟨by repeat ((with_reducible first | exact HB.out | apply pw_below_drewN | refine below_set ?_ (IsS99.ge HI0.out)))⟩⟩
       rw [if_neg c79] at H
       have c79b0 := beq_eq_false_iff_ne.mpr c79
       have c79b1 := bne_iff_ne.mpr c79
       by_cases c81 : s0_2 = true
       · subst c81
         rw [if_pos rfl] at H
         obtain ⟨c82, H⟩ := gd H
         have c82b0 := eq_true c82
         have c82b1 := decide_eq_true c82
         clear c82
         obtain ⟨c83, H⟩ := gd H
         have c83b0 := eq_true c83
         have c83b1 := decide_eq_true c83
         clear c83
         obtain ⟨c84, H⟩ := gd H
         have c84b0 := eq_true c84
         have c84b1 := decide_eq_true c84
         clear c84
         simp only [Option.some.injEq, Prod.mk.injEq] at H
         obtain ⟨rfl, rfl, rfl, rfl⟩ := H
         obtain ⟨HGz85, hgz85⟩ := HI0.out
         have hcz85_0 := cellS99_0 HGz85
         have hcz85_1 := cellS99_1 HGz85
         have hcz85_2 := cellS99_2 HGz85
         have hfz85_0 := blk_frozen HGz85 0
         have hfz85_1 := blk_frozen HGz85 1
         have hfz85_2 := blk_frozen HGz85 2
         clear HGz85 hgz85
         have p5 : 0 ≤ (x1001_1 : Int) := of_decide_eq_true (by assumption)
         have q5 : x1001_1 < (s0_0.size : Int) := of_decide_eq_true (by assumption)
         have hx5 := bt_at s0_0 x1001_1
         replace p5 := eq_true p5
         replace q5 := eq_true q5
         go_wp2
         repeat (go_quiet (fail); try go_wp2)
         go_ret
         exact ⟨by first | rfl, by repeat ((with_reducible first | exact HI0.out | apply IsS99.drewN | apply IsS99.set_2)), by repeat ((with_reducible first | exact HB.out | apply pw_below_drewN | refine below_set ?_ (IsS99.ge HI0.out))), by repeat ((with_reducible first | exact HK.out | apply KeepBut.set_ | apply keep_drewN))⟩
       replace c81 := Bool.eq_false_iff.mpr c81
       subst c81
       rw [if_neg (show ¬ (false = true) by decide)] at H
       obtain ⟨c86, H⟩ := gd H
       have c86b0 := eq_true c86
       have c86b1 := decide_eq_true c86
       clear c86
       obtain ⟨c87, H⟩ := gd H
       have c87b0 := eq_true c87
       have c87b1 := decide_eq_true c87
       clear c87
       obtain ⟨c88, H⟩ := gd H
       have c88b0 := eq_true c88
       have c88b1 := decide_eq_true c88
       clear c88
       simp only [Option.some.injEq, Prod.mk.injEq] at H
       obtain ⟨rfl, rfl, rfl, rfl⟩ := H
       obtain ⟨HGz89, hgz89⟩ := HI0.out
       have hcz89_0 := cellS99_0 HGz89
       have hcz89_1 := cellS99_1 HGz89
       have hcz89_2 := cellS99_2 HGz89
       have hfz89_0 := blk_frozen HGz89 0
       have hfz89_1 := blk_frozen HGz89 1
       have hfz89_2 := blk_frozen HGz89 2
       clear HGz89 hgz89
       have p5 : 0 ≤ (x1001_1 : Int) := of_decide_eq_true (by assumption)
       have q5 : x1001_1 < (s0_0.size : Int) := of_decide_eq_true (by assumption)
       have hx5 := bt_at s0_0 x1001_1
       replace p5 := eq_true p5
       replace q5 := eq_true q5
       go_wp2
       repeat (go_quiet (fail); try go_wp2)
       go_ret
       exact ⟨by first | rfl, by repeat ((with_reducible first | exact HI0.out | apply IsS99.drewN | apply IsS99.set_2)), by repeat ((with_reducible first | exact HB.out | apply pw_below_drewN | refine below_set ?_ (IsS99.ge HI0.out))), by repeat ((with_reducible first | exact HK.out | apply KeepBut.set_ | apply keep_drewN))⟩
     rw [if_pos c65] at H
     have c65b0 := decide_eq_true c65
     clear c65
     by_cases c66 : (bt s0_0 x1001_1) ≤ 57
     · rw [if_pos c66] at H
       have c66b0 := decide_eq_true c66
       clear c66
       have H' := Aside0.mk H
       clear H
       obtain ⟨HGz67, hgz67⟩ := HI0.out
       have hcz67_0 := cellS99_0 HGz67
       have hcz67_1 := cellS99_1 HGz67
       have hcz67_2 := cellS99_2 HGz67
       have hfz67_0 := blk_frozen HGz67 0
       have hfz67_1 := blk_frozen HGz67 1
       have hfz67_2 := blk_frozen HGz67 2
       clear HGz67 hgz67
       have p5 : 0 ≤ (x1001_1 : Int) := of_decide_eq_true (by assumption)
       have q5 : x1001_1 < (s0_0.size : Int) := of_decide_eq_true (by assumption)
       have hx5 := bt_at s0_0 x1001_1
       replace p5 := eq_true p5
       replace q5 := eq_true q5
       go_wp2
       repeat (go_quiet (fail); try go_wp2)
       go_roundg k1
       case measure => have := HK1.out; omega
       case rel => exact ⟨(wrap64 (x1001_1 + 1)), H', ⟨by have := HK1.out; omega⟩, ⟨by repeat ((with_reducible first | exact HI0.out | apply IsS99.drewN | apply IsS99.set_1))⟩, ⟨by repeat ((with_reducible first | exact HK.out | apply KeepBut.set_ | apply keep_drewN))⟩, ⟨by repeat ((with_reducible first | exact HB.out | apply pw_below_drewN | refine below_set ?_ (IsS99.ge HI0.out)))⟩⟩
     rw [if_neg c66] at H
     have c66b0 := decide_eq_false c66
     clear c66
     by_cases c68 : ((bt s0_0 x1001_1) = 95)
     · rw [if_pos c68] at H
       have c68b0 := beq_iff_eq.mpr c68
       have c68b1 := bne_eq_false_iff_eq.mpr c68
       clear c68
       have H' := Aside0.mk H
       clear H
       obtain ⟨HGz69, hgz69⟩ := HI0.out
       have hcz69_0 := cellS99_0 HGz69
       have hcz69_1 := cellS99_1 HGz69
       have hcz69_2 := cellS99_2 HGz69
       have hfz69_0 := blk_frozen HGz69 0
       have hfz69_1 := blk_frozen HGz69 1
       have hfz69_2 := blk_frozen HGz69 2
       clear HGz69 hgz69
       have p5 : 0 ≤ (x1001_1 : Int) := of_decide_eq_true (by assumption)
       have q5 : x1001_1 < (s0_0.size : Int) := of_decide_eq_true (by assumption)
       have hx5 := bt_at s0_0 x1001_1
       replace p5 := eq_true p5
       replace q5 := eq_true q5
       go_wp2
       repeat (go_quiet (fail); try go_wp2)
       go_roundg k1
       case measure => have := HK1.out; omega
       case rel => exact ⟨(wrap64 (x1001_1 + 1)), H', ⟨by have := HK1.out; omega⟩, ⟨by repeat ((with_reducible first | exact HI0.out | apply IsS99.drewN | apply IsS99.set_1))⟩, ⟨by repeat ((with_reducible first | exact HK.out | apply KeepBut.set_ | apply keep_drewN))⟩, ⟨by repeat ((with_reducible first | exact HB.out | apply pw_below_drewN | refine below_set ?_ (IsS99.ge HI0.out)))⟩⟩
     rw [if_neg c68] at H
     have c68b0 := beq_eq_false_iff_ne.mpr c68
     have c68b1 := bne_iff_ne.mpr c68
     by_cases c70 : s0_2 = true
     · subst c70
       rw [if_pos rfl] at H
       obtain ⟨c71, H⟩ := gd H
       have c71b0 := eq_true c71
       have c71b1 := decide_eq_true c71
       clear c71
       obtain ⟨c72, H⟩ := gd H
       have c72b0 := eq_true c72
       have c72b1 := decide_eq_true c72
       clear c72
       obtain ⟨c73, H⟩ := gd H
       have c73b0 := eq_true c73
       have c73b1 := decide_eq_true c73
       clear c73
       simp only [Option.some.injEq, Prod.mk.injEq] at H
       obtain ⟨rfl, rfl, rfl, rfl⟩ := H
       obtain ⟨HGz74, hgz74⟩ := HI0.out
       have hcz74_0 := cellS99_0 HGz74
       have hcz74_1 := cellS99_1 HGz74
       have hcz74_2 := cellS99_2 HGz74
       have hfz74_0 := blk_frozen HGz74 0
       have hfz74_1 := blk_frozen HGz74 1
       have hfz74_2 := blk_frozen HGz74 2
       clear HGz74 hgz74
       have p5 : 0 ≤ (x1001_1 : Int) := of_decide_eq_true (by assumption)
       have q5 : x1001_1 < (s0_0.size : Int) := of_decide_eq_true (by assumption)
       have hx5 := bt_at s0_0 x1001_1
       replace p5 := eq_true p5
       replace q5 := eq_true q5
       go_wp2
       repeat (go_quiet (fail); try go_wp2)
       go_ret
       exact ⟨by first | rfl, by repeat ((with_reducible first | exact HI0.out | apply IsS99.drewN | apply IsS99.set_2)), by repeat ((with_reducible first | exact HB.out | apply pw_below_drewN | refine below_set ?_ (IsS99.ge HI0.out))), by repeat ((with_reducible first | exact HK.out | apply KeepBut.set_ | apply keep_drewN))⟩
     replace c70 := Bool.eq_false_iff.mpr c70
     subst c70
     rw [if_neg (show ¬ (false = true) by decide)] at H
     obtain ⟨c75, H⟩ := gd H
     have c75b0 := eq_true c75
     have c75b1 := decide_eq_true c75
     clear c75
     obtain ⟨c76, H⟩ := gd H
     have c76b0 := eq_true c76
     have c76b1 := decide_eq_true c76
     clear c76
     obtain ⟨c77, H⟩ := gd H
     have c77b0 := eq_true c77
     have c77b1 := decide_eq_true c77
     clear c77
     simp only [Option.some.injEq, Prod.mk.injEq] at H
     obtain ⟨rfl, rfl, rfl, rfl⟩ := H
     obtain ⟨HGz78, hgz78⟩ := HI0.out
     have hcz78_0 := cellS99_0 HGz78
     have hcz78_1 := cellS99_1 HGz78
     have hcz78_2 := cellS99_2 HGz78
     have hfz78_0 := blk_frozen HGz78 0
     have hfz78_1 := blk_frozen HGz78 1
     have hfz78_2 := blk_frozen HGz78 2
     clear HGz78 hgz78
     have p5 : 0 ≤ (x1001_1 : Int) := of_decide_eq_true (by assumption)
     have q5 : x1001_1 < (s0_0.size : Int) := of_decide_eq_true (by assumption)
     have hx5 := bt_at s0_0 x1001_1
     replace p5 := eq_true p5
     replace q5 := eq_true q5
     go_wp2
     repeat (go_quiet (fail); try go_wp2)
     go_ret
     exact ⟨by first | rfl, by repeat ((with_reducible first | exact HI0.out | apply IsS99.drewN | apply IsS99.set_2)), by repeat ((with_reducible first | exact HB.out | apply pw_below_drewN | refine below_set ?_ (IsS99.ge HI0.out))), by repeat ((with_reducible first | exact HK.out | apply KeepBut.set_ | apply keep_drewN))⟩
   rw [if_pos c6] at H
   have c6b0 := decide_eq_true c6
   clear c6
   by_cases c7 : (bt s0_0 x1001_1) ≤ 122
   · rw [if_pos c7] at H
     have c7b0 := decide_eq_true c7
     clear c7
     have H' := Aside0.mk H
     clear H
     obtain ⟨HGz8, hgz8⟩ := HI0.out
     have hcz8_0 := cellS99_0 HGz8
     have hcz8_1 := cellS99_1 HGz8
     have hcz8_2 := cellS99_2 HGz8
     have hfz8_0 := blk_frozen HGz8 0
     have hfz8_1 := blk_frozen HGz8 1
     have hfz8_2 := blk_frozen HGz8 2
     clear HGz8 hgz8
     have p5 : 0 ≤ (x1001_1 : Int) := of_decide_eq_true (by assumption)
     have q5 : x1001_1 < (s0_0.size : Int) := of_decide_eq_true (by assumption)
     have hx5 := bt_at s0_0 x1001_1
     replace p5 := eq_true p5
     replace q5 := eq_true q5
     go_wp2
     repeat (go_quiet (fail); try go_wp2)
     go_roundg k1
     case measure => have := HK1.out; omega
     case rel => exact ⟨(wrap64 (x1001_1 + 1)), H', ⟨by have := HK1.out; omega⟩, ⟨by repeat ((with_reducible first | exact HI0.out | apply IsS99.drewN | apply IsS99.set_1))⟩, ⟨by repeat ((with_reducible first | exact HK.out | apply KeepBut.set_ | apply keep_drewN))⟩, ⟨by repeat ((with_reducible first | exact HB.out | apply pw_below_drewN | refine below_set ?_ (IsS99.ge HI0.out)))⟩⟩
   rw [if_neg c7] at H
   have c7b0 := decide_eq_false c7
   clear c7
   by_cases c9 : (bt s0_0 x1001_1) ≥ 65
   rotate_left
   · rw [if_neg c9] at H
     have c9b0 := decide_eq_false c9
     clear c9
     by_cases c37 : (bt s0_0 x1001_1) ≥ 48
     rotate_left
     · rw [if_neg c37] at H
       have c37b0 := decide_eq_false c37
       clear c37
       by_cases c51 : ((bt s0_0 x1001_1) = 95)
       · rw [if_pos c51] at H
         have c51b0 := beq_iff_eq.mpr c51
         have c51b1 := bne_eq_false_iff_eq.mpr c51
         clear c51
         have H' := Aside0.mk H
         clear H
         obtain ⟨HGz52, hgz52⟩ := HI0.out
         have hcz52_0 := cellS99_0 HGz52
         have hcz52_1 := cellS99_1 HGz52
         have hcz52_2 := cellS99_2 HGz52
         have hfz52_0 := blk_frozen HGz52 0
         have hfz52_1 := blk_frozen HGz52 1
         have hfz52_2 := blk_frozen HGz52 2
         clear HGz52 hgz52
         have p5 : 0 ≤ (x1001_1 : Int) := of_decide_eq_true (by assumption)
         have q5 : x1001_1 < (s0_0.size : Int) := of_decide_eq_true (by assumption)
         have hx5 := bt_at s0_0 x1001_1
         replace p5 := eq_true p5
         replace q5 := eq_true q5
         go_wp2
         repeat (go_quiet (fail); try go_wp2)
         go_roundg k1
         case measure => have := HK1.out; omega
         case rel => exact ⟨(wrap64 (x1001_1 + 1)), H', ⟨by have := HK1.out; omega⟩, ⟨by repeat ((with_reducible first | exact HI0.out | apply IsS99.drewN | apply IsS99.set_1))⟩, ⟨by repeat ((with_reducible first | exact HK.out | apply KeepBut.set_ | apply keep_drewN))⟩, ⟨by repeat ((with_reducible first | exact HB.out | apply pw_below_drewN | refine below_set ?_ (IsS99.ge HI0.out)))⟩⟩
       rw [if_neg c51] at H
       have c51b0 := beq_eq_false_iff_ne.mpr c51
       have c51b1 := bne_iff_ne.mpr c51
       by_cases c53 : s0_2 = true
       · subst c53
         rw [if_pos rfl] at H
         obtain ⟨c54, H⟩ := gd H
         have c54b0 := eq_true c54
         have c54b1 := decide_eq_true c54
         clear c54
         obtain ⟨c55, H⟩ := gd H
         have c55b0 := eq_true c55
         have c55b1 := decide_eq_true c55
         clear c55
         obtain ⟨c56, H⟩ := gd H
         have c56b0 := eq_true c56
         have c56b1 := decide_eq_true c56
         clear c56
         simp only [Option.some.injEq, Prod.mk.injEq] at H
         obtain ⟨rfl, rfl, rfl, rfl⟩ := H
         obtain ⟨HGz57, hgz57⟩ := HI0.out
         have hcz57_0 := cellS99_0 HGz57
         have hcz57_1 := cellS99_1 HGz57
         have hcz57_2 := cellS99_2 HGz57
         have hfz57_0 := blk_frozen HGz57 0
         have hfz57_1 := blk_frozen HGz57 1
         have hfz57_2 := blk_frozen HGz57 2
         clear HGz57 hgz57
         have p5 : 0 ≤ (x1001_1 : Int) := of_decide_eq_true (by assumption)
         have q5 : x1001_1 < (s0_0.size : Int) := of_decide_eq_true (by assumption)
         have hx5 := bt_at s0_0 x1001_1
         replace p5 := eq_true p5
         replace q5 := eq_true q5
         go_wp2
         repeat (go_quiet (fail); try go_wp2)
         go_ret
         exact ⟨by first | rfl, by repeat ((with_reducible first | exact HI0.out | apply IsS99.drewN | apply IsS99.set_2)), by repeat ((with_reducible first | exact HB.out | apply pw_below_drewN | refine below_set ?_ (IsS99.ge HI0.out))), by repeat ((with_reducible first | exact HK.out | apply KeepBut.set_ | apply keep_drewN))⟩
       replace c53 := Bool.eq_false_iff.mpr c53
       subst c53
       rw [if_neg (show ¬ (false = true) by decide)] at H
       obtain ⟨c58, H⟩ := gd H
       have c58b0 := eq_true c58
       have c58b1 := decide_eq_true c58
       clear c58
       obtain ⟨c59, H⟩ := gd H
       have c59b0 := eq_true c59
       have c59b1 := decide_eq_true c59
       clear c59
       obtain ⟨c60, H⟩ := gd H
       have c60b0 := eq_true c60
       have c60b1 := decide_eq_true c60
       clear c60
       simp only [Option.some.injEq, Prod.mk.injEq] at H
       obtain ⟨rfl, rfl, rfl, rfl⟩ := H
       obtain ⟨HGz61, hgz61⟩ := HI0.out
       have hcz61_0 := cellS99_0 HGz61
       have hcz61_1 := cellS99_1 HGz61
       have hcz61_2 := cellS99_2 HGz61
       have hfz61_0 := blk_frozen HGz61 0
       have hfz61_1 := blk_frozen HGz61 1
       have hfz61_2 := blk_frozen HGz61 2
       clear HGz61 hgz61
       have p5 : 0 ≤ (x1001_1 : Int) := of_decide_eq_true (by assumption)
       have q5 : x1001_1 < (s0_0.size : Int) := of_decide_eq_true (by assumption)
       have hx5 := bt_at s0_0 x1001_1
       replace p5 := eq_true p5
       replace q5 := eq_true q5
       go_wp2
       repeat (go_quiet (fail); try go_wp2)
       go_ret
       exact ⟨by first | rfl, by repeat ((with_reducible first | exact HI0.out | apply IsS99.drewN | apply IsS99.set_2)), by repeat ((with_reducible first | exact HB.out | apply pw_below_drewN | refine below_set ?_ (IsS99.ge HI0.out))), by repeat ((with_reducible first | exact HK.out | apply KeepBut.set_ | apply keep_drewN))⟩
     rw [if_pos c37] at H
     have c37b0 := decide_eq_true c37
     clear c37
     by_cases c38 : (bt s0_0 x1001_1) ≤ 57
     · rw [if_pos c38] at H
       have c38b0 := decide_eq_true c38
       clear c38
       have H' := Aside0.mk H
       clear H
       obtain ⟨HGz39, hgz39⟩ := HI0.out
       have hcz39_0 := cellS99_0 HGz39
       have hcz39_1 := cellS99_1 HGz39
       have hcz39_2 := cellS99_2 HGz39
       have hfz39_0 := blk_frozen HGz39 0
       have hfz39_1 := blk_frozen HGz39 1
       have hfz39_2 := blk_frozen HGz39 2
       clear HGz39 hgz39
       have p5 : 0 ≤ (x1001_1 : Int) := of_decide_eq_true (by assumption)
       have q5 : x1001_1 < (s0_0.size : Int) := of_decide_eq_true (by assumption)
       have hx5 := bt_at s0_0 x1001_1
       replace p5 := eq_true p5
       replace q5 := eq_true q5
       go_wp2
       repeat (go_quiet (fail); try go_wp2)
       go_roundg k1
       case measure => have := HK1.out; omega
       case rel => exact ⟨(wrap64 (x1001_1 + 1)), H', ⟨by have := HK1.out; omega⟩, ⟨by repeat ((with_reducible first | exact HI0.out | apply IsS99.drewN | apply IsS99.set_1))⟩, ⟨by repeat ((with_reducible first | exact HK.out | apply KeepBut.set_ | apply keep_drewN))⟩, ⟨by repeat ((with_reducible first | exact HB.out | apply pw_below_drewN | refine below_set ?_ (IsS99.ge HI0.out)))⟩⟩
     rw [if_neg c38] at H
     have c38b0 := decide_eq_false c38
     clear c38
     by_cases c40 : ((bt s0_0 x1001_1) = 95)
     · rw [if_pos c40] at H
       have c40b0 := beq_iff_eq.mpr c40
       have c40b1 := bne_eq_false_iff_eq.mpr c40
       clear c40
       have H' := Aside0.mk H
       clear H
       obtain ⟨HGz41, hgz41⟩ := HI0.out
       have hcz41_0 := cellS99_0 HGz41
       have hcz41_1 := cellS99_1 HGz41
       have hcz41_2 := cellS99_2 HGz41
       have hfz41_0 := blk_frozen HGz41 0
       have hfz41_1 := blk_frozen HGz41 1
       have hfz41_2 := blk_frozen HGz41 2
       clear HGz41 hgz41
       have p5 : 0 ≤ (x1001_1 : Int) := of_decide_eq_true (by assumption)
       have q5 : x1001_1 < (s0_0.size : Int) := of_decide_eq_true (by assumption)
       have hx5 := bt_at s0_0 x1001_1
       replace p5 := eq_true p5
       replace q5 := eq_true q5
       go_wp2
       repeat (go_quiet (fail); try go_wp2)
       go_roundg k1
       case measure => have := HK1.out; omega
       case rel => exact ⟨(wrap64 (x1001_1 + 1)), H', ⟨by have := HK1.out; omega⟩, ⟨by repeat ((with_reducible first | exact HI0.out | apply IsS99.drewN | apply IsS99.set_1))⟩, ⟨by repeat ((with_reducible first | exact HK.out | apply KeepBut.set_ | apply keep_drewN))⟩, ⟨by repeat ((with_reducible first | exact HB.out | apply pw_below_drewN | refine below_set ?_ (IsS99.ge HI0.out)))⟩⟩
     rw [if_neg c40] at H
     have c40b0 := beq_eq_false_iff_ne.mpr c40
     have c40b1 := bne_iff_ne.mpr c40
     by_cases c42 : s0_2 = true
     · subst c42
       rw [if_pos rfl] at H
       obtain ⟨c43, H⟩ := gd H
       have c43b0 := eq_true c43
       have c43b1 := decide_eq_true c43
       clear c43
       obtain ⟨c44, H⟩ := gd H
       have c44b0 := eq_true c44
       have c44b1 := decide_eq_true c44
       clear c44
       obtain ⟨c45, H⟩ := gd H
       have c45b0 := eq_true c45
       have c45b1 := decide_eq_true c45
       clear c45
       simp only [Option.some.injEq, Prod.mk.injEq] at H
       obtain ⟨rfl, rfl, rfl, rfl⟩ := H
       obtain ⟨HGz46, hgz46⟩ := HI0.out
       have hcz46_0 := cellS99_0 HGz46
       have hcz46_1 := cellS99_1 HGz46
       have hcz46_2 := cellS99_2 HGz46
       have hfz46_0 := blk_frozen HGz46 0
       have hfz46_1 := blk_frozen HGz46 1
       have hfz46_2 := blk_frozen HGz46 2
       clear HGz46 hgz46
       have p5 : 0 ≤ (x1001_1 : Int) := of_decide_eq_true (by assumption)
       have q5 : x1001_1 < (s0_0.size : Int) := of_decide_eq_true (by assumption)
       have hx5 := bt_at s0_0 x1001_1
       replace p5 := eq_true p5
       replace q5 := eq_true q5
       go_wp2
       repeat (go_quiet (fail); try go_wp2)
       go_ret
       exact ⟨by first | rfl, by repeat ((with_reducible first | exact HI0.out | apply IsS99.drewN | apply IsS99.set_2)), by repeat ((with_reducible first | exact HB.out | apply pw_below_drewN | refine below_set ?_ (IsS99.ge HI0.out))), by repeat ((with_reducible first | exact HK.out | apply KeepBut.set_ | apply keep_drewN))⟩
     replace c42 := Bool.eq_false_iff.mpr c42
     subst c42
     rw [if_neg (show ¬ (false = true) by decide)] at H
     obtain ⟨c47, H⟩ := gd H
     have c47b0 := eq_true c47
     have c47b1 := decide_eq_true c47
     clear c47
     obtain ⟨c48, H⟩ := gd H
     have c48b0 := eq_true c48
     have c48b1 := decide_eq_true c48
     clear c48
     obtain ⟨c49, H⟩ := gd H
     have c49b0 := eq_true c49
     have c49b1 := decide_eq_true c49
     clear c49
     simp only [Option.some.injEq, Prod.mk.injEq] at H
     obtain ⟨rfl, rfl, rfl, rfl⟩ := H
     obtain ⟨HGz50, hgz50⟩ := HI0.out
     have hcz50_0 := cellS99_0 HGz50
     have hcz50_1 := cellS99_1 HGz50
     have hcz50_2 := cellS99_2 HGz50
     have hfz50_0 := blk_frozen HGz50 0
     have hfz50_1 := blk_frozen HGz50 1
     have hfz50_2 := blk_frozen HGz50 2
     clear HGz50 hgz50
     have p5 : 0 ≤ (x1001_1 : Int) := of_decide_eq_true (by assumption)
     have q5 : x1001_1 < (s0_0.size : Int) := of_decide_eq_true (by assumption)
     have hx5 := bt_at s0_0 x1001_1
     replace p5 := eq_true p5
     replace q5 := eq_true q5
     go_wp2
     repeat (go_quiet (fail); try go_wp2)
     go_ret
     exact ⟨by first | rfl, by repeat ((with_reducible first | exact HI0.out | apply IsS99.drewN | apply IsS99.set_2)), by repeat ((with_reducible first | exact HB.out | apply pw_below_drewN | refine below_set ?_ (IsS99.ge HI0.out))), by repeat ((with_reducible first | exact HK.out | apply KeepBut.set_ | apply keep_drewN))⟩
   rw [if_pos c9] at H
   have c9b0 := decide_eq_true c9
   clear c9
   by_cases c10 : (bt s0_0 x1001_1) ≤ 90
   · rw [if_pos c10] at H
     have c10b0 := decide_eq_true c10
     clear c10
     have H' := Aside0.mk H
     clear H
     obtain ⟨HGz11, hgz11⟩ := HI0.out
     have hcz11_0 := cellS99_0 HGz11
     have hcz11_1 := cellS99_1 HGz11
     have hcz11_2 := cellS99_2 HGz11
     have hfz11_0 := blk_frozen HGz11 0
     have hfz11_1 := blk_frozen HGz11 1
     have hfz11_2 := blk_frozen HGz11 2
     clear HGz11 hgz11
     have p5 : 0 ≤ (x1001_1 : Int) := of_decide_eq_true (by assumption)
     have q5 : x1001_1 < (s0_0.size : Int) := of_decide_eq_true (by assumption)
     have hx5 := bt_at s0_0 x1001_1
     replace p5 := eq_true p5
     replace q5 := eq_true q5
     go_wp2
     repeat (go_quiet (fail); try go_wp2)
     go_roundg k1
     case measure => have := HK1.out; omega
     case rel => exact ⟨(wrap64 (x1001_1 + 1)), H', ⟨by have := HK1.out; omega⟩, ⟨by repeat ((with_reducible first | exact HI0.out | apply IsS99.drewN | apply IsS99.set_1))⟩, ⟨by repeat ((with_reducible first | exact HK.out | apply KeepBut.set_ | apply keep_drewN))⟩, ⟨by repeat ((with_reducible first | exact HB.out | apply pw_below_drewN | refine below_set ?_ (IsS99.ge HI0.out)))⟩⟩
   rw [if_neg c10] at H
   have c10b0 := decide_eq_false c10
   clear c10
   by_cases c12 : (bt s0_0 x1001_1) ≥ 48
   rotate_left
   · rw [if_neg c12] at H
     have c12b0 := decide_eq_false c12
     clear c12
     by_cases c26 : ((bt s0_0 x1001_1) = 95)
     · rw [if_pos c26] at H
       have c26b0 := beq_iff_eq.mpr c26
       have c26b1 := bne_eq_false_iff_eq.mpr c26
       clear c26
       have H' := Aside0.mk H
       clear H
       obtain ⟨HGz27, hgz27⟩ := HI0.out
       have hcz27_0 := cellS99_0 HGz27
       have hcz27_1 := cellS99_1 HGz27
       have hcz27_2 := cellS99_2 HGz27
       have hfz27_0 := blk_frozen HGz27 0
       have hfz27_1 := blk_frozen HGz27 1
       have hfz27_2 := blk_frozen HGz27 2
       clear HGz27 hgz27
       have p5 : 0 ≤ (x1001_1 : Int) := of_decide_eq_true (by assumption)
       have q5 : x1001_1 < (s0_0.size : Int) := of_decide_eq_true (by assumption)
       have hx5 := bt_at s0_0 x1001_1
       replace p5 := eq_true p5
       replace q5 := eq_true q5
       go_wp2
       repeat (go_quiet (fail); try go_wp2)
       go_roundg k1
       case measure => have := HK1.out; omega
       case rel => exact ⟨(wrap64 (x1001_1 + 1)), H', ⟨by have := HK1.out; omega⟩, ⟨by repeat ((with_reducible first | exact HI0.out | apply IsS99.drewN | apply IsS99.set_1))⟩, ⟨by repeat ((with_reducible first | exact HK.out | apply KeepBut.set_ | apply keep_drewN))⟩, ⟨by repeat ((with_reducible first | exact HB.out | apply pw_below_drewN | refine below_set ?_ (IsS99.ge HI0.out)))⟩⟩
     rw [if_neg c26] at H
     have c26b0 := beq_eq_false_iff_ne.mpr c26
     have c26b1 := bne_iff_ne.mpr c26
     by_cases c28 : s0_2 = true
     · subst c28
       rw [if_pos rfl] at H
       obtain ⟨c29, H⟩ := gd H
       have c29b0 := eq_true c29
       have c29b1 := decide_eq_true c29
       clear c29
       obtain ⟨c30, H⟩ := gd H
       have c30b0 := eq_true c30
       have c30b1 := decide_eq_true c30
       clear c30
       obtain ⟨c31, H⟩ := gd H
       have c31b0 := eq_true c31
       have c31b1 := decide_eq_true c31
       clear c31
       simp only [Option.some.injEq, Prod.mk.injEq] at H
       obtain ⟨rfl, rfl, rfl, rfl⟩ := H
       obtain ⟨HGz32, hgz32⟩ := HI0.out
       have hcz32_0 := cellS99_0 HGz32
       have hcz32_1 := cellS99_1 HGz32
       have hcz32_2 := cellS99_2 HGz32
       have hfz32_0 := blk_frozen HGz32 0
       have hfz32_1 := blk_frozen HGz32 1
       have hfz32_2 := blk_frozen HGz32 2
       clear HGz32 hgz32
       have p5 : 0 ≤ (x1001_1 : Int) := of_decide_eq_true (by assumption)
       have q5 : x1001_1 < (s0_0.size : Int) := of_decide_eq_true (by assumption)
       have hx5 := bt_at s0_0 x1001_1
       replace p5 := eq_true p5
       replace q5 := eq_true q5
       go_wp2
       repeat (go_quiet (fail); try go_wp2)
       go_ret
       exact ⟨by first | rfl, by repeat ((with_reducible first | exact HI0.out | apply IsS99.drewN | apply IsS99.set_2)), by repeat ((with_reducible first | exact HB.out | apply pw_below_drewN | refine below_set ?_ (IsS99.ge HI0.out))), by repeat ((with_reducible first | exact HK.out | apply KeepBut.set_ | apply keep_drewN))⟩
     replace c28 := Bool.eq_false_iff.mpr c28
     subst c28
     rw [if_neg (show ¬ (false = true) by decide)] at H
     obtain ⟨c33, H⟩ := gd H
     have c33b0 := eq_true c33
     have c33b1 := decide_eq_true c33
     clear c33
     obtain ⟨c34, H⟩ := gd H
     have c34b0 := eq_true c34
     have c34b1 := decide_eq_true c34
     clear c34
     obtain ⟨c35, H⟩ := gd H
     have c35b0 := eq_true c35
     have c35b1 := decide_eq_true c35
     clear c35
     simp only [Option.some.injEq, Prod.mk.injEq] at H
     obtain ⟨rfl, rfl, rfl, rfl⟩ := H
     obtain ⟨HGz36, hgz36⟩ := HI0.out
     have hcz36_0 := cellS99_0 HGz36
     have hcz36_1 := cellS99_1 HGz36
     have hcz36_2 := cellS99_2 HGz36
     have hfz36_0 := blk_frozen HGz36 0
     have hfz36_1 := blk_frozen HGz36 1
     have hfz36_2 := blk_frozen HGz36 2
     clear HGz36 hgz36
     have p5 : 0 ≤ (x1001_1 : Int) := of_decide_eq_true (by assumption)
     have q5 : x1001_1 < (s0_0.size : Int) := of_decide_eq_true (by assumption)
     have hx5 := bt_at s0_0 x1001_1
     replace p5 := eq_true p5
     replace q5 := eq_true q5
     go_wp2
     repeat (go_quiet (fail); try go_wp2)
     go_ret
     exact ⟨by first | rfl, by repeat ((with_reducible first | exact HI0.out | apply IsS99.drewN | apply IsS99.set_2)), by repeat ((with_reducible first | exact HB.out | apply pw_below_drewN | refine below_set ?_ (IsS99.ge HI0.out))), by repeat ((with_reducible first | exact HK.out | apply KeepBut.set_ | apply keep_drewN))⟩
   rw [if_pos c12] at H
   have c12b0 := decide_eq_true c12
   clear c12
   by_cases c13 : (bt s0_0 x1001_1) ≤ 57
   · rw [if_pos c13] at H
     have c13b0 := decide_eq_true c13
     clear c13
     have H' := Aside0.mk H
     clear H
     obtain ⟨HGz14, hgz14⟩ := HI0.out
     have hcz14_0 := cellS99_0 HGz14
     have hcz14_1 := cellS99_1 HGz14
     have hcz14_2 := cellS99_2 HGz14
     have hfz14_0 := blk_frozen HGz14 0
     have hfz14_1 := blk_frozen HGz14 1
     have hfz14_2 := blk_frozen HGz14 2
     clear HGz14 hgz14
     have p5 : 0 ≤ (x1001_1 : Int) := of_decide_eq_true (by assumption)
     have q5 : x1001_1 < (s0_0.size : Int) := of_decide_eq_true (by assumption)
     have hx5 := bt_at s0_0 x1001_1
     replace p5 := eq_true p5
     replace q5 := eq_true q5
     go_wp2
     repeat (go_quiet (fail); try go_wp2)
     go_roundg k1
     case measure => have := HK1.out; omega
     case rel => exact ⟨(wrap64 (x1001_1 + 1)), H', ⟨by have := HK1.out; omega⟩, ⟨by repeat ((with_reducible first | exact HI0.out | apply IsS99.drewN | apply IsS99.set_1))⟩, ⟨by repeat ((with_reducible first | exact HK.out | apply KeepBut.set_ | apply keep_drewN))⟩, ⟨by repeat ((with_reducible first | exact HB.out | apply pw_below_drewN | refine below_set ?_ (IsS99.ge HI0.out)))⟩⟩
   rw [if_neg c13] at H
   have c13b0 := decide_eq_false c13
   clear c13
   by_cases c15 : ((bt s0_0 x1001_1) = 95)
   · rw [if_pos c15] at H
     have c15b0 := beq_iff_eq.mpr c15
     have c15b1 := bne_eq_false_iff_eq.mpr c15
     clear c15
     have H' := Aside0.mk H
     clear H
     obtain ⟨HGz16, hgz16⟩ := HI0.out
     have hcz16_0 := cellS99_0 HGz16
     have hcz16_1 := cellS99_1 HGz16
     have hcz16_2 := cellS99_2 HGz16
     have hfz16_0 := blk_frozen HGz16 0
     have hfz16_1 := blk_frozen HGz16 1
     have hfz16_2 := blk_frozen HGz16 2
     clear HGz16 hgz16
     have p5 : 0 ≤ (x1001_1 : Int) := of_decide_eq_true (by assumption)
     have q5 : x1001_1 < (s0_0.size : Int) := of_decide_eq_true (by assumption)
     have hx5 := bt_at s0_0 x1001_1
     replace p5 := eq_true p5
     replace q5 := eq_true q5
     go_wp2
     repeat (go_quiet (fail); try go_wp2)
     go_roundg k1
     case measure => have := HK1.out; omega
     case rel => exact ⟨(wrap64 (x1001_1 + 1)), H', ⟨by have := HK1.out; omega⟩, ⟨by repeat ((with_reducible first | exact HI0.out | apply IsS99.drewN | apply IsS99.set_1))⟩, ⟨by repeat ((with_reducible first | exact HK.out | apply KeepBut.set_ | apply keep_drewN))⟩, ⟨by repeat ((with_reducible first | exact HB.out | apply pw_below_drewN | refine below_set ?_ (IsS99.ge HI0.out)))⟩⟩
   rw [if_neg c15] at H
   have c15b0 := beq_eq_false_iff_ne.mpr c15
   have c15b1 := bne_iff_ne.mpr c15
   by_cases c17 : s0_2 = true
   · subst c17
     rw [if_pos rfl] at H
     obtain ⟨c18, H⟩ := gd H
     have c18b0 := eq_true c18
     have c18b1 := decide_eq_true c18
     clear c18
     obtain ⟨c19, H⟩ := gd H
     have c19b0 := eq_true c19
     have c19b1 := decide_eq_true c19
     clear c19
     obtain ⟨c20, H⟩ := gd H
     have c20b0 := eq_true c20
     have c20b1 := decide_eq_true c20
     clear c20
     simp only [Option.some.injEq, Prod.mk.injEq] at H
     obtain ⟨rfl, rfl, rfl, rfl⟩ := H
     obtain ⟨HGz21, hgz21⟩ := HI0.out
     have hcz21_0 := cellS99_0 HGz21
     have hcz21_1 := cellS99_1 HGz21
     have hcz21_2 := cellS99_2 HGz21
     have hfz21_0 := blk_frozen HGz21 0
     have hfz21_1 := blk_frozen HGz21 1
     have hfz21_2 := blk_frozen HGz21 2
     clear HGz21 hgz21
     have p5 : 0 ≤ (x1001_1 : Int) := of_decide_eq_true (by assumption)
     have q5 : x1001_1 < (s0_0.size : Int) := of_decide_eq_true (by assumption)
     have hx5 := bt_at s0_0 x1001_1
     replace p5 := eq_true p5
     replace q5 := eq_true q5
     go_wp2
     repeat (go_quiet (fail); try go_wp2)
     go_ret
     exact ⟨by first | rfl, by repeat ((with_reducible first | exact HI0.out | apply IsS99.drewN | apply IsS99.set_2)), by repeat ((with_reducible first | exact HB.out | apply pw_below_drewN | refine below_set ?_ (IsS99.ge HI0.out))), by repeat ((with_reducible first | exact HK.out | apply KeepBut.set_ | apply keep_drewN))⟩
   replace c17 := Bool.eq_false_iff.mpr c17
   subst c17
   rw [if_neg (show ¬ (false = true) by decide)] at H
   obtain ⟨c22, H⟩ := gd H
   have c22b0 := eq_true c22
   have c22b1 := decide_eq_true c22
   clear c22
   obtain ⟨c23, H⟩ := gd H
   have c23b0 := eq_true c23
   have c23b1 := decide_eq_true c23
   clear c23
   obtain ⟨c24, H⟩ := gd H
   have c24b0 := eq_true c24
   have c24b1 := decide_eq_true c24
   clear c24
   simp only [Option.some.injEq, Prod.mk.injEq] at H
   obtain ⟨rfl, rfl, rfl, rfl⟩ := H
   obtain ⟨HGz25, hgz25⟩ := HI0.out
   have hcz25_0 := cellS99_0 HGz25
   have hcz25_1 := cellS99_1 HGz25
   have hcz25_2 := cellS99_2 HGz25
   have hfz25_0 := blk_frozen HGz25 0
   have hfz25_1 := blk_frozen HGz25 1
   have hfz25_2 := blk_frozen HGz25 2
   clear HGz25 hgz25
   have p5 : 0 ≤ (x1001_1 : Int) := of_decide_eq_true (by assumption)
   have q5 : x1001_1 < (s0_0.size : Int) := of_decide_eq_true (by assumption)
   have hx5 := bt_at s0_0 x1001_1
   replace p5 := eq_true p5
   replace q5 := eq_true q5
   go_wp2
   repeat (go_quiet (fail); try go_wp2)
   go_ret
   exact ⟨by first | rfl, by repeat ((with_reducible first | exact HI0.out | apply IsS99.drewN | apply IsS99.set_2)), by repeat ((with_reducible first | exact HB.out | apply pw_below_drewN | refine below_set ?_ (IsS99.ge HI0.out))), by repeat ((with_reducible first | exact HK.out | apply KeepBut.set_ | apply keep_drewN))⟩
end Go.Proofs.Ytcnllhnhinmokaa.PHGr
end
section
namespace Go.Proofs.Ytcnllhnhinmokaa.PHGr
open Go.RowKit Go.Proofs.YtcnllhnhinmokaaW.PrintWords Go.Proofs.YtcnllhnhinmokaaW.PrintLast Go.Proofs.YtcnllhnhinmokaaW.PrintMore
attribute [local go_sem] max2_int min2_int max_two min_two max_three min_three max_four min_four
set_option linter.unusedVariables false
set_option linter.unusedSimpArgs false
def grammar_reader_takes.f (s0_0 : ByteArray) (s0_1 : Int) (s0_2 : Bool) (a1 : ByteArray) : Option (Bool × ByteArray × Int × Bool) := if (wrap64 ((s0_0.size : Int) - s0_1)) < (a1.size : Int) then (some (false, s0_0, s0_1, s0_2)) else (if 0 ≤ s0_1 then (if s0_1 ≤ (wrap64 (s0_1 + (a1.size : Int))) then (if (wrap64 (s0_1 + (a1.size : Int))) ≤ (s0_0.size : Int) then (if (s0_0.extract (s0_1 : Int).toNat ((wrap64 (s0_1 + (a1.size : Int))) : Int).toNat).toList = a1.toList then (some (true, s0_0, wrap64 (s0_1 + (a1.size : Int)), s0_2)) else (some (false, s0_0, s0_1, s0_2))) else (none)) else (none)) else (none))
set_option maxHeartbeats 8000000 in
set_option maxRecDepth 100000 in
theorem grammar_reader_takes.calls (g : Nat) (s0_0 : ByteArray) (s0_1 : Int) (s0_2 : Bool) (a1 : ByteArray) (r1 : Bool) (r2 : ByteArray) (r3 : Int) (r4 : Bool) (w0 w : World) (hI : IsS99 w0 w g s0_0 s0_1 s0_2) (hB : Below w0.heap.size w0 w) (h : grammar_reader_takes.f s0_0 s0_1 s0_2 a1 = some (r1, r2, r3, r4)) :
 Calls Try.prog 79 #[.pointer (some ⟨g, 0, none⟩), .string a1] w fun e w' => e = .returned (.bool r1) ∧ IsS99 w0 w' g r2 r3 r4 ∧ Below w0.heap.size w0 w' ∧ KeepBut w w' g none := by
 have HI0 := Aside0.mk hI
 have HK := Aside0.mk (KeepBut.refl w g none)
 have HL := Aside0.mk hB.size
 clear hI
 have HW0 := Aside0.mk hB.size
 have HB := Aside0.mk hB
 clear hB
 have H : (if (wrap64 ((s0_0.size : Int) - s0_1)) < (a1.size : Int) then (some (false, s0_0, s0_1, s0_2)) else (if 0 ≤ s0_1 then (if s0_1 ≤ (wrap64 (s0_1 + (a1.size : Int))) then (if (wrap64 (s0_1 + (a1.size : Int))) ≤ (s0_0.size : Int) then (if (s0_0.extract (s0_1 : Int).toNat ((wrap64 (s0_1 + (a1.size : Int))) : Int).toNat).toList = a1.toList then (some (true, s0_0, wrap64 (s0_1 + (a1.size : Int)), s0_2)) else (some (false, s0_0, s0_1, s0_2))) else (none)) else (none)) else (none))) = some (r1, r2, r3, r4) := h
 clear h
 by_cases c3 : (wrap64 ((s0_0.size : Int) - s0_1)) < (a1.size : Int)
 · rw [if_pos c3] at H
   have c3b0 := decide_eq_true c3
   clear c3
   simp only [Option.some.injEq, Prod.mk.injEq] at H
   obtain ⟨rfl, rfl, rfl, rfl⟩ := H
   obtain ⟨HGz4, hgz4⟩ := HI0.out
   have hcz4_0 := cellS99_0 HGz4
   have hcz4_1 := cellS99_1 HGz4
   have hcz4_2 := cellS99_2 HGz4
   have hfz4_0 := blk_frozen HGz4 0
   have hfz4_1 := blk_frozen HGz4 1
   have hfz4_2 := blk_frozen HGz4 2
   clear HGz4 hgz4
   go_enter Try.func79, Try.ntmps79
   go_wp2
   repeat (go_quiet (fail); try go_wp2)
   go_ret
   exact ⟨by first | rfl, by repeat ((with_reducible first | exact HI0.out | apply IsS99.drewN)), by repeat ((with_reducible first | exact HB.out | apply pw_below_drewN)), by repeat ((with_reducible first | exact HK.out | apply keep_drewN))⟩
 rw [if_neg c3] at H
 have c3b0 := decide_eq_false c3
 clear c3
 obtain ⟨c5, H⟩ := gd H
 have c5b0 := eq_true c5
 have c5b1 := decide_eq_true c5
 clear c5
 obtain ⟨c6, H⟩ := gd H
 have c6b0 := eq_true c6
 have c6b1 := decide_eq_true c6
 obtain ⟨c7, H⟩ := gd H
 have c7b0 := eq_true c7
 have c7b1 := decide_eq_true c7
 by_cases c8 : (s0_0.extract (s0_1 : Int).toNat ((wrap64 (s0_1 + (a1.size : Int))) : Int).toNat).toList = a1.toList
 rotate_left
 · rw [if_neg c8] at H
   have c8b0 := beq_eq_false_iff_ne.mpr c8
   have c8b1 := bne_iff_ne.mpr c8
   simp only [Option.some.injEq, Prod.mk.injEq] at H
   obtain ⟨rfl, rfl, rfl, rfl⟩ := H
   obtain ⟨HGz10, hgz10⟩ := HI0.out
   have hcz10_0 := cellS99_0 HGz10
   have hcz10_1 := cellS99_1 HGz10
   have hcz10_2 := cellS99_2 HGz10
   have hfz10_0 := blk_frozen HGz10 0
   have hfz10_1 := blk_frozen HGz10 1
   have hfz10_2 := blk_frozen HGz10 2
   clear HGz10 hgz10
   go_enter Try.func79, Try.ntmps79
   go_wp2
   repeat (go_quiet (fail); try go_wp2)
   go_ret
   exact ⟨by first | rfl, by repeat ((with_reducible first | exact HI0.out | apply IsS99.drewN)), by repeat ((with_reducible first | exact HB.out | apply pw_below_drewN)), by repeat ((with_reducible first | exact HK.out | apply keep_drewN))⟩
 rw [if_pos c8] at H
 have c8b0 := beq_iff_eq.mpr c8
 have c8b1 := bne_eq_false_iff_eq.mpr c8
 clear c8
 simp only [Option.some.injEq, Prod.mk.injEq] at H
 obtain ⟨rfl, rfl, rfl, rfl⟩ := H
 obtain ⟨HGz9, hgz9⟩ := HI0.out
 have hcz9_0 := cellS99_0 HGz9
 have hcz9_1 := cellS99_1 HGz9
 have hcz9_2 := cellS99_2 HGz9
 have hfz9_0 := blk_frozen HGz9 0
 have hfz9_1 := blk_frozen HGz9 1
 have hfz9_2 := blk_frozen HGz9 2
 clear HGz9 hgz9
 go_enter Try.func79, Try.ntmps79
 go_wp2
 repeat (go_quiet (fail); try go_wp2)
 go_ret
 exact ⟨by first | rfl, by repeat ((with_reducible first | exact HI0.out | apply IsS99.drewN | apply IsS99.set_1)), by repeat ((with_reducible first | exact HB.out | apply pw_below_drewN | refine below_set ?_ (IsS99.ge HI0.out))), by repeat ((with_reducible first | exact HK.out | apply KeepBut.set_ | apply keep_drewN))⟩
def grammar_reader_must.f (s0_0 : ByteArray) (s0_1 : Int) (s0_2 : Bool) (a1 : ByteArray) : Option (ByteArray × Int × Bool) := (grammar_reader_takes.f s0_0 s0_1 s0_2 a1).bind fun bt211 => (if bt211.1 = true then (some (bt211.2.1, bt211.2.2.1, bt211.2.2.2)) else (some (bt211.2.1, bt211.2.2.1, true)))
set_option maxHeartbeats 8000000 in
set_option maxRecDepth 100000 in
theorem grammar_reader_must.calls (g : Nat) (s0_0 : ByteArray) (s0_1 : Int) (s0_2 : Bool) (a1 : ByteArray) (r1 : ByteArray) (r2 : Int) (r3 : Bool) (w0 w : World) (hI : IsS99 w0 w g s0_0 s0_1 s0_2) (hB : Below w0.heap.size w0 w) (h : grammar_reader_must.f s0_0 s0_1 s0_2 a1 = some (r1, r2, r3)) :
 Calls Try.prog 53 #[.pointer (some ⟨g, 0, none⟩), .string a1] w fun e w' => e = .returned (.tuple #[]) ∧ IsS99 w0 w' g r1 r2 r3 ∧ Below w0.heap.size w0 w' ∧ KeepBut w w' g none := by
 have HI0 := Aside0.mk hI
 have HK := Aside0.mk (KeepBut.refl w g none)
 have HL := Aside0.mk hB.size
 clear hI
 have HW0 := Aside0.mk hB.size
 have HB := Aside0.mk hB
 clear hB
 have H : ((grammar_reader_takes.f s0_0 s0_1 s0_2 a1).bind fun bt211 => (if bt211.1 = true then (some (bt211.2.1, bt211.2.2.1, bt211.2.2.2)) else (some (bt211.2.1, bt211.2.2.1, true)))) = some (r1, r2, r3) := h
 clear h
 replace H := Option.bind_eq_some_iff.mp H
 obtain ⟨⟨t211, t212, t213, t214⟩, A30, H⟩ := H
 dsimp only at H
 have A3 := Aside0.mk A30
 clear A30
 by_cases c4 : t211 = true
 · subst c4
   rw [if_pos rfl] at H
   simp only [Option.some.injEq, Prod.mk.injEq] at H
   obtain ⟨rfl, rfl, rfl⟩ := H
   go_enter Try.func53, Try.ntmps53
   go_wp2_with (((with_reducible refine gate_callee (f := 79) rfl ?_); refine goesL_ (some 6) rfl rfl Try.func79 (by kernel_rfl) rfl #[.pointer (some ⟨g, 0, none⟩), .string a1] rfl (by (try simp only [List.map_toArray, List.map_cons, List.map_nil]); first | rfl) ?_; (with_reducible refine (grammar_reader_takes.calls g s0_0 s0_1 s0_2 a1 true t212 t213 t214 w0 _ ?side1 ?side2 A3.out).mono ?_); (case side1 => exact HI0.out); (case side2 => exact HB.out); rintro e w5 ⟨rfl, hi, hb, hk⟩; refine ⟨_, rfl, ?_⟩; have n0_ := Aside0.mk (KeepBut.trans HK.out hk (.inl rfl)); have n1_ := Aside0.mk (hb); have n2_ := Aside0.mk (hi); clear HK; clear HB; clear HI0; have HK := n0_; have HB := n1_; have HI0 := n2_; clear n0_ n1_ n2_; (try clear hb); (try clear hk); (try clear hi)))
   first | go_end0
   exact ⟨by first | rfl, by exact HI0.out, by exact HB.out, by exact HK.out⟩
 replace c4 := Bool.eq_false_iff.mpr c4
 subst c4
 rw [if_neg (show ¬ (false = true) by decide)] at H
 simp only [Option.some.injEq, Prod.mk.injEq] at H
 obtain ⟨rfl, rfl, rfl⟩ := H
 go_enter Try.func53, Try.ntmps53
 go_wp2_with (((with_reducible refine gate_callee (f := 79) rfl ?_); refine goesL_ (some 6) rfl rfl Try.func79 (by kernel_rfl) rfl #[.pointer (some ⟨g, 0, none⟩), .string a1] rfl (by (try simp only [List.map_toArray, List.map_cons, List.map_nil]); first | rfl) ?_; (with_reducible refine (grammar_reader_takes.calls g s0_0 s0_1 s0_2 a1 false t212 t213 t214 w0 _ ?side1 ?side2 A3.out).mono ?_); (case side1 => exact HI0.out); (case side2 => exact HB.out); rintro e w6 ⟨rfl, hi, hb, hk⟩; refine ⟨_, rfl, ?_⟩; have n0_ := Aside0.mk (KeepBut.trans HK.out hk (.inl rfl)); have n1_ := Aside0.mk (hb); have n2_ := Aside0.mk (hi); clear HK; clear HB; clear HI0; have HK := n0_; have HB := n1_; have HI0 := n2_; clear n0_ n1_ n2_; (try clear hb); (try clear hk); (try clear hi); obtain ⟨HGz7, hgz7⟩ := HI0.out; have hcz7_0 := cellS99_0 HGz7; have hcz7_1 := cellS99_1 HGz7; have hcz7_2 := cellS99_2 HGz7; have hfz7_0 := blk_frozen HGz7 0; have hfz7_1 := blk_frozen HGz7 1; have hfz7_2 := blk_frozen HGz7 2; clear HGz7 hgz7))
 first | go_end0
 exact ⟨by first | rfl, by repeat ((with_reducible first | exact HI0.out | apply IsS99.set_2)), by repeat ((with_reducible first | exact HB.out | refine below_set ?_ (IsS99.ge HI0.out))), by repeat ((with_reducible first | exact HK.out | apply KeepBut.set_))⟩
def grammar_reader_atom.l0 : Nat → List Int → ByteArray → Int → Bool → Option (ByteArray × ByteArray × Int × Bool)
 | 0, _, _, _, _ => none
 | k + 1, x3, x1000, x1001, x1002 => if x1001 < (x1000.size : Int) then (if 0 ≤ x1001 then (if (bt x1000 x1001) = 39 then (some (strOfNums x3, x1000, wrap64 (x1001 + 1), x1002)) else (if (bt x1000 x1001) = 92 then ((grammar_reader_takes.f x1000 (wrap64 (x1001 + 1)) x1002 (⟨#[110]⟩ : ByteArray)).bind fun bt215 => (if bt215.1 = true then (if x3.length < 140737488355328 then (grammar_reader_atom.l0 k (x3 ++ [10]) bt215.2.1 bt215.2.2.1 bt215.2.2.2) else (none)) else ((grammar_reader_takes.f bt215.2.1 bt215.2.2.1 bt215.2.2.2 (⟨#[39]⟩ : ByteArray)).bind fun bt222 => (if bt222.1 = true then (if x3.length < 140737488355328 then (grammar_reader_atom.l0 k (x3 ++ [39]) bt222.2.1 bt222.2.2.1 bt222.2.2.2) else (none)) else ((grammar_reader_takes.f bt222.2.1 bt222.2.2.1 bt222.2.2.2 (⟨#[92]⟩ : ByteArray)).bind fun bt229 => (if bt229.1 = true then (if x3.length < 140737488355328 then (grammar_reader_atom.l0 k (x3 ++ [92]) bt229.2.1 bt229.2.2.1 bt229.2.2.2) else (none)) else (some ((⟨#[]⟩ : ByteArray), bt229.2.1, bt229.2.2.1, true)))))))) else (if x3.length < 140737488355328 then (grammar_reader_atom.l0 k (x3 ++ [bt x1000 x1001]) x1000 (wrap64 (x1001 + 1)) x1002) else (none)))) else (none)) else (some ((⟨#[]⟩ : ByteArray), x1000, x1001, true))
def grammar_reader_atom.f (k : Nat) (s0_0 : ByteArray) (s0_1 : Int) (s0_2 : Bool) : Option (ByteArray × ByteArray × Int × Bool) := grammar_reader_atom.l0 k ([] : List Int) s0_0 s0_1 s0_2
set_option maxHeartbeats 8000000 in
set_option maxRecDepth 100000 in
theorem grammar_reader_atom.calls (k : Nat) (g : Nat) (s0_0 : ByteArray) (s0_1 : Int) (s0_2 : Bool) (r1 : ByteArray) (r2 : ByteArray) (r3 : Int) (r4 : Bool) (w0 w : World) (hI : IsS99 w0 w g s0_0 s0_1 s0_2) (hB : Below w0.heap.size w0 w) (h : grammar_reader_atom.f k s0_0 s0_1 s0_2 = some (r1, r2, r3, r4)) :
 Calls Try.prog 80 #[.pointer (some ⟨g, 0, none⟩)] w fun e w' => e = .returned (.string r1) ∧ IsS99 w0 w' g r2 r3 r4 ∧ Below w0.heap.size w0 w' ∧ KeepBut w w' g none := by
 have HI0 := Aside0.mk hI
 have HK := Aside0.mk (KeepBut.refl w g none)
 have HL := Aside0.mk hB.size
 clear hI
 have HW0 := Aside0.mk hB.size
 have HB := Aside0.mk hB
 clear hB
 have H : (grammar_reader_atom.l0 k ([] : List Int) s0_0 s0_1 s0_2) = some (r1, r2, r3, r4) := h
 clear h
 have H' := Aside0.mk H
 clear H
 go_enter Try.func80, Try.ntmps80
 go_wp2
 repeat (go_quiet (fail); try go_wp2)
 go_loopg [3] k (fun kq v3 w' => ∃ (x3_1 : List Int) (x1000_1 : ByteArray) (x1001_1 : Int) (x1002_1 : Bool), Aside0 (grammar_reader_atom.l0 kq x3_1 x1000_1 x1001_1 x1002_1 = some (r1, r2, r3, r4)) ∧ Aside0 (kq ≤ k) ∧ Aside0 (Kd.R (Kd.int .u8) 5 w' w.heap.size (fun _ => True) v3 x3_1) ∧ Aside0 (IsS99 w0 w' g x1000_1 x1001_1 x1002_1) ∧ Aside0 (KeepBut w w' g none) ∧ Aside0 (Below w0.heap.size w0 w'))
 case atStart => exact ⟨(([] : List Int)), (s0_0), (s0_1), (s0_2), H', ⟨Nat.le_refl _⟩, ⟨by first | exact Kd.R_nil _ _ _ _ _⟩, ⟨by exact HI0.out⟩, ⟨by exact HK.out⟩, ⟨by exact HB.out⟩⟩
 case round =>
  clear H'
  obtain ⟨x3_1, x1000_1, x1001_1, x1002_1, HA, HK1, HO_3, HI0, HK, HB⟩ := hrel
  cases gk with
  | zero => exact absurd HA.out (by simp [grammar_reader_atom.l0])
  | succ k1 =>
   have H := HA.out
   clear HA
   simp only [grammar_reader_atom.l0] at H
   by_cases c2 : x1001_1 < (x1000_1.size : Int)
   rotate_left
   · rw [if_neg c2] at H
     have c2b0 := decide_eq_false c2
     clear c2
     simp only [Option.some.injEq, Prod.mk.injEq] at H
     obtain ⟨rfl, rfl, rfl, rfl⟩ := H
     obtain ⟨HGz38, hgz38⟩ := HI0.out
     have hcz38_0 := cellS99_0 HGz38
     have hcz38_1 := cellS99_1 HGz38
     have hcz38_2 := cellS99_2 HGz38
     have hfz38_0 := blk_frozen HGz38 0
     have hfz38_1 := blk_frozen HGz38 1
     have hfz38_2 := blk_frozen HGz38 2
     clear HGz38 hgz38
     go_wp2
     repeat (go_quiet (fail); try go_wp2)
     go_ret
     exact ⟨by first | rfl, by repeat ((with_reducible first | exact HI0.out | apply IsS99.drewN | apply IsS99.set_2)), by repeat ((with_reducible first | exact HB.out | apply pw_below_drewN | refine below_set ?_ (IsS99.ge HI0.out))), by repeat ((with_reducible first | exact HK.out | apply KeepBut.set_ | apply keep_drewN))⟩
   rw [if_pos c2] at H
   have c2b0 := decide_eq_true c2
   clear c2
   obtain ⟨c3, H⟩ := gd H
   have c3b0 := decide_eq_true c3
   clear c3
   by_cases c5 : (bt x1000_1 x1001_1) = 39
   · rw [if_pos c5] at H
     have c5b0 := beq_iff_eq.mpr c5
     have c5b1 := bne_eq_false_iff_eq.mpr c5
     clear c5
     simp only [Option.some.injEq, Prod.mk.injEq] at H
     obtain ⟨rfl, rfl, rfl, rfl⟩ := H
     obtain ⟨HGz6, hgz6⟩ := HI0.out
     have hcz6_0 := cellS99_0 HGz6
     have hcz6_1 := cellS99_1 HGz6
     have hcz6_2 := cellS99_2 HGz6
     have hfz6_0 := blk_frozen HGz6 0
     have hfz6_1 := blk_frozen HGz6 1
     have hfz6_2 := blk_frozen HGz6 2
     have hcv7 : ∀ (m : Nat) (u : Value), (convert 148 9 u3).run Try.prog ((wr.drewN m).setCell ⟨g, 1, none⟩ u) = .ok (.string (strOfNums x3_1)) ((wr.drewN m).setCell ⟨g, 1, none⟩ u) := fun m u => own_string (P := Try.prog) Try.underlying148 Try.underlying5 Try.underlying9 (Kd.own_of_R (Kd.R_set (Kd.R_drewN HO_3.out m) (blk_drewN HGz6 m) (by decide) 1 u))
     clear HGz6 hgz6
     have p4 : 0 ≤ (x1001_1 : Int) := of_decide_eq_true (by assumption)
     have q4 : x1001_1 < (x1000_1.size : Int) := of_decide_eq_true (by assumption)
     have hx4 := bt_at x1000_1 x1001_1
     replace p4 := eq_true p4
     replace q4 := eq_true q4
     go_wp2
     repeat (go_quiet (fail); try go_wp2)
     go_ret
     exact ⟨by first | rfl, by repeat ((with_reducible first | exact HI0.out | apply IsS99.drewN | apply IsS99.set_1)), by repeat ((with_reducible first | exact HB.out | apply pw_below_drewN | refine below_set ?_ (IsS99.ge HI0.out))), by repeat ((with_reducible first | exact HK.out | apply KeepBut.set_ | apply keep_drewN))⟩
   rw [if_neg c5] at H
   have c5b0 := beq_eq_false_iff_ne.mpr c5
   have c5b1 := bne_iff_ne.mpr c5
   by_cases c8 : (bt x1000_1 x1001_1) = 92
   rotate_left
   · rw [if_neg c8] at H
     have c8b0 := beq_eq_false_iff_ne.mpr c8
     have c8b1 := bne_iff_ne.mpr c8
     obtain ⟨c35, H⟩ := gd H
     have LMc35 := Aside0.mk c35
     clear c35
     obtain ⟨y236, hy236⟩ : ∃ y_ : List Int, y_ = (x3_1 ++ [bt x1000_1 x1001_1]) := ⟨_, rfl⟩
     replace H : (grammar_reader_atom.l0 k1 y236 x1000_1 (wrap64 (x1001_1 + 1)) x1002_1) = some (r1, r2, r3, r4) := by (rw [hy236]; with_reducible exact H)
     have Ny236 := Aside0.mk hy236
     clear hy236
     have H' := Aside0.mk H
     clear H
     obtain ⟨HGz36, hgz36⟩ := HI0.out
     have hcz36_0 := cellS99_0 HGz36
     have hcz36_1 := cellS99_1 HGz36
     have hcz36_2 := cellS99_2 HGz36
     have hfz36_0 := blk_frozen HGz36 0
     have hfz36_1 := blk_frozen HGz36 1
     have hfz36_2 := blk_frozen HGz36 2
     clear HGz36 hgz36
     have p4 : 0 ≤ (x1001_1 : Int) := of_decide_eq_true (by assumption)
     have q4 : x1001_1 < (x1000_1.size : Int) := of_decide_eq_true (by assumption)
     have hx4 := bt_at x1000_1 x1001_1
     replace p4 := eq_true p4
     replace q4 := eq_true q4
     go_wp2_with (first | fail)
     repeat (go_quiet (first | fail); try go_wp2_with (((with_reducible refine gate_builtin (b := .append) (xs := #[.tmp 42, .tmp 44]) rfl ?_); at_builtin; refine Kd.R_append (Kd.int .u8) w.heap.size rfl (.tmp 42) (.tmp 44) 148 5 (.int .u8 0) 1 rfl Try.underlying148 info5 rfl (by decide) (by omega) u3 x3_1 (bt x1000_1 x1001_1) [.int .u8 (bt x1000_1 x1001_1)] (fun _ => True) (fun _ => False) rfl (by (go_simp; done)) ?aP (fun _ hk => hk.elim) ?aF ?aO (Below.refl _ _) ?aS ?aL ?_; (case aP => exact rfl); (case aF => exact (fun _ _ => trivial)); (case aO => exact (by (with_reducible repeat (first | fail)); exact Kd.R_mono (Kd.R_far (p := ⟨g, 1, none⟩) (IsS99.apart HI0.out HO_3.out (by decide)) (fun _ hk => hk.2) (.int .i64 (wrap64 (x1001_1 + 1)))) (fun _ hk => trivial))); (case aS => exact (keep_size (w := w) (g := g) (row := none) (by repeat ((with_reducible first | exact HK.out | apply KeepBut.set_ | apply keep_drewN))))); (case aL => have := LMc35.out; omega); intro v237 w37 ho hb hg hat; rw [← Ny236.out] at ho; have n0_ := Aside0.mk (IsS99.grown (by repeat ((with_reducible first | exact HI0.out | apply IsS99.drewN | apply IsS99.set_1))) hg (IsS99.own_ne HI0.out HO_3.out (by decide))); have n1_ := Aside0.mk (below_weaken (by repeat ((with_reducible first | exact HB.out | apply pw_below_drewN | refine below_set ?_ (IsS99.ge HI0.out)))) HL.out hb); have n2_ := Aside0.mk (KeepBut.trans (by repeat ((with_reducible first | exact HK.out | apply KeepBut.set_ | apply keep_drewN))) (KeepBut.of_grown hg g) (Kd.R_base2 HO_3.out)); have n3_ := Aside0.mk (ho); clear HI0; clear HB; clear HK; clear HO_3; have HI0 := n0_; have HB := n1_; have HK := n2_; have HO238 := n3_; clear n0_ n1_ n2_ n3_; clear ho hb hg hat)))
     go_roundg k1
     case measure => have := HK1.out; omega
     case rel => exact ⟨(y236), (x1000_1), (wrap64 (x1001_1 + 1)), (x1002_1), H', ⟨by have := HK1.out; omega⟩, ⟨HO238.out⟩, ⟨by exact HI0.out⟩, ⟨by exact HK.out⟩, ⟨by exact HB.out⟩⟩
   rw [if_pos c8] at H
   have c8b0 := beq_iff_eq.mpr c8
   have c8b1 := bne_eq_false_iff_eq.mpr c8
   clear c8
   replace H := Option.bind_eq_some_iff.mp H
   obtain ⟨⟨t215, t216, t217, t218⟩, A90, H⟩ := H
   dsimp only at H
   have A9 := Aside0.mk A90
   clear A90
   by_cases c10 : t215 = true
   · subst c10
     rw [if_pos rfl] at H
     obtain ⟨c11, H⟩ := gd H
     have LMc11 := Aside0.mk c11
     clear c11
     obtain ⟨y219, hy219⟩ : ∃ y_ : List Int, y_ = (x3_1 ++ [10]) := ⟨_, rfl⟩
     replace H : (grammar_reader_atom.l0 k1 y219 t216 t217 t218) = some (r1, r2, r3, r4) := by (rw [hy219]; with_reducible exact H)
     have Ny219 := Aside0.mk hy219
     clear hy219
     have H' := Aside0.mk H
     clear H
     obtain ⟨HGz12, hgz12⟩ := HI0.out
     have hcz12_0 := cellS99_0 HGz12
     have hcz12_1 := cellS99_1 HGz12
     have hcz12_2 := cellS99_2 HGz12
     have hfz12_0 := blk_frozen HGz12 0
     have hfz12_1 := blk_frozen HGz12 1
     have hfz12_2 := blk_frozen HGz12 2
     clear HGz12 hgz12
     have p4 : 0 ≤ (x1001_1 : Int) := of_decide_eq_true (by assumption)
     have q4 : x1001_1 < (x1000_1.size : Int) := of_decide_eq_true (by assumption)
     have hx4 := bt_at x1000_1 x1001_1
     replace p4 := eq_true p4
     replace q4 := eq_true q4
     go_wp2_with (first | fail)
     repeat (go_quiet (first | fail); try go_wp2_with (first | (go_at_call 79; (with_reducible refine (grammar_reader_takes.calls g x1000_1 (wrap64 (x1001_1 + 1)) x1002_1 (⟨#[110]⟩ : ByteArray) true t216 t217 t218 w0 _ ?side1 ?side2 A9.out).mono ?_); (case side1 => repeat ((with_reducible first | exact HI0.out | apply IsS99.drewN | apply IsS99.set_1))); (case side2 => repeat ((with_reducible first | exact HB.out | apply pw_below_drewN | refine below_set ?_ (IsS99.ge HI0.out)))); rintro e w13 ⟨rfl, hi, hb, hk⟩; have n0_ := Aside0.mk (Kd.R_mono (Kd.R_keep (IsS99.apart (show IsS99 w0 _ g x1000_1 (wrap64 (x1001_1 + 1)) x1002_1 from by repeat ((with_reducible first | exact HI0.out | apply IsS99.drewN | apply IsS99.set_1))) (by (with_reducible repeat (first | fail)); exact (Kd.R_mono (Kd.R_far (p := ⟨g, 1, none⟩) (IsS99.apart HI0.out HO_3.out (by decide)) (fun _ hk => hk.2) (.int .i64 (wrap64 (x1001_1 + 1)))) (fun _ h_ => h_.1))) (by decide)) hk (fun _ h => h.2)) (fun _ h => h.1)); have n1_ := Aside0.mk (KeepBut.trans (by repeat ((with_reducible first | exact HK.out | apply KeepBut.set_ | apply keep_drewN))) hk (.inl rfl)); have n2_ := Aside0.mk (hb); have n3_ := Aside0.mk (hi); clear HO_3; clear HK; clear HB; clear HI0; have HO_3 := n0_; have HK := n1_; have HB := n2_; have HI0 := n3_; clear n0_ n1_ n2_ n3_; (try clear hb); (try clear hk); (try clear hi)) | ((with_reducible refine gate_builtin (b := .append) (xs := #[.tmp 49, .tmp 50]) rfl ?_); at_builtin; refine Kd.R_append (Kd.int .u8) w.heap.size rfl (.tmp 49) (.tmp 50) 148 5 (.int .u8 0) 1 rfl Try.underlying148 info5 rfl (by decide) (by omega) u3 x3_1 10 [.int .u8 10] (fun _ => True) (fun _ => False) rfl rfl ?aP (fun _ hk => hk.elim) ?aF ?aO (Below.refl _ _) ?aS ?aL ?_; (case aP => exact rfl); (case aF => exact (fun _ _ => trivial)); (case aO => exact HO_3.out); (case aS => exact (keep_size (w := w) (g := g) (row := none) HK.out)); (case aL => have := LMc11.out; omega); intro v220 w14 ho hb hg hat; rw [← Ny219.out] at ho; have n0_ := Aside0.mk (IsS99.grown HI0.out hg (IsS99.own_ne HI0.out HO_3.out (by decide))); have n1_ := Aside0.mk (below_weaken HB.out HL.out hb); have n2_ := Aside0.mk (KeepBut.trans HK.out (KeepBut.of_grown hg g) (Kd.R_base2 HO_3.out)); have n3_ := Aside0.mk (ho); clear HI0; clear HB; clear HK; clear HO_3; have HI0 := n0_; have HB := n1_; have HK := n2_; have HO221 := n3_; clear n0_ n1_ n2_ n3_; clear ho hb hg hat)))
     go_roundg k1
     case measure => have := HK1.out; omega
     case rel => exact ⟨(y219), (t216), (t217), (t218), H', ⟨by have := HK1.out; omega⟩, ⟨HO221.out⟩, ⟨by exact HI0.out⟩, ⟨by exact HK.out⟩, ⟨by exact HB.out⟩⟩
   replace c10 := Bool.eq_false_iff.mpr c10
   subst c10
   rw [if_neg (show ¬ (false = true) by decide)] at H
   replace H := Option.bind_eq_some_iff.mp H
   obtain ⟨⟨t222, t223, t224, t225⟩, A150, H⟩ := H
   dsimp only at H
   have A15 := Aside0.mk A150
   clear A150
   by_cases c16 : t222 = true
   · subst c16
     rw [if_pos rfl] at H
     obtain ⟨c17, H⟩ := gd H
     have LMc17 := Aside0.mk c17
     clear c17
     obtain ⟨y226, hy226⟩ : ∃ y_ : List Int, y_ = (x3_1 ++ [39]) := ⟨_, rfl⟩
     replace H : (grammar_reader_atom.l0 k1 y226 t223 t224 t225) = some (r1, r2, r3, r4) := by (rw [hy226]; with_reducible exact H)
     have Ny226 := Aside0.mk hy226
     clear hy226
     have H' := Aside0.mk H
     clear H
     obtain ⟨HGz18, hgz18⟩ := HI0.out
     have hcz18_0 := cellS99_0 HGz18
     have hcz18_1 := cellS99_1 HGz18
     have hcz18_2 := cellS99_2 HGz18
     have hfz18_0 := blk_frozen HGz18 0
     have hfz18_1 := blk_frozen HGz18 1
     have hfz18_2 := blk_frozen HGz18 2
     clear HGz18 hgz18
     have p4 : 0 ≤ (x1001_1 : Int) := of_decide_eq_true (by assumption)
     have q4 : x1001_1 < (x1000_1.size : Int) := of_decide_eq_true (by assumption)
     have hx4 := bt_at x1000_1 x1001_1
     replace p4 := eq_true p4
     replace q4 := eq_true q4
     go_wp2_with (first | fail)
     repeat (go_quiet (first | fail); try go_wp2_with (first | (go_at_call 79; (with_reducible refine (grammar_reader_takes.calls g x1000_1 (wrap64 (x1001_1 + 1)) x1002_1 (⟨#[110]⟩ : ByteArray) false t216 t217 t218 w0 _ ?side1 ?side2 A9.out).mono ?_); (case side1 => repeat ((with_reducible first | exact HI0.out | apply IsS99.drewN | apply IsS99.set_1))); (case side2 => repeat ((with_reducible first | exact HB.out | apply pw_below_drewN | refine below_set ?_ (IsS99.ge HI0.out)))); rintro e w19 ⟨rfl, hi, hb, hk⟩; have n0_ := Aside0.mk (Kd.R_mono (Kd.R_keep (IsS99.apart (show IsS99 w0 _ g x1000_1 (wrap64 (x1001_1 + 1)) x1002_1 from by repeat ((with_reducible first | exact HI0.out | apply IsS99.drewN | apply IsS99.set_1))) (by (with_reducible repeat (first | fail)); exact (Kd.R_mono (Kd.R_far (p := ⟨g, 1, none⟩) (IsS99.apart HI0.out HO_3.out (by decide)) (fun _ hk => hk.2) (.int .i64 (wrap64 (x1001_1 + 1)))) (fun _ h_ => h_.1))) (by decide)) hk (fun _ h => h.2)) (fun _ h => h.1)); have n1_ := Aside0.mk (KeepBut.trans (by repeat ((with_reducible first | exact HK.out | apply KeepBut.set_ | apply keep_drewN))) hk (.inl rfl)); have n2_ := Aside0.mk (hb); have n3_ := Aside0.mk (hi); clear HO_3; clear HK; clear HB; clear HI0; have HO_3 := n0_; have HK := n1_; have HB := n2_; have HI0 := n3_; clear n0_ n1_ n2_ n3_; (try clear hb); (try clear hk); (try clear hi)) | (go_at_call 79; (with_reducible refine (grammar_reader_takes.calls g t216 t217 t218 (⟨#[39]⟩ : ByteArray) true t223 t224 t225 w0 _ ?side1 ?side2 A15.out).mono ?_); (case side1 => exact HI0.out); (case side2 => exact HB.out); rintro e w20 ⟨rfl, hi, hb, hk⟩; have n0_ := Aside0.mk (Kd.R_mono (Kd.R_keep (IsS99.apart (show IsS99 w0 _ g t216 t217 t218 from by exact HI0.out) HO_3.out (by decide)) hk (fun _ h => h.2)) (fun _ h => h.1)); have n1_ := Aside0.mk (KeepBut.trans HK.out hk (.inl rfl)); have n2_ := Aside0.mk (hb); have n3_ := Aside0.mk (hi); clear HO_3; clear HK; clear HB; clear HI0; have HO_3 := n0_; have HK := n1_; have HB := n2_; have HI0 := n3_; clear n0_ n1_ n2_ n3_; (try clear hb); (try clear hk); (try clear hi)) | ((with_reducible refine gate_builtin (b := .append) (xs := #[.tmp 55, .tmp 56]) rfl ?_); at_builtin; refine Kd.R_append (Kd.int .u8) w.heap.size rfl (.tmp 55) (.tmp 56) 148 5 (.int .u8 0) 1 rfl Try.underlying148 info5 rfl (by decide) (by omega) u3 x3_1 39 [.int .u8 39] (fun _ => True) (fun _ => False) rfl rfl ?aP (fun _ hk => hk.elim) ?aF ?aO (Below.refl _ _) ?aS ?aL ?_; (case aP => exact rfl); (case aF => exact (fun _ _ => trivial)); (case aO => exact HO_3.out); (case aS => exact (keep_size (w := w) (g := g) (row := none) HK.out)); (case aL => have := LMc17.out; omega); intro v227 w21 ho hb hg hat; rw [← Ny226.out] at ho; have n0_ := Aside0.mk (IsS99.grown HI0.out hg (IsS99.own_ne HI0.out HO_3.out (by decide))); have n1_ := Aside0.mk (below_weaken HB.out HL.out hb); have n2_ := Aside0.mk (KeepBut.trans HK.out (KeepBut.of_grown hg g) (Kd.R_base2 HO_3.out)); have n3_ := Aside0.mk (ho); clear HI0; clear HB; clear HK; clear HO_3; have HI0 := n0_; have HB := n1_; have HK := n2_; have HO228 := n3_; clear n0_ n1_ n2_ n3_; clear ho hb hg hat)))
     go_roundg k1
     case measure => have := HK1.out; omega
     case rel => exact ⟨(y226), (t223), (t224), (t225), H', ⟨by have := HK1.out; omega⟩, ⟨HO228.out⟩, ⟨by exact HI0.out⟩, ⟨by exact HK.out⟩, ⟨by exact HB.out⟩⟩
   replace c16 := Bool.eq_false_iff.mpr c16
   subst c16
   rw [if_neg (show ¬ (false = true) by decide)] at H
   replace H := Option.bind_eq_some_iff.mp H
   obtain ⟨⟨t229, t230, t231, t232⟩, A220, H⟩ := H
   dsimp only at H
   have A22 := Aside0.mk A220
   clear A220
   by_cases c23 : t229 = true
   rotate_left
   · replace c23 := Bool.eq_false_iff.mpr c23
     subst c23
     rw [if_neg (show ¬ (false = true) by decide)] at H
     simp only [Option.some.injEq, Prod.mk.injEq] at H
     obtain ⟨rfl, rfl, rfl, rfl⟩ := H
     obtain ⟨HGz30, hgz30⟩ := HI0.out
     have hcz30_0 := cellS99_0 HGz30
     have hcz30_1 := cellS99_1 HGz30
     have hcz30_2 := cellS99_2 HGz30
     have hfz30_0 := blk_frozen HGz30 0
     have hfz30_1 := blk_frozen HGz30 1
     have hfz30_2 := blk_frozen HGz30 2
     clear HGz30 hgz30
     have p4 : 0 ≤ (x1001_1 : Int) := of_decide_eq_true (by assumption)
     have q4 : x1001_1 < (x1000_1.size : Int) := of_decide_eq_true (by assumption)
     have hx4 := bt_at x1000_1 x1001_1
     replace p4 := eq_true p4
     replace q4 := eq_true q4
     go_wp2_with (first | fail)
     repeat (go_quiet (first | fail); try go_wp2_with (first | (go_at_call 79; (with_reducible refine (grammar_reader_takes.calls g x1000_1 (wrap64 (x1001_1 + 1)) x1002_1 (⟨#[110]⟩ : ByteArray) false t216 t217 t218 w0 _ ?side1 ?side2 A9.out).mono ?_); (case side1 => repeat ((with_reducible first | exact HI0.out | apply IsS99.drewN | apply IsS99.set_1))); (case side2 => repeat ((with_reducible first | exact HB.out | apply pw_below_drewN | refine below_set ?_ (IsS99.ge HI0.out)))); rintro e w31 ⟨rfl, hi, hb, hk⟩; have n0_ := Aside0.mk (Kd.R_mono (Kd.R_keep (IsS99.apart (show IsS99 w0 _ g x1000_1 (wrap64 (x1001_1 + 1)) x1002_1 from by repeat ((with_reducible first | exact HI0.out | apply IsS99.drewN | apply IsS99.set_1))) (by (with_reducible repeat (first | fail)); exact (Kd.R_mono (Kd.R_far (p := ⟨g, 1, none⟩) (IsS99.apart HI0.out HO_3.out (by decide)) (fun _ hk => hk.2) (.int .i64 (wrap64 (x1001_1 + 1)))) (fun _ h_ => h_.1))) (by decide)) hk (fun _ h => h.2)) (fun _ h => h.1)); have n1_ := Aside0.mk (KeepBut.trans (by repeat ((with_reducible first | exact HK.out | apply KeepBut.set_ | apply keep_drewN))) hk (.inl rfl)); have n2_ := Aside0.mk (hb); have n3_ := Aside0.mk (hi); clear HO_3; clear HK; clear HB; clear HI0; have HO_3 := n0_; have HK := n1_; have HB := n2_; have HI0 := n3_; clear n0_ n1_ n2_ n3_; (try clear hb); (try clear hk); (try clear hi)) | (go_at_call 79; (with_reducible refine (grammar_reader_takes.calls g t216 t217 t218 (⟨#[39]⟩ : ByteArray) false t223 t224 t225 w0 _ ?side1 ?side2 A15.out).mono ?_); (case side1 => exact HI0.out); (case side2 => exact HB.out); rintro e w32 ⟨rfl, hi, hb, hk⟩; have n0_ := Aside0.mk (Kd.R_mono (Kd.R_keep (IsS99.apart (show IsS99 w0 _ g t216 t217 t218 from by exact HI0.out) HO_3.out (by decide)) hk (fun _ h => h.2)) (fun _ h => h.1)); have n1_ := Aside0.mk (KeepBut.trans HK.out hk (.inl rfl)); have n2_ := Aside0.mk (hb); have n3_ := Aside0.mk (hi); clear HO_3; clear HK; clear HB; clear HI0; have HO_3 := n0_; have HK := n1_; have HB := n2_; have HI0 := n3_; clear n0_ n1_ n2_ n3_; (try clear hb); (try clear hk); (try clear hi)) | (go_at_call 79; (with_reducible refine (grammar_reader_takes.calls g t223 t224 t225 (⟨#[92]⟩ : ByteArray) false t230 t231 t232 w0 _ ?side1 ?side2 A22.out).mono ?_); (case side1 => exact HI0.out); (case side2 => exact HB.out); rintro e w33 ⟨rfl, hi, hb, hk⟩; have n0_ := Aside0.mk (Kd.R_mono (Kd.R_keep (IsS99.apart (show IsS99 w0 _ g t223 t224 t225 from by exact HI0.out) HO_3.out (by decide)) hk (fun _ h => h.2)) (fun _ h => h.1)); have n1_ := Aside0.mk (KeepBut.trans HK.out hk (.inl rfl)); have n2_ := Aside0.mk (hb); have n3_ := Aside0.mk (hi); clear HO_3; clear HK; clear HB; clear HI0; have HO_3 := n0_; have HK := n1_; have HB := n2_; have HI0 := n3_; clear n0_ n1_ n2_ n3_; (try clear hb); (try clear hk); (try clear hi); obtain ⟨HGz34, hgz34⟩ := HI0.out; have hcz34_0 := cellS99_0 HGz34; have hcz34_1 := cellS99_1 HGz34; have hcz34_2 := cellS99_2 HGz34; have hfz34_0 := blk_frozen HGz34 0; have hfz34_1 := blk_frozen HGz34 1; have hfz34_2 := blk_frozen HGz34 2; clear HGz34 hgz34)))
     go_ret
     exact ⟨by first | rfl, by repeat ((with_reducible first | exact HI0.out | apply IsS99.set_2)), by repeat ((with_reducible first | exact HB.out | refine below_set ?_ (IsS99.ge HI0.out))), by repeat ((with_reducible first | exact HK.out | apply KeepBut.set_))⟩
   subst c23
   rw [if_pos rfl] at H
   obtain ⟨c24, H⟩ := gd H
   have LMc24 := Aside0.mk c24
   clear c24
   obtain ⟨y233, hy233⟩ : ∃ y_ : List Int, y_ = (x3_1 ++ [92]) := ⟨_, rfl⟩
   replace H : (grammar_reader_atom.l0 k1 y233 t230 t231 t232) = some (r1, r2, r3, r4) := by (rw [hy233]; with_reducible exact H)
   have Ny233 := Aside0.mk hy233
   clear hy233
   have H' := Aside0.mk H
   clear H
   obtain ⟨HGz25, hgz25⟩ := HI0.out
   have hcz25_0 := cellS99_0 HGz25
   have hcz25_1 := cellS99_1 HGz25
   have hcz25_2 := cellS99_2 HGz25
   have hfz25_0 := blk_frozen HGz25 0
   have hfz25_1 := blk_frozen HGz25 1
   have hfz25_2 := blk_frozen HGz25 2
   clear HGz25 hgz25
   have p4 : 0 ≤ (x1001_1 : Int) := of_decide_eq_true (by assumption)
   have q4 : x1001_1 < (x1000_1.size : Int) := of_decide_eq_true (by assumption)
   have hx4 := bt_at x1000_1 x1001_1
   replace p4 := eq_true p4
   replace q4 := eq_true q4
   go_wp2_with (first | fail)
   repeat (go_quiet (first | fail); try go_wp2_with (first | (go_at_call 79; (with_reducible refine (grammar_reader_takes.calls g x1000_1 (wrap64 (x1001_1 + 1)) x1002_1 (⟨#[110]⟩ : ByteArray) false t216 t217 t218 w0 _ ?side1 ?side2 A9.out).mono ?_); (case side1 => repeat ((with_reducible first | exact HI0.out | apply IsS99.drewN | apply IsS99.set_1))); (case side2 => repeat ((with_reducible first | exact HB.out | apply pw_below_drewN | refine below_set ?_ (IsS99.ge HI0.out)))); rintro e w26 ⟨rfl, hi, hb, hk⟩; have n0_ := Aside0.mk (Kd.R_mono (Kd.R_keep (IsS99.apart (show IsS99 w0 _ g x1000_1 (wrap64 (x1001_1 + 1)) x1002_1 from by repeat ((with_reducible first | exact HI0.out | apply IsS99.drewN | apply IsS99.set_1))) (by (with_reducible repeat (first | fail)); exact (Kd.R_mono (Kd.R_far (p := ⟨g, 1, none⟩) (IsS99.apart HI0.out HO_3.out (by decide)) (fun _ hk => hk.2) (.int .i64 (wrap64 (x1001_1 + 1)))) (fun _ h_ => h_.1))) (by decide)) hk (fun _ h => h.2)) (fun _ h => h.1)); have n1_ := Aside0.mk (KeepBut.trans (by repeat ((with_reducible first | exact HK.out | apply KeepBut.set_ | apply keep_drewN))) hk (.inl rfl)); have n2_ := Aside0.mk (hb); have n3_ := Aside0.mk (hi); clear HO_3; clear HK; clear HB; clear HI0; have HO_3 := n0_; have HK := n1_; have HB := n2_; have HI0 := n3_; clear n0_ n1_ n2_ n3_; (try clear hb); (try clear hk); (try clear hi)) | (go_at_call 79; (with_reducible refine (grammar_reader_takes.calls g t216 t217 t218 (⟨#[39]⟩ : ByteArray) false t223 t224 t225 w0 _ ?side1 ?side2 A15.out).mono ?_); (case side1 => exact HI0.out); (case side2 => exact HB.out); rintro e w27 ⟨rfl, hi, hb, hk⟩; have n0_ := Aside0.mk (Kd.R_mono (Kd.R_keep (IsS99.apart (show IsS99 w0 _ g t216 t217 t218 from by exact HI0.out) HO_3.out (by decide)) hk (fun _ h => h.2)) (fun _ h => h.1)); have n1_ := Aside0.mk (KeepBut.trans HK.out hk (.inl rfl)); have n2_ := Aside0.mk (hb); have n3_ := Aside0.mk (hi); clear HO_3; clear HK; clear HB; clear HI0; have HO_3 := n0_; have HK := n1_; have HB := n2_; have HI0 := n3_; clear n0_ n1_ n2_ n3_; (try clear hb); (try clear hk); (try clear hi)) | (go_at_call 79; (with_reducible refine (grammar_reader_takes.calls g t223 t224 t225 (⟨#[92]⟩ : ByteArray) true t230 t231 t232 w0 _ ?side1 ?side2 A22.out).mono ?_); (case side1 => exact HI0.out); (case side2 => exact HB.out); rintro e w28 ⟨rfl, hi, hb, hk⟩; have n0_ := Aside0.mk (Kd.R_mono (Kd.R_keep (IsS99.apart (show IsS99 w0 _ g t223 t224 t225 from by exact HI0.out) HO_3.out (by decide)) hk (fun _ h => h.2)) (fun _ h => h.1)); have n1_ := Aside0.mk (KeepBut.trans HK.out hk (.inl rfl)); have n2_ := Aside0.mk (hb); have n3_ := Aside0.mk (hi); clear HO_3; clear HK; clear HB; clear HI0; have HO_3 := n0_; have HK := n1_; have HB := n2_; have HI0 := n3_; clear n0_ n1_ n2_ n3_; (try clear hb); (try clear hk); (try clear hi)) | ((with_reducible refine gate_builtin (b := .append) (xs := #[.tmp 61, .tmp 62]) rfl ?_); at_builtin; refine Kd.R_append (Kd.int .u8) w.heap.size rfl (.tmp 61) (.tmp 62) 148 5 (.int .u8 0) 1 rfl Try.underlying148 info5 rfl (by decide) (by omega) u3 x3_1 92 [.int .u8 92] (fun _ => True) (fun _ => False) rfl rfl ?aP (fun _ hk => hk.elim) ?aF ?aO (Below.refl _ _) ?aS ?aL ?_; (case aP => exact rfl); (case aF => exact (fun _ _ => trivial)); (case aO => exact HO_3.out); (case aS => exact (keep_size (w := w) (g := g) (row := none) HK.out)); (case aL => have := LMc24.out; omega); intro v234 w29 ho hb hg hat; rw [← Ny233.out] at ho; have n0_ := Aside0.mk (IsS99.grown HI0.out hg (IsS99.own_ne HI0.out HO_3.out (by decide))); have n1_ := Aside0.mk (below_weaken HB.out HL.out hb); have n2_ := Aside0.mk (KeepBut.trans HK.out (KeepBut.of_grown hg g) (Kd.R_base2 HO_3.out)); have n3_ := Aside0.mk (ho); clear HI0; clear HB; clear HK; clear HO_3; have HI0 := n0_; have HB := n1_; have HK := n2_; have HO235 := n3_; clear n0_ n1_ n2_ n3_; clear ho hb hg hat)))
   go_roundg k1
   case measure => have := HK1.out; omega
   case rel => exact ⟨(y233), (t230), (t231), (t232), H', ⟨by have := HK1.out; omega⟩, ⟨HO235.out⟩, ⟨by exact HI0.out⟩, ⟨by exact HK.out⟩, ⟨by exact HB.out⟩⟩
end Go.Proofs.Ytcnllhnhinmokaa.PHGr
end
