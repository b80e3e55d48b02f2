/- No text of the translation starts a goroutine. -/
import Derived.Test.YtmkpkmijbpnjjaaGreatDoorCards
import Derived.KernelRfl
namespace Go.Proofs.YtmkpkmijbpnjjaaGreatDoor.fairBound
set_option maxRecDepth 100000
def stillOf (P : Program) (a n : Nat) : Bool := (List.range' a n).all fun i => !((P.funcs[i]?).any Func.goes)
theorem still_of {P : Program} {a n : Nat} (h : stillOf P a n = true) (i : Nat) (h1 : a ≤ i) (h2 : i < a + n) : (P.funcs[i]?).any Func.goes = false := by
  have := List.all_eq_true.1 h i (List.mem_range'_1.2 ⟨h1, h2⟩)
  simpa using this
theorem size_none {P : Program} {n : Nat} (hs : P.funcs.size = n) (i : Nat) (h : n ≤ i) : (P.funcs[i]?).any Func.goes = false := by
  have : P.funcs[i]? = none := Array.getElem?_eq_none (by rw [hs]; exact h)
  rw [this]
  rfl
theorem goes_of {P : Program} (hg : ∀ i : Nat, (P.funcs[i]?).any Func.goes = false) (s : String) : P.goesFrom s = false := by
  have no : ∀ f, P.goes f = false := by
    intro f
    unfold Program.goes
    have h1 : ((P.closure f).any fun g => (P.funcs[g]?).any Func.goes) = false := by
      simp only [hg]
      simp
    have h2 : P.funcs.any Func.goes = false := by
      rw [Array.any_eq_false]
      intro i hi
      have := hg i
      rw [Array.getElem?_eq_getElem hi] at this
      simpa using this
    rw [h1, h2]
    simp
  unfold Program.goesFrom
  cases P.funcNamed s with
  | none => rfl
  | some f => exact no f
theorem still_at {a n : Nat} (h : stillOf Tryz.prog a n = true) (i : Nat) (h1 : a ≤ i) (h2 : i < a + n) : (Tryz.prog.funcs[i]?).any Func.goes = false := still_of h i h1 h2
theorem size0 : Tryz.prog.funcs.size = 531 := by kernel_rfl
theorem still0 : stillOf Tryz.prog 0 20 = true := by kernel_rfl
theorem still20 : stillOf Tryz.prog 20 20 = true := by kernel_rfl
theorem still40 : stillOf Tryz.prog 40 20 = true := by kernel_rfl
theorem still60 : stillOf Tryz.prog 60 20 = true := by kernel_rfl
theorem still80 : stillOf Tryz.prog 80 20 = true := by kernel_rfl
theorem still100 : stillOf Tryz.prog 100 20 = true := by kernel_rfl
theorem still120 : stillOf Tryz.prog 120 20 = true := by kernel_rfl
theorem still140 : stillOf Tryz.prog 140 20 = true := by kernel_rfl
theorem still160 : stillOf Tryz.prog 160 20 = true := by kernel_rfl
theorem still180 : stillOf Tryz.prog 180 20 = true := by kernel_rfl
theorem still200 : stillOf Tryz.prog 200 20 = true := by kernel_rfl
theorem still220 : stillOf Tryz.prog 220 20 = true := by kernel_rfl
theorem still240 : stillOf Tryz.prog 240 20 = true := by kernel_rfl
theorem still260 : stillOf Tryz.prog 260 20 = true := by kernel_rfl
theorem still280 : stillOf Tryz.prog 280 20 = true := by kernel_rfl
theorem still300 : stillOf Tryz.prog 300 20 = true := by kernel_rfl
theorem still320 : stillOf Tryz.prog 320 20 = true := by kernel_rfl
theorem still340 : stillOf Tryz.prog 340 20 = true := by kernel_rfl
theorem still360 : stillOf Tryz.prog 360 20 = true := by kernel_rfl
theorem still380 : stillOf Tryz.prog 380 20 = true := by kernel_rfl
theorem still400 : stillOf Tryz.prog 400 20 = true := by kernel_rfl
theorem still420 : stillOf Tryz.prog 420 20 = true := by kernel_rfl
theorem still440 : stillOf Tryz.prog 440 20 = true := by kernel_rfl
theorem still460 : stillOf Tryz.prog 460 20 = true := by kernel_rfl
theorem still480 : stillOf Tryz.prog 480 20 = true := by kernel_rfl
theorem still500 : stillOf Tryz.prog 500 20 = true := by kernel_rfl
theorem still520 : stillOf Tryz.prog 520 11 = true := by kernel_rfl
theorem none_goes (i : Nat) : (Tryz.prog.funcs[i]?).any Func.goes = false := by
  rcases Nat.lt_or_ge i 531 with h | h
  · rcases Nat.lt_or_ge i 20 with h0 | h0
    · exact still_at still0 i (by omega) (by omega)
    rcases Nat.lt_or_ge i 40 with h20 | h20
    · exact still_at still20 i (by omega) (by omega)
    rcases Nat.lt_or_ge i 60 with h40 | h40
    · exact still_at still40 i (by omega) (by omega)
    rcases Nat.lt_or_ge i 80 with h60 | h60
    · exact still_at still60 i (by omega) (by omega)
    rcases Nat.lt_or_ge i 100 with h80 | h80
    · exact still_at still80 i (by omega) (by omega)
    rcases Nat.lt_or_ge i 120 with h100 | h100
    · exact still_at still100 i (by omega) (by omega)
    rcases Nat.lt_or_ge i 140 with h120 | h120
    · exact still_at still120 i (by omega) (by omega)
    rcases Nat.lt_or_ge i 160 with h140 | h140
    · exact still_at still140 i (by omega) (by omega)
    rcases Nat.lt_or_ge i 180 with h160 | h160
    · exact still_at still160 i (by omega) (by omega)
    rcases Nat.lt_or_ge i 200 with h180 | h180
    · exact still_at still180 i (by omega) (by omega)
    rcases Nat.lt_or_ge i 220 with h200 | h200
    · exact still_at still200 i (by omega) (by omega)
    rcases Nat.lt_or_ge i 240 with h220 | h220
    · exact still_at still220 i (by omega) (by omega)
    rcases Nat.lt_or_ge i 260 with h240 | h240
    · exact still_at still240 i (by omega) (by omega)
    rcases Nat.lt_or_ge i 280 with h260 | h260
    · exact still_at still260 i (by omega) (by omega)
    rcases Nat.lt_or_ge i 300 with h280 | h280
    · exact still_at still280 i (by omega) (by omega)
    rcases Nat.lt_or_ge i 320 with h300 | h300
    · exact still_at still300 i (by omega) (by omega)
    rcases Nat.lt_or_ge i 340 with h320 | h320
    · exact still_at still320 i (by omega) (by omega)
    rcases Nat.lt_or_ge i 360 with h340 | h340
    · exact still_at still340 i (by omega) (by omega)
    rcases Nat.lt_or_ge i 380 with h360 | h360
    · exact still_at still360 i (by omega) (by omega)
    rcases Nat.lt_or_ge i 400 with h380 | h380
    · exact still_at still380 i (by omega) (by omega)
    rcases Nat.lt_or_ge i 420 with h400 | h400
    · exact still_at still400 i (by omega) (by omega)
    rcases Nat.lt_or_ge i 440 with h420 | h420
    · exact still_at still420 i (by omega) (by omega)
    rcases Nat.lt_or_ge i 460 with h440 | h440
    · exact still_at still440 i (by omega) (by omega)
    rcases Nat.lt_or_ge i 480 with h460 | h460
    · exact still_at still460 i (by omega) (by omega)
    rcases Nat.lt_or_ge i 500 with h480 | h480
    · exact still_at still480 i (by omega) (by omega)
    rcases Nat.lt_or_ge i 520 with h500 | h500
    · exact still_at still500 i (by omega) (by omega)
    rcases Nat.lt_or_ge i 531 with h520 | h520
    · exact still_at still520 i (by omega) (by omega)
    omega
  · exact size_none size0 i h
theorem goes0 (s : String) : Tryz.prog.goesFrom s = false := goes_of none_goes s
end Go.Proofs.YtmkpkmijbpnjjaaGreatDoor.fairBound
