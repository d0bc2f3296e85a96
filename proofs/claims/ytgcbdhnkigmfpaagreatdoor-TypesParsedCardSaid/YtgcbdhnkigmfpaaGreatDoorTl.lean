/-
  Types: the examples with which the statements begin.
-/
import Derived.Test.YtgcbdhnkigmfpaaGreatDoorTk
namespace Go.V.Ty
open Go.Proofs Go.RowKit Go.V.Lx Go.V.Gr
set_option linter.unusedSimpArgs false
set_option linter.unusedVariables false
set_option maxRecDepth 100000

def sN : Str := [110]
def sS : Str := [115]
def chainR (a b : Str) : Rule := ⟨a, 0, [⟨b, 0, []⟩], [⟨0, []⟩], 0⟩
def exR : Rule := ⟨sS, 0, [⟨sN, 0, []⟩, ⟨[], 0, [117, 110, 100]⟩, ⟨sN, 0, []⟩], [⟨2, []⟩, ⟨0, [97, 110, 100]⟩, ⟨0, []⟩], 3⟩
def exE : Entry := ⟨[104, 117, 110, 100], sN, 0, [[100, 111, 103]], 0⟩
def german : Str := [103, 101, 114, 109, 97, 110]
def exG : Gram := ⟨german, [sN, sS], sS, 0, [exE], [exR, chainR sS sN]⟩
def leftG : Gram := { exG with rules := [{ exR with gives := exR.gives.take 2 }, chainR sS sN] }
def wordG : Gram := { exG with entries := [{ exE with text := wWord }] }
def circleG : Gram := { exG with rules := [exR, chainR sS sN, chainR sN sN] }
def largeG : Gram := { exG with cats := List.replicate 33 [] }
def oneG : Gram := ⟨german, [sS], sS, 0, [], []⟩
theorem r_ex : resolveL exG = (setG exG, 0) := by decide +kernel
theorem r_left : resolveL leftG = (.zero, 260) := by decide +kernel
theorem r_word : resolveL wordG = (.zero, 260) := by decide +kernel
theorem r_circle : resolveL circleG = (.zero, 261) := by decide +kernel
theorem r_large : resolveL largeG = (.zero, 2) := by decide +kernel
theorem r_zero : resolveL .zero = (.zero, 260) := by decide +kernel
theorem k_one : checkL oneG = 0 := by decide +kernel
theorem k_set : checkL (setG exG) = 0 := by decide +kernel
theorem k_ex : checkL exG = 260 := by decide +kernel
theorem chain_c (a b : Str) : CallsTo Tryz.prog 12 [.str a, .str b] (chainR a b).d := by
  refine fn_calls mixed (fn := Tryz.f12) (tab := []) ?_ rfl (by kernel_rfl) rfl
  refine fn_intro _ [.cell 4 42] _ rfl rfl rfl (by kernel_rfl) ?_
  simp (maxSteps := 1000000) (disch := omega) only [go_sem]
  exact .refl _
theorem exG_c : CallsTo Tryz.prog 11 [] exG.d := by
  refine fn_calls mixed (fn := Tryz.f11) (tab := [(2, [(8, 7), (8, 5), (8, 4), (7, 4), (5, 4), (8, 3), (7, 3), (5, 3), (4, 3), (8, 2), (7, 2), (5, 2)])]) ?_ rfl (by kernel_rfl) rfl
  refine fn_intro _ [.cell 0 26] _ rfl rfl rfl (by kernel_rfl) ?_
  simp (maxSteps := 1000000) (disch := omega) only [go_sem]
  refine call_pure (chain_c sS sN) (by simp [go_sem]) ?_
  simp (maxSteps := 1000000) (disch := omega) only [go_sem, chainR, Rule.d, Part.d, Give.d, List.map_cons, List.map_nil]
  exact .refl _
/-- the same, whose words and rules may be written -/
def exO (B e1 e2 : Nat) : D := .agg [.str german, .sl 1 [.str sN, .str sS], .str sS, .int .i64 0, .osl (B + 14) e1 5 0 1, .osl (B + 17) e2 5 0 2]
set_option maxHeartbeats 4000000 in
theorem exO300_c (bx : Bxs) : CallsB Tryz.prog 11 0 [] bx (fun d bx' => ∃ e1 e2, d = exO 300 e1 e2 ∧ bx' 314 = ⟨e1, 1, 5, 44, [exE.d]⟩ ∧ bx' 317 = ⟨e2, 1, 5, 42, [exR.d, (chainR sS sN).d]⟩ ∧ ∀ s, s < 300 → bx' s = bx s) (fun _ _ => False) := by
  refine fnB_calls (fn := Tryz.f11) (tab := [(1000014, []), (1000017, []), (2, [(8, 7), (8, 5), (8, 4), (7, 4), (5, 4), (8, 3), (7, 3), (5, 3), (4, 3), (8, 2), (7, 2), (5, 2)])]) (base := 300) mixed ?_ rfl (by kernel_rfl) rfl
  refine fnB_intro _ [.cell 0 26] 19 rfl rfl rfl (by kernel_rfl) ?_
  simp (maxSteps := 1000000) (disch := omega) only [go_sem]
  refine call_pure (chain_c sS sN) (by simp [go_sem]) ?_
  simp (maxSteps := 1000000) (disch := omega) only [go_sem, chainR, Rule.d, Part.d, Give.d, List.map_cons, List.map_nil]
  exact ⟨_, _, rfl, rfl, rfl, fun s hs => by simp (disch := omega) only [if_neg]⟩
set_option maxHeartbeats 4000000 in
theorem exO340_c (bx : Bxs) : CallsB Tryz.prog 11 0 [] bx (fun d bx' => ∃ e1 e2, d = exO 340 e1 e2 ∧ bx' 354 = ⟨e1, 1, 5, 44, [exE.d]⟩ ∧ bx' 357 = ⟨e2, 1, 5, 42, [exR.d, (chainR sS sN).d]⟩ ∧ ∀ s, s < 340 → bx' s = bx s) (fun _ _ => False) := by
  refine fnB_calls (fn := Tryz.f11) (tab := [(1000014, []), (1000017, []), (2, [(8, 7), (8, 5), (8, 4), (7, 4), (5, 4), (8, 3), (7, 3), (5, 3), (4, 3), (8, 2), (7, 2), (5, 2)])]) (base := 340) mixed ?_ rfl (by kernel_rfl) rfl
  refine fnB_intro _ [.cell 0 26] 19 rfl rfl rfl (by kernel_rfl) ?_
  simp (maxSteps := 1000000) (disch := omega) only [go_sem]
  refine call_pure (chain_c sS sN) (by simp [go_sem]) ?_
  simp (maxSteps := 1000000) (disch := omega) only [go_sem, chainR, Rule.d, Part.d, Give.d, List.map_cons, List.map_nil]
  exact ⟨_, _, rfl, rfl, rfl, fun s hs => by simp (disch := omega) only [if_neg]⟩
set_option maxHeartbeats 4000000 in
theorem exO380_c (bx : Bxs) : CallsB Tryz.prog 11 0 [] bx (fun d bx' => ∃ e1 e2, d = exO 380 e1 e2 ∧ bx' 394 = ⟨e1, 1, 5, 44, [exE.d]⟩ ∧ bx' 397 = ⟨e2, 1, 5, 42, [exR.d, (chainR sS sN).d]⟩ ∧ ∀ s, s < 380 → bx' s = bx s) (fun _ _ => False) := by
  refine fnB_calls (fn := Tryz.f11) (tab := [(1000014, []), (1000017, []), (2, [(8, 7), (8, 5), (8, 4), (7, 4), (5, 4), (8, 3), (7, 3), (5, 3), (4, 3), (8, 2), (7, 2), (5, 2)])]) (base := 380) mixed ?_ rfl (by kernel_rfl) rfl
  refine fnB_intro _ [.cell 0 26] 19 rfl rfl rfl (by kernel_rfl) ?_
  simp (maxSteps := 1000000) (disch := omega) only [go_sem]
  refine call_pure (chain_c sS sN) (by simp [go_sem]) ?_
  simp (maxSteps := 1000000) (disch := omega) only [go_sem, chainR, Rule.d, Part.d, Give.d, List.map_cons, List.map_nil]
  exact ⟨_, _, rfl, rfl, rfl, fun s hs => by simp (disch := omega) only [if_neg]⟩
end Go.V.Ty
