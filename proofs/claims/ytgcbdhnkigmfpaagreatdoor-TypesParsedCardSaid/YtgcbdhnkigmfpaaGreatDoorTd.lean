/-
  Types: typed.
-/
import Derived.Test.YtgcbdhnkigmfpaaGreatDoorTc
namespace Go.V.Ty
open Go.Proofs Go.RowKit Go.V.Lx Go.V.Gr
set_option linter.unusedSimpArgs false
set_option linter.unusedVariables false
set_option maxRecDepth 100000

def typedB (p : Str → Bool) (g : Gram) : Bool := freeB g.name && (decide (0 < g.cats.length) && (g.cats.all freeB && (p g.start && (g.entries.all (entryB p) && g.rules.all (ruleB p)))))
theorem typed_c {f : FuncId} {caps : List D} {n0 : Nat} {p : Str → Bool} (g : Gram) (hg : SmG g) (bx : Bxs) (hf : FindB f caps n0 bx p) (hn : n0 ≤ 200) :
    CallsB Tryz.prog 20 0 [g.d, .fn (.func f) caps] bx (fun d bx' => d = .bool (typedB p g) ∧ ∀ s, s < 200 → bx' s = bx s) (fun _ _ => False) := by
  refine fnB_calls (fn := Tryz.f20) (tab := []) (base := 200) mixed ?_ rfl (by kernel_rfl) rfl
  refine fnB_intro _ [.tmp 4] 48 rfl rfl rfl (by kernel_rfl) ?_
  simp (maxSteps := 1000000) (disch := omega) only [go_sem, Gram.d, strs]
  generalize hB : upd (upd (upd (upd (upd (upd bx 202 _) 203 _) 205 _) 205 _) 207 _) 207 _ = B
  have keep : ∀ s, s < 200 → B s = bx s := fun s hs => by rw [← hB]; simp (disch := omega) only [upd_ne]
  have b2 : B 202 = ⟨(bx 202).ep + 1, 1, 6, 26, [g.d]⟩ := by rw [← hB]; simp [upd, Gram.d, strs]
  have b3 : B 203 = ⟨(bx 203).ep + 1, 1, 1, 60, [.fn (.func f) caps]⟩ := by rw [← hB]; simp [upd]
  have b5 : B 205 = ⟨(bx 205).ep + 1, 1, 1, 98, [.fn (.func 53) [.loc 203 ((bx 203).ep + 1) 0 0]]⟩ := by rw [← hB]; simp [upd]
  have b7 : B 207 = ⟨(bx 207).ep + 1, 1, 1, 102, [.fn (.func 58) [.loc 205 ((bx 205).ep + 1) 0 0]]⟩ := by rw [← hB]; simp [upd]
  have hf' : FindB f caps n0 B p := fun b s hb hs => hf b s (fun q hq => (hb q hq).trans (keep q (by omega))) hs
  have hcat := cat_p hf' hn b3
  have fin : ∀ (b : Bool) (B' : Bxs), b = typedB p g → (∀ s, s < 200 → B' s = B s) → D.bool b = .bool (typedB p g) ∧ ∀ s, s < 200 → B' s = bx s := fun b B' h h' => ⟨by rw [h], fun s hs => (h' s hs).trans (keep s hs)⟩
  refine call_pure (free_c g.name hg.name) (by simp [go_sem]) ?_
  cases h1 : freeB g.name
  · simp (maxSteps := 1000000) (disch := omega) only [go_sem, h1]
    exact fin false B (by simp [typedB, h1]) (fun _ _ => rfl)
  simp (maxSteps := 1000000) (disch := omega) only [go_sem, h1, b2, Gram.d, strs]
  refine condD_dec (fun h2 => ?_) (fun h2 => ?_)
  rotate_left
  · simp (maxSteps := 1000000) (disch := omega) only [go_sem, h2, decide_false]
    exact fin false B (by simp [typedB, h1]; omega) (fun _ _ => rfl)
  have h2' : 0 < g.cats.length := by omega
  simp (maxSteps := 1000000) (disch := omega) only [go_sem, h2, decide_true, b2, Gram.d, strs]
  refine call_pure (allFree_c g.cats hg.clen hg.cats) (by simp [go_sem, pureL_strs]) ?_
  cases h3 : g.cats.all freeB
  · simp (maxSteps := 1000000) (disch := omega) only [go_sem, h2, decide_true, h3]
    exact fin false B (by simp only [typedB, h1, h3, Bool.false_and, Bool.and_false]) (fun _ _ => rfl)
  simp (maxSteps := 1000000) (disch := omega) only [go_sem, h2, decide_true, h3, b5, b2, Gram.d, strs]
  refine call_boxes (hcat B g.start (fun _ _ => rfl) hg.start) rfl ?_
  rintro d B1 ⟨rfl, hk1⟩
  cases h4 : p g.start
  · simp (maxSteps := 1000000) (disch := omega) only [go_sem, h4]
    exact fin false B1 (by simp only [typedB, h1, h3, h4, Bool.false_and, Bool.and_false]) (fun s hs => hk1 s (by omega))
  have c2 := (hk1 202 (by omega)).trans b2
  simp (maxSteps := 1000000) (disch := omega) only [go_sem, h4, c2, Gram.d, strs]
  refine call_boxes (allE_c 250 (entry_p hcat (by omega) b5) (by omega) (by omega) g.entries hg.elen hg.ents B1 (fun s hs => hk1 s (by omega))) rfl ?_
  rintro d B2 ⟨rfl, hk2⟩
  cases h5 : g.entries.all (entryB p)
  · simp (maxSteps := 1000000) (disch := omega) only [go_sem, h5]
    exact fin false B2 (by simp only [typedB, h1, h3, h4, h5, Bool.false_and, Bool.and_false]) (fun s hs => (hk2 s (by omega)).trans (hk1 s (by omega)))
  replace c2 := (hk2 202 (by omega)).trans c2
  simp (maxSteps := 1000000) (disch := omega) only [go_sem, h5, c2, Gram.d, strs]
  refine call_boxes (allR_c 300 (rule_p hcat (by omega) b5 b7) (by omega) (by omega) g.rules hg.rlen hg.rules B2 (fun s hs => (hk2 s (by omega)).trans (hk1 s (by omega)))) rfl ?_
  rintro d B3 ⟨rfl, hk3⟩
  simp (maxSteps := 1000000) (disch := omega) only [go_sem]
  refine fin (g.rules.all (ruleB p)) B3 ?_ (fun s hs => (hk3 s (by omega)).trans ((hk2 s (by omega)).trans (hk1 s (by omega))))
  simp only [typedB, h1, h2', h3, h4, h5, decide_true, Bool.true_and]
end Go.V.Ty
