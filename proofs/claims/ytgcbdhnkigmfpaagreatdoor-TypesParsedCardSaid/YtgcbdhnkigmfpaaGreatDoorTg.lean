/-
  Types: slices.Clone; the function that looks a category up.
-/
import Derived.Test.YtgcbdhnkigmfpaaGreatDoorTf
namespace Go.V.Ty
open Go.Proofs Go.RowKit Go.V.Lx Go.V.Gr
set_option linter.unusedSimpArgs false
set_option linter.unusedVariables false
set_option maxRecDepth 100000

/-- what slices.Clone hands back: a slice of one's own -/
def Cloned (B sz el : Nat) (l : List D) (bx : Bxs) (d : D) (bx' : Bxs) : Prop :=
  ((l = [] ∧ OwnV bx' [B + 5] el sz d []) ∨ (l ≠ [] ∧ ∃ e, d = .osl (B + 7) e sz 0 l.length ∧ bx' (B + 7) = ⟨e, 1, sz, el, l⟩)) ∧ ∀ s, s < B → bx' s = bx s
theorem Cloned.keep {B sz el : Nat} {l : List D} {bx bx' : Bxs} {d : D} (h : Cloned B sz el l bx d bx') : ∀ s, s < B → bx' s = bx s := h.2
theorem Cloned.own {B sz el : Nat} {l : List D} {bx bx' : Bxs} {d : D} (h : Cloned B sz el l bx d bx') (hl : l ≠ []) : ∃ e, d = .osl (B + 7) e sz 0 l.length ∧ bx' (B + 7) = ⟨e, 1, sz, el, l⟩ := by
  rcases h.1 with h | h
  · exact (hl h.1).elim
  · exact h.2
theorem Cloned.none {B sz el : Nat} {bx bx' : Bxs} {d : D} (h : Cloned B sz el [] bx d bx') : OwnV bx' [B + 5] el sz d [] := by
  rcases h.1 with h | h
  · exact h.2
  · exact (h.1 rfl).elim
theorem cloneP_c (B : Nat) (l : List Part) (hl : l.length ≤ 65536) (bx : Bxs) : CallsB Tryz.prog 24 0 [.sl 3 (l.map Part.d)] bx (Cloned B 3 46 (l.map Part.d) bx) (fun _ _ => False) := by
  refine fnB_calls (fn := Tryz.f24) (tab := [(1000005, [])]) (base := B) mixed ?_ rfl (by kernel_rfl) rfl
  refine fnB_intro _ [.tmp 2] 8 rfl rfl rfl (by kernel_rfl) ?_
  cases l with
  | nil =>
    simp (maxSteps := 1000000) (disch := omega) only [go_sem, List.map_nil, List.isEmpty_nil]
    refine ⟨⟨.inl ⟨rfl, .nil _ _ _ _⟩, fun _ _ => rfl⟩, ?_⟩
    refine append_none (ts := [B + 5]) (xs := []) (.inr ⟨B + 5, (bx (B + 5)).ep + 1, by simp, rfl, by simp [upd]⟩) ?_
    simp (maxSteps := 1000000) (disch := omega) only [go_sem]
    exact ⟨.inl ⟨rfl, .inr ⟨B + 5, (bx (B + 5)).ep + 1, by simp, rfl, by simp [upd]⟩⟩, fun s hs => by simp (disch := omega) only [upd_ne, if_neg]⟩
  | cons x l =>
    simp only [List.length_cons] at hl
    simp (maxSteps := 1000000) (disch := omega) only [go_sem, List.map_cons, List.isEmpty_cons]
    refine append_own (ts := [B + 5]) (xs := []) (.inr ⟨B + 5, (bx (B + 5)).ep + 1, by simp, rfl, by simp [upd]⟩) (by simp) (by simp [go_sem]) (by simp; omega) (by omega) (by omega) (by simp) fun e' bx' h1 h2 => ?_
    simp (maxSteps := 1000000) (disch := omega) only [go_sem]
    refine ⟨.inr ⟨by simp, e', by simp, by simpa using h1⟩, fun s hs => ?_⟩
    rw [h2 s (by omega) (by simp; omega)]
    simp (disch := omega) only [upd_ne, if_neg]
theorem cloneE_c (B : Nat) (l : List Entry) (hl : l.length ≤ 65536) (bx : Bxs) : CallsB Tryz.prog 22 0 [.sl 5 (l.map Entry.d)] bx (Cloned B 5 44 (l.map Entry.d) bx) (fun _ _ => False) := by
  refine fnB_calls (fn := Tryz.f22) (tab := [(1000005, [])]) (base := B) mixed ?_ rfl (by kernel_rfl) rfl
  refine fnB_intro _ [.tmp 2] 8 rfl rfl rfl (by kernel_rfl) ?_
  cases l with
  | nil =>
    simp (maxSteps := 1000000) (disch := omega) only [go_sem, List.map_nil, List.isEmpty_nil]
    refine ⟨⟨.inl ⟨rfl, .nil _ _ _ _⟩, fun _ _ => rfl⟩, ?_⟩
    refine append_none (ts := [B + 5]) (xs := []) (.inr ⟨B + 5, (bx (B + 5)).ep + 1, by simp, rfl, by simp [upd]⟩) ?_
    simp (maxSteps := 1000000) (disch := omega) only [go_sem]
    exact ⟨.inl ⟨rfl, .inr ⟨B + 5, (bx (B + 5)).ep + 1, by simp, rfl, by simp [upd]⟩⟩, fun s hs => by simp (disch := omega) only [upd_ne, if_neg]⟩
  | cons x l =>
    simp only [List.length_cons] at hl
    simp (maxSteps := 1000000) (disch := omega) only [go_sem, List.map_cons, List.isEmpty_cons]
    refine append_own (ts := [B + 5]) (xs := []) (.inr ⟨B + 5, (bx (B + 5)).ep + 1, by simp, rfl, by simp [upd]⟩) (by simp) (by simp [go_sem]) (by simp; omega) (by omega) (by omega) (by simp) fun e' bx' h1 h2 => ?_
    simp (maxSteps := 1000000) (disch := omega) only [go_sem]
    refine ⟨.inr ⟨by simp, e', by simp, by simpa using h1⟩, fun s hs => ?_⟩
    rw [h2 s (by omega) (by simp; omega)]
    simp (disch := omega) only [upd_ne, if_neg]
theorem cloneR_c (B : Nat) (l : List Rule) (hl : l.length ≤ 65536) (bx : Bxs) : CallsB Tryz.prog 23 0 [.sl 5 (l.map Rule.d)] bx (Cloned B 5 42 (l.map Rule.d) bx) (fun _ _ => False) := by
  refine fnB_calls (fn := Tryz.f23) (tab := [(1000005, [])]) (base := B) mixed ?_ rfl (by kernel_rfl) rfl
  refine fnB_intro _ [.tmp 2] 8 rfl rfl rfl (by kernel_rfl) ?_
  cases l with
  | nil =>
    simp (maxSteps := 1000000) (disch := omega) only [go_sem, List.map_nil, List.isEmpty_nil]
    refine ⟨⟨.inl ⟨rfl, .nil _ _ _ _⟩, fun _ _ => rfl⟩, ?_⟩
    refine append_none (ts := [B + 5]) (xs := []) (.inr ⟨B + 5, (bx (B + 5)).ep + 1, by simp, rfl, by simp [upd]⟩) ?_
    simp (maxSteps := 1000000) (disch := omega) only [go_sem]
    exact ⟨.inl ⟨rfl, .inr ⟨B + 5, (bx (B + 5)).ep + 1, by simp, rfl, by simp [upd]⟩⟩, fun s hs => by simp (disch := omega) only [upd_ne, if_neg]⟩
  | cons x l =>
    simp only [List.length_cons] at hl
    simp (maxSteps := 1000000) (disch := omega) only [go_sem, List.map_cons, List.isEmpty_cons]
    refine append_own (ts := [B + 5]) (xs := []) (.inr ⟨B + 5, (bx (B + 5)).ep + 1, by simp, rfl, by simp [upd]⟩) (by simp) (by simp [go_sem]) (by simp; omega) (by omega) (by omega) (by simp) fun e' bx' h1 h2 => ?_
    simp (maxSteps := 1000000) (disch := omega) only [go_sem]
    refine ⟨.inr ⟨by simp, e', by simp, by simpa using h1⟩, fun s hs => ?_⟩
    rw [h2 s (by omega) (by simp; omega)]
    simp (disch := omega) only [upd_ne, if_neg]

/-- the indices of categories, as the map holds them -/
def idxM (l : List (Str × Nat)) : PM := l.map fun p => (p.1, .int .i64 (p.2 : Int), (p.2 : Int))
/-- a category's index -/
def num (l : List Str) (s : Str) : Int := if l.contains s then (l.idxOf s : Int) else 0
theorem not_take {l : List Str} (hn : l.Nodup) {j : Nat} {c : Str} (h : l[j]? = some c) : c ∉ l.take j := by
  intro hm
  obtain ⟨i, hi, hc⟩ := List.mem_iff_getElem.1 hm
  obtain ⟨hj, hj2⟩ := List.getElem?_eq_some_iff.1 h
  rw [List.getElem_take] at hc
  simp at hi
  have := (List.getElem_inj hn).1 (hc.trans hj2.symm)
  omega
theorem findI (l : List Str) (hn : l.Nodup) (s : Str) : ∃ r, findM .str (.str s) (encM (idxM l.zipIdx)) 0 = some r ∧ ((r = none ∧ l.contains s = false ∧ num l s = 0) ∨ ∃ j, r = some (j, .int .i64 (num l s)) ∧ l.contains s = true) := by
  rcases findM_or s (idxM l.zipIdx) 0 with ⟨h1, h2⟩ | ⟨j, e, h1, h2, h3⟩
  · have hs : l.contains s = false := by
      rw [Bool.eq_false_iff, Ne, List.contains_iff_mem]
      intro hm
      obtain ⟨i, hi⟩ := List.mem_iff_getElem?.1 hm
      refine h2 (s, .int .i64 (i : Int), (i : Int)) (List.mem_map.2 ⟨(s, i), ?_, rfl⟩) rfl
      exact List.mem_of_getElem? (i := i) (by rw [List.getElem?_zipIdx, hi]; simp)
    exact ⟨none, h1, .inl ⟨rfl, hs, by unfold num; rw [hs]; rfl⟩⟩
  · simp only [idxM, List.getElem?_map, List.getElem?_zipIdx, Option.map_map, Option.map_eq_some_iff] at h2
    obtain ⟨c, hc, rfl⟩ := h2
    simp only [Function.comp, Nat.zero_add] at h1 h3
    subst h3
    have hm : l.contains c = true := List.contains_iff_mem.2 (List.mem_of_getElem? hc)
    have hi : l.idxOf c = j := (idx_at l j c hc (not_take hn hc)).1
    exact ⟨_, h1, .inr ⟨j, by simp only [num, hm, if_true, hi, Nat.zero_add], hm⟩⟩
theorem find_p {e e2 t t2 s2 : Nat} {n : Int} {l : List Str} {bx0 : Bxs} (hn : l.Nodup) (h4 : bx0 4 = ⟨e, 1, 1, t, [.omap 29 e2]⟩) (h29 : bx0 29 = ⟨e2, 3, s2, t2, .int .i64 n :: encM (idxM l.zipIdx)⟩) :
    FindB 19 [.loc 4 e 0 0] 30 bx0 l.contains := by
  intro bx s hb hs
  refine fnB_calls (fn := Tryz.f19) (tab := []) (base := 100000) mixed ?_ rfl (by kernel_rfl) rfl
  refine fnB_intro _ [.tmp 3, .tmp 4] 15 rfl rfl rfl (by kernel_rfl) ?_
  have g4 := (hb 4 (by omega)).trans h4
  have g29 := (hb 29 (by omega)).trans h29
  obtain ⟨r, hr, ⟨rfl, hc, _⟩ | ⟨j, rfl, hc⟩⟩ := findI l hn s
  · simp (maxSteps := 1000000) (disch := omega) only [go_sem, g4, g29, hr]
    exact ⟨⟨_, by rw [hc]⟩, fun _ _ => trivial⟩
  · simp (maxSteps := 1000000) (disch := omega) only [go_sem, g4, g29, hr]
    exact ⟨⟨_, by rw [hc]⟩, fun _ _ => trivial⟩
end Go.V.Ty
