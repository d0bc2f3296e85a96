/-
  Types: free names, ranges, and what is well typed: the closures of typed.
-/
import Derived.Test.YtgcbdhnkigmfpaaGreatDoorTa
namespace Go.V.Ty
open Go.Proofs Go.RowKit Go.V.Lx Go.V.Gr
set_option linter.unusedSimpArgs false
set_option linter.unusedVariables false
set_option maxRecDepth 100000

abbrev BIG : Nat := 140737488355328
def freeB (s : Str) : Bool := nameB s && !words8.contains s
def sentence : Str := [103, 114, 97, 109, 109, 97, 114, 32, 99, 97, 116, 101, 103, 111, 114, 121, 32, 115, 116, 97, 114, 116, 32, 119, 111, 114, 100, 32, 105, 115, 32, 103, 105, 118, 101, 115, 32, 99, 111, 115, 116, 32, 114, 117, 108, 101]
theorem fields_words : Lib.fields sentence = words8 := by decide
theorem words_c' : CallsTo Tryz.prog 86 [.str sentence] (strs words8) := by
  have := fields_c sentence (by decide) (by decide)
  rw [fields_words] at this
  exact this
theorem free_d (s : Str) (hs : s.length ≤ 140737488355328) : fnD Tryz.prog (orac Tryz.prog) [] Tryz.f55 [.str s] (.bool (freeB s)) := by
  refine fn_intro _ [.tmp 2] 11 rfl rfl rfl (by kernel_rfl) ?_
  simp (maxSteps := 1000000) (disch := omega) only [go_sem]
  refine call_pure (name_c s hs) (by simp [go_sem]) ?_
  simp (maxSteps := 1000000) (disch := omega) only [go_sem]
  refine condD_split (fun h1 => ?_) (fun h1 => ?_)
  · simp (maxSteps := 1000000) (disch := omega) only [go_sem]
    refine call_pure words_c' (by simp [go_sem]) ?_
    simp (maxSteps := 1000000) (disch := omega) only [go_sem, h1]
    refine call_pure (contains_str words8 s (by decide)) (by simp [go_sem, strs, pureL_strs]) ?_
    simp (maxSteps := 1000000) (disch := omega) only [go_sem, h1]
    exact weak_eq (by simp [freeB, h1])
  · simp (maxSteps := 1000000) (disch := omega) only [go_sem, h1]
    exact weak_eq (by simp [freeB, h1])
theorem free_c (s : Str) (hs : s.length ≤ 140737488355328) : CallsTo Tryz.prog 55 [.str s] (.bool (freeB s)) := fn_calls mixed (free_d s hs) rfl (by kernel_rfl) rfl

def inB (a b n : Int) : Bool := decide (a ≤ n) && decide (n ≤ b)
theorem in_p (a b : Int) (e e' t t' : Nat) (bx0 : Bxs) (h3 : bx0 3 = ⟨e, 1, 1, t, [.int .i64 a]⟩) (h4 : bx0 4 = ⟨e', 1, 1, t', [.int .i64 b]⟩) : PredB 88 [.loc 3 e 0 0, .loc 4 e' 0 0] 5 1000 bx0 (D.int .i64) (fun _ => True) (inB a b) := by
  intro bx x hb _
  refine fnB_calls (fn := Tryz.f88) (tab := []) (base := 1000) mixed ?_ rfl (by kernel_rfl) rfl
  refine fnB_intro _ [.tmp 4] 13 rfl rfl rfl (by kernel_rfl) ?_
  have g3 := (hb 3 (by omega)).trans h3
  have g4 := (hb 4 (by omega)).trans h4
  simp (maxSteps := 1000000) (disch := omega) only [go_sem, g3, g4]
  refine condD_split (fun h1 => ?_) (fun h1 => ?_)
  · simp (maxSteps := 1000000) (disch := omega) only [go_sem, g3, g4, h1]
    refine ⟨?_, fun _ _ => trivial⟩
    simp [inB] at h1 ⊢
    simp [h1]
  · simp (maxSteps := 1000000) (disch := omega) only [go_sem, g3, g4, h1]
    refine ⟨?_, fun _ _ => trivial⟩
    simp [inB] at h1 ⊢
    omega
theorem between_d (a b : Int) (l : List Int) (hl : l.length ≤ 140737488355328) : fnB Tryz.prog (orac Tryz.prog) [] Tryz.f56 0 [.int .i64 a, .int .i64 b, .sl 1 (l.map (D.int .i64))] (fun _ => .none) (fun d _ => d = .bool (l.all (inB a b))) (fun _ _ => False) := by
  refine fnB_intro _ [.tmp 6] 11 rfl rfl rfl (by kernel_rfl) ?_
  simp (maxSteps := 1000000) (disch := omega) only [go_sem]
  refine call_boxes (allI_c 20 (in_p a b 1 1 3 3 _ (by simp [upd, Bx.none]) (by simp [upd, Bx.none])) (by omega) (by omega) l hl (fun _ _ => trivial) _ (fun _ _ => rfl)) rfl ?_
  rintro d bx2 ⟨rfl, _⟩
  simp (maxSteps := 1000000) (disch := omega) only [go_sem]
theorem between_c (a b : Int) (l : List Int) (hl : l.length ≤ 140737488355328) : CallsTo Tryz.prog 56 [.int .i64 a, .int .i64 b, .sl 1 (l.map (D.int .i64))] (.bool (l.all (inB a b))) :=
  (fnB_calls mixed (between_d a b l hl) rfl (by kernel_rfl) rfl).to (fun _ _ h => h) (fun d' bx' h => ⟨.bool (l.all (inB a b)), by rw [h]; rfl, .refl _⟩)
theorem between_1 (a b n : Int) : CallsTo Tryz.prog 56 [.int .i64 a, .int .i64 b, .sl 1 [.int .i64 n]] (.bool (inB a b n)) := by
  have := between_c a b [n] (by simp)
  simpa using this

def small (s : Str) : Prop := s.length ≤ 140737488355328
theorem free_p (k : Nat) (bx0 : Bxs) : PredB 55 [] 0 k bx0 D.str small freeB := PredB.of (fun x h => free_c x h) (fun _ => rfl) k bx0
/-- all are free names -/
theorem allFree_c (l : List Str) (hl : l.length ≤ 140737488355328) (hs : ∀ x ∈ l, small x) : CallsTo Tryz.prog 57 [.fn (.func 55) [], .sl 1 [.sl 1 (l.map D.str)]] (.bool (l.all freeB)) :=
  (allS_c 0 (free_p 1000 (fun _ => .none)) (Nat.le_refl _) (by omega) l hl hs (fun _ => .none) (fun _ _ => rfl)).to (fun _ _ h => h) (fun d' bx' h => ⟨.bool (l.all freeB), by rw [h.1]; rfl, .refl _⟩)

/-- find: a function that says of a text whether it is a category -/
def FindB (f : FuncId) (caps : List D) (n0 : Nat) (bx0 : Bxs) (p : Str → Bool) : Prop :=
  ∀ (bx : Bxs) (s : Str), (∀ q, q < n0 → bx q = bx0 q) → small s → CallsB Tryz.prog f 0 (.str s :: caps) bx (fun d bx' => (∃ n : Int, d = .tup [.int .i64 n, .bool (p s)]) ∧ ∀ q, q < 100000 → bx' q = bx q) (fun _ _ => False)
section
variable {f : FuncId} {caps : List D} {n0 : Nat} {bx0 : Bxs} {p : Str → Bool}
theorem cat_p {e t : Nat} (hf : FindB f caps n0 bx0 p) (hn : n0 ≤ 200) (h3 : bx0 203 = ⟨e, 1, 1, t, [.fn (.func f) caps]⟩) : PredB 53 [.loc 203 e 0 0] 204 100000 bx0 D.str small p := by
  intro bx x hb hs
  refine fnB_calls (fn := Tryz.f53) (tab := []) (base := 700) mixed ?_ rfl (by kernel_rfl) rfl
  refine fnB_intro _ [.tmp 3] 13 rfl rfl rfl (by kernel_rfl) ?_
  have g3 := (hb 203 (by omega)).trans h3
  simp (maxSteps := 1000000) (disch := omega) only [go_sem, g3]
  refine call_boxes (hf bx x (fun s hs => hb s (by omega)) hs) rfl ?_
  rintro d bx2 ⟨⟨n, rfl⟩, hk2⟩
  simp (maxSteps := 1000000) (disch := omega) only [go_sem]
  exact hk2
structure SmE (x : Entry) : Prop where
  text : small x.text
  cat : small x.cat
  len : x.gives.length ≤ 140737488355328
  gives : ∀ s ∈ x.gives, small s
structure SmP (x : Part) : Prop where
  text : small x.text
  cat : small x.cat
structure SmR (x : Rule) : Prop where
  cat : small x.cat
  plen : x.parts.length ≤ 140737488355328
  glen : x.gives.length ≤ 140737488355328
  parts : ∀ y ∈ x.parts, SmP y
  gives : ∀ y ∈ x.gives, small y.text
structure SmG (g : Gram) : Prop where
  name : small g.name
  start : small g.start
  clen : g.cats.length ≤ 140737488355328
  elen : g.entries.length ≤ 140737488355328
  rlen : g.rules.length ≤ 140737488355328
  cats : ∀ s ∈ g.cats, small s
  ents : ∀ x ∈ g.entries, SmE x
  rules : ∀ x ∈ g.rules, SmR x
def entryB (p : Str → Bool) (x : Entry) : Bool := freeB x.text && (p x.cat && (inB 1 4 x.gives.length && (x.gives.all freeB && inB 0 1000 x.cost)))
def partB (p : Str → Bool) (x : Part) : Bool := (decide (x.text = []) && p x.cat) || (!decide (x.text = []) && (decide (x.cat = []) && freeB x.text))
theorem entry_p {e t : Nat} {cf : FuncId} {cc : List D} {m0 : Nat} (hc : PredB cf cc m0 100000 bx0 D.str small p) (hm : m0 ≤ 206) (h5 : bx0 205 = ⟨e, 1, 1, t, [.fn (.func cf) cc]⟩) : PredB 54 [.loc 205 e 0 0] 206 400 bx0 Entry.d SmE (entryB p) := by
  intro bx x hb hx
  refine fnB_calls (fn := Tryz.f54) (tab := []) (base := 400) mixed ?_ rfl (by kernel_rfl) rfl
  refine fnB_intro _ [.tmp 3] 32 rfl rfl rfl (by kernel_rfl) ?_
  have g5 := (hb 205 (by omega)).trans h5
  simp (maxSteps := 1000000) (disch := omega) only [go_sem, g5, Entry.d, strs]
  refine call_pure (free_c x.text hx.text) (by simp [go_sem]) ?_
  simp (maxSteps := 1000000) (disch := omega) only [go_sem, g5]
  refine condD_split (fun h1 => ?_) (fun h1 => ?_)
  · simp (maxSteps := 1000000) (disch := omega) only [go_sem, g5, h1]
    refine call_boxes (hc _ x.cat (fun s hs => by rw [upd_ne (by omega)]; exact hb s (by omega)) hx.cat) rfl ?_
    rintro d bx2 ⟨rfl, hk2⟩
    have g2 := hk2 402 (by omega)
    rw [upd_same] at g2
    simp (maxSteps := 1000000) (disch := omega) only [go_sem, g5, h1, g2]
    refine condD_split (fun h2 => ?_) (fun h2 => ?_)
    · simp (maxSteps := 1000000) (disch := omega) only [go_sem, g5, h1, h2, g2]
      refine call_pure (between_1 1 4 x.gives.length) (by simp [go_sem]) ?_
      simp (maxSteps := 1000000) (disch := omega) only [go_sem, g5, h1, h2, g2]
      refine condD_split (fun h3 => ?_) (fun h3 => ?_)
      · simp (maxSteps := 1000000) (disch := omega) only [go_sem, g5, h1, h2, h3, g2]
        refine call_pure (allFree_c x.gives hx.len hx.gives) (by simp [go_sem, pureL_strs]) ?_
        simp (maxSteps := 1000000) (disch := omega) only [go_sem, g5, h1, h2, h3, g2]
        refine condD_split (fun h4 => ?_) (fun h4 => ?_)
        · simp (maxSteps := 1000000) (disch := omega) only [go_sem, g5, h1, h2, h3, h4, g2]
          refine call_pure (between_1 0 1000 x.cost) (by simp [go_sem]) ?_
          simp (maxSteps := 1000000) (disch := omega) only [go_sem, g5, h1, h2, h3, h4, g2]
          exact ⟨by simp [entryB, h1, h2, h3, h4], fun s hs => (hk2 s (by omega)).trans (upd_ne (by omega))⟩
        · simp (maxSteps := 1000000) (disch := omega) only [go_sem, g5, h1, h2, h3, h4, g2]
          exact ⟨by simp [entryB, h1, h2, h3, h4], fun s hs => (hk2 s (by omega)).trans (upd_ne (by omega))⟩
      · simp (maxSteps := 1000000) (disch := omega) only [go_sem, g5, h1, h2, h3, g2]
        exact ⟨by simp [entryB, h1, h2, h3], fun s hs => (hk2 s (by omega)).trans (upd_ne (by omega))⟩
    · simp (maxSteps := 1000000) (disch := omega) only [go_sem, g5, h1, h2, g2]
      exact ⟨by simp [entryB, h1, h2], fun s hs => (hk2 s (by omega)).trans (upd_ne (by omega))⟩
  · simp (maxSteps := 1000000) (disch := omega) only [go_sem, g5, h1]
    exact ⟨by simp [entryB, h1], fun s hs => upd_ne (by omega)⟩
theorem part_p {e t : Nat} {cf : FuncId} {cc : List D} {m0 : Nat} (hc : PredB cf cc m0 100000 bx0 D.str small p) (hm : m0 ≤ 206) (h5 : bx0 205 = ⟨e, 1, 1, t, [.fn (.func cf) cc]⟩) : PredB 58 [.loc 205 e 0 0] 206 650 bx0 Part.d SmP (partB p) := by
  intro bx x hb hx
  refine fnB_calls (fn := Tryz.f58) (tab := []) (base := 650) mixed ?_ rfl (by kernel_rfl) rfl
  refine fnB_intro _ [.tmp 3] 28 rfl rfl rfl (by kernel_rfl) ?_
  have g5 := (hb 205 (by omega)).trans h5
  simp (maxSteps := 1000000) (disch := omega) only [go_sem, g5, Part.d]
  refine condD_dec (fun h1 => ?_) (fun h1 => ?_)
  · simp (maxSteps := 1000000) (disch := omega) only [go_sem, g5, h1]
    refine call_boxes (hc _ x.cat (fun s hs => by rw [upd_ne (by omega)]; exact hb s (by omega)) hx.cat) rfl ?_
    rintro d bx2 ⟨rfl, hk2⟩
    have g2 := hk2 652 (by omega)
    rw [upd_same] at g2
    simp (maxSteps := 1000000) (disch := omega) only [go_sem, g5, h1, g2]
    refine condD_split (fun h2 => ?_) (fun h2 => ?_)
    · simp (maxSteps := 1000000) (disch := omega) only [go_sem, g5, h1, h2, g2]
      exact ⟨by simp [partB, h1, h2], fun s hs => (hk2 s (by omega)).trans (upd_ne (by omega))⟩
    · simp (maxSteps := 1000000) (disch := omega) only [go_sem, g5, h1, h2, g2]
      exact ⟨by simp [partB, h1, h2], fun s hs => (hk2 s (by omega)).trans (upd_ne (by omega))⟩
  · simp (maxSteps := 1000000) (disch := omega) only [go_sem, g5, h1]
    refine condD_dec (fun h2 => ?_) (fun h2 => ?_)
    · simp (maxSteps := 1000000) (disch := omega) only [go_sem, g5, h1, h2]
      refine call_pure (free_c x.text hx.text) (by simp [go_sem]) ?_
      simp (maxSteps := 1000000) (disch := omega) only [go_sem, g5, h1, h2]
      exact ⟨by simp [partB, h1, h2], fun s hs => upd_ne (by omega)⟩
    · simp (maxSteps := 1000000) (disch := omega) only [go_sem, g5, h1, h2]
      exact ⟨by simp [partB, h1, h2], fun s hs => upd_ne (by omega)⟩
end
end Go.V.Ty
