/-
  Grammar: the parser's small steps.
-/
import Derived.Test.YtgcbdhnkigmfpaaGreatDoorG0
import Derived.Test.YtgcbdhnkigmfpaaGreatDoorGa
namespace Go.V.Gr
open Go.Proofs Go.RowKit Go.V.Lx
set_option linter.unusedSimpArgs false
set_option linter.unusedVariables false
set_option maxRecDepth 100000

/-- the cells of the grammar that is being read -/
structure G6 where
  a : D
  b : D
  c : D
  d : D
  e : D
  f : D
def pd (l : List Tk) (n : Nat) (g : G6) : D := .agg [.sl 4 (l.map Tok.d), .int .i64 (n : Int), g.a, g.b, g.c, g.d, g.e, g.f]
/-- The parser, in its slot: what is left, the end's place, the grammar so far. -/
def PSt (bx : Bxs) (e : Nat) (l : List Tk) (n : Nat) (g : G6) : Prop := bx 14 = ⟨e, 1, 8, 86, [pd l n g]⟩
def Same14 (bx bx' : Bxs) : Prop := ∀ q, q ≠ 14 → bx' q = bx q
theorem Same14.refl (bx : Bxs) : Same14 bx bx := fun _ _ => rfl
theorem Same14.trans {a b c : Bxs} (h : Same14 a b) (k : Same14 b c) : Same14 a c := fun q h1 => (k q h1).trans (h q h1)
/-- a panic at a place -/
def placeD (n : Nat) (l : List Tk) : D := .ifc 82 (.agg [.int .i64 (placeT n l)])

variable {e : Nat} {l : List Tk} {n : Nat} {g : G6} {bx : Bxs}

theorem is_d (t : Str) (hl : l.length ≤ 140737488355328) (hb : PSt bx e l n g) : fnB Tryz.prog (orac Tryz.prog) [] Tryz.f104 0 [.loc 14 e 0 0, .str t] bx (fun d bx' => d = .bool (isT t l) ∧ bx' = bx) (fun _ _ => False) := by
  refine fnB_intro _ [.tmp 4] 32 rfl rfl rfl (by kernel_rfl) ?_
  have hb : bx 14 = ⟨e, 1, 8, 86, [pd l n g]⟩ := hb
  cases l with
  | nil =>
    simp (maxSteps := 1000000) (disch := omega) only [go_sem, hb, pd]
    simp [isT]
  | cons x r =>
    have h0 : (0 : Int) < ((r.length + 1 : Nat) : Int) := by omega
    repeat' (first | with_reducible refine condD_dec (fun _ => ?_) (fun _ => ?_) | with_reducible refine condD_split (fun _ => ?_) (fun _ => ?_) | simp (maxSteps := 1000000) (disch := omega) only [go_sem, *, hb, pd, Tok.d, h0])
    all_goals (simp [isT, *]; done)
/-- one token is taken -/
theorem take_toks (r : List Tk) : List.take r.length (r.map Tok.d) = r.map Tok.d := List.take_of_length_le (by simp)
theorem is_c (t : Str) (hl : l.length ≤ 140737488355328) (hb : PSt bx e l n g) : CallsB Tryz.prog 104 0 [.loc 14 e 0 0, .str t] bx (fun d bx' => d = .bool (isT t l) ∧ bx' = bx) (fun _ _ => False) := fnB_calls mixed (is_d t hl hb) rfl (by kernel_rfl) rfl
theorem isNumber_d (hl : l.length ≤ 140737488355328) (hb : PSt bx e l n g) : fnB Tryz.prog (orac Tryz.prog) [] Tryz.f114 0 [.loc 14 e 0 0] bx (fun d bx' => d = .bool (isNo l) ∧ bx' = bx) (fun _ _ => False) := by
  refine fnB_intro _ [.tmp 2] 19 rfl rfl rfl (by kernel_rfl) ?_
  have hb : bx 14 = ⟨e, 1, 8, 86, [pd l n g]⟩ := hb
  cases l with
  | nil =>
    simp (maxSteps := 1000000) (disch := omega) only [go_sem, hb, pd]
    simp [isNo]
  | cons x r =>
    have h0 : (0 : Int) < ((r.length + 1 : Nat) : Int) := by omega
    repeat' (first | with_reducible refine condD_dec (fun _ => ?_) (fun _ => ?_) | with_reducible refine condD_split (fun _ => ?_) (fun _ => ?_) | simp (maxSteps := 1000000) (disch := omega) only [go_sem, *, hb, pd, Tok.d, h0])
    all_goals (simp [isNo, *]; done)
theorem isNumber_c (hl : l.length ≤ 140737488355328) (hb : PSt bx e l n g) : CallsB Tryz.prog 114 0 [.loc 14 e 0 0] bx (fun d bx' => d = .bool (isNo l) ∧ bx' = bx) (fun _ _ => False) := fnB_calls mixed (isNumber_d hl hb) rfl (by kernel_rfl) rfl

/-- the text of a list -/
theorem words_d : fnD Tryz.prog (orac Tryz.prog) [] Tryz.f66 [] (strs words8) := by
  refine fn_intro _ [.tmp 0] _ rfl rfl rfl (by kernel_rfl) ?_
  simp (maxSteps := 1000000) (disch := omega) only [go_sem]
  exact weak_eq rfl
theorem words_c : CallsTo Tryz.prog 66 [] (strs words8) := fn_calls mixed words_d rfl (by kernel_rfl) rfl
theorem isName_d (hl : l.length ≤ 140737488355328) (hb : PSt bx e l n g) : fnB Tryz.prog (orac Tryz.prog) [(1, [(11, 7), (11, 4)])] Tryz.f110 0 [.loc 14 e 0 0] bx (fun d bx' => d = .bool (isNm l) ∧ bx' = bx) (fun _ _ => False) := by
  refine fnB_intro _ [.tmp 2] 31 rfl rfl rfl (by kernel_rfl) ?_
  have hb : bx 14 = ⟨e, 1, 8, 86, [pd l n g]⟩ := hb
  cases l with
  | nil =>
    simp (maxSteps := 1000000) (disch := omega) only [go_sem, hb, pd]
    simp [isNm]
  | cons x r =>
    have h0 : (0 : Int) < ((r.length + 1 : Nat) : Int) := by omega
    have hc := contains_str words8 x.t (by decide)
    repeat' (first | with_reducible refine condD_dec (fun _ => ?_) (fun _ => ?_) | with_reducible refine condD_split (fun _ => ?_) (fun _ => ?_) | with_reducible refine pureO (words_c) (by simp [go_sem]) ?_ | with_reducible refine pureT (words_c) (by simp [go_sem]) ?_ | simp (maxSteps := 1000000) (disch := omega) only [go_sem, *, hb, pd, Tok.d, h0])
    · rename_i hk
      refine call_pure hc (by simp [go_sem, strs, pureL_strs]) ?_
      simp (maxSteps := 1000000) (disch := omega) only [go_sem, hk]
      simp [isNm, hk]
    · rename_i hk
      simp [isNm, hk]
theorem isName_c (hl : l.length ≤ 140737488355328) (hb : PSt bx e l n g) : CallsB Tryz.prog 110 0 [.loc 14 e 0 0] bx (fun d bx' => d = .bool (isNm l) ∧ bx' = bx) (fun _ _ => False) := fnB_calls mixed (isName_d hl hb) rfl (by kernel_rfl) rfl
theorem fail_d (hl : l.length ≤ 140737488355328) (hb : PSt bx e l n g) : fnB Tryz.prog (orac Tryz.prog) [] Tryz.f41 0 [.loc 14 e 0 0] bx (fun _ _ => False) (fun d bx' => d = placeD n l ∧ bx' = bx) := by
  refine fnB_intro _ [] 23 rfl rfl rfl (by kernel_rfl) ?_
  have hb : bx 14 = ⟨e, 1, 8, 86, [pd l n g]⟩ := hb
  cases l with
  | nil =>
    simp (maxSteps := 1000000) (disch := omega) only [go_sem, hb, pd]
    rfl
  | cons x r =>
    have h0 : (0 : Int) < ((r.length + 1 : Nat) : Int) := by omega
    repeat' (first | with_reducible refine condD_dec (fun _ => ?_) (fun _ => ?_) | with_reducible refine condD_split (fun _ => ?_) (fun _ => ?_) | simp (maxSteps := 1000000) (disch := omega) only [go_sem, *, hb, pd, Tok.d, h0])
    rfl
theorem fail_c (hl : l.length ≤ 140737488355328) (hb : PSt bx e l n g) : CallsB Tryz.prog 41 0 [.loc 14 e 0 0] bx (fun _ _ => False) (fun d bx' => d = placeD n l ∧ bx' = bx) := fnB_calls mixed (fail_d hl hb) rfl (by kernel_rfl) rfl
theorem take_d (t : Str) (hl : l.length ≤ 140737488355328) (hb : PSt bx e l n g) : fnB Tryz.prog (orac Tryz.prog) [] Tryz.f102 0 [.loc 14 e 0 0, .str t] bx (fun d bx' => d = .bool (isT t l) ∧ PSt bx' e (if isT t l then l.tail else l) n g ∧ Same14 bx bx') (fun _ _ => False) := by
  refine fnB_intro _ [.tmp 4] 19 rfl rfl rfl (by kernel_rfl) ?_
  have hb' : bx 14 = ⟨e, 1, 8, 86, [pd l n g]⟩ := hb
  simp (maxSteps := 1000000) (disch := omega) only [go_sem, hb', pd]
  refine call_boxes (is_c t hl hb) rfl ?_
  rintro d bx' ⟨rfl, rfl⟩
  simp (maxSteps := 1000000) (disch := omega) only [go_sem, hb', pd]
  refine condD_split (fun h1 => ?_) (fun h1 => ?_)
  · cases l with
    | nil => simp [isT] at h1
    | cons x r =>
      have h0 : (1 : Int) ≤ ((r.length + 1 : Nat) : Int) := by omega
      repeat' (first | with_reducible refine condD_dec (fun _ => ?_) (fun _ => ?_) | with_reducible refine condD_split (fun _ => ?_) (fun _ => ?_) | simp (maxSteps := 1000000) (disch := omega) only [go_sem, *, hb', pd, h0])
      refine ⟨?_, fun q hq => by simp [upd, hq]⟩
      simp [PSt, upd, h1, pd, take_toks]
  · simp (maxSteps := 1000000) (disch := omega) only [go_sem, hb', pd]
    exact ⟨by rw [if_neg (by simp [h1])]; exact hb, fun q hq => rfl⟩
theorem take_c (t : Str) (hl : l.length ≤ 140737488355328) (hb : PSt bx e l n g) : CallsB Tryz.prog 102 0 [.loc 14 e 0 0, .str t] bx (fun d bx' => d = .bool (isT t l) ∧ PSt bx' e (if isT t l then l.tail else l) n g ∧ Same14 bx bx') (fun _ _ => False) := fnB_calls mixed (take_d t hl hb) rfl (by kernel_rfl) rfl

/-- what a reader in the program comes to -/
def Ok1 {α : Type} (p : Rd α) (enc : α → D) (e n : Nat) (g : G6) (bx : Bxs) (l : List Tk) : D → Bxs → Prop := fun d bx' => ∃ a r, p l = .ok (a, r) ∧ d = enc a ∧ PSt bx' e r n g ∧ Same14 bx bx'
def Er1 {α : Type} (p : Rd α) (n : Nat) (bx : Bxs) (l : List Tk) : D → Bxs → Prop := fun d bx' => ∃ r, p l = .error r ∧ d = placeD n r ∧ Same14 bx bx'
theorem want_d (t : Str) (hl : l.length ≤ 140737488355328) (hb : PSt bx e l n g) : fnB Tryz.prog (orac Tryz.prog) [] Tryz.f73 0 [.loc 14 e 0 0, .str t] bx (Ok1 (want t) (fun _ => .tup []) e n g bx l) (Er1 (want t) n bx l) := by
  refine fnB_intro _ [] 10 rfl rfl rfl (by kernel_rfl) ?_
  simp (maxSteps := 1000000) (disch := omega) only [go_sem]
  refine call_boxes (take_c t hl hb) rfl ?_
  rintro d bx' ⟨rfl, h2, h3⟩
  simp (maxSteps := 1000000) (disch := omega) only [go_sem]
  refine condD_split (fun h1 => ?_) (fun h1 => ?_)
  · simp (maxSteps := 1000000) (disch := omega) only [go_sem]
    rw [if_pos h1] at h2
    exact ⟨(), _, by simp [want, h1], rfl, h2, h3⟩
  · simp (maxSteps := 1000000) (disch := omega) only [go_sem]
    rw [if_neg (by simp [h1])] at h2
    refine call_pan (fail_c hl h2) rfl (fun d bx' hp => hp.elim) (fun d bx' hp => ?_)
    obtain ⟨rfl, rfl⟩ := hp
    simp (maxSteps := 1000000) (disch := omega) only [go_sem]
    exact ⟨_, by simp [want, h1], rfl, h3⟩
theorem want_c (t : Str) (hl : l.length ≤ 140737488355328) (hb : PSt bx e l n g) : CallsB Tryz.prog 73 0 [.loc 14 e 0 0, .str t] bx (Ok1 (want t) (fun _ => .tup []) e n g bx l) (Er1 (want t) n bx l) := fnB_calls mixed (want_d t hl hb) rfl (by kernel_rfl) rfl
theorem bare_d (hl : l.length ≤ 140737488355328) (hb : PSt bx e l n g) : fnB Tryz.prog (orac Tryz.prog) [] Tryz.f101 0 [.loc 14 e 0 0] bx (Ok1 bare .str e n g bx l) (Er1 bare n bx l) := by
  refine fnB_intro _ [.tmp 2] 25 rfl rfl rfl (by kernel_rfl) ?_
  have hb' : bx 14 = ⟨e, 1, 8, 86, [pd l n g]⟩ := hb
  simp (maxSteps := 1000000) (disch := omega) only [go_sem]
  refine call_boxes (isName_c hl hb) rfl ?_
  rintro d bx' ⟨rfl, rfl⟩
  simp (maxSteps := 1000000) (disch := omega) only [go_sem]
  refine condD_split (fun h1 => ?_) (fun h1 => ?_)
  · cases l with
    | nil => simp [isNm] at h1
    | cons x r =>
      have h0 : (1 : Int) ≤ ((r.length + 1 : Nat) : Int) := by omega
      have h00 : (0 : Int) < ((r.length + 1 : Nat) : Int) := by omega
      repeat' (first | with_reducible refine condD_dec (fun _ => ?_) (fun _ => ?_) | with_reducible refine condD_split (fun _ => ?_) (fun _ => ?_) | simp (maxSteps := 1000000) (disch := omega) only [go_sem, *, hb', pd, Tok.d, h0, h00])
      refine ⟨x.t, r, by simp [bare, h1], rfl, ?_, fun q hq => by simp [upd, hq]⟩
      simp [PSt, upd, pd, Tok.d, take_toks]
  · simp (maxSteps := 1000000) (disch := omega) only [go_sem]
    refine call_pan (fail_c hl hb) rfl (fun d bx' hp => hp.elim) (fun d bx' hp => ?_)
    obtain ⟨rfl, rfl⟩ := hp
    simp (maxSteps := 1000000) (disch := omega) only [go_sem]
    refine ⟨l, ?_, rfl, fun q hq => rfl⟩
    cases l with
    | nil => rfl
    | cons x r => simp [bare, h1]
theorem bare_c (hl : l.length ≤ 140737488355328) (hb : PSt bx e l n g) : CallsB Tryz.prog 101 0 [.loc 14 e 0 0] bx (Ok1 bare .str e n g bx l) (Er1 bare n bx l) := fnB_calls mixed (bare_d hl hb) rfl (by kernel_rfl) rfl
theorem number_d (hl : l.length ≤ 140737488355328) (hb : PSt bx e l n g) : fnB Tryz.prog (orac Tryz.prog) [] Tryz.f133 0 [.loc 14 e 0 0] bx (Ok1 number (.int .i64) e n g bx l) (Er1 number n bx l) := by
  refine fnB_intro _ [.tmp 2] 25 rfl rfl rfl (by kernel_rfl) ?_
  have hb' : bx 14 = ⟨e, 1, 8, 86, [pd l n g]⟩ := hb
  simp (maxSteps := 1000000) (disch := omega) only [go_sem]
  refine call_boxes (isNumber_c hl hb) rfl ?_
  rintro d bx' ⟨rfl, rfl⟩
  simp (maxSteps := 1000000) (disch := omega) only [go_sem]
  refine condD_split (fun h1 => ?_) (fun h1 => ?_)
  · cases l with
    | nil => simp [isNo] at h1
    | cons x r =>
      have h0 : (1 : Int) ≤ ((r.length + 1 : Nat) : Int) := by omega
      have h00 : (0 : Int) < ((r.length + 1 : Nat) : Int) := by omega
      repeat' (first | with_reducible refine condD_dec (fun _ => ?_) (fun _ => ?_) | with_reducible refine condD_split (fun _ => ?_) (fun _ => ?_) | simp (maxSteps := 1000000) (disch := omega) only [go_sem, *, hb', pd, Tok.d, h0, h00])
      refine ⟨x.n, r, by simp [number, h1], rfl, ?_, fun q hq => by simp [upd, hq]⟩
      simp [PSt, upd, pd, Tok.d, take_toks]
  · simp (maxSteps := 1000000) (disch := omega) only [go_sem]
    refine call_pan (fail_c hl hb) rfl (fun d bx' hp => hp.elim) (fun d bx' hp => ?_)
    obtain ⟨rfl, rfl⟩ := hp
    simp (maxSteps := 1000000) (disch := omega) only [go_sem]
    refine ⟨l, ?_, rfl, fun q hq => rfl⟩
    cases l with
    | nil => rfl
    | cons x r => simp [number, h1]
theorem number_c (hl : l.length ≤ 140737488355328) (hb : PSt bx e l n g) : CallsB Tryz.prog 133 0 [.loc 14 e 0 0] bx (Ok1 number (.int .i64) e n g bx l) (Er1 number n bx l) := fnB_calls mixed (number_d hl hb) rfl (by kernel_rfl) rfl
/-- the rest is no longer -/
theorem Fwd.len {α : Type} {p : Rd α} (hp : Fwd p) {l r : List Tk} {a : α} (h : p l = .ok (a, r)) : r.length ≤ l.length := by
  have := hp l
  rw [h] at this
  obtain ⟨k, rfl⟩ := this
  rw [List.length_drop]; omega
theorem want_len {t : Str} {l r : List Tk} {a : Unit} (h : want t l = .ok (a, r)) : r.length < l.length := by
  unfold want at h
  split at h
  · rename_i h1
    injection h with h; injection h with _ h; subst h
    cases l with
    | nil => simp [isT] at h1
    | cons x r => simp
  · cases h
theorem name_d' (t : Str) (hl : l.length ≤ 140737488355328) (hb : PSt bx e l n g) : fnB Tryz.prog (orac Tryz.prog) [] Tryz.f72 0 [.loc 14 e 0 0, .str t] bx (Ok1 (nameP t) .str e n g bx l) (Er1 (nameP t) n bx l) := by
  refine fnB_intro _ [.tmp 4] 10 rfl rfl rfl (by kernel_rfl) ?_
  simp (maxSteps := 1000000) (disch := omega) only [go_sem]
  refine call_pan (want_c t hl hb) rfl (fun d bx' hp => ?_) (fun d bx' hp => ?_)
  · obtain ⟨a, r, h1, rfl, h2, h3⟩ := hp
    have := want_len h1
    simp (maxSteps := 1000000) (disch := omega) only [go_sem]
    refine call_pan (bare_c (by omega) h2) rfl (fun d bx2 hp => ?_) (fun d bx2 hp => ?_)
    · obtain ⟨s, r2, g1, rfl, g2, g3⟩ := hp
      simp (maxSteps := 1000000) (disch := omega) only [go_sem]
      exact ⟨s, r2, by simp only [nameP, Rd.bind, h1]; exact g1, rfl, g2, h3.trans g3⟩
    · obtain ⟨r2, g1, rfl, g3⟩ := hp
      simp (maxSteps := 1000000) (disch := omega) only [go_sem]
      exact ⟨r2, by simp only [nameP, Rd.bind, h1]; exact g1, rfl, h3.trans g3⟩
  · obtain ⟨r, h1, rfl, h3⟩ := hp
    simp (maxSteps := 1000000) (disch := omega) only [go_sem]
    exact ⟨r, by simp only [nameP, Rd.bind, h1], rfl, h3⟩
theorem name_p (t : Str) (hl : l.length ≤ 140737488355328) (hb : PSt bx e l n g) : CallsB Tryz.prog 72 0 [.loc 14 e 0 0, .str t] bx (Ok1 (nameP t) .str e n g bx l) (Er1 (nameP t) n bx l) := fnB_calls mixed (name_d' t hl hb) rfl (by kernel_rfl) rfl
theorem bare_len {l r : List Tk} {a : Str} (h : bare l = .ok (a, r)) : r.length < l.length := by
  unfold bare at h
  split at h
  · split at h
    · injection h with h; injection h with _ h; subst h; simp
    · cases h
  · cases h
theorem number_len {l r : List Tk} {a : Int} (h : number l = .ok (a, r)) : r.length < l.length := by
  unfold number at h
  split at h
  · split at h
    · injection h with h; injection h with _ h; subst h; simp
    · cases h
  · cases h
theorem bind_ok {α β : Type} {p : Rd α} {f : α → Rd β} {l : List Tk} {b : β} {r : List Tk} (h : p.bind f l = .ok (b, r)) : ∃ a r1, p l = .ok (a, r1) ∧ f a r1 = .ok (b, r) := by
  unfold Rd.bind at h
  split at h
  · rename_i a r1 h1; exact ⟨a, r1, h1, h⟩
  · cases h
theorem name_len {t : Str} {l r : List Tk} {a : Str} (h : nameP t l = .ok (a, r)) : r.length < l.length := by
  obtain ⟨_, r1, h1, h2⟩ := bind_ok h
  have := want_len h1
  have := bare_len h2
  omega
theorem cost_d (hl : l.length ≤ 140737488355328) (hb : PSt bx e l n g) : fnB Tryz.prog (orac Tryz.prog) [] Tryz.f106 0 [.loc 14 e 0 0] bx (Ok1 costP (.int .i64) e n g bx l) (Er1 costP n bx l) := by
  refine fnB_intro _ [.tmp 2] 11 rfl rfl rfl (by kernel_rfl) ?_
  simp (maxSteps := 1000000) (disch := omega) only [go_sem]
  refine call_pan (want_c wCost hl hb) rfl (fun d bx1 hp => ?_) (fun d bx1 hp => ?_)
  · obtain ⟨a, r1, h1, rfl, h2, h3⟩ := hp
    have := want_len h1
    simp (maxSteps := 1000000) (disch := omega) only [go_sem]
    refine call_pan (number_c (by omega) h2) rfl (fun d bx2 hp => ?_) (fun d bx2 hp => ?_)
    · obtain ⟨s, r2, g1, rfl, g2, g3⟩ := hp
      have := number_len g1
      simp (maxSteps := 1000000) (disch := omega) only [go_sem]
      refine call_pan (want_c [59] (by omega) g2) rfl (fun d bx3 hp => ?_) (fun d bx3 hp => ?_)
      · obtain ⟨_, r3, k1, rfl, k2, k3⟩ := hp
        simp (maxSteps := 1000000) (disch := omega) only [go_sem]
        exact ⟨s, r3, by simp only [costP, Rd.bind, h1, g1, k1, Rd.pure], rfl, k2, (h3.trans g3).trans k3⟩
      · obtain ⟨r3, k1, rfl, k3⟩ := hp
        simp (maxSteps := 1000000) (disch := omega) only [go_sem]
        exact ⟨r3, by simp only [costP, Rd.bind, h1, g1, k1], rfl, (h3.trans g3).trans k3⟩
    · obtain ⟨r2, g1, rfl, g3⟩ := hp
      simp (maxSteps := 1000000) (disch := omega) only [go_sem]
      exact ⟨r2, by simp only [costP, Rd.bind, h1, g1], rfl, h3.trans g3⟩
  · obtain ⟨r1, h1, rfl, h3⟩ := hp
    simp (maxSteps := 1000000) (disch := omega) only [go_sem]
    exact ⟨r1, by simp only [costP, Rd.bind, h1], rfl, h3⟩
theorem cost_c (hl : l.length ≤ 140737488355328) (hb : PSt bx e l n g) : CallsB Tryz.prog 106 0 [.loc 14 e 0 0] bx (Ok1 costP (.int .i64) e n g bx l) (Er1 costP n bx l) := fnB_calls mixed (cost_d hl hb) rfl (by kernel_rfl) rfl
theorem category_d (hl : l.length ≤ 140737488355328) (hb : PSt bx e l n g) : fnB Tryz.prog (orac Tryz.prog) [] Tryz.f76 0 [.loc 14 e 0 0] bx (Ok1 category .str e n g bx l) (Er1 category n bx l) := by
  refine fnB_intro _ [.tmp 2] 9 rfl rfl rfl (by kernel_rfl) ?_
  simp (maxSteps := 1000000) (disch := omega) only [go_sem]
  refine call_pan (name_p wCategory hl hb) rfl (fun d bx1 hp => ?_) (fun d bx1 hp => ?_)
  · obtain ⟨a, r1, h1, rfl, h2, h3⟩ := hp
    have := name_len h1
    simp (maxSteps := 1000000) (disch := omega) only [go_sem]
    refine call_pan (want_c [59] (by omega) h2) rfl (fun d bx3 hp => ?_) (fun d bx3 hp => ?_)
    · obtain ⟨_, r3, k1, rfl, k2, k3⟩ := hp
      simp (maxSteps := 1000000) (disch := omega) only [go_sem]
      exact ⟨a, r3, by simp only [category, Rd.bind, h1, k1, Rd.pure], rfl, k2, h3.trans k3⟩
    · obtain ⟨r3, k1, rfl, k3⟩ := hp
      simp (maxSteps := 1000000) (disch := omega) only [go_sem]
      exact ⟨r3, by simp only [category, Rd.bind, h1, k1], rfl, h3.trans k3⟩
  · obtain ⟨r1, h1, rfl, h3⟩ := hp
    simp (maxSteps := 1000000) (disch := omega) only [go_sem]
    exact ⟨r1, by simp only [category, Rd.bind, h1], rfl, h3⟩
theorem category_c (hl : l.length ≤ 140737488355328) (hb : PSt bx e l n g) : CallsB Tryz.prog 76 0 [.loc 14 e 0 0] bx (Ok1 category .str e n g bx l) (Er1 category n bx l) := fnB_calls mixed (category_d hl hb) rfl (by kernel_rfl) rfl
theorem category_len {l r : List Tk} {a : Str} (h : category l = .ok (a, r)) : r.length < l.length := by
  obtain ⟨_, r1, h1, h2⟩ := bind_ok h
  obtain ⟨_, r2, h3, h4⟩ := bind_ok h2
  have := name_len h1
  have := want_len h3
  unfold Rd.pure at h4
  injection h4 with h4; injection h4 with _ h4; subst h4
  omega

/-! Closures -/
/-- a variable of the parser's users that holds the parser's place -/
def Ptr (bx : Bxs) (s k e : Nat) : Prop := bx s = ⟨k, 1, 1, 84, [.loc 14 e 0 0]⟩
def Txt (bx : Bxs) (s k : Nat) (t : Str) : Prop := bx s = ⟨k, 1, 1, 9, [.str t]⟩
theorem begins_d (b : Nat) (t : Str) : fnB Tryz.prog (orac Tryz.prog) [] Tryz.f75 b [.loc 14 e 0 0, .str t] bx (fun d bx' => ∃ k2 k3, d = .fn (.func 103) [.loc (b + 2) k2 0 0, .loc (b + 3) k3 0 0] ∧ Ptr bx' (b + 2) k2 e ∧ Txt bx' (b + 3) k3 t ∧ ∀ q, q ≠ b + 2 → q ≠ b + 3 → bx' q = bx q) (fun _ _ => False) := by
  refine fnB_intro _ [.tmp 4] 6 rfl rfl rfl (by kernel_rfl) ?_
  simp (maxSteps := 1000000) (disch := omega) only [go_sem]
  refine ⟨_, _, rfl, ?_, ?_, fun q h1 h2 => ?_⟩
  · simp [Ptr, upd]
  · simp [Txt, upd]
  · simp [h1, h2]
theorem begins_c (b : Nat) (t : Str) : CallsB Tryz.prog 75 0 [.loc 14 e 0 0, .str t] bx (fun d bx' => ∃ k2 k3, d = .fn (.func 103) [.loc (b + 2) k2 0 0, .loc (b + 3) k3 0 0] ∧ Ptr bx' (b + 2) k2 e ∧ Txt bx' (b + 3) k3 t ∧ ∀ q, q ≠ b + 2 → q ≠ b + 3 → bx' q = bx q) (fun _ _ => False) := (fnB_calls mixed (begins_d b t) rfl (by kernel_rfl) rfl : CallsB _ _ b _ _ _ _)
theorem begins1_d (s1 s2 k1 k2 : Nat) (t : Str) (hl : l.length ≤ 140737488355328) (hb : PSt bx e l n g) (h1 : Ptr bx s1 k1 e) (h2 : Txt bx s2 k2 t) : fnB Tryz.prog (orac Tryz.prog) [] Tryz.f103 0 [.loc s1 k1 0 0, .loc s2 k2 0 0] bx (fun d bx' => d = .bool (isT t l) ∧ bx' = bx) (fun _ _ => False) := by
  refine fnB_intro _ [.tmp 2] 6 rfl rfl rfl (by kernel_rfl) ?_
  have h1 : bx s1 = ⟨k1, 1, 1, 84, [.loc 14 e 0 0]⟩ := h1
  have h2 : bx s2 = ⟨k2, 1, 1, 9, [.str t]⟩ := h2
  simp (maxSteps := 1000000) (disch := omega) only [go_sem, h1, h2]
  refine call_boxes (is_c t hl hb) rfl ?_
  rintro d bx' ⟨rfl, rfl⟩
  simp (maxSteps := 1000000) (disch := omega) only [go_sem]
theorem begins1_c (s1 s2 k1 k2 : Nat) (t : Str) (hl : l.length ≤ 140737488355328) (hb : PSt bx e l n g) (h1 : Ptr bx s1 k1 e) (h2 : Txt bx s2 k2 t) : CallsB Tryz.prog 103 0 [.loc s1 k1 0 0, .loc s2 k2 0 0] bx (fun d bx' => d = .bool (isT t l) ∧ bx' = bx) (fun _ _ => False) := fnB_calls mixed (begins1_d s1 s2 k1 k2 t hl hb h1 h2) rfl (by kernel_rfl) rfl
theorem entry1_d (s1 k1 : Nat) (hl : l.length ≤ 140737488355328) (hb : PSt bx e l n g) (h1 : Ptr bx s1 k1 e) : fnB Tryz.prog (orac Tryz.prog) [] Tryz.f105 0 [.loc s1 k1 0 0] bx (Ok1 (nameP [44]) .str e n g bx l) (Er1 (nameP [44]) n bx l) := by
  refine fnB_intro _ [.tmp 1] 4 rfl rfl rfl (by kernel_rfl) ?_
  have h1 : bx s1 = ⟨k1, 1, 1, 84, [.loc 14 e 0 0]⟩ := h1
  simp (maxSteps := 1000000) (disch := omega) only [go_sem, h1]
  refine call_pan (name_p [44] hl hb) rfl (fun d bx1 hp => ?_) (fun d bx1 hp => ?_)
  · obtain ⟨a, r1, h1, rfl, h2, h3⟩ := hp
    simp (maxSteps := 1000000) (disch := omega) only [go_sem]
    exact ⟨a, r1, h1, rfl, h2, h3⟩
  · obtain ⟨r1, h1, rfl, h3⟩ := hp
    simp (maxSteps := 1000000) (disch := omega) only [go_sem]
    exact ⟨r1, h1, rfl, h3⟩
theorem entry1_c (s1 k1 : Nat) (hl : l.length ≤ 140737488355328) (hb : PSt bx e l n g) (h1 : Ptr bx s1 k1 e) : CallsB Tryz.prog 105 0 [.loc s1 k1 0 0] bx (Ok1 (nameP [44]) .str e n g bx l) (Er1 (nameP [44]) n bx l) := fnB_calls mixed (entry1_d s1 k1 hl hb h1) rfl (by kernel_rfl) rfl
theorem rule1_d (s1 k1 : Nat) (hl : l.length ≤ 140737488355328) (hb : PSt bx e l n g) (h1 : Ptr bx s1 k1 e) : fnB Tryz.prog (orac Tryz.prog) [] Tryz.f109 0 [.loc s1 k1 0 0] bx (fun d bx' => d = .bool (moreP l) ∧ bx' = bx) (fun _ _ => False) := by
  refine fnB_intro _ [.tmp 1] 8 rfl rfl rfl (by kernel_rfl) ?_
  have h1 : bx s1 = ⟨k1, 1, 1, 84, [.loc 14 e 0 0]⟩ := h1
  simp (maxSteps := 1000000) (disch := omega) only [go_sem, h1]
  refine call_boxes (isName_c hl hb) rfl ?_
  rintro d bx' ⟨rfl, rfl⟩
  cases h : isNm l with
  | true =>
    simp (maxSteps := 1000000) (disch := omega) only [go_sem, h1, h]
    simp [moreP, h]
  | false =>
    simp (maxSteps := 1000000) (disch := omega) only [go_sem, h1, h]
    refine call_boxes (is_c [58] hl hb) rfl ?_
    rintro d bx' ⟨rfl, rfl⟩
    simp (maxSteps := 1000000) (disch := omega) only [go_sem, h1, h]
    simp [moreP, h]
theorem rule1_c (s1 k1 : Nat) (hl : l.length ≤ 140737488355328) (hb : PSt bx e l n g) (h1 : Ptr bx s1 k1 e) : CallsB Tryz.prog 109 0 [.loc s1 k1 0 0] bx (fun d bx' => d = .bool (moreP l) ∧ bx' = bx) (fun _ _ => False) := fnB_calls mixed (rule1_d s1 k1 hl hb h1) rfl (by kernel_rfl) rfl
theorem rule2_d (s1 k1 : Nat) (hl : l.length ≤ 140737488355328) (hb : PSt bx e l n g) (h1 : Ptr bx s1 k1 e) : fnB Tryz.prog (orac Tryz.prog) [] Tryz.f113 0 [.loc s1 k1 0 0] bx (fun d bx' => d = .bool (moreG l) ∧ bx' = bx) (fun _ _ => False) := by
  refine fnB_intro _ [.tmp 1] 8 rfl rfl rfl (by kernel_rfl) ?_
  have h1 : bx s1 = ⟨k1, 1, 1, 84, [.loc 14 e 0 0]⟩ := h1
  simp (maxSteps := 1000000) (disch := omega) only [go_sem, h1]
  refine call_boxes (isNumber_c hl hb) rfl ?_
  rintro d bx' ⟨rfl, rfl⟩
  cases h : isNo l with
  | true =>
    simp (maxSteps := 1000000) (disch := omega) only [go_sem, h1, h]
    simp [moreG, h]
  | false =>
    simp (maxSteps := 1000000) (disch := omega) only [go_sem, h1, h]
    refine call_boxes (is_c [58] hl hb) rfl ?_
    rintro d bx' ⟨rfl, rfl⟩
    simp (maxSteps := 1000000) (disch := omega) only [go_sem, h1, h]
    simp [moreG, h]
theorem rule2_c (s1 k1 : Nat) (hl : l.length ≤ 140737488355328) (hb : PSt bx e l n g) (h1 : Ptr bx s1 k1 e) : CallsB Tryz.prog 113 0 [.loc s1 k1 0 0] bx (fun d bx' => d = .bool (moreG l) ∧ bx' = bx) (fun _ _ => False) := fnB_calls mixed (rule2_d s1 k1 hl hb h1) rfl (by kernel_rfl) rfl
end Go.V.Gr
