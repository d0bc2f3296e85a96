/-
  Grammar: the parser's lists.
-/
import Derived.Test.YtgcbdhnkigmfpaaGreatDoorGs
import Derived.Test.YtgcbdhnkigmfpaaGreatDoorGp
namespace Go.V.Gr
open Go.Proofs Go.RowKit Go.V.Lx
set_option linter.unusedSimpArgs false
set_option linter.unusedVariables false
set_option maxRecDepth 100000

theorem pureL_parts (l : List Part) : D.pureL (l.map Part.d) = true := pureL_map _ _ fun _ => by simp [Part.d, go_sem]
theorem pureL_gives (l : List Give) : D.pureL (l.map Give.d) = true := pureL_map _ _ fun _ => by simp [Give.d, go_sem]
/-- what the parser's users rest on, all the while -/
structure Rests (J : Bxs → List Tk → Prop) (s N : Nat) : Prop where
  own : ∀ bx bx' l, J bx l → (∀ q, q ≠ s → bx' q = bx q) → J bx' l
  len : ∀ bx l, J bx l → l.length ≤ N
/-- a closure's contract: whether there is more -/
def MoreC (J : Bxs → List Tk → Prop) (f : FuncId) (cs : List D) (more : List Tk → Bool) : Prop := ∀ bx l, J bx l → CallsB Tryz.prog f 0 cs bx (fun d bx' => d = .bool (more l) ∧ bx' = bx) (fun _ _ => False)
/-- a closure's contract: one item -/
def ItemC {α : Type} (J : Bxs → List Tk → Prop) (Z : Bxs → Prop) (s n : Nat) (f : FuncId) (cs : List D) (item : Rd α) (enc : α → D) : Prop := ∀ bx l, J bx l → CallsB Tryz.prog f 0 cs bx
  (fun d bx' => ∃ a r, item l = .ok (a, r) ∧ (∃ x, outD bx' d = some x ∧ Weak x (enc a)) ∧ J (frzL bx' [d]) r ∧ frzL bx' [d] s = bx s)
  (fun d bx' => ∃ r, item l = .error r ∧ d = placeD n r ∧ Z bx')
theorem many_on {α : Type} {more : List Tk → Bool} {item : Rd α} (he : Eats item) (h0 : more [] = false) {l r : List Tk} {a : α} (hm : more l = true) (hi : item l = .ok (a, r)) : some' more item l = match some' more item r with
    | .ok (ys, r') => .ok (a :: ys, r')
    | .error r' => .error r' := by
  have hlt := he _ _ _ hi
  obtain ⟨k, hk⟩ : ∃ k, l.length = k + 1 := ⟨l.length - 1, by omega⟩
  unfold some'
  rw [hk]
  simp only [many, hm, if_true, Rd.bind, hi]
  rw [many_fuel he h0 k r.length r (by omega) (Nat.le_refl _)]
  cases many more item r.length r with
  | error r' => rfl
  | ok q => rfl
theorem many_err {α : Type} {more : List Tk → Bool} {item : Rd α} (he : Eats item) (h0 : more [] = false) {l r : List Tk} (hm : more l = true) (hi : item l = .error r) : some' more item l = .error r := by
  obtain ⟨k, hk⟩ : ∃ k, l.length = k + 1 := by
    cases l with
    | nil => rw [h0] at hm; cases hm
    | cons x r => exact ⟨_, rfl⟩
  unfold some'
  rw [hk]
  simp only [many, hm, if_true, Rd.bind, hi]
theorem many_end {α : Type} {more : List Tk → Bool} {item : Rd α} {l : List Tk} (hm : more l = false) : some' more item l = .ok ([], l) := by
  unfold some'
  cases l.length with
  | zero => rfl
  | succ k => simp [many, hm]
def glue {α : Type} (xs : List α) : Except (List Tk) (List α × List Tk) → Except (List Tk) (List α × List Tk)
  | .ok (ys, r) => .ok (xs ++ ys, r)
  | .error r => .error r
def tokN (bx : Bxs) : Nat := match (bx 14).es with
  | [.agg (.sl _ ts :: _)] => ts.length
  | _ => 0
theorem tokN_of {e : Nat} {l : List Tk} {n : Nat} {g : G6} {bx : Bxs} (h : PSt bx e l n g) : tokN bx = l.length := by
  have h : bx 14 = _ := h
  simp [tokN, h, pd]
/-- a slice handed over is looked at -/
def SomeOk {α : Type} (J : Bxs → List Tk → Prop) (s el esz : Nat) (p : Rd (List α)) (enc : α → D) (l : List Tk) : D → Bxs → Prop := fun d bx' => ∃ xs r, p l = .ok (xs, r) ∧ OwnV bx' [s] el esz d (xs.map enc) ∧ J bx' r
def SomeEr {α : Type} (Z : Bxs → Prop) (n : Nat) (p : Rd (List α)) (l : List Tk) : D → Bxs → Prop := fun d bx' => ∃ r, p l = .error r ∧ d = placeD n r ∧ Z bx'

variable {bx : Bxs} {l : List Tk} {n : Nat}

theorem someStr_d (b : Nat) {J : Bxs → List Tk → Prop} {Z : Bxs → Prop} {dm di : D} {fm fi : FuncId} {cm ci : List D} {more : List Tk → Bool} {item : Rd Str}
    (hR : Rests J (b + 11) 1000000) (hM : MoreC J fm cm more) (hI : ItemC J Z (b + 11) n fi ci item D.str) (hZ : ∀ bx l, J bx l → tokN bx = l.length) (he : Eats item) (h0 : more [] = false)
    (hm : ∀ C bx K, callD C fm cm bx K → callV C dm [] bx K) (hi : ∀ C bx K, callD C fi ci bx K → callV C di [] bx K) (hb : J bx l) :
    fnB Tryz.prog (orac Tryz.prog) [] Tryz.f74 b [dm, di] bx (SomeOk J (b + 11) 9 1 (some' more item) D.str l) (SomeEr Z n (some' more item) l) := by
  refine fnB_intro _ [.tmp 4] 13 rfl rfl rfl (by kernel_rfl) ?_
  have hl := hR.len _ _ hb
  simp (maxSteps := 1000000) (disch := omega) only [go_sem]
  refine cD_loop (fun σ bx => σ 0 = dm ∧ σ 1 = di ∧ ∃ xs l', OwnV bx [b + 11] 9 1 (σ 4) (xs.map D.str) ∧ J bx l' ∧ xs.length + l'.length ≤ l.length ∧ some' more item l = glue xs (some' more item l')) (fun _ bx => tokN bx)
    ⟨by simp [go_sem, argsF, upd], by simp [go_sem, argsF, upd], [], l, ?_, hb, by simp, ?_⟩ ?_
  · show OwnV bx [b + 11] _ _ .nilsl []
    exact OwnV.nil _ _ _ _
  · cases some' more item l with
    | ok q => rfl
    | error r => rfl
  rintro σ bx ⟨s0, s1, xs, l', hv, hj, hlen, hgo⟩
  obtain ⟨v1, v2, v3⟩ := hv.facts
  simp (maxSteps := 1000000) (disch := omega) only [go_sem, s0, s1]
  refine hm _ _ _ (call_boxes (hM _ _ hj) rfl ?_)
  rintro d bx' ⟨rfl, rfl⟩
  cases hmo : more l' with
  | false =>
    simp (maxSteps := 1000000) (disch := omega) only [go_sem, s0, s1]
    rw [many_end hmo] at hgo
    exact ⟨xs, l', by rw [hgo]; simp [glue], hv, hj⟩
  | true =>
    simp (maxSteps := 1000000) (disch := omega) only [go_sem, s0, s1]
    refine hi _ _ _ (call_out (hI _ _ hj) rfl (fun d bx1 hp => ?_) (fun d bx1 hp => ?_))
    · obtain ⟨a, r, h1, ⟨x, hx, hw⟩, h2, h3⟩ := hp
      refine ⟨x, _, hx, hw, ?_⟩
      have hlt := he _ _ _ h1
      have hv2 : OwnV (frzL bx1 [d]) [b + 11] 9 1 (σ 4) (xs.map D.str) := hv.of fun q hq => by simp at hq; rw [hq]; exact h3
      generalize frzL bx1 [d] = bx2 at h2 h3 hv2 ⊢
      simp (maxSteps := 1000000) (disch := omega) only [go_sem, s0, s1, List.range_succ, List.range_zero, List.nil_append]
      refine append_all hv2 (by simp [go_sem]) ?_ (by omega) (by omega) (by omega) (fun x' bx3 g1 g2 => ?_)
      · simp only [List.length_map, List.length_cons, List.length_nil]; omega
      · simp (maxSteps := 1000000) (disch := omega) only [go_sem, s0, s1]
        refine ⟨⟨xs ++ [a], r, by simpa [List.map_append] using g1, hR.own _ _ _ h2 g2, by simp; omega, ?_⟩, ?_⟩
        · rw [hgo, many_on he h0 hmo h1]
          cases some' more item r with
          | ok q => simp [glue]
          | error r => rfl
        · rw [hZ _ _ (hR.own _ _ _ h2 g2), hZ _ _ hj]; exact hlt
    · obtain ⟨r, h1, rfl, h2⟩ := hp
      simp (maxSteps := 1000000) (disch := omega) only [go_sem, s0, s1]
      exact ⟨r, by rw [hgo, many_err he h0 hmo h1]; rfl, rfl, h2⟩
theorem someStr_c (b : Nat) {J : Bxs → List Tk → Prop} {Z : Bxs → Prop} {dm di : D} {fm fi : FuncId} {cm ci : List D} {more : List Tk → Bool} {item : Rd Str}
    (hR : Rests J (b + 11) 1000000) (hM : MoreC J fm cm more) (hI : ItemC J Z (b + 11) n fi ci item D.str) (hZ : ∀ bx l, J bx l → tokN bx = l.length) (he : Eats item) (h0 : more [] = false)
    (hm : ∀ C bx K, callD C fm cm bx K → callV C dm [] bx K) (hi : ∀ C bx K, callD C fi ci bx K → callV C di [] bx K) (hb : J bx l) :
    CallsB Tryz.prog 74 0 [dm, di] bx (SomeOk J (b + 11) 9 1 (some' more item) D.str l) (SomeEr Z n (some' more item) l) :=
  (fnB_calls mixed (someStr_d b hR hM hI hZ he h0 hm hi hb) rfl (by kernel_rfl) rfl : CallsB _ _ b _ _ _ _)

theorem someEnt_d (b : Nat) {J : Bxs → List Tk → Prop} {Z : Bxs → Prop} {dm di : D} {fm fi : FuncId} {cm ci : List D} {more : List Tk → Bool} {item : Rd Entry}
    (hR : Rests J (b + 11) 1000000) (hM : MoreC J fm cm more) (hI : ItemC J Z (b + 11) n fi ci item Entry.d) (hZ : ∀ bx l, J bx l → tokN bx = l.length) (he : Eats item) (h0 : more [] = false)
    (hm : ∀ C bx K, callD C fm cm bx K → callV C dm [] bx K) (hi : ∀ C bx K, callD C fi ci bx K → callV C di [] bx K) (hb : J bx l) :
    fnB Tryz.prog (orac Tryz.prog) [] Tryz.f77 b [dm, di] bx (SomeOk J (b + 11) 44 5 (some' more item) Entry.d l) (SomeEr Z n (some' more item) l) := by
  refine fnB_intro _ [.tmp 4] 13 rfl rfl rfl (by kernel_rfl) ?_
  have hl := hR.len _ _ hb
  simp (maxSteps := 1000000) (disch := omega) only [go_sem]
  refine cD_loop (fun σ bx => σ 0 = dm ∧ σ 1 = di ∧ ∃ xs l', OwnV bx [b + 11] 44 5 (σ 4) (xs.map Entry.d) ∧ J bx l' ∧ xs.length + l'.length ≤ l.length ∧ some' more item l = glue xs (some' more item l')) (fun _ bx => tokN bx)
    ⟨by simp [go_sem, argsF, upd], by simp [go_sem, argsF, upd], [], l, ?_, hb, by simp, ?_⟩ ?_
  · show OwnV bx [b + 11] _ _ .nilsl []
    exact OwnV.nil _ _ _ _
  · cases some' more item l with
    | ok q => rfl
    | error r => rfl
  rintro σ bx ⟨s0, s1, xs, l', hv, hj, hlen, hgo⟩
  obtain ⟨v1, v2, v3⟩ := hv.facts
  simp (maxSteps := 1000000) (disch := omega) only [go_sem, s0, s1]
  refine hm _ _ _ (call_boxes (hM _ _ hj) rfl ?_)
  rintro d bx' ⟨rfl, rfl⟩
  cases hmo : more l' with
  | false =>
    simp (maxSteps := 1000000) (disch := omega) only [go_sem, s0, s1]
    rw [many_end hmo] at hgo
    exact ⟨xs, l', by rw [hgo]; simp [glue], hv, hj⟩
  | true =>
    simp (maxSteps := 1000000) (disch := omega) only [go_sem, s0, s1]
    refine hi _ _ _ (call_out (hI _ _ hj) rfl (fun d bx1 hp => ?_) (fun d bx1 hp => ?_))
    · obtain ⟨a, r, h1, ⟨x, hx, hw⟩, h2, h3⟩ := hp
      refine ⟨x, _, hx, hw, ?_⟩
      have hlt := he _ _ _ h1
      have hv2 : OwnV (frzL bx1 [d]) [b + 11] 44 5 (σ 4) (xs.map Entry.d) := hv.of fun q hq => by simp at hq; rw [hq]; exact h3
      generalize frzL bx1 [d] = bx2 at h2 h3 hv2 ⊢
      simp (maxSteps := 1000000) (disch := omega) only [go_sem, s0, s1, Entry.d, strs, pureL_strs, List.range_succ, List.range_zero, List.nil_append]
      refine append_all hv2 (by simp [go_sem]) ?_ (by omega) (by omega) (by omega) (fun x' bx3 g1 g2 => ?_)
      · simp only [List.length_map, List.length_cons, List.length_nil]; omega
      · simp (maxSteps := 1000000) (disch := omega) only [go_sem, s0, s1]
        refine ⟨⟨xs ++ [a], r, by simpa [Entry.d, strs, pureL_strs, List.map_append] using g1, hR.own _ _ _ h2 g2, by simp; omega, ?_⟩, ?_⟩
        · rw [hgo, many_on he h0 hmo h1]
          cases some' more item r with
          | ok q => simp [glue]
          | error r => rfl
        · rw [hZ _ _ (hR.own _ _ _ h2 g2), hZ _ _ hj]; exact hlt
    · obtain ⟨r, h1, rfl, h2⟩ := hp
      simp (maxSteps := 1000000) (disch := omega) only [go_sem, s0, s1]
      exact ⟨r, by rw [hgo, many_err he h0 hmo h1]; rfl, rfl, h2⟩
theorem someEnt_c (b : Nat) {J : Bxs → List Tk → Prop} {Z : Bxs → Prop} {dm di : D} {fm fi : FuncId} {cm ci : List D} {more : List Tk → Bool} {item : Rd Entry}
    (hR : Rests J (b + 11) 1000000) (hM : MoreC J fm cm more) (hI : ItemC J Z (b + 11) n fi ci item Entry.d) (hZ : ∀ bx l, J bx l → tokN bx = l.length) (he : Eats item) (h0 : more [] = false)
    (hm : ∀ C bx K, callD C fm cm bx K → callV C dm [] bx K) (hi : ∀ C bx K, callD C fi ci bx K → callV C di [] bx K) (hb : J bx l) :
    CallsB Tryz.prog 77 0 [dm, di] bx (SomeOk J (b + 11) 44 5 (some' more item) Entry.d l) (SomeEr Z n (some' more item) l) :=
  (fnB_calls mixed (someEnt_d b hR hM hI hZ he h0 hm hi hb) rfl (by kernel_rfl) rfl : CallsB _ _ b _ _ _ _)

theorem someRul_d (b : Nat) {J : Bxs → List Tk → Prop} {Z : Bxs → Prop} {dm di : D} {fm fi : FuncId} {cm ci : List D} {more : List Tk → Bool} {item : Rd Rule}
    (hR : Rests J (b + 11) 1000000) (hM : MoreC J fm cm more) (hI : ItemC J Z (b + 11) n fi ci item Rule.d) (hZ : ∀ bx l, J bx l → tokN bx = l.length) (he : Eats item) (h0 : more [] = false)
    (hm : ∀ C bx K, callD C fm cm bx K → callV C dm [] bx K) (hi : ∀ C bx K, callD C fi ci bx K → callV C di [] bx K) (hb : J bx l) :
    fnB Tryz.prog (orac Tryz.prog) [] Tryz.f79 b [dm, di] bx (SomeOk J (b + 11) 42 5 (some' more item) Rule.d l) (SomeEr Z n (some' more item) l) := by
  refine fnB_intro _ [.tmp 4] 13 rfl rfl rfl (by kernel_rfl) ?_
  have hl := hR.len _ _ hb
  simp (maxSteps := 1000000) (disch := omega) only [go_sem]
  refine cD_loop (fun σ bx => σ 0 = dm ∧ σ 1 = di ∧ ∃ xs l', OwnV bx [b + 11] 42 5 (σ 4) (xs.map Rule.d) ∧ J bx l' ∧ xs.length + l'.length ≤ l.length ∧ some' more item l = glue xs (some' more item l')) (fun _ bx => tokN bx)
    ⟨by simp [go_sem, argsF, upd], by simp [go_sem, argsF, upd], [], l, ?_, hb, by simp, ?_⟩ ?_
  · show OwnV bx [b + 11] _ _ .nilsl []
    exact OwnV.nil _ _ _ _
  · cases some' more item l with
    | ok q => rfl
    | error r => rfl
  rintro σ bx ⟨s0, s1, xs, l', hv, hj, hlen, hgo⟩
  obtain ⟨v1, v2, v3⟩ := hv.facts
  simp (maxSteps := 1000000) (disch := omega) only [go_sem, s0, s1]
  refine hm _ _ _ (call_boxes (hM _ _ hj) rfl ?_)
  rintro d bx' ⟨rfl, rfl⟩
  cases hmo : more l' with
  | false =>
    simp (maxSteps := 1000000) (disch := omega) only [go_sem, s0, s1]
    rw [many_end hmo] at hgo
    exact ⟨xs, l', by rw [hgo]; simp [glue], hv, hj⟩
  | true =>
    simp (maxSteps := 1000000) (disch := omega) only [go_sem, s0, s1]
    refine hi _ _ _ (call_out (hI _ _ hj) rfl (fun d bx1 hp => ?_) (fun d bx1 hp => ?_))
    · obtain ⟨a, r, h1, ⟨x, hx, hw⟩, h2, h3⟩ := hp
      refine ⟨x, _, hx, hw, ?_⟩
      have hlt := he _ _ _ h1
      have hv2 : OwnV (frzL bx1 [d]) [b + 11] 42 5 (σ 4) (xs.map Rule.d) := hv.of fun q hq => by simp at hq; rw [hq]; exact h3
      generalize frzL bx1 [d] = bx2 at h2 h3 hv2 ⊢
      simp (maxSteps := 1000000) (disch := omega) only [go_sem, s0, s1, Rule.d, pureL_parts, pureL_gives, List.range_succ, List.range_zero, List.nil_append]
      refine append_all hv2 (by simp [go_sem]) ?_ (by omega) (by omega) (by omega) (fun x' bx3 g1 g2 => ?_)
      · simp only [List.length_map, List.length_cons, List.length_nil]; omega
      · simp (maxSteps := 1000000) (disch := omega) only [go_sem, s0, s1]
        refine ⟨⟨xs ++ [a], r, by simpa [Rule.d, pureL_parts, pureL_gives, List.map_append] using g1, hR.own _ _ _ h2 g2, by simp; omega, ?_⟩, ?_⟩
        · rw [hgo, many_on he h0 hmo h1]
          cases some' more item r with
          | ok q => simp [glue]
          | error r => rfl
        · rw [hZ _ _ (hR.own _ _ _ h2 g2), hZ _ _ hj]; exact hlt
    · obtain ⟨r, h1, rfl, h2⟩ := hp
      simp (maxSteps := 1000000) (disch := omega) only [go_sem, s0, s1]
      exact ⟨r, by rw [hgo, many_err he h0 hmo h1]; rfl, rfl, h2⟩
theorem someRul_c (b : Nat) {J : Bxs → List Tk → Prop} {Z : Bxs → Prop} {dm di : D} {fm fi : FuncId} {cm ci : List D} {more : List Tk → Bool} {item : Rd Rule}
    (hR : Rests J (b + 11) 1000000) (hM : MoreC J fm cm more) (hI : ItemC J Z (b + 11) n fi ci item Rule.d) (hZ : ∀ bx l, J bx l → tokN bx = l.length) (he : Eats item) (h0 : more [] = false)
    (hm : ∀ C bx K, callD C fm cm bx K → callV C dm [] bx K) (hi : ∀ C bx K, callD C fi ci bx K → callV C di [] bx K) (hb : J bx l) :
    CallsB Tryz.prog 79 0 [dm, di] bx (SomeOk J (b + 11) 42 5 (some' more item) Rule.d l) (SomeEr Z n (some' more item) l) :=
  (fnB_calls mixed (someRul_d b hR hM hI hZ he h0 hm hi hb) rfl (by kernel_rfl) rfl : CallsB _ _ b _ _ _ _)

theorem somePar_d (b : Nat) {J : Bxs → List Tk → Prop} {Z : Bxs → Prop} {dm di : D} {fm fi : FuncId} {cm ci : List D} {more : List Tk → Bool} {item : Rd Part}
    (hR : Rests J (b + 11) 1000000) (hM : MoreC J fm cm more) (hI : ItemC J Z (b + 11) n fi ci item Part.d) (hZ : ∀ bx l, J bx l → tokN bx = l.length) (he : Eats item) (h0 : more [] = false)
    (hm : ∀ C bx K, callD C fm cm bx K → callV C dm [] bx K) (hi : ∀ C bx K, callD C fi ci bx K → callV C di [] bx K) (hb : J bx l) :
    fnB Tryz.prog (orac Tryz.prog) [] Tryz.f108 b [dm, di] bx (SomeOk J (b + 11) 46 3 (some' more item) Part.d l) (SomeEr Z n (some' more item) l) := by
  refine fnB_intro _ [.tmp 4] 13 rfl rfl rfl (by kernel_rfl) ?_
  have hl := hR.len _ _ hb
  simp (maxSteps := 1000000) (disch := omega) only [go_sem]
  refine cD_loop (fun σ bx => σ 0 = dm ∧ σ 1 = di ∧ ∃ xs l', OwnV bx [b + 11] 46 3 (σ 4) (xs.map Part.d) ∧ J bx l' ∧ xs.length + l'.length ≤ l.length ∧ some' more item l = glue xs (some' more item l')) (fun _ bx => tokN bx)
    ⟨by simp [go_sem, argsF, upd], by simp [go_sem, argsF, upd], [], l, ?_, hb, by simp, ?_⟩ ?_
  · show OwnV bx [b + 11] _ _ .nilsl []
    exact OwnV.nil _ _ _ _
  · cases some' more item l with
    | ok q => rfl
    | error r => rfl
  rintro σ bx ⟨s0, s1, xs, l', hv, hj, hlen, hgo⟩
  obtain ⟨v1, v2, v3⟩ := hv.facts
  simp (maxSteps := 1000000) (disch := omega) only [go_sem, s0, s1]
  refine hm _ _ _ (call_boxes (hM _ _ hj) rfl ?_)
  rintro d bx' ⟨rfl, rfl⟩
  cases hmo : more l' with
  | false =>
    simp (maxSteps := 1000000) (disch := omega) only [go_sem, s0, s1]
    rw [many_end hmo] at hgo
    exact ⟨xs, l', by rw [hgo]; simp [glue], hv, hj⟩
  | true =>
    simp (maxSteps := 1000000) (disch := omega) only [go_sem, s0, s1]
    refine hi _ _ _ (call_out (hI _ _ hj) rfl (fun d bx1 hp => ?_) (fun d bx1 hp => ?_))
    · obtain ⟨a, r, h1, ⟨x, hx, hw⟩, h2, h3⟩ := hp
      refine ⟨x, _, hx, hw, ?_⟩
      have hlt := he _ _ _ h1
      have hv2 : OwnV (frzL bx1 [d]) [b + 11] 46 3 (σ 4) (xs.map Part.d) := hv.of fun q hq => by simp at hq; rw [hq]; exact h3
      generalize frzL bx1 [d] = bx2 at h2 h3 hv2 ⊢
      simp (maxSteps := 1000000) (disch := omega) only [go_sem, s0, s1, Part.d, List.range_succ, List.range_zero, List.nil_append]
      refine append_all hv2 (by simp [go_sem]) ?_ (by omega) (by omega) (by omega) (fun x' bx3 g1 g2 => ?_)
      · simp only [List.length_map, List.length_cons, List.length_nil]; omega
      · simp (maxSteps := 1000000) (disch := omega) only [go_sem, s0, s1]
        refine ⟨⟨xs ++ [a], r, by simpa [Part.d, List.map_append] using g1, hR.own _ _ _ h2 g2, by simp; omega, ?_⟩, ?_⟩
        · rw [hgo, many_on he h0 hmo h1]
          cases some' more item r with
          | ok q => simp [glue]
          | error r => rfl
        · rw [hZ _ _ (hR.own _ _ _ h2 g2), hZ _ _ hj]; exact hlt
    · obtain ⟨r, h1, rfl, h2⟩ := hp
      simp (maxSteps := 1000000) (disch := omega) only [go_sem, s0, s1]
      exact ⟨r, by rw [hgo, many_err he h0 hmo h1]; rfl, rfl, h2⟩
theorem somePar_c (b : Nat) {J : Bxs → List Tk → Prop} {Z : Bxs → Prop} {dm di : D} {fm fi : FuncId} {cm ci : List D} {more : List Tk → Bool} {item : Rd Part}
    (hR : Rests J (b + 11) 1000000) (hM : MoreC J fm cm more) (hI : ItemC J Z (b + 11) n fi ci item Part.d) (hZ : ∀ bx l, J bx l → tokN bx = l.length) (he : Eats item) (h0 : more [] = false)
    (hm : ∀ C bx K, callD C fm cm bx K → callV C dm [] bx K) (hi : ∀ C bx K, callD C fi ci bx K → callV C di [] bx K) (hb : J bx l) :
    CallsB Tryz.prog 108 0 [dm, di] bx (SomeOk J (b + 11) 46 3 (some' more item) Part.d l) (SomeEr Z n (some' more item) l) :=
  (fnB_calls mixed (somePar_d b hR hM hI hZ he h0 hm hi hb) rfl (by kernel_rfl) rfl : CallsB _ _ b _ _ _ _)

theorem someGiv_d (b : Nat) {J : Bxs → List Tk → Prop} {Z : Bxs → Prop} {dm di : D} {fm fi : FuncId} {cm ci : List D} {more : List Tk → Bool} {item : Rd Give}
    (hR : Rests J (b + 11) 1000000) (hM : MoreC J fm cm more) (hI : ItemC J Z (b + 11) n fi ci item Give.d) (hZ : ∀ bx l, J bx l → tokN bx = l.length) (he : Eats item) (h0 : more [] = false)
    (hm : ∀ C bx K, callD C fm cm bx K → callV C dm [] bx K) (hi : ∀ C bx K, callD C fi ci bx K → callV C di [] bx K) (hb : J bx l) :
    fnB Tryz.prog (orac Tryz.prog) [] Tryz.f112 b [dm, di] bx (SomeOk J (b + 11) 70 2 (some' more item) Give.d l) (SomeEr Z n (some' more item) l) := by
  refine fnB_intro _ [.tmp 4] 13 rfl rfl rfl (by kernel_rfl) ?_
  have hl := hR.len _ _ hb
  simp (maxSteps := 1000000) (disch := omega) only [go_sem]
  refine cD_loop (fun σ bx => σ 0 = dm ∧ σ 1 = di ∧ ∃ xs l', OwnV bx [b + 11] 70 2 (σ 4) (xs.map Give.d) ∧ J bx l' ∧ xs.length + l'.length ≤ l.length ∧ some' more item l = glue xs (some' more item l')) (fun _ bx => tokN bx)
    ⟨by simp [go_sem, argsF, upd], by simp [go_sem, argsF, upd], [], l, ?_, hb, by simp, ?_⟩ ?_
  · show OwnV bx [b + 11] _ _ .nilsl []
    exact OwnV.nil _ _ _ _
  · cases some' more item l with
    | ok q => rfl
    | error r => rfl
  rintro σ bx ⟨s0, s1, xs, l', hv, hj, hlen, hgo⟩
  obtain ⟨v1, v2, v3⟩ := hv.facts
  simp (maxSteps := 1000000) (disch := omega) only [go_sem, s0, s1]
  refine hm _ _ _ (call_boxes (hM _ _ hj) rfl ?_)
  rintro d bx' ⟨rfl, rfl⟩
  cases hmo : more l' with
  | false =>
    simp (maxSteps := 1000000) (disch := omega) only [go_sem, s0, s1]
    rw [many_end hmo] at hgo
    exact ⟨xs, l', by rw [hgo]; simp [glue], hv, hj⟩
  | true =>
    simp (maxSteps := 1000000) (disch := omega) only [go_sem, s0, s1]
    refine hi _ _ _ (call_out (hI _ _ hj) rfl (fun d bx1 hp => ?_) (fun d bx1 hp => ?_))
    · obtain ⟨a, r, h1, ⟨x, hx, hw⟩, h2, h3⟩ := hp
      refine ⟨x, _, hx, hw, ?_⟩
      have hlt := he _ _ _ h1
      have hv2 : OwnV (frzL bx1 [d]) [b + 11] 70 2 (σ 4) (xs.map Give.d) := hv.of fun q hq => by simp at hq; rw [hq]; exact h3
      generalize frzL bx1 [d] = bx2 at h2 h3 hv2 ⊢
      simp (maxSteps := 1000000) (disch := omega) only [go_sem, s0, s1, Give.d, List.range_succ, List.range_zero, List.nil_append]
      refine append_all hv2 (by simp [go_sem]) ?_ (by omega) (by omega) (by omega) (fun x' bx3 g1 g2 => ?_)
      · simp only [List.length_map, List.length_cons, List.length_nil]; omega
      · simp (maxSteps := 1000000) (disch := omega) only [go_sem, s0, s1]
        refine ⟨⟨xs ++ [a], r, by simpa [Give.d, List.map_append] using g1, hR.own _ _ _ h2 g2, by simp; omega, ?_⟩, ?_⟩
        · rw [hgo, many_on he h0 hmo h1]
          cases some' more item r with
          | ok q => simp [glue]
          | error r => rfl
        · rw [hZ _ _ (hR.own _ _ _ h2 g2), hZ _ _ hj]; exact hlt
    · obtain ⟨r, h1, rfl, h2⟩ := hp
      simp (maxSteps := 1000000) (disch := omega) only [go_sem, s0, s1]
      exact ⟨r, by rw [hgo, many_err he h0 hmo h1]; rfl, rfl, h2⟩
theorem someGiv_c (b : Nat) {J : Bxs → List Tk → Prop} {Z : Bxs → Prop} {dm di : D} {fm fi : FuncId} {cm ci : List D} {more : List Tk → Bool} {item : Rd Give}
    (hR : Rests J (b + 11) 1000000) (hM : MoreC J fm cm more) (hI : ItemC J Z (b + 11) n fi ci item Give.d) (hZ : ∀ bx l, J bx l → tokN bx = l.length) (he : Eats item) (h0 : more [] = false)
    (hm : ∀ C bx K, callD C fm cm bx K → callV C dm [] bx K) (hi : ∀ C bx K, callD C fi ci bx K → callV C di [] bx K) (hb : J bx l) :
    CallsB Tryz.prog 112 0 [dm, di] bx (SomeOk J (b + 11) 70 2 (some' more item) Give.d l) (SomeEr Z n (some' more item) l) :=
  (fnB_calls mixed (someGiv_d b hR hM hI hZ he h0 hm hi hb) rfl (by kernel_rfl) rfl : CallsB _ _ b _ _ _ _)
end Go.V.Gr
