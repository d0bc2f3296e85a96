/-
  Grammar: the tokens that are written.
-/
import Derived.Test.YtgcbdhnkigmfpaaGreatDoorGd
namespace Go.V.Gr
open Go.Proofs Go.RowKit Go.V.Lx
set_option linter.unusedSimpArgs false
set_option linter.unusedVariables false
set_option maxRecDepth 100000

def varsG : List Nat := [48, 52, 54, 56]
def KG (bx bx' : Bxs) : Prop := ∀ q, q < 200 → q ≠ 9 → q ∉ varsG → bx' q = bx q
theorem KG.refl (bx : Bxs) : KG bx bx := fun _ _ _ _ => rfl
theorem KG.upd {bx bx' : Bxs} (h : KG bx bx') {t : Nat} (ht : t ∈ varsG) (v : Bx) : KG bx (upd bx' t v) := fun q h1 h2 h3 => by
  rw [upd_ne (by rintro rfl; exact h3 ht)]; exact h q h1 h2 h3
theorem WSt.upd {bx : Bxs} {e : Nat} {ys : List Tk} (h : WSt bx e ys) {t : Nat} (h1 : t ≠ 9) (h2 : t ∉ slotsW) (v : Bx) : WSt (upd bx t v) e ys := by
  obtain ⟨l, h9, hv⟩ := h
  exact ⟨l, by rw [upd_ne (Ne.symm h1)]; exact h9, hv.of fun q hq => upd_ne (by rintro rfl; exact h2 hq)⟩
theorem put_k (m : List It) {e : Nat} {bx bx' : Bxs} {ys : List Tk} (hw : WSt bx' e ys) (hK : KG bx bx') (hn : ys.length + 2 * m.length ≤ 999990) :
    CallsB Tryz.prog 33 0 [.loc 9 e 0 0, .sl 1 (m.map It.d)] bx' (fun d b2 => d = .tup [] ∧ WSt b2 e (ys ++ m.flatMap It.toks) ∧ KG bx b2 ∧ ∀ q, q < 200 → q ≠ 9 → b2 q = bx' q) (fun _ _ => False) :=
  (put_c m e bx' ys hw hn).mono (fun d b2 h => ⟨h.1, h.2.1, fun q h1 h2 h3 => (h.2.2 q h1 h2).trans (hK q h1 h2 h3), h.2.2⟩) (fun _ _ h => h)
theorem flat_take {α : Type} (f : α → List Tk) {l : List α} {k : Nat} {x : α} (h : l[k]? = some x) : (l.take (k + 1)).flatMap f = (l.take k).flatMap f ++ f x := by
  rw [List.take_add_one, h]; simp
theorem flat_le {α : Type} (f : α → List Tk) (l : List α) (k : Nat) : ((l.take k).flatMap f).length ≤ (l.flatMap f).length := by
  have := congrArg (fun m => (m.flatMap f).length) (List.take_append_drop k l)
  simp only [List.flatMap_append, List.length_append] at this
  omega
theorem flat_at {α : Type} (f : α → List Tk) {l : List α} {k : Nat} {x : α} (h : l[k]? = some x) : ((l.take k).flatMap f).length + (f x).length ≤ (l.flatMap f).length := by
  have := flat_le f l (k + 1)
  rw [flat_take f h, List.length_append] at this
  exact this
theorem gives_take {l : List Str} {k : Nat} {x : Str} (h : l[k]? = some x) : tokGives (l.take (k + 1)) = tokGives (l.take k) ++ (if k = 0 then [nT x] else tokComma x) := by
  cases l with
  | nil => cases h
  | cons a l =>
    cases k with
    | zero => simp only [List.getElem?_cons_zero, Option.some.injEq] at h; subst h; rfl
    | succ k =>
      rw [List.getElem?_cons_succ] at h
      rw [List.take_succ_cons, List.take_succ_cons, tokGives, tokGives, flat_take tokComma h, if_neg (by omega)]
      simp
theorem gives_le (l : List Str) (k : Nat) : (tokGives (l.take k)).length ≤ (tokGives l).length := by
  cases l with
  | nil => simp
  | cons a l =>
    cases k with
    | zero => simp [tokGives]
    | succ k => rw [List.take_succ_cons, tokGives, tokGives, List.length_cons, List.length_cons]; have := flat_le tokComma l k; omega

theorem len_1 {α : Type} (f : α → List Tk) (g : Gram) (a b : Nat) (h : a + b ≤ 900000) : a ≤ 900000 := by omega
set_option maxHeartbeats 8000000 in
theorem grammar_d (g : Gram) (e : Nat) (bx : Bxs) (hw : WSt bx e []) (hn : (tokensOf g).length ≤ 900000) (hc : g.cats.length ≤ 1000000) (he : g.entries.length ≤ 1000000) (hr : g.rules.length ≤ 1000000)
    (hgs : ∀ x ∈ g.entries, x.gives.length ≤ 1000000) (hps : ∀ x ∈ g.rules, x.parts.length ≤ 1000000 ∧ x.gives.length ≤ 1000000) :
    fnB Tryz.prog (orac Tryz.prog) [] Tryz.f14 41 [.loc 9 e 0 0, g.d] bx (fun d bx' => d = .tup [] ∧ WSt bx' e (tokensOf g) ∧ ∀ q, q < 41 → q ≠ 9 → bx' q = bx q) (fun _ _ => False) := by
  refine fnB_intro _ [] 149 rfl rfl rfl (by kernel_rfl) ?_
  have hgd : g.d = .agg [.str g.name, strs g.cats, .str g.start, .int .i64 g.no, .sl 5 (g.entries.map Entry.d), .sl 5 (g.rules.map Rule.d)] := rfl
  rw [hgd]
  simp (maxSteps := 1000000) (disch := omega) only [go_sem, strs, D.pure]
  obtain ⟨bx1, hb1⟩ : ∃ b, b = upd bx 44 ⟨(bx 44).ep + 1, 1, 6, 26, [.agg [.str g.name, .sl 1 (g.cats.map D.str), .str g.start, .int .i64 g.no, .sl 5 (g.entries.map Entry.d), .sl 5 (g.rules.map Rule.d)]]⟩ := ⟨_, rfl⟩
  rw [← hb1]
  have hG : bx1 44 = ⟨(bx 44).ep + 1, 1, 6, 26, [.agg [.str g.name, .sl 1 (g.cats.map D.str), .str g.start, .int .i64 g.no, .sl 5 (g.entries.map Entry.d), .sl 5 (g.rules.map Rule.d)]]⟩ := by rw [hb1, upd_same]
  have hQ : ∀ q, q ≠ 44 → bx1 q = bx q := fun q h => by rw [hb1, upd_ne h]
  have hw1 : WSt bx1 e [] := hb1 ▸ hw.upd (by omega) (by decide) _
  clear hb1 hw
  have t1 : [nT wGrammar, nT g.name, sT [59]].length + (g.cats.flatMap tokCat).length + 3 + (g.entries.flatMap tokEntry).length + (g.rules.flatMap tokRule).length ≤ 900000 := by
    simp only [tokensOf, tokHead, List.length_append, List.length_cons, List.length_nil] at hn ⊢; omega
  simp only [List.length_cons, List.length_nil] at t1
  refine call_boxes (put_k [.w wGrammar, .n g.name, .w [59]] hw1 (KG.refl bx1) (by simp)) rfl ?_
  rintro d b2 ⟨rfl, hw2, hK2, -⟩
  have hG2 := (hK2 44 (by omega) (by omega) (by decide)).trans hG
  clear hw1
  simp only [List.nil_append] at hw2
  simp (maxSteps := 1000000) (disch := omega) only [go_sem, hG2, strs, D.pure]
  refine cD_for g.cats.length (fun k σ bx' => σ 0 = .loc 9 e 0 0 ∧ σ 3 = .loc 44 ((bx 44).ep + 1) 0 0 ∧ σ 25 = .sl 1 (g.cats.map D.str) ∧ σ 26 = .int .i64 g.cats.length ∧ σ 27 = .int .i64 k ∧ WSt bx' e ([It.w wGrammar, It.n g.name, It.w [59]].flatMap It.toks ++ (g.cats.take k).flatMap tokCat) ∧ KG bx1 bx')
    ⟨by simp [go_sem, argsF], by simp [go_sem, argsF], by simp [go_sem], by simp [go_sem], by simp [go_sem], by simpa using hw2, hK2⟩ ?_ ?_
  · rintro k σ bx' hk ⟨h0, h3, h25, h26, h27, hw', hK'⟩
    obtain ⟨x, hx⟩ := get_lt hk
    have hlt : (k : Int) < (g.cats.length : Int) := by omega
    have hws : IntKind.i64.wrap ((k : Int) + 1) = ((k + 1 : Nat) : Int) := wrap_succ (by omega)
    have hle := flat_le tokCat g.cats k
    simp (maxSteps := 1000000) (disch := omega) only [go_sem, h0, h3, h25, h26, h27, hlt, hx, D.pure]
    refine call_boxes (put_k [.w wCategory, .n x, .w [59]] hw' hK' (by simp only [List.length_append, List.flatMap_cons, List.flatMap_nil, List.append_nil, It.toks, List.length_cons, List.length_nil]; omega)) rfl ?_
    rintro d b3 ⟨rfl, hw3, hK3, -⟩
    simp (maxSteps := 1000000) (disch := omega) only [go_sem, h0, h3, h25, h26, h27, hws]
    refine ⟨?_, hK3⟩
    rw [flat_take tokCat hx, ← List.append_assoc]
    exact hw3
  rintro σ bx' ⟨h0, h3, h25, h26, h27, hw', hK'⟩
  have hlt : ¬ (g.cats.length : Int) < (g.cats.length : Int) := by omega
  have hG' := (hK' 44 (by omega) (by omega) (by decide)).trans hG
  rw [List.take_length] at hw'
  clear hw2 hK2 hG2
  simp (maxSteps := 1000000) (disch := omega) only [go_sem, h0, h3, h25, h26, h27, hlt, hG', D.pure]
  refine call_boxes (put_k [.w wStart, .n g.start, .w [59]] hw' hK' (by simp only [List.length_append, List.flatMap_cons, List.flatMap_nil, List.append_nil, It.toks, List.length_cons, List.length_nil]; omega)) rfl ?_
  rintro d b3 ⟨rfl, hw3, hK3, -⟩
  have hG3 := (hK3 44 (by omega) (by omega) (by decide)).trans hG
  have hh : [It.w wGrammar, It.n g.name, It.w [59]].flatMap It.toks ++ g.cats.flatMap tokCat ++ [It.w wStart, It.n g.start, It.w [59]].flatMap It.toks = tokHead g.name g.cats g.start := by
    rw [List.append_assoc]; rfl
  rw [hh] at hw3
  have hhl : (tokHead g.name g.cats g.start).length = (g.cats.flatMap tokCat).length + 6 := by simp only [tokHead, List.length_append, List.length_cons, List.length_nil]; omega
  clear hw' hK' hG'
  simp (maxSteps := 1000000) (disch := omega) only [go_sem, h0, h3, h25, h26, h27, hG3]
  refine cD_for g.entries.length (fun k σ bx' => σ 0 = .loc 9 e 0 0 ∧ σ 3 = .loc 44 ((bx 44).ep + 1) 0 0 ∧ σ 48 = .sl 5 (g.entries.map Entry.d) ∧ σ 49 = .int .i64 g.entries.length ∧ σ 50 = .int .i64 k ∧ WSt bx' e (tokHead g.name g.cats g.start ++ (g.entries.take k).flatMap tokEntry) ∧ KG bx1 bx')
    ⟨by simp [go_sem, h0], by simp [go_sem, h3], by simp [go_sem], by simp [go_sem], by simp [go_sem], by simpa using hw3, hK3⟩ ?_ ?_
  · clear h0 h3 h25 h26 h27 hlt hw3 hK3 hG3 σ bx'
    rintro k σ bx' hk ⟨h0, h3, h48, h49, h50, hw', hK'⟩
    obtain ⟨x, hx⟩ := get_lt hk
    have hlt : (k : Int) < (g.entries.length : Int) := by omega
    have hws : IntKind.i64.wrap ((k : Int) + 1) = ((k + 1 : Nat) : Int) := wrap_succ (by omega)
    have hle := flat_at tokEntry hx
    have hxd : x.d = .agg [.str x.text, .str x.cat, .int .i64 x.no, .sl 1 (x.gives.map D.str), .int .i64 x.cost] := rfl
    have hgl := hgs x (List.mem_of_getElem? hx)
    have hel : (tokEntry x).length = 5 + (tokGives x.gives).length + 3 := by simp only [tokEntry, tokEnd, List.length_append, List.length_cons, List.length_nil]; omega
    simp (maxSteps := 1000000) (disch := omega) only [go_sem, h0, h3, h48, h49, h50, hlt, hx, hxd, D.pure]
    obtain ⟨bx2, hb2⟩ : ∃ b, b = upd (upd bx' 48 ⟨(bx' 48).ep + 1, 1, 5, 44, [.agg [.str [], .str [], .int .i64 0, .nilsl, .int .i64 0]]⟩) 48 ⟨(bx' 48).ep + 1, 1, 5, 44, [.agg [.str x.text, .str x.cat, .int .i64 x.no, .sl 1 (x.gives.map D.str), .int .i64 x.cost]]⟩ := ⟨_, rfl⟩
    rw [← hb2]
    have hX : bx2 48 = ⟨(bx' 48).ep + 1, 1, 5, 44, [.agg [.str x.text, .str x.cat, .int .i64 x.no, .sl 1 (x.gives.map D.str), .int .i64 x.cost]]⟩ := by rw [hb2, upd_same]
    have hw2 := hb2 ▸ (hw'.upd (t := 48) (by omega) (by decide) _).upd (t := 48) (by omega) (by decide) _
    have hK2 := hb2 ▸ (hK'.upd (t := 48) (by decide) _).upd (t := 48) (by decide) _
    clear hb2 hw' hK'
    generalize (bx' 48).ep + 1 = eX at hX ⊢
    refine call_boxes (put_k [.w wWord, .n x.text, .w wIs, .n x.cat, .w wGives] hw2 hK2 (by simp only [List.length_append, List.flatMap_cons, List.flatMap_nil, List.append_nil, It.toks, List.length_cons, List.length_nil]; omega)) rfl ?_
    rintro d b3 ⟨rfl, hw3, hK3, hs3⟩
    replace hX := (hs3 48 (by omega) (by omega)).trans hX
    clear hw2 hK2 hs3
    simp (maxSteps := 1000000) (disch := omega) only [go_sem, h0, h3, h48, h49, h50, hX]
    refine cD_for x.gives.length (fun j σ b => σ 0 = .loc 9 e 0 0 ∧ σ 3 = .loc 44 ((bx 44).ep + 1) 0 0 ∧ σ 48 = .sl 5 (g.entries.map Entry.d) ∧ σ 49 = .int .i64 g.entries.length ∧ σ 50 = .int .i64 k ∧ σ 7 = .loc 48 eX 0 0 ∧ σ 67 = .sl 1 (x.gives.map D.str) ∧ σ 68 = .int .i64 x.gives.length ∧ σ 69 = .int .i64 j ∧ b 48 = ⟨eX, 1, 5, 44, [.agg [.str x.text, .str x.cat, .int .i64 x.no, .sl 1 (x.gives.map D.str), .int .i64 x.cost]]⟩ ∧ WSt b e (tokHead g.name g.cats g.start ++ (g.entries.take k).flatMap tokEntry ++ [It.w wWord, It.n x.text, It.w wIs, It.n x.cat, It.w wGives].flatMap It.toks ++ tokGives (x.gives.take j)) ∧ KG bx1 b)
      ⟨by simp [go_sem, h0], by simp [go_sem, h3], by simp [go_sem, h48], by simp [go_sem, h49], by simp [go_sem, h50], by simp [go_sem], by simp [go_sem], by simp [go_sem], by simp [go_sem], hX, by simpa [tokGives] using hw3, hK3⟩ ?_ ?_
    · clear h0 h3 h48 h49 h50 hlt hX hw3 hK3 σ bx' b3
      rintro j σ b hj ⟨h0, h3, h48, h49, h50, h7, h67, h68, h69, hX, hw', hK'⟩
      obtain ⟨y, hy⟩ := get_lt hj
      have hlt : (j : Int) < (x.gives.length : Int) := by omega
      have hws' : IntKind.i64.wrap ((j : Int) + 1) = ((j + 1 : Nat) : Int) := wrap_succ (by omega)
      have hle' := gives_le x.gives j
      simp (maxSteps := 1000000) (disch := omega) only [go_sem, h0, h3, h48, h49, h50, h7, h67, h68, h69, hlt, hy, D.pure]
      refine condD_dec (fun hj0 => ?_) (fun hj0 => ?_)
      · simp (maxSteps := 1000000) (disch := omega) only [go_sem, h0, h3, h48, h49, h50, h7, h67, h68, h69, hlt, hy, D.pure]
        refine call_boxes (put_k [.w [44]] hw' hK' (by simp only [List.length_append, List.flatMap_cons, List.flatMap_nil, List.append_nil, It.toks, List.length_cons, List.length_nil]; omega)) rfl ?_
        rintro d b3 ⟨rfl, hw3, hK3, hs3⟩
        replace hX := (hs3 48 (by omega) (by omega)).trans hX
        simp (maxSteps := 1000000) (disch := omega) only [go_sem, h0, h3, h48, h49, h50, h7, h67, h68, h69, D.pure]
        refine call_boxes (put_k [.n y] hw3 hK3 (by simp only [List.length_append, List.flatMap_cons, List.flatMap_nil, List.append_nil, It.toks, List.length_cons, List.length_nil]; omega)) rfl ?_
        rintro d b4 ⟨rfl, hw4, hK4, hs4⟩
        replace hX := (hs4 48 (by omega) (by omega)).trans hX
        simp (maxSteps := 1000000) (disch := omega) only [go_sem, h0, h3, h48, h49, h50, h7, h67, h68, h69, hws']
        refine ⟨hX, ?_, hK4⟩
        rw [gives_take hy, if_neg (by omega), ← List.append_assoc]
        have : tokComma y = [It.w [44]].flatMap It.toks ++ [It.n y].flatMap It.toks := rfl
        rw [this]
        simp only [List.append_assoc] at hw4 ⊢
        exact hw4
      · simp (maxSteps := 1000000) (disch := omega) only [go_sem, h0, h3, h48, h49, h50, h7, h67, h68, h69, hlt, hy, D.pure]
        refine call_boxes (put_k [.n y] hw' hK' (by simp only [List.length_append, List.flatMap_cons, List.flatMap_nil, List.append_nil, It.toks, List.length_cons, List.length_nil]; omega)) rfl ?_
        rintro d b4 ⟨rfl, hw4, hK4, hs4⟩
        replace hX := (hs4 48 (by omega) (by omega)).trans hX
        simp (maxSteps := 1000000) (disch := omega) only [go_sem, h0, h3, h48, h49, h50, h7, h67, h68, h69, hws']
        refine ⟨hX, ?_, hK4⟩
        rw [gives_take hy, if_pos (by omega), ← List.append_assoc]
        exact hw4
    · clear h0 h3 h48 h49 h50 hlt hX hw3 hK3 σ bx' b3
      rintro σ b ⟨h0, h3, h48, h49, h50, h7, h67, h68, h69, hX, hw', hK'⟩
      have hlt : ¬ (x.gives.length : Int) < (x.gives.length : Int) := by omega
      rw [List.take_length] at hw'
      simp (maxSteps := 1000000) (disch := omega) only [go_sem, h0, h3, h48, h49, h50, h7, h67, h68, h69, hlt, hX, D.pure]
      refine call_boxes (put_k [.w wCost, .i x.cost, .w [59]] hw' hK' (by simp only [List.length_append, List.flatMap_cons, List.flatMap_nil, List.append_nil, It.toks, List.length_cons, List.length_nil]; omega)) rfl ?_
      rintro d b3 ⟨rfl, hw3, hK3, hs3⟩
      simp (maxSteps := 1000000) (disch := omega) only [go_sem, h0, h3, h48, h49, h50, hws]
      refine ⟨?_, hK3⟩
      rw [flat_take tokEntry hx, ← List.append_assoc]
      have : tokEntry x = [It.w wWord, It.n x.text, It.w wIs, It.n x.cat, It.w wGives].flatMap It.toks ++ (tokGives x.gives ++ [It.w wCost, It.i x.cost, It.w [59]].flatMap It.toks) := rfl
      rw [this]
      simp only [List.append_assoc] at hw3 ⊢
      exact hw3
  clear h0 h3 h25 h26 h27 hlt hw3 hK3 hG3 σ bx'
  rintro σ bx' ⟨h0, h3, h48, h49, h50, hw', hK'⟩
  have hlt : ¬ (g.entries.length : Int) < (g.entries.length : Int) := by omega
  have hG' := (hK' 44 (by omega) (by omega) (by decide)).trans hG
  rw [List.take_length] at hw'
  simp (maxSteps := 1000000) (disch := omega) only [go_sem, h0, h3, h48, h49, h50, hlt, hG', D.pure]
  refine cD_for g.rules.length (fun k σ bx' => σ 0 = .loc 9 e 0 0 ∧ σ 96 = .sl 5 (g.rules.map Rule.d) ∧ σ 97 = .int .i64 g.rules.length ∧ σ 98 = .int .i64 k ∧ WSt bx' e (tokHead g.name g.cats g.start ++ g.entries.flatMap tokEntry ++ (g.rules.take k).flatMap tokRule) ∧ KG bx1 bx')
    ⟨by simp [go_sem, h0], by simp [go_sem], by simp [go_sem], by simp [go_sem], by simpa using hw', hK'⟩ ?_ ?_
  · clear h0 h3 h48 h49 h50 hlt hw' hK' hG' σ bx'
    rintro k σ bx' hk ⟨h0, h96, h97, h98, hw', hK'⟩
    obtain ⟨x, hx⟩ := get_lt hk
    have hlt : (k : Int) < (g.rules.length : Int) := by omega
    have hws : IntKind.i64.wrap ((k : Int) + 1) = ((k + 1 : Nat) : Int) := wrap_succ (by omega)
    have hle := flat_at tokRule hx
    have hxd : x.d = .agg [.str x.cat, .int .i64 x.no, .sl 3 (x.parts.map Part.d), .sl 2 (x.gives.map Give.d), .int .i64 x.cost] := rfl
    obtain ⟨hpl, hgl⟩ := hps x (List.mem_of_getElem? hx)
    have hel : (tokRule x).length = 3 + ((x.parts.flatMap tokPart).length + (1 + ((x.gives.flatMap tokGive).length + 3))) := by simp only [tokRule, tokEnd, List.length_append, List.length_cons, List.length_nil]; omega
    simp (maxSteps := 1000000) (disch := omega) only [go_sem, h0, h96, h97, h98, hlt, hx, hxd, D.pure]
    obtain ⟨bx2, hb2⟩ : ∃ b, b = upd (upd bx' 52 ⟨(bx' 52).ep + 1, 1, 5, 42, [.agg [.str [], .int .i64 0, .nilsl, .nilsl, .int .i64 0]]⟩) 52 ⟨(bx' 52).ep + 1, 1, 5, 42, [.agg [.str x.cat, .int .i64 x.no, .sl 3 (x.parts.map Part.d), .sl 2 (x.gives.map Give.d), .int .i64 x.cost]]⟩ := ⟨_, rfl⟩
    rw [← hb2]
    have hX : bx2 52 = ⟨(bx' 52).ep + 1, 1, 5, 42, [.agg [.str x.cat, .int .i64 x.no, .sl 3 (x.parts.map Part.d), .sl 2 (x.gives.map Give.d), .int .i64 x.cost]]⟩ := by rw [hb2, upd_same]
    have hw2 := hb2 ▸ (hw'.upd (t := 52) (by omega) (by decide) _).upd (t := 52) (by omega) (by decide) _
    have hK2 := hb2 ▸ (hK'.upd (t := 52) (by decide) _).upd (t := 52) (by decide) _
    clear hb2 hw' hK'
    generalize (bx' 52).ep + 1 = eX at hX ⊢
    refine call_boxes (put_k [.w wRule, .n x.cat, .w [61]] hw2 hK2 (by simp only [List.length_append, List.flatMap_cons, List.flatMap_nil, List.append_nil, It.toks, List.length_cons, List.length_nil]; omega)) rfl ?_
    rintro d b3 ⟨rfl, hw3, hK3, hs3⟩
    replace hX := (hs3 52 (by omega) (by omega)).trans hX
    clear hw2 hK2 hs3
    simp (maxSteps := 1000000) (disch := omega) only [go_sem, h0, h96, h97, h98, hX]
    refine cD_for x.parts.length (fun j σ b => σ 0 = .loc 9 e 0 0 ∧ σ 96 = .sl 5 (g.rules.map Rule.d) ∧ σ 97 = .int .i64 g.rules.length ∧ σ 98 = .int .i64 k ∧ σ 11 = .loc 52 eX 0 0 ∧ σ 111 = .sl 3 (x.parts.map Part.d) ∧ σ 112 = .int .i64 x.parts.length ∧ σ 113 = .int .i64 j ∧ b 52 = ⟨eX, 1, 5, 42, [.agg [.str x.cat, .int .i64 x.no, .sl 3 (x.parts.map Part.d), .sl 2 (x.gives.map Give.d), .int .i64 x.cost]]⟩ ∧ WSt b e (tokHead g.name g.cats g.start ++ g.entries.flatMap tokEntry ++ (g.rules.take k).flatMap tokRule ++ [It.w wRule, It.n x.cat, It.w [61]].flatMap It.toks ++ (x.parts.take j).flatMap tokPart) ∧ KG bx1 b)
      ⟨by simp [go_sem, h0], by simp [go_sem, h96], by simp [go_sem, h97], by simp [go_sem, h98], by simp [go_sem], by simp [go_sem], by simp [go_sem], by simp [go_sem], hX, by simpa using hw3, hK3⟩ ?_ ?_
    · clear h0 h96 h97 h98 hlt hX hw3 hK3 σ bx' b3
      rintro j σ b hj ⟨h0, h96, h97, h98, h11, h111, h112, h113, hX, hw', hK'⟩
      obtain ⟨y, hy⟩ := get_lt hj
      have hlt : (j : Int) < (x.parts.length : Int) := by omega
      have hws' : IntKind.i64.wrap ((j : Int) + 1) = ((j + 1 : Nat) : Int) := wrap_succ (by omega)
      have hle' := flat_le tokPart x.parts j
      have hyd : y.d = .agg [.str y.cat, .int .i64 y.no, .str y.text] := rfl
      simp (maxSteps := 1000000) (disch := omega) only [go_sem, h0, h96, h97, h98, h11, h111, h112, h113, hlt, hy, hyd, D.pure, D.pureL]
      refine call_boxes (put_k [.p y] ((hw'.upd (t := 54) (by omega) (by decide) _).upd (t := 54) (by omega) (by decide) _) ((hK'.upd (t := 54) (by decide) _).upd (t := 54) (by decide) _) (by simp only [List.length_append, List.flatMap_cons, List.flatMap_nil, List.append_nil, It.toks, List.length_cons, List.length_nil]; omega)) rfl ?_
      rintro d b4 ⟨rfl, hw4, hK4, hs4⟩
      replace hX := (hs4 52 (by omega) (by omega)).trans (((upd_ne (by omega)).trans (upd_ne (by omega))).trans hX)
      simp (maxSteps := 1000000) (disch := omega) only [go_sem, h0, h96, h97, h98, h11, h111, h112, h113, hws']
      refine ⟨hX, ?_, hK4⟩
      rw [flat_take tokPart hy, ← List.append_assoc]
      have : [It.p y].flatMap It.toks = tokPart y := by simp [It.toks]
      rw [this] at hw4
      exact hw4
    · clear h0 h96 h97 h98 hlt hX hw3 hK3 σ bx' b3
      rintro σ b ⟨h0, h96, h97, h98, h11, h111, h112, h113, hX, hw', hK'⟩
      have hlt : ¬ (x.parts.length : Int) < (x.parts.length : Int) := by omega
      rw [List.take_length] at hw'
      simp (maxSteps := 1000000) (disch := omega) only [go_sem, h0, h96, h97, h98, h11, h111, h112, h113, hlt, hX, D.pure]
      refine call_boxes (put_k [.w wGives] hw' hK' (by simp only [List.length_append, List.flatMap_cons, List.flatMap_nil, List.append_nil, It.toks, List.length_cons, List.length_nil]; omega)) rfl ?_
      rintro d b3 ⟨rfl, hw3, hK3, hs3⟩
      replace hX := (hs3 52 (by omega) (by omega)).trans hX
      clear hw' hK' hs3
      simp (maxSteps := 1000000) (disch := omega) only [go_sem, h0, h96, h97, h98, h11, hX]
      refine cD_for x.gives.length (fun j σ b => σ 0 = .loc 9 e 0 0 ∧ σ 96 = .sl 5 (g.rules.map Rule.d) ∧ σ 97 = .int .i64 g.rules.length ∧ σ 98 = .int .i64 k ∧ σ 11 = .loc 52 eX 0 0 ∧ σ 128 = .sl 2 (x.gives.map Give.d) ∧ σ 129 = .int .i64 x.gives.length ∧ σ 130 = .int .i64 j ∧ b 52 = ⟨eX, 1, 5, 42, [.agg [.str x.cat, .int .i64 x.no, .sl 3 (x.parts.map Part.d), .sl 2 (x.gives.map Give.d), .int .i64 x.cost]]⟩ ∧ WSt b e (tokHead g.name g.cats g.start ++ g.entries.flatMap tokEntry ++ (g.rules.take k).flatMap tokRule ++ [It.w wRule, It.n x.cat, It.w [61]].flatMap It.toks ++ x.parts.flatMap tokPart ++ [It.w wGives].flatMap It.toks ++ (x.gives.take j).flatMap tokGive) ∧ KG bx1 b)
        ⟨by simp [go_sem, h0], by simp [go_sem, h96], by simp [go_sem, h97], by simp [go_sem, h98], by simp [go_sem, h11], by simp [go_sem], by simp [go_sem], by simp [go_sem], hX, by simpa using hw3, hK3⟩ ?_ ?_
      · clear h0 h96 h97 h98 h11 h111 h112 h113 hlt hX hw3 hK3 σ b b3
        rintro j σ b hj ⟨h0, h96, h97, h98, h11, h128, h129, h130, hX, hw', hK'⟩
        obtain ⟨y, hy⟩ := get_lt hj
        have hlt : (j : Int) < (x.gives.length : Int) := by omega
        have hws' : IntKind.i64.wrap ((j : Int) + 1) = ((j + 1 : Nat) : Int) := wrap_succ (by omega)
        have hle' := flat_le tokGive x.gives j
        have hyd : y.d = .agg [.int .i64 y.part, .str y.text] := rfl
        simp (maxSteps := 1000000) (disch := omega) only [go_sem, h0, h96, h97, h98, h11, h128, h129, h130, hlt, hy, hyd, D.pure, D.pureL]
        refine call_boxes (put_k [.g y] ((hw'.upd (t := 56) (by omega) (by decide) _).upd (t := 56) (by omega) (by decide) _) ((hK'.upd (t := 56) (by decide) _).upd (t := 56) (by decide) _) (by simp only [List.length_append, List.flatMap_cons, List.flatMap_nil, List.append_nil, It.toks, List.length_cons, List.length_nil]; omega)) rfl ?_
        rintro d b4 ⟨rfl, hw4, hK4, hs4⟩
        replace hX := (hs4 52 (by omega) (by omega)).trans (((upd_ne (by omega)).trans (upd_ne (by omega))).trans hX)
        simp (maxSteps := 1000000) (disch := omega) only [go_sem, h0, h96, h97, h98, h11, h128, h129, h130, hws']
        refine ⟨hX, ?_, hK4⟩
        rw [flat_take tokGive hy, ← List.append_assoc]
        have : [It.g y].flatMap It.toks = tokGive y := by simp [It.toks]
        rw [this] at hw4
        exact hw4
      · clear h0 h96 h97 h98 h11 h111 h112 h113 hlt hX hw3 hK3 σ b b3
        rintro σ b ⟨h0, h96, h97, h98, h11, h128, h129, h130, hX, hw', hK'⟩
        have hlt : ¬ (x.gives.length : Int) < (x.gives.length : Int) := by omega
        rw [List.take_length] at hw'
        simp (maxSteps := 1000000) (disch := omega) only [go_sem, h0, h96, h97, h98, h11, h128, h129, h130, hlt, hX, D.pure]
        refine call_boxes (put_k [.w wCost, .i x.cost, .w [59]] hw' hK' (by simp only [List.length_append, List.flatMap_cons, List.flatMap_nil, List.append_nil, It.toks, List.length_cons, List.length_nil]; omega)) rfl ?_
        rintro d b3 ⟨rfl, hw3, hK3, hs3⟩
        simp (maxSteps := 1000000) (disch := omega) only [go_sem, h0, h96, h97, h98, hws]
        refine ⟨?_, hK3⟩
        rw [flat_take tokRule hx, ← List.append_assoc]
        have : tokRule x = [It.w wRule, It.n x.cat, It.w [61]].flatMap It.toks ++ (x.parts.flatMap tokPart ++ ([It.w wGives].flatMap It.toks ++ (x.gives.flatMap tokGive ++ [It.w wCost, It.i x.cost, It.w [59]].flatMap It.toks))) := rfl
        rw [this]
        simp only [List.append_assoc] at hw3 ⊢
        exact hw3
  clear h0 h3 h48 h49 h50 hlt hw' hK' hG' σ bx'
  rintro σ bx' ⟨h0, h96, h97, h98, hw', hK'⟩
  have hlt : ¬ (g.rules.length : Int) < (g.rules.length : Int) := by omega
  rw [List.take_length] at hw'
  simp (maxSteps := 1000000) (disch := omega) only [go_sem, h0, h96, h97, h98, hlt]
  refine ⟨?_, fun q h1 h2 => (hK' q (by omega) h2 (by simp [varsG]; omega)).trans (hQ q (by omega))⟩
  have : tokensOf g = tokHead g.name g.cats g.start ++ g.entries.flatMap tokEntry ++ g.rules.flatMap tokRule := by rw [tokensOf, List.append_assoc]
  rw [this]
  exact hw'
theorem grammar_c (g : Gram) (e : Nat) (bx : Bxs) (hw : WSt bx e []) (hn : (tokensOf g).length ≤ 900000) (hc : g.cats.length ≤ 1000000) (he : g.entries.length ≤ 1000000) (hr : g.rules.length ≤ 1000000)
    (hgs : ∀ x ∈ g.entries, x.gives.length ≤ 1000000) (hps : ∀ x ∈ g.rules, x.parts.length ≤ 1000000 ∧ x.gives.length ≤ 1000000) :
    CallsB Tryz.prog 14 0 [.loc 9 e 0 0, g.d] bx (fun d bx' => d = .tup [] ∧ WSt bx' e (tokensOf g) ∧ ∀ q, q < 41 → q ≠ 9 → bx' q = bx q) (fun _ _ => False) :=
  (fnB_calls mixed (grammar_d g e bx hw hn hc he hr hgs hps) rfl (by kernel_rfl) rfl : CallsB _ _ 41 _ _ _ _)
end Go.V.Gr
