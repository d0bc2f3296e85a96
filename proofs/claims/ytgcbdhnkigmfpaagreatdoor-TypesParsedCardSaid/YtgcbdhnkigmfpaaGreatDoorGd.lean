/-
  Grammar: the writer's tokens.
-/
import Derived.Test.YtgcbdhnkigmfpaaGreatDoorGs
import Derived.Test.YtgcbdhnkigmfpaaGreatDoorGq
namespace Go.V.Gr
open Go.Proofs Go.RowKit Go.V.Lx
set_option linter.unusedSimpArgs false
set_option linter.unusedVariables false
set_option maxRecDepth 100000

/-- what is put: words and signs, names, numbers, parts, gives -/
inductive It where
  | w (s : Str)
  | n (s : Str)
  | i (z : Int)
  | p (x : Part)
  | g (x : Give)
def It.d : It → D
  | .w s => .ifc 9 (.str s)
  | .n s => .ifc 75 (.str s)
  | .i z => .ifc 3 (.int .i64 z)
  | .p x => .ifc 46 x.d
  | .g x => .ifc 70 x.d
def wT (s : Str) : Tk := if words8.contains s then nT s else sT s
def It.toks : It → List Tk
  | .w s => [wT s]
  | .n s => [nT s]
  | .i z => [dT z]
  | .p x => tokPart x
  | .g x => tokGive x
def It.flat : It → Bool
  | .p _ | .g _ => false
  | _ => true
/-- the slots of the tokens -/
def slotsW : List Nat := [234, 248, 262]
/-- The writer, in its slot. -/
def WSt (bx : Bxs) (e : Nat) (xs : List Tk) : Prop := ∃ l, bx 9 = ⟨e, 1, 1, 52, [.agg [l]]⟩ ∧ OwnV bx slotsW 77 4 l (xs.map Tok.d)
def Kept9 (bx bx' : Bxs) : Prop := ∀ q, q < 200 → q ≠ 9 → bx' q = bx q
theorem Kept9.refl (bx : Bxs) : Kept9 bx bx := fun _ _ _ => rfl
theorem Kept9.trans {a b c : Bxs} (h : Kept9 a b) (k : Kept9 b c) : Kept9 a c := fun q h1 h2 => (k q h1 h2).trans (h q h1 h2)
theorem It.pure : ∀ x : It, x.d.pure = true
  | .w _ => rfl
  | .n _ => rfl
  | .i _ => rfl
  | .p _ => rfl
  | .g _ => rfl
theorem its_pure (l : List It) : D.pureL (l.map It.d) = true := pureL_map _ _ It.pure
theorem toks_two (x : It) : x.toks.length ≤ 2 := by
  cases x with
  | p x => simp only [It.toks, tokPart]; split <;> simp
  | g x => simp only [It.toks, tokGive]; split <;> simp
  | _ => simp [It.toks]

/-- what put does -/
def PutC (N : Nat) (l : List It) : Prop := ∀ (e : Nat) (bx : Bxs) (xs : List Tk), WSt bx e xs → xs.length + 2 * l.length ≤ N →
  CallsB Tryz.prog 33 0 [.loc 9 e 0 0, .sl 1 (l.map It.d)] bx (fun d bx' => d = .tup [] ∧ WSt bx' e (xs ++ l.flatMap It.toks) ∧ Kept9 bx bx') (fun _ _ => False)
set_option maxHeartbeats 4000000 in
theorem put_d (l : List It) (hr : l.all It.flat = true ∨ ∀ m : List It, m.all It.flat = true → PutC 1000000 m) (e : Nat) (bx : Bxs) (xs : List Tk) (hw : WSt bx e xs) (hn : xs.length + 2 * l.length ≤ 1000000) (hn' : l.all It.flat = true ∨ xs.length + 2 * l.length ≤ 999990) :
    fnB Tryz.prog (orac Tryz.prog) [] Tryz.f33 200 [.loc 9 e 0 0, .sl 1 (l.map It.d)] bx (fun d bx' => d = .tup [] ∧ WSt bx' e (xs ++ l.flatMap It.toks) ∧ Kept9 bx bx') (fun _ _ => False) := by
  refine fnB_intro _ [] 104 rfl rfl rfl (by kernel_rfl) ?_
  simp (maxSteps := 1000000) (disch := omega) only [go_sem]
  refine cD_for l.length (fun k σ bx' => σ 0 = .loc 9 e 0 0 ∧ σ 12 = .sl 1 (l.map It.d) ∧ σ 13 = .int .i64 l.length ∧ σ 14 = .int .i64 k ∧ WSt bx' e (xs ++ (l.take k).flatMap It.toks) ∧ Kept9 bx bx')
    ⟨by simp [go_sem, argsF], by simp [go_sem, argsF], by simp [go_sem], by simp [go_sem], by simpa using hw, Kept9.refl _⟩ ?_ ?_
  · rintro k σ bx' hk ⟨h0, h12, h13, h14, hw', hK⟩
    obtain ⟨x, hx⟩ := get_lt hk
    have hlt : (k : Int) < (l.length : Int) := by omega
    have htk : (l.take (k + 1)).flatMap It.toks = (l.take k).flatMap It.toks ++ x.toks := by
      rw [List.take_add_one, hx]; simp
    have hlen : ((l.take k).flatMap It.toks).length ≤ 2 * k := by
      have : ∀ m : List It, (m.flatMap It.toks).length ≤ 2 * m.length := fun m => by
        induction m with
        | nil => simp
        | cons y m ih => rw [List.flatMap_cons, List.length_append, List.length_cons]; have := toks_two y; omega
      have := this (l.take k)
      rw [List.length_take] at this
      omega
    obtain ⟨lw, hb9, hv⟩ := hw'
    obtain ⟨v1, v2, v3⟩ := hv.facts
    have hn1 : ((List.map Tok.d (xs ++ (l.take k).flatMap It.toks)).length + 1) * 40 ≤ 140737488355328 := by
      rw [List.length_map, List.length_append]; omega
    have hws : IntKind.i64.wrap ((k : Int) + 1) = ((k + 1 : Nat) : Int) := wrap_succ (by omega)
    have fin : ∀ (t : Nat) (tk : Tk) (e' : Nat) (b1 b2 : Bxs), t ∈ slotsW → x.toks = [tk] → (∀ q, q ≠ 9 → q ≠ t → q ∉ slotsW → b1 q = bx' q) → b2 = upd b1 9 ⟨e, 1, 1, 52, [.agg [.osl t e' 4 0 (List.map Tok.d (xs ++ (l.take k).flatMap It.toks) ++ [tk.d]).length]]⟩ → b1 t = ⟨e', 1, 4, 77, List.map Tok.d (xs ++ (l.take k).flatMap It.toks) ++ [tk.d]⟩ → WSt b2 e (xs ++ (l.take (k + 1)).flatMap It.toks) ∧ Kept9 bx b2 := by
      intro t tk e' b1 b2 ht hxt hq h9 hb
      subst h9
      have hm : List.map Tok.d (xs ++ (l.take (k + 1)).flatMap It.toks) = List.map Tok.d (xs ++ (l.take k).flatMap It.toks) ++ [tk.d] := by
        rw [htk, hxt, ← List.append_assoc, List.map_append]; rfl
      refine ⟨⟨_, by rw [upd_same], ?_⟩, fun q h1 h2 => ?_⟩
      · rw [hm]
        refine .inr ⟨t, e', ht, rfl, ?_⟩
        rw [upd_ne (by simp [slotsW] at ht; omega)]
        exact hb
      · rw [upd_ne h2, hq q h2 (by simp [slotsW] at ht; omega) (by simp [slotsW]; omega)]
        exact hK q h1 h2
    cases x with
    | w s =>
      simp (maxSteps := 1000000) (disch := omega) only [go_sem, h0, h12, h13, h14, hlt, hx, It.d]
      refine call_pure words_c rfl ?_
      simp (maxSteps := 1000000) (disch := omega) only [go_sem, h0, h12, h13, h14, hlt, hx, It.d]
      refine call_pure (contains_str words8 s (by decide)) (by simp [D.pureL, D.pure, strs, pureL_strs]) ?_
      simp (maxSteps := 1000000) (disch := omega) only [go_sem, h0, h12, h13, h14, hlt, hx, It.d]
      refine condD_split (fun hc => ?_) (fun hc => ?_)
      · simp (maxSteps := 1000000) (disch := omega) only [go_sem, h0, h12, h13, h14, hlt, hx, It.d, hb9]
        refine append_own hv (by simp) (by simp [go_sem]) hn1 (by omega) (by omega) (fun q hq => Nat.zero_le _) (fun e' b1 g1 g2 => ?_)
        have g9 : b1 9 = ⟨e, 1, 1, 52, [.agg [lw]]⟩ := by
          rw [g2 9 (by omega) (by simp [slotsW])]; exact hb9
        simp (maxSteps := 1000000) (disch := omega) only [go_sem, g9, h14, hws, v1, v2, v3]
        exact ⟨h0, h12, h13, fin 234 (nT s) e' b1 _ (by simp [slotsW]) (by simp only [It.toks, wT]; rw [if_pos hc]) (fun q h1 h2 h3 => g2 q h2 h3) rfl g1⟩
      · simp (maxSteps := 1000000) (disch := omega) only [go_sem, h0, h12, h13, h14, hlt, hx, It.d, hb9]
        refine append_own hv (by simp) (by simp [go_sem]) hn1 (by omega) (by omega) (fun q hq => Nat.zero_le _) (fun e' b1 g1 g2 => ?_)
        have g9 : b1 9 = ⟨e, 1, 1, 52, [.agg [lw]]⟩ := by
          rw [g2 9 (by omega) (by simp [slotsW])]; exact hb9
        simp (maxSteps := 1000000) (disch := omega) only [go_sem, g9, h14, hws, v1, v2, v3]
        exact ⟨h0, h12, h13, fin 234 (sT s) e' b1 _ (by simp [slotsW]) (by simp only [It.toks, wT]; rw [if_neg (by rw [hc]; decide)]) (fun q h1 h2 h3 => g2 q h2 h3) rfl g1⟩
    | n s =>
      simp (maxSteps := 1000000) (disch := omega) only [go_sem, h0, h12, h13, h14, hlt, hx, It.d, hb9, v1, v2, v3]
      refine append_own hv (by simp) (by simp [go_sem]) hn1 (by omega) (by omega) (fun q hq => Nat.zero_le _) (fun e' b1 g1 g2 => ?_)
      have g9 : b1 9 = ⟨e, 1, 1, 52, [.agg [lw]]⟩ := by
        rw [g2 9 (by omega) (by simp [slotsW])]; exact hb9
      simp (maxSteps := 1000000) (disch := omega) only [go_sem, g9, h14, hws, v1, v2, v3]
      exact ⟨h0, h12, h13, fin 248 (nT s) e' b1 _ (by simp [slotsW]) rfl (fun q h1 h2 h3 => g2 q h2 h3) rfl g1⟩
    | i s =>
      simp (maxSteps := 1000000) (disch := omega) only [go_sem, h0, h12, h13, h14, hlt, hx, It.d, hb9, v1, v2, v3]
      refine append_own hv (by simp) (by simp [go_sem]) hn1 (by omega) (by omega) (fun q hq => Nat.zero_le _) (fun e' b1 g1 g2 => ?_)
      have g9 : b1 9 = ⟨e, 1, 1, 52, [.agg [lw]]⟩ := by
        rw [g2 9 (by omega) (by simp [slotsW])]; exact hb9
      simp (maxSteps := 1000000) (disch := omega) only [go_sem, g9, h14, hws, v1, v2, v3]
      exact ⟨h0, h12, h13, fin 262 (dT s) e' b1 _ (by simp [slotsW]) rfl (fun q h1 h2 h3 => g2 q h2 h3) rfl g1⟩
    | p y =>
      rcases hr with hr | hr
      · exact absurd (List.all_eq_true.1 hr _ (List.mem_of_getElem? hx)) (by simp [It.flat])
      replace hn' := hn'.resolve_left fun hr => absurd (List.all_eq_true.1 hr _ (List.mem_of_getElem? hx)) (by simp [It.flat])
      have hd : y.d = .agg [.str y.cat, .int .i64 y.no, .str y.text] := rfl
      simp (maxSteps := 1000000) (disch := omega) only [go_sem, h0, h12, h13, h14, hlt, hx, It.d, hb9, v1, v2, v3, hd]
      have hK' : ∀ b1 : Bxs, (∀ q, q ≠ 210 → b1 q = bx' q) → Kept9 bx b1 := fun b1 hb q h1 h2 => by rw [hb q (by omega)]; exact hK q h1 h2
      have hw' : ∀ b1 : Bxs, (∀ q, q ≠ 210 → b1 q = bx' q) → WSt b1 e (xs ++ (l.take k).flatMap It.toks) := fun b1 hb => ⟨lw, by rw [hb 9 (by omega)]; exact hb9, hv.of fun q hq => hb q (by simp [slotsW] at hq; omega)⟩
      have sub : ∀ m : List It, m.all It.flat = true → m.length ≤ 2 → m.flatMap It.toks = tokPart y → ∀ b1 : Bxs, (∀ q, q ≠ 210 → b1 q = bx' q) → CallsB Tryz.prog 33 0 [.loc 9 e 0 0, .sl 1 (m.map It.d)] b1 (fun d b2 => d = .tup [] ∧ WSt b2 e (xs ++ (l.take (k + 1)).flatMap It.toks) ∧ Kept9 bx b2) (fun _ _ => False) := by
        intro m m1 m2 m3 b1 hb
        refine (hr m m1 e _ _ (hw' b1 hb) (by rw [List.length_append]; omega)).mono ?_ (fun _ _ h => h)
        rintro d b2 ⟨q1, q2, q3⟩
        rw [List.append_assoc, m3, show tokPart y = It.toks (It.p y) from rfl, ← htk] at q2
        exact ⟨q1, q2, (hK' b1 hb).trans q3⟩
      refine condD_dec (fun h1 => ?_) (fun h1 => ?_)
      · simp (maxSteps := 1000000) (disch := omega) only [go_sem, h0, h12, h13, h14, hb9, v1, v2, v3, D.pure]
        refine call_boxes (sub [It.n y.cat] rfl (by simp) (by simp [It.toks, tokPart, h1]) _ (fun q hq => by simp [upd, hq])) rfl ?_
        rintro d b2 ⟨rfl, q2, q3⟩
        simp (maxSteps := 1000000) (disch := omega) only [go_sem, h0, h12, h13, h14, hws]
        exact ⟨q2, q3⟩
      · simp (maxSteps := 1000000) (disch := omega) only [go_sem, h0, h12, h13, h14, hb9, v1, v2, v3, D.pure]
        refine call_boxes (sub [It.w [58], It.n y.text] rfl (by simp) (by simp [It.toks, tokPart, wT, words8, h1]; decide) _ (fun q hq => by simp [upd, hq])) rfl ?_
        rintro d b2 ⟨rfl, q2, q3⟩
        simp (maxSteps := 1000000) (disch := omega) only [go_sem, h0, h12, h13, h14, hws]
        exact ⟨q2, q3⟩
    | g y =>
      rcases hr with hr | hr
      · exact absurd (List.all_eq_true.1 hr _ (List.mem_of_getElem? hx)) (by simp [It.flat])
      replace hn' := hn'.resolve_left fun hr => absurd (List.all_eq_true.1 hr _ (List.mem_of_getElem? hx)) (by simp [It.flat])
      have hd : y.d = .agg [.int .i64 y.part, .str y.text] := rfl
      simp (maxSteps := 1000000) (disch := omega) only [go_sem, h0, h12, h13, h14, hlt, hx, It.d, hb9, v1, v2, v3, hd]
      have hK' : ∀ b1 : Bxs, (∀ q, q ≠ 211 → b1 q = bx' q) → Kept9 bx b1 := fun b1 hb q h1 h2 => by rw [hb q (by omega)]; exact hK q h1 h2
      have hw' : ∀ b1 : Bxs, (∀ q, q ≠ 211 → b1 q = bx' q) → WSt b1 e (xs ++ (l.take k).flatMap It.toks) := fun b1 hb => ⟨lw, by rw [hb 9 (by omega)]; exact hb9, hv.of fun q hq => hb q (by simp [slotsW] at hq; omega)⟩
      have sub : ∀ m : List It, m.all It.flat = true → m.length ≤ 2 → m.flatMap It.toks = tokGive y → ∀ b1 : Bxs, (∀ q, q ≠ 211 → b1 q = bx' q) → CallsB Tryz.prog 33 0 [.loc 9 e 0 0, .sl 1 (m.map It.d)] b1 (fun d b2 => d = .tup [] ∧ WSt b2 e (xs ++ (l.take (k + 1)).flatMap It.toks) ∧ Kept9 bx b2) (fun _ _ => False) := by
        intro m m1 m2 m3 b1 hb
        refine (hr m m1 e _ _ (hw' b1 hb) (by rw [List.length_append]; omega)).mono ?_ (fun _ _ h => h)
        rintro d b2 ⟨q1, q2, q3⟩
        rw [List.append_assoc, m3, show tokGive y = It.toks (It.g y) from rfl, ← htk] at q2
        exact ⟨q1, q2, (hK' b1 hb).trans q3⟩
      refine condD_dec (fun h1 => ?_) (fun h1 => ?_)
      · simp (maxSteps := 1000000) (disch := omega) only [go_sem, h0, h12, h13, h14, hb9, v1, v2, v3, D.pure]
        refine call_boxes (sub [It.i y.part] rfl (by simp) (by simp [It.toks, tokGive, h1]) _ (fun q hq => by simp [upd, hq])) rfl ?_
        rintro d b2 ⟨rfl, q2, q3⟩
        simp (maxSteps := 1000000) (disch := omega) only [go_sem, h0, h12, h13, h14, hws]
        exact ⟨q2, q3⟩
      · simp (maxSteps := 1000000) (disch := omega) only [go_sem, h0, h12, h13, h14, hb9, v1, v2, v3, D.pure]
        refine call_boxes (sub [It.w [58], It.n y.text] rfl (by simp) (by simp [It.toks, tokGive, wT, words8, h1]; decide) _ (fun q hq => by simp [upd, hq])) rfl ?_
        rintro d b2 ⟨rfl, q2, q3⟩
        simp (maxSteps := 1000000) (disch := omega) only [go_sem, h0, h12, h13, h14, hws]
        exact ⟨q2, q3⟩
  · rintro σ bx' ⟨h0, h12, h13, h14, hw', hK⟩
    have hlt : ¬ (l.length : Int) < (l.length : Int) := by omega
    rw [List.take_length] at hw'
    simp (maxSteps := 1000000) (disch := omega) only [go_sem, h0, h12, h13, h14, hlt]
    exact ⟨hw', hK⟩
theorem put_flat (m : List It) (hm : m.all It.flat = true) : PutC 1000000 m := fun e bx xs hw hn => (fnB_calls mixed (put_d m (.inl hm) e bx xs hw hn (.inl hm)) rfl (by kernel_rfl) rfl : CallsB _ _ 200 _ _ _ _)
theorem put_c (m : List It) : PutC 999990 m := fun e bx xs hw hn => (fnB_calls mixed (put_d m (.inr put_flat) e bx xs hw (by omega) (.inr hn)) rfl (by kernel_rfl) rfl : CallsB _ _ 200 _ _ _ _)
end Go.V.Gr
