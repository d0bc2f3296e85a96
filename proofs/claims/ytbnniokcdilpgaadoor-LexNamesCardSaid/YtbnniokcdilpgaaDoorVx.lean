/-
  Loops that count, and small rules for the proofs of functions on data.
-/
import Derived.Test.YtbnniokcdilpgaaDoorVt
import Derived.Test.YtbnniokcdilpgaaDoorVw
namespace Go.V
open Go.Proofs Go.RowKit
set_option linter.unusedVariables false

variable {P : Program} {C : Calc} {Q : DX → Env → Bxs → Prop} {σ : Env} {bx : Bxs}

theorem bindD_mono {α : Type} {x : Option α} {f g : α → Prop} (h : ∀ v, f v → g v) (hx : bindD x f) : bindD x g := by
  cases x with
  | none => exact hx
  | some v => exact h v hx
theorem callD_mono {f : FuncId} {ds : List D} {K K' : Cl → D → Bxs → Prop} (h : ∀ c d bx, K c d bx → K' c d bx) (hc : callD C f ds bx K) : callD C f ds bx K' := by
  rcases hc with ⟨d, h1, h2, h3⟩ | ⟨ds', d, h1, h2, h3, h4⟩ | ⟨ds', d, h1, h2, h3, h4⟩ | ⟨Post, Pan, h1, h2, h3, h4⟩
  · exact .inl ⟨d, h1, h2, h _ _ _ h3⟩
  · exact .inr (.inl ⟨ds', d, h1, h2, h3, h _ _ _ h4⟩)
  · exact .inr (.inr (.inl ⟨ds', d, h1, h2, h3, h _ _ _ h4⟩))
  · exact .inr (.inr (.inr ⟨Post, Pan, h1, h2, fun d bx' hp => h _ _ _ (h3 d bx' hp), fun d bx' hp => h _ _ _ (h4 d bx' hp)⟩))
theorem yieldD_mono {l : Nat} {ds : List D} {K K' : Cl → D → Bxs → Prop} (h : ∀ c d bx, K c d bx → K' c d bx) (hc : yieldD C l ds bx K) : yieldD C l ds bx K' := by
  unfold yieldD at hc ⊢
  split at hc
  · exact ⟨hc.1, fun bx1 => ⟨h _ _ _ (hc.2 bx1).1, h _ _ _ (hc.2 bx1).2⟩⟩
  · exact hc.elim
theorem callV_mono {d : D} {ds : List D} {K K' : Cl → D → Bxs → Prop} (h : ∀ c d bx, K c d bx → K' c d bx) (hc : callV C d ds bx K) : callV C d ds bx K' := by
  unfold callV at hc ⊢
  split at hc
  · exact callD_mono h hc
  · exact yieldD_mono h hc
  · exact hc.elim
theorem panV_mono {d : D} {f g : D → Prop} (h : ∀ d, f d → g d) (hx : panV d f) : panV d g := by
  cases d <;> first | exact h _ hx | exact hx
theorem stepE_mono {dst : Option Tmp} {op : Op} {K K' : Cl → Env → Bxs → Prop} (h : ∀ c σ bx, K c σ bx → K' c σ bx) (hs : stepE P C dst op σ bx K) : stepE P C dst op σ bx K' := by
  cases op with
  | buildSlice T n ps =>
    unfold stepE at hs ⊢
    dsimp only at hs ⊢
    split at hs
    · rename_i ho
      rw [if_pos ho]
      split at hs
      · exact bindD_mono (fun _ => h _ _ _) hs
      · exact hs.elim
    · rename_i ho
      rw [if_neg ho]
      exact bindD_mono (fun _ => h _ _ _) hs
  | _ =>
    unfold stepE at hs ⊢
    exact bindD_mono (fun _ => h _ _ _) hs
theorem stepD_mono {o : Oper} {K K' : Cl → Env → Bxs → Prop} (h : ∀ c σ bx, K c σ bx → K' c σ bx) (hs : stepD P C o σ bx K) : stepD P C o σ bx K' := by
  unfold stepD at hs ⊢
  split at hs
  · split at hs
    · exact bindD_mono (fun _ => bindD_mono fun _ => h _ _ _) hs
    · exact hs.elim
  · split at hs
    · exact bindD_mono (fun _ => bindD_mono fun _ => h _ _ _) hs
    · exact hs.elim
  · exact bindD_mono (fun _ => bindD_mono fun _ => h _ _ _) hs
  · exact bindD_mono (fun _ => bindD_mono fun _ => h _ _ _) hs
  · exact bindD_mono (fun _ => h _ _ _) hs
  · exact callV_mono (fun _ _ _ => h _ _ _) hs
  · exact ⟨hs.1, panV_mono (fun _ => h _ _ _) hs.2⟩
  · refine ⟨hs.1, ?_⟩
    have hs := hs.2
    split at hs
    · exact h _ _ _ hs
    · exact hs.elim
  · split at hs
    · exact bindD_mono (fun _ => h _ _ _) hs
    · exact hs.elim
  · exact stepE_mono h hs
theorem contC_mono {c : Cl} {x y x' y' : Prop} (hx : x → x') (hy : y → y') (h : contC c x y) : contC c x' y' := by
  cases c <;> first | exact hy h | exact hx h
theorem opsR_mono {full : List Oper} : ∀ {l : List Oper} {acc : List Cl} {σ : Env} {bx : Bxs} {K K' : List Cl → Env → Bxs → Prop}, (∀ acc σ bx, K acc σ bx → K' acc σ bx) → opsR P C full l acc σ bx K → opsR P C full l acc σ bx K'
  | [], _, _, _, _, _, h, hs => h _ _ _ hs
  | o :: rest, acc, σ, bx, K, K', h, hs => by
    unfold opsR at hs ⊢
    split at hs
    · exact stepD_mono (fun _ _ _ => contC_mono (h _ _ _) (opsR_mono h)) hs
    · refine bindD_mono (fun g hg => ?_) hs
      unfold gK at hg ⊢
      split at hg
      · rename_i h1; rw [if_pos h1]; exact stepD_mono (fun _ _ _ => contC_mono (h _ _ _) (opsR_mono h)) hg
      · rename_i h1; rw [if_neg h1]; exact opsR_mono h hg
theorem cR_mono {c : Code} : ∀ {C : Calc} {Q Q' : DX → Env → Bxs → Prop} {σ : Env} {bx : Bxs}, (∀ e σ bx, Q e σ bx → Q' e σ bx) → cR P C c Q σ bx → cR P C c Q' σ bx := by
  induction c with
  | skip => intro C Q Q' σ bx h hs; exact h _ _ _ hs
  | region id ops draw =>
    intro C Q Q' σ bx h hs
    cases draw
    · exact opsR_mono (fun acc _ _ hk => by
        unfold regQ at hk ⊢
        split at hk <;> exact h _ _ _ hk) hs
    · exact opsR_mono (fun _ _ _ hk => ⟨hk.1, h _ _ _ hk.2⟩) hs
  | seq a b iha ihb =>
    intro C Q Q' σ bx h hs
    refine iha (fun e σ bx he => ?_) hs
    cases e <;> first | exact ihb h he | exact h _ _ _ he
  | cond c x y ihx ihy =>
    intro C Q Q' σ bx h hs
    simp only [cR] at hs ⊢
    unfold condC condD at hs ⊢
    split at hs
    · split at hs
      · rename_i h1; simp only [h1, if_true]; exact ihx h hs
      · rename_i h1; simp only [h1]; exact ihy h hs
    · exact hs.elim
  | block id c ih =>
    intro C Q Q' σ bx h hs
    refine ih (fun e σ bx he => ?_) hs
    cases e with
    | exit id' =>
      simp only [blockQ] at he ⊢
      split at he
      · rename_i h1; rw [if_pos h1]; exact h _ _ _ he
      · rename_i h1; rw [if_neg h1]; exact h _ _ _ he
    | _ => exact h _ _ _ he
  | loop c ih =>
    intro C Q Q' σ bx h hs
    obtain ⟨I, μ, h0, h1⟩ := hs
    refine ⟨I, μ, h0, fun σ bx hi => ih (fun e σ bx he => ?_) (h1 σ bx hi)⟩
    cases e <;> first | exact he | exact h _ _ _ he
  | rangeFunc g ps a b iha ihb =>
    intro C Q Q' σ bx h hs
    obtain ⟨h1, h2, f, caps, items, ext, g1, g2, g3, J, j0, jr, jq⟩ := hs
    refine ⟨h1, h2, f, caps, items, ext, g1, g2, g3, J, j0, fun n it bx1 hi hj => ?_, fun bx1 hj => h _ _ _ (jq bx1 hj)⟩
    obtain ⟨k1, k2⟩ := jr n it bx1 hi hj
    refine ⟨k1, iha (fun e σ bx he => ?_) k2⟩
    cases e with
    | normal =>
      refine ihb (fun e σ bx he => ?_) he
      obtain ⟨m1, m2⟩ := he
      refine ⟨m1, ?_⟩
      cases e with
      | ret => exact fun bx2 hb => h _ _ _ (m2 bx2 hb)
      | exit id => exact fun bx2 hb => h _ _ _ (m2 bx2 hb)
      | _ => exact m2
    | _ => exact he
  | scope c ih =>
    intro C Q Q' σ bx h hs
    refine ih (fun e σ bx he => ?_) hs
    cases e <;> first | exact he | exact h _ _ _ he
  | exit id => intro C Q Q' σ bx h hs; exact h _ _ _ hs
  | ret => intro C Q Q' σ bx h hs; exact h _ _ _ hs
  | label l => intro C Q Q' σ bx h hs; exact h _ _ _ hs
  | _ => intro C Q Q' σ bx h hs; exact hs.elim
theorem cD_mono {c : Code} {Q' : DX → Env → Bxs → Prop} (h : ∀ e σ bx, Q e σ bx → Q' e σ bx) (hs : cD P C c Q σ bx) : cD P C c Q' σ bx := cR_mono h hs
/-- ways that meet again: what holds behind the first piece -/
theorem cD_cut {a b : Code} (M : Env → Bxs → Prop) (h1 : cD P C a (thenQ M Q) σ bx) (h2 : ∀ σ bx, M σ bx → cD P C b Q σ bx) : cD P C (.seq a b) Q σ bx := by
  show cR P C a (thenQ (fun σ bx => cR P C b Q σ bx) Q) σ bx
  refine cR_mono (Q := thenQ M Q) (fun e σ bx h => ?_) h1
  cases e <;> first | exact h2 _ _ h | exact h

/-- The greatest number up to n of which p holds. -/
noncomputable def gmax (p : Nat → Prop) : Nat → Nat
  | 0 => 0
  | n + 1 => @ite _ (p (n + 1)) (Classical.propDecidable _) (n + 1) (gmax p n)
theorem gmax_le (p : Nat → Prop) : ∀ n, gmax p n ≤ n
  | 0 => Nat.le_refl _
  | n + 1 => by
    unfold gmax
    split
    · exact Nat.le_refl _
    · exact Nat.le_succ_of_le (gmax_le p n)
theorem gmax_of (p : Nat → Prop) : ∀ n k, k ≤ n → p k → p (gmax p n) ∧ k ≤ gmax p n
  | 0, k, hk, h => by obtain rfl : k = 0 := by omega
                      exact ⟨h, Nat.le_refl _⟩
  | n + 1, k, hk, h => by
    unfold gmax
    split
    · rename_i h1; exact ⟨h1, hk⟩
    · rename_i h1
      by_cases hkn : k = n + 1
      · subst hkn; exact absurd h h1
      · exact gmax_of p n k (by omega) h

/-- A loop that makes at most n rounds. -/
theorem cD_for {c : Code} (n : Nat) (I : Nat → Env → Bxs → Prop) (h0 : I 0 σ bx)
    (hk : ∀ k σ bx, k < n → I k σ bx → cD P C c (thenQ (fun σ' bx' => I (k + 1) σ' bx') Q) σ bx)
    (hn : ∀ σ bx, I n σ bx → cD P C c (thenQ (fun _ _ => False) Q) σ bx) : cD P C (.loop c) Q σ bx := by
  refine cD_loop (fun σ bx => ∃ k, k ≤ n ∧ I k σ bx) (fun σ bx => n - gmax (fun k => I k σ bx) n) ⟨0, Nat.zero_le _, h0⟩ ?_
  rintro σ bx ⟨k, hkn, hi⟩
  obtain ⟨g1, g2⟩ := gmax_of (fun k => I k σ bx) n k hkn hi
  have g3 := gmax_le (fun k => I k σ bx) n
  generalize gmax (fun k => I k σ bx) n = m at g1 g2 g3 ⊢
  have mono : ∀ (K K' : Env → Bxs → Prop), (∀ σ bx, K σ bx → K' σ bx) → cD P C c (thenQ K Q) σ bx → cD P C c (thenQ K' Q) σ bx := fun K K' hK h => cD_mono (fun e σ bx he => by cases e <;> first | exact hK _ _ he | exact he) h
  by_cases hm : m < n
  · refine mono _ _ (fun σ' bx' h' => ?_) (hk m σ bx hm g1)
    obtain ⟨q1, q2⟩ := gmax_of (fun k => I k σ' bx') n (m + 1) (by omega) h'
    exact ⟨⟨m + 1, by omega, h'⟩, by omega⟩
  · obtain rfl : m = n := by omega
    exact mono _ _ (fun _ _ h' => h'.elim) (hn σ bx g1)

theorem wrap_succ {k : Nat} (h : k < 9223372036854775807) : IntKind.i64.wrap ((k : Int) + 1) = ((k + 1 : Nat) : Int) := by
  rw [wrap_i64 (by omega) (by omega)]; rfl

end Go.V
