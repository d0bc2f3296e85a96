/-
  Loops that count, and small rules for the proofs of functions on data.
  A variable that a call has left gets another name: so that what was made under the callee's slots lasts under the caller's.
  Deferred calls; functions that defer; deferred functions that recover.
-/
import Derived.Test.YtgcbdhnkigmfpaaGreatDoorVt
import Derived.Test.YtgcbdhnkigmfpaaGreatDoorVC
import Derived.RecoverIn
namespace Go.V
open Go.Proofs Go.RowKit
set_option linter.unusedVariables false

variable {P : Program} {C : Calc} {Q : DX → Env → Bxs → Prop} {σ : Env} {bx : Bxs}

theorem cR_mono {c : Code} : ∀ {C : Calc} {Q Q' : DX → Env → Bxs → Prop} {σ : Env} {bx : Bxs}, (∀ e σ bx, Q e σ bx → Q' e σ bx) → cR P C c Q σ bx → cR P C c Q' σ bx := by
  induction c with
  | skip => intro C Q Q' σ bx h hs; exact h _ _ _ hs
  | region id ops draw =>
    intro C Q Q' σ bx h hs
    cases draw
    · exact opsR_mono (fun acc _ _ hk => by
        unfold regQ at hk ⊢
        split at hk <;> exact h _ _ _ hk) hs
    · simp only [cR] at hs ⊢
      split at hs
      · rename_i hd
        rw [if_pos hd]
        exact drawD_mono (fun d bx hp σ => h _ _ _ (hp σ)) (fun _ _ => h _ _ _) hs
      · rename_i hd
        rw [if_neg hd]
        exact opsR_mono (fun _ _ _ hk => ⟨hk.1, h _ _ _ hk.2⟩) hs
  | seq a b iha ihb =>
    intro C Q Q' σ bx h hs
    refine iha (fun e σ bx he => ?_) hs
    cases e <;> first | exact ihb h he | exact h _ _ _ he
  | cond c x y ihx ihy =>
    intro C Q Q' σ bx h hs
    simp only [cR] at hs ⊢
    unfold condC condD at hs ⊢
    split at hs
    · split at hs
      · rename_i h1; simp only [h1, if_true]; exact ihx h hs
      · rename_i h1; simp only [h1]; exact ihy h hs
    · exact ⟨ihx h hs.1, ihy h hs.2⟩
    · exact hs.elim
  | block id c ih =>
    intro C Q Q' σ bx h hs
    refine ih (fun e σ bx he => ?_) hs
    cases e with
    | exit id' =>
      simp only [blockQ] at he ⊢
      split at he
      · rename_i h1; rw [if_pos h1]; exact h _ _ _ he
      · rename_i h1; rw [if_neg h1]; exact h _ _ _ he
    | _ => exact h _ _ _ he
  | loop c ih =>
    intro C Q Q' σ bx h hs
    obtain ⟨I, μ, h0, h1⟩ := hs
    refine ⟨I, μ, h0, fun σ bx hi => let ⟨bx0, hm, hb⟩ := h1 σ bx hi; ⟨bx0, hm, ih (fun e σ bx he => ?_) hb⟩⟩
    cases e <;> first | exact he | exact h _ _ _ he
  | rangeFunc g ps a b iha ihb =>
    intro C Q Q' σ bx h hs
    obtain ⟨h1, h2, f, caps, items, ext, g1, g2, g3, J, j0, jr, jq⟩ := hs
    refine ⟨h1, h2, f, caps, items, ext, g1, g2, g3, J, j0, fun n it bx1 hi hj => ?_, fun bx1 hj => h _ _ _ (jq bx1 hj)⟩
    obtain ⟨k1, k2⟩ := jr n it bx1 hi hj
    refine ⟨k1, iha (fun e σ bx he => ?_) k2⟩
    cases e with
    | normal =>
      refine ihb (fun e σ bx he => ?_) he
      obtain ⟨m1, m2⟩ := he
      refine ⟨m1, ?_⟩
      cases e with
      | ret => exact fun bx2 hb => h _ _ _ (m2 bx2 hb)
      | exit id => exact fun bx2 hb => h _ _ _ (m2 bx2 hb)
      | _ => exact m2
    | _ => exact he
  | scope c ih =>
    intro C Q Q' σ bx h hs
    refine ih (fun e σ bx he => ?_) hs
    cases e <;> first | exact he | exact h _ _ _ he
  | exit id => intro C Q Q' σ bx h hs; exact h _ _ _ hs
  | ret => intro C Q Q' σ bx h hs; exact h _ _ _ hs
  | label l => intro C Q Q' σ bx h hs; exact h _ _ _ hs
  | _ => intro C Q Q' σ bx h hs; exact hs.elim
theorem cD_mono {c : Code} {Q' : DX → Env → Bxs → Prop} (h : ∀ e σ bx, Q e σ bx → Q' e σ bx) (hs : cD P C c Q σ bx) : cD P C c Q' σ bx := cR_mono h hs
/-- ways that meet again: what holds behind the first piece -/
theorem cD_cut {a b : Code} (M : Env → Bxs → Prop) (h1 : cD P C a (thenQ M Q) σ bx) (h2 : ∀ σ bx, M σ bx → cD P C b Q σ bx) : cD P C (.seq a b) Q σ bx := by
  show cR P C a (thenQ (fun σ bx => cR P C b Q σ bx) Q) σ bx
  refine cR_mono (Q := thenQ M Q) (fun e σ bx h => ?_) h1
  cases e <;> first | exact h2 _ _ h | exact h

/-- The greatest number up to n of which p holds. -/
noncomputable def gmax (p : Nat → Prop) : Nat → Nat
  | 0 => 0
  | n + 1 => @ite _ (p (n + 1)) (Classical.propDecidable _) (n + 1) (gmax p n)
theorem gmax_le (p : Nat → Prop) : ∀ n, gmax p n ≤ n
  | 0 => Nat.le_refl _
  | n + 1 => by
    unfold gmax
    split
    · exact Nat.le_refl _
    · exact Nat.le_succ_of_le (gmax_le p n)
theorem gmax_of (p : Nat → Prop) : ∀ n k, k ≤ n → p k → p (gmax p n) ∧ k ≤ gmax p n
  | 0, k, hk, h => by obtain rfl : k = 0 := by omega
                      exact ⟨h, Nat.le_refl _⟩
  | n + 1, k, hk, h => by
    unfold gmax
    split
    · rename_i h1; exact ⟨h1, hk⟩
    · rename_i h1
      by_cases hkn : k = n + 1
      · subst hkn; exact absurd h h1
      · exact gmax_of p n k (by omega) h

/-- A loop that makes at most n rounds. -/
theorem cD_for {c : Code} (n : Nat) (I : Nat → Env → Bxs → Prop) (h0 : I 0 σ bx)
    (hk : ∀ k σ bx, k < n → I k σ bx → cD P C c (thenQ (fun σ' bx' => I (k + 1) σ' bx') Q) σ bx)
    (hn : ∀ σ bx, I n σ bx → cD P C c (thenQ (fun _ _ => False) Q) σ bx) : cD P C (.loop c) Q σ bx := by
  refine cD_loop (fun σ bx => ∃ k, k ≤ n ∧ I k σ bx) (fun σ bx => n - gmax (fun k => I k σ bx) n) ⟨0, Nat.zero_le _, h0⟩ ?_
  rintro σ bx ⟨k, hkn, hi⟩
  obtain ⟨g1, g2⟩ := gmax_of (fun k => I k σ bx) n k hkn hi
  have g3 := gmax_le (fun k => I k σ bx) n
  generalize gmax (fun k => I k σ bx) n = m at g1 g2 g3 ⊢
  have mono : ∀ (K K' : Env → Bxs → Prop), (∀ σ bx, K σ bx → K' σ bx) → cD P C c (thenQ K Q) σ bx → cD P C c (thenQ K' Q) σ bx := fun K K' hK h => cD_mono (fun e σ bx he => by cases e <;> first | exact hK _ _ he | exact he) h
  by_cases hm : m < n
  · refine mono _ _ (fun σ' bx' h' => ?_) (hk m σ bx hm g1)
    obtain ⟨q1, q2⟩ := gmax_of (fun k => I k σ' bx') n (m + 1) (by omega) h'
    exact ⟨⟨m + 1, by omega, h'⟩, by omega⟩
  · obtain rfl : m = n := by omega
    exact mono _ _ (fun _ _ h' => h'.elim) (hn σ bx g1)

/-- The same where a variable's contents are looked at as plain data at the beginning of each round. -/
theorem cD_forM {c : Code} (n : Nat) (I : Nat → Env → Bxs → Prop) (h0 : I 0 σ bx)
    (hk : ∀ k σ bx, k < n → I k σ bx → ∃ bx0, Melt C bx bx0 ∧ cD P C c (thenQ (fun σ' bx' => I (k + 1) σ' bx') Q) σ bx0)
    (hn : ∀ σ bx, I n σ bx → ∃ bx0, Melt C bx bx0 ∧ cD P C c (thenQ (fun _ _ => False) Q) σ bx0) : cD P C (.loop c) Q σ bx := by
  refine ⟨fun σ bx => ∃ k, k ≤ n ∧ I k σ bx, fun σ bx => n - gmax (fun k => I k σ bx) n, ⟨0, Nat.zero_le _, h0⟩, ?_⟩
  rintro σ bx ⟨k, hkn, hi⟩
  dsimp only
  obtain ⟨g1, g2⟩ := gmax_of (fun k => I k σ bx) n k hkn hi
  have g3 := gmax_le (fun k => I k σ bx) n
  generalize gmax (fun k => I k σ bx) n = m at g1 g2 g3 ⊢
  have mono : ∀ (K K' : Env → Bxs → Prop) (bx : Bxs), (∀ σ bx, K σ bx → K' σ bx) → cD P C c (thenQ K Q) σ bx → cD P C c (thenQ K' Q) σ bx := fun K K' bx hK h => cD_mono (fun e σ bx he => by cases e <;> first | exact hK _ _ he | exact he) h
  by_cases hm : m < n
  · obtain ⟨bx0, hb1, hb2⟩ := hk m σ bx hm g1
    refine ⟨bx0, hb1, mono _ _ _ (fun σ' bx' h' => ?_) hb2⟩
    obtain ⟨q1, q2⟩ := gmax_of (fun k => I k σ' bx') n (m + 1) (by omega) h'
    exact ⟨⟨m + 1, by omega, h'⟩, by omega⟩
  · obtain rfl : m = n := by omega
    obtain ⟨bx0, hb1, hb2⟩ := hn σ bx g1
    exact ⟨bx0, hb1, mono _ _ _ (fun _ _ h' => h'.elim) hb2⟩

theorem wrap_succ {k : Nat} (h : k < 9223372036854775807) : IntKind.i64.wrap ((k : Int) + 1) = ((k + 1 : Nat) : Int) := by
  rw [wrap_i64 (by omega) (by omega)]; rfl

end Go.V

namespace Go.V
open Go.RowKit
set_option linter.unusedVariables false
set_option linter.unusedSimpArgs false

mutual
/-- s, e is called s', e' -/
def renD (s e s' e' : Nat) : D → D
  | .loc t k i j => if t = s ∧ k = e then .loc s' e' i j else .loc t k i j
  | .osl t k sz o n => if t = s ∧ k = e then .osl s' e' sz o n else .osl t k sz o n
  | .agg ds => .agg (renL s e s' e' ds)
  | .tup ds => .tup (renL s e s' e' ds)
  | .fn f ds => .fn f (renL s e s' e' ds)
  | .bfn f ds => .bfn f (renL s e s' e' ds)
  | .ifc t d => .ifc t (renD s e s' e' d)
  | d => d
def renL (s e s' e' : Nat) : List D → List D
  | [] => []
  | d :: ds => renD s e s' e' d :: renL s e s' e' ds
end
section
variable (s e s' e' : Nat)
theorem renL_map : ∀ ds : List D, renL s e s' e' ds = ds.map (renD s e s' e')
  | [] => by simp [renL]
  | d :: ds => by simp [renL, renL_map ds]
theorem ren_one (d : D) : (renD s e s' e' d).one = d.one := by
  cases d <;> simp only [renD] <;> (try split) <;> rfl
theorem ren_cells (d : D) : (renD s e s' e' d).cells = d.cells.map (renD s e s' e') := by
  cases d with
  | agg ds => simp only [renD, D.cells, renL_map]
  | loc t k i j => simp only [D.cells, List.map_cons, List.map_nil]; by_cases h : t = s ∧ k = e <;> simp [renD, h]
  | osl t k sz o n => simp only [D.cells, List.map_cons, List.map_nil]; by_cases h : t = s ∧ k = e <;> simp [renD, h]
  | _ => simp [renD, D.cells]
end
variable {P : Program} {X : Ctx} {ρ ρ' : Rho} {σ : Env} {bx : Bxs} {a : Act} {w : World} {s e s' e' : Nat} {S : Nat → Prop} {d : D} {v : Value}
theorem PRep.ren (h : PRep w S d v) : renD s e s' e' d = d := by
  have hL : ∀ (ds : List D) (vs : Array Value), vs.size = ds.length → (∀ (i : Nat) d v, ds[i]? = some d → vs[i]? = some v → renD s e s' e' d = d) → renL s e s' e' ds = ds := by
    intro ds vs hl h
    rw [renL_map]
    refine List.ext_getElem? fun i => ?_
    rw [List.getElem?_map]
    cases hd : ds[i]? with
    | none => rfl
    | some d =>
      have hi : i < vs.size := by have := (List.getElem?_eq_some_iff.1 hd).1; omega
      rw [Option.map_some, h i d vs[i] hd (Array.getElem?_eq_getElem hi)]
  induction h with
  | agg hl _ ih => simp only [renD, hL _ _ hl ih]
  | tup hl _ ih => simp only [renD, hL _ _ hl ih]
  | fn hl _ ih => simp only [renD, hL _ _ hl ih]
  | bfn hl _ ih => simp only [renD, hL _ _ hl ih]
  | ifc _ ih => simp only [renD, ih]
  | _ => simp only [renD]
theorem Rep.ren (h : Rep w S ρ d v) (h1 : ∀ t k p, ρ t k = some p → ρ' t k = some p) (h2 : ∀ p, ρ s e = some p → ρ' s' e' = some p) : Rep w S ρ' (renD s e s' e' d) v := by
  have hL : ∀ (ds : List D) (vs : Array Value), vs.size = ds.length → (∀ (i : Nat) d v, ds[i]? = some d → vs[i]? = some v → Rep w S ρ' (renD s e s' e' d) v) → vs.size = (renL s e s' e' ds).length ∧ ∀ (i : Nat) d v, (renL s e s' e' ds)[i]? = some d → vs[i]? = some v → Rep w S ρ' d v := by
    intro ds vs hl h
    rw [renL_map]
    refine ⟨by simpa using hl, fun i d v hd hv => ?_⟩
    rw [List.getElem?_map, Option.map_eq_some_iff] at hd
    obtain ⟨d0, hd0, rfl⟩ := hd
    exact h i d0 v hd0 hv
  induction h with
  | pure h => rw [h.ren]; exact .pure h
  | @loc t k i j q p hp hq =>
    simp only [renD]
    split
    · rename_i hc; obtain ⟨rfl, rfl⟩ := hc; exact .loc (h2 _ hp) hq
    · exact .loc (h1 _ _ _ hp) hq
  | @osl t k sz o n off cap p hp hsz h0 hoff hn hcap =>
    simp only [renD]
    split
    · rename_i hc; obtain ⟨rfl, rfl⟩ := hc; exact .osl (h2 _ hp) hsz h0 hoff hn hcap
    · exact .osl (h1 _ _ _ hp) hsz h0 hoff hn hcap
  | omap hp => simp only [renD]; exact .omap (h1 _ _ _ hp)
  | agg hl _ ih => simp only [renD]; exact .agg (hL _ _ hl ih).1 (hL _ _ hl ih).2
  | tup hl _ ih => simp only [renD]; exact .tup (hL _ _ hl ih).1 (hL _ _ hl ih).2
  | fn hl _ ih => simp only [renD]; exact .fn (hL _ _ hl ih).1 (hL _ _ hl ih).2
  | bfn hl _ ih => simp only [renD]; exact .bfn (hL _ _ hl ih).1 (hL _ _ hl ih).2
  | ifc _ ih => simp only [renD]; exact .ifc ih

/-- The variables behind it: s' in s's place; what the chosen ones hold is named anew. -/
def renB (s s' : Nat) (sel : Nat → Bool) (bx : Bxs) : Bxs := fun t =>
  if t = s' then ⟨(bx s').ep + 1, 1, (bx s).sz, (bx s).ty, (bx s).es⟩ else if t = s then { bx s with k := 0 }
  else if sel t then { bx t with es := (bx t).es.map (renD s (bx s).ep s' ((bx s').ep + 1)) } else bx t

theorem Holds.ren {p : Place} {es : List D} (h : Holds w S ρ p es) (h1 : ∀ t k p, ρ t k = some p → ρ' t k = some p) (h2 : ∀ p, ρ s e = some p → ρ' s' e' = some p) : Holds w S ρ' p (es.map (renD s e s' e')) := by
  obtain ⟨⟨cur, hc, hs, us, hu⟩, hl, hm, hz⟩ := h
  refine ⟨⟨cur, hc, hs, us, fun i d j c hi hj => ?_⟩, by simpa using hl, hm, fun i d hi => ?_⟩
  · rw [List.getElem?_map, Option.map_eq_some_iff] at hi
    obtain ⟨d0, hi, rfl⟩ := hi
    rw [ren_cells, List.getElem?_map, Option.map_eq_some_iff] at hj
    obtain ⟨c0, hj, rfl⟩ := hj
    obtain ⟨g1, g2, g3⟩ := hu i d0 j c0 hi hj
    exact ⟨g1, g2.ren h1 h2, g3⟩
  · rw [List.getElem?_map, Option.map_eq_some_iff] at hi
    obtain ⟨d0, hi, rfl⟩ := hi
    rw [ren_cells, List.length_map]
    exact hz i d0 hi

theorem Ents.ren {ds : List D} {es : List MapEntry} (h : Ents ds es) : ds.map (renD s e s' e') = ds := by
  induction h with
  | nil => rfl
  | cons hk hv _ ih =>
    rw [List.map_cons, ih]
    simp only [renD, renL, PRep.ren (hk.rep (w := default) (S := fun _ => True)), PRep.ren (hv.rep (w := default) (S := fun _ => True))]
theorem NObj.ren {ρ : Rho} {o : Obj} {es : List D} (h : NObj ρ o es) : es.map (renD s e s' e') = es := by
  cases h with
  | @map ents clock es h =>
    rw [List.map_cons, h.ren]
    simp only [renD]
  | @iter m k p since last seen hp =>
    have : (seen.toList.map fun n : Nat => D.int .i64 (n : Int)).map (renD s e s' e') = seen.toList.map fun n : Nat => D.int .i64 (n : Int) := by
      rw [List.map_map]
      exact List.map_congr_left fun x hx => by simp only [Function.comp, renD]
    rw [List.map_cons, List.map_cons, List.map_cons, this]
    simp only [renD]
theorem Sim.rename (h : Sim X ρ σ bx a w) (hlo : X.lo = 0) (hne : s ≠ s') (hk : (bx s).k = 1) (hk' : (bx s').k = 0) (sel : Nat → Bool) :
    ∃ ρ', Sim X ρ' σ (renB s s' sel bx) a w ∧ (∀ d v, Rep w (Stab X ρ bx w) ρ d v → Rep w (Stab X ρ' (renB s s' sel bx) w) ρ' d v) := by
  have hρ : ∀ t k p, ρ t k = some p → (if t = s' ∧ k = (bx s').ep + 1 then ρ s (bx s).ep else ρ t k) = some p := by
    intro t k p hp
    rw [if_neg]
    · exact hp
    · rintro ⟨rfl, rfl⟩
      have := h.eps _ _ _ hp
      omega
  have hR : ∀ p, ρ s (bx s).ep = some p → (if s' = s' ∧ (bx s').ep + 1 = (bx s').ep + 1 then ρ s (bx s).ep else ρ s' ((bx s').ep + 1)) = some p := fun p hp => by simpa using hp
  have live : ∀ t, t ≠ s' → lv (renB s s' sel bx t).k → t ≠ s ∧ (renB s s' sel bx t).k = (bx t).k ∧ (renB s s' sel bx t).ep = (bx t).ep ∧ (renB s s' sel bx t).sz = (bx t).sz ∧ (renB s s' sel bx t).ty = (bx t).ty := by
    intro t ht hk
    unfold renB at hk ⊢
    simp only [ht, if_false] at hk ⊢
    by_cases hs : t = s
    · subst hs; simp [lv0] at hk
    · simp only [hs, if_false] at hk ⊢
      split <;> exact ⟨hs, rfl, rfl, rfl, rfl⟩
  have at' : renB s s' sel bx s' = ⟨(bx s').ep + 1, 1, (bx s).sz, (bx s).ty, (bx s).es⟩ := by simp [renB]
  refine ⟨⟨fun t k => if t = s' ∧ k = (bx s').ep + 1 then ρ s (bx s).ep else ρ t k, ρ.hold⟩, ?_⟩
  have hS : ∀ b, Stab X ρ bx w b → Stab X ⟨fun t k => if t = s' ∧ k = (bx s').ep + 1 then ρ s (bx s).ep else ρ t k, ρ.hold⟩ (renB s s' sel bx) w b := by
    intro b hb
    refine ⟨hb.1, hb.2.1, fun t ht p hp => ?_⟩
    by_cases hts : t = s'
    · subst hts
      rw [at'] at hp
      simp only [and_self, if_true] at hp
      exact hb.2.2 s hk p hp
    · obtain ⟨_, g1, g2, _⟩ := live t hts (by rw [ht]; decide)
      rw [g1] at ht
      rw [g2] at hp
      simp only [hts, false_and, if_false] at hp
      exact hb.2.2 t ht p hp
  have hD : ∀ d v, Rep w (Stab X ρ bx w) ρ d v → Rep w (Stab X ⟨fun t k => if t = s' ∧ k = (bx s').ep + 1 then ρ s (bx s).ep else ρ t k, ρ.hold⟩ (renB s s' sel bx) w) ⟨fun t k => if t = s' ∧ k = (bx s').ep + 1 then ρ s (bx s).ep else ρ t k, ρ.hold⟩ d v :=
    fun d v hr => hr.mono (fun _ _ => rfl) hS hρ
  refine ⟨⟨h.fr, h.s0, h.nb, h.mb, h.ec, h.size, h.marks.mono (fun _ _ => rfl) hS hρ (fun _ h => h), h.nle, h.mkb, fun t => hD _ _ (h.tmps t), hD _ _ h.glo, fun t ht => ?_, fun t t' p p' ht ht' htt hp hp' => ?_, fun t k p hp => ?_, fun t k p hp => hρ t k p (h.r0 t k p hp), h.hold, h.holds0, h.yc, h.y0 hlo _ _, h.y0, h.h0lt, h.maps.of (fun t ht => ?_) hρ (fun _ _ _ _ _ h => h) (fun _ h => h)⟩, hD⟩
  · by_cases hts : t = s'
    · subst hts
      obtain ⟨p, hp, h2, h3, h4, h5⟩ := h.box s (by rw [hk]; decide)
      rw [at']
      exact ⟨p, by simpa using hp, h2, h3, ⟨h4.1, fun _ => h4.2 hk⟩, h5.mono rfl (fun _ _ => rfl) hS hρ⟩
    · obtain ⟨g0, g1, g2, g3, g4⟩ := live t hts ht
      obtain ⟨p, hp, h2, h3, h4, h5⟩ := h.box t (by rw [← g1]; exact ht)
      refine ⟨p, ?_, h2.trans g3.symm, h3.trans g4.symm, ⟨h4.1, fun hk1 => h4.2 (g1 ▸ hk1)⟩, ?_⟩
      · rw [g2]; simp only [hts, false_and, if_false]; exact hp
      · have h6 := h5.mono (w' := w) rfl (fun _ _ => rfl) hS (ρ' := ρ) (fun _ _ _ h => h)
        unfold renB
        simp only [hts, g0, if_false]
        split
        · exact h6.ren hρ hR
        · exact h6.mono rfl (fun _ _ => rfl) (fun _ h => h) hρ
  · by_cases hts : t = s'
    · subst hts
      obtain ⟨g0, g1, g2, _⟩ := live t' (Ne.symm htt) ht'
      rw [at'] at hp
      rw [g2] at hp'
      simp only [and_self, if_true] at hp
      simp only [Ne.symm htt, false_and, if_false] at hp'
      exact h.inj s t' p p' hk (by rw [← g1]; exact ht') (Ne.symm g0) hp hp'
    · obtain ⟨g0, g1, g2, _⟩ := live t hts (by rw [ht]; decide)
      rw [g2] at hp
      simp only [hts, false_and, if_false] at hp
      by_cases hts' : t' = s'
      · subst hts'
        rw [at'] at hp'
        simp only [and_self, if_true] at hp'
        exact h.inj t s p p' (by rw [← g1]; exact ht) (by rw [hk]; decide) g0 hp hp'
      · obtain ⟨k0, k1, k2, _⟩ := live t' hts' ht'
        rw [k2] at hp'
        simp only [hts', false_and, if_false] at hp'
        exact h.inj t t' p p' (by rw [← g1]; exact ht) (by rw [← k1]; exact ht') htt hp hp'
  · by_cases hts : t = s'
    · subst hts
      rw [at']
      simp only [true_and] at hp
      split at hp
      · rename_i hk0; rw [hk0]; exact Nat.le_refl _
      · have := h.eps _ _ _ hp; simp only; omega
    · simp only [hts, false_and, if_false] at hp
      have := h.eps _ _ _ hp
      unfold renB
      simp only [hts, if_false]
      split
      · rename_i hs; subst hs; exact this
      · split <;> exact this
  · unfold renB at ht ⊢
    by_cases hts : t = s'
    · subst hts; simp at ht
    · simp only [hts, if_false] at ht ⊢
      by_cases hs : t = s
      · subst hs; simp at ht
      · simp only [hs, if_false] at ht ⊢
        by_cases hsel : sel t = true
        · simp only [hsel, if_true] at ht ⊢
          obtain ⟨p, o, _, _, _, g4⟩ := h.maps.has t ht
          refine ⟨ht, ?_, ?_⟩ <;> first | trivial | rfl | exact g4.ren
        · simp only [hsel] at ht ⊢
          refine ⟨ht, ?_, ?_⟩ <;> first | trivial | rfl

/-- The contract's end, and one variable named anew. -/
theorem CallsB.ren {f : FuncId} {base : Nat} {ds : List D} {Q Q' Qp : D → Bxs → Prop} (h : CallsB P f base ds bx Q Qp)
    (hq : ∀ d bx', Q d bx' → Q' d bx' ∨ ∃ s s' sel, s ≠ s' ∧ (bx' s).k = 1 ∧ (bx' s').k = 0 ∧ Q' d (renB s s' sel bx')) : CallsB P f base ds bx Q' Qp := by
  intro X ρ σ a w vs hS hlo hl hv
  have fin : ∀ v w', (∃ d bx' ρ', Q d bx' ∧ Sim X ρ' σ bx' a w' ∧ Rep w' (Stab X ρ' bx' w') ρ' d v) → ∃ d bx' ρ', Q' d bx' ∧ Sim X ρ' σ bx' a w' ∧ Rep w' (Stab X ρ' bx' w') ρ' d v := by
    rintro v w' ⟨d, bx', ρ', h1, h2, h3⟩
    rcases hq d bx' h1 with h1 | ⟨s, s', sel, k1, k2, k3, k4⟩
    · exact ⟨d, bx', ρ', h1, h2, h3⟩
    · obtain ⟨ρ2, g1, g2⟩ := h2.rename hlo k1 k2 k3 sel
      exact ⟨d, _, ρ2, k4, g1, g2 d v h3⟩
  exact (h X ρ σ a w vs hS hlo hl hv).mono fin fun _ _ h => h
theorem CallsB.mono {f : FuncId} {base : Nat} {ds : List D} {Q Q' Qp Qp' : D → Bxs → Prop} (h : CallsB P f base ds bx Q Qp) (hq : ∀ d bx', Q d bx' → Q' d bx') (hp : ∀ d bx', Qp d bx' → Qp' d bx') : CallsB P f base ds bx Q' Qp' :=
  fun X ρ σ a w vs hS hlo hl hv => (h X ρ σ a w vs hS hlo hl hv).mono (fun v w' ⟨d, bx', ρ', h1, h2⟩ => ⟨d, bx', ρ', hq _ _ h1, h2⟩) (fun v w' ⟨d, bx', ρ', h1, h2⟩ => ⟨d, bx', ρ', hp _ _ h1, h2⟩)

theorem upd_ne {α : Type} {σ : Nat → α} {t : Nat} {v : α} {x : Nat} (h : x ≠ t) : upd σ t v x = σ x := by simp [upd, h]
theorem cutB_lt {n s : Nat} (h : s < n) : cutB n bx s = bx s := by simp [cutB, h]
theorem OwnV.cut {ts : List Nat} {el esz n : Nat} {x : D} {xs : List D} (h : OwnV bx ts el esz x xs) (hn : ∀ t, t ∈ ts → t < n) : OwnV (cutB n bx) ts el esz x xs := h.of fun t ht => cutB_lt (hn t ht)
theorem OwnV.uncut {ts : List Nat} {el esz n : Nat} {x : D} {xs : List D} (h : OwnV (cutB n bx) ts el esz x xs) (hn : ∀ t, t ∈ ts → t < n) : OwnV bx ts el esz x xs := h.of fun t ht => (cutB_lt (hn t ht)).symm
theorem OwnV.facts {ts : List Nat} {el esz : Nat} {x : D} {xs : List D} (h : OwnV bx ts el esz x xs) : x.cells = [x] ∧ x.one = true ∧ ∀ c, setD x 0 [c] = some c := by
  rcases h with ⟨rfl, rfl⟩ | ⟨t, e, _, rfl, hb⟩ <;> exact ⟨rfl, rfl, fun c => by simp [setD, D.cells]⟩
/-- x is nil, or a slice of one's own in the slot s -/
def OwnS (bx : Bxs) (s el esz : Nat) (x : D) (xs : List D) : Prop :=
  (x = .nilsl ∧ xs = [] ∧ (bx s).k = 0) ∨ ∃ e, x = .osl s e esz 0 xs.length ∧ bx s = ⟨e, 1, esz, el, xs⟩
theorem OwnS.nil {s el esz : Nat} (h : (bx s).k = 0) : OwnS bx s el esz .nilsl [] := .inl ⟨rfl, rfl, h⟩
theorem OwnS.toV {s el esz : Nat} {x : D} {xs : List D} (h : OwnS bx s el esz x xs) : OwnV bx [s] el esz x xs := by
  rcases h with ⟨h1, h2, _⟩ | ⟨e, h1, h2⟩
  · exact .inl ⟨h1, h2⟩
  · exact .inr ⟨s, e, by simp, h1, h2⟩
theorem OwnS.of {bx' : Bxs} {s el esz : Nat} {x : D} {xs : List D} (h : OwnS bx s el esz x xs) (hb : bx' s = bx s) : OwnS bx' s el esz x xs := by
  unfold OwnS; rw [hb]; exact h

/-- append onto a slice of one's own in another slot -/
theorem append_S {lo : Nat} {T : TypeId → TI} {e esz b size d s0 : Nat} {ag ag' : Bool} {z : List D} {x : D} {xs ys : List D} {K2 : D × Bxs → Prop} (hx : OwnS bx s0 e esz x xs) (hne : ys ≠ []) (hz : (T e).zero.length = esz)
    (h1 : (xs.length + ys.length) * b ≤ 140737488355328) (h2 : 0 < esz) (h3 : 0 < b) (hlo : lo ≤ s0) (hd : s0 ≠ d)
    (hk : ∀ (e' : Nat) (bx' : Bxs), bx' d = ⟨e', 1, esz, e, xs ++ ys⟩ → (bx' s0).k = 0 → (∀ s, s ≠ d → s ≠ s0 → bx' s = bx s) → K2 (.osl d e' esz 0 (xs ++ ys).length, bx')) :
    bindD (appendD lo T ⟨.slice e esz b ag, size, ag', z⟩ (some d) bx x ys) K2 := by
  rcases hx with ⟨rfl, rfl, hk0⟩ | ⟨e', rfl, hb⟩
  · simp only [appendD, hne, if_false, hz, if_true, appX]
    rw [if_pos ⟨by simpa using h1, h2, h3⟩, bindD_some]
    have := hk ((bx d).ep + 1) (upd bx d ⟨(bx d).ep + 1, 1, esz, e, ys⟩) (by simp [upd]) (by simp [upd, hd, hk0]) (fun s hs _ => by simp [upd, hs])
    simpa using this
  · simp only [appendD, hne, if_false, hz, if_true, appX, appO, hb]
    rw [if_pos ⟨hlo, trivial, trivial, trivial, trivial, trivial, trivial, Nat.le_refl _, h1, h2, h3⟩, bindD_some]
    have := hk ((bx d).ep + 1) (upd (upd bx s0 ⟨e', 0, esz, e, xs⟩) d ⟨(bx d).ep + 1, 1, esz, e, xs ++ ys⟩) (by simp [upd]) (by simp [upd, hd]) (fun s hs hst => by simp [upd, hs, hst])
    simpa using this
/-- What a slice of one's own comes to. -/
theorem OwnV.out {ts : List Nat} {el esz : Nat} {x : D} {xs : List D} (h : OwnV bx ts el esz x xs) (hp : D.pureL xs = true) : ∃ r, outD bx x = some r ∧ Weak r (.sl esz xs) := by
  rcases h with ⟨rfl, rfl⟩ | ⟨t, e, _, rfl, hb⟩
  · exact ⟨_, outD_nilsl, .nil _⟩
  · exact ⟨_, by rw [outD_osl, hb]; exact outB_all _ _ _ _ _ _ (by decide) rfl hp, .refl _⟩
/-- The contract of what says more holds of what says less of its arguments. -/
theorem CallsTo.weak {f : FuncId} {ds ds' : List D} {d : D} (h : CallsTo P f ds d) (hl : ds'.length = ds.length) (hw : ∀ (i : Nat) x x', ds'[i]? = some x → ds[i]? = some x' → Weak x x') : CallsTo P f ds' d := by
  intro w S vs hS hg hn hv
  refine h w S vs hS hg (hn.trans hl) fun i x v hx hv' => ?_
  have hi : i < ds'.length := by rw [hl]; exact (List.getElem?_eq_some_iff.1 hx).1
  exact Rep.weak (hw i _ x (List.getElem?_eq_getElem hi) hx) (hv i _ v (List.getElem?_eq_getElem hi) hv')
theorem CallsTo.weak1 {f : FuncId} {x x' : D} {d : D} (h : CallsTo P f [x'] d) (hw : Weak x x') : CallsTo P f [x] d := by
  refine h.weak rfl fun i a b ha hb => ?_
  match i with
  | 0 => simp at ha hb; subst ha; subst hb; exact hw
  | i + 1 => simp at ha
theorem CallsTo.weak2 {f : FuncId} {x x' y y' : D} {d : D} (h : CallsTo P f [x', y'] d) (hw : Weak x x') (hw2 : Weak y y') : CallsTo P f [x, y] d := by
  refine h.weak rfl fun i a b ha hb => ?_
  match i with
  | 0 => simp at ha hb; subst ha; subst hb; exact hw
  | 1 => simp at ha hb; subst ha; subst hb; exact hw2
  | i + 2 => simp at ha
/-- append of any number onto a slice of one's own whose variable is the step's own slot -/
theorem append_all {lo : Nat} {T : TypeId → TI} {e esz b size d : Nat} {ag ag' : Bool} {z : List D} {x : D} {xs ys : List D} {K2 : D × Bxs → Prop} (hx : OwnV bx [d] e esz x xs) (hz : (T e).zero.length = esz)
    (h1 : (xs.length + ys.length) * b ≤ 140737488355328) (h2 : 0 < esz) (h3 : 0 < b) (hlo : lo ≤ d)
    (hk : ∀ x' bx', OwnV bx' [d] e esz x' (xs ++ ys) → (∀ s, s ≠ d → bx' s = bx s) → K2 (x', bx')) :
    bindD (appendD lo T ⟨.slice e esz b ag, size, ag', z⟩ (some d) bx x ys) K2 := by
  by_cases hy : ys = []
  · subst hy
    exact append_none hx (hk _ _ (by simpa using hx) fun _ _ => rfl)
  · refine append_own hx hy hz h1 h2 h3 (fun t ht => by simp at ht; subst ht; exact hlo) fun e' bx' hb hf => hk _ _ ?_ fun s hs => hf s hs (by simpa using hs)
    exact OwnV.mk (by simp) hb
theorem weak_tup2 {a b a' b' : D} (h1 : Weak a a') (h2 : Weak b b') : Weak (.tup [a, b]) (.tup [a', b']) := by
  refine .tup rfl fun i x x' hx hx' => ?_
  match i with
  | 0 => simp at hx hx'; subst hx; subst hx'; exact h1
  | 1 => simp at hx hx'; subst hx; subst hx'; exact h2
  | i + 2 => simp at hx

end Go.V

namespace Go.V
open Go.RowKit
set_option linter.unusedVariables false

variable {P : Program} {C : Calc} {X : Ctx} {ρ : Rho} {σ : Env} {bx : Bxs} {a : Act} {w : World} {n : Nat}

/-- How an activation is being left: it returns; it panics with a value. -/
inductive RM where
  | ret
  | pan (d : D)

/-- what recover yields -/
def RM.val : RM → D
  | .ret => .raw .nilIface
  | .pan d => d

def MR (w : World) (S : Nat → Prop) (ρ : Rho) : RM → FrameMode → Prop
  | .ret, u => u = .returning
  | .pan d, u => ∃ v, u = .panicking [pe v] ∧ Rep w S ρ d v

theorem MR.imp {w w' : World} {S S' : Nat → Prop} {ρ ρ' : Rho} {m : RM} {u : FrameMode} (h : MR w S ρ m u) (hr : ∀ d v, Rep w S ρ d v → Rep w' S' ρ' d v) : MR w' S' ρ' m u := by
  cases m with
  | ret => exact h
  | pan d => obtain ⟨v, h1, h2⟩ := h; exact ⟨v, h1, hr _ _ h2⟩
theorem MR.ne {w : World} {S : Nat → Prop} {ρ : Rho} {m : RM} {u : FrameMode} (h : MR w S ρ m u) : u ≠ .run := by
  cases m with
  | ret => rw [show u = .returning from h]; simp
  | pan d => obtain ⟨v, h1, _⟩ := h; rw [h1]; simp
theorem MR.settle {w : World} {S : Nat → Prop} {ρ : Rho} {m : RM} {u : FrameMode} (h : MR w S ρ m u) : settle u = u := by
  cases m with
  | ret => rw [show u = .returning from h]; rfl
  | pan d => obtain ⟨v, h1, _⟩ := h; rw [h1]; rfl

/-- THE CONTRACT OF A DEFERRED CALL. -/
def CallsR (P : Program) (f : FuncId) (base : Nat) (ds : List D) (bx : Bxs) (m : RM) (Q : RM → Bxs → Prop) : Prop :=
  ∀ (X : Ctx) (ρ : Rho) (σ : Env) (a : Act) (w : World) (vs : Array Value) (u : FrameMode), Sim X ρ σ bx a w → X.lo = 0 → vs.size = ds.length → (∀ (i : Nat) x v, ds[i]? = some x → vs[i]? = some v → Rep w (Stab X ρ bx w) ρ x v) → MR w (Stab X ρ bx w) ρ m u →
    (callFunc f vs).run P w = .ok (.enter f vs) w ∧ CallsDIn Fence.wide 0 P f vs u w fun e u' w' => ∃ v, e = .returned v ∧ ∃ m' bx' ρ', Q m' bx' ∧ Sim X ρ' σ bx' a w' ∧ MR w' (Stab X ρ' bx' w') ρ' m' (Go.settle u')

/-- An activation is left: its deferred calls, the last one first. -/
def leaveR (P : Program) (nxt : Nat) : List D → RM → Bxs → (RM → Bxs → Prop) → Prop
  | [], m, bx, K => K m bx
  | .tup (.fn (.func f) caps :: args) :: l, m, bx, K => ∃ Q, CallsR P f nxt (args ++ caps) bx m Q ∧ ∀ m' bx', Q m' bx' → leaveR P nxt l m' bx' K
  | _ :: _, _, _, _ => False
def leaveD (P : Program) (nxt : Nat) (l : List D) (m : RM) (bx : Bxs) (K : RM → Bxs → Prop) (_ : Tok (K m bx) := ⟨⟩) : Prop := leaveR P nxt l m bx K

theorem CallsDIn.mono' {F : Fence} {f : FuncId} {args : Array Value} {u : FrameMode} {R R' : Ending → FrameMode → World → Prop} (h : CallsDIn F n P f args u w R) (hi : ∀ e u w, R e u w → R' e u w) : CallsDIn F n P f args u w R' := by
  refine ⟨h.1, fun c cs hu hr => ?_⟩
  obtain ⟨e, u', w', fr, g1, g2⟩ := h.2 c cs hu hr
  exact ⟨e, u', w', fr, hi _ _ _ g1, g2⟩

theorem leave_rec {fn : Func} {nxt : Nat} (hlo : X.lo = 0) (hml : X.ml = X.w0.heap.size) (hmd : X.md = 2) {K : RM → Bxs → Prop} {R : Ending → World → Prop} {tmps : Array Value} : ∀ (ds : List Deferred) (l : List D) (m : RM) (u : FrameMode) (a : Act) (ρ : Rho) (σ : Env) (bx : Bxs) (w : World), a.defers = ds → Sim X ρ σ bx a w → recD (σ dfS) = l →
    MR w (Stab X ρ bx w) ρ m u → leaveR P nxt l m bx K →
    (∀ ρ' σ' bx' w' m' u', (∀ t, t ≠ dfS → σ' t = σ t) → Sim X ρ' σ' bx' { a with defers := [] } w' → K m' bx' → MR w' (Stab X ρ' bx' w') ρ' m' u' → LeavesIn Fence.wide 0 P fn tmps R [] u' w') → LeavesInM Fence.wide 0 P fn tmps R ds u w
  | [], l, m, u, a, ρ, σ, bx, w, hd, h, hl, hm, hc, hR => by
    obtain ⟨hk, _⟩ := h.marks.resolve_left (by omega)
    rw [if_neg (by omega), hl, hd] at hk
    cases hk
    exact hR ρ σ bx w m u (fun _ _ => rfl) (h.switch h.size (.nil (.inr (.inr hl))) h.tmps) hc hm
  | d :: ds, l, m, u, a, ρ, σ, bx, w, hd, h, hl, hm, hc, hR => by
    obtain ⟨hk, _⟩ := h.marks.resolve_left (by omega)
    rw [if_neg (by omega), hl, hd] at hk
    refine ⟨hm.ne, ?_⟩
    cases hk with
    | @mark _ r _ h1 h2 h3 h4 =>
      have hw := (h.hold r _ h1).1
      obtain ⟨ρ', h', _, hre⟩ := h.take2 hd hml (by omega) (putObj_fr w r (.deferred none)) (World.putObj_heap_same (Array.getElem?_eq_some_iff.1 hw).1) hlo
      exact .inl ⟨r, _, rfl, run_takeDeferred hw, leave_rec hlo hml hmd ds l m u { a with defers := ds } ρ' σ bx _ rfl h' hl (hm.imp hre) hc hR⟩
    | @call f caps args l' vc va _ g1 g2 g3 g4 g5 =>
      obtain ⟨Q, hQ, hnext⟩ := hc
      have h' : Sim X ρ (upd σ dfS (.any l')) bx { a with defers := ds } w := h.switch h.size (.inr ⟨by rw [if_neg (by omega), upd_same]; exact g5, fun h3 => by omega⟩) (fun t => by
        simp only [upd]
        split
        · exact .pure (.any _ _)
        · exact h.tmps t)
      obtain ⟨k1, k2⟩ := hQ X ρ _ _ w (va ++ vc) u h' hlo (by simp [g1, g3]) (fun i x v hx hv => by
        by_cases hi : i < args.length
        · rw [List.getElem?_append_left hi] at hx
          rw [Array.getElem?_append_left (by omega)] at hv
          exact g4 i x v hx hv
        · rw [List.getElem?_append_right (by omega)] at hx
          rw [Array.getElem?_append_right (by omega), g3] at hv
          exact g2 _ x v hx hv) hm
      refine .inr ⟨by simp [Fence.wide], .func f, vc, f, va ++ vc, rfl, by simpa [invoke] using k1, fun _ _ => trivial, CallsDIn.mono' k2 ?_⟩
      rintro e u' w' ⟨v, rfl, m', bx', ρ', q1, q2, q3⟩
      exact leave_rec hlo hml hmd ds l' m' _ { a with defers := ds } ρ' _ bx' w' rfl q2 (by rw [upd_same]; rfl) q3 (hnext _ _ q1) fun ρ2 σ2 bx2 w2 m2 u2 e1 e2 e3 e4 => hR ρ2 σ2 bx2 w2 m2 u2 (fun t ht => by rw [e1 t ht]; simp [upd, ht]) e2 e3 e4

def rvOk (rv : List ResultVar) : Bool := rv.all fun r => match r with
  | .tmp t => t != dfS
  | .cell t _ => t != dfS
theorem resL_congr {σ σ' : Env} (h : ∀ t, t ≠ dfS → σ' t = σ t) : ∀ (rv : List ResultVar), rvOk rv = true → resL P σ' bx rv = resL P σ bx rv
  | [], _ => rfl
  | r :: rv, hr => by
    simp only [rvOk, List.all_cons, Bool.and_eq_true] at hr
    have := resL_congr h rv hr.2
    simp only [resL, this]
    cases r with
    | tmp t => simp only [resD]; rw [h t (by have := hr.1; simpa using this)]
    | cell t T => simp only [resD]; rw [h t (by have := hr.1; simpa using this)]

/-- behind the deferred calls -/
def leaveK (P : Program) (rv : List ResultVar) (σ : Env) (Post Pan : D → Bxs → Prop) : RM → Bxs → Prop
  | .ret, bx => bindD (resL P σ bx rv) fun rs => Post (tupD rs) bx
  | .pan d, bx => Pan d bx
def retP (P : Program) (nxt : Nat) (rv : List ResultVar) (Post Pan : D → Bxs → Prop) : DX → Env → Bxs → Prop
  | .normal, σ, bx | .ret, σ, bx => leaveD P nxt (recD (σ dfS)) .ret bx (leaveK P rv σ Post Pan)
  | .pan d, σ, bx => leaveD P nxt (recD (σ dfS)) (.pan d) bx (leaveK P rv σ Post Pan)
  | _, _, _ => False

/-- A function that defers. -/
def fnP (P : Program) (O : Orac) (tab : List (Nat × List (Nat × Nat))) (fn : Func) (base : Nat) (ds : List D) (bx : Bxs) (Post Pan : D → Bxs → Prop) : Prop :=
  ∃ c, fn.body = some c ∧ codeOk tab fn.ntmps c = true ∧ rvOk fn.results.toList = true ∧ cD P ⟨O, tab, base, base + fn.ntmps, 0, none, true, true⟩ c (retP P (base + fn.ntmps) fn.results.toList Post Pan) (argsF 0 ds) bx

theorem fnP_sound (hm : P.follows .mixedOrders = true) {f : FuncId} {fn : Func} {O : Orac} {tab : List (Nat × List (Nat × Nat))} {base : Nat} {ds : List D} {bx : Bxs} {Q Qp : D → Bxs → Prop} (hf : P.funcs[f]? = some fn)
    (hname : (fn.name == "runtime.NumGoroutine") = false) (hlen : ds.length ≤ fn.ntmps) (hO : Ok P O) (h : fnP P O tab fn base ds bx Q Qp) : CallsB P f base ds bx Q Qp := by
  obtain ⟨c, hb, hok, hrv, hc⟩ := h
  obtain ⟨hN, hok⟩ : fn.ntmps ≤ dfS ∧ codeOk1 tab fn.ntmps c = true := by simpa [codeOk, dfS] using hok
  intro X ρ σ a w vs hS xlo hl hv
  refine .inl ⟨Go.MuLone.run_callFunc_enter hf hname hb vs w, callsIn_wide.1 (callsIn_of_wp_marks (F := Fence.wide) (n := 0) hf hb trivial ?_)⟩
  obtain ⟨k1, k2⟩ := args_frame (N := fn.ntmps) hl hlen hv
  have hrec : recD (argsF 0 ds dfS) = [] := by
    rw [argsF_at, if_neg (by omega), List.getElem?_eq_none (by omega)]
    rfl
  have h0 := hS.sub (E := fun _ => False) (N := fn.ntmps) (ml := w.heap.size) (md := 2) (σ' := argsF 0 ds) (a' := { tmps := vs ++ Array.replicate (fn.ntmps - vs.size) undef, defers := [] }) hN (fun _ h => h.elim) k1 (.nil (.inr (.inr hrec))) (Nat.le_refl _) k2
  refine code_sound hm c none 0 ⟨O, tab, base, base + fn.ntmps, 0, none, true, true⟩ _ _ _ _ _ _ _ w ⟨hO, Nat.le_refl _, Nat.zero_le _, (fun _ _ _ hk => by cases hk), (fun _ => rfl), fun hf => by have : (2 : Nat) = 3 := hf; omega⟩ (fun l hl => by cases hl) hok h0 hc fun e e' σ' bx' a' w' ρ' hx hq h' => ?_
  have fin : ∀ m u, MR w' (Stab X ρ' bx' w') ρ' m u → leaveR P (base + fn.ntmps) (recD (σ' dfS)) m bx' (leaveK P fn.results.toList σ' Q Qp) →
      LeavesInM Fence.wide 0 P fn a'.tmps (fun e w' => (∃ v, e = .returned v ∧ ∃ d bx' ρ', Q d bx' ∧ Sim X ρ' σ bx' a w' ∧ Rep w' (Stab X ρ' bx' w') ρ' d v) ∨ ∃ v, e = .panicked [pe v] ∧ ∃ d bx' ρ', Qp d bx' ∧ Sim X ρ' σ bx' a w' ∧ Rep w' (Stab X ρ' bx' w') ρ' d v) a'.defers u w' := by
    intro m u hmu hq
    refine leave_rec rfl rfl rfl a'.defers _ m u a' ρ' σ' bx' w' rfl h' rfl hmu hq fun ρ2 σ2 bx2 w2 m2 u2 he h2 hk hm2 => ?_
    have hback : Sim X ρ2 σ bx2 a w2 := hS.back rfl rfl h2 (fun _ h => h.elim) (fun _ h => h.elim) (fun _ h => h.elim) (hS.y0 xlo _ _)
    cases m2 with
    | ret =>
      rw [show u2 = .returning from hm2]
      simp only [leaveK] at hk
      cases hr : resL P σ' bx2 fn.results.toList with
      | none => rw [hr] at hk; exact hk.elim
      | some rs =>
        rw [hr] at hk
        obtain ⟨v, g1, g2⟩ := results_sound h2 (fn := fn) (by rw [resL_congr he _ hrv]; exact hr)
        exact ⟨v, g1, .inl ⟨v, rfl, tupD rs, bx2, ρ2, hk, hback, g2⟩⟩
    | pan d =>
      obtain ⟨v, hu, hv⟩ := hm2
      rw [hu]
      exact .inr ⟨v, rfl, d, bx2, ρ2, hk, hback, hv⟩
  rcases hx.cases with ⟨rfl, rfl⟩ | ⟨rfl, rfl⟩ | ⟨_, rfl, rfl⟩ | ⟨_, rfl, rfl⟩ | ⟨d, v, rfl, rfl, hv⟩
  · exact fin .ret _ rfl hq
  · exact fin .ret _ rfl hq
  · exact hq.elim
  · exact hq.elim
  · exact fin (.pan d) _ ⟨v, rfl, hv⟩ hq

/-! Deferred functions -/

/-- What stood before an activation stands behind it. -/
theorem Sim.keep {ρ2 : Rho} {σ2 : Env} {bx2 : Bxs} {a2 : Act} {w2 : World} {E : Nat → Prop} {N ml md : Nat} (h : Sim X ρ σ bx a w) (k : Sim (X.sub ρ bx w E N ml md) ρ2 σ2 bx2 a2 w2) (hE : ∀ b, ¬ E b) : ∀ d v, Rep w (Stab X ρ bx w) ρ d v → Rep w2 (Stab X ρ2 bx2 w2) ρ2 d v := by
  have hlive : ∀ b, Stab X ρ bx w b → ¬ (X.sub ρ bx w E N ml md).M b := by
    rintro b hb ⟨t, p, hk, hp, rfl⟩
    exact hb.2.2 t hk p hp rfl
  refine fun d v hd => hd.monoC (fun b hb o ho hc => (k.fr.block b hb.1 (fun hm => ?_)).trans ho) (fun b hb => ?_) k.r0
  · rcases hm with hm | hm
    · exact hlive b hb hm
    · have := k.ec b hm o ho
      rw [hc] at this; cases this
  · refine ⟨Nat.lt_of_lt_of_le hb.1 k.fr.size, hb.2.1, fun t ht p hp e => ?_⟩
    obtain ⟨p', hp', _, _, hpb, _⟩ := k.box t (by rw [ht]; decide)
    rw [hp] at hp'; injection hp' with hp'; subst hp'
    rcases hpb.2 ht with h1 | h1
    · have := hb.1; simp only [Ctx.sub] at h1; omega
    · exact hlive b hb (e ▸ h1)

/-- operations that yield, one after the other -/
def recOps (P : Program) : List Oper → Env → Bxs → Option Env
  | [], σ, _ => some σ
  | o :: l, σ, bx => if o.guard.isSome then none else match valD P σ bx o.op with
    | some v => recOps P l (put σ o.dst v) bx
    | none => none

def retR (Post : Bxs → Prop) : DX → Env → Bxs → Prop
  | .normal, _, bx | .ret, _, bx => Post bx
  | _, _, _ => False

def dstOk (N : Nat) (l : List Oper) : Bool := l.all fun o => match o.dst with
  | some d => decide (d < N)
  | none => true

def Orac.noIt (O : Orac) : Orac := ⟨O.to, O.toB, fun _ _ _ _ => False⟩

/-- A deferred function: it recovers first; it does not recover. -/
def fnR (P : Program) (O : Orac) (tab : List (Nat × List (Nat × Nat))) (fn : Func) (base : Nat) (ds : List D) (bx : Bxs) (m : RM) (Post : RM → Bxs → Prop) : Prop :=
  fn.results.toList = [] ∧ ((∃ c, fn.body = some c ∧ codeOk tab fn.ntmps c = true ∧ cD P ⟨O.noIt, tab, base, base + fn.ntmps, 0, none, false, false⟩ c (retR (Post m)) (argsF 0 ds) bx) ∨
  (∃ id t args ats ty pos af L rest σ', fn.body = some (.seq (.region id (⟨some t, .call { callee := .builtin .recover, args, argTypes := ats }, ty, pos, af, none⟩ :: L).toArray false) rest) ∧ t < fn.ntmps ∧ dstOk fn.ntmps L = true ∧ codeOk tab fn.ntmps rest = true ∧
    recOps P L (upd (argsF 0 ds) t m.val) bx = some σ' ∧ cD P ⟨O.noIt, tab, base, base + fn.ntmps, 0, none, false, false⟩ rest (retR (Post .ret)) σ' bx))

theorem Ok.noIt {O : Orac} (h : Ok P O) : Ok P O.noIt := ⟨h.to, h.toB, fun _ _ _ _ h => h.elim⟩

theorem recOps_sound {ops : Array Oper} {Q : Exit → Act → List Frame → World → Prop} {cs : List Frame} : ∀ (L pre : List Oper) (σ σ' : Env) (a : Act) (ρ : Rho) (w : World), ops.toList = pre ++ L → dstOk X.N L = true → Sim X ρ σ bx a w → recOps P L σ bx = some σ' →
    (∀ ρ' a' w', (∀ d v, Rep w (Stab X ρ bx w) ρ d v → Rep w' (Stab X ρ' bx w') ρ' d v) → Sim X ρ' σ' bx a' w' → Q .normal a' cs w') → wpOpsSIn Fence.wide n P ops Q (List.range' pre.length L.length) a cs w
  | [], pre, σ, σ', a, ρ, w, hops, hd, h, hr, hQ => by
    simp only [recOps, Option.some.injEq] at hr
    subst hr
    exact hQ ρ a w (fun _ _ h => h) h
  | o :: L, pre, σ, σ', a, ρ, w, hops, hd, h, hr, hQ => by
    simp only [recOps] at hr
    split at hr
    · cases hr
    · rename_i hg
      have hg : o.guard = none := by simpa using hg
      simp only [dstOk, List.all_cons, Bool.and_eq_true] at hd
      split at hr
      · rename_i v hv
        obtain ⟨u, w', hrun, hb, hrep⟩ := val_sound h o hv
        have ho : ops[pre.length]? = some o := by
          rw [← Array.getElem?_toList, hops]; simp
        have hwant : Region.wanted o (yielded ops a.tmps) = true := by simp [Region.wanted, hg]
        simp only [List.length_cons, List.range'_succ, wpOpsSIn, ho, hwant, if_true, hrun]
        refine ⟨fun _ _ => trivial, ?_⟩
        have hx := h.ext hb
        have hS : ∀ b, Stab X ρ bx w b → Stab X ρ bx w' b := fun b hb' => ⟨Nat.lt_of_lt_of_le hb'.1 hb.size, hb'.2⟩
        have hp : Sim X ρ (put σ o.dst v) bx (a.put o.dst u) w' := hx.put (fun t ht => by have := hd.1; rw [ht] at this; simpa using this) hrep
        have := recOps_sound (ops := ops) L (pre ++ [o]) (put σ o.dst v) σ' (a.put o.dst u) ρ w' (by simp [hops]) hd.2 hp hr (fun ρ' a' w2 h2 h3 => hQ ρ' a' w2 (fun d v hdv => h2 d v (hdv.mono (fun b hb' => hb.block b hb'.1) hS (fun _ _ _ h => h))) h3)
        simpa using this
      · cases hr

theorem fnR_sound (hm : P.follows .mixedOrders = true) {f : FuncId} {fn : Func} {O : Orac} {tab : List (Nat × List (Nat × Nat))} {base : Nat} {ds : List D} {bx : Bxs} {m : RM} {Q : RM → Bxs → Prop} (hf : P.funcs[f]? = some fn)
    (hname : (fn.name == "runtime.NumGoroutine") = false) (hlen : ds.length ≤ fn.ntmps) (hO : Ok P O) (h : fnR P O tab fn base ds bx m Q) : CallsR P f base ds bx m Q := by
  obtain ⟨hres, h⟩ := h
  intro X ρ σ a w vs u hS xlo hl hv hmu
  obtain ⟨k1, k2⟩ := args_frame (N := fn.ntmps) hl hlen hv
  have fin : ∀ (c₀ : Frame) (cs : List Frame) (u' : FrameMode) (m' : RM) (e : DX) (e' : Exit) (σ' : Env) (bx' : Bxs) (a' : Act) (w' : World) (ρ' : Rho) (E : Nat → Prop), XR w' (Stab X ρ' bx' w') ρ' e e' → retR (Q m') e σ' bx' → Sim (X.sub ρ bx w (fun _ => False) fn.ntmps w.heap.size 3) ρ' σ' bx' a' w' →
      MR w' (Stab X ρ' bx' w') ρ' m' (Go.settle u') →
      bodyPostS P fn c₀ cs (fun e u' w' => ∃ v, e = .returned v ∧ ∃ m' bx' ρ', Q m' bx' ∧ Sim X ρ' σ bx' a w' ∧ MR w' (Stab X ρ' bx' w') ρ' m' (Go.settle u')) e' a' ({ c₀ with mode := u' } :: cs) w' := by
    intro c₀ cs u' m' e e' σ' bx' a' w' ρ' E hx hq h' hm'
    have hd : a'.defers = [] := by
      rcases h'.marks with h3 | h3
      · have : (3 : Nat) = 1 := h3; omega
      · exact h3.2 rfl
    obtain ⟨v, g1, g2⟩ := results_sound h' (fn := fn) (rs := []) (by rw [hres]; rfl)
    have hback : Sim X ρ' σ bx' a w' := hS.back rfl rfl h' (fun _ h => h.elim) (fun _ h => h.elim) (fun _ h => h.elim) (hS.y0 xlo _ _)
    rcases hx.cases with ⟨rfl, rfl⟩ | ⟨rfl, rfl⟩ | ⟨_, rfl, rfl⟩ | ⟨_, rfl, rfl⟩ | ⟨d, v, rfl, rfl, hv⟩
    · exact ⟨hd, u', rfl, v, g1, v, rfl, m', bx', ρ', hq, hback, hm'⟩
    · exact ⟨hd, u', rfl, v, g1, v, rfl, m', bx', ρ', hq, hback, hm'⟩
    all_goals exact hq.elim
  have hG : Good P ⟨O.noIt, tab, base, base + fn.ntmps, 0, none, false, false⟩ (X.sub ρ bx w (fun _ => False) fn.ntmps w.heap.size 3) := ⟨hO.noIt, Nat.le_refl _, Nat.zero_le _, (fun _ _ _ hk => by cases hk), (fun hf => by cases hf), fun _ _ _ _ _ h => h⟩
  have hrec : recD (argsF 0 ds dfS) = [] ∨ fn.ntmps > dfS := by
    by_cases hN : fn.ntmps > dfS
    · exact .inr hN
    · refine .inl ?_
      rw [argsF_at, if_neg (by omega), List.getElem?_eq_none (by omega)]
      rfl
  rcases h with ⟨c, hb, hok, hc⟩ | ⟨id, t, args, ats, ty, pos, af, L, rest, σ1, hb, ht, hL, hok, hrecO, hc⟩
  · obtain ⟨hN, hok⟩ : fn.ntmps ≤ dfS ∧ codeOk1 tab fn.ntmps c = true := by simpa [codeOk, dfS] using hok
    have h0 := hS.sub (E := fun _ => False) (N := fn.ntmps) (ml := w.heap.size) (md := 3) (σ' := argsF 0 ds) (a' := { tmps := vs ++ Array.replicate (fn.ntmps - vs.size) undef, defers := [] }) hN (fun _ h => h.elim) k1 (.nil (.inr (.inr (hrec.resolve_right (by omega))))) (Nat.le_refl _) k2
    refine ⟨Go.MuLone.run_callFunc_enter hf hname hb vs w, callsDIn_of_wpSIn hf hb trivial fun c₀ cs hu => wpSIn_of_wpIn rfl ?_⟩
    refine code_sound hm c none 0 _ _ _ _ _ _ _ _ w hG (fun l hl => by cases hl) hok h0 hc fun e e' σ' bx' a' w' ρ' hx hq h' => ?_
    subst hu
    have hm' : MR w' (Stab X ρ' bx' w') ρ' m c₀.mode := hmu.imp (hS.keep h' fun _ hb => hb.elim)
    exact fin c₀ cs c₀.mode m e e' σ' bx' a' w' ρ' (fun _ => False) hx hq h' (by rw [hmu.settle]; exact hm')
  · obtain ⟨hN, hok⟩ : fn.ntmps ≤ dfS ∧ codeOk1 tab fn.ntmps rest = true := by simpa [codeOk, dfS] using hok
    have hp0 : PRep w (Stab X ρ bx w) (.raw .nilIface) .nilIface := .raw _
    have h0 := hS.sub (E := fun _ => False) (N := fn.ntmps) (ml := w.heap.size) (md := 3) (σ' := argsF 0 ds) (a' := { tmps := vs ++ Array.replicate (fn.ntmps - vs.size) undef, defers := [] }) hN (fun _ h => h.elim) k1 (.nil (.inr (.inr (hrec.resolve_right (by omega))))) (Nat.le_refl _) k2
    refine ⟨Go.MuLone.run_callFunc_enter hf hname hb vs w, callsDIn_of_wpSIn hf hb trivial fun c₀ cs hu => wpSIn_seq (wpSIn_region ?_)⟩
    have hrest : ∀ (u' : FrameMode) (v : Value), Go.settle u' = .returning → Rep w (Stab X ρ bx w) ρ m.val v →
        wpOpsSIn Fence.wide 0 P (⟨some t, .call { callee := .builtin .recover, args, argTypes := ats }, ty, pos, af, none⟩ :: L).toArray (Exit.thenS (rest.wpSIn Fence.wide 0 P (bodyPostS P fn c₀ cs (fun e u' w' => ∃ v, e = .returned v ∧ ∃ m' bx' ρ', Q m' bx' ∧ Sim X ρ' σ bx' a w' ∧ MR w' (Stab X ρ' bx' w') ρ' m' (Go.settle u')))) (bodyPostS P fn c₀ cs (fun e u' w' => ∃ v, e = .returned v ∧ ∃ m' bx' ρ', Q m' bx' ∧ Sim X ρ' σ bx' a w' ∧ MR w' (Stab X ρ' bx' w') ρ' m' (Go.settle u'))))
          (List.range' 1 L.length) (({ tmps := vs ++ Array.replicate (fn.ntmps - vs.size) undef, defers := [] } : Act).put (some t) v) ({ c₀ with mode := u' } :: cs) w := by
      intro u' v hu' hv'
      have hp := h0.put (dst := some t) (d := m.val) (v := v) (fun t' ht' => by injection ht' with ht'; subst ht'; exact ht) hv'
      refine recOps_sound L [⟨some t, .call { callee := .builtin .recover, args, argTypes := ats }, ty, pos, af, none⟩] _ σ1 _ ρ w (by simp) hL hp hrecO fun ρ2 a2 w2 _ h2 => ?_
      refine wpSIn_of_wpIn rfl ?_
      refine code_sound hm rest none 0 _ _ _ _ _ _ _ _ w2 hG (fun l hl => by cases hl) hok h2 hc fun e e' σ' bx' a' w' ρ' hx hq h' => ?_
      exact fin c₀ cs u' .ret e e' σ' bx' a' w' ρ' (fun _ => False) hx hq h' hu'
    have hops : (⟨some t, .call { callee := .builtin .recover, args, argTypes := ats }, ty, pos, af, none⟩ :: L).toArray[0]? = some (⟨some t, .call { callee := .builtin .recover, args, argTypes := ats }, ty, pos, af, none⟩ : Oper) := by simp
    have hrun : ∀ (ev : Operand → Value) , (execOp ev (⟨some t, .call { callee := .builtin .recover, args, argTypes := ats }, ty, pos, af, none⟩ : Oper)).run P w = .ok .recover w := fun ev => by
      simp [execOp, resolve, invoke, builtin]
    have hr1 : List.range (⟨some t, .call { callee := .builtin .recover, args, argTypes := ats }, ty, pos, af, none⟩ :: L).toArray.size = 0 :: List.range' 1 L.length := by
      simp [List.range_eq_range', List.range'_succ]
    rw [hr1]
    simp only [wpOpsSIn, hops, hrun, Region.wanted, if_true]
    refine ⟨fun _ _ => trivial, ?_⟩
    cases m with
    | ret =>
      have hu' : u = .returning := hmu
      have : recoverD (c₀ :: cs) = none := by simp [recoverD, hu, hu']
      simp only [this]
      have := hrest c₀.mode .nilIface (by rw [hu, hu']; rfl) (.pure (.raw _))
      exact this
    | pan d =>
      obtain ⟨v, hu', hv'⟩ := hmu
      have : recoverD (c₀ :: cs) = some (v, { c₀ with mode := .panicking [{ v, recovered := true }] } :: cs) := by simp [recoverD, hu, hu', pe]
      simp only [this]
      exact hrest (.panicking [{ v, recovered := true }]) v rfl hv'

/-- Called with nothing of its caller's at hand. -/
theorem CallsB.to {f : FuncId} {ds : List D} {d : D} {Q Qp : D → Bxs → Prop} (h : CallsB P f 0 ds (fun _ => .none) Q Qp) (hp : ∀ d bx, ¬ Qp d bx) (hQ : ∀ d' bx', Q d' bx' → ∃ r, outD bx' d' = some r ∧ Weak r d) : CallsTo P f ds d := by
  intro w S vs hS hglo hl hv
  let X0 : Ctx := ⟨w, S, w.heap.size, fun _ => False, fun _ => False, 0, ⟨fun _ _ => none, fun _ => none⟩, w.heap.size, 0, fun _ _ => True, 0⟩
  have h0 : Sim X0 ⟨fun _ _ => none, fun _ => none⟩ (fun _ => .raw undef) (fun _ => .none) { tmps := #[], defers := [] } w :=
    ⟨.refl _ _, hS, Nat.le_refl _, fun _ h => h.elim, fun _ h => h.elim, rfl, .nil (.inl rfl), Nat.zero_le _, Nat.le_refl _, fun t => by rw [show (#[] : Array Value).getD t undef = undef from by simp [Array.getD]]; exact Rep.pure (.raw _), .pure (hglo.mono (fun _ _ => rfl) (fun b hb => ⟨hS b hb, .inl hb, fun t ht => by simp [Bx.none] at ht⟩)), fun t ht => absurd rfl ht.1, fun t t' p p' ht => by simp [Bx.none] at ht, (fun t e p hp => by cases hp), (fun t e p hp => by cases hp), (fun t e hp => by cases hp), (fun t e hp => by cases hp), fun _ _ _ _ _ => trivial, trivial, fun _ _ _ => trivial, (fun t e hp => by cases hp), ⟨fun t ht => by simp [Bx.none] at ht, fun t t' p p' ht => by simp [Bx.none] at ht⟩⟩
  have hr := h _ _ _ _ w vs h0 rfl hl (fun i x v hx hv' => .pure ((hv i x v hx hv').mono (fun _ _ => rfl) (fun b hb => ⟨hS b hb, .inl hb, fun t ht => by simp [Bx.none] at ht⟩)))
  have fin : ∀ v w', (∃ d bx' ρ', Q d bx' ∧ Sim X0 ρ' (fun _ => .raw undef) bx' { tmps := #[], defers := [] } w' ∧ Rep w' (Stab X0 ρ' bx' w') ρ' d v) → Go.V.Post w S d v w' := by
    rintro v w' ⟨d', bx', ρ', hq, g1, g3⟩
    obtain ⟨r, ho, hw⟩ := hQ d' bx' hq
    refine ⟨Rep.weak hw (outD_sound g1 _ _ v ⟨fun b hb => ?_, fun t _ hk p hp => ?_⟩ g3 ho), ?_⟩
    · rcases hb.2.1 with h1 | h1
      · exact .inl h1
      · exact .inr ⟨h1, hb.1⟩
    · obtain ⟨p', hp', _, _, hpb, hh⟩ := g1.box t hk
      rw [hp] at hp'; injection hp' with hp'; subst hp'
      exact .inr ⟨hpb.1, hh.lt⟩
    · exact ⟨g1.fr.os, g1.fr.tape, g1.fr.output, g1.fr.size, fun k hk => g1.fr.block k hk (fun hm => hm.elim id id)⟩
  rcases hr with ⟨k1, k2⟩ | ⟨v, w', k1, k2⟩
  · refine .inl ⟨k1, Calls.mono k2 ?_⟩
    rintro e w' (⟨v, rfl, hg⟩ | ⟨v, rfl, d', bx', ρ', hq, _⟩)
    · exact ⟨v, rfl, fin v w' hg⟩
    · exact absurd hq (hp _ _)
  · exact .inr ⟨v, w', k1, fin v w' k2⟩

/-! The rules by which it is evaluated -/
section
variable {Q : DX → Env → Bxs → Prop} {Post Pan : D → Bxs → Prop} {nxt : Nat} {K : RM → Bxs → Prop}
@[go_sem ↓] theorem retP_ret (rv : List ResultVar) : retP P nxt rv Post Pan .ret σ bx = leaveD P nxt (recD (σ dfS)) .ret bx (leaveK P rv σ Post Pan) := Eq.trans rfl rfl
@[go_sem ↓] theorem retP_normal (rv : List ResultVar) : retP P nxt rv Post Pan .normal σ bx = leaveD P nxt (recD (σ dfS)) .ret bx (leaveK P rv σ Post Pan) := Eq.trans rfl rfl
@[go_sem ↓] theorem retP_pan (rv : List ResultVar) (d : D) : retP P nxt rv Post Pan (.pan d) σ bx = leaveD P nxt (recD (σ dfS)) (.pan d) bx (leaveK P rv σ Post Pan) := Eq.trans rfl rfl
@[go_sem ↓] theorem retR_ret (Post : Bxs → Prop) : retR Post .ret σ bx = Post bx := Eq.trans rfl rfl
@[go_sem ↓] theorem retR_normal (Post : Bxs → Prop) : retR Post .normal σ bx = Post bx := Eq.trans rfl rfl
@[go_sem] theorem dfS_eq (n : Nat) (h : n < 1000000000) : (dfS = n) = False := by simp only [dfS]; exact eq_false (by omega)
@[go_sem] theorem eq_dfS (n : Nat) (h : n < 1000000000) : (n = dfS) = False := by simp only [dfS]; exact eq_false (by omega)
/-- A call is deferred. -/
def deferV (d : D) (f : D → Prop) (_ : Tok (f .undef) := ⟨⟩) : Prop := match d with
  | .fn (.func g) caps => f (.fn (.func g) caps)
  | _ => False
@[go_sem] theorem deferV_fn (g : Nat) (caps : List D) (f : D → Prop) : deferV (.fn (.func g) caps) f = f (.fn (.func g) caps) := Eq.trans rfl rfl
@[go_sem ↓] theorem stepD_defer {dst : Option Tmp} {ty : TypeId} {pos : String} {af : Array Edge} {g : Option (Nat × Bool)} {K1 : Cl → Env → Bxs → Prop} (fo : Operand) (l : List Operand) (ats : Array TypeId) : stepD P C ⟨dst, .defer { callee := .value fo, args := l.toArray, argTypes := ats }, ty, pos, af, g⟩ σ bx K1 = (C.df = true ∧ deferV (ev σ fo) fun fv => K1 .n (put (upd σ dfS (pushD (σ dfS) fv (l.map (ev σ)))) dst (.raw undef)) bx) := by
  simp only [stepD, deferV]
  cases ev σ fo with
  | fn f caps => cases f <;> rfl
  | _ => rfl
@[go_sem] theorem recD_any (l : List D) : recD (.any l) = l := Eq.trans rfl rfl
@[go_sem] theorem recD_raw (v : Value) : recD (.raw v) = [] := Eq.trans rfl rfl
@[go_sem] theorem pushD_raw (v : Value) (f : D) (args : List D) : pushD (.raw v) f args = .any [.tup (f :: args)] := Eq.trans rfl rfl
@[go_sem] theorem pushD_any (l : List D) (f : D) (args : List D) : pushD (.any l) f args = .any (.tup (f :: args) :: l) := Eq.trans rfl rfl
@[go_sem] theorem leaveD_nil (m : RM) : leaveD P nxt [] m bx K = K m bx := Eq.trans rfl rfl
@[go_sem] theorem leaveK_ret (rv : List ResultVar) : leaveK P rv σ Post Pan .ret bx = bindD (resL P σ bx rv) fun rs => Post (tupD rs) bx := Eq.trans rfl rfl
@[go_sem] theorem leaveK_pan (rv : List ResultVar) (d : D) : leaveK P rv σ Post Pan (.pan d) bx = Pan d bx := Eq.trans rfl rfl
@[go_sem] theorem val_ret : RM.val .ret = .raw .nilIface := Eq.trans rfl rfl
@[go_sem] theorem val_pan (d : D) : RM.val (.pan d) = d := Eq.trans rfl rfl
/-- A deferred call is let in. -/
theorem leave_call {f : FuncId} {caps args l : List D} {m : RM} (Q : RM → Bxs → Prop) (h : CallsR P f nxt (args ++ caps) bx m Q) (hk : ∀ m' bx', Q m' bx' → leaveD P nxt l m' bx' K) : leaveD P nxt (.tup (.fn (.func f) caps :: args) :: l) m bx K := ⟨Q, h, hk⟩
@[go_sem] theorem recOps_nil : recOps P [] σ bx = some σ := Eq.trans rfl rfl
def recK (P : Program) (l : List Oper) (σ : Env) (bx : Bxs) (dst : Option Tmp) : Option D → Option Env
  | some v => recOps P l (put σ dst v) bx
  | none => none
@[go_sem] theorem recK_some (l : List Oper) (dst : Option Tmp) (v : D) : recK P l σ bx dst (some v) = recOps P l (put σ dst v) bx := Eq.trans rfl rfl
@[go_sem] theorem recOps_cons (dst : Option Tmp) (op : Op) (ty : TypeId) (pos : String) (af : Array Edge) (l : List Oper) : recOps P (⟨dst, op, ty, pos, af, none⟩ :: l) σ bx = recK P l σ bx dst (valD P σ bx op) := by
  simp only [recOps, recK, Option.isSome_none, Bool.false_eq_true, if_false]
@[go_sem] theorem valD_assign (x : Operand) : valD P σ bx (.assign x) = some (ev σ x) := Eq.trans rfl rfl
@[go_sem] theorem valD_move (x : Operand) : valD P σ bx (.move x) = some (ev σ x) := Eq.trans rfl rfl
end

theorem fnP_intro {O : Orac} {tab : List (Nat × List (Nat × Nat))} {fn : Func} {base : Nat} {ds : List D} {bx : Bxs} {Post Pan : D → Bxs → Prop} (c : Code) (rv : List ResultVar) (n : Nat) (hc : fn.body = some c) (hr : fn.results = rv.toArray) (hn : fn.ntmps = n) (hok : codeOk tab n c = true) (hrv : rvOk rv = true)
    (h : cD P ⟨O, tab, base, base + n, 0, none, true, true⟩ c (retP P (base + n) rv Post Pan) (argsF 0 ds) bx) : fnP P O tab fn base ds bx Post Pan := by
  subst hn
  refine ⟨c, hc, hok, by rw [hr]; simpa using hrv, ?_⟩
  rw [hr]
  simpa using h
theorem fnR_intro {O : Orac} {tab : List (Nat × List (Nat × Nat))} {fn : Func} {base : Nat} {ds : List D} {bx : Bxs} {m : RM} {Post : RM → Bxs → Prop} {id t : Nat} {args : Array Operand} {ats : Array TypeId} {ty : TypeId} {pos : String} {af : Array Edge} (L : List Oper) (rest : Code) (n : Nat) (hc : fn.body = some (.seq (.region id (⟨some t, .call { callee := .builtin .recover, args, argTypes := ats }, ty, pos, af, none⟩ :: L).toArray false) rest)) (hr : fn.results = #[]) (hn : fn.ntmps = n)
    (hd : (decide (t < n) && dstOk n L) = true) (hok : codeOk tab n rest = true) (σ' : Env)
    (ho : recOps P L (upd (argsF 0 ds) t m.val) bx = some σ') (h : cD P ⟨O.noIt, tab, base, base + n, 0, none, false, false⟩ rest (retR (Post .ret)) σ' bx) : fnR P O tab fn base ds bx m Post := by
  subst hn
  simp only [Bool.and_eq_true, decide_eq_true_eq] at hd
  exact ⟨by rw [hr], .inr ⟨id, t, args, ats, ty, pos, af, L, rest, σ', hc, hd.1, hd.2, hok, ho, h⟩⟩

@[go_sem ↓] theorem isNil_slice : isNil (.const (.slice none 0 0)) = false := Eq.trans rfl rfl
@[go_sem] theorem cells_omap (t e : Nat) : (D.omap t e).cells = [.omap t e] := Eq.trans rfl rfl
@[go_sem] theorem setD_omap (t e : Nat) (c : D) : setD (.omap t e) 0 [c] = some c := by simp [setD, D.cells]
/-! what a step needs of arithmetic -/
attribute [go_sem] reduceIte Nat.reduceEqDiff Nat.reduceAdd Nat.reduceLeDiff Nat.reduceLT Nat.reduceSub Int.reduceLT Int.reduceLE Int.reduceEq Int.reduceToNat Option.map_some List.length_map List.getElem?_map Int.toNat_natCast
end Go.V
