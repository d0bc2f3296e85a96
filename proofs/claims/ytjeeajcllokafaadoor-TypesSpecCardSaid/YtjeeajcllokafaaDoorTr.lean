/-
  Types: what TypesLinear needs: phrases are translated once; the categories can be numbered.
-/
import Derived.Test.YtjeeajcllokafaaDoorTy
namespace Go.V.Ty
open Go.Proofs Go.RowKit Go.V.Lx Go.V.Gr
set_option linter.unusedSimpArgs false
set_option linter.unusedVariables false
set_option maxRecDepth 100000

def mets (gs : List Give) (n : Nat) : List D := (List.range n).map fun i => D.bool (decide (cnt gs i ≠ 0))
theorem mets_len (gs : List Give) (n : Nat) : (mets gs n).length = n := by simp [mets]
theorem mets_at {gs : List Give} {n i : Nat} (h : i < n) : (mets gs n)[i]? = some (.bool (decide (cnt gs i ≠ 0))) := by simp [mets, h]
theorem mets_nil (n : Nat) : List.replicate n (D.bool false) = mets [] n := by
  apply List.ext_getElem?
  intro i
  by_cases h : i < n
  · rw [mets_at h]; simp [h, cnt]
  · rw [List.getElem?_eq_none (by simpa using h), List.getElem?_eq_none (by rw [mets_len]; omega)]
theorem mets_text {gs : List Give} {y : Give} {n : Nat} (h : ¬ y.text = []) : mets (gs ++ [y]) n = mets gs n := by
  simp only [mets, cnt_snoc, h, false_and, if_false, Nat.add_zero]
theorem mets_set {gs : List Give} {y : Give} {n k : Nat} (h : y.text = []) (hk : y.part = (k : Int)) (hn : k < n) : (mets gs n).set k (.bool true) = mets (gs ++ [y]) n := by
  apply List.ext_getElem?
  intro i
  by_cases hi : i < n
  · rw [mets_at hi, cnt_snoc, List.getElem?_set, mets_len, mets_at hi]
    by_cases e : k = i
    · subst e; simp [h, hk, hi]
    · have : ¬ y.part = (i : Int) := by omega
      simp [e, this]
  · rw [List.getElem?_eq_none (by simp [mets_len]; omega), List.getElem?_eq_none (by rw [mets_len]; omega)]
structure Once (x : Rule) : Prop where
  give : ∀ y ∈ x.gives, y.text = [] → 0 ≤ y.part ∧ y.part < x.parts.length
  part : ∀ (i : Nat) q, x.parts[i]? = some q → cnt x.gives i ≤ 1 ∧ (cnt x.gives i = 1 ↔ q.text = [])
theorem once_of {g : Gram} {p : Str → Bool} (h : typedB p g = true) {x : Rule} (hx : x ∈ g.rules) : Once x := by
  simp only [typedB, Bool.and_eq_true, List.all_eq_true] at h
  have := h.2.2.2.2.2 x hx
  simp only [ruleB, Bool.and_eq_true, List.all_eq_true] at this
  obtain ⟨-, -, -, -, -, h1, h2⟩ := this
  refine ⟨fun y hy ht => ?_, fun i q hq => ?_⟩
  · have := h1 y hy
    simp only [giveOk, ht, if_true, inB, Bool.and_eq_true, decide_eq_true_eq] at this
    omega
  · rw [countsOk, List.all_eq_true] at h2
    have := h2 i (List.mem_range.2 (List.getElem?_eq_some_iff.1 hq).1)
    rw [cOk_at hq] at this
    simp only [Bool.and_eq_true, decide_eq_true_eq, beq_iff_eq, decide_eq_decide] at this
    obtain ⟨g1, g2⟩ := this
    exact ⟨g1, fun h => g2.1 (by omega), fun h => by have := g2.2 h; omega⟩
theorem once_at {x : Rule} (h : Once x) {i k : Nat} {y : Give} (hy : x.gives[i]? = some y) (ht : y.text = []) (hk : y.part = (k : Int)) : ∃ q, x.parts[k]? = some q ∧ q.text = [] ∧ cnt (x.gives.take i) k = 0 := by
  have hr := h.give y (List.mem_of_getElem? hy) ht
  obtain ⟨q, hq⟩ := get_lt (show k < x.parts.length by omega)
  obtain ⟨h1, h2⟩ := h.part k q hq
  have htk : x.gives.take (i + 1) = x.gives.take i ++ [y] := by rw [List.take_add_one, hy]; rfl
  have hle : cnt (x.gives.take (i + 1)) k ≤ cnt x.gives k := (List.take_sublist _ _).countP_le
  rw [htk, cnt_snoc, if_pos ⟨ht, hk⟩] at hle
  exact ⟨q, hq, h2.1 (by omega), by omega⟩

theorem cyc {R : Str → Str → Prop} : ∀ (n : Nat) (F : List Str), F.length ≤ n → F ≠ [] → (∀ c ∈ F, ∃ d ∈ F, R c d) → ∃ C, C ≠ [] ∧ (∀ c ∈ C, c ∈ F) ∧ ∀ c ∈ C, ∃ d ∈ C, R d c
  | 0, F, hl, hne, _ => (hne (List.eq_nil_of_length_eq_zero (by omega))).elim
  | n + 1, F, hl, hne, h => by
    by_cases hb : ∀ c ∈ F, ∃ d ∈ F, R d c
    · exact ⟨F, hne, fun _ h => h, hb⟩
    · obtain ⟨c, hc⟩ := Classical.not_forall.1 hb
      obtain ⟨hcF, hno⟩ := Classical.not_imp.1 hc
      have hno' : ∀ d ∈ F, ¬ R d c := fun d hd hr => hno ⟨d, hd, hr⟩
      have hlt : (F.filter fun x => decide (x ≠ c)).length < F.length := by
        have := List.length_filter_le (fun x => decide (x ≠ c)) F
        by_cases he : (F.filter fun x => decide (x ≠ c)).length = F.length
        · have := List.length_filter_eq_length_iff.1 he c hcF
          simp at this
        · omega
      obtain ⟨d, hd, hcd⟩ := h c hcF
      obtain ⟨C, h1, h2, h3⟩ := cyc (R := R) n (F.filter fun x => decide (x ≠ c)) (by omega)
        (List.ne_nil_of_mem (a := d) (List.mem_filter.2 ⟨hd, decide_eq_true (fun e => hno' d hd (by rw [e] at hcd ⊢; exact hcd))⟩))
        (fun x hx => by
          obtain ⟨e, he, hxe⟩ := h x (List.mem_filter.1 hx).1
          exact ⟨e, List.mem_filter.2 ⟨he, decide_eq_true (fun e' => hno' x (List.mem_filter.1 hx).1 (e' ▸ hxe))⟩, hxe⟩)
      exact ⟨C, h1, fun x hx => (List.mem_filter.1 (h2 x hx)).1, h3⟩
/-- a rule that keeps a category from being the next -/
def blk (L : List Bool) (i : Nat) (x : Rule) : Bool := match x.parts with
  | [q] => decide (q.text = []) && (decide (q.no = (i : Int)) && !((L[x.no.toNat]?).getD true))
  | _ => false
def freeI (g : Gram) (L : List Bool) (i : Nat) : Bool := !((L[i]?).getD true) && g.rules.all fun x => !blk L i x
theorem num_at {l : List Str} {s : Str} (h : l.contains s = true) : ∃ k : Nat, num l s = k ∧ l[k]? = some s := by
  have hm : s ∈ l := List.contains_iff_mem.1 h
  have hlt := List.idxOf_lt_length_of_mem hm
  exact ⟨l.idxOf s, by simp only [num, h, if_true], by rw [List.getElem?_eq_getElem hlt, List.getElem_idxOf]⟩
/-- as long as one is left, one of those that are left is free -/
theorem some_free {g : Gram} (hs : setG g = g) (T : Typed g) (hN : g.cats.Nodup) (hc : circB g = false) {L : List Bool} (hl : L.length = g.cats.length) (hn : ∃ i : Nat, L[i]? = some false) : ∃ i, i < L.length ∧ freeI g L i = true := by
  apply Classical.byContradiction
  intro hno
  have hno' : ∀ i, i < L.length → freeI g L i = false := fun i hi => by
    cases h : freeI g L i
    · rfl
    · exact (hno ⟨i, hi, h⟩).elim
  have hnoR : ∀ x ∈ g.rules, x.no = num g.cats x.cat ∧ ∀ q ∈ x.parts, q.text = [] → q.no = num g.cats q.cat := by
    intro x hx
    have e1 : g.rules.map (setR g.cats) = g.rules := congrArg Gram.rules hs
    obtain ⟨i, hi⟩ := List.mem_iff_getElem?.1 hx
    have hx2 := congrArg (·[i]?) e1
    simp only [List.getElem?_map, hi, Option.map_some, Option.some.injEq] at hx2
    refine ⟨(congrArg Rule.no hx2).symm, fun q hq ht => ?_⟩
    have e2 : x.parts.map (setP g.cats) = x.parts := congrArg Rule.parts hx2
    obtain ⟨k, hk⟩ := List.mem_iff_getElem?.1 hq
    have hq2 := congrArg (·[k]?) e2
    simp only [List.getElem?_map, hk, Option.map_some, Option.some.injEq] at hq2
    have := (congrArg Part.no hq2).symm
    simpa [setP, ht] using this
  let left : Str → Bool := fun c => g.cats.contains c && ((L[(num g.cats c).toNat]?).getD true == false)
  have hF : ∀ c ∈ g.cats.filter left, ∃ d ∈ g.cats.filter left, Edge g.rules d c := by
    intro c hcF
    obtain ⟨hcm, hcl⟩ := List.mem_filter.1 hcF
    simp only [left, Bool.and_eq_true, beq_iff_eq] at hcl
    obtain ⟨k, hk, hkc⟩ := num_at hcl.1
    rw [hk, Int.toNat_natCast] at hcl
    have hkl : k < L.length := by rw [hl]; exact (List.getElem?_eq_some_iff.1 hkc).1
    have hf := hno' k hkl
    simp only [freeI, hcl.2, Bool.not_false, Bool.true_and, List.all_eq_false] at hf
    obtain ⟨x, hx, hb⟩ := hf
    simp only [Bool.not_eq_true, Bool.not_eq_false', blk] at hb
    split at hb
    · rename_i q hq
      simp only [Bool.and_eq_true, decide_eq_true_eq, Bool.not_eq_true'] at hb
      obtain ⟨b1, b2, b3⟩ := hb
      have hqm : q ∈ x.parts := by rw [hq]; simp
      obtain ⟨n1, n2⟩ := hnoR x hx
      have hqc := T.part x hx q hqm b1
      obtain ⟨k2, hk2, hkc2⟩ := num_at hqc
      have := n2 q hqm b1
      have : k2 = k := by omega
      subst this
      rw [hkc] at hkc2
      injection hkc2 with hkc2
      have hxc := T.rul x hx
      refine ⟨x.cat, List.mem_filter.2 ⟨List.contains_iff_mem.1 hxc, ?_⟩, x, hx, ?_⟩
      · simp only [left, hxc, Bool.true_and, ← n1, b3]; rfl
      · simp only [edge, hq, b1, if_true, ← hkc2]
    · cases hb
  have hne : g.cats.filter left ≠ [] := by
    obtain ⟨i, hi⟩ := hn
    have hil := (List.getElem?_eq_some_iff.1 hi).1
    obtain ⟨c, hcc⟩ := get_lt (show i < g.cats.length by omega)
    have hnd : num g.cats c = (i : Int) := by
      have hm := List.mem_of_getElem? hcc
      have := (idx_at g.cats i c hcc (not_take hN hcc)).1
      simp only [num, List.contains_iff_mem.2 hm, if_true, this]
    refine List.ne_nil_of_mem (a := c) (List.mem_filter.2 ⟨List.mem_of_getElem? hcc, ?_⟩)
    simp only [left, List.contains_iff_mem.2 (List.mem_of_getElem? hcc), hnd, Int.toNat_natCast, hi]
    rfl
  obtain ⟨C, c1, c2, c3⟩ := cyc (R := fun c d => Edge g.rules d c) _ _ (Nat.le_refl _) hne hF
  have : circB g = true := (circ_iff g).2 ⟨C, c1, fun c hc => any_leads.2 (c3 c hc), fun c hc => (List.mem_filter.1 (c2 c hc)).1⟩
  rw [hc] at this; cases this
end Go.V.Ty
