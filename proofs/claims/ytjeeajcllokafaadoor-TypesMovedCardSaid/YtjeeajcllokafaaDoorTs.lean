/-
  Types: what TypesMoved needs: categories in another order, and less of a grammar.
-/
import Derived.Test.YtjeeajcllokafaaDoorTr
namespace Go.V.Ty
open Go.Proofs Go.RowKit Go.V.Lx Go.V.Gr
set_option linter.unusedSimpArgs false
set_option linter.unusedVariables false
set_option maxRecDepth 100000

def rot (l : List Str) (k : Nat) : List Str := l.drop k ++ l.take k
theorem rot_mem (l : List Str) (k : Nat) (s : Str) : s ∈ rot l k ↔ s ∈ l := by
  rw [rot, List.mem_append]
  constructor
  · rintro (h | h)
    · exact List.mem_of_mem_drop h
    · exact List.mem_of_mem_take h
  · intro h
    rw [← List.take_append_drop k l, List.mem_append] at h
    exact h.symm
theorem rot_len {l : List Str} {k : Nat} (h : k ≤ l.length) : (rot l k).length = l.length := by simp [rot]; omega
theorem rot_nodup {l : List Str} (h : l.Nodup) (k : Nat) : (rot l k).Nodup := by
  rw [← List.take_append_drop k l, List.nodup_append] at h
  rw [rot, List.nodup_append]
  exact ⟨h.2.1, h.1, fun a ha b hb e => h.2.2 b hb a ha e.symm⟩
theorem num_of {l : List Str} (hn : l.Nodup) {j : Nat} {s : Str} (h : l[j]? = some s) : num l s = j := by
  have := (idx_at l j s h (not_take hn h)).1
  simp only [num, List.contains_iff_mem.2 (List.mem_of_getElem? h), if_true, this]
theorem num_rot {l : List Str} (hn : l.Nodup) {k : Nat} (hk : k < l.length) {s : Str} (h : l.contains s = true) : num (rot l k) s = (num l s - k + l.length).tmod l.length ∧ 0 ≤ num l s ∧ num l s < l.length := by
  obtain ⟨i, hi, hs⟩ := num_at h
  have hil := (List.getElem?_eq_some_iff.1 hs).1
  refine ⟨?_, by omega, by omega⟩
  rw [hi]
  by_cases hik : k ≤ i
  · have h1 : (rot l k)[i - k]? = some s := by
      rw [rot, List.getElem?_append_left (by simp; omega), List.getElem?_drop, show k + (i - k) = i by omega, hs]
    rw [num_of (rot_nodup hn k) h1]
    rw [Int.tmod_eq_emod_of_nonneg (by omega), show (i : Int) - k + l.length = ((i - k : Nat) : Int) + l.length by omega, Int.add_emod_right, Int.emod_eq_of_lt (by omega) (by omega)]
  · have h1 : (rot l k)[l.length - k + i]? = some s := by
      rw [rot, List.getElem?_append_right (by simp), List.length_drop, show l.length - k + i - (l.length - k) = i by omega, List.getElem?_take_of_lt (by omega), hs]
    rw [num_of (rot_nodup hn k) h1]
    rw [Int.tmod_eq_emod_of_nonneg (by omega), show (i : Int) - k + l.length = ((l.length - k + i : Nat) : Int) by omega, Int.emod_eq_of_lt (by omega) (by omega)]
theorem has_rot (l : List Str) (k : Nat) : (rot l k).contains = l.contains := by
  funext s
  rw [Bool.eq_iff_iff, List.contains_iff_mem, List.contains_iff_mem, rot_mem]
theorem circ_less {g h : Gram} (hr : ∀ x ∈ h.rules, x ∈ g.rules) (hc : ∀ s ∈ h.cats, s ∈ g.cats) (h0 : circB g = false) : circB h = false := by
  cases hh : circB h
  · rfl
  · obtain ⟨F, h1, h2, h3⟩ := (circ_iff h).1 hh
    have : circB g = true := (circ_iff g).2 ⟨F, h1, fun c hcF => by
      obtain ⟨d, hd, x, hx, he⟩ := any_leads.1 (h2 c hcF)
      exact any_leads.2 ⟨d, hd, x, hr x hx, he⟩, fun c hcF => hc c (h3 c hcF)⟩
    rw [h0] at this; cases this
theorem res_lim {g : Gram} (h : (resolveL g).2 = 0) : g.cats.length ≤ 32 ∧ g.entries.length ≤ 512 ∧ g.rules.length ≤ 128 := by
  unfold resolveL at h
  split at h
  · simp at h
  · omega
theorem res_of {g : Gram} (h1 : g.cats.length ≤ 32 ∧ g.entries.length ≤ 512 ∧ g.rules.length ≤ 128) (h2 : g.cats.Nodup) (h3 : typedB g.cats.contains g = true) (h4 : circB g = false) : resolveL g = (setG g, 0) := by
  unfold resolveL
  rw [if_neg (by omega), if_neg (by simp [h2, h3]), if_neg (by simp [h4])]
def moved (g : Gram) (k : Nat) : Gram := { g with cats := rot g.cats k }
theorem res_moved {g : Gram} (h : (resolveL g).2 = 0) {k : Nat} (hk : k < g.cats.length) : resolveL (moved g k) = (setG (moved g k), 0) := by
  obtain ⟨h1, h2, h3⟩ := res_typed h
  have hl := res_lim h
  have hrl := rot_len (l := g.cats) (k := k) (by omega)
  refine res_of ⟨by simp only [moved]; omega, hl.2⟩ (rot_nodup h1 k) ?_ (circ_less (g := g) (fun x hx => hx) (fun s hs => (rot_mem _ _ _).1 hs) h3)
  rw [show (moved g k).cats.contains = g.cats.contains from has_rot g.cats k]
  simp only [typedB, Bool.and_eq_true, List.all_eq_true] at h2 ⊢
  obtain ⟨a, b, c, d, e, f⟩ := h2
  refine ⟨a, decide_eq_true (show 0 < (rot g.cats k).length by omega), fun s hs => c s ((rot_mem _ _ _).1 hs), d, e, f⟩
theorem less_ok {g h : Gram} (h0 : (resolveL g).2 = 0) (hs : setG g = g) (hn : h.name = g.name) (hc : h.cats = g.cats) (hst : h.start = g.start) (hno : h.no = g.no) (he : ∀ x ∈ h.entries, x ∈ g.entries) (hr : ∀ x ∈ h.rules, x ∈ g.rules)
    (hel : h.entries.length ≤ g.entries.length) (hrl : h.rules.length ≤ g.rules.length) : checkL h = 0 := by
  obtain ⟨h1, h2, h3⟩ := res_typed h0
  have hl := res_lim h0
  have hres : resolveL h = (setG h, 0) := by
    refine res_of ⟨by rw [hc]; exact hl.1, by omega, by omega⟩ (by rw [hc]; exact h1) ?_ (circ_less hr (by rw [hc]; exact fun _ h => h) h3)
    rw [hc]
    simp only [typedB, Bool.and_eq_true, List.all_eq_true] at h2 ⊢
    obtain ⟨a, b, c, d, e, f⟩ := h2
    exact ⟨by rw [hn]; exact a, by rw [hc]; exact b, by rw [hc]; exact c, by rw [hst]; exact d, fun x hx => e x (he x hx), fun x hx => f x (hr x hx)⟩
  refine (check_iff (by rw [hres])).1.2 ?_
  have mem_fix : ∀ {α : Type} (f : α → α) (l : List α), l.map f = l → ∀ x ∈ l, f x = x := fun f l hl x hx => by
    obtain ⟨i, hi⟩ := List.mem_iff_getElem?.1 hx
    have := congrArg (·[i]?) hl
    simpa [List.getElem?_map, hi] using this
  have fix_mem : ∀ {α : Type} (f : α → α) (l : List α), (∀ x ∈ l, f x = x) → l.map f = l := fun f l hl => by
    conv => rhs; rw [← List.map_id l]
    exact List.map_congr_left fun x hx => hl x hx
  have e1 := mem_fix _ _ (show g.entries.map (setE g.cats) = g.entries from congrArg Gram.entries hs)
  have e2 := mem_fix _ _ (show g.rules.map (setR g.cats) = g.rules from congrArg Gram.rules hs)
  have e3 : num g.cats g.start = g.no := congrArg Gram.no hs
  have g1 : h.entries.map (setE h.cats) = h.entries := fix_mem _ _ fun x hx => by rw [hc]; exact e1 x (he x hx)
  have g2 : h.rules.map (setR h.cats) = h.rules := fix_mem _ _ fun x hx => by rw [hc]; exact e2 x (hr x hx)
  obtain ⟨a, b, c, d, e, f⟩ := h
  simp only at hn hc hst hno g1 g2
  subst hc
  simp only [setG, g1, g2]
  rw [hst, e3, hno]
theorem set_at {g : Gram} (hs : setG g = g) {j : Nat} {x : Entry} (h : g.entries[j]? = some x) : x.no = num g.cats x.cat := by
  have e1 : g.entries.map (setE g.cats) = g.entries := congrArg Gram.entries hs
  have := congrArg (·[j]?) e1
  simp only [List.getElem?_map, h, Option.map_some, Option.some.injEq] at this
  exact (congrArg Entry.no this).symm
end Go.V.Ty
