/-
  A region whose order is drawn comes to the end that it comes to in order.
-/
import Derived.Test.YtbnniokcdilpgaaDoorVo
namespace Go.V
open Go.RowKit

variable {P : Program} {C : Calc} {X : Ctx} {ρ : Rho} {σ : Env} {bx : Bxs} {a : Act} {w : World} {r : Option Nat} {n : Nat}

theorem commOk_spec {full : List Oper} {ps : List (Nat × Nat)} (h : commOk full ps = true) :
    (∀ (j : Nat) o, full[j]? = some o → ∀ e ∈ o.after, Region.binds .any e = true → e.on < j) ∧
    ∀ (i j : Nat) o o', full[j]? = some o → full[i]? = some o' → i ≠ j → ordered (Region.before full.toArray) i j = false →
      (∀ d, o'.dst = some d → d ∉ tmpsOf full o) ∧ (∀ d, o.dst = some d → d ∉ tmpsOf full o') ∧
      (wcls o.op = 2 → wcls o'.op ≠ 0 → (full.length - 1 - j, full.length - 1 - i) ∈ ps ∨ (full.length - 1 - i, full.length - 1 - j) ∈ ps) := by
  simp only [commOk, List.all_eq_true, Bool.and_eq_true] at h
  refine ⟨fun j o ho e he hbe => ?_, fun i j o o' ho ho' hij hord => ?_⟩
  · have := (h (o, j) (List.mem_zipIdx_iff_getElem?.2 ho)).1 e (by simpa using he)
    rw [hbe] at this
    simpa using this
  · have := (h (o, j) (List.mem_zipIdx_iff_getElem?.2 ho)).2 (o', i) (List.mem_zipIdx_iff_getElem?.2 ho')
    simp only [Bool.or_eq_true, beq_iff_eq, hij, hord, Bool.false_eq_true, false_or, Bool.and_eq_true, Bool.not_eq_true', List.contains_eq_mem, decide_eq_true_eq, Bool.and_eq_false_iff] at this
    obtain ⟨⟨h1, h2⟩, h3⟩ := this
    refine ⟨fun d hd => ?_, fun d hd => ?_, fun h4 h5 => ?_⟩
    · rw [hd] at h1; simpa using h1
    · rw [hd] at h2; simpa using h2
    · rcases h3 with (h3 | h3) | h3
      · simp [h4, h5] at h3
      · exact .inl h3
      · exact .inr h3

theorem filter_le {α : Type} {p q : α → Bool} : ∀ {l : List α}, (∀ x ∈ l, q x = true → p x = true) → (l.filter q).length ≤ (l.filter p).length
  | [], _ => Nat.le_refl _
  | z :: l, h1 => by
    have ih := filter_le (fun x hx => h1 x (List.mem_cons_of_mem _ hx))
    cases hq : q z with
    | true => simp [hq, h1 z (by simp) hq, ih]
    | false =>
      cases hp : p z with
      | true => simp [hq, hp]; omega
      | false => simp [hq, hp, ih]

theorem filter_lt {α : Type} {p q : α → Bool} : ∀ {l : List α}, (∀ x ∈ l, q x = true → p x = true) → (∃ x ∈ l, p x = true ∧ q x = false) → (l.filter q).length < (l.filter p).length
  | [], _, h => by obtain ⟨x, hx, _⟩ := h; cases hx
  | y :: l, h1, h2 => by
    have hle : (l.filter q).length ≤ (l.filter p).length := filter_le fun x hx => h1 x (List.mem_cons_of_mem _ hx)
    obtain ⟨x, hx, hp, hq⟩ := h2
    rcases List.mem_cons.1 hx with rfl | hx
    · simp only [List.filter_cons, hp, hq, if_true, Bool.false_eq_true, if_false, List.length_cons]; omega
    · have ih := filter_lt (fun x hx => h1 x (List.mem_cons_of_mem _ hx)) ⟨x, hx, hp, hq⟩
      cases hqy : q y with
      | true => simp [hqy, h1 y (by simp) hqy]; exact ih
      | false =>
        cases hpy : p y with
        | true => simp [hqy, hpy]; omega
        | false => simp [hqy, hpy]; exact ih

/-- A region's steps in their order, and why another order comes to the same. -/
structure Run (P : Program) (C : Calc) (full : List Oper) (cs : Nat → Cl) (vs : Nat → D) (σs : Nat → Env) (bs : Nat → Bxs) : Prop where
  at_ : ∀ (k : Nat) o, full[k]? = some o → σs (k + 1) = put (σs k) o.dst (vs k) ∧ EffG P C full o (σs k) (bs k) (cs k) (vs k) (bs (k + 1))
  back : ∀ (j : Nat) o, full[j]? = some o → ∀ e ∈ o.after, Region.binds .any e = true → e.on < j
  free : ∀ (i j : Nat) o o', full[j]? = some o → full[i]? = some o' → i ≠ j → ordered (Region.before full.toArray) i j = false →
      (∀ d, o'.dst = some d → d ∉ tmpsOf full o) ∧ (∀ s, (cs i).wr s = true → (cs j).rd s = true → False)

def Wt (full : List Oper) (t : Nat) (j : Nat) : Prop := ∃ o, full[j]? = some o ∧ o.dst = some t
def Ws (full : List Oper) (cs : Nat → Cl) (s : Nat) (j : Nat) : Prop := j < full.length ∧ (cs j).wr s = true

/-- What holds when the steps of L are done. -/
structure Inv (full : List Oper) (cs : Nat → Cl) (vs : Nat → D) (σs : Nat → Env) (bs : Nat → Bxs) (L : Nat → Prop) (σ : Env) (bx : Bxs) : Prop where
  closed : ∀ (i : Nat) o, full[i]? = some o → L i → ∀ e ∈ o.after, Region.binds .any e = true → L e.on
  lt : ∀ j, L j → j < full.length
  t : ∀ t, Val (Wt full t) L vs (σs 0 t) (σ t)
  s : ∀ s, Val (Ws full cs s) L (fun j => bs (j + 1) s) (bs 0 s) (bx s)

section
variable {full : List Oper} {cs : Nat → Cl} {vs : Nat → D} {σs : Nat → Env} {bs : Nat → Bxs} {L : Nat → Prop}

open Classical in
theorem Run.seq_t (hR : Run P C full cs vs σs bs) (t m : Nat) (hm : m ≤ full.length) : Val (Wt full t) (· < m) vs (σs 0 t) (σs m t) := by
  refine Val.seq (xs := fun k => σs k t) m fun k hk => ?_
  have hk' : k < full.length := by omega
  have ho := List.getElem?_eq_getElem hk'
  rw [(hR.at_ k _ ho).1]
  by_cases hw : Wt full t k
  · rw [if_pos hw]
    obtain ⟨o, ho', hd⟩ := hw
    rw [ho] at ho'; injection ho' with ho'; subst ho'
    simp [put, hd, upd]
  · rw [if_neg hw]
    cases hd : full[k].dst with
    | none => rfl
    | some d =>
      have : t ≠ d := fun e => hw ⟨_, ho, by rw [hd, e]⟩
      simp [put, upd, this]

open Classical in
theorem Run.seq_s (hR : Run P C full cs vs σs bs) (s m : Nat) (hm : m ≤ full.length) : Val (Ws full cs s) (· < m) (fun j => bs (j + 1) s) (bs 0 s) (bs m s) := by
  refine Val.seq (xs := fun k => bs k s) m fun k hk => ?_
  have hk' : k < full.length := by omega
  have ho := List.getElem?_eq_getElem hk'
  by_cases hw : Ws full cs s k
  · rw [if_pos hw]
  · rw [if_neg hw]
    refine (hR.at_ k _ ho).2.same s ?_
    cases h : (cs k).wr s with
    | false => rfl
    | true => exact absurd ⟨hk', h⟩ hw

/-- Whoever is ordered with a step that is ready is done just if it comes before. -/
theorem Run.cut (hR : Run P C full cs vs σs bs) (hL : ∀ (i : Nat) o, full[i]? = some o → L i → ∀ e ∈ o.after, Region.binds .any e = true → L e.on) {i : Nat} {o : Oper} (hi : full[i]? = some o) (hn : ¬ L i)
    (he : ∀ e ∈ o.after, Region.binds .any e = true → L e.on) {j : Nat} {o' : Oper} (hj : full[j]? = some o') (hor : j ≠ i → ordered (Region.before full.toArray) j i = true) : L j ↔ j < i := by
  have hL' : ∀ (i : Nat) o, full[i]? = some o → L i → ∀ e ∈ o.after, Region.binds .any e = true → L e.on ∧ e.on < i := fun i o h1 h2 e h3 h4 => ⟨hL i o h1 h2 e h3 h4, hR.back i o h1 e h3 h4⟩
  by_cases hji : j = i
  · subst hji; exact ⟨fun h => absurd h hn, fun h => absurd h (Nat.lt_irrefl _)⟩
  · have hor := hor hji
    unfold ordered at hor
    rcases Nat.lt_or_gt_of_ne hji with hlt | hgt
    · rw [Nat.max_eq_right (by omega), Nat.min_eq_left (by omega)] at hor
      exact ⟨fun _ => hlt, fun _ => before_closed hL' i o hi (fun e h1 h2 => ⟨he e h1 h2, hR.back i o hi e h1 h2⟩) j hor⟩
    · rw [Nat.max_eq_left (by omega), Nat.min_eq_right (by omega)] at hor
      exact ⟨fun h => absurd (before_closed hL' j o' hj (fun e h1 h2 => hL' j o' hj h e h1 h2) i hor) hn, fun h => by omega⟩

theorem Run.ord_t (hR : Run P C full cs vs σs bs) {i j : Nat} {o : Oper} (hi : full[i]? = some o) {t : Nat} (hj : Wt full t j) (ht : t ∈ tmpsOf full o) (hji : j ≠ i) : ordered (Region.before full.toArray) j i = true := by
  obtain ⟨o', ho', hd⟩ := hj
  cases h : ordered (Region.before full.toArray) j i with
  | true => rfl
  | false => exact absurd ht ((hR.free j i o o' hi ho' hji h).1 t hd)

theorem Run.ord_s (hR : Run P C full cs vs σs bs) {i j : Nat} {o : Oper} (hi : full[i]? = some o) {s : Nat} (hj : Ws full cs s j) (ht : (cs i).rd s = true) (hji : j ≠ i) : ordered (Region.before full.toArray) j i = true := by
  cases h : ordered (Region.before full.toArray) j i with
  | true => rfl
  | false => exact ((hR.free j i o _ hi (List.getElem?_eq_getElem hj.1) hji h).2 s hj.2 ht).elim

/-- A step that is ready finds what it finds in order. -/
theorem Run.finds (hR : Run P C full cs vs σs bs) (hI : Inv full cs vs σs bs L σ bx) {i : Nat} {o : Oper} (hi : full[i]? = some o) (hn : ¬ L i) (he : ∀ e ∈ o.after, Region.binds .any e = true → L e.on) :
    (∀ t ∈ o.looksAt full.toArray, σ t = σs i t) ∧ ∀ s, (cs i).rd s = true → bx s = bs i s := by
  have hlt := (List.getElem?_eq_some_iff.1 hi).1
  refine ⟨fun t ht => ?_, fun s hs => ?_⟩
  · refine (hI.t t).uniq (hR.seq_t t i (by omega)) fun j hj => ?_
    have hj' := hj
    obtain ⟨o', ho', _⟩ := hj'
    exact hR.cut hI.closed hi hn he ho' fun hji => hR.ord_t hi hj (List.mem_append_right _ ht) hji
  · refine (hI.s s).uniq (hR.seq_s s i (by omega)) fun j hj => ?_
    exact hR.cut hI.closed hi hn he (List.getElem?_eq_getElem hj.1) fun hji => hR.ord_s hi hj hs hji

open Classical in
theorem Run.goes (hR : Run P C full cs vs σs bs) (hI : Inv full cs vs σs bs L σ bx) {i : Nat} {o : Oper} (hi : full[i]? = some o) (hn : ¬ L i) (he : ∀ e ∈ o.after, Region.binds .any e = true → L e.on) {L' : Nat → Prop} (hL' : ∀ j, L' j ↔ L j ∨ j = i) :
    Inv full cs vs σs bs L' (put σ o.dst (vs i)) (mergeB (cs i) (bs (i + 1)) bx) := by
  have hlt := (List.getElem?_eq_some_iff.1 hi).1
  refine ⟨fun k o' hk hLk e hem hb => ?_, fun j hj => ?_, fun t => ?_, fun s => ?_⟩
  · rcases (hL' k).1 hLk with h | rfl
    · exact (hL' _).2 (.inl (hI.closed k o' hk h e hem hb))
    · rw [hi] at hk; injection hk with hk; subst hk
      exact (hL' _).2 (.inl (he e hem hb))
  · rcases (hL' j).1 hj with h | rfl
    · exact hI.lt j h
    · exact hlt
  · have := (hI.t t).step (i := i) hL' fun hw j hLj hwj => by
      have hwj' := hwj
      obtain ⟨o', ho', _⟩ := hwj'
      obtain ⟨o2, ho2, hd2⟩ := hw
      rw [hi] at ho2; injection ho2 with ho2; subst ho2
      exact Nat.le_of_lt ((hR.cut hI.closed hi hn he ho' fun hji => hR.ord_t hi hwj (List.mem_append_left _ (by simp [hd2])) hji).1 hLj)
    have e : put σ o.dst (vs i) t = if Wt full t i then vs i else σ t := by
      by_cases hw : Wt full t i
      · rw [if_pos hw]
        obtain ⟨o2, ho2, hd2⟩ := hw
        rw [hi] at ho2; injection ho2 with ho2; subst ho2
        simp [put, hd2, upd]
      · rw [if_neg hw]
        cases hd : o.dst with
        | none => rfl
        | some d =>
          have : t ≠ d := fun e => hw ⟨_, hi, by rw [hd, e]⟩
          simp [put, upd, this]
    rw [e]; exact this
  · have := (hI.s s).step (i := i) hL' fun hw j hLj hwj => by
      have hrd : (cs i).rd s = true := by
        have := hw.2
        revert this
        cases cs i <;> simp [Cl.wr, Cl.rd]
      exact Nat.le_of_lt ((hR.cut hI.closed hi hn he (List.getElem?_eq_getElem hwj.1) fun hji => hR.ord_s hi hwj hrd hji).1 hLj)
    have e : mergeB (cs i) (bs (i + 1)) bx s = if Ws full cs s i then bs (i + 1) s else bx s := by
      by_cases hw : Ws full cs s i
      · rw [if_pos hw]; simp [mergeB, hw.2]
      · rw [if_neg hw]
        cases h : (cs i).wr s with
        | true => exact absurd ⟨hlt, h⟩ hw
        | false => simp [mergeB, h]
    rw [e]; exact this

theorem Run.ends (hR : Run P C full cs vs σs bs) (hI : Inv full cs vs σs bs L σ bx) (hall : ∀ j, j < full.length → L j) : σ = σs full.length ∧ bx = bs full.length := by
  refine ⟨funext fun t => (hI.t t).uniq (hR.seq_t t _ (Nat.le_refl _)) fun j hj => ?_, funext fun s => (hI.s s).uniq (hR.seq_s s _ (Nat.le_refl _)) fun j hj => ?_⟩
  · obtain ⟨o, ho, _⟩ := hj
    have := (List.getElem?_eq_some_iff.1 ho).1
    exact ⟨fun _ => this, fun h => hall j h⟩
  · exact ⟨fun _ => hj.1, fun h => hall j h⟩
end

/-- **IN WHATEVER ORDER.** -/
theorem any_sound {ops : Array Oper} {cs : Nat → Cl} {vs : Nat → D} {σs : Nat → Env} {bs : Nat → Bxs} (hR : Run P C ops.toList cs vs σs bs) (hG : Good P C X) (hrd : ∀ l, r = some l → X.md = 1) (hdst : ∀ o ∈ ops.toList, ∀ t, o.dst = some t → t < X.N)
    {Q : Exit → Act → World → Prop} (hQ : ∀ a' w' ρ', Sim X ρ' (σs ops.toList.length) (bs ops.toList.length) a' w' → Q .normal a' w') : ∀ (fuel : Nat) (listed : Array Bool) (ρ : Rho) (σ : Env) (bx : Bxs) (a : Act) (w : World), listed.size = ops.size →
      ((List.range ops.size).filter fun j => !listed.getD j false).length ≤ fuel → Inv ops.toList cs vs σs bs (fun j => listed.getD j false = true) σ bx → Sim X ρ σ bx a w → wpAnyIn (Fw r) n P .any ops Q fuel listed a w := by
  have hdone : ∀ (listed : Array Bool) (ρ : Rho) (σ : Env) (bx : Bxs) (a : Act) (w : World), Region.ready .any ops listed = [] → Inv ops.toList cs vs σs bs (fun j => listed.getD j false = true) σ bx → listed.size = ops.size → Sim X ρ σ bx a w → Q .normal a w := by
    intro listed ρ σ bx a w hr hI hsz h
    have hall : ∀ j, j < ops.toList.length → listed.getD j false = true := by
      intro j
      induction j using Nat.strongRecOn with
      | _ j ih =>
        intro hj
        have hj' : j < ops.size := by simpa using hj
        cases hl : listed.getD j false with
        | true => rfl
        | false =>
          have ho : ops[j]? = some ops[j] := Array.getElem?_eq_getElem hj'
          have : j ∈ Region.ready .any ops listed := mem_ready.2 ⟨by
            have hjl : j < listed.size := by omega
            simp only [Array.getD, hjl, dif_pos] at hl ⊢
            exact hl, ops[j], ho, fun e he hb => by
              have hlt := hR.back j ops[j] (by rw [Array.getElem?_toList]; exact ho) e he hb
              exact ih e.on hlt (by omega)⟩
          rw [hr] at this; cases this
    obtain ⟨rfl, rfl⟩ := hR.ends hI hall
    exact hQ a w ρ h
  intro fuel
  induction fuel with
  | zero =>
    intro listed ρ σ bx a w hsz hf hI h
    have hnone : Region.ready .any ops listed = [] := by
      cases hr : Region.ready .any ops listed with
      | nil => rfl
      | cons i rs =>
        obtain ⟨h1, o, h2, _⟩ := mem_ready.1 (show i ∈ Region.ready .any ops listed by rw [hr]; simp)
        have hi : i < ops.size := (Array.getElem?_eq_some_iff.1 h2).1
        have : i ∈ (List.range ops.size).filter fun j => !listed.getD j false := by
          rw [List.mem_filter, List.mem_range]
          refine ⟨hi, ?_⟩
          have hil : i < listed.size := by omega
          simp only [Array.getD, hil, dif_pos] at h1 ⊢
          simpa using h1
        have := List.length_pos_of_mem this
        omega
    exact ⟨hnone, hdone listed ρ σ bx a w hnone hI hsz h⟩
  | succ fuel ih =>
    intro listed ρ σ bx a w hsz hf hI h
    refine ⟨fun hr => hdone listed ρ σ bx a w hr hI hsz h, fun i hi => ?_⟩
    obtain ⟨h1, o, h2, h3⟩ := mem_ready.1 hi
    have hio : ops.toList[i]? = some o := by rw [Array.getElem?_toList]; exact h2
    have hi' : i < ops.size := (Array.getElem?_eq_some_iff.1 h2).1
    have hil : i < listed.size := by omega
    have hn : ¬ listed.getD i false = true := by
      have e : listed.getD i true = listed.getD i false := by simp [Array.getD, hil]
      rw [← e, h1]; simp
    obtain ⟨f1, f2⟩ := hR.finds hI hio hn h3
    have hset : ∀ j, (listed.setIfInBounds i true).getD j false = true ↔ listed.getD j false = true ∨ j = i := by
      intro j
      by_cases hji : j = i
      · subst hji
        simp [Array.getD, hil]
      · rw [getD_set_ne false (Ne.symm hji)]
        simp [hji]
    unfold wpOpIn
    rw [h2]
    dsimp only
    refine gstep_sound h hG hrd (hdst o (by rw [Array.mem_toList_iff]; exact Array.mem_of_getElem? h2)) ((hR.at_ i o hio).2.run σ bx f1 f2 (fun c σ' bx' => (∀ x, c ≠ .pan x) ∧ σ' = put σ o.dst (vs i) ∧ bx' = mergeB (cs i) (bs (i + 1)) bx) ⟨(hR.at_ i o hio).2.np, rfl, rfl⟩) ?_ (fun d σ' bx' a' w' ρ' v hk _ _ => absurd rfl (hk.1 d))
    rintro c σ' bx' a' w' ρ' _ ⟨_, rfl, rfl⟩ h'
    refine ih _ ρ' _ _ a' w' (by simp [hsz]) ?_ (hR.goes hI hio hn h3 hset) h'
    have : ((List.range ops.size).filter fun j => !(listed.setIfInBounds i true).getD j false).length < ((List.range ops.size).filter fun j => !listed.getD j false).length := by
      refine filter_lt (fun j _ hj => ?_) ⟨i, List.mem_range.2 hi', by simpa using hn, ?_⟩
      · cases hl : listed.getD j false with
        | false => rfl
        | true =>
          have := (hset j).2 (.inl hl)
          rw [this] at hj; simp at hj
      · have := (hset i).2 (.inr rfl)
        rw [this]; rfl
    omega

end Go.V
