/-
  Cuts: the plain laws of pieces, there and back, and a cut of a cut. No program in sight.
-/
import Derived.Test.YtfhbndbngdglfaaCa
namespace Go.V.Cu
set_option linter.unusedSimpArgs false
set_option linter.unusedVariables false

def Goods (l : List Span) : Prop := ∀ x, x ∈ l → x.good
theorem Goods.nil : Goods [] := fun x hx => by simp at hx
theorem goods_cons {x : Span} {l : List Span} : Goods (x :: l) ↔ x.good ∧ Goods l := by simp [Goods]
theorem goods_append {l m : List Span} : Goods (l ++ m) ↔ Goods l ∧ Goods m := by
  constructor
  · intro h; exact ⟨fun x hx => h x (by simp [hx]), fun x hx => h x (by simp [hx])⟩
  · rintro ⟨h1, h2⟩ x hx
    rcases List.mem_append.1 hx with hx | hx
    · exact h1 x hx
    · exact h2 x hx
theorem lenZ_nonneg {l : List Span} (h : Goods l) : 0 ≤ lenZ l := (lenZ_bound h).1

/-! there and back -/
theorem toZ_back {t : Int} {l : List Span} (hg : Goods l) : ∀ {b v : Int}, v ∈ toZ t b l → b ≤ v ∧ backZ v b l = (t, true) := by
  induction l with
  | nil => intro b v h; simp [toZ] at h
  | cons x l ih =>
    obtain ⟨gx, gl⟩ := goods_cons.1 hg
    unfold Span.good at gx
    intro b v h
    simp only [toZ, List.mem_append] at h
    rcases h with h | h
    · split at h
      · rename_i hc
        simp only [List.mem_singleton] at h
        subst h
        refine ⟨by omega, ?_⟩
        rw [backZ, if_pos (by omega)]
        simp only [Prod.mk.injEq, and_true]; omega
      · simp at h
    · obtain ⟨h1, h2⟩ := ih gl h
      refine ⟨by omega, ?_⟩
      rw [backZ, if_neg (by omega)]
      exact h2
theorem toZ_sorted {t : Int} {l : List Span} (hg : Goods l) : ∀ b : Int, (toZ t b l).Pairwise (· < ·) := by
  induction l with
  | nil => intro b; simp [toZ]
  | cons x l ih =>
    obtain ⟨gx, gl⟩ := goods_cons.1 hg
    unfold Span.good at gx
    intro b
    simp only [toZ, List.pairwise_append]
    refine ⟨?_, ih gl _, fun v hv w hw => ?_⟩
    · split <;> simp
    · have := (toZ_back gl hw).1
      split at hv
      · simp only [List.mem_singleton] at hv; omega
      · simp at hv
theorem back_toZ {l : List Span} (hg : Goods l) : ∀ {b u x : Int}, b ≤ u → isTime u = true → backZ u b l = (x, true) → u ∈ toZ x b l ∧ isTime x = true := by
  induction l with
  | nil => intro b u x _ _ h; simp [backZ] at h
  | cons y l ih =>
    obtain ⟨gy, gl⟩ := goods_cons.1 hg
    unfold Span.good at gy
    intro b u x hb hu h
    rw [backZ] at h
    split at h
    · simp only [Prod.mk.injEq, and_true] at h
      have e : b + x - y.f = u := by omega
      refine ⟨?_, by simp only [isTime, Bool.and_eq_true, decide_eq_true_eq]; omega⟩
      rw [toZ, if_pos ⟨by omega, by omega, by rw [e]; exact hu⟩, e]
      simp
    · obtain ⟨h1, h2⟩ := ih gl (by omega) hu h
      exact ⟨by simp only [toZ, List.mem_append]; exact .inr h1, h2⟩

/-! shifts and sums -/
theorem backZ_shift (l : List Span) : ∀ (u b c : Int), backZ (u + c) (b + c) l = backZ u b l := by
  induction l with
  | nil => intro u b c; rfl
  | cons x l ih =>
    intro u b c
    simp only [backZ]
    have h1 := ih u (b + (x.u - x.f)) c
    rw [show b + c + (x.u - x.f) = b + (x.u - x.f) + c by omega, h1]
    by_cases h : u < b + (x.u - x.f)
    · rw [if_pos h, if_pos (by omega)]; simp only [Prod.mk.injEq, and_true]; omega
    · rw [if_neg h, if_neg (by omega)]
theorem backZ_append {l m : List Span} (hg : Goods l) : ∀ (u b : Int), b ≤ u → backZ u b (l ++ m) = if u < b + lenZ l then backZ u b l else backZ u (b + lenZ l) m := by
  induction l with
  | nil =>
    intro u b hb
    simp only [List.nil_append, lenZ, Int.add_zero]
    rw [if_neg (by omega)]
  | cons x l ih =>
    obtain ⟨gx, gl⟩ := goods_cons.1 hg
    have hl := lenZ_nonneg gl
    unfold Span.good at gx
    intro u b hb
    have e : b + lenZ (x :: l) = b + (x.u - x.f) + lenZ l := by simp only [lenZ]; omega
    rw [List.cons_append, e]
    by_cases h : u < b + (x.u - x.f)
    · rw [backZ, backZ, if_pos h, if_pos h, if_pos (by omega)]
    · rw [backZ, backZ, if_neg h, if_neg h, ih gl _ _ (by omega)]

/-! joined pieces -/
theorem addZ_eq (p : List Span) (y x : Span) : addZ (p ++ [y]) x = if y.u = x.f then p ++ [⟨y.f, x.u⟩] else p ++ [y] ++ [x] := by simp [addZ]
theorem addZ_nil (x : Span) : addZ [] x = [x] := rfl
theorem snoc_cases (l : List Span) : l = [] ∨ ∃ p y, l = p ++ [y] := by
  rcases List.eq_nil_or_concat l with h | ⟨p, y, h⟩
  · exact .inl h
  · exact .inr ⟨p, y, by rw [h, List.concat_eq_append]⟩
theorem addZ_good {l : List Span} {x : Span} (hl : Goods l) (hx : x.good) : Goods (addZ l x) := by
  rcases snoc_cases l with rfl | ⟨p, y, rfl⟩
  · rw [addZ_nil]; exact goods_cons.2 ⟨hx, Goods.nil⟩
  · rw [addZ_eq]
    obtain ⟨hp, hy⟩ := goods_append.1 hl
    have hy := (goods_cons.1 hy).1
    unfold Span.good at hx hy
    split
    · exact goods_append.2 ⟨hp, goods_cons.2 ⟨by unfold Span.good; simp only; omega, Goods.nil⟩⟩
    · exact goods_append.2 ⟨hl, goods_cons.2 ⟨hx, Goods.nil⟩⟩
theorem foldl_good {m : List Span} : ∀ {l : List Span}, Goods l → Goods m → Goods (m.foldl addZ l) := by
  induction m with
  | nil => intro l hl _; exact hl
  | cons x m ih =>
    intro l hl hm
    obtain ⟨hx, hm⟩ := goods_cons.1 hm
    exact ih (addZ_good hl hx) hm
theorem joinZ_good {l : List Span} (h : Goods l) : Goods (joinZ l) := foldl_good Goods.nil h
theorem addZ_lenZ (l : List Span) (x : Span) : lenZ (addZ l x) = lenZ (l ++ [x]) := by
  rcases snoc_cases l with rfl | ⟨p, y, rfl⟩
  · rfl
  · rw [addZ_eq]
    split
    · simp only [lenZ_append, lenZ]; omega
    · rfl
theorem foldl_lenZ (m : List Span) : ∀ l : List Span, lenZ (m.foldl addZ l) = lenZ (l ++ m) := by
  induction m with
  | nil => intro l; simp
  | cons x m ih =>
    intro l
    rw [List.foldl_cons, ih, lenZ_append, addZ_lenZ, ← lenZ_append]
    simp
theorem joinZ_lenZ (l : List Span) : lenZ (joinZ l) = lenZ l := by simpa [joinZ] using foldl_lenZ l []
theorem addZ_back {l : List Span} {x : Span} (hl : Goods l) (hx : x.good) (u : Int) (hu : 0 ≤ u) : backZ u 0 (addZ l x) = backZ u 0 (l ++ [x]) := by
  rcases snoc_cases l with rfl | ⟨p, y, rfl⟩
  · rfl
  · rw [addZ_eq]
    obtain ⟨hp, hy⟩ := goods_append.1 hl
    have hy := (goods_cons.1 hy).1
    unfold Span.good at hx hy
    have h0 := lenZ_nonneg hp
    split
    · rename_i h
      rw [List.append_assoc, backZ_append hp _ _ hu, backZ_append hp _ _ hu]
      split
      · rfl
      · simp only [List.cons_append, List.nil_append, backZ]
        by_cases h1 : u < 0 + lenZ p + (y.u - y.f)
        · rw [if_pos h1, if_pos (by omega)]
        · rw [if_neg h1]
          by_cases h2 : u < 0 + lenZ p + (y.u - y.f) + (x.u - x.f)
          · rw [if_pos h2, if_pos (by omega)]; simp only [Prod.mk.injEq, and_true]; omega
          · rw [if_neg h2, if_neg (by omega)]
    · rfl
theorem foldl_back {m : List Span} : ∀ {l : List Span}, Goods l → Goods m → ∀ u : Int, 0 ≤ u → backZ u 0 (m.foldl addZ l) = backZ u 0 (l ++ m) := by
  induction m with
  | nil => intro l _ _ u _; simp
  | cons x m ih =>
    intro l hl hm u hu
    obtain ⟨hx, hm⟩ := goods_cons.1 hm
    have hlx : Goods (l ++ [x]) := goods_append.2 ⟨hl, goods_cons.2 ⟨hx, Goods.nil⟩⟩
    rw [List.foldl_cons, ih (addZ_good hl hx) hm u hu, backZ_append (addZ_good hl hx) _ _ hu, addZ_lenZ, addZ_back hl hx u hu, ← backZ_append hlx _ _ hu]
    simp
theorem joinZ_back {l : List Span} (h : Goods l) (u : Int) (hu : 0 ≤ u) : backZ u 0 (joinZ l) = backZ u 0 l := by simpa [joinZ] using foldl_back Goods.nil h u hu

/-! what is shown -/
theorem clip_good {x y : Span} {b : Int} (hx : x.good) (hy : y.good) (hb : 0 ≤ b) (h : (clipZ x b y).f < (clipZ x b y).u) : (clipZ x b y).good := by
  unfold Span.good clipZ at *
  simp only at *
  omega
theorem shownZ_good {a : List Span} {x : Span} (hx : x.good) (ha : Goods a) : ∀ {b : Int}, 0 ≤ b → Goods (shownZ x b a) := by
  induction a with
  | nil => intro b _; exact Goods.nil
  | cons y a ih =>
    obtain ⟨gy, ga⟩ := goods_cons.1 ha
    intro b hb
    simp only [shownZ]
    refine goods_append.2 ⟨?_, ih ga (by unfold Span.good at gy; omega)⟩
    split
    · rename_i h; exact goods_cons.2 ⟨clip_good hx gy hb h, Goods.nil⟩
    · exact Goods.nil
theorem shownZ_lenZ {a : List Span} {x : Span} (hx : x.f < x.u) (ha : Goods a) : ∀ {b : Int}, x.u ≤ b + lenZ a → lenZ (shownZ x b a) = max 0 (x.u - max x.f b) := by
  induction a with
  | nil => intro b hb; simp only [lenZ] at hb; simp only [shownZ, lenZ]; omega
  | cons y a ih =>
    obtain ⟨gy, ga⟩ := goods_cons.1 ha
    have h0 := lenZ_nonneg ga
    unfold Span.good at gy
    intro b hb
    simp only [lenZ] at hb
    have h1 := ih ga (b := b + (y.u - y.f)) (by omega)
    simp only [shownZ, lenZ_append, h1]
    split
    · rename_i h; simp only [clipZ, lenZ] at h ⊢; omega
    · rename_i h; simp only [clipZ, lenZ] at h ⊢; omega
theorem shownZ_back {a : List Span} {x : Span} (hx : x.f < x.u) (ha : Goods a) : ∀ {b v : Int}, x.u ≤ b + lenZ a → 0 ≤ v → v < x.u - max x.f b → backZ v 0 (shownZ x b a) = backZ (max x.f b + v) b a := by
  induction a with
  | nil => intro b v hb h1 h2; simp only [lenZ] at hb; omega
  | cons y a ih =>
    obtain ⟨gy, ga⟩ := goods_cons.1 ha
    have h0 := lenZ_nonneg ga
    unfold Span.good at gy
    intro b v hb h1 h2
    simp only [lenZ] at hb
    simp only [shownZ]
    by_cases h : (clipZ x b y).f < (clipZ x b y).u
    · rw [if_pos h]
      simp only [clipZ] at h
      simp only [List.cons_append, List.nil_append, backZ, clipZ]
      by_cases h3 : max x.f b + v < b + (y.u - y.f)
      · rw [if_pos h3, if_pos (by omega)]; simp only [Prod.mk.injEq, and_true]; omega
      · rw [if_neg h3, if_neg (by omega)]
        have h4 := ih ga (b := b + (y.u - y.f)) (v := v - (b + (y.u - y.f) - max x.f b)) (by omega) (by omega) (by omega)
        have h5 := backZ_shift (shownZ x (b + (y.u - y.f)) a) (v - (b + (y.u - y.f) - max x.f b)) 0 (b + (y.u - y.f) - max x.f b)
        rw [show (0 : Int) + (min y.u (y.f + x.u - b) - (y.f + max 0 (x.f - b))) = 0 + (b + (y.u - y.f) - max x.f b) by omega]
        rw [show v - (b + (y.u - y.f) - max x.f b) + (b + (y.u - y.f) - max x.f b) = v by omega] at h5
        rw [h5, h4]
        congr 1
        omega
    · rw [if_neg h]
      simp only [clipZ] at h
      simp only [List.nil_append, backZ]
      rw [if_neg (by omega), ih ga (by omega) h1 (by omega)]
      congr 1
      omega

/-- What is shown of each of some pieces. -/
def flatZ (a b : List Span) : List Span := b.flatMap fun x => shownZ x 0 a
theorem thenZ_eq (a b : List Span) : thenZ a b = joinZ (flatZ a b) := rfl
theorem flatZ_good {a b : List Span} (ha : Goods a) (hb : Goods b) : Goods (flatZ a b) := by
  intro z hz
  obtain ⟨x, hx, hz⟩ := List.mem_flatMap.1 hz
  exact shownZ_good (hb x hx) ha (by omega) z hz
theorem within_iff {a b : List Span} : within a b = true ↔ ∀ x, x ∈ b → x.u ≤ lenZ a := by simp [within]
theorem flatZ_lenZ {a b : List Span} (ha : Goods a) (hb : Goods b) (hw : ∀ x, x ∈ b → x.u ≤ lenZ a) : lenZ (flatZ a b) = lenZ b := by
  induction b with
  | nil => rfl
  | cons x b ih =>
    obtain ⟨gx, gb⟩ := goods_cons.1 hb
    have h1 := ih gb (fun y hy => hw y (by simp [hy]))
    have h2 := hw x (by simp)
    unfold Span.good at gx
    unfold flatZ at h1 ⊢
    rw [List.flatMap_cons, lenZ_append, h1, shownZ_lenZ gx.2.1 ha (by omega), lenZ]
    omega
theorem flatZ_back {a b : List Span} (ha : Goods a) (hb : Goods b) (hw : ∀ x, x ∈ b → x.u ≤ lenZ a) : ∀ u : Int, 0 ≤ u → backZ u 0 (flatZ a b) = if (backZ u 0 b).2 = true then backZ (backZ u 0 b).1 0 a else (0, false) := by
  induction b with
  | nil => intro u hu; rfl
  | cons x b ih =>
    obtain ⟨gx, gb⟩ := goods_cons.1 hb
    have h1 := ih gb (fun y hy => hw y (by simp [hy]))
    have h2 := hw x (by simp)
    have gx' := gx
    unfold Span.good at gx
    intro u hu
    have hl := shownZ_lenZ gx.2.1 ha (b := 0) (by omega)
    have e : flatZ a (x :: b) = shownZ x 0 a ++ flatZ a b := by simp [flatZ]
    rw [e, backZ_append (shownZ_good gx' ha (by omega)) _ _ hu, hl]
    by_cases h : u < x.u - x.f
    · rw [if_pos (by omega), shownZ_back gx.2.1 ha (by omega) hu (by omega)]
      have e2 : backZ u 0 (x :: b) = (x.f + u - 0, true) := by rw [backZ, if_pos (by omega)]
      rw [e2]
      simp only [if_true]
      congr 1
      omega
    · rw [if_neg (by omega)]
      have e2 : backZ u 0 (x :: b) = backZ u (0 + (x.u - x.f)) b := by rw [backZ, if_neg (by omega)]
      have h3 := backZ_shift b (u - (x.u - x.f)) 0 (x.u - x.f)
      have h4 := backZ_shift (flatZ a b) (u - (x.u - x.f)) 0 (x.u - x.f)
      rw [show u - (x.u - x.f) + (x.u - x.f) = u by omega] at h3 h4
      rw [e2, h3, ← h1 (u - (x.u - x.f)) (by omega), ← h4]
      congr 1
      omega

/-! equal but for joining -/
def Eqv (p q : List Span) : Prop := ∀ acc, p.foldl addZ acc = q.foldl addZ acc
theorem Eqv.refl (p : List Span) : Eqv p p := fun _ => rfl
theorem Eqv.symm {p q : List Span} (h : Eqv p q) : Eqv q p := fun acc => (h acc).symm
theorem Eqv.trans {p q r : List Span} (h : Eqv p q) (k : Eqv q r) : Eqv p r := fun acc => (h acc).trans (k acc)
theorem Eqv.app {p q r s : List Span} (h : Eqv p q) (k : Eqv r s) : Eqv (p ++ r) (q ++ s) := fun acc => by rw [List.foldl_append, List.foldl_append, h, k]
theorem Eqv.join {p q : List Span} (h : Eqv p q) : joinZ p = joinZ q := h []
theorem eqv_merge (p1 p2 : Span) (h : p1.u = p2.f) : Eqv [p1, p2] [⟨p1.f, p2.u⟩] := by
  intro acc
  simp only [List.foldl_cons, List.foldl_nil]
  rcases snoc_cases acc with rfl | ⟨p, y, rfl⟩
  · rw [addZ_nil, addZ_nil]
    have := addZ_eq [] p1 p2
    rw [if_pos h] at this
    simpa using this
  · rw [addZ_eq p y p1, addZ_eq p y ⟨p1.f, p2.u⟩]
    by_cases h1 : y.u = p1.f
    · rw [if_pos h1, addZ_eq, if_pos h, if_pos h1]
    · rw [if_neg h1, addZ_eq, if_pos h, if_neg h1]
theorem eqv_addZ (l : List Span) (x : Span) : Eqv (addZ l x) (l ++ [x]) := by
  rcases snoc_cases l with rfl | ⟨p, y, rfl⟩
  · exact .refl _
  · rw [addZ_eq]
    split
    · rename_i h
      rw [List.append_assoc]
      exact (Eqv.refl p).app (eqv_merge y x h).symm
    · exact .refl _
theorem eqv_foldl (m : List Span) : ∀ l, Eqv (m.foldl addZ l) (l ++ m) := by
  induction m with
  | nil => intro l; rw [List.append_nil]; exact .refl _
  | cons x m ih =>
    intro l
    have h1 := ih (addZ l x)
    have h2 := (eqv_addZ l x).app (Eqv.refl m)
    rw [List.append_assoc] at h2
    exact h1.trans h2
theorem eqv_joinZ (l : List Span) : Eqv (joinZ l) l := by simpa [joinZ] using eqv_foldl l []

/-- A piece that is cut in two shows the same. -/
theorem shownZ_split {a : List Span} (ha : Goods a) (y x : Span) (hy : y.f < y.u) (hx : x.f < x.u) (h : y.u = x.f) : ∀ {b : Int}, Eqv (shownZ ⟨y.f, x.u⟩ b a) (shownZ y b a ++ shownZ x b a) := by
  suffices key : ∀ {b : Int}, (b + 0 ≤ x.f → Eqv (shownZ ⟨y.f, x.u⟩ b a) (shownZ y b a ++ shownZ x b a)) ∧ (x.f ≤ b → shownZ y b a = [] ∧ shownZ ⟨y.f, x.u⟩ b a = shownZ x b a) by
    intro b
    by_cases hb : b + 0 ≤ x.f
    · exact key.1 hb
    · obtain ⟨h1, h2⟩ := (key (b := b)).2 (by omega)
      rw [h1, h2]; exact .refl _
  induction a with
  | nil => intro b; exact ⟨fun _ => .refl _, fun _ => ⟨rfl, rfl⟩⟩
  | cons p a ih =>
    obtain ⟨gp, ga⟩ := goods_cons.1 ha
    unfold Span.good at gp
    intro b
    obtain ⟨i1, i2⟩ := ih ga (b := b + (p.u - p.f))
    refine ⟨fun hb => ?_, fun hb => ?_⟩
    · simp only [shownZ]
      by_cases hc : x.f < b + (p.u - p.f)
      · -- the cut lies in this piece
        obtain ⟨j1, j2⟩ := i2 (by omega)
        rw [j1, j2, List.append_nil, ← List.append_assoc]
        refine Eqv.app ?_ (.refl _)
        have c1 : (clipZ y b p).u = (clipZ x b p).f ∨ ¬ (clipZ x b p).f < (clipZ x b p).u ∨ ¬ (clipZ y b p).f < (clipZ y b p).u := by simp only [clipZ]; omega
        by_cases k1 : (clipZ y b p).f < (clipZ y b p).u
        · by_cases k2 : (clipZ x b p).f < (clipZ x b p).u
          · have k3 : (clipZ ⟨y.f, x.u⟩ b p).f < (clipZ ⟨y.f, x.u⟩ b p).u := by simp only [clipZ] at *; omega
            rw [if_pos k1, if_pos k2, if_pos k3]
            have e : clipZ ⟨y.f, x.u⟩ b p = ⟨(clipZ y b p).f, (clipZ x b p).u⟩ := rfl
            rw [e]
            exact (eqv_merge _ _ (by simp only [clipZ] at *; omega)).symm
          · exfalso; simp only [clipZ] at *; omega
        · have k0 : b = x.f ∨ y.f < b ∧ x.f ≤ b := by simp only [clipZ] at k1; omega
          have k4 : (clipZ ⟨y.f, x.u⟩ b p) = clipZ x b p := by simp only [clipZ, Span.mk.injEq, and_true]; omega
          rw [if_neg k1, k4]
          exact .refl _
      · -- it lies behind
        have k2 : ¬ (clipZ x b p).f < (clipZ x b p).u := by simp only [clipZ]; omega
        have k4 : (if (clipZ ⟨y.f, x.u⟩ b p).f < (clipZ ⟨y.f, x.u⟩ b p).u then [clipZ ⟨y.f, x.u⟩ b p] else []) = (if (clipZ y b p).f < (clipZ y b p).u then [clipZ y b p] else []) := by
          have e : clipZ ⟨y.f, x.u⟩ b p = clipZ y b p := by simp only [clipZ, Span.mk.injEq, true_and]; omega
          rw [e]
        rw [if_neg k2, k4, List.nil_append, List.append_assoc]
        exact (Eqv.refl _).app (i1 (by omega))
    · obtain ⟨j1, j2⟩ := i2 (by omega)
      simp only [shownZ, j1, j2]
      have k1 : ¬ (clipZ y b p).f < (clipZ y b p).u := by simp only [clipZ]; omega
      have k4 : clipZ ⟨y.f, x.u⟩ b p = clipZ x b p := by simp only [clipZ, Span.mk.injEq, and_true]; omega
      rw [if_neg k1, k4]
      exact ⟨rfl, rfl⟩
theorem flatZ_append (a b c : List Span) : flatZ a (b ++ c) = flatZ a b ++ flatZ a c := by simp [flatZ]
theorem flatZ_one (a : List Span) (x : Span) : flatZ a [x] = shownZ x 0 a := by simp [flatZ]
theorem flatZ_addZ {a l : List Span} {x : Span} (ha : Goods a) (hl : Goods l) (hx : x.good) : Eqv (flatZ a (addZ l x)) (flatZ a (l ++ [x])) := by
  rcases snoc_cases l with rfl | ⟨p, y, rfl⟩
  · exact .refl _
  · rw [addZ_eq]
    obtain ⟨hp, hy⟩ := goods_append.1 hl
    have hy := (goods_cons.1 hy).1
    split
    · rename_i h
      rw [List.append_assoc, flatZ_append, flatZ_append, flatZ_one, List.cons_append, List.nil_append]
      refine (Eqv.refl _).app ?_
      have e : flatZ a [y, x] = shownZ y 0 a ++ shownZ x 0 a := by simp [flatZ]
      rw [e]
      exact shownZ_split ha y x hy.2.1 hx.2.1 h
    · exact .refl _
theorem flatZ_foldl {a m : List Span} (ha : Goods a) : ∀ {l : List Span}, Goods l → Goods m → Eqv (flatZ a (m.foldl addZ l)) (flatZ a (l ++ m)) := by
  induction m with
  | nil => intro l _ _; rw [List.append_nil]; exact .refl _
  | cons x m ih =>
    intro l hl hm
    obtain ⟨hx, hm⟩ := goods_cons.1 hm
    have h1 := ih (addZ_good hl hx) hm
    rw [List.foldl_cons]
    refine h1.trans ?_
    rw [flatZ_append, show l ++ x :: m = (l ++ [x]) ++ m by simp, flatZ_append]
    exact (flatZ_addZ ha hl hx).app (.refl _)
theorem flatZ_joinZ {a m : List Span} (ha : Goods a) (hm : Goods m) : Eqv (flatZ a (joinZ m)) (flatZ a m) := by simpa [joinZ] using flatZ_foldl ha Goods.nil hm

/-- In a cut whose pieces are joined the same is shown. -/
theorem shownZ_append (x : Span) (l m : List Span) : ∀ b : Int, shownZ x b (l ++ m) = shownZ x b l ++ shownZ x (b + lenZ l) m := by
  induction l with
  | nil => intro b; simp [shownZ, lenZ]
  | cons y l ih =>
    intro b
    simp only [List.cons_append, shownZ, ih, lenZ, List.append_assoc]
    rw [show b + (y.u - y.f) + lenZ l = b + (y.u - y.f + lenZ l) by omega]
theorem shownZ_addZ {l : List Span} {x y : Span} (hl : Goods l) (hy : y.good) : ∀ b : Int, Eqv (shownZ x b (addZ l y)) (shownZ x b (l ++ [y])) := by
  intro b
  rcases snoc_cases l with rfl | ⟨p, q, rfl⟩
  · exact .refl _
  · rw [addZ_eq]
    obtain ⟨hp, hq⟩ := goods_append.1 hl
    have hq := (goods_cons.1 hq).1
    unfold Span.good at hy hq
    split
    · rename_i h
      rw [List.append_assoc, shownZ_append, shownZ_append]
      refine (Eqv.refl _).app ?_
      generalize b + lenZ p = c
      simp only [List.cons_append, List.nil_append, shownZ, List.append_nil]
      by_cases k1 : (clipZ x c q).f < (clipZ x c q).u
      · by_cases k2 : (clipZ x (c + (q.u - q.f)) y).f < (clipZ x (c + (q.u - q.f)) y).u
        · have k3 : (clipZ x c ⟨q.f, y.u⟩).f < (clipZ x c ⟨q.f, y.u⟩).u := by simp only [clipZ] at *; omega
          rw [if_pos k1, if_pos k2, if_pos k3]
          have e : clipZ x c ⟨q.f, y.u⟩ = ⟨(clipZ x c q).f, (clipZ x (c + (q.u - q.f)) y).u⟩ := by simp only [clipZ, Span.mk.injEq, true_and] at *; omega
          rw [e]
          exact (eqv_merge _ _ (by simp only [clipZ] at *; omega)).symm
        · have e : clipZ x c ⟨q.f, y.u⟩ = clipZ x c q := by simp only [clipZ, Span.mk.injEq, true_and] at *; omega
          rw [if_neg k2, e, List.append_nil]; exact .refl _
      · by_cases k2 : (clipZ x (c + (q.u - q.f)) y).f < (clipZ x (c + (q.u - q.f)) y).u
        · have e : clipZ x c ⟨q.f, y.u⟩ = clipZ x (c + (q.u - q.f)) y := by simp only [clipZ, Span.mk.injEq] at *; omega
          rw [if_neg k1, e, List.nil_append]; exact .refl _
        · have k3 : ¬ (clipZ x c ⟨q.f, y.u⟩).f < (clipZ x c ⟨q.f, y.u⟩).u := by simp only [clipZ] at *; omega
          rw [if_neg k1, if_neg k2, if_neg k3]; exact .refl _
    · exact .refl _
theorem shownZ_foldl {m : List Span} {x : Span} : ∀ {l : List Span}, Goods l → Goods m → ∀ b : Int, Eqv (shownZ x b (m.foldl addZ l)) (shownZ x b (l ++ m)) := by
  induction m with
  | nil => intro l _ _ b; rw [List.append_nil]; exact .refl _
  | cons y m ih =>
    intro l hl hm b
    obtain ⟨hy, hm⟩ := goods_cons.1 hm
    rw [List.foldl_cons]
    refine (ih (addZ_good hl hy) hm b).trans ?_
    rw [shownZ_append, addZ_lenZ, show l ++ y :: m = (l ++ [y]) ++ m by simp, shownZ_append]
    exact (shownZ_addZ hl hy b).app (.refl _)
theorem shownZ_joinZ {m : List Span} {x : Span} (hm : Goods m) : Eqv (shownZ x 0 (joinZ m)) (shownZ x 0 m) := by simpa [joinZ] using shownZ_foldl Goods.nil hm 0
theorem flatZ_eqv {a a' : List Span} (h : ∀ x, Eqv (shownZ x 0 a) (shownZ x 0 a')) (b : List Span) : Eqv (flatZ a b) (flatZ a' b) := by
  induction b with
  | nil => exact .refl _
  | cons x b ih =>
    have e : ∀ c, flatZ c (x :: b) = shownZ x 0 c ++ flatZ c b := fun c => by simp [flatZ]
    rw [e, e]
    exact (h x).app ih

/-- What is shown of what is shown. -/
theorem shown_shown {a : List Span} (ha : Goods a) (x y : Span) (b : Int) (hxy : x.f < x.u) (hy : y.f < y.u) : ∀ c : Int, 0 ≤ c →
    shownZ x (b + max 0 (min c y.u - y.f)) (shownZ y c a) = if (clipZ x b y).f < (clipZ x b y).u then shownZ (clipZ x b y) c a else [] := by
  induction a with
  | nil => intro c _; simp [shownZ]
  | cons p a ih =>
    obtain ⟨gp, ga⟩ := goods_cons.1 ha
    unfold Span.good at gp
    intro c hc
    have h1 := ih ga (c + (p.u - p.f)) (by omega)
    simp only [shownZ]
    rw [shownZ_append]
    have e : lenZ (if (clipZ y c p).f < (clipZ y c p).u then [clipZ y c p] else []) = max 0 (min (c + (p.u - p.f)) y.u - y.f) - max 0 (min c y.u - y.f) := by
      split
      · rename_i h; simp only [lenZ, clipZ] at h ⊢; omega
      · rename_i h; simp only [lenZ, clipZ] at h ⊢; omega
    rw [e, show b + max 0 (min c y.u - y.f) + (max 0 (min (c + (p.u - p.f)) y.u - y.f) - max 0 (min c y.u - y.f)) = b + max 0 (min (c + (p.u - p.f)) y.u - y.f) by omega, h1]
    by_cases k : (clipZ x b y).f < (clipZ x b y).u
    · rw [if_pos k, if_pos k]
      congr 1
      by_cases k1 : (clipZ y c p).f < (clipZ y c p).u
      · rw [if_pos k1]
        simp only [shownZ, List.append_nil]
        have e2 : clipZ x (b + max 0 (min c y.u - y.f)) (clipZ y c p) = clipZ (clipZ x b y) c p := by
          simp only [clipZ, Span.mk.injEq] at *; omega
        rw [e2]
      · have k2 : ¬ (clipZ (clipZ x b y) c p).f < (clipZ (clipZ x b y) c p).u := by simp only [clipZ] at *; omega
        rw [if_neg k1, if_neg k2]; rfl
    · rw [if_neg k, if_neg k, List.append_nil]
      by_cases k1 : (clipZ y c p).f < (clipZ y c p).u
      · rw [if_pos k1]
        simp only [shownZ, List.append_nil]
        rw [if_neg]
        simp only [clipZ] at *; omega
      · rw [if_neg k1]; rfl
theorem shown_flat {a b : List Span} (ha : Goods a) (hb : Goods b) (hw : ∀ x, x ∈ b → x.u ≤ lenZ a) (x : Span) (hx : x.f < x.u) : ∀ c : Int, shownZ x c (flatZ a b) = flatZ a (shownZ x c b) := by
  induction b with
  | nil => intro c; rfl
  | cons y b ih =>
    obtain ⟨gy, gb⟩ := goods_cons.1 hb
    have gy' := gy
    unfold Span.good at gy'
    intro c
    have e : flatZ a (y :: b) = shownZ y 0 a ++ flatZ a b := by simp [flatZ]
    have h1 := shown_shown ha x y c hx gy'.2.1 0 (by omega)
    rw [show c + max 0 (min 0 y.u - y.f) = c by omega] at h1
    have h2 := shownZ_lenZ gy'.2.1 ha (b := 0) (by have := hw y (by simp); omega)
    rw [e, shownZ_append, h2, h1, ih gb (fun z hz => hw z (by simp [hz])), shownZ, flatZ_append, show c + max 0 (y.u - max y.f 0) = c + (y.u - y.f) by omega]
    congr 1
    split
    · rw [flatZ_one]
    · rfl
theorem flat_flat {a b : List Span} (ha : Goods a) (hb : Goods b) (hw : ∀ x, x ∈ b → x.u ≤ lenZ a) : ∀ c : List Span, Goods c → flatZ (flatZ a b) c = flatZ a (flatZ b c) := by
  intro c
  induction c with
  | nil => intro _; rfl
  | cons x c ih =>
    intro hc
    obtain ⟨gx, gc⟩ := goods_cons.1 hc
    have e : ∀ d, flatZ d (x :: c) = shownZ x 0 d ++ flatZ d c := fun d => by simp [flatZ]
    rw [e, e, flatZ_append, ih gc, shown_flat ha hb hw x gx.2.1]
/-- It does not matter which two of three cuts are put together first. -/
theorem then_assoc {a b c : List Span} (ha : Goods a) (hb : Goods b) (hc : Goods c) (hw : ∀ x, x ∈ b → x.u ≤ lenZ a) : thenZ (thenZ a b) c = thenZ a (thenZ b c) := by
  simp only [thenZ_eq]
  rw [(flatZ_eqv (fun x => shownZ_joinZ (flatZ_good ha hb)) c).join, flat_flat ha hb hw c hc]
  exact ((flatZ_joinZ ha (flatZ_good hb hc)).join).symm

/-! the whole -/
def whole : List Span := [⟨0, 1099511627776⟩]
theorem flat_whole {l : List Span} (hl : Goods l) : flatZ whole l = l := by
  induction l with
  | nil => rfl
  | cons x l ih =>
    obtain ⟨gx, gl⟩ := goods_cons.1 hl
    have e : flatZ whole (x :: l) = shownZ x 0 whole ++ flatZ whole l := by simp [flatZ]
    unfold Span.good at gx
    have e2 : clipZ x 0 ⟨0, 1099511627776⟩ = x := by
      cases x; simp only [clipZ, Span.mk.injEq] at *; omega
    rw [e, ih gl]
    simp only [whole, shownZ, e2, List.append_nil]
    rw [if_pos gx.2.1]; rfl
theorem shown_whole {l : List Span} (hl : Goods l) : ∀ b : Int, 0 ≤ b → b + lenZ l ≤ 1099511627776 → shownZ ⟨0, 1099511627776⟩ b l = l := by
  induction l with
  | nil => intro b _ _; rfl
  | cons x l ih =>
    obtain ⟨gx, gl⟩ := goods_cons.1 hl
    have h0 := lenZ_nonneg gl
    unfold Span.good at gx
    intro b hb hl
    simp only [lenZ] at hl
    have e2 : clipZ ⟨0, 1099511627776⟩ b x = x := by
      cases x; simp only [clipZ, Span.mk.injEq] at *; omega
    simp only [shownZ, e2]
    rw [if_pos gx.2.1, ih gl _ (by omega) (by omega)]; rfl
end Go.V.Cu
