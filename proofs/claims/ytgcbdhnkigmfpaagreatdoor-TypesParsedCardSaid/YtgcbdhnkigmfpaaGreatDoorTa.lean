/-
  Types: what slices' functions and all do with a predicate that looks at its caller's variables.
-/
import Derived.Test.YtgcbdhnkigmfpaaGreatDoorG0
namespace Go.V.Ty
open Go.Proofs Go.RowKit Go.V.Lx Go.V.Gr
set_option linter.unusedSimpArgs false
set_option linter.unusedVariables false
set_option maxRecDepth 100000

theorem toB {f : FuncId} {ds : List D} {d : D} (h : CallsTo Tryz.prog f ds d) (hp : D.pureL ds = true) (bx : Bxs) : CallsB Tryz.prog f 0 ds bx (fun d' bx' => d' = d ∧ bx' = bx) (fun _ _ => False) := by
  intro X ρ σ a w vs hS xlo hl hv
  exact (h.carried (S := Stab X ρ bx w) (fun b hb => hb.1) (hS.glo.toP rfl) hl (fun i x v hx hv' => (hv i x v hx hv').toP (pureL_mem _ hp i x hx)) fun v w' hp => ⟨d, bx, ρ, ⟨rfl, rfl⟩, hS.got hp⟩).toP
/-- A predicate: a function with captured variables; it looks at slots below n0 and leaves those below k. -/
def PredB {α : Type} (f : FuncId) (caps : List D) (n0 k : Nat) (bx0 : Bxs) (enc : α → D) (dom : α → Prop) (p : α → Bool) : Prop :=
  ∀ (bx : Bxs) (x : α), (∀ s, s < n0 → bx s = bx0 s) → dom x → CallsB Tryz.prog f 0 (enc x :: caps) bx (fun d bx' => d = .bool (p x) ∧ ∀ s, s < k → bx' s = bx s) (fun _ _ => False)
theorem PredB.agree {α : Type} {f : FuncId} {caps : List D} {n0 k : Nat} {bx0 bx1 : Bxs} {enc : α → D} {dom : α → Prop} {p : α → Bool} (h : PredB f caps n0 k bx0 enc dom p) (hb : ∀ s, s < n0 → bx1 s = bx0 s) : PredB f caps n0 k bx1 enc dom p :=
  fun bx x hs hd => h bx x (fun s hs' => (hs s hs').trans (hb s hs')) hd
theorem PredB.of {α : Type} {f : FuncId} {enc : α → D} {dom : α → Prop} {p : α → Bool} (h : ∀ x, dom x → CallsTo Tryz.prog f [enc x] (.bool (p x))) (hp : ∀ x, (enc x).pure = true) (k : Nat) (bx0 : Bxs) : PredB f [] 0 k bx0 enc dom p :=
  fun bx x _ hd => (toB (h x hd) (by simp [D.pureL, hp]) bx).mono (fun d bx' ⟨h1, h2⟩ => ⟨h1, fun s _ => by rw [h2]⟩) (fun _ _ h => h)
def idxI {α : Type} (p : α → Bool) (l : List α) : Int := match l.findIdx? p with
  | some i => i
  | none => -1
theorem find_at {α : Type} (p : α → Bool) : ∀ (l : List α) (j : Nat) (x : α), (l.take j).any p = false → l[j]? = some x → p x = true → l.findIdx? p = some j
  | [], j, x, _, h, _ => by simp at h
  | y :: l, 0, x, _, h, hp => by simp at h; subst h; simp [List.findIdx?_cons, hp]
  | y :: l, j + 1, x, hn, h, hp => by
    simp only [List.take_succ_cons, List.any_cons, Bool.or_eq_false_iff] at hn
    have := find_at p l j x hn.2 (by simpa using h) hp
    simp [List.findIdx?_cons, hn.1, this]
theorem idx_at' {α : Type} {p : α → Bool} {l : List α} {j : Nat} {x : α} (h : (l.take j).any p = false) (hx : l[j]? = some x) (hp : p x = true) : idxI p l = j := by
  simp only [idxI, find_at p l j x h hx hp]
theorem idx_none {α : Type} {p : α → Bool} {l : List α} (h : l.any p = false) : idxI p l = -1 := by
  have : l.findIdx? p = none := by
    rw [List.findIdx?_eq_none_iff]
    intro x hx
    rw [List.any_eq_false] at h
    simpa using h x hx
  simp only [idxI, this]
theorem idx_any {α : Type} (p : α → Bool) (l : List α) : decide (0 ≤ idxI p l) = l.any p := by
  cases h : l.any p with
  | false => rw [idx_none h]; rfl
  | true =>
    unfold idxI
    cases hf : l.findIdx? p with
    | none =>
      rw [List.findIdx?_eq_none_iff] at hf
      rw [List.any_eq_true] at h
      obtain ⟨x, hx, hp⟩ := h
      rw [hf x hx] at hp
      cases hp
    | some i => simp
theorem any_take {α : Type} {p : α → Bool} {l : List α} {j : Nat} {x : α} (h : (l.take j).any p = false) (hx : l[j]? = some x) (hp : p x = false) : (l.take (j + 1)).any p = false := by
  rw [List.take_add_one, hx, List.any_append, h]
  simp [hp]
theorem not_any {α : Type} (p : α → Bool) (l : List α) : (l.any fun x => !p x) = !l.all p := by
  induction l with
  | nil => rfl
  | cons x l ih => simp [List.any_cons, List.all_cons, ih, Bool.not_and]
section
variable {f : FuncId} {caps : List D} {n0 k : Nat} {bx0 : Bxs}

theorem idxS_d {dom : Str → Prop} {p : Str → Bool} (hf : PredB f caps n0 k bx0 D.str dom p) (hn : n0 ≤ k) (l : List Str) (hl : l.length ≤ 140737488355328) (hd : ∀ x ∈ l, dom x) (bx : Bxs) (hb : ∀ s, s < n0 → bx s = bx0 s) :
    fnB Tryz.prog (orac Tryz.prog) [] Tryz.f124 0 [.sl 1 (l.map D.str), .fn (.func f) caps] bx (fun d bx' => d = .int .i64 (idxI p l) ∧ ∀ s, s < k → bx' s = bx s) (fun _ _ => False) := by
  refine fnB_intro _ [.tmp 4] 19 rfl rfl rfl (by kernel_rfl) ?_
  simp (maxSteps := 1000000) (disch := omega) only [go_sem]
  refine cD_for l.length (fun j σ bx' => σ 0 = .sl 1 (l.map D.str) ∧ σ 1 = .fn (.func f) caps ∧ σ 7 = .int .i64 l.length ∧ σ 8 = .int .i64 j ∧ (l.take j).any p = false ∧ ∀ s, s < k → bx' s = bx s)
    ⟨by simp [go_sem, argsF], by simp [go_sem, argsF], by simp [go_sem], by simp [go_sem], by simp, fun _ _ => rfl⟩ ?_ ?_
  · rintro j σ bx' hj ⟨h0, h1, h7, h8, hp, hk⟩
    obtain ⟨x, hx⟩ := get_lt hj
    have hlt : (j : Int) < (l.length : Int) := by omega
    simp (maxSteps := 1000000) (disch := omega) only [go_sem, h0, h1, h7, h8, hlt, hx]
    refine call_boxes (hf bx' x (fun s hs => (hk s (by omega)).trans (hb s hs)) (hd x (List.mem_of_getElem? hx))) rfl ?_
    rintro d bx2 ⟨rfl, hk2⟩
    simp (maxSteps := 1000000) (disch := omega) only [go_sem, h0, h1, h7, h8, hlt, hx]
    refine condD_split (fun hc => ?_) (fun hc => ?_)
    · simp (maxSteps := 1000000) (disch := omega) only [go_sem, h0, h1, h7, h8]
      exact ⟨by rw [idx_at' hp hx hc], fun s hs => (hk2 s hs).trans (hk s hs)⟩
    · simp (maxSteps := 1000000) (disch := omega) only [go_sem, h0, h1, h7, h8]
      rw [wrap_succ (by omega)]
      exact ⟨rfl, any_take hp hx hc, fun s hs => (hk2 s hs).trans (hk s hs)⟩
  · rintro σ bx' ⟨h0, h1, h7, h8, hp, hk⟩
    have hlt : ¬ (l.length : Int) < (l.length : Int) := by omega
    simp (maxSteps := 1000000) (disch := omega) only [go_sem, h0, h1, h7, h8, hlt]
    rw [List.take_length] at hp
    exact ⟨by rw [idx_none hp], hk⟩
theorem idxS_c {dom : Str → Prop} {p : Str → Bool} (hf : PredB f caps n0 k bx0 D.str dom p) (hn : n0 ≤ k) (l : List Str) (hl : l.length ≤ 140737488355328) (hd : ∀ x ∈ l, dom x) (bx : Bxs) (hb : ∀ s, s < n0 → bx s = bx0 s) :
    CallsB Tryz.prog 124 0 [.sl 1 (l.map D.str), .fn (.func f) caps] bx (fun d bx' => d = .int .i64 (idxI p l) ∧ ∀ s, s < k → bx' s = bx s) (fun _ _ => False) := fnB_calls mixed (idxS_d hf hn l hl hd bx hb) rfl (by kernel_rfl) rfl
theorem hasS_d {dom : Str → Prop} {p : Str → Bool} (hf : PredB f caps n0 k bx0 D.str dom p) (hn : n0 ≤ k) (l : List Str) (hl : l.length ≤ 140737488355328) (hd : ∀ x ∈ l, dom x) (bx : Bxs) (hb : ∀ s, s < n0 → bx s = bx0 s) :
    fnB Tryz.prog (orac Tryz.prog) [] Tryz.f89 0 [.sl 1 (l.map D.str), .fn (.func f) caps] bx (fun d bx' => d = .bool (l.any p) ∧ ∀ s, s < k → bx' s = bx s) (fun _ _ => False) := by
  refine fnB_intro _ [.tmp 4] 9 rfl rfl rfl (by kernel_rfl) ?_
  simp (maxSteps := 1000000) (disch := omega) only [go_sem]
  refine call_boxes (idxS_c hf hn l hl hd bx hb) rfl ?_
  rintro d bx2 ⟨rfl, hk2⟩
  simp (maxSteps := 1000000) (disch := omega) only [go_sem]
  exact ⟨by rw [idx_any], hk2⟩
theorem hasS_c {dom : Str → Prop} {p : Str → Bool} (hf : PredB f caps n0 k bx0 D.str dom p) (hn : n0 ≤ k) (l : List Str) (hl : l.length ≤ 140737488355328) (hd : ∀ x ∈ l, dom x) (bx : Bxs) (hb : ∀ s, s < n0 → bx s = bx0 s) :
    CallsB Tryz.prog 89 0 [.sl 1 (l.map D.str), .fn (.func f) caps] bx (fun d bx' => d = .bool (l.any p) ∧ ∀ s, s < k → bx' s = bx s) (fun _ _ => False) := fnB_calls mixed (hasS_d hf hn l hl hd bx hb) rfl (by kernel_rfl) rfl

theorem notS_p {q e ty : Nat} {dom : Str → Prop} {p : Str → Bool} (hf : PredB f caps n0 k bx0 D.str dom p) (hq : bx0 q = ⟨e, 1, 1, ty, [.fn (.func f) caps]⟩) (hn : n0 ≤ q + 1) (hk : q + 3 ≤ k) : PredB 90 [.loc q e 0 0] (q + 1) (q + 3) bx0 D.str dom fun x => !p x := by
  intro bx x hb hd
  refine fnB_calls mixed (fn := Tryz.f90) (tab := []) (base := q + 1) ?_ rfl (by kernel_rfl) rfl
  refine fnB_intro _ [.tmp 3] 8 rfl rfl rfl (by kernel_rfl) ?_
  have hbq := (hb q (by omega)).trans hq
  simp (maxSteps := 1000000) (disch := omega) only [go_sem, hbq]
  refine call_boxes (hf _ x (fun s hs => ?_) hd) rfl ?_
  · first | exact hb s (by omega) | (rw [upd_ne (by omega)]; exact hb s (by omega))
  rintro d bx2 ⟨rfl, hk2⟩
  simp (maxSteps := 1000000) (disch := omega) only [go_sem]
  first
    | exact fun s hs => hk2 s (by omega)
    | exact fun s hs => (hk2 s (by omega)).trans (by rw [upd_ne (by omega)])
theorem allS_d (B : Nat) {dom : Str → Prop} {p : Str → Bool} (hf : PredB f caps n0 k bx0 D.str dom p) (hn : n0 ≤ B) (hk : B + 17 ≤ k) (l : List Str) (hl : l.length ≤ 140737488355328) (hd : ∀ x ∈ l, dom x) (bx : Bxs) (hb : ∀ s, s < n0 → bx s = bx0 s) :
    fnB Tryz.prog (orac Tryz.prog) [] Tryz.f57 B [.fn (.func f) caps, .sl 1 [.sl 1 (l.map D.str)]] bx (fun d bx' => d = .bool (l.all p) ∧ ∀ s, s < B → bx' s = bx s) (fun _ _ => False) := by
  refine fnB_intro _ [.tmp 4] 17 rfl rfl rfl (by kernel_rfl) ?_
  simp (maxSteps := 1000000) (disch := omega) only [go_sem]
  obtain ⟨e, he⟩ : ∃ e, (bx (B + 2)).ep + 1 = e := ⟨_, rfl⟩
  rw [he]
  refine cD_for 1 (fun j σ bx' => σ 2 = .loc (B + 2) e 0 0 ∧ σ 7 = .sl 1 [.sl 1 (l.map D.str)] ∧ σ 8 = .int .i64 1 ∧ σ 9 = .int .i64 j ∧ (0 < j → l.all p = true) ∧ bx' (B + 2) = ⟨e, 1, 1, 98, [.fn (.func f) caps]⟩ ∧ ∀ s, s < B → bx' s = bx s)
    ⟨by simp [go_sem, argsF], by simp [go_sem, argsF], by simp [go_sem], by simp [go_sem], by simp, by simp [upd], fun s hs => by simp [upd, Nat.ne_of_lt (Nat.lt_add_right 2 hs)]⟩ ?_ ?_
  · rintro j σ bx' hj ⟨h2, h7, h8, h9, hp, hq, hk'⟩
    obtain rfl : j = 0 := by omega
    simp (maxSteps := 1000000) (disch := omega) only [go_sem, h2, h7, h8, h9, Int.natCast_zero, Int.reduceLT]
    refine call_boxes (hasS_c (notS_p (hf.agree (bx1 := bx') fun s hs => (hk' s (by omega)).trans (hb s hs)) hq (by omega) (by omega)) (by omega) l hl hd bx' fun _ _ => rfl) rfl ?_
    rintro d bx2 ⟨rfl, hk2⟩
    simp (maxSteps := 1000000) (disch := omega) only [go_sem]
    refine condD_split (fun hc => ?_) (fun hc => ?_)
    · simp (maxSteps := 1000000) (disch := omega) only [go_sem]
      rw [not_any] at hc
      refine ⟨?_, fun s hs => (hk2 s (by omega)).trans (hk' s hs)⟩
      rw [show l.all p = false by simpa using hc]
    · simp (maxSteps := 1000000) (disch := omega) only [go_sem, h2, h7, h8, h9]
      rw [not_any] at hc
      refine ⟨rfl, fun _ => by simpa using hc, by rw [hk2 _ (by omega)]; exact hq, fun s hs => (hk2 s (by omega)).trans (hk' s hs)⟩
  · rintro σ bx' ⟨h2, h7, h8, h9, hp, hq, hk'⟩
    have h9 : σ 9 = .int .i64 (1 : Int) := h9
    simp (maxSteps := 1000000) (disch := omega) only [go_sem, h2, h7, h8, h9, Int.reduceLT]
    exact ⟨by rw [hp (by omega)], hk'⟩
theorem allS_c (B : Nat) {dom : Str → Prop} {p : Str → Bool} (hf : PredB f caps n0 k bx0 D.str dom p) (hn : n0 ≤ B) (hk : B + 17 ≤ k) (l : List Str) (hl : l.length ≤ 140737488355328) (hd : ∀ x ∈ l, dom x) (bx : Bxs) (hb : ∀ s, s < n0 → bx s = bx0 s) :
    CallsB Tryz.prog 57 0 [.fn (.func f) caps, .sl 1 [.sl 1 (l.map D.str)]] bx (fun d bx' => d = .bool (l.all p) ∧ ∀ s, s < B → bx' s = bx s) (fun _ _ => False) := fnB_calls (base := B) mixed (allS_d B hf hn hk l hl hd bx hb) rfl (by kernel_rfl) rfl

theorem idxP_d {dom : Part → Prop} {p : Part → Bool} (hf : PredB f caps n0 k bx0 Part.d dom p) (hn : n0 ≤ k) (l : List Part) (hl : l.length ≤ 140737488355328) (hd : ∀ x ∈ l, dom x) (bx : Bxs) (hb : ∀ s, s < n0 → bx s = bx0 s) :
    fnB Tryz.prog (orac Tryz.prog) [] Tryz.f125 0 [.sl 3 (l.map Part.d), .fn (.func f) caps] bx (fun d bx' => d = .int .i64 (idxI p l) ∧ ∀ s, s < k → bx' s = bx s) (fun _ _ => False) := by
  refine fnB_intro _ [.tmp 4] 19 rfl rfl rfl (by kernel_rfl) ?_
  simp (maxSteps := 1000000) (disch := omega) only [go_sem]
  refine cD_for l.length (fun j σ bx' => σ 0 = .sl 3 (l.map Part.d) ∧ σ 1 = .fn (.func f) caps ∧ σ 7 = .int .i64 l.length ∧ σ 8 = .int .i64 j ∧ (l.take j).any p = false ∧ ∀ s, s < k → bx' s = bx s)
    ⟨by simp [go_sem, argsF], by simp [go_sem, argsF], by simp [go_sem], by simp [go_sem], by simp, fun _ _ => rfl⟩ ?_ ?_
  · rintro j σ bx' hj ⟨h0, h1, h7, h8, hp, hk⟩
    obtain ⟨x, hx⟩ := get_lt hj
    have hlt : (j : Int) < (l.length : Int) := by omega
    simp (maxSteps := 1000000) (disch := omega) only [go_sem, h0, h1, h7, h8, hlt, hx, Part.d]
    refine call_boxes (hf bx' x (fun s hs => (hk s (by omega)).trans (hb s hs)) (hd x (List.mem_of_getElem? hx))) rfl ?_
    rintro d bx2 ⟨rfl, hk2⟩
    simp (maxSteps := 1000000) (disch := omega) only [go_sem, h0, h1, h7, h8, hlt, hx, Part.d]
    refine condD_split (fun hc => ?_) (fun hc => ?_)
    · simp (maxSteps := 1000000) (disch := omega) only [go_sem, h0, h1, h7, h8]
      exact ⟨by rw [idx_at' hp hx hc], fun s hs => (hk2 s hs).trans (hk s hs)⟩
    · simp (maxSteps := 1000000) (disch := omega) only [go_sem, h0, h1, h7, h8]
      rw [wrap_succ (by omega)]
      exact ⟨rfl, any_take hp hx hc, fun s hs => (hk2 s hs).trans (hk s hs)⟩
  · rintro σ bx' ⟨h0, h1, h7, h8, hp, hk⟩
    have hlt : ¬ (l.length : Int) < (l.length : Int) := by omega
    simp (maxSteps := 1000000) (disch := omega) only [go_sem, h0, h1, h7, h8, hlt]
    rw [List.take_length] at hp
    exact ⟨by rw [idx_none hp], hk⟩
theorem idxP_c {dom : Part → Prop} {p : Part → Bool} (hf : PredB f caps n0 k bx0 Part.d dom p) (hn : n0 ≤ k) (l : List Part) (hl : l.length ≤ 140737488355328) (hd : ∀ x ∈ l, dom x) (bx : Bxs) (hb : ∀ s, s < n0 → bx s = bx0 s) :
    CallsB Tryz.prog 125 0 [.sl 3 (l.map Part.d), .fn (.func f) caps] bx (fun d bx' => d = .int .i64 (idxI p l) ∧ ∀ s, s < k → bx' s = bx s) (fun _ _ => False) := fnB_calls mixed (idxP_d hf hn l hl hd bx hb) rfl (by kernel_rfl) rfl
theorem hasP_d {dom : Part → Prop} {p : Part → Bool} (hf : PredB f caps n0 k bx0 Part.d dom p) (hn : n0 ≤ k) (l : List Part) (hl : l.length ≤ 140737488355328) (hd : ∀ x ∈ l, dom x) (bx : Bxs) (hb : ∀ s, s < n0 → bx s = bx0 s) :
    fnB Tryz.prog (orac Tryz.prog) [] Tryz.f91 0 [.sl 3 (l.map Part.d), .fn (.func f) caps] bx (fun d bx' => d = .bool (l.any p) ∧ ∀ s, s < k → bx' s = bx s) (fun _ _ => False) := by
  refine fnB_intro _ [.tmp 4] 9 rfl rfl rfl (by kernel_rfl) ?_
  simp (maxSteps := 1000000) (disch := omega) only [go_sem]
  refine call_boxes (idxP_c hf hn l hl hd bx hb) rfl ?_
  rintro d bx2 ⟨rfl, hk2⟩
  simp (maxSteps := 1000000) (disch := omega) only [go_sem]
  exact ⟨by rw [idx_any], hk2⟩
theorem hasP_c {dom : Part → Prop} {p : Part → Bool} (hf : PredB f caps n0 k bx0 Part.d dom p) (hn : n0 ≤ k) (l : List Part) (hl : l.length ≤ 140737488355328) (hd : ∀ x ∈ l, dom x) (bx : Bxs) (hb : ∀ s, s < n0 → bx s = bx0 s) :
    CallsB Tryz.prog 91 0 [.sl 3 (l.map Part.d), .fn (.func f) caps] bx (fun d bx' => d = .bool (l.any p) ∧ ∀ s, s < k → bx' s = bx s) (fun _ _ => False) := fnB_calls mixed (hasP_d hf hn l hl hd bx hb) rfl (by kernel_rfl) rfl

theorem notP_p {q e ty : Nat} {dom : Part → Prop} {p : Part → Bool} (hf : PredB f caps n0 k bx0 Part.d dom p) (hq : bx0 q = ⟨e, 1, 1, ty, [.fn (.func f) caps]⟩) (hn : n0 ≤ q + 1) (hk : q + 3 ≤ k) : PredB 92 [.loc q e 0 0] (q + 1) (q + 3) bx0 Part.d dom fun x => !p x := by
  intro bx x hb hd
  refine fnB_calls mixed (fn := Tryz.f92) (tab := []) (base := q + 1) ?_ rfl (by kernel_rfl) rfl
  refine fnB_intro _ [.tmp 3] 8 rfl rfl rfl (by kernel_rfl) ?_
  have hbq := (hb q (by omega)).trans hq
  simp (maxSteps := 1000000) (disch := omega) only [go_sem, hbq, Part.d]
  refine call_boxes (hf _ x (fun s hs => ?_) hd) rfl ?_
  · first | exact hb s (by omega) | (rw [upd_ne (by omega)]; exact hb s (by omega))
  rintro d bx2 ⟨rfl, hk2⟩
  simp (maxSteps := 1000000) (disch := omega) only [go_sem]
  first
    | exact fun s hs => hk2 s (by omega)
    | exact fun s hs => (hk2 s (by omega)).trans (by rw [upd_ne (by omega)])
theorem allP_d (B : Nat) {dom : Part → Prop} {p : Part → Bool} (hf : PredB f caps n0 k bx0 Part.d dom p) (hn : n0 ≤ B) (hk : B + 17 ≤ k) (l : List Part) (hl : l.length ≤ 140737488355328) (hd : ∀ x ∈ l, dom x) (bx : Bxs) (hb : ∀ s, s < n0 → bx s = bx0 s) :
    fnB Tryz.prog (orac Tryz.prog) [] Tryz.f60 B [.fn (.func f) caps, .sl 1 [.sl 3 (l.map Part.d)]] bx (fun d bx' => d = .bool (l.all p) ∧ ∀ s, s < B → bx' s = bx s) (fun _ _ => False) := by
  refine fnB_intro _ [.tmp 4] 17 rfl rfl rfl (by kernel_rfl) ?_
  simp (maxSteps := 1000000) (disch := omega) only [go_sem]
  obtain ⟨e, he⟩ : ∃ e, (bx (B + 2)).ep + 1 = e := ⟨_, rfl⟩
  rw [he]
  refine cD_for 1 (fun j σ bx' => σ 2 = .loc (B + 2) e 0 0 ∧ σ 7 = .sl 1 [.sl 3 (l.map Part.d)] ∧ σ 8 = .int .i64 1 ∧ σ 9 = .int .i64 j ∧ (0 < j → l.all p = true) ∧ bx' (B + 2) = ⟨e, 1, 1, 102, [.fn (.func f) caps]⟩ ∧ ∀ s, s < B → bx' s = bx s)
    ⟨by simp [go_sem, argsF], by simp [go_sem, argsF], by simp [go_sem], by simp [go_sem], by simp, by simp [upd], fun s hs => by simp [upd, Nat.ne_of_lt (Nat.lt_add_right 2 hs)]⟩ ?_ ?_
  · rintro j σ bx' hj ⟨h2, h7, h8, h9, hp, hq, hk'⟩
    obtain rfl : j = 0 := by omega
    simp (maxSteps := 1000000) (disch := omega) only [go_sem, h2, h7, h8, h9, Int.natCast_zero, Int.reduceLT]
    refine call_boxes (hasP_c (notP_p (hf.agree (bx1 := bx') fun s hs => (hk' s (by omega)).trans (hb s hs)) hq (by omega) (by omega)) (by omega) l hl hd bx' fun _ _ => rfl) rfl ?_
    rintro d bx2 ⟨rfl, hk2⟩
    simp (maxSteps := 1000000) (disch := omega) only [go_sem]
    refine condD_split (fun hc => ?_) (fun hc => ?_)
    · simp (maxSteps := 1000000) (disch := omega) only [go_sem]
      rw [not_any] at hc
      refine ⟨?_, fun s hs => (hk2 s (by omega)).trans (hk' s hs)⟩
      rw [show l.all p = false by simpa using hc]
    · simp (maxSteps := 1000000) (disch := omega) only [go_sem, h2, h7, h8, h9]
      rw [not_any] at hc
      refine ⟨rfl, fun _ => by simpa using hc, by rw [hk2 _ (by omega)]; exact hq, fun s hs => (hk2 s (by omega)).trans (hk' s hs)⟩
  · rintro σ bx' ⟨h2, h7, h8, h9, hp, hq, hk'⟩
    have h9 : σ 9 = .int .i64 (1 : Int) := h9
    simp (maxSteps := 1000000) (disch := omega) only [go_sem, h2, h7, h8, h9, Int.reduceLT]
    exact ⟨by rw [hp (by omega)], hk'⟩
theorem allP_c (B : Nat) {dom : Part → Prop} {p : Part → Bool} (hf : PredB f caps n0 k bx0 Part.d dom p) (hn : n0 ≤ B) (hk : B + 17 ≤ k) (l : List Part) (hl : l.length ≤ 140737488355328) (hd : ∀ x ∈ l, dom x) (bx : Bxs) (hb : ∀ s, s < n0 → bx s = bx0 s) :
    CallsB Tryz.prog 60 0 [.fn (.func f) caps, .sl 1 [.sl 3 (l.map Part.d)]] bx (fun d bx' => d = .bool (l.all p) ∧ ∀ s, s < B → bx' s = bx s) (fun _ _ => False) := fnB_calls (base := B) mixed (allP_d B hf hn hk l hl hd bx hb) rfl (by kernel_rfl) rfl

theorem idxE_d {dom : Entry → Prop} {p : Entry → Bool} (hf : PredB f caps n0 k bx0 Entry.d dom p) (hn : n0 ≤ k) (l : List Entry) (hl : l.length ≤ 140737488355328) (hd : ∀ x ∈ l, dom x) (bx : Bxs) (hb : ∀ s, s < n0 → bx s = bx0 s) :
    fnB Tryz.prog (orac Tryz.prog) [] Tryz.f126 0 [.sl 5 (l.map Entry.d), .fn (.func f) caps] bx (fun d bx' => d = .int .i64 (idxI p l) ∧ ∀ s, s < k → bx' s = bx s) (fun _ _ => False) := by
  refine fnB_intro _ [.tmp 4] 19 rfl rfl rfl (by kernel_rfl) ?_
  simp (maxSteps := 1000000) (disch := omega) only [go_sem]
  refine cD_for l.length (fun j σ bx' => σ 0 = .sl 5 (l.map Entry.d) ∧ σ 1 = .fn (.func f) caps ∧ σ 7 = .int .i64 l.length ∧ σ 8 = .int .i64 j ∧ (l.take j).any p = false ∧ ∀ s, s < k → bx' s = bx s)
    ⟨by simp [go_sem, argsF], by simp [go_sem, argsF], by simp [go_sem], by simp [go_sem], by simp, fun _ _ => rfl⟩ ?_ ?_
  · rintro j σ bx' hj ⟨h0, h1, h7, h8, hp, hk⟩
    obtain ⟨x, hx⟩ := get_lt hj
    have hlt : (j : Int) < (l.length : Int) := by omega
    simp (maxSteps := 1000000) (disch := omega) only [go_sem, h0, h1, h7, h8, hlt, hx, Entry.d, strs]
    refine call_boxes (hf bx' x (fun s hs => (hk s (by omega)).trans (hb s hs)) (hd x (List.mem_of_getElem? hx))) rfl ?_
    rintro d bx2 ⟨rfl, hk2⟩
    simp (maxSteps := 1000000) (disch := omega) only [go_sem, h0, h1, h7, h8, hlt, hx, Entry.d, strs]
    refine condD_split (fun hc => ?_) (fun hc => ?_)
    · simp (maxSteps := 1000000) (disch := omega) only [go_sem, h0, h1, h7, h8]
      exact ⟨by rw [idx_at' hp hx hc], fun s hs => (hk2 s hs).trans (hk s hs)⟩
    · simp (maxSteps := 1000000) (disch := omega) only [go_sem, h0, h1, h7, h8]
      rw [wrap_succ (by omega)]
      exact ⟨rfl, any_take hp hx hc, fun s hs => (hk2 s hs).trans (hk s hs)⟩
  · rintro σ bx' ⟨h0, h1, h7, h8, hp, hk⟩
    have hlt : ¬ (l.length : Int) < (l.length : Int) := by omega
    simp (maxSteps := 1000000) (disch := omega) only [go_sem, h0, h1, h7, h8, hlt]
    rw [List.take_length] at hp
    exact ⟨by rw [idx_none hp], hk⟩
theorem idxE_c {dom : Entry → Prop} {p : Entry → Bool} (hf : PredB f caps n0 k bx0 Entry.d dom p) (hn : n0 ≤ k) (l : List Entry) (hl : l.length ≤ 140737488355328) (hd : ∀ x ∈ l, dom x) (bx : Bxs) (hb : ∀ s, s < n0 → bx s = bx0 s) :
    CallsB Tryz.prog 126 0 [.sl 5 (l.map Entry.d), .fn (.func f) caps] bx (fun d bx' => d = .int .i64 (idxI p l) ∧ ∀ s, s < k → bx' s = bx s) (fun _ _ => False) := fnB_calls mixed (idxE_d hf hn l hl hd bx hb) rfl (by kernel_rfl) rfl
theorem hasE_d {dom : Entry → Prop} {p : Entry → Bool} (hf : PredB f caps n0 k bx0 Entry.d dom p) (hn : n0 ≤ k) (l : List Entry) (hl : l.length ≤ 140737488355328) (hd : ∀ x ∈ l, dom x) (bx : Bxs) (hb : ∀ s, s < n0 → bx s = bx0 s) :
    fnB Tryz.prog (orac Tryz.prog) [] Tryz.f93 0 [.sl 5 (l.map Entry.d), .fn (.func f) caps] bx (fun d bx' => d = .bool (l.any p) ∧ ∀ s, s < k → bx' s = bx s) (fun _ _ => False) := by
  refine fnB_intro _ [.tmp 4] 9 rfl rfl rfl (by kernel_rfl) ?_
  simp (maxSteps := 1000000) (disch := omega) only [go_sem]
  refine call_boxes (idxE_c hf hn l hl hd bx hb) rfl ?_
  rintro d bx2 ⟨rfl, hk2⟩
  simp (maxSteps := 1000000) (disch := omega) only [go_sem]
  exact ⟨by rw [idx_any], hk2⟩
theorem hasE_c {dom : Entry → Prop} {p : Entry → Bool} (hf : PredB f caps n0 k bx0 Entry.d dom p) (hn : n0 ≤ k) (l : List Entry) (hl : l.length ≤ 140737488355328) (hd : ∀ x ∈ l, dom x) (bx : Bxs) (hb : ∀ s, s < n0 → bx s = bx0 s) :
    CallsB Tryz.prog 93 0 [.sl 5 (l.map Entry.d), .fn (.func f) caps] bx (fun d bx' => d = .bool (l.any p) ∧ ∀ s, s < k → bx' s = bx s) (fun _ _ => False) := fnB_calls mixed (hasE_d hf hn l hl hd bx hb) rfl (by kernel_rfl) rfl

theorem notE_p {q e ty : Nat} {dom : Entry → Prop} {p : Entry → Bool} (hf : PredB f caps n0 k bx0 Entry.d dom p) (hq : bx0 q = ⟨e, 1, 1, ty, [.fn (.func f) caps]⟩) (hn : n0 ≤ q + 1) (hk : q + 3 ≤ k) : PredB 94 [.loc q e 0 0] (q + 1) (q + 3) bx0 Entry.d dom fun x => !p x := by
  intro bx x hb hd
  refine fnB_calls mixed (fn := Tryz.f94) (tab := []) (base := q + 1) ?_ rfl (by kernel_rfl) rfl
  refine fnB_intro _ [.tmp 3] 8 rfl rfl rfl (by kernel_rfl) ?_
  have hbq := (hb q (by omega)).trans hq
  simp (maxSteps := 1000000) (disch := omega) only [go_sem, hbq, Entry.d, strs]
  refine call_boxes (hf _ x (fun s hs => ?_) hd) rfl ?_
  · first | exact hb s (by omega) | (rw [upd_ne (by omega)]; exact hb s (by omega))
  rintro d bx2 ⟨rfl, hk2⟩
  simp (maxSteps := 1000000) (disch := omega) only [go_sem]
  first
    | exact fun s hs => hk2 s (by omega)
    | exact fun s hs => (hk2 s (by omega)).trans (by rw [upd_ne (by omega)])
theorem allE_d (B : Nat) {dom : Entry → Prop} {p : Entry → Bool} (hf : PredB f caps n0 k bx0 Entry.d dom p) (hn : n0 ≤ B) (hk : B + 17 ≤ k) (l : List Entry) (hl : l.length ≤ 140737488355328) (hd : ∀ x ∈ l, dom x) (bx : Bxs) (hb : ∀ s, s < n0 → bx s = bx0 s) :
    fnB Tryz.prog (orac Tryz.prog) [] Tryz.f61 B [.fn (.func f) caps, .sl 1 [.sl 5 (l.map Entry.d)]] bx (fun d bx' => d = .bool (l.all p) ∧ ∀ s, s < B → bx' s = bx s) (fun _ _ => False) := by
  refine fnB_intro _ [.tmp 4] 17 rfl rfl rfl (by kernel_rfl) ?_
  simp (maxSteps := 1000000) (disch := omega) only [go_sem]
  obtain ⟨e, he⟩ : ∃ e, (bx (B + 2)).ep + 1 = e := ⟨_, rfl⟩
  rw [he]
  refine cD_for 1 (fun j σ bx' => σ 2 = .loc (B + 2) e 0 0 ∧ σ 7 = .sl 1 [.sl 5 (l.map Entry.d)] ∧ σ 8 = .int .i64 1 ∧ σ 9 = .int .i64 j ∧ (0 < j → l.all p = true) ∧ bx' (B + 2) = ⟨e, 1, 1, 101, [.fn (.func f) caps]⟩ ∧ ∀ s, s < B → bx' s = bx s)
    ⟨by simp [go_sem, argsF], by simp [go_sem, argsF], by simp [go_sem], by simp [go_sem], by simp, by simp [upd], fun s hs => by simp [upd, Nat.ne_of_lt (Nat.lt_add_right 2 hs)]⟩ ?_ ?_
  · rintro j σ bx' hj ⟨h2, h7, h8, h9, hp, hq, hk'⟩
    obtain rfl : j = 0 := by omega
    simp (maxSteps := 1000000) (disch := omega) only [go_sem, h2, h7, h8, h9, Int.natCast_zero, Int.reduceLT]
    refine call_boxes (hasE_c (notE_p (hf.agree (bx1 := bx') fun s hs => (hk' s (by omega)).trans (hb s hs)) hq (by omega) (by omega)) (by omega) l hl hd bx' fun _ _ => rfl) rfl ?_
    rintro d bx2 ⟨rfl, hk2⟩
    simp (maxSteps := 1000000) (disch := omega) only [go_sem]
    refine condD_split (fun hc => ?_) (fun hc => ?_)
    · simp (maxSteps := 1000000) (disch := omega) only [go_sem]
      rw [not_any] at hc
      refine ⟨?_, fun s hs => (hk2 s (by omega)).trans (hk' s hs)⟩
      rw [show l.all p = false by simpa using hc]
    · simp (maxSteps := 1000000) (disch := omega) only [go_sem, h2, h7, h8, h9]
      rw [not_any] at hc
      refine ⟨rfl, fun _ => by simpa using hc, by rw [hk2 _ (by omega)]; exact hq, fun s hs => (hk2 s (by omega)).trans (hk' s hs)⟩
  · rintro σ bx' ⟨h2, h7, h8, h9, hp, hq, hk'⟩
    have h9 : σ 9 = .int .i64 (1 : Int) := h9
    simp (maxSteps := 1000000) (disch := omega) only [go_sem, h2, h7, h8, h9, Int.reduceLT]
    exact ⟨by rw [hp (by omega)], hk'⟩
theorem allE_c (B : Nat) {dom : Entry → Prop} {p : Entry → Bool} (hf : PredB f caps n0 k bx0 Entry.d dom p) (hn : n0 ≤ B) (hk : B + 17 ≤ k) (l : List Entry) (hl : l.length ≤ 140737488355328) (hd : ∀ x ∈ l, dom x) (bx : Bxs) (hb : ∀ s, s < n0 → bx s = bx0 s) :
    CallsB Tryz.prog 61 0 [.fn (.func f) caps, .sl 1 [.sl 5 (l.map Entry.d)]] bx (fun d bx' => d = .bool (l.all p) ∧ ∀ s, s < B → bx' s = bx s) (fun _ _ => False) := fnB_calls (base := B) mixed (allE_d B hf hn hk l hl hd bx hb) rfl (by kernel_rfl) rfl

theorem idxR_d {dom : Rule → Prop} {p : Rule → Bool} (hf : PredB f caps n0 k bx0 Rule.d dom p) (hn : n0 ≤ k) (l : List Rule) (hl : l.length ≤ 140737488355328) (hd : ∀ x ∈ l, dom x) (bx : Bxs) (hb : ∀ s, s < n0 → bx s = bx0 s) :
    fnB Tryz.prog (orac Tryz.prog) [] Tryz.f96 0 [.sl 5 (l.map Rule.d), .fn (.func f) caps] bx (fun d bx' => d = .int .i64 (idxI p l) ∧ ∀ s, s < k → bx' s = bx s) (fun _ _ => False) := by
  refine fnB_intro _ [.tmp 4] 19 rfl rfl rfl (by kernel_rfl) ?_
  simp (maxSteps := 1000000) (disch := omega) only [go_sem]
  refine cD_for l.length (fun j σ bx' => σ 0 = .sl 5 (l.map Rule.d) ∧ σ 1 = .fn (.func f) caps ∧ σ 7 = .int .i64 l.length ∧ σ 8 = .int .i64 j ∧ (l.take j).any p = false ∧ ∀ s, s < k → bx' s = bx s)
    ⟨by simp [go_sem, argsF], by simp [go_sem, argsF], by simp [go_sem], by simp [go_sem], by simp, fun _ _ => rfl⟩ ?_ ?_
  · rintro j σ bx' hj ⟨h0, h1, h7, h8, hp, hk⟩
    obtain ⟨x, hx⟩ := get_lt hj
    have hlt : (j : Int) < (l.length : Int) := by omega
    simp (maxSteps := 1000000) (disch := omega) only [go_sem, h0, h1, h7, h8, hlt, hx, Rule.d]
    refine call_boxes (hf bx' x (fun s hs => (hk s (by omega)).trans (hb s hs)) (hd x (List.mem_of_getElem? hx))) rfl ?_
    rintro d bx2 ⟨rfl, hk2⟩
    simp (maxSteps := 1000000) (disch := omega) only [go_sem, h0, h1, h7, h8, hlt, hx, Rule.d]
    refine condD_split (fun hc => ?_) (fun hc => ?_)
    · simp (maxSteps := 1000000) (disch := omega) only [go_sem, h0, h1, h7, h8]
      exact ⟨by rw [idx_at' hp hx hc], fun s hs => (hk2 s hs).trans (hk s hs)⟩
    · simp (maxSteps := 1000000) (disch := omega) only [go_sem, h0, h1, h7, h8]
      rw [wrap_succ (by omega)]
      exact ⟨rfl, any_take hp hx hc, fun s hs => (hk2 s hs).trans (hk s hs)⟩
  · rintro σ bx' ⟨h0, h1, h7, h8, hp, hk⟩
    have hlt : ¬ (l.length : Int) < (l.length : Int) := by omega
    simp (maxSteps := 1000000) (disch := omega) only [go_sem, h0, h1, h7, h8, hlt]
    rw [List.take_length] at hp
    exact ⟨by rw [idx_none hp], hk⟩
theorem idxR_c {dom : Rule → Prop} {p : Rule → Bool} (hf : PredB f caps n0 k bx0 Rule.d dom p) (hn : n0 ≤ k) (l : List Rule) (hl : l.length ≤ 140737488355328) (hd : ∀ x ∈ l, dom x) (bx : Bxs) (hb : ∀ s, s < n0 → bx s = bx0 s) :
    CallsB Tryz.prog 96 0 [.sl 5 (l.map Rule.d), .fn (.func f) caps] bx (fun d bx' => d = .int .i64 (idxI p l) ∧ ∀ s, s < k → bx' s = bx s) (fun _ _ => False) := fnB_calls mixed (idxR_d hf hn l hl hd bx hb) rfl (by kernel_rfl) rfl
theorem hasR_d {dom : Rule → Prop} {p : Rule → Bool} (hf : PredB f caps n0 k bx0 Rule.d dom p) (hn : n0 ≤ k) (l : List Rule) (hl : l.length ≤ 140737488355328) (hd : ∀ x ∈ l, dom x) (bx : Bxs) (hb : ∀ s, s < n0 → bx s = bx0 s) :
    fnB Tryz.prog (orac Tryz.prog) [] Tryz.f64 0 [.sl 5 (l.map Rule.d), .fn (.func f) caps] bx (fun d bx' => d = .bool (l.any p) ∧ ∀ s, s < k → bx' s = bx s) (fun _ _ => False) := by
  refine fnB_intro _ [.tmp 4] 9 rfl rfl rfl (by kernel_rfl) ?_
  simp (maxSteps := 1000000) (disch := omega) only [go_sem]
  refine call_boxes (idxR_c hf hn l hl hd bx hb) rfl ?_
  rintro d bx2 ⟨rfl, hk2⟩
  simp (maxSteps := 1000000) (disch := omega) only [go_sem]
  exact ⟨by rw [idx_any], hk2⟩
theorem hasR_c {dom : Rule → Prop} {p : Rule → Bool} (hf : PredB f caps n0 k bx0 Rule.d dom p) (hn : n0 ≤ k) (l : List Rule) (hl : l.length ≤ 140737488355328) (hd : ∀ x ∈ l, dom x) (bx : Bxs) (hb : ∀ s, s < n0 → bx s = bx0 s) :
    CallsB Tryz.prog 64 0 [.sl 5 (l.map Rule.d), .fn (.func f) caps] bx (fun d bx' => d = .bool (l.any p) ∧ ∀ s, s < k → bx' s = bx s) (fun _ _ => False) := fnB_calls mixed (hasR_d hf hn l hl hd bx hb) rfl (by kernel_rfl) rfl

theorem notR_p {q e ty : Nat} {dom : Rule → Prop} {p : Rule → Bool} (hf : PredB f caps n0 k bx0 Rule.d dom p) (hq : bx0 q = ⟨e, 1, 1, ty, [.fn (.func f) caps]⟩) (hn : n0 ≤ q + 1) (hk : q + 3 ≤ k) : PredB 95 [.loc q e 0 0] (q + 1) (q + 3) bx0 Rule.d dom fun x => !p x := by
  intro bx x hb hd
  refine fnB_calls mixed (fn := Tryz.f95) (tab := []) (base := q + 1) ?_ rfl (by kernel_rfl) rfl
  refine fnB_intro _ [.tmp 3] 8 rfl rfl rfl (by kernel_rfl) ?_
  have hbq := (hb q (by omega)).trans hq
  simp (maxSteps := 1000000) (disch := omega) only [go_sem, hbq, Rule.d]
  refine call_boxes (hf _ x (fun s hs => ?_) hd) rfl ?_
  · first | exact hb s (by omega) | (rw [upd_ne (by omega)]; exact hb s (by omega))
  rintro d bx2 ⟨rfl, hk2⟩
  simp (maxSteps := 1000000) (disch := omega) only [go_sem]
  first
    | exact fun s hs => hk2 s (by omega)
    | exact fun s hs => (hk2 s (by omega)).trans (by rw [upd_ne (by omega)])
theorem allR_d (B : Nat) {dom : Rule → Prop} {p : Rule → Bool} (hf : PredB f caps n0 k bx0 Rule.d dom p) (hn : n0 ≤ B) (hk : B + 17 ≤ k) (l : List Rule) (hl : l.length ≤ 140737488355328) (hd : ∀ x ∈ l, dom x) (bx : Bxs) (hb : ∀ s, s < n0 → bx s = bx0 s) :
    fnB Tryz.prog (orac Tryz.prog) [] Tryz.f62 B [.fn (.func f) caps, .sl 1 [.sl 5 (l.map Rule.d)]] bx (fun d bx' => d = .bool (l.all p) ∧ ∀ s, s < B → bx' s = bx s) (fun _ _ => False) := by
  refine fnB_intro _ [.tmp 4] 17 rfl rfl rfl (by kernel_rfl) ?_
  simp (maxSteps := 1000000) (disch := omega) only [go_sem]
  obtain ⟨e, he⟩ : ∃ e, (bx (B + 2)).ep + 1 = e := ⟨_, rfl⟩
  rw [he]
  refine cD_for 1 (fun j σ bx' => σ 2 = .loc (B + 2) e 0 0 ∧ σ 7 = .sl 1 [.sl 5 (l.map Rule.d)] ∧ σ 8 = .int .i64 1 ∧ σ 9 = .int .i64 j ∧ (0 < j → l.all p = true) ∧ bx' (B + 2) = ⟨e, 1, 1, 105, [.fn (.func f) caps]⟩ ∧ ∀ s, s < B → bx' s = bx s)
    ⟨by simp [go_sem, argsF], by simp [go_sem, argsF], by simp [go_sem], by simp [go_sem], by simp, by simp [upd], fun s hs => by simp [upd, Nat.ne_of_lt (Nat.lt_add_right 2 hs)]⟩ ?_ ?_
  · rintro j σ bx' hj ⟨h2, h7, h8, h9, hp, hq, hk'⟩
    obtain rfl : j = 0 := by omega
    simp (maxSteps := 1000000) (disch := omega) only [go_sem, h2, h7, h8, h9, Int.natCast_zero, Int.reduceLT]
    refine call_boxes (hasR_c (notR_p (hf.agree (bx1 := bx') fun s hs => (hk' s (by omega)).trans (hb s hs)) hq (by omega) (by omega)) (by omega) l hl hd bx' fun _ _ => rfl) rfl ?_
    rintro d bx2 ⟨rfl, hk2⟩
    simp (maxSteps := 1000000) (disch := omega) only [go_sem]
    refine condD_split (fun hc => ?_) (fun hc => ?_)
    · simp (maxSteps := 1000000) (disch := omega) only [go_sem]
      rw [not_any] at hc
      refine ⟨?_, fun s hs => (hk2 s (by omega)).trans (hk' s hs)⟩
      rw [show l.all p = false by simpa using hc]
    · simp (maxSteps := 1000000) (disch := omega) only [go_sem, h2, h7, h8, h9]
      rw [not_any] at hc
      refine ⟨rfl, fun _ => by simpa using hc, by rw [hk2 _ (by omega)]; exact hq, fun s hs => (hk2 s (by omega)).trans (hk' s hs)⟩
  · rintro σ bx' ⟨h2, h7, h8, h9, hp, hq, hk'⟩
    have h9 : σ 9 = .int .i64 (1 : Int) := h9
    simp (maxSteps := 1000000) (disch := omega) only [go_sem, h2, h7, h8, h9, Int.reduceLT]
    exact ⟨by rw [hp (by omega)], hk'⟩
theorem allR_c (B : Nat) {dom : Rule → Prop} {p : Rule → Bool} (hf : PredB f caps n0 k bx0 Rule.d dom p) (hn : n0 ≤ B) (hk : B + 17 ≤ k) (l : List Rule) (hl : l.length ≤ 140737488355328) (hd : ∀ x ∈ l, dom x) (bx : Bxs) (hb : ∀ s, s < n0 → bx s = bx0 s) :
    CallsB Tryz.prog 62 0 [.fn (.func f) caps, .sl 1 [.sl 5 (l.map Rule.d)]] bx (fun d bx' => d = .bool (l.all p) ∧ ∀ s, s < B → bx' s = bx s) (fun _ _ => False) := fnB_calls (base := B) mixed (allR_d B hf hn hk l hl hd bx hb) rfl (by kernel_rfl) rfl

theorem idxI_d {dom : Int → Prop} {p : Int → Bool} (hf : PredB f caps n0 k bx0 (D.int .i64) dom p) (hn : n0 ≤ k) (l : List Int) (hl : l.length ≤ 140737488355328) (hd : ∀ x ∈ l, dom x) (bx : Bxs) (hb : ∀ s, s < n0 → bx s = bx0 s) :
    fnB Tryz.prog (orac Tryz.prog) [] Tryz.f142 0 [.sl 1 (l.map (D.int .i64)), .fn (.func f) caps] bx (fun d bx' => d = .int .i64 (idxI p l) ∧ ∀ s, s < k → bx' s = bx s) (fun _ _ => False) := by
  refine fnB_intro _ [.tmp 4] 19 rfl rfl rfl (by kernel_rfl) ?_
  simp (maxSteps := 1000000) (disch := omega) only [go_sem]
  refine cD_for l.length (fun j σ bx' => σ 0 = .sl 1 (l.map (D.int .i64)) ∧ σ 1 = .fn (.func f) caps ∧ σ 7 = .int .i64 l.length ∧ σ 8 = .int .i64 j ∧ (l.take j).any p = false ∧ ∀ s, s < k → bx' s = bx s)
    ⟨by simp [go_sem, argsF], by simp [go_sem, argsF], by simp [go_sem], by simp [go_sem], by simp, fun _ _ => rfl⟩ ?_ ?_
  · rintro j σ bx' hj ⟨h0, h1, h7, h8, hp, hk⟩
    obtain ⟨x, hx⟩ := get_lt hj
    have hlt : (j : Int) < (l.length : Int) := by omega
    simp (maxSteps := 1000000) (disch := omega) only [go_sem, h0, h1, h7, h8, hlt, hx]
    refine call_boxes (hf bx' x (fun s hs => (hk s (by omega)).trans (hb s hs)) (hd x (List.mem_of_getElem? hx))) rfl ?_
    rintro d bx2 ⟨rfl, hk2⟩
    simp (maxSteps := 1000000) (disch := omega) only [go_sem, h0, h1, h7, h8, hlt, hx]
    refine condD_split (fun hc => ?_) (fun hc => ?_)
    · simp (maxSteps := 1000000) (disch := omega) only [go_sem, h0, h1, h7, h8]
      exact ⟨by rw [idx_at' hp hx hc], fun s hs => (hk2 s hs).trans (hk s hs)⟩
    · simp (maxSteps := 1000000) (disch := omega) only [go_sem, h0, h1, h7, h8]
      rw [wrap_succ (by omega)]
      exact ⟨rfl, any_take hp hx hc, fun s hs => (hk2 s hs).trans (hk s hs)⟩
  · rintro σ bx' ⟨h0, h1, h7, h8, hp, hk⟩
    have hlt : ¬ (l.length : Int) < (l.length : Int) := by omega
    simp (maxSteps := 1000000) (disch := omega) only [go_sem, h0, h1, h7, h8, hlt]
    rw [List.take_length] at hp
    exact ⟨by rw [idx_none hp], hk⟩
theorem idxI_c {dom : Int → Prop} {p : Int → Bool} (hf : PredB f caps n0 k bx0 (D.int .i64) dom p) (hn : n0 ≤ k) (l : List Int) (hl : l.length ≤ 140737488355328) (hd : ∀ x ∈ l, dom x) (bx : Bxs) (hb : ∀ s, s < n0 → bx s = bx0 s) :
    CallsB Tryz.prog 142 0 [.sl 1 (l.map (D.int .i64)), .fn (.func f) caps] bx (fun d bx' => d = .int .i64 (idxI p l) ∧ ∀ s, s < k → bx' s = bx s) (fun _ _ => False) := fnB_calls mixed (idxI_d hf hn l hl hd bx hb) rfl (by kernel_rfl) rfl
theorem hasI_d {dom : Int → Prop} {p : Int → Bool} (hf : PredB f caps n0 k bx0 (D.int .i64) dom p) (hn : n0 ≤ k) (l : List Int) (hl : l.length ≤ 140737488355328) (hd : ∀ x ∈ l, dom x) (bx : Bxs) (hb : ∀ s, s < n0 → bx s = bx0 s) :
    fnB Tryz.prog (orac Tryz.prog) [] Tryz.f122 0 [.sl 1 (l.map (D.int .i64)), .fn (.func f) caps] bx (fun d bx' => d = .bool (l.any p) ∧ ∀ s, s < k → bx' s = bx s) (fun _ _ => False) := by
  refine fnB_intro _ [.tmp 4] 9 rfl rfl rfl (by kernel_rfl) ?_
  simp (maxSteps := 1000000) (disch := omega) only [go_sem]
  refine call_boxes (idxI_c hf hn l hl hd bx hb) rfl ?_
  rintro d bx2 ⟨rfl, hk2⟩
  simp (maxSteps := 1000000) (disch := omega) only [go_sem]
  exact ⟨by rw [idx_any], hk2⟩
theorem hasI_c {dom : Int → Prop} {p : Int → Bool} (hf : PredB f caps n0 k bx0 (D.int .i64) dom p) (hn : n0 ≤ k) (l : List Int) (hl : l.length ≤ 140737488355328) (hd : ∀ x ∈ l, dom x) (bx : Bxs) (hb : ∀ s, s < n0 → bx s = bx0 s) :
    CallsB Tryz.prog 122 0 [.sl 1 (l.map (D.int .i64)), .fn (.func f) caps] bx (fun d bx' => d = .bool (l.any p) ∧ ∀ s, s < k → bx' s = bx s) (fun _ _ => False) := fnB_calls mixed (hasI_d hf hn l hl hd bx hb) rfl (by kernel_rfl) rfl

theorem notI_p {q e ty : Nat} {dom : Int → Prop} {p : Int → Bool} (hf : PredB f caps n0 k bx0 (D.int .i64) dom p) (hq : bx0 q = ⟨e, 1, 1, ty, [.fn (.func f) caps]⟩) (hn : n0 ≤ q + 1) (hk : q + 3 ≤ k) : PredB 123 [.loc q e 0 0] (q + 1) (q + 3) bx0 (D.int .i64) dom fun x => !p x := by
  intro bx x hb hd
  refine fnB_calls mixed (fn := Tryz.f123) (tab := []) (base := q + 1) ?_ rfl (by kernel_rfl) rfl
  refine fnB_intro _ [.tmp 3] 8 rfl rfl rfl (by kernel_rfl) ?_
  have hbq := (hb q (by omega)).trans hq
  simp (maxSteps := 1000000) (disch := omega) only [go_sem, hbq]
  refine call_boxes (hf _ x (fun s hs => ?_) hd) rfl ?_
  · first | exact hb s (by omega) | (rw [upd_ne (by omega)]; exact hb s (by omega))
  rintro d bx2 ⟨rfl, hk2⟩
  simp (maxSteps := 1000000) (disch := omega) only [go_sem]
  first
    | exact fun s hs => hk2 s (by omega)
    | exact fun s hs => (hk2 s (by omega)).trans (by rw [upd_ne (by omega)])
theorem allI_d (B : Nat) {dom : Int → Prop} {p : Int → Bool} (hf : PredB f caps n0 k bx0 (D.int .i64) dom p) (hn : n0 ≤ B) (hk : B + 17 ≤ k) (l : List Int) (hl : l.length ≤ 140737488355328) (hd : ∀ x ∈ l, dom x) (bx : Bxs) (hb : ∀ s, s < n0 → bx s = bx0 s) :
    fnB Tryz.prog (orac Tryz.prog) [] Tryz.f87 B [.fn (.func f) caps, .sl 1 [.sl 1 (l.map (D.int .i64))]] bx (fun d bx' => d = .bool (l.all p) ∧ ∀ s, s < B → bx' s = bx s) (fun _ _ => False) := by
  refine fnB_intro _ [.tmp 4] 17 rfl rfl rfl (by kernel_rfl) ?_
  simp (maxSteps := 1000000) (disch := omega) only [go_sem]
  obtain ⟨e, he⟩ : ∃ e, (bx (B + 2)).ep + 1 = e := ⟨_, rfl⟩
  rw [he]
  refine cD_for 1 (fun j σ bx' => σ 2 = .loc (B + 2) e 0 0 ∧ σ 7 = .sl 1 [.sl 1 (l.map (D.int .i64))] ∧ σ 8 = .int .i64 1 ∧ σ 9 = .int .i64 j ∧ (0 < j → l.all p = true) ∧ bx' (B + 2) = ⟨e, 1, 1, 137, [.fn (.func f) caps]⟩ ∧ ∀ s, s < B → bx' s = bx s)
    ⟨by simp [go_sem, argsF], by simp [go_sem, argsF], by simp [go_sem], by simp [go_sem], by simp, by simp [upd], fun s hs => by simp [upd, Nat.ne_of_lt (Nat.lt_add_right 2 hs)]⟩ ?_ ?_
  · rintro j σ bx' hj ⟨h2, h7, h8, h9, hp, hq, hk'⟩
    obtain rfl : j = 0 := by omega
    simp (maxSteps := 1000000) (disch := omega) only [go_sem, h2, h7, h8, h9, Int.natCast_zero, Int.reduceLT]
    refine call_boxes (hasI_c (notI_p (hf.agree (bx1 := bx') fun s hs => (hk' s (by omega)).trans (hb s hs)) hq (by omega) (by omega)) (by omega) l hl hd bx' fun _ _ => rfl) rfl ?_
    rintro d bx2 ⟨rfl, hk2⟩
    simp (maxSteps := 1000000) (disch := omega) only [go_sem]
    refine condD_split (fun hc => ?_) (fun hc => ?_)
    · simp (maxSteps := 1000000) (disch := omega) only [go_sem]
      rw [not_any] at hc
      refine ⟨?_, fun s hs => (hk2 s (by omega)).trans (hk' s hs)⟩
      rw [show l.all p = false by simpa using hc]
    · simp (maxSteps := 1000000) (disch := omega) only [go_sem, h2, h7, h8, h9]
      rw [not_any] at hc
      refine ⟨rfl, fun _ => by simpa using hc, by rw [hk2 _ (by omega)]; exact hq, fun s hs => (hk2 s (by omega)).trans (hk' s hs)⟩
  · rintro σ bx' ⟨h2, h7, h8, h9, hp, hq, hk'⟩
    have h9 : σ 9 = .int .i64 (1 : Int) := h9
    simp (maxSteps := 1000000) (disch := omega) only [go_sem, h2, h7, h8, h9, Int.reduceLT]
    exact ⟨by rw [hp (by omega)], hk'⟩
theorem allI_c (B : Nat) {dom : Int → Prop} {p : Int → Bool} (hf : PredB f caps n0 k bx0 (D.int .i64) dom p) (hn : n0 ≤ B) (hk : B + 17 ≤ k) (l : List Int) (hl : l.length ≤ 140737488355328) (hd : ∀ x ∈ l, dom x) (bx : Bxs) (hb : ∀ s, s < n0 → bx s = bx0 s) :
    CallsB Tryz.prog 87 0 [.fn (.func f) caps, .sl 1 [.sl 1 (l.map (D.int .i64))]] bx (fun d bx' => d = .bool (l.all p) ∧ ∀ s, s < B → bx' s = bx s) (fun _ _ => False) := fnB_calls (base := B) mixed (allI_d B hf hn hk l hl hd bx hb) rfl (by kernel_rfl) rfl
end
end Go.V.Ty
