/-
  Grammar: the parser's entries and rules.
-/
import Derived.Test.YtgcbdhnkigmfpaaGreatDoorGt
namespace Go.V.Gr
open Go.Proofs Go.RowKit Go.V.Lx
set_option linter.unusedSimpArgs false
set_option linter.unusedVariables false
set_option maxRecDepth 100000

variable {bx : Bxs} {l : List Tk} {n e : Nat} {g : G6}
/-- below the slot m all is as it was, but for the parser -/
def Below14 (m : Nat) (bx bx' : Bxs) : Prop := ∀ q, q ≠ 14 → q < m → bx' q = bx q
def JJ (e n : Nat) (g : G6) (bx0 : Bxs) (m : Nat) (bx : Bxs) (l : List Tk) : Prop := PSt bx e l n g ∧ l.length ≤ 1000000 ∧ Below14 m bx0 bx
def OkB {α : Type} (p : Rd α) (enc : α → D) (e n : Nat) (g : G6) (m : Nat) (bx : Bxs) (l : List Tk) : D → Bxs → Prop := fun d bx' => ∃ a r, p l = .ok (a, r) ∧ (∃ x, outD bx' d = some x ∧ Weak x (enc a)) ∧ PSt (frzL bx' [d]) e r n g ∧ Below14 m bx (frzL bx' [d])
def ErB {α : Type} (p : Rd α) (n m : Nat) (bx : Bxs) (l : List Tk) : D → Bxs → Prop := fun d bx' => ∃ r, p l = .error r ∧ d = placeD n r ∧ Below14 m bx bx'
theorem JJ.rests {bx0 : Bxs} {m s : Nat} (h : m ≤ s) (h' : s ≠ 14) : Rests (JJ e n g bx0 m) s 1000000 :=
  ⟨fun bx bx' l hj hq => ⟨(hq 14 (Ne.symm h')).trans hj.1, hj.2.1, fun q h1 h2 => (hq q (by omega)).trans (hj.2.2 q h1 h2)⟩, fun bx l hj => hj.2.1⟩
theorem JJ.tok {bx0 : Bxs} {m : Nat} (bx : Bxs) (l : List Tk) (h : JJ e n g bx0 m bx l) : tokN bx = l.length := tokN_of h.1
theorem item_okB {α : Type} {p : Rd α} {enc : α → D} {bx0 : Bxs} {m M s : Nat} {f : FuncId} {cs : List D} (hf : Fwd p) (hm : m ≤ M) (hs : s < M) (hs' : s ≠ 14)
    (h : ∀ bx l, JJ e n g bx0 m bx l → CallsB Tryz.prog f 0 cs bx (OkB p enc e n g M bx l) (ErB p n M bx l)) : ItemC (JJ e n g bx0 m) (Below14 m bx0) s n f cs p enc := by
  intro bx l hj
  refine (h bx l hj).mono ?_ ?_
  · rintro d bx' ⟨a, r, h1, h2, h3, h4⟩
    exact ⟨a, r, h1, h2, ⟨h3, Nat.le_trans (hf.len h1) hj.2.1, fun q q1 q2 => (h4 q q1 (by omega)).trans (hj.2.2 q q1 q2)⟩, h4 s hs' hs⟩
  · rintro d bx' ⟨r, h1, h2, h4⟩
    exact ⟨r, h1, h2, fun q q1 q2 => (h4 q q1 (by omega)).trans (hj.2.2 q q1 q2)⟩
theorem Ok1.toB {α : Type} {p : Rd α} {enc : α → D} {d : D} {bx' : Bxs} (m : Nat) (hp : ∀ a, outD bx' (enc a) = some (enc a) ∧ frzL bx' [enc a] = bx') (h : Ok1 p enc e n g bx l d bx') : OkB p enc e n g m bx l d bx' := by
  obtain ⟨a, r, h1, rfl, h2, h3⟩ := h
  exact ⟨a, r, h1, ⟨_, (hp a).1, .refl _⟩, by rw [(hp a).2]; exact h2, by rw [(hp a).2]; exact fun q h1 _ => h3 q h1⟩
theorem Er1.toB {α : Type} {p : Rd α} {d : D} {bx' : Bxs} (m : Nat) (h : Er1 p n bx l d bx') : ErB p n m bx l d bx' := by
  obtain ⟨r, h1, h2, h3⟩ := h
  exact ⟨r, h1, h2, fun q h1 _ => h3 q h1⟩
theorem plain_str (bx : Bxs) (a : Str) : outD bx (.str a) = some (.str a) ∧ frzL bx [.str a] = bx := ⟨by simp [outD], by simp [frzL, frzD]⟩
theorem plain_part (bx : Bxs) (a : Part) : outD bx a.d = some a.d ∧ frzL bx [a.d] = bx := ⟨by simp [Part.d, outD, outL, consO], by simp [Part.d, frzL, frzD]⟩
theorem plain_give (bx : Bxs) (a : Give) : outD bx a.d = some a.d ∧ frzL bx [a.d] = bx := ⟨by simp [Give.d, outD, outL, consO], by simp [Give.d, frzL, frzD]⟩
theorem more_of {bx0 : Bxs} {m : Nat} {f : FuncId} {cs : List D} {more : List Tk → Bool} (h : ∀ bx l, JJ e n g bx0 m bx l → CallsB Tryz.prog f 0 cs bx (fun d bx' => d = .bool (more l) ∧ bx' = bx) (fun _ _ => False)) : MoreC (JJ e n g bx0 m) f cs more := h

theorem part_d (b : Nat) (hb1 : 14 < b) (hl : l.length ≤ 140737488355328) (hb : PSt bx e l n g) : fnB Tryz.prog (orac Tryz.prog) [] Tryz.f107 b [.loc 14 e 0 0] bx (OkB partP Part.d e n g b bx l) (ErB partP n b bx l) := by
  refine fnB_intro _ [.cell 2 46] 11 rfl rfl rfl (by kernel_rfl) ?_
  have hne : (14 : Nat) ≠ b + 2 := by omega
  have hb2 : ∀ v, PSt (upd bx (b + 2) v) e l n g := fun v => by
    have : bx 14 = _ := hb
    simp [PSt, upd, hne, this]
  simp (maxSteps := 1000000) (disch := omega) only [go_sem]
  refine call_boxes (is_c [58] hl (hb2 _)) rfl ?_
  rintro d bx1 ⟨rfl, hbx1⟩
  have q0 : bx1 (b + 2) = ⟨(bx (b + 2)).ep + 1, 1, 3, 46, [(Part.mk [] 0 []).d]⟩ := by rw [hbx1]; simp [upd, Part.d]
  have qs : ∀ q, q ≠ b + 2 → bx1 q = bx q := fun q h => by rw [hbx1]; simp [upd, h]
  have hb1' : PSt bx1 e l n g := by rw [hbx1]; exact hb2 _
  clear hbx1
  simp (maxSteps := 1000000) (disch := omega) only [go_sem]
  refine condD_split (fun h1 => ?_) (fun h1 => ?_)
  · simp (maxSteps := 1000000) (disch := omega) only [go_sem]
    refine call_pan (name_p [58] hl hb1') rfl (fun d bx2 hp => ?_) (fun d bx2 hp => ?_)
    · obtain ⟨a, r, k1, rfl, k2, k3⟩ := hp
      have q2 := (k3 (b + 2) (Ne.symm hne)).trans q0
      simp (maxSteps := 1000000) (disch := omega) only [go_sem, q2, Part.d]
      refine ⟨Part.mk [] 0 a, r, ?_, ?_, ?_, ?_⟩
      · simp only [partP, h1, if_true, Rd.bind, k1, Rd.pure]
      · exact ⟨_, (plain_part _ (Part.mk [] 0 a)).1, .refl _⟩
      · have : bx2 14 = _ := k2
        simp [frzL, frzD, PSt, upd, hne, this]
      · intro q h2 h3
        have : q ≠ b + 2 := by omega
        simp [frzL, frzD, upd, this, k3 q h2, qs q this]
    · obtain ⟨r, k1, rfl, k3⟩ := hp
      simp (maxSteps := 1000000) (disch := omega) only [go_sem]
      refine ⟨r, ?_, rfl, fun q h2 h3 => ?_⟩
      · simp only [partP, h1, if_true, Rd.bind, k1]
      · have : q ≠ b + 2 := by omega
        exact (k3 q h2).trans (qs q this)
  · simp (maxSteps := 1000000) (disch := omega) only [go_sem]
    refine call_pan (bare_c hl hb1') rfl (fun d bx2 hp => ?_) (fun d bx2 hp => ?_)
    · obtain ⟨a, r, k1, rfl, k2, k3⟩ := hp
      have q2 := (k3 (b + 2) (Ne.symm hne)).trans q0
      simp (maxSteps := 1000000) (disch := omega) only [go_sem, q2, Part.d]
      refine ⟨Part.mk a 0 [], r, ?_, ?_, ?_, ?_⟩
      · simp only [partP, h1, Bool.false_eq_true, if_false, Rd.bind, k1, Rd.pure]
      · exact ⟨_, (plain_part _ (Part.mk a 0 [])).1, .refl _⟩
      · have : bx2 14 = _ := k2
        simp [frzL, frzD, PSt, upd, hne, this]
      · intro q h2 h3
        have : q ≠ b + 2 := by omega
        simp [frzL, frzD, upd, this, k3 q h2, qs q this]
    · obtain ⟨r, k1, rfl, k3⟩ := hp
      simp (maxSteps := 1000000) (disch := omega) only [go_sem]
      refine ⟨r, ?_, rfl, fun q h2 h3 => ?_⟩
      · simp only [partP, h1, Bool.false_eq_true, if_false, Rd.bind, k1]
      · have : q ≠ b + 2 := by omega
        exact (k3 q h2).trans (qs q this)
theorem part_c (b : Nat) (hb1 : 14 < b) (hl : l.length ≤ 140737488355328) (hb : PSt bx e l n g) : CallsB Tryz.prog 107 0 [.loc 14 e 0 0] bx (OkB partP Part.d e n g b bx l) (ErB partP n b bx l) :=
  (fnB_calls mixed (part_d b hb1 hl hb) rfl (by kernel_rfl) rfl : CallsB _ _ b _ _ _ _)
theorem give_d (b : Nat) (hb1 : 14 < b) (hl : l.length ≤ 140737488355328) (hb : PSt bx e l n g) : fnB Tryz.prog (orac Tryz.prog) [] Tryz.f111 b [.loc 14 e 0 0] bx (OkB giveP Give.d e n g b bx l) (ErB giveP n b bx l) := by
  refine fnB_intro _ [.cell 2 70] 11 rfl rfl rfl (by kernel_rfl) ?_
  have hne : (14 : Nat) ≠ b + 2 := by omega
  have hb2 : ∀ v, PSt (upd bx (b + 2) v) e l n g := fun v => by
    have : bx 14 = _ := hb
    simp [PSt, upd, hne, this]
  simp (maxSteps := 1000000) (disch := omega) only [go_sem]
  refine call_boxes (is_c [58] hl (hb2 _)) rfl ?_
  rintro d bx1 ⟨rfl, hbx1⟩
  have q0 : bx1 (b + 2) = ⟨(bx (b + 2)).ep + 1, 1, 2, 70, [(Give.mk 0 []).d]⟩ := by rw [hbx1]; simp [upd, Give.d]
  have qs : ∀ q, q ≠ b + 2 → bx1 q = bx q := fun q h => by rw [hbx1]; simp [upd, h]
  have hb1' : PSt bx1 e l n g := by rw [hbx1]; exact hb2 _
  clear hbx1
  simp (maxSteps := 1000000) (disch := omega) only [go_sem]
  refine condD_split (fun h1 => ?_) (fun h1 => ?_)
  · simp (maxSteps := 1000000) (disch := omega) only [go_sem]
    refine call_pan (name_p [58] hl hb1') rfl (fun d bx2 hp => ?_) (fun d bx2 hp => ?_)
    · obtain ⟨a, r, k1, rfl, k2, k3⟩ := hp
      have q2 := (k3 (b + 2) (Ne.symm hne)).trans q0
      simp (maxSteps := 1000000) (disch := omega) only [go_sem, q2, Give.d]
      refine ⟨Give.mk 0 a, r, ?_, ?_, ?_, ?_⟩
      · simp only [giveP, h1, if_true, Rd.bind, k1, Rd.pure]
      · exact ⟨_, (plain_give _ (Give.mk 0 a)).1, .refl _⟩
      · have : bx2 14 = _ := k2
        simp [frzL, frzD, PSt, upd, hne, this]
      · intro q h2 h3
        have : q ≠ b + 2 := by omega
        simp [frzL, frzD, upd, this, k3 q h2, qs q this]
    · obtain ⟨r, k1, rfl, k3⟩ := hp
      simp (maxSteps := 1000000) (disch := omega) only [go_sem]
      refine ⟨r, ?_, rfl, fun q h2 h3 => ?_⟩
      · simp only [giveP, h1, if_true, Rd.bind, k1]
      · have : q ≠ b + 2 := by omega
        exact (k3 q h2).trans (qs q this)
  · simp (maxSteps := 1000000) (disch := omega) only [go_sem]
    refine call_pan (number_c hl hb1') rfl (fun d bx2 hp => ?_) (fun d bx2 hp => ?_)
    · obtain ⟨a, r, k1, rfl, k2, k3⟩ := hp
      have q2 := (k3 (b + 2) (Ne.symm hne)).trans q0
      simp (maxSteps := 1000000) (disch := omega) only [go_sem, q2, Give.d]
      refine ⟨Give.mk a [], r, ?_, ?_, ?_, ?_⟩
      · simp only [giveP, h1, Bool.false_eq_true, if_false, Rd.bind, k1, Rd.pure]
      · exact ⟨_, (plain_give _ (Give.mk a [])).1, .refl _⟩
      · have : bx2 14 = _ := k2
        simp [frzL, frzD, PSt, upd, hne, this]
      · intro q h2 h3
        have : q ≠ b + 2 := by omega
        simp [frzL, frzD, upd, this, k3 q h2, qs q this]
    · obtain ⟨r, k1, rfl, k3⟩ := hp
      simp (maxSteps := 1000000) (disch := omega) only [go_sem]
      refine ⟨r, ?_, rfl, fun q h2 h3 => ?_⟩
      · simp only [giveP, h1, Bool.false_eq_true, if_false, Rd.bind, k1]
      · have : q ≠ b + 2 := by omega
        exact (k3 q h2).trans (qs q this)
theorem give_c (b : Nat) (hb1 : 14 < b) (hl : l.length ≤ 140737488355328) (hb : PSt bx e l n g) : CallsB Tryz.prog 111 0 [.loc 14 e 0 0] bx (OkB giveP Give.d e n g b bx l) (ErB giveP n b bx l) :=
  (fnB_calls mixed (give_d b hb1 hl hb) rfl (by kernel_rfl) rfl : CallsB _ _ b _ _ _ _)
theorem Eats.fwd' {α : Type} {p : Rd α} (_ : Eats p) (h : Fwd p) : Fwd p := h
theorem many_len {α : Type} {more : List Tk → Bool} {item : Rd α} (he : Eats item) : ∀ (k : Nat) (l : List Tk) (xs : List α) (r : List Tk), many more item k l = .ok (xs, r) → xs.length + r.length ≤ l.length
  | 0, l, xs, r, h => by
    simp only [many, Rd.pure] at h
    injection h with h; injection h with h1 h2; subst h1; subst h2; simp
  | k + 1, l, xs, r, h => by
    simp only [many] at h
    split at h
    · obtain ⟨a, r1, h1, h2⟩ := bind_ok h
      obtain ⟨ys, r2, h3, h4⟩ := bind_ok h2
      simp only [Rd.pure] at h4
      injection h4 with h4; injection h4 with g1 g2; subst g1; subst g2
      have := many_len he k r1 ys _ h3
      have := he _ _ _ h1
      simp only [List.length_cons]
      omega
    · injection h with h; injection h with h1 h2; subst h1; subst h2; simp
theorem some_len {α : Type} {more : List Tk → Bool} {item : Rd α} (he : Eats item) {l r : List Tk} {xs : List α} (h : some' more item l = .ok (xs, r)) : xs.length + r.length ≤ l.length := many_len he _ _ _ _ h
theorem append_any {lo : Nat} {T : TypeId → TI} {e esz b size d : Nat} {ag ag' : Bool} {z : List D} {x : D} {xs ys : List D} {ts : List Nat} {K2 : D × Bxs → Prop} (hx : OwnV bx ts e esz x xs) (hz : (T e).zero.length = esz)
    (h1 : (xs.length + ys.length) * b ≤ 140737488355328) (h2 : 0 < esz) (h3 : 0 < b) (hlo : ∀ t, t ∈ ts → lo ≤ t)
    (hk : ∀ x' bx', OwnV bx' (d :: ts) e esz x' (xs ++ ys) → (∀ s, s ≠ d → s ∉ ts → bx' s = bx s) → K2 (x', bx')) :
    bindD (appendD lo T ⟨.slice e esz b ag, size, ag', z⟩ (some d) bx x ys) K2 := by
  by_cases hy : ys = []
  · subst hy
    refine append_none hx (hk _ _ ?_ fun _ _ _ => rfl)
    rw [List.append_nil]
    rcases hx with h | ⟨t, e', ht, h⟩
    · exact .inl h
    · exact .inr ⟨t, e', List.mem_cons_of_mem _ ht, h⟩
  · exact append_own hx hy hz h1 h2 h3 hlo fun e' bx' hb hf => hk _ _ (OwnV.mk List.mem_cons_self hb) hf
theorem frz_own {ts : List Nat} {el esz : Nat} {x : D} {xs : List D} (h : OwnV bx ts el esz x xs) (q : Nat) (hq : q ∉ ts) : frzD bx x q = bx q := by
  rcases h with ⟨rfl, _⟩ | ⟨t, k, ht, rfl, _⟩
  · rfl
  · have : q ≠ t := fun e => hq (e ▸ ht)
    simp [frzD, upd, this]
theorem frzL_one (d : D) : frzL bx [d] = frzD bx d := by simp [frzL]
theorem weak_agg5 {a b c d f a' b' c' d' f' : D} (h1 : Weak a a') (h2 : Weak b b') (h3 : Weak c c') (h4 : Weak d d') (h5 : Weak f f') : Weak (.agg [a, b, c, d, f]) (.agg [a', b', c', d', f']) := by
  refine .agg rfl fun i x x' hx hx' => ?_
  match i with
  | 0 => simp at hx hx'; subst hx; subst hx'; exact h1
  | 1 => simp at hx hx'; subst hx; subst hx'; exact h2
  | 2 => simp at hx hx'; subst hx; subst hx'; exact h3
  | 3 => simp at hx hx'; subst hx; subst hx'; exact h4
  | 4 => simp at hx hx'; subst hx; subst hx'; exact h5
  | i + 5 => simp at hx
theorem entry_d (hl : l.length ≤ 1000000) (hb : PSt bx e l n g) : fnB Tryz.prog (orac Tryz.prog) [(2000001, []), (2000003, []), (1000011, []), (1, [(6, 5)]), (3, [(7, 5), (7, 3)])] Tryz.f78 160 [.loc 14 e 0 0] bx (OkB entryP Entry.d e n g 160 bx l) (ErB entryP n 160 bx l) := by
  refine fnB_intro _ [.cell 2 44] 25 rfl rfl rfl (by kernel_rfl) ?_
  have hb0 : bx 14 = _ := hb
  simp (maxSteps := 1000000) (disch := omega) only [go_sem]
  refine draw_by (.load 0 1 (.load 2 1 (.both 1 [1] (.light 4 (.both 3 [] (.both 5 [] (.light 6 (.both 7 [] .fin .stop)) .stop) .stop)) .stop))) (by kernel_rfl) ?_
  simp (maxSteps := 1000000) (disch := omega) only [go_sem]
  generalize (bx 161).ep + 1 = k1
  generalize (upd bx 161 ⟨k1, 1, 1, 84, [.loc 14 e 0 0]⟩ 162).ep + 1 = k2
  refine call_pan (name_p (l := l) (n := n) (g := g) wWord (by omega) (by simp [PSt, upd, hb0])) rfl (fun d bx1 hp => ?_) (fun d bx1 hp => ?_)
  rotate_left
  · obtain ⟨r, h1, rfl, h3⟩ := hp
    simp (maxSteps := 1000000) (disch := omega) only [go_sem]
    exact fun _ => ⟨r, by simp only [entryP, Rd.bind, h1], rfl, fun q q1 q2 => by rw [h3 q q1]; simp (disch := omega) only [upd_ne]⟩
  obtain ⟨a1, r1, h1, rfl, p1, f1⟩ := hp
  have l1 := (eats_name wWord) _ _ _ h1
  have q1 : bx1 161 = ⟨k1, 1, 1, 84, [.loc 14 e 0 0]⟩ := (f1 161 (by decide)).trans (by simp [upd])
  have q2 : bx1 162 = ⟨k2, 1, 5, 44, [.agg [.str [], .str [], .int .i64 0, .nilsl, .int .i64 0]]⟩ := (f1 162 (by decide)).trans (by simp [upd])
  have fr1 : Below14 160 bx bx1 := fun q q1 q2 => by rw [f1 q q1]; simp (disch := omega) only [upd_ne]
  simp (maxSteps := 1000000) (disch := omega) only [go_sem, q1, q2]
  refine call_pan (name_p (n := n) (g := g) wIs (by omega) p1) rfl (fun d bx2 hp => ?_) (fun d bx2 hp => ?_)
  rotate_left
  · obtain ⟨r, h2, rfl, h3⟩ := hp
    simp (maxSteps := 1000000) (disch := omega) only [go_sem]
    exact fun _ => ⟨r, by simp only [entryP, Rd.bind, h1, h2], rfl, fun q q1 q2 => (h3 q q1).trans (fr1 q q1 q2)⟩
  obtain ⟨a2, r2, h2, rfl, p2, f2⟩ := hp
  have l2 := (eats_name wIs) _ _ _ h2
  replace q1 := (f2 161 (by decide)).trans q1
  replace q2 := (f2 162 (by decide)).trans q2
  have fr2 : Below14 160 bx bx2 := fun q q1 q2 => (f2 q q1).trans (fr1 q q1 q2)
  have p2' : bx2 14 = _ := p2
  clear f1 f2 fr1 p1
  simp (maxSteps := 1000000) (disch := omega) only [go_sem, q1, q2]
  refine call_pan (name_p (l := r2) (n := n) (g := g) wGives (by omega) (by simp [PSt, upd, p2'])) rfl (fun d bx3 hp => ?_) (fun d bx3 hp => ?_)
  rotate_left
  · obtain ⟨r, h3, rfl, f3⟩ := hp
    simp (maxSteps := 1000000) (disch := omega) only [go_sem]
    exact ⟨r, by simp only [entryP, Rd.bind, h1, h2, h3], rfl, fun q q1 q2 => by
      rw [f3 q q1]
      simp (disch := omega) only [upd_ne]
      exact fr2 q q1 q2⟩
  obtain ⟨a3, r3, h3, rfl, p3, f3⟩ := hp
  have l3 := (eats_name wGives) _ _ _ h3
  replace q1 : bx3 161 = ⟨k1, 1, 1, 84, [.loc 14 e 0 0]⟩ := (f3 161 (by decide)).trans (by simp [upd, q1])
  replace q2 : bx3 162 = ⟨k2, 1, 5, 44, [.agg [.str a1, .str a2, .int .i64 0, .nilsl, .int .i64 0]]⟩ := (f3 162 (by decide)).trans (by simp [upd])
  have fr3 : Below14 160 bx bx3 := fun q q1 q2 => by
    rw [f3 q q1]
    simp (disch := omega) only [upd_ne]
    exact fr2 q q1 q2
  have p3' : bx3 14 = _ := p3
  clear f3 fr2 p2 p2'
  simp (maxSteps := 1000000) (disch := omega) only [go_sem, q1, q2]
  refine draw_by (.light 0 (.load 1 2 (.load 2 1 (.light 4 (.both 3 [2] (.both 5 [2] (.both 6 [] (.light 7 (.both 8 [] .fin .stop)) .stop) .stop) .stop))))) (by kernel_rfl) ?_
  simp (maxSteps := 1000000) (disch := omega) only [go_sem, q1, q2]
  generalize (bx3 171).ep + 1 = k3
  refine call_boxes (begins_c (bx := _) (e := e) 190 [44]) rfl ?_
  rintro d bx4 ⟨k4, k5, rfl, b1, b2, b3⟩
  have q3 : bx4 171 = ⟨k3, 1, 1, 9, [.str a3]⟩ := (b3 171 (by decide) (by decide)).trans (by simp [upd])
  replace q1 : bx4 161 = ⟨k1, 1, 1, 84, [.loc 14 e 0 0]⟩ := (b3 161 (by decide) (by decide)).trans (by simp [upd, q1])
  replace q2 : bx4 162 = ⟨k2, 1, 5, 44, [.agg [.str a1, .str a2, .int .i64 0, .osl 171 k3 1 0 1, .int .i64 0]]⟩ := (b3 162 (by decide) (by decide)).trans (by simp [upd])
  have p4 : PSt bx4 e r3 n g := (b3 14 (by decide) (by decide)).trans (by simp [upd, p3'])
  have fr4 : Below14 160 bx bx4 := fun q q1 q2 => by
    rw [b3 q (by omega) (by omega)]
    simp (disch := omega) only [upd_ne]
    exact fr3 q q1 q2
  clear b3 fr3 p3 p3'
  have q24 := q2
  simp (maxSteps := 1000000) (disch := omega) only [go_sem, q1, q2]
  have hb1 : ∀ (b' : Bxs) (m : Nat) (l' : List Tk), JJ e n g bx4 200 b' l' → Ptr b' 192 k4 e ∧ Txt b' 193 k5 [44] ∧ Ptr b' 161 k1 e := fun b' m l' hj => ⟨(hj.2.2 192 (by decide) (by decide)).trans b1, (hj.2.2 193 (by decide) (by decide)).trans b2, (hj.2.2 161 (by decide) (by decide)).trans q1⟩
  refine call_out (someStr_c 200 (J := JJ e n g bx4 200) (Z := Below14 200 bx4) (more := isT [44]) (item := nameP [44]) (n := n) (JJ.rests (by decide) (by decide))
    (more_of fun b' l' hj => begins1_c 192 193 k4 k5 [44] (by have := hj.2.1; omega) hj.1 (hb1 b' 0 l' hj).1 (hb1 b' 0 l' hj).2.1)
    (item_okB (M := 212) ((eats_name [44]).fwd' (fwd_name [44])) (by decide) (by decide) (by decide) fun b' l' hj => (entry1_c 161 k1 (by have := hj.2.1; omega) hj.1 (hb1 b' 0 l' hj).2.2).mono (fun d bx' h => h.toB 212 fun a => plain_str _ _) (fun d bx' h => h.toB 212))
    JJ.tok (eats_name [44]) rfl (fun _ _ _ h => h) (fun _ _ _ h => h) (l := r3) ⟨p4, by omega, fun _ _ _ => rfl⟩) rfl (fun d bx5 hp => ?_) (fun d bx5 hp => ?_)
  rotate_left
  · obtain ⟨r, h4, rfl, f5⟩ := hp
    simp (maxSteps := 1000000) (disch := omega) only [go_sem]
    exact fun _ => ⟨r, by simp only [entryP, Rd.bind, h1, h2, h3, h4], rfl, fun q q1 q2 => (f5 q q1 (by omega)).trans (fr4 q q1 q2)⟩
  obtain ⟨xs, r4, h4, hv, p5, _, f5⟩ := hp
  obtain ⟨y, hy, hw⟩ := hv.out (pureL_strs xs)
  refine ⟨y, _, hy, hw, ?_⟩
  have hz : ∀ q, q ≠ 211 → frzL bx5 [d] q = bx5 q := fun q hq => by rw [frzL_one]; exact frz_own hv q (by simpa using hq)
  have l4 := (fwd_some (more := isT [44]) (fwd_name [44])).len h4
  have hxl : xs.length ≤ 1000000 := by
    have := some_len (eats_name [44]) h4
    omega
  replace q1 : frzL bx5 [d] 161 = _ := ((hz 161 (by decide)).trans (f5 161 (by decide) (by decide))).trans q1
  replace q2 : frzL bx5 [d] 162 = _ := ((hz 162 (by decide)).trans (f5 162 (by decide) (by decide))).trans q2
  replace q3 : frzL bx5 [d] 171 = _ := ((hz 171 (by decide)).trans (f5 171 (by decide) (by decide))).trans q3
  replace p5 : PSt (frzL bx5 [d]) e r4 n g := (hz 14 (by decide)).trans p5
  have fr5 : Below14 160 bx (frzL bx5 [d]) := fun q q1 q2 => ((hz q (by omega)).trans (f5 q q1 (by omega))).trans (fr4 q q1 q2)
  clear hz f5 hv hy hw fr4 b1 b2 hb1 p4
  generalize frzL bx5 [d] = bx6 at *
  simp (maxSteps := 1000000) (disch := omega) only [go_sem, q1, q2, q24]
  refine append_any (ts := [171]) (xs := [.str a3]) (show OwnV bx6 [171] 9 1 (.osl 171 k3 1 0 1) [.str a3] from OwnV.mk (by simp) q3) (by simp [go_sem]) ?_ (by omega) (by omega) (by simp) (fun x' bx7 hv hf => ?_)
  · simp only [List.length_map, List.length_cons, List.length_nil]; omega
  replace q1 : bx7 161 = _ := (hf 161 (by decide) (by decide)).trans q1
  replace q2 : bx7 162 = _ := (hf 162 (by decide) (by decide)).trans q2
  have p7 : bx7 14 = _ := (hf 14 (by decide) (by decide)).trans p5
  have fr7 : Below14 160 bx bx7 := fun q q1 q2 => (hf q (by omega) (by simp; omega)).trans (fr5 q q1 q2)
  obtain ⟨v1, v2, v3⟩ := hv.facts
  clear hf fr5 p5 q3 q24
  simp (maxSteps := 1000000) (disch := omega) only [go_sem, q1, q2, v1, v2, v3]
  refine call_pan (cost_c (l := r4) (n := n) (g := g) (by omega) (by simp [PSt, upd, p7])) rfl (fun d bx8 hp => ?_) (fun d bx8 hp => ?_)
  rotate_left
  · obtain ⟨r, h5, rfl, f8⟩ := hp
    simp (maxSteps := 1000000) (disch := omega) only [go_sem]
    exact ⟨r, by simp only [entryP, Rd.bind, h1, h2, h3, h4, h5], rfl, fun q q1 q2 => by
      rw [f8 q q1]
      simp (disch := omega) only [upd_ne]
      exact fr7 q q1 q2⟩
  obtain ⟨c, r5, h5, rfl, p8, f8⟩ := hp
  replace q1 : bx8 161 = ⟨k1, 1, 1, 84, [.loc 14 e 0 0]⟩ := (f8 161 (by decide)).trans (by simp [upd, q1])
  replace q2 : bx8 162 = ⟨k2, 1, 5, 44, [.agg [.str a1, .str a2, .int .i64 0, x', .int .i64 0]]⟩ := (f8 162 (by decide)).trans (by simp [upd])
  have hv8 : OwnV bx8 [179, 171] 9 1 x' ((a3 :: xs).map D.str) := (show OwnV bx7 [179, 171] _ 1 x' ((a3 :: xs).map D.str) from hv).of fun q hq => by
    have : q ≠ 14 ∧ q ≠ 162 := by simp at hq; omega
    rw [f8 q this.1]; simp [upd, this.2]
  have fr8 : Below14 160 bx bx8 := fun q q1 q2 => by
    rw [f8 q q1]
    simp (disch := omega) only [upd_ne]
    exact fr7 q q1 q2
  have p8' : bx8 14 = _ := p8
  clear f8 hv fr7 p7
  simp (maxSteps := 1000000) (disch := omega) only [go_sem, q1, q2, v1, v2, v3]
  have hv9 : ∀ v, OwnV (upd (upd bx8 162 v) 162 v) [179, 171] 9 1 x' ((a3 :: xs).map D.str) := fun v => hv8.of fun q hq => by
    have : q ≠ 162 := by simp at hq; omega
    simp [upd, this]
  obtain ⟨y, hy, hw⟩ := (hv9 ⟨k2, 1, 5, 44, [.agg [.str a1, .str a2, .int .i64 0, x', .int .i64 c]]⟩).out (pureL_strs _)
  have hz : ∀ q, q ≠ 179 → q ≠ 171 → ∀ v, frzD (upd (upd bx8 162 v) 162 v) x' q = upd (upd bx8 162 v) 162 v q := fun q q1 q2 v => frz_own (hv9 v) q (by simp [q1, q2])
  refine ⟨⟨a1, a2, 0, a3 :: xs, c⟩, r5, ?_, ⟨.agg [.str a1, .str a2, .int .i64 0, y, .int .i64 c], ?_, weak_agg5 (.refl _) (.refl _) (.refl _) hw (.refl _)⟩, ?_, fun q q1 q2 => ?_⟩
  · simp only [entryP, Rd.bind, h1, h2, h3, h4, h5, Rd.pure]
  · simp only [outD, outL, hy, consO, Option.map_some]
  · have e1 := hz 14 (by decide) (by decide) ⟨k2, 1, 5, 44, [.agg [.str a1, .str a2, .int .i64 0, x', .int .i64 c]]⟩
    simp only [frzL, frzD, PSt]
    rw [e1]
    simp [upd, p8']
  · have e1 := hz q (by omega) (by omega) ⟨k2, 1, 5, 44, [.agg [.str a1, .str a2, .int .i64 0, x', .int .i64 c]]⟩
    simp only [frzL, frzD]
    rw [e1]
    simp (disch := omega) only [upd_ne]
    exact fr8 q q1 q2
theorem entry_c (hl : l.length ≤ 1000000) (hb : PSt bx e l n g) : CallsB Tryz.prog 78 0 [.loc 14 e 0 0] bx (OkB entryP Entry.d e n g 160 bx l) (ErB entryP n 160 bx l) :=
  (fnB_calls mixed (entry_d hl hb) rfl (by kernel_rfl) rfl : CallsB _ _ 160 _ _ _ _)
end Go.V.Gr
