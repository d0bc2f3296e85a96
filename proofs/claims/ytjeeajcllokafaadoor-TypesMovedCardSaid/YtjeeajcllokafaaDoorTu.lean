/-
  Types: TypesMoved.
-/
import Derived.Test.YtjeeajcllokafaaDoorTs
namespace Go.V.Ty
open Go.Proofs Go.RowKit Go.V.Lx Go.V.Gr
set_option linter.unusedSimpArgs false
set_option linter.unusedVariables false
set_option maxRecDepth 100000

theorem check_ok' {g : Gram} (h : checkL g = 0) : (resolveL g).2 = 0 ∧ setG g = g := by
  by_cases h0 : (resolveL g).2 = 0
  · exact ⟨h0, (check_iff h0).1.1 h⟩
  · rw [check_no h0] at h; exact (h0 h).elim
theorem append_anyT {bx : Bxs} {lo : Nat} {T : TypeId → TI} {e esz b size d : Nat} {ag ag' : Bool} {z : List D} {x : D} {xs ys : List D} {ts : List Nat} {K2 : D × Bxs → Prop} (hx : OwnV bx ts e esz x xs) (hz : (T e).zero.length = esz)
    (h1 : (xs.length + ys.length) * b ≤ 140737488355328) (h2 : 0 < esz) (h3 : 0 < b) (hlo : ∀ t, t ∈ ts → lo ≤ t)
    (hk : ∀ x' bx', OwnV bx' (d :: ts) e esz x' (xs ++ ys) → (∀ s, s ≠ d → s ∉ ts → bx' s = bx s) → K2 (x', bx')) :
    bindD (appendD lo T ⟨.slice e esz b ag, size, ag', z⟩ (some d) bx x ys) K2 := by
  by_cases hy : ys = []
  · subst hy
    refine append_none hx (hk _ _ ?_ fun _ _ _ => rfl)
    rw [List.append_nil]
    rcases hx with h | ⟨t, e', ht, h⟩
    · exact .inl h
    · exact .inr ⟨t, e', List.mem_cons_of_mem _ ht, h⟩
  · exact append_own hx hy hz h1 h2 h3 hlo fun e' bx' hb hf => hk _ _ (OwnV.mk List.mem_cons_self hb) hf
theorem own_frz {bx : Bxs} {ts : List Nat} {el esz : Nat} {x : D} {xs : List D} (h : OwnV bx ts el esz x xs) (hp : D.pureL xs = true) (ds : List D) : outD (frzL bx ds) x = outD bx x := by
  rcases h with ⟨rfl, rfl⟩ | ⟨t, e, _, rfl, hb⟩
  · rw [outD_nilsl, outD_nilsl]
  · rw [outD_osl, outD_osl, frzL_at]
    split
    · rw [hb, outB_all _ _ _ _ _ _ (by decide) rfl hp]
      exact outB_all _ 2 _ _ _ _ (by decide) rfl hp
    · rfl
theorem own_same {bx b b' : Bxs} {ts : List Nat} {el esz : Nat} {x : D} {xs : List D} (h : OwnV bx ts el esz x xs) (hb : ∀ t ∈ ts, b t = b' t) : outD b x = outD b' x := by
  rcases h with ⟨rfl, rfl⟩ | ⟨t, e, ht, rfl, _⟩
  · rw [outD_nilsl, outD_nilsl]
  · rw [outD_osl, outD_osl, hb t ht]
theorem cut_mem {α : Type} (l : List α) (i : Nat) : ∀ x ∈ l.take i ++ l.drop (i + 1), x ∈ l := fun x hx => by
  rcases List.mem_append.1 hx with h | h
  · exact List.mem_of_mem_take h
  · exact List.mem_of_mem_drop h
theorem cut_len {α : Type} (l : List α) (i : Nat) : (l.take i ++ l.drop (i + 1)).length ≤ l.length := by simp; omega
theorem SmG.less {g h : Gram} (hg : SmG g) (hn : h.name = g.name) (hc : h.cats = g.cats) (hst : h.start = g.start) (he : ∀ x ∈ h.entries, x ∈ g.entries) (hr : ∀ x ∈ h.rules, x ∈ g.rules) (hel : h.entries.length ≤ g.entries.length) (hrl : h.rules.length ≤ g.rules.length) : SmG h :=
  ⟨by rw [hn]; exact hg.name, by rw [hst]; exact hg.start, by rw [hc]; exact hg.clen, Nat.le_trans hel hg.elen, Nat.le_trans hrl hg.rlen, by rw [hc]; exact hg.cats, fun x hx => hg.ents x (he x hx), fun x hx => hg.rules x (hr x hx)⟩
def lessE (g : Gram) (i : Nat) : Gram := { g with entries := g.entries.take i ++ g.entries.drop (i + 1) }
def lessR (g : Gram) (i : Nat) : Gram := { g with rules := g.rules.take i ++ g.rules.drop (i + 1) }
theorem rem_at {n : Int} (h : 0 ≤ n) {m : Nat} (hm : 0 < m) : ∃ k : Nat, n.tmod (m : Int) = k ∧ k < m := by
  rw [Int.tmod_eq_emod_of_nonneg h]
  have h1 := Int.emod_nonneg n (show (m : Int) ≠ 0 by omega)
  have h2 := Int.emod_lt_of_pos n (show (0 : Int) < m by omega)
  exact ⟨(n % (m : Int)).toNat, by omega, by omega⟩
theorem bareG_out2 {bx : Bxs} {n s : Str} {i : Int} {c r a b : D} (hc : outD bx c = some r) (pa : a.pure = true) (pb : b.pure = true) : outL bx [.agg [.str n, c, .str s, .int .i64 i, a, b], .int .i64 0] = some [.agg [.str n, r, .str s, .int .i64 i, a, b], .int .i64 0] := by
  simp only [outD_agg, outL_cons, outL_nil, hc, (outD_pure bx a pa).1, (outD_pure bx b pb).1]
  simp [go_sem]
theorem outE {bx : Bxs} {n s : Str} {i : Int} {c r a b : D} (hc : outD bx c = some r) (pa : a.pure = true) (pb : b.pure = true) : outL bx [.agg [.str n, a, .str s, .int .i64 i, c, b]] = some [.agg [.str n, a, .str s, .int .i64 i, r, b]] := by
  simp only [outD_agg, outL_cons, outL_nil, hc, (outD_pure bx a pa).1, (outD_pure bx b pb).1]
  simp [go_sem]
theorem outR {bx : Bxs} {n s : Str} {i : Int} {c r a b : D} (hc : outD bx c = some r) (pa : a.pure = true) (pb : b.pure = true) : outL bx [.agg [.str n, a, .str s, .int .i64 i, b, c]] = some [.agg [.str n, a, .str s, .int .i64 i, b, r]] := by
  simp only [outD_agg, outL_cons, outL_nil, hc, (outD_pure bx a pa).1, (outD_pure bx b pb).1]
  simp [go_sem]
theorem bareG_out {bx : Bxs} {n s : Str} {i : Int} {c r a b : D} (hc : outD bx c = some r) (pa : a.pure = true) (pb : b.pure = true) : outL bx [.agg [.str n, c, .str s, .int .i64 i, a, b]] = some [.agg [.str n, r, .str s, .int .i64 i, a, b]] := by
  simp only [outD_agg, outL_cons, outL_nil, hc, (outD_pure bx a pa).1, (outD_pure bx b pb).1]
  simp [go_sem]
set_option maxHeartbeats 8000000 in
theorem moved_d (g : Gram) (hg : SmG g) (turn at_ : Int) (ht : 0 ≤ turn ∧ turn ≤ 255) (ha : 0 ≤ at_ ∧ at_ ≤ 255) : fnB Tryd.prog (orac Tryd.prog) [(2000008, []), (2000023, []), (2000029, []), (1000042, []), (1000133, []), (1000160, []), (8, [(12, 10), (12, 5), (7, 5)]), (18, [(4, 3)]), (23, [(13, 11), (13, 6), (8, 6)]), (29, [(13, 11), (13, 6), (8, 6)])] Tryd.f7 0 [g.d, .int .u8 turn, .int .u8 at_] (fun _ => .none) (fun d _ => d = .bool true) (fun _ _ => False) := by
  refine fnB_intro _ [.tmp 6] _ rfl rfl rfl (by kernel_rfl) ?_
  simp (maxSteps := 1000000) (disch := omega) only [go_sem, Gram.d, strs]
  refine call_pure sane_c rfl ?_
  simp (maxSteps := 1000000) (disch := omega) only [go_sem, Bool.not_true, Gram.d, strs]
  refine call_pure (few_c g hg.sz hg.name hg.start) (pg g) ?_
  cases hf : fewG g
  · simp (maxSteps := 1000000) (disch := omega) only [go_sem, hf, Bool.not_false]
  obtain ⟨l1, l2, l3, l4, l5⟩ := few_le hf
  simp (maxSteps := 1000000) (disch := omega) only [go_sem, hf, Bool.not_true, Gram.d, strs]
  refine call_pure (check_c g hg) (pg g) ?_
  by_cases hck : checkL g = 0
  rotate_left
  · simp (maxSteps := 1000000) (disch := omega) only [go_sem, hck, decide_false, Bool.not_false]
  obtain ⟨h0, hset⟩ := check_ok' hck
  obtain ⟨hnd, hty, hcirc⟩ := res_typed h0
  have T := typed_of hty
  have hgd : g.d = .agg [.str g.name, .sl 1 (g.cats.map D.str), .str g.start, .int .i64 g.no, .sl 5 (g.entries.map Entry.d), .sl 5 (g.rules.map Rule.d)] := rfl
  have hn0 : 0 < g.cats.length := by
    obtain ⟨i, _, hi⟩ := num_at T.start
    have := (List.getElem?_eq_some_iff.1 hi).1
    omega
  have m1 : ¬ (g.cats.length : Int) = 0 := by omega
  obtain ⟨k, hk, hkl⟩ : ∃ k : Nat, turn.tmod (g.cats.length : Int) = k ∧ k < g.cats.length := by
    rw [Int.tmod_eq_emod_of_nonneg ht.1]
    have h1 := Int.emod_nonneg turn m1
    have h2 := Int.emod_lt_of_pos turn (show (0 : Int) < g.cats.length by omega)
    exact ⟨(turn % (g.cats.length : Int)).toNat, by omega, by omega⟩
  have hw : IntKind.i64.wrap turn = turn := wrap_i64 (by omega) (by omega)
  simp (maxSteps := 1000000) (disch := omega) only [go_sem, hck, decide_true, decide_false, Bool.not_true, Gram.d, strs, m1, hw, hk]
  refine draw_by (.light 1 (.load 2 3 (.light 3 (.light 4 (.light 6 (.load 7 3 (.light 8 (.light 9 (.both 0 [3] (.both 5 [3] (.both 10 [] (.light 11 (.both 12 [] .fin .stop)) .stop) .stop) .stop))))))))) (by kernel_rfl) ?_
  have hkn : (k : Int) ≤ (g.cats.length : Int) := by omega
  have hk0 : (0 : Int) ≤ (k : Int) := by omega
  have hdr : List.take (g.cats.length - k) (List.drop k (List.map D.str g.cats)) = (g.cats.drop k).map D.str := by rw [← List.map_drop, List.take_of_length_le (by simp)]
  have htk : List.take (k - 0) (List.map D.str g.cats) = (g.cats.take k).map D.str := by rw [Nat.sub_zero, List.map_take]
  simp (maxSteps := 1000000) (disch := omega) only [go_sem, hgd, hkn, hk0, List.length_map, hdr, htk]
  refine append_anyT (ts := [42]) (xs := []) (.inr ⟨42, 1, by simp, rfl, by simp [upd]⟩) (by simp [go_sem]) (by simp; omega) (by omega) (by omega) (by simp) fun x1 b1 h1 hk1 => ?_
  have c3 := (hk1 3 (by omega) (by simp)).trans (by simp [upd]; rfl)
  have c9 := (hk1 9 (by omega) (by simp)).trans (by simp [upd]; rfl)
  simp (maxSteps := 1000000) (disch := omega) only [go_sem, c3, keepD_cons]
  refine append_anyT h1 (by simp [go_sem]) (by simp; omega) (by omega) (by omega) (by simp) fun x2 b2 h2 hk2 => ?_
  have d3 := (hk2 3 (by omega) (by simp)).trans c3
  have d9 := (hk2 9 (by omega) (by simp)).trans c9
  clear hk1 hk2 c3 c9 h1
  rw [List.nil_append, ← List.map_append, show g.cats.drop k ++ g.cats.take k = rot g.cats k from rfl] at h2
  obtain ⟨v1, v2, v3⟩ := h2.facts
  simp (maxSteps := 1000000) (disch := omega) only [go_sem, d3, d9, v1, v2, v3]
  generalize hB : upd b2 9 _ = B
  have f3 : B 3 = b2 3 := by rw [← hB]; exact upd_ne (by omega)
  have f9 : B 9 = ⟨1, 1, 6, 26, [.agg [.str g.name, x2, .str g.start, .int .i64 g.no, .sl 5 (g.entries.map Entry.d), .sl 5 (g.rules.map Rule.d)]]⟩ := by rw [← hB]; exact upd_same _ _ _
  rw [d3] at f3
  replace h2 := h2.of (bx' := B) fun q hq => by rw [← hB]; simp at hq; exact upd_ne (by omega)
  clear hB d3 d9
  obtain ⟨r, ho1, ho2⟩ := h2.out (pureL_strs _)
  have hmd : (moved g k).d = .agg [.str g.name, .sl 1 ((rot g.cats k).map D.str), .str g.start, .int .i64 g.no, .sl 5 (g.entries.map Entry.d), .sl 5 (g.rules.map Rule.d)] := rfl
  have hms : SmG (moved g k) := ⟨hg.name, hg.start, by have := rot_len (l := g.cats) (k := k) (by omega); have := hg.clen; simp only [moved]; omega, hg.elen, hg.rlen, fun s hs => hg.cats s ((rot_mem _ _ _).1 hs), hg.ents, hg.rules⟩
  have q1 := resolve_c (moved g k) hms
  rw [res_moved h0 hkl, hmd] at q1
  refine call_frz (q1.weak1 (x := .agg [.str g.name, r, .str g.start, .int .i64 g.no, .sl 5 (g.entries.map Entry.d), .sl 5 (g.rules.map Rule.d)]) (weak_agg6 (.refl _) ho2 (.refl _) (.refl _) (.refl _) (.refl _))) (bareG_out ho1 rfl rfl) rfl ?_
  have hfz := own_frz h2 (pureL_strs _) [.agg [.str g.name, x2, .str g.start, .int .i64 g.no, .sl 5 (g.entries.map Entry.d), .sl 5 (g.rules.map Rule.d)]]
  rw [ho1] at hfz
  have hnm : ∀ q, q ≠ 52 → q ≠ 47 → q ≠ 42 → frzL B [.agg [.str g.name, x2, .str g.start, .int .i64 g.no, .sl 5 (g.entries.map Entry.d), .sl 5 (g.rules.map Rule.d)]] q = B q := fun q g1 g2 g3 => by
    rw [frzL_at, if_neg]
    simp only [namesL, names, List.append_nil, List.nil_append]
    intro hm
    have := OwnV.names h2 q hm
    simp at this; omega
  generalize frzL B [.agg [.str g.name, x2, .str g.start, .int .i64 g.no, .sl 5 (g.entries.map Entry.d), .sl 5 (g.rules.map Rule.d)]] = B2 at hfz hnm ⊢
  have e3 := (hnm 3 (by omega) (by omega) (by omega)).trans f3
  have e9 := (hnm 9 (by omega) (by omega) (by omega)).trans f9
  have hsd : (setG (moved g k)).d = .agg [.str g.name, .sl 1 ((rot g.cats k).map D.str), .str g.start, .int .i64 (num (rot g.cats k) g.start), .sl 5 ((setG (moved g k)).entries.map Entry.d), .sl 5 ((setG (moved g k)).rules.map Rule.d)] := rfl
  have hle : (setG (moved g k)).entries.length = g.entries.length := by simp [setG, moved]
  have hlr : (setG (moved g k)).rules.length = g.rules.length := by simp [setG, moved]
  have hge : ∀ (j : Nat) x, g.entries[j]? = some x → (setG (moved g k)).entries[j]? = some (setE (rot g.cats k) x) := fun j x h => by simp [setG, moved, h]
  obtain ⟨n1, n2, n3⟩ := num_rot hnd hkl T.start
  have hno : num g.cats g.start = g.no := congrArg Gram.no hset
  rw [hno] at n1 n2 n3
  have w1 : IntKind.i64.wrap (g.no - k) = g.no - k := wrap_i64 (by omega) (by omega)
  have w2 : IntKind.i64.wrap (g.no - k + g.cats.length) = g.no - k + g.cats.length := wrap_i64 (by omega) (by omega)
  simp (maxSteps := 1000000) (disch := omega) only [go_sem, resD, hsd, decide_true, Bool.not_true, e3, hle, hlr, n1, w1, w2, m1, decide_false]
  generalize hB3 : upd (upd B2 10 _) 10 _ = B3
  have g3 : B3 3 = B2 3 := by rw [← hB3]; simp [upd]
  have g9 : B3 9 = B2 9 := by rw [← hB3]; simp [upd]
  have g10 : B3 10 = ⟨(B2 10).ep + 1, 1, 6, 26, [(setG (moved g k)).d]⟩ := by rw [← hB3, hsd, n1]; simp [upd]
  have gfz : ∀ t ∈ [52, 47, 42], B3 t = B2 t := fun t ht => by rw [← hB3]; simp at ht; rw [upd_ne (by omega), upd_ne (by omega)]
  clear hB3
  generalize hE10 : (B2 10).ep + 1 = E10 at g10
  refine cD_for g.entries.length (fun j σ bx => σ 1 = .int .u8 turn ∧ σ 2 = .int .u8 at_ ∧ σ 3 = .loc 3 1 0 0 ∧ σ 7 = .int .i64 g.cats.length ∧ σ 8 = .int .i64 k ∧ σ 9 = .loc 9 1 0 0 ∧ σ 10 = .loc 10 E10 0 0 ∧ σ 93 = .sl 5 (g.entries.map Entry.d) ∧ σ 94 = .int .i64 g.entries.length ∧ σ 95 = .int .i64 j ∧ ∀ q, q ≠ 13 → bx q = B3 q) ?_ ?_ ?_
  · simp (maxSteps := 1000000) (disch := omega) only [go_sem, hE10]
    exact fun _ _ => trivial
  · rintro j σ bx hj ⟨q1, q2, q3, q7, q8, q9, q10, q93, q94, q95, hkb⟩
    obtain ⟨x, hx⟩ := get_lt hj
    have hlt : (j : Int) < (g.entries.length : Int) := by omega
    have hj1 : IntKind.i64.wrap ((j : Int) + 1) = ((j + 1 : Nat) : Int) := wrap_succ (by omega)
    have b10 := (hkb 10 (by omega)).trans g10
    obtain ⟨y1, y2, y3⟩ := num_rot hnd hkl (T.ent x (List.mem_of_getElem? hx))
    rw [← set_at hset hx] at y1 y2 y3
    have w1 : IntKind.i64.wrap (x.no - k) = x.no - k := wrap_i64 (by omega) (by omega)
    have w2 : IntKind.i64.wrap (x.no - k + g.cats.length) = x.no - k + g.cats.length := wrap_i64 (by omega) (by omega)
    have hxd : x.d = .agg [.str x.text, .str x.cat, .int .i64 x.no, .sl 1 (x.gives.map D.str), .int .i64 x.cost] := rfl
    have hsx := hge j x hx
    have hsxd : (setE (rot g.cats k) x).d = .agg [.str x.text, .str x.cat, .int .i64 (num (rot g.cats k) x.cat), .sl 1 (x.gives.map D.str), .int .i64 x.cost] := rfl
    simp (maxSteps := 1000000) (disch := omega) only [go_sem, q1, q2, q3, q7, q8, q9, q10, q93, q94, q95, hlt, hj1, hx, hxd, b10, hsd, hsx, hsxd, hle, w1, w2, y1, m1, decide_true, Bool.not_true]
    intro q hq
    rw [if_neg hq, if_neg hq]
    exact hkb q hq
  · rintro σ bx ⟨q1, q2, q3, q7, q8, q9, q10, q93, q94, q95, hkb⟩
    have hlt : ¬ (g.entries.length : Int) < (g.entries.length : Int) := by omega
    have b10 := (hkb 10 (by omega)).trans g10
    have b9 := (hkb 9 (by omega)).trans (g9.trans e9)
    have b3 := (hkb 3 (by omega)).trans (g3.trans e3)
    simp (maxSteps := 1000000) (disch := omega) only [go_sem, q1, q2, q3, q7, q8, q9, q10, q93, q94, q95, hlt, b10, hsd]
    have hsm : SmG (setG (moved g k)) := sm_setG hms
    refine call_pure (bare_c (setG (moved g k)) 0 (by rw [hle]; omega) (by rw [hlr]; omega) (fun x hx => ?_)) (pg3 _ _) ?_
    · obtain ⟨z, hz, rfl⟩ := List.mem_map.1 hx
      have := (l5 z hz).1
      simp only [setR, List.length_map]; omega
    simp (maxSteps := 1000000) (disch := omega) only [go_sem, q9, b9]
    have hcx : outD bx x2 = some r := (own_same h2 fun t ht => (hkb t (by simp at ht; omega)).trans (gfz t ht)).trans hfz
    have hb2 := bare_c (moved g k) 0 (by simp only [moved]; omega) (by simp only [moved]; omega) (fun x hx => by have := (l5 x hx).1; omega)
    rw [hmd] at hb2
    refine call_frz (hb2.weak2 (x := .agg [.str g.name, r, .str g.start, .int .i64 g.no, .sl 5 (g.entries.map Entry.d), .sl 5 (g.rules.map Rule.d)]) (weak_agg6 (.refl _) ho2 (.refl _) (.refl _) (.refl _) (.refl _)) (.refl _)) (bareG_out2 hcx rfl rfl) rfl ?_
    have hnm2 : frzL bx [.agg [.str g.name, x2, .str g.start, .int .i64 g.no, .sl 5 (g.entries.map Entry.d), .sl 5 (g.rules.map Rule.d)], .int .i64 0] 3 = bx 3 := by
      rw [frzL_at, if_neg]
      simp only [namesL, names, List.append_nil, List.nil_append]
      intro hm
      have := OwnV.names h2 3 hm
      simp at this
    generalize frzL bx _ = B4 at hnm2 ⊢
    rw [b3] at hnm2
    have hs := sameG_c (bareG (setG (moved g k)) 0) (bareG (moved g k) 0) (sm_bare hsm 0).sz (sm_bare hms 0).sz
    rw [bare_set, decide_eq_true rfl] at hs
    rw [bare_set]
    simp (maxSteps := 1000000) (disch := omega) only [go_sem]
    refine call_pure hs (pg2 _ _) ?_
    simp (maxSteps := 1000000) (disch := omega) only [go_sem, Bool.not_true, q3, hnm2]
    clear hkb b10 b9 b3 hb2 hs hcx
    have hw : IntKind.i64.wrap at_ = at_ := wrap_i64 (by omega) (by omega)
    refine condD_dec (fun he => ?_) (fun he => ?_)
    rotate_left
    · simp (maxSteps := 1000000) (disch := omega) only [go_sem, he, decide_false, q3, hnm2]
      refine condD_dec (fun hr => ?_) (fun hr => ?_)
      rotate_left
      · simp (maxSteps := 1000000) (disch := omega) only [go_sem, hr, decide_false]
      obtain ⟨i, hi, hil⟩ := rem_at ha.1 (show 0 < g.rules.length by omega)
      have m3 : ¬ (g.rules.length : Int) = 0 := by omega
      have hi1 : IntKind.i64.wrap ((i : Int) + 1) = ((i + 1 : Nat) : Int) := wrap_succ (by omega)
      have i1 : (0 : Int) ≤ (i : Int) := by omega
      have i2 : (i : Int) ≤ (g.rules.length : Int) := by omega
      have i3 : (0 : Int) ≤ ((i + 1 : Nat) : Int) := by omega
      have i4 : ((i + 1 : Nat) : Int) ≤ (g.rules.length : Int) := by omega
      have ht1 : List.take (i - 0) (g.rules.map Rule.d) = (g.rules.take i).map Rule.d := by rw [Nat.sub_zero, List.map_take]
      have ht2 : List.take (g.rules.length - (i + 1)) (List.drop (i + 1) (g.rules.map Rule.d)) = (g.rules.drop (i + 1)).map Rule.d := by rw [← List.map_drop, List.take_of_length_le (by simp)]
      simp (maxSteps := 1000000) (disch := omega) only [go_sem, q2, q3, hw, hi, hnm2, m3, hr, decide_true, decide_false]
      refine draw_by (.light 1 (.load 2 3 (.light 3 (.light 4 (.light 6 (.load 7 3 (.light 8 (.light 9 (.light 10 (.both 0 [3] (.both 5 [3] (.both 11 [] (.light 12 (.both 13 [] .fin .stop)) .stop) .stop) .stop)))))))))) (by kernel_rfl) ?_
      simp (maxSteps := 1000000) (disch := omega) only [go_sem, q2, q3, hnm2, hi1, i1, i2, i3, i4, ht1, ht2, List.length_map]
      refine append_anyT (ts := [160]) (xs := []) (.inr ⟨160, (B4 160).ep + 1, by simp, rfl, by simp [upd]⟩) (by simp [go_sem]) (by simp; omega) (by omega) (by omega) (by simp) fun x5 b5 h5 hk5 => ?_
      have c3 := (hk5 3 (by omega) (by simp)).trans (show _ = B4 3 by simp [upd])
      rw [hnm2] at c3
      have c17 := (hk5 17 (by omega) (by simp)).trans (show _ = Bx.mk ((B4 17).ep + 1) 1 6 26 [.agg [.str g.name, .sl 1 (g.cats.map D.str), .str g.start, .int .i64 g.no, .sl 5 (g.entries.map Entry.d), .sl 5 (g.rules.map Rule.d)]] by simp [upd])
      simp (maxSteps := 1000000) (disch := omega) only [go_sem, c3, keepD_cons, hnm2]
      refine append_anyT h5 (by simp [go_sem]) (by simp; omega) (by omega) (by omega) (by simp) fun x6 b6 h6 hk6 => ?_
      have d3 := (hk6 3 (by omega) (by simp)).trans c3
      have d17 := (hk6 17 (by omega) (by simp)).trans c17
      rw [List.nil_append, ← List.map_append] at h6
      obtain ⟨v1, v2, v3⟩ := h6.facts
      generalize hE17 : (B4 17).ep + 1 = E17 at d17 ⊢
      simp (maxSteps := 1000000) (disch := omega) only [go_sem, d3, d17, v1, v2, v3, q2, q3, hE17]
      generalize hB7 : upd b6 17 _ = B7
      obtain ⟨rR, hR1, hR2⟩ := (h6.of (bx' := B7) fun q hq => by rw [← hB7]; simp at hq; exact upd_ne (by omega)).out (pure_rls _)
      have hck3 := check_c (lessR g i) (SmG.less (h := lessR g i) hg rfl rfl rfl (fun _ h => h) (cut_mem _ _) (Nat.le_refl _) (cut_len _ _))
      rw [less_ok (h := lessR g i) h0 hset rfl rfl rfl rfl (fun _ h => h) (cut_mem _ _) (Nat.le_refl _) (cut_len _ _)] at hck3
      refine call_read (hck3.weak1 (x := .agg [.str g.name, .sl 1 (g.cats.map D.str), .str g.start, .int .i64 g.no, .sl 5 (g.entries.map Entry.d), rR]) (weak_agg6 (.refl _) (.refl _) (.refl _) (.refl _) (.refl _) hR2)) (outR hR1 rfl rfl) rfl ?_
      simp (maxSteps := 1000000) (disch := omega) only [go_sem, decide_true]
    obtain ⟨i, hi, hil⟩ := rem_at ha.1 (show 0 < g.entries.length by omega)
    have m3 : ¬ (g.entries.length : Int) = 0 := by omega
    have hi1 : IntKind.i64.wrap ((i : Int) + 1) = ((i + 1 : Nat) : Int) := wrap_succ (by omega)
    have i1 : (0 : Int) ≤ (i : Int) := by omega
    have i2 : (i : Int) ≤ (g.entries.length : Int) := by omega
    have i3 : (0 : Int) ≤ ((i + 1 : Nat) : Int) := by omega
    have i4 : ((i + 1 : Nat) : Int) ≤ (g.entries.length : Int) := by omega
    have ht1 : List.take (i - 0) (g.entries.map Entry.d) = (g.entries.take i).map Entry.d := by rw [Nat.sub_zero, List.map_take]
    have ht2 : List.take (g.entries.length - (i + 1)) (List.drop (i + 1) (g.entries.map Entry.d)) = (g.entries.drop (i + 1)).map Entry.d := by rw [← List.map_drop, List.take_of_length_le (by simp)]
    simp (maxSteps := 1000000) (disch := omega) only [go_sem, q2, q3, hw, hi, hnm2, m3, decide_false]
    refine draw_by (.light 1 (.load 2 3 (.light 3 (.light 4 (.light 6 (.load 7 3 (.light 8 (.light 9 (.light 10 (.both 0 [3] (.both 5 [3] (.both 11 [] (.light 12 (.both 13 [] .fin .stop)) .stop) .stop) .stop)))))))))) (by kernel_rfl) ?_
    simp (maxSteps := 1000000) (disch := omega) only [go_sem, q2, q3, hnm2, hi1, i1, i2, i3, i4, ht1, ht2, List.length_map]
    refine append_anyT (ts := [133]) (xs := []) (.inr ⟨133, (B4 133).ep + 1, by simp, rfl, by simp [upd]⟩) (by simp [go_sem]) (by simp; omega) (by omega) (by omega) (by simp) fun x3 b3 h3 hk3 => ?_
    have c3 := (hk3 3 (by omega) (by simp)).trans (show _ = B4 3 by simp [upd])
    rw [hnm2] at c3
    have c15 := (hk3 15 (by omega) (by simp)).trans (show _ = Bx.mk ((B4 15).ep + 1) 1 6 26 [.agg [.str g.name, .sl 1 (g.cats.map D.str), .str g.start, .int .i64 g.no, .sl 5 (g.entries.map Entry.d), .sl 5 (g.rules.map Rule.d)]] by simp [upd])
    simp (maxSteps := 1000000) (disch := omega) only [go_sem, c3, keepD_cons, hnm2]
    refine append_anyT h3 (by simp [go_sem]) (by simp; omega) (by omega) (by omega) (by simp) fun x4 b4 h4 hk4 => ?_
    have d3 := (hk4 3 (by omega) (by simp)).trans c3
    have d15 := (hk4 15 (by omega) (by simp)).trans c15
    rw [List.nil_append, ← List.map_append] at h4
    obtain ⟨v1, v2, v3⟩ := h4.facts
    generalize hE15 : (B4 15).ep + 1 = E15 at d15 ⊢
    simp (maxSteps := 1000000) (disch := omega) only [go_sem, d3, d15, v1, v2, v3, q2, q3, hE15]
    generalize hB5 : upd b4 15 _ = B5
    have f3 : B5 3 = b4 3 := by rw [← hB5]; exact upd_ne (by omega)
    rw [d3] at f3
    obtain ⟨rE, hE1, hE2⟩ := (h4.of (bx' := B5) fun q hq => by rw [← hB5]; simp at hq; exact upd_ne (by omega)).out (pure_ent _)
    have hck2 := check_c (lessE g i) (SmG.less (h := lessE g i) hg rfl rfl rfl (cut_mem _ _) (fun _ h => h) (cut_len _ _) (Nat.le_refl _))
    rw [less_ok (h := lessE g i) h0 hset rfl rfl rfl rfl (cut_mem _ _) (fun _ h => h) (cut_len _ _) (Nat.le_refl _)] at hck2
    refine call_read (hck2.weak1 (x := .agg [.str g.name, .sl 1 (g.cats.map D.str), .str g.start, .int .i64 g.no, rE, .sl 5 (g.rules.map Rule.d)]) (weak_agg6 (.refl _) (.refl _) (.refl _) (.refl _) hE2 (.refl _))) (outE hE1 rfl rfl) rfl ?_
    replace hnm2 := f3
    simp (maxSteps := 1000000) (disch := omega) only [go_sem, decide_true, Bool.not_true, q3, hnm2]
    clear hi hil m3 hi1 i1 i2 i3 i4 ht1 ht2
    refine condD_dec (fun hr => ?_) (fun hr => ?_)
    rotate_left
    · simp (maxSteps := 1000000) (disch := omega) only [go_sem, hr, decide_false]
    obtain ⟨i, hi, hil⟩ := rem_at ha.1 (show 0 < g.rules.length by omega)
    have m3 : ¬ (g.rules.length : Int) = 0 := by omega
    have hi1 : IntKind.i64.wrap ((i : Int) + 1) = ((i + 1 : Nat) : Int) := wrap_succ (by omega)
    have i1 : (0 : Int) ≤ (i : Int) := by omega
    have i2 : (i : Int) ≤ (g.rules.length : Int) := by omega
    have i3 : (0 : Int) ≤ ((i + 1 : Nat) : Int) := by omega
    have i4 : ((i + 1 : Nat) : Int) ≤ (g.rules.length : Int) := by omega
    have ht1 : List.take (i - 0) (g.rules.map Rule.d) = (g.rules.take i).map Rule.d := by rw [Nat.sub_zero, List.map_take]
    have ht2 : List.take (g.rules.length - (i + 1)) (List.drop (i + 1) (g.rules.map Rule.d)) = (g.rules.drop (i + 1)).map Rule.d := by rw [← List.map_drop, List.take_of_length_le (by simp)]
    simp (maxSteps := 1000000) (disch := omega) only [go_sem, q2, q3, hw, hi, hnm2, m3, hr, decide_true, decide_false]
    refine draw_by (.light 1 (.load 2 3 (.light 3 (.light 4 (.light 6 (.load 7 3 (.light 8 (.light 9 (.light 10 (.both 0 [3] (.both 5 [3] (.both 11 [] (.light 12 (.both 13 [] .fin .stop)) .stop) .stop) .stop)))))))))) (by kernel_rfl) ?_
    simp (maxSteps := 1000000) (disch := omega) only [go_sem, q2, q3, hnm2, hi1, i1, i2, i3, i4, ht1, ht2, List.length_map]
    refine append_anyT (ts := [160]) (xs := []) (.inr ⟨160, (B5 160).ep + 1, by simp, rfl, by simp [upd]⟩) (by simp [go_sem]) (by simp; omega) (by omega) (by omega) (by simp) fun x5 b5 h5 hk5 => ?_
    have c3 := (hk5 3 (by omega) (by simp)).trans (show _ = B5 3 by simp [upd])
    rw [hnm2] at c3
    have c17 := (hk5 17 (by omega) (by simp)).trans (show _ = Bx.mk ((B5 17).ep + 1) 1 6 26 [.agg [.str g.name, .sl 1 (g.cats.map D.str), .str g.start, .int .i64 g.no, .sl 5 (g.entries.map Entry.d), .sl 5 (g.rules.map Rule.d)]] by simp [upd])
    simp (maxSteps := 1000000) (disch := omega) only [go_sem, c3, keepD_cons, hnm2]
    refine append_anyT h5 (by simp [go_sem]) (by simp; omega) (by omega) (by omega) (by simp) fun x6 b6 h6 hk6 => ?_
    have d3 := (hk6 3 (by omega) (by simp)).trans c3
    have d17 := (hk6 17 (by omega) (by simp)).trans c17
    rw [List.nil_append, ← List.map_append] at h6
    obtain ⟨v1, v2, v3⟩ := h6.facts
    generalize hE17 : (B5 17).ep + 1 = E17 at d17 ⊢
    simp (maxSteps := 1000000) (disch := omega) only [go_sem, d3, d17, v1, v2, v3, q2, q3, hE17]
    generalize hB7 : upd b6 17 _ = B7
    obtain ⟨rR, hR1, hR2⟩ := (h6.of (bx' := B7) fun q hq => by rw [← hB7]; simp at hq; exact upd_ne (by omega)).out (pure_rls _)
    have hck3 := check_c (lessR g i) (SmG.less (h := lessR g i) hg rfl rfl rfl (fun _ h => h) (cut_mem _ _) (Nat.le_refl _) (cut_len _ _))
    rw [less_ok (h := lessR g i) h0 hset rfl rfl rfl rfl (fun _ h => h) (cut_mem _ _) (Nat.le_refl _) (cut_len _ _)] at hck3
    refine call_read (hck3.weak1 (x := .agg [.str g.name, .sl 1 (g.cats.map D.str), .str g.start, .int .i64 g.no, .sl 5 (g.entries.map Entry.d), rR]) (weak_agg6 (.refl _) (.refl _) (.refl _) (.refl _) (.refl _) hR2)) (outR hR1 rfl rfl) rfl ?_
    simp (maxSteps := 1000000) (disch := omega) only [go_sem, decide_true]
theorem moved_all (xs : List D) (h : AllHave [shGram, .int .u8, .int .u8] xs) : CallsTo Tryd.prog 7 xs (.bool true) := by
  obtain ⟨a, _, rfl, h1, h⟩ := args_cons h
  obtain ⟨b, _, rfl, h2, h⟩ := args_cons h
  obtain ⟨c, _, rfl, h3, h⟩ := args_cons h
  obtain rfl := args_nil h
  obtain ⟨g, rfl, hg⟩ := has_gram h1
  obtain ⟨m, rfl, hm⟩ := has_u8 h2
  obtain ⟨n, rfl, hn⟩ := has_u8 h3
  exact (fnB_calls mixed (moved_d g hg m n hm hn) rfl (by kernel_rfl) rfl).to (fun _ _ h => h) (fun d' bx' h => ⟨.bool true, by rw [h]; rfl, .refl _⟩)
end Go.V.Ty
