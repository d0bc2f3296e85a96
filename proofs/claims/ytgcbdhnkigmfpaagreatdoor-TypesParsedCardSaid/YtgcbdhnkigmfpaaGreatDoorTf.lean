/-
  Types: circular.
-/
import Derived.Test.YtgcbdhnkigmfpaaGreatDoorTe
namespace Go.V.Ty
open Go.Proofs Go.RowKit Go.V.Lx Go.V.Gr
set_option linter.unusedSimpArgs false
set_option linter.unusedVariables false
set_option maxRecDepth 100000

theorem leads_p {e3 e6 e8 t3 t6 t8 s3 : Nat} {n : Int} {c : Str} {m : PM} {bx0 : Bxs} (h6 : bx0 6 = ⟨e6, 1, 1, t6, [.str c]⟩) (h3 : bx0 3 = ⟨e3, 1, 1, t3, [.omap 8 e8]⟩) (h8 : bx0 8 = ⟨e8, 3, s3, t8, .int .i64 n :: encM m⟩) (hm : ∀ e ∈ m, e.2.1 = .bool true) :
    PredB 63 [.loc 6 e6 0 0, .loc 3 e3 0 0] 9 100 bx0 Rule.d SmR (leadsB (m.map (·.1)) c) := by
  intro bx x hb hx
  refine fnB_calls (fn := Tryz.f63) (tab := []) (base := 100) mixed ?_ rfl (by kernel_rfl) rfl
  refine fnB_intro _ [.tmp 4] 32 rfl rfl rfl (by kernel_rfl) ?_
  have g6 := (hb 6 (by omega)).trans h6
  have g3 := (hb 3 (by omega)).trans h3
  have g8 := (hb 8 (by omega)).trans h8
  have hpl := hx.plen
  have fin : ∀ (b : Bool) (B : Bxs), b = leadsB (m.map (·.1)) c x → (∀ s, s < 100 → B s = bx s) → D.bool b = .bool (leadsB (m.map (·.1)) c x) ∧ ∀ s, s < 100 → B s = bx s := fun b B h h' => ⟨by rw [h], h'⟩
  simp (maxSteps := 1000000) (disch := omega) only [go_sem, g6, g3, g8, Rule.d]
  refine condD_dec (fun c1 => ?_) (fun c1 => ?_)
  rotate_left
  · simp (maxSteps := 1000000) (disch := omega) only [go_sem, c1, decide_false]
    refine fin false _ ?_ (fun s hs => by simp (disch := omega) only [upd_ne, if_neg])
    unfold leadsB
    split
    · rename_i a b he
      have : a = x.cat := by
        unfold edge at he
        split at he
        · split at he <;> simp at he; exact he.1.symm
        · cases he
      simp [this, c1]
    · rfl
  · simp (maxSteps := 1000000) (disch := omega) only [go_sem, c1, decide_true, g6, g3, g8]
    refine condD_dec (fun c2 => ?_) (fun c2 => ?_)
    rotate_left
    · simp (maxSteps := 1000000) (disch := omega) only [go_sem, c2, decide_false]
      refine fin false _ ?_ (fun s hs => by simp (disch := omega) only [upd_ne, if_neg])
      unfold leadsB edge
      split
      · rename_i a b he
        split at he
        · rename_i q hq; rw [hq] at c2; exact (c2 rfl).elim
        · cases he
      · rfl
    · obtain ⟨q, hq⟩ := List.length_eq_one_iff.1 (show x.parts.length = 1 by omega)
      have hx0 : x.parts[0]? = some q := by rw [hq]; rfl
      simp (maxSteps := 1000000) (disch := omega) only [go_sem, c1, c2, decide_true, g6, g3, g8, hx0, Part.d, Int.reduceLT]
      refine condD_dec (fun c3 => ?_) (fun c3 => ?_)
      rotate_left
      · simp (maxSteps := 1000000) (disch := omega) only [go_sem, c2, c3, decide_true, decide_false, hx0, Part.d]
        refine fin false _ ?_ (fun s hs => by simp (disch := omega) only [upd_ne, if_neg])
        simp [leadsB, edge, hq, c3]
      · have hl : leadsB (m.map (·.1)) c x = (m.map (·.1)).contains q.cat := by
          have he : edge x = some (x.cat, q.cat) := by unfold edge; rw [hq]; exact if_pos c3
          simp [leadsB, he, c1]
        rcases findM_or q.cat m 0 with ⟨f1, f2⟩ | ⟨j, e, f1, f2, f3⟩
        · simp (maxSteps := 1000000) (disch := omega) only [go_sem, c1, c2, c3, decide_true, g6, g3, g8, f1, hx0, Part.d]
          refine fin false _ ?_ (fun s hs => by simp (disch := omega) only [upd_ne, if_neg])
          rw [hl]; symm; rw [Bool.eq_false_iff, Ne, List.contains_iff_mem, List.mem_map]
          rintro ⟨e, he, h⟩; exact f2 e he h
        · have hv := hm e (List.mem_of_getElem? f2)
          simp (maxSteps := 1000000) (disch := omega) only [go_sem, c1, c2, c3, decide_true, g6, g3, g8, f1, hv, hx0, Part.d]
          refine fin true _ ?_ (fun s hs => by simp (disch := omega) only [upd_ne, if_neg])
          rw [hl]; symm; rw [List.contains_iff_mem, List.mem_map]
          exact ⟨e, List.mem_of_getElem? f2, f3⟩
/-- what is left, as the map holds it -/
def mkL (L : List (Str × Nat)) : PM := L.map fun p => (p.1, .bool true, (p.2 : Int))
theorem mkL_keys (L : List (Str × Nat)) : (mkL L).map (·.1) = L.map (·.1) := by simp [mkL]
theorem mkL_erase : ∀ (L : List (Str × Nat)) (j : Nat), (mkL L).eraseIdx j = mkL (L.eraseIdx j)
  | [], j => by simp [mkL]
  | p :: L, 0 => by simp [mkL]
  | p :: L, j + 1 => by simpa [mkL] using mkL_erase L j
theorem mkL_true (L : List (Str × Nat)) : ∀ e ∈ mkL L, e.2.1 = .bool true := by
  intro e he
  obtain ⟨p, _, rfl⟩ := List.mem_map.1 he
  rfl
theorem zip_take {l : List Str} {j : Nat} {c : Str} (h : l[j]? = some c) : l.zipIdx.take (j + 1) = l.zipIdx.take j ++ [(c, j)] := by
  rw [List.take_add_one, List.getElem?_zipIdx, h]; simp
theorem zip_new {l : List Str} (hn : l.Nodup) {j : Nat} {c : Str} (h : l[j]? = some c) : ∀ e ∈ mkL (l.zipIdx.take j), e.1 ≠ c := by
  intro e he hc
  obtain ⟨p, hp, rfl⟩ := List.mem_map.1 he
  obtain ⟨i, hi, hpi⟩ := List.mem_iff_getElem.1 hp
  have hi2 : i < j := by simp at hi; omega
  rw [List.getElem_take, List.getElem_zipIdx] at hpi
  have hl : j < l.length := (List.getElem?_eq_some_iff.1 h).1
  have h1 : l[i]'(by omega) = l[j] := by
    have := (List.getElem?_eq_some_iff.1 h).2
    rw [this, ← hc, ← hpi]
  have := (List.getElem_inj hn).1 h1
  omega
/-- what is left after some rounds -/
structure Left (g : Gram) (k : Nat) (L : List (Str × Nat)) : Prop where
  of : List.Sublist L g.cats.zipIdx
  has : ∀ F, Full g.rules F → (∀ x ∈ F, x ∈ g.cats) → ∀ x ∈ F, x ∈ L.map (·.1)
  how : Full g.rules (L.map (·.1)) ∨ L.length + k ≤ g.cats.length
theorem Left.all (g : Gram) : Left g 0 g.cats.zipIdx := ⟨List.Sublist.refl _, fun F _ h x hx => by simpa using h x hx, .inr (by simp)⟩
theorem Left.sub {g : Gram} {k : Nat} {L : List (Str × Nat)} (h : Left g k L) : ∀ x ∈ L.map (·.1), x ∈ g.cats := by
  intro x hx
  have := h.of.map (·.1)
  rw [List.zipIdx_map_fst] at this
  exact this.subset hx
theorem Left.fin {g : Gram} {L : List (Str × Nat)} (h : Left g g.cats.length L) : Full g.rules (L.map (·.1)) := by
  rcases h.how with h | h
  · exact h
  · have : L = [] := List.eq_nil_of_length_eq_zero (by omega)
    rw [this]; exact full_nil _
/-- in a round that began with L0 -/
structure Meets (g : Gram) (L0 L : List (Str × Nat)) (seen : List D) : Prop where
  of : List.Sublist L L0
  has : ∀ F, Full g.rules F → (∀ x ∈ F, x ∈ g.cats) → ∀ x ∈ F, x ∈ L.map (·.1)
  how : (L = L0 ∧ ∀ p ∈ L0, (p.2 : Int) ∈ seen.map intOf → g.rules.any (leadsB (L0.map (·.1)) p.1) = true) ∨ L.length < L0.length
  full : Full g.rules (L0.map (·.1)) → L = L0
theorem Meets.start {g : Gram} {k : Nat} {L0 : List (Str × Nat)} (h : Left g k L0) : Meets g L0 L0 [] := ⟨List.Sublist.refl _, h.has, .inl ⟨rfl, by simp⟩, fun _ => rfl⟩
def one (p : Str × Nat) : D := .tup [.str p.1, .bool true, .int .i64 (p.2 : Int)]
theorem enc_one (L : List (Str × Nat)) : encM (mkL L) = L.map one := by simp [encM, mkL, one]
theorem left_mem {L : List (Str × Nat)} {seen : List D} {d : D} : d ∈ leftM seen (encM (mkL L)) ↔ ∃ p ∈ L, d = one p ∧ (p.2 : Int) ∉ seen.map intOf := by
  simp only [leftM, List.mem_filter, enc_one, List.mem_map]
  constructor
  · rintro ⟨⟨p, hp, rfl⟩, h⟩
    refine ⟨p, hp, rfl, fun hm => ?_⟩
    have : (seen.map intOf).contains (bornOf (one p)) = true := by rw [List.contains_iff_mem]; exact List.mem_map.2 hm
    rw [this] at h; cases h
  · rintro ⟨p, hp, rfl, h⟩
    refine ⟨⟨p, hp, rfl⟩, ?_⟩
    have : (seen.map intOf).contains (bornOf (one p)) = false := by
      rw [Bool.eq_false_iff, Ne, List.contains_iff_mem]; exact fun hm => h (List.mem_map.1 hm)
    rw [this]; rfl
theorem find_stamp {p : Str × Nat} : ∀ (L : List (Str × Nat)), (L.map (·.2)).Nodup → p ∈ L → (L.map one).find? (fun e => bornOf e == (p.2 : Int)) = some (one p)
  | [], _, h => by simp at h
  | q :: L, hn, h => by
    simp only [List.map_cons, List.nodup_cons] at hn
    rcases List.mem_cons.1 h with rfl | h
    · simp [one, bornOf]
    · have hne : q.2 ≠ p.2 := fun e => hn.1 (List.mem_map.2 ⟨p, h, e.symm⟩)
      have hb : (bornOf (one q) == (p.2 : Int)) = false := by simp [one, bornOf]; omega
      rw [List.map_cons, List.find?_cons, hb]
      exact find_stamp L hn.2 h
theorem entry_at {L : List (Str × Nat)} {p : Str × Nat} (seen : List D) (hn : (L.map (·.2)).Nodup) (h : p ∈ L) : entryO1 (seen ++ [.int .i64 (p.2 : Int)]) (encM (mkL L)) = some (.tup [.str p.1, .bool true]) := by
  simp only [entryO1, List.getLast?_concat, intOf, enc_one, find_stamp L hn h, one]
theorem left_lt {L L' : List (Str × Nat)} {seen : List D} {p : Str × Nat} (hs : List.Sublist L' L) (h : p ∈ L) (hp : (p.2 : Int) ∉ seen.map intOf) : (leftM (seen ++ [.int .i64 (p.2 : Int)]) (encM (mkL L'))).length < (leftM seen (encM (mkL L))).length := by
  have e : ∀ es : List D, leftM (seen ++ [.int .i64 (p.2 : Int)]) es = (leftM seen es).filter fun e => !(bornOf e == (p.2 : Int)) := by
    intro es
    simp only [leftM, List.filter_filter]
    refine List.filter_congr fun x _ => ?_
    simp [intOf, Bool.not_or]
    by_cases h1 : bornOf x = p.2 <;> simp [h1]
  have hsub : List.Sublist (leftM (seen ++ [.int .i64 (p.2 : Int)]) (encM (mkL L'))) (leftM seen (encM (mkL L))) := by
    rw [e]
    refine List.filter_sublist.trans ?_
    rw [enc_one, enc_one]
    exact (hs.map one).filter _
  have hle := hsub.length_le
  by_cases hlt : (leftM (seen ++ [.int .i64 (p.2 : Int)]) (encM (mkL L'))).length < (leftM seen (encM (mkL L))).length
  · exact hlt
  · have heq := hsub.eq_of_length_le (by omega)
    have hm : one p ∈ leftM seen (encM (mkL L)) := left_mem.2 ⟨p, h, rfl, hp⟩
    rw [← heq] at hm
    obtain ⟨q, hq, hq1, hq2⟩ := left_mem.1 hm
    have : p.2 = q.2 := by injection hq1 with hq1; injection hq1 with _ hq1; injection hq1 with _ hq1; injection hq1 with hq1 _; injection hq1; omega
    exact (hq2 (by rw [← this]; simp [intOf])).elim
theorem zip_stamps {l : List Str} {L : List (Str × Nat)} (h : List.Sublist L l.zipIdx) : (L.map (·.2)).Nodup ∧ ∀ p ∈ L, p.2 < l.length := by
  have h2 := h.map (·.2)
  rw [List.zipIdx_map_snd] at h2
  refine ⟨h2.nodup List.nodup_range', fun p hp => ?_⟩
  have := h2.subset (List.mem_map_of_mem hp)
  simp at this; omega
theorem Meets.round {g : Gram} {k : Nat} {L0 L : List (Str × Nat)} {seen : List D} (h0 : Left g k L0) (h : Meets g L0 L seen) (hl : ∀ e ∈ leftM seen (encM (mkL L)), (g.cats.length : Int) ≤ bornOf e) : Left g (k + 1) L := by
  have hall : ∀ p ∈ L, (p.2 : Int) ∈ seen.map intOf := fun p hp => Classical.byContradiction fun hn => by
    have h1 := hl _ (left_mem.2 ⟨p, hp, rfl, hn⟩)
    have h2 := (zip_stamps (h.of.trans h0.of)).2 p hp
    simp only [one, bornOf] at h1; omega
  refine ⟨h.of.trans h0.of, h.has, ?_⟩
  rcases h.how with ⟨rfl, h1⟩ | h1
  · refine .inl fun c hc => ?_
    obtain ⟨p, hp, rfl⟩ := List.mem_map.1 hc
    exact h1 p hp (hall p hp)
  · rcases h0.how with h2 | h2
    · rw [h.full h2] at h1; omega
    · exact .inr (by omega)
theorem Meets.keep {g : Gram} {L0 L : List (Str × Nat)} {seen : List D} {p : Str × Nat} (hn : (L.map (·.2)).Nodup) (hp : p ∈ L) (h : Meets g L0 L seen) (hl : g.rules.any (leadsB (L.map (·.1)) p.1) = true) : Meets g L0 L (seen ++ [.int .i64 (p.2 : Int)]) := by
  refine ⟨h.of, h.has, ?_, h.full⟩
  rcases h.how with ⟨rfl, h1⟩ | h1
  · refine .inl ⟨rfl, fun q hq hs => ?_⟩
    simp only [List.map_append, List.mem_append, List.map_cons, List.map_nil, List.mem_singleton, intOf] at hs
    rcases hs with hs | hs
    · exact h1 q hq hs
    · have hpq : q = p := by
        have := find_stamp L hn hq
        rw [hs, find_stamp L hn hp] at this
        injection this with this
        injection this with this
        injection this with t1 t2
        injection t2 with _ t2
        injection t2 with t2 _
        injection t1 with t1
        injection t2 with _ t2
        exact Prod.ext t1.symm (by omega)
      rw [hpq]; exact hl
  · exact .inr h1
theorem Meets.cut {g : Gram} {L0 L : List (Str × Nat)} {seen s' : List D} {c : Str} {j : Nat} {q : Str × Nat} (hj : L[j]? = some q) (hq : q.1 = c) (h : Meets g L0 L seen) (hl : g.rules.any (leadsB (L.map (·.1)) c) = false) : Meets g L0 (L.eraseIdx j) s' := by
  have hjl : j < L.length := (List.getElem?_eq_some_iff.1 hj).1
  have hlen := h.of.length_le
  have hc : c ∈ L.map (·.1) := List.mem_map.2 ⟨q, List.mem_of_getElem? hj, hq⟩
  refine ⟨(List.eraseIdx_sublist _ _).trans h.of, fun F hF hs x hx => ?_, .inr ?_, fun hf => ?_⟩
  · have hxc : x ≠ c := by
      rintro rfl
      have := leads_mono (h.has F hF hs) (hF x hx)
      rw [hl] at this; cases this
    obtain ⟨r, hr, rfl⟩ := List.mem_map.1 (h.has F hF hs x hx)
    obtain ⟨i, hi⟩ := List.mem_iff_getElem?.1 hr
    refine List.mem_map.2 ⟨r, List.mem_eraseIdx_iff_getElem?.2 ⟨i, ?_, hi⟩, rfl⟩
    rintro rfl
    rw [hj] at hi; injection hi with hi
    exact hxc (by rw [← hi]; exact hq)
  · rw [List.length_eraseIdx]; split <;> omega
  · have e := h.full hf
    rw [← e] at hf
    rw [hf c hc] at hl; cases hl
theorem circular_d (g : Gram) (hg : SmG g) (hnd : g.cats.Nodup) : fnB Tryz.prog (orac Tryz.prog) [] Tryz.f21 0 [g.d] (fun _ => .none) (fun d _ => d = .bool (circB g)) (fun _ _ => False) := by
  refine fnB_intro _ [.tmp 2] 42 rfl rfl rfl (by kernel_rfl) ?_
  have hcl := hg.clen
  simp (maxSteps := 1000000) (disch := omega) only [go_sem, Gram.d, strs]
  refine cD_for g.cats.length (fun j σ bx => σ 1 = .loc 1 1 0 0 ∧ σ 3 = .loc 3 1 0 0 ∧ σ 10 = strs g.cats ∧ σ 11 = .int .i64 g.cats.length ∧ σ 12 = .int .i64 j ∧ bx 1 = ⟨1, 1, 6, 26, [g.d]⟩ ∧ bx 3 = ⟨1, 1, 1, 108, [.omap 8 1]⟩ ∧ bx 8 = ⟨1, 3, 0, 108, .int .i64 j :: encM (mkL (g.cats.zipIdx.take j))⟩) ?_ ?_ ?_
  · simp (maxSteps := 1000000) (disch := omega) only [go_sem, Gram.d, strs, List.take_zero]
    simp [mkL, encM]
  · rintro j σ bx hj ⟨q1, q3, q10, q11, q12, b1, b3, b8⟩
    obtain ⟨c, hc⟩ := get_lt hj
    have hlt : (j : Int) < (g.cats.length : Int) := by omega
    have hj1 : IntKind.i64.wrap ((j : Int) + 1) = ((j + 1 : Nat) : Int) := wrap_succ (by omega)
    have hu := updM_new (c := (j : Int)) (v := .bool true) (zip_new hnd hc)
    simp (maxSteps := 1000000) (disch := omega) only [go_sem, q1, q3, q10, q11, q12, b1, b3, b8, hlt, hc, strs, hu, hj1, setM]
    rw [zip_take hc]
    simp [mkL]
  · rintro σ bx ⟨q1, q3, q10, q11, q12, b1, b3, b8⟩
    have hlt : ¬ (g.cats.length : Int) < (g.cats.length : Int) := by omega
    simp (maxSteps := 1000000) (disch := omega) only [go_sem, q1, q3, q10, q11, q12, b1, b3, b8, hlt, strs, Gram.d]
    refine cD_for g.cats.length (fun k σ bx => σ 1 = .loc 1 1 0 0 ∧ σ 3 = .loc 3 1 0 0 ∧ σ 21 = .int .i64 g.cats.length ∧ σ 22 = .int .i64 k ∧ bx 1 = ⟨1, 1, 6, 26, [g.d]⟩ ∧ bx 3 = ⟨1, 1, 1, 108, [.omap 8 1]⟩ ∧
      ∃ L, bx 8 = ⟨1, 3, 0, 108, .int .i64 g.cats.length :: encM (mkL L)⟩ ∧ Left g k L) ?_ ?_ ?_
    · simp (maxSteps := 1000000) (disch := omega) only [go_sem, q1, q3, b1, b3, b8, Gram.d, strs]
      exact ⟨_, by rw [← List.length_zipIdx (l := g.cats) (i := 0), List.take_length], Left.all g⟩
    · rintro k σ bx hk ⟨q1, q3, q21, q22, b1, b3, L0, b8, hL0⟩
      have hlt : (k : Int) < (g.cats.length : Int) := by omega
      have hk1 : IntKind.i64.wrap ((k : Int) + 1) = ((k + 1 : Nat) : Int) := wrap_succ (by omega)
      simp (maxSteps := 1000000) (disch := omega) only [go_sem, q1, q3, q21, q22, b1, b3, b8, hlt, strs]
      obtain ⟨e25, he⟩ : ∃ e25, (bx 25).ep + 1 = e25 := ⟨_, rfl⟩
      rw [he]
      refine cD_loop (fun σ bx => σ 1 = .loc 1 1 0 0 ∧ σ 3 = .loc 3 1 0 0 ∧ σ 21 = .int .i64 g.cats.length ∧ σ 22 = .int .i64 k ∧ σ 25 = .loc 25 e25 0 0 ∧ bx 1 = ⟨1, 1, 6, 26, [g.d]⟩ ∧ bx 3 = ⟨1, 1, 1, 108, [.omap 8 1]⟩ ∧
        ∃ L seen, bx 8 = ⟨1, 3, 0, 108, .int .i64 g.cats.length :: encM (mkL L)⟩ ∧ bx 25 = ⟨e25, 3, 0, 0, .omap 8 1 :: .int .i64 g.cats.length :: .int .i64 g.cats.length :: seen⟩ ∧ Meets g L0 L seen)
        (fun σ bx => (leftM ((bx 25).es.drop 3) ((bx 8).es.drop 1)).length) ?_ ?_
      · simp (maxSteps := 1000000) (disch := omega) only [go_sem, q1, q3, q21, q22, b1, b3, b8]
        exact ⟨L0, [], rfl, rfl, Meets.start hL0⟩
      · rintro σ bx ⟨q1, q3, q21, q22, q25, b1, b3, L, seen, b8, b25, hm⟩
        simp (maxSteps := 1000000) (disch := omega) only [go_sem, q1, q3, q21, q22, q25, b1, b3, b8, b25, nextD]
        have hz := zip_stamps (hm.of.trans hL0.of)
        refine ⟨?_, ?_, fun hl => ⟨by rw [hk1], L, rfl, Meets.round hL0 hm hl⟩⟩
        · cases hL : L with
          | nil => exact .inr (.inl rfl)
          | cons p L' => exact .inr (.inr ⟨one p, by rw [enc_one]; simp, by have := hz.2 p (by rw [hL]; simp); simp only [one, bornOf]; omega⟩)
        · intro k1 v b hd
          obtain ⟨p, hp, hd1, hd2⟩ := left_mem.1 hd
          obtain ⟨rfl, rfl, rfl⟩ : k1 = .str p.1 ∧ v = .bool true ∧ b = (p.2 : Int) := by
            injection hd1 with hd1; injection hd1 with t1 hd1; injection hd1 with t2 hd1; injection hd1 with t3 _; injection t3 with _ t3
            exact ⟨t1, t2, t3⟩
          have hent := entry_at seen hz.1 hp
          have hb8 : ∀ (b : Bxs), (leftM (List.drop 3 (bx 25).es) (List.drop 1 (bx 8).es)) = leftM seen (encM (mkL L)) := fun _ => by rw [b25, b8]; rfl
          rw [hb8 bx]
          simp (maxSteps := 1000000) (disch := omega) only [go_sem, setM, b25, b8, entryO, hent, q1, q3, b1, b3, Gram.d, strs]
          refine call_boxes (hasR_c (n0 := 9) (k := 100) (leads_p (e6 := (bx 6).ep + 1) (e3 := 1) (e8 := 1) (n := g.cats.length) (c := p.1) (m := mkL L) (t3 := 108) (t6 := 9) (t8 := 108) (s3 := 0) (by simp [upd]) (by simp [upd, b3]) (by simp [upd, b8]) (mkL_true L)) (by omega) g.rules hg.rlen hg.rules _ (fun _ _ => rfl)) rfl ?_
          rintro d B ⟨rfl, hk⟩
          have c1 := (hk 1 (by omega)).trans (show _ = bx 1 by simp [upd])
          have c3 := (hk 3 (by omega)).trans (show _ = bx 3 by simp [upd])
          have c8 := (hk 8 (by omega)).trans (show _ = bx 8 by simp [upd])
          have c6 := hk 6 (by omega)
          have c25 := hk 25 (by omega)
          rw [b1] at c1
          rw [b3] at c3
          rw [b8] at c8
          simp [upd] at c6 c25
          rw [mkL_keys] at *
          cases hl : g.rules.any (leadsB (L.map (·.1)) p.1)
          · obtain ⟨j, e, d1, d2, d3⟩ := delM_at (m := mkL L) (s := p.1) (c := (g.cats.length : Int)) ⟨_, List.mem_map.2 ⟨p, hp, rfl⟩, rfl⟩
            simp (maxSteps := 1000000) (disch := omega) only [go_sem, hl, Bool.not_false, c1, c3, c8, c6, c25, d3, setM, q1, q3, q21, q22, q25]
            have he := mkL_erase L j
            obtain ⟨q, hq1, hq2⟩ : ∃ q, L[j]? = some q ∧ q.1 = p.1 := by
              simp only [mkL, List.getElem?_map, Option.map_eq_some_iff] at d1
              obtain ⟨q, h1, h2⟩ := d1
              exact ⟨q, h1, by rw [← d2, ← h2]⟩
            rw [he]
            exact ⟨⟨by simp [Gram.d, strs], L.eraseIdx j, _, rfl, rfl, hm.cut hq1 hq2 hl⟩, left_lt (List.eraseIdx_sublist _ _) hp hd2⟩
          · simp (maxSteps := 1000000) (disch := omega) only [go_sem, hl, Bool.not_true, c1, c3, c8, c6, c25, q1, q3, q21, q22, q25]
            exact ⟨⟨by simp [Gram.d, strs], L, _, rfl, rfl, hm.keep hz.1 hp hl⟩, left_lt (List.Sublist.refl _) hp hd2⟩
    · rintro σ bx ⟨q1, q3, q21, q22, b1, b3, L, b8, hL⟩
      have hlt : ¬ (g.cats.length : Int) < (g.cats.length : Int) := by omega
      simp (maxSteps := 1000000) (disch := omega) only [go_sem, q1, q3, q21, q22, b1, b3, b8, hlt, encM_len]
      rw [circ_left hL.sub hL.fin hL.has]
      cases L <;> simp [mkL]
theorem circular_c (g : Gram) (hg : SmG g) (hnd : g.cats.Nodup) : CallsTo Tryz.prog 21 [g.d] (.bool (circB g)) :=
  (fnB_calls mixed (circular_d g hg hnd) rfl (by kernel_rfl) rfl).to (fun _ _ h => h) (fun d' bx' h => ⟨.bool (circB g), by rw [h]; rfl, .refl _⟩)
end Go.V.Ty
