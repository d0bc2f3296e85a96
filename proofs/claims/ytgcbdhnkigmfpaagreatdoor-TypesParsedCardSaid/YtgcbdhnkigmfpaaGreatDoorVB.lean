/-
  Each operation that yields a datum, the fourth part: structs and slices built, and all of them together.
  The operations that lay, write or lengthen a variable of the activation's own.
  append.
  append onto a slice that begins behind its variable's beginning: in place, or in a new place.
  Calls: the contract of a function on data, and how a call of it stands in for one step.
-/
import Derived.Test.YtgcbdhnkigmfpaaGreatDoorVA
import Derived.Laws.BytesArg
import Derived.Maps.AppendAt
namespace Go.V
open Go.RowKit

variable {P : Program} {X : Ctx} {ρ : Rho} {σ : Env} {bx : Bxs} {a : Act} {w : World}
variable {dst : Option Tmp} {ty : TypeId} {pos : String} {af : Array Edge} {g : Option (Nat × Bool)}

theorem fold_set : ∀ (vs : List Value) (k off : Nat) (cs : Array Value), (((vs.zipIdx k).foldl (fun (cs : Array Value) (x : Value × Nat) => cs.setIfInBounds (off + x.2) x.1) cs).size = cs.size) ∧
    ∀ i, ((vs.zipIdx k).foldl (fun (cs : Array Value) (x : Value × Nat) => cs.setIfInBounds (off + x.2) x.1) cs)[i]? = if off + k ≤ i ∧ i < off + k + vs.length ∧ i < cs.size then vs[i - (off + k)]? else cs[i]?
  | [], k, off, cs => by
    refine ⟨rfl, fun i => ?_⟩
    simp only [List.zipIdx_nil, List.foldl_nil, List.length_nil, Nat.add_zero]
    rw [if_neg (by omega)]
  | v :: vs, k, off, cs => by
    obtain ⟨h1, h2⟩ := fold_set vs (k + 1) off (cs.setIfInBounds (off + k) v)
    simp only [List.zipIdx_cons, List.foldl_cons]
    refine ⟨by rw [h1]; simp, fun i => ?_⟩
    rw [h2]
    simp only [Array.size_setIfInBounds, List.length_cons]
    by_cases hi : i = off + k
    · subst hi
      rw [if_neg (by omega)]
      by_cases hs : off + k < cs.size
      · rw [if_pos (by omega)]
        simp [hs]
      · rw [if_neg (by omega)]
        simp [hs]
    · rw [Array.getElem?_setIfInBounds_ne (Ne.symm hi)]
      by_cases hc : off + (k + 1) ≤ i ∧ i < off + (k + 1) + vs.length ∧ i < cs.size
      · rw [if_pos hc, if_pos (by omega)]
        have : i - (off + k) = (i - (off + (k + 1))) + 1 := by omega
        rw [this, List.getElem?_cons_succ]
      · rw [if_neg hc, if_neg (by omega)]

/-- cells that represent data, one by one -/
def RepL (w : World) (S : Nat → Prop) (ρ : Rho) (cs : List D) (vs : Array Value) : Prop := vs.size = cs.length ∧ ∀ (i : Nat) c u, cs[i]? = some c → vs[i]? = some u → Rep w S ρ c u

theorem fill_one {S : Nat → Prop} {cs : List D} {vs : Array Value} {d : D} {v : Value} {off : Nat} (h : RepL w S ρ cs vs) (hd : Rep w S ρ d v) (h1 : d.cells.all D.one = true) (hl : off + d.cells.length ≤ cs.length) :
    v.cells.size = d.cells.length ∧ RepL w S ρ (cs.take off ++ d.cells ++ cs.drop (off + d.cells.length)) (v.cells.zipIdx.foldl (fun (cs : Array Value) (x : Value × Nat) => cs.setIfInBounds (off + x.2) x.1) vs) := by
  obtain ⟨hs, hc⟩ := hd.cells h1
  refine ⟨hs, ?_⟩
  have e : v.cells.zipIdx.foldl (fun (cs : Array Value) (x : Value × Nat) => cs.setIfInBounds (off + x.2) x.1) vs = (v.cells.toList.zipIdx 0).foldl (fun (cs : Array Value) (x : Value × Nat) => cs.setIfInBounds (off + x.2) x.1) vs := by
    rw [← Array.foldl_toList, Array.toList_zipIdx]
  rw [e]
  obtain ⟨f1, f2⟩ := fold_set v.cells.toList 0 off vs
  refine ⟨by rw [f1, h.1]; simp; omega, fun i c u hi hu => ?_⟩
  rw [f2] at hu
  simp only [Nat.add_zero, Array.length_toList, Array.getElem?_toList] at hu
  by_cases ho : i < off
  · rw [if_neg (by omega)] at hu
    rw [List.append_assoc, List.getElem?_append_left (by simp; omega), List.getElem?_take_of_lt ho] at hi
    exact h.2 i c u hi hu
  · by_cases hm : i < off + d.cells.length
    · have hv : i < vs.size := by rw [h.1]; omega
      rw [if_pos (by omega)] at hu
      have hl2 : (cs.take off).length = off := by simp; omega
      rw [List.append_assoc, List.getElem?_append_right (by omega), hl2, List.getElem?_append_left (by omega)] at hi
      obtain ⟨u', hu', hr, _⟩ := hc _ _ hi
      rw [hu'] at hu; injection hu with hu; subst hu
      exact hr
    · rw [if_neg (by omega)] at hu
      have hl2 : (cs.take off ++ d.cells).length = off + d.cells.length := by simp; omega
      rw [List.getElem?_append_right (by omega), hl2, List.getElem?_drop] at hi
      have : off + d.cells.length + (i - (off + d.cells.length)) = i := by omega
      rw [this] at hi
      exact h.2 i c u hi hu

theorem fill_sound {S : Nat → Prop} {fs : List (Nat × Nat × Bool)} {places : Nat → Option (Nat × Nat)} (hpl : ∀ (i : Nat) x, fs[i]? = some x → places i = some (x.1, x.2.1)) : ∀ (ps : List (Nat × D)) (vps : List (Nat × Value)) (cs r : List D) (vs : Array Value),
    buildL fs cs ps = some r → ps.length = vps.length → (∀ (i : Nat) p q, ps[i]? = some p → vps[i]? = some q → p.1 = q.1 ∧ Rep w S ρ p.2 q.2) → RepL w S ρ cs vs →
    ∃ vs', Instr.fill places vs vps = some vs' ∧ RepL w S ρ r vs'
  | [], vps, cs, r, vs, hb, hl, _, h => by
    cases vps with
    | nil => simp only [buildL, Option.some.injEq] at hb; subst hb; exact ⟨vs, rfl, h⟩
    | cons q vps => simp at hl
  | (i, d) :: ps, vps, cs, r, vs, hb, hl, hr, h => by
    cases vps with
    | nil => simp at hl
    | cons q vps =>
    obtain ⟨j, v⟩ := q
    obtain ⟨hij, hd⟩ := hr 0 _ _ rfl rfl
    simp only at hij hd
    subst hij
    simp only [buildL] at hb
    cases hf : fs[i]? with
    | none => simp [hf] at hb
    | some f =>
      obtain ⟨off, sz, gg⟩ := f
      simp only [hf] at hb
      split at hb
      · rename_i hc
        obtain ⟨h1, h2, h3⟩ := hc
        rw [← h1] at hb h2
        obtain ⟨g1, g2⟩ := fill_one h hd h3 h2
        obtain ⟨vs', k1, k2⟩ := fill_sound hpl ps vps _ r _ hb (by simpa using hl) (fun i p q hp hq => hr (i + 1) p q (by simpa using hp) (by simpa using hq)) g2
        refine ⟨vs', ?_, k2⟩
        have hle : ¬ (v.cells.size ≠ sz ∨ off + v.cells.size > vs.size) := by rw [h.1]; omega
        simp only [Instr.fill, hpl i _ hf]
        rw [if_neg (by simpa using hle)]
        exact k1
      · cases hb

theorem run_places : ∀ (L : List Field), (∀ f ∈ L, 0 < sizeT P f.type) → (L.mapM fun f => (do pure (f.offset, ← sizeOf f.type) : Sem (Nat × Nat))).run P w = .ok (L.map fun f => (f.offset, sizeT P f.type)) w
  | [], _ => by simp
  | f :: L, h => by
    have ih := run_places L (fun f hf => h f (List.mem_cons_of_mem _ hf))
    simp only [List.mapM_cons, Sem.run_bind, run_sizeT (h f (List.mem_cons_self ..)), Result.andThen_ok, Sem.run_pure, ih, List.map_cons]

theorem build_sound (h : Sim X ρ σ bx a w) {t : TypeId} {ps : Array (Nat × Operand)} {d : D} (hv : buildD (tiOf P t) (ps.toList.map fun p => (p.1, ev σ p.2)) = some d) : Yields P X ρ bx a w ⟨dst, .build t ps, ty, pos, af, g⟩ d := by
  unfold buildD at hv
  split at hv
  · rename_i fs eq hk
    split at hv
    · rename_i hz
      obtain ⟨F, hu, hfs, _⟩ := ti_struct hk
      subst hfs
      rw [Option.map_eq_some_iff] at hv
      obtain ⟨r, hb, rfl⟩ := hv
      have hzero : ∃ z, (zeroValue t).run P w = .ok z w ∧ (tiOf P t).zero = z.cells.toList.map ofC := by
        have h2 : (tiOf P t).zero.length ≠ 0 := by omega
        simp only [tiOf] at h2 ⊢
        cases hi : P.info? t with
        | none => simp [hi] at h2
        | some i =>
          cases hz : i.zero with
          | none => simp [hi, hz] at h2
          | some z => exact ⟨z, by simp [zeroValue, typeInfo, hi, hz, go_sem], by simp [hz]⟩
      obtain ⟨z, hz1, hz2⟩ := hzero
      have hpos : ∀ f ∈ F.toList, 0 < sizeT P f.type := by
        intro f hf
        have := List.all_eq_true.1 hz.2.2 _ (List.mem_map.2 ⟨f, hf, rfl⟩)
        simpa using this
      have hrun : (F.mapM fun f => (do pure (f.offset, ← sizeOf f.type) : Sem (Nat × Nat))).run P w = .ok (F.map fun f => (f.offset, sizeT P f.type)) w := by
        rw [Array.mapM_eq_mapM_toList, Sem.run_map, run_places F.toList hpos, Result.andThen_ok]
        congr 1
        apply Array.toList_inj.1
        simp
      obtain ⟨vs', k1, k2⟩ := fill_sound (S := Stab X ρ bx w) (ρ := ρ) (w := w) (places := fun i => (F.map fun f => (f.offset, sizeT P f.type))[i]?) (fun i x hx => by
        simp only [List.getElem?_map, Array.getElem?_toList, Option.map_eq_some_iff] at hx
        obtain ⟨f, hf, rfl⟩ := hx
        simp [hf]) _
        (ps.toList.map fun p => (p.1, a.eval p.2)) _ _ z.cells hb (by simp) (fun i p q hp hq => by
          simp only [List.getElem?_map, Option.map_eq_some_iff] at hp hq
          obtain ⟨y, hy, rfl⟩ := hp
          obtain ⟨y', hy', rfl⟩ := hq
          rw [hy] at hy'; injection hy' with hy'; subst hy'
          exact ⟨rfl, h.ev _⟩) ⟨by rw [hz2]; simp, fun i c u hc hu => by
            rw [hz2, List.getElem?_map, Array.getElem?_toList, hu] at hc
            simp only [Option.map_some, Option.some.injEq] at hc
            subst hc
            exact .pure (rep_ofC u)⟩
      refine yields_same (.agg vs') ?_ (.agg k2.1 k2.2)
      have hpm : (ps.map fun (x : Nat × Operand) => (x.1, a.eval x.2)).toList = ps.toList.map fun p => (p.1, a.eval p.2) := by simp
      simp only [execOp, Instr.build, Sem.run_bind, Sem.run_pure, Result.andThen_ok, run_underlying hu, hz1, hrun, hpm, k1]
    · cases hv
  · rename_i n esz ag hk
    split at hv
    · rename_i hz
      obtain ⟨e, hu, hse, _⟩ := ti_arr hk
      rw [Option.map_eq_some_iff] at hv
      obtain ⟨r, hb, rfl⟩ := hv
      have hzero : ∃ z, (zeroValue t).run P w = .ok z w ∧ (tiOf P t).zero = z.cells.toList.map ofC := by
        have h2 : (tiOf P t).zero.length ≠ 0 := by omega
        simp only [tiOf] at h2 ⊢
        cases hi : P.info? t with
        | none => simp [hi] at h2
        | some i =>
          cases hz : i.zero with
          | none => simp [hi, hz] at h2
          | some z => exact ⟨z, by simp [zeroValue, typeInfo, hi, hz, go_sem], by simp [hz]⟩
      obtain ⟨z, hz1, hz2⟩ := hzero
      obtain ⟨vs', k1, k2⟩ := fill_sound (S := Stab X ρ bx w) (ρ := ρ) (w := w) (places := fun i => some (i * esz, esz)) (fun i x hx => by
        simp only [List.getElem?_map, Option.map_eq_some_iff] at hx
        obtain ⟨y, hy, rfl⟩ := hx
        have := (List.getElem?_eq_some_iff.1 hy).2
        simp at this
        subst this
        rfl) _
        (ps.toList.map fun p => (p.1, a.eval p.2)) _ _ z.cells hb (by simp) (fun i p q hp hq => by
          simp only [List.getElem?_map, Option.map_eq_some_iff] at hp hq
          obtain ⟨y, hy, rfl⟩ := hp
          obtain ⟨y', hy', rfl⟩ := hq
          rw [hy] at hy'; injection hy' with hy'; subst hy'
          exact ⟨rfl, h.ev _⟩) ⟨by rw [hz2]; simp, fun i c u hc hu => by
            rw [hz2, List.getElem?_map, Array.getElem?_toList, hu] at hc
            simp only [Option.map_some, Option.some.injEq] at hc
            subst hc
            exact .pure (rep_ofC u)⟩
      refine yields_same (.agg vs') ?_ (.agg k2.1 k2.2)
      have hpm : (ps.map fun (x : Nat × Operand) => (x.1, a.eval x.2)).toList = ps.toList.map fun p => (p.1, a.eval p.2) := by simp
      simp only [execOp, Instr.build, Sem.run_bind, Sem.run_pure, Result.andThen_ok, run_underlying hu, hz1, run_sizeT (hse ▸ hz.2.2), ← hse, hpm, k1]
    · cases hv
  · cases hv

theorem buildL_flat {fs : List (Nat × Nat × Bool)} {esz : Nat} {ag : Bool} : ∀ (ps : List (Nat × D)) (k : Nat) (done : List D), done.length = k * esz → ps.map (·.1) = List.range' k ps.length → ps.all (fun p => p.2.cells.length == esz && p.2.cells.all D.one) = true →
    (∀ i, i < k + ps.length → fs[i]? = some (i * esz, esz, ag)) → buildL fs (done ++ List.replicate (ps.length * esz) .undef) ps = some (done ++ (ps.map (·.2)).flatMap D.cells)
  | [], k, done, _, _, _, _ => by simp [buildL]
  | (i, d) :: ps, k, done, hd, hm, ha, hf => by
    simp only [List.map_cons, List.length_cons, List.range'_succ, List.cons.injEq] at hm
    obtain ⟨rfl, hm⟩ := hm
    simp only [List.all_cons, Bool.and_eq_true, beq_iff_eq] at ha
    obtain ⟨⟨h1, h2⟩, h3⟩ := ha
    simp only [buildL, hf i (by simp)]
    have hlen : (done ++ List.replicate (((i, d) :: ps).length * esz) D.undef).length = i * esz + (ps.length + 1) * esz := by simp [hd]
    rw [if_pos ⟨h1, by rw [hlen, Nat.add_mul]; omega, h2⟩]
    have e1 : (done ++ List.replicate (((i, d) :: ps).length * esz) D.undef).take (i * esz) = done := by
      rw [← hd]; exact List.take_left
    have e2 : (done ++ List.replicate (((i, d) :: ps).length * esz) D.undef).drop (i * esz + esz) = List.replicate (ps.length * esz) D.undef := by
      rw [← hd, ← List.drop_drop, List.drop_left, List.drop_replicate]
      congr 1
      simp only [List.length_cons, Nat.add_mul]
      omega
    rw [e1, e2, buildL_flat ps (i + 1) (done ++ d.cells) (by simp [hd, h1, Nat.add_mul]) hm h3 (fun j hj => hf j (by simp; omega))]
    simp

theorem flat_len {sz : Nat} : ∀ (ds : List D), (∀ x ∈ ds, x.cells.length = sz) → (ds.flatMap D.cells).length = ds.length * sz
  | [], _ => by simp
  | x :: ds, h => by
    rw [List.flatMap_cons, List.length_append, h x (List.mem_cons_self ..), flat_len ds (fun y hy => h y (List.mem_cons_of_mem _ hy)), List.length_cons, Nat.add_mul]
    omega
theorem flat_get {sz : Nat} : ∀ (ds : List D) (i j : Nat) (d : D), (∀ x ∈ ds, x.cells.length = sz) → ds[i]? = some d → j < sz → (ds.flatMap D.cells)[i * sz + j]? = d.cells[j]?
  | [], i, j, d, _, hd, _ => by simp at hd
  | x :: ds, i, j, d, hs, hd, hj => by
    have hx := hs x (List.mem_cons_self ..)
    simp only [List.flatMap_cons]
    cases i with
    | zero =>
      simp at hd
      subst hd
      rw [Nat.zero_mul, Nat.zero_add, List.getElem?_append_left (by omega)]
    | succ i =>
      rw [Nat.add_mul, List.getElem?_append_right (by omega), hx]
      have : i * sz + 1 * sz + j - sz = i * sz + j := by omega
      rw [this]
      exact flat_get ds i j d (fun y hy => hs y (List.mem_cons_of_mem _ hy)) (by simpa using hd) hj

theorem Sim.fresh (h : Sim X ρ σ bx a w) (o : Obj) : Stab X ρ bx (w.alloc o) w.heap.size := by
  refine ⟨by simp, .inr (Nat.le_trans h.nb h.fr.size), fun t hk p hp => ?_⟩
  obtain ⟨p', hp', _, _, _, hh⟩ := h.box t (by rw [hk]; decide)
  rw [hp] at hp'; injection hp' with hp'; subst hp'
  have := hh.lt
  omega

theorem lit_run (h : Sim X ρ σ bx a w) {t e : TypeId} {n esz : Nat} {ag : Bool} {ps : Array (Nat × Operand)} {dps : List (Nat × D)} (hu : P.underlying t = some (.slice e)) (hse : esz = sizeT P e) (hds : (ps.toList.map fun p => (p.1, ev σ p.2)) = dps) (hm : dps.map (·.1) = List.range n)
    (ha : dps.all (fun p => p.2.cells.length == esz && p.2.cells.all D.one) = true) (hpos : 0 < esz) (hbig : n * esz ≤ 65536) (hzl : (tiOf P e).zero.length = esz) :
    ∃ vs', (Instr.buildSlice t n (ps.map fun (x : Nat × Operand) => (x.1, a.eval x.2))).run P w = .ok (.slice (some ⟨w.heap.size, 0, none⟩) n n) (w.alloc (.cells vs' e)) ∧ RepL w (Stab X ρ bx w) ρ ((dps.map (·.2)).flatMap D.cells) vs' := by
  have hlen : dps.length = n := by have := congrArg List.length hm; simpa using this
  have hzero : ∃ z, (zeroValue e).run P w = .ok z w ∧ z.cells.size = esz := by
    have h2 : (tiOf P e).zero.length ≠ 0 := by omega
    simp only [tiOf] at h2 hzl
    cases hi : P.info? e with
    | none => simp [hi] at h2
    | some i =>
      cases hz : i.zero with
      | none => simp [hi, hz] at h2
      | some z => exact ⟨z, by simp [zeroValue, typeInfo, hi, hz, go_sem], by simpa [hi, hz] using hzl⟩
  obtain ⟨z, hz1, hz2⟩ := hzero
  have hbl := buildL_flat (fs := (List.range n).map fun i => (i * esz, esz, ag)) (esz := esz) (ag := ag) dps 0 [] (by simp) (by rw [hm, List.range_eq_range', hlen]) ha (fun i hi => by
    have hi : i < n := by omega
    simp [List.getElem?_range hi])
  simp only [List.nil_append, hlen] at hbl
  have go : ∀ zc : Array Value, (n * esz = 0 ∨ zc = z.cells) → ∃ vs', Instr.fill (fun i => some (i * esz, esz)) ((Array.range (n * esz)).map (zc[· % zc.size]!)) (ps.toList.map fun p => (p.1, a.eval p.2)) = some vs' ∧ RepL w (Stab X ρ bx w) ρ ((dps.map (·.2)).flatMap D.cells) vs' := by
    intro zc _
    refine fill_sound (S := Stab X ρ bx w) (ρ := ρ) (w := w) (places := fun i => some (i * esz, esz)) (fun i x hx => ?_) _ _ _ _ ((Array.range (n * esz)).map (zc[· % zc.size]!)) hbl (by rw [← hds]; simp) (fun i p q hp hq => ?_) ⟨by simp, fun i c u hc _ => ?_⟩
    · simp only [List.getElem?_map, Option.map_eq_some_iff] at hx
      obtain ⟨y, hy, rfl⟩ := hx
      have := (List.getElem?_eq_some_iff.1 hy).2
      simp at this
      subst this
      rfl
    · rw [← hds] at hp
      simp only [List.getElem?_map, Option.map_eq_some_iff] at hp hq
      obtain ⟨y, hy, rfl⟩ := hp
      obtain ⟨y', hy', rfl⟩ := hq
      rw [hy] at hy'; injection hy' with hy'; subst hy'
      exact ⟨rfl, h.ev _⟩
    · have := List.mem_of_getElem? hc
      have := List.eq_of_mem_replicate this
      subst this
      exact .pure (.undef u)
  have main : ∃ vs', (Instr.buildSlice t n (ps.map fun (x : Nat × Operand) => (x.1, a.eval x.2))).run P w = .ok (.slice (some ⟨w.heap.size, 0, none⟩) n n) (w.alloc (.cells vs' e)) ∧ RepL w (Stab X ρ bx w) ρ ((dps.map (·.2)).flatMap D.cells) vs' := by
    have hpm : (ps.map fun (x : Nat × Operand) => (x.1, a.eval x.2)).toList = ps.toList.map fun p => (p.1, a.eval p.2) := by simp
    have hnb : ¬ n * sizeT P e > 2 ^ 24 := by rw [← hse]; omega
    by_cases hn0 : n * esz = 0
    · obtain ⟨vs', k1, k2⟩ := go #[] (.inl hn0)
      refine ⟨vs', ?_, k2⟩
      rw [hn0] at k1
      have hnb0 : ¬ 0 > 2 ^ 24 := by omega
      simp only [Instr.buildSlice, Sem.run_bind, run_underlying hu, Result.andThen_ok, run_sizeT (hse ▸ hpos), ← hse, hn0, hnb0, if_false, if_true, Sem.run_pure, hpm, k1, newRow, newObj, Sem.run, World.alloc]
    · obtain ⟨vs', k1, k2⟩ := go z.cells (.inr rfl)
      refine ⟨vs', ?_, k2⟩
      rw [← hse] at hnb
      simp only [Instr.buildSlice, Sem.run_bind, run_underlying hu, Result.andThen_ok, run_sizeT (hse ▸ hpos), ← hse, hnb, if_false, hn0, Sem.run_pure, hpm, hz1, k1, newRow, newObj, Sem.run, World.alloc]
  exact main

theorem buildSlice_sound (h : Sim X ρ σ bx a w) {t : TypeId} {n : Nat} {ps : Array (Nat × Operand)} {d : D} (hv : buildSliceD (tiOf P) (tiOf P t) n (ps.toList.map fun p => (p.1, ev σ p.2)) = some d) : Yields P X ρ bx a w ⟨dst, .buildSlice t n ps, ty, pos, af, g⟩ d := by
  unfold buildSliceD at hv
  split at hv
  · rename_i e esz b ag hk
    split at hv
    · rename_i hc
      obtain ⟨hm, ha, hpos, hbig, hzl⟩ := hc
      injection hv with hv
      subst hv
      obtain ⟨hu, hse, _, _⟩ := ti_slice hk
      generalize hds : (ps.toList.map fun p => (p.1, ev σ p.2)) = dps at hm ha
      have hlen : dps.length = n := by have := congrArg List.length hm; simpa using this
      have ha' : dps.all (fun p => p.2.cells.length == esz && p.2.cells.all D.one) = true := by
        rw [List.all_eq_true] at ha ⊢
        intro p hp
        have := ha p hp
        simp only [Bool.and_eq_true] at this ⊢
        exact this.1
      obtain ⟨vs', hrun, hrep⟩ := lit_run (ag := ag) h hu hse hds hm ha' hpos hbig hzl
      have hb := (Below.refl w.heap.size w).alloc (Nat.le_refl _) (.cells vs' e)
      have hel : ∀ x ∈ dps.map (·.2), x.cells.length = esz ∧ x.cells.all D.one = true ∧ x.pure = true := by
        intro x hx
        obtain ⟨p, hp, rfl⟩ := List.mem_map.1 hx
        have := List.all_eq_true.1 ha p hp
        simp only [Bool.and_eq_true, beq_iff_eq] at this
        exact ⟨this.1.1, this.1.2, this.2⟩
      have hcell : ∀ (i : Nat) d (j : Nat) c, (dps.map (·.2))[i]? = some d → d.cells[j]? = some c → ∃ u, vs'[i * esz + j]? = some u ∧ Rep w (Stab X ρ bx w) ρ c u := by
        intro i d j c hi hj
        have hd := hel d (List.mem_of_getElem? hi)
        have hj' : j < esz := by have := (List.getElem?_eq_some_iff.1 hj).1; omega
        have hf := flat_get (sz := esz) (dps.map (·.2)) i j d (fun x hx => (hel x hx).1) hi hj'
        rw [hj] at hf
        have hlt := (List.getElem?_eq_some_iff.1 hf).1
        have hlt' : i * esz + j < vs'.size := by rw [hrep.1]; exact hlt
        have hu' : vs'[i * esz + j]? = some vs'[i * esz + j] := Array.getElem?_eq_getElem hlt'
        exact ⟨_, hu', hrep.2 _ _ _ hf hu'⟩
      have hgd : ∀ (i : Nat) d (j : Nat) c, (dps.map (·.2))[i]? = some d → d.cells[j]? = some c → vs'[i * esz + j]? = some (vs'.getD (i * esz + j) undef) ∧ Rep w (Stab X ρ bx w) ρ c (vs'.getD (i * esz + j) undef) := by
        intro i d j c hi hj
        obtain ⟨u, hu', hr⟩ := hcell i d j c hi hj
        have : vs'.getD (i * esz + j) undef = u := by rw [Array.getD_eq_getD_getElem?, hu']; rfl
        rw [this]; exact ⟨hu', hr⟩
      refine ⟨.slice (some ⟨w.heap.size, 0, none⟩) n n, w.alloc (.cells vs' e), ?_, hb, .pure (.sl (b := w.heap.size) (off := 0) (us := fun i j => vs'.getD (i * esz + j) undef) (by simp [hlen]) (Nat.le_refl _) ?_ (fun _ => ⟨rfl, h.fresh _⟩)
        (fun i d hi => (hel d (List.mem_of_getElem? hi)).1) (fun i d j c hi hj => ?_) (fun i d j c hi hj => ?_) (fun i d j c hi hj => ?_))⟩
      · simp only [execOp, Sem.run_bind, hrun, Result.andThen_ok, Sem.run_pure]
      · have : n ≤ n * esz := Nat.le_mul_of_pos_right n hpos
        simp only [maxLen]; omega
      · rw [Nat.zero_add]
        have hn := heap_alloc_new w (.cells vs' e)
        simp only [World.cell?, hn, Option.isSome_none, Bool.false_eq_true, if_false]
        exact (hgd i d j c hi hj).1
      · exact (hgd i d j c hi hj).2.one (List.all_eq_true.1 (hel d (List.mem_of_getElem? hi)).2.1 c (List.mem_of_getElem? hj))
      · refine ((hgd i d j c hi hj).2.mono (fun b hb' => ?_) (fun b hb' => ?_) (fun _ _ _ h => h)).toP (pure_cells (hel d (List.mem_of_getElem? hi)).2.2 c (List.mem_of_getElem? hj))
        · exact hb.block b hb'.1
        · exact ⟨Nat.lt_of_lt_of_le hb'.1 hb.size, hb'.2⟩
    · cases hv
  · cases hv

theorem builtin_run {b : Builtin} {ats : Array TypeId} {args : Array Operand} {v : Value} {f : Array TypeId → TypeId → Array Value → Sem Value} (hb : ∀ ts t cs vs, builtin b ts t cs vs = (do pure (.value (← f ts t vs)))) (hr : (f ats ty (args.map a.eval)).run P w = .ok v w) :
    (execOp a.eval ⟨dst, .call { callee := .builtin b, args, argTypes := ats }, ty, pos, af, g⟩).run P w = .ok (.value v) w := by
  simp only [execOp, resolve, invoke, Sem.run_bind, Sem.run_pure, Result.andThen_ok, hb, hr]

theorem len_sound (h : Sim X ρ σ bx a w) {ats : Array TypeId} {args : Array Operand} {d : D} (hv : biD .len (ats.toList.map (tiOf P)) (args.toList.map (ev σ)) = some d) : Yields P X ρ bx a w ⟨dst, .call { callee := .builtin .len, args, argTypes := ats }, ty, pos, af, g⟩ d := by
  obtain ⟨ats⟩ := ats
  obtain ⟨args⟩ := args
  cases ats with
  | nil => simp [biD] at hv
  | cons T ats =>
  cases ats with
  | cons T' ats => simp [biD] at hv
  | nil =>
  cases args with
  | nil => simp [biD] at hv
  | cons x args =>
  cases args with
  | cons y args => simp [biD] at hv
  | nil =>
  simp only [List.map_cons, List.map_nil, biD, Option.map_eq_some_iff] at hv
  obtain ⟨n, hn, rfl⟩ := hv
  have hx := h.ev x
  generalize ev σ x = dx at hn hx
  refine yields_same _ (builtin_run (f := Builtin.len_) (fun _ _ _ _ => rfl) (v := .int .i64 (n : Int)) ?_) (.pure (.int _ _))
  simp only [List.map_toArray, List.map_cons, List.map_nil]
  unfold lenD at hn
  split at hn <;> try (cases hn; done)
  all_goals injection hn with hn; subst hn
  · rename_i s hk
    have hsz : (⟨s.toArray⟩ : ByteArray).size = s.length := by simp [ByteArray.size]
    simp only [Builtin.len_, List.getElem?_toArray, List.getElem?_cons_zero, hx.inv_str, Sem.run_bind, run_underlying (ti_str hk), Result.andThen_ok, Sem.run_pure, goInt, hsz]
  · rename_i hk
    have hx2 := hx.toP rfl
    generalize hax : a.eval x = vx at hx2
    cases hx2 with
    | sl hn _ _ _ _ _ _ _ => subst hn; simp [Builtin.len_, run_underlying (ti_slice hk).1, goInt]
  · rename_i hk
    simp [Builtin.len_, hx.inv_nil, run_underlying (ti_slice hk).1, goInt]
  · rename_i hk
    generalize hax : a.eval x = vx at hx
    cases hx with
    | pure h => cases h
    | osl => simp [Builtin.len_, run_underlying (ti_slice hk).1, goInt]
  · rename_i hk
    obtain ⟨e, hu, _⟩ := ti_arr hk
    simp [Builtin.len_, run_underlying hu, goInt]

theorem min_sound (h : Sim X ρ σ bx a w) {ats : Array TypeId} {args : Array Operand} {d : D} (hv : minD (args.toList.map (ev σ)) = some d) : Yields P X ρ bx a w ⟨dst, .call { callee := .builtin .min, args, argTypes := ats }, ty, pos, af, g⟩ d := by
  obtain ⟨args⟩ := args
  unfold minD at hv
  split at hv
  · rename_i k m k' n he
    cases args with
    | nil => simp at he
    | cons x args =>
    cases args with
    | nil => simp at he
    | cons y args =>
    cases args with
    | cons z args => simp at he
    | nil =>
    simp only [List.map_cons, List.map_nil, List.cons.injEq, and_true] at he
    split at hv
    · injection hv with hv
      subst hv
      have hx := h.ev x
      have hy := h.ev y
      rw [he.1] at hx
      rw [he.2] at hy
      refine yields_same _ (builtin_run (f := Builtin.min_) (fun _ _ _ _ => rfl) (v := .int k (if n < m then n else m)) ?_) (.pure (.int _ _))
      simp [Builtin.min_, Builtin.min2, hx.inv_int, hy.inv_int]
    · cases hv
  · cases hv

theorem max_sound (h : Sim X ρ σ bx a w) {ats : Array TypeId} {args : Array Operand} {d : D} (hv : maxD (args.toList.map (ev σ)) = some d) : Yields P X ρ bx a w ⟨dst, .call { callee := .builtin .max, args, argTypes := ats }, ty, pos, af, g⟩ d := by
  obtain ⟨args⟩ := args
  unfold maxD at hv
  split at hv
  · rename_i k m k' n he
    cases args with
    | nil => simp at he
    | cons x args =>
    cases args with
    | nil => simp at he
    | cons y args =>
    cases args with
    | cons z args => simp at he
    | nil =>
    simp only [List.map_cons, List.map_nil, List.cons.injEq, and_true] at he
    split at hv
    · injection hv with hv
      subst hv
      have hx := h.ev x
      have hy := h.ev y
      rw [he.1] at hx
      rw [he.2] at hy
      refine yields_same _ (builtin_run (f := Builtin.max_) (fun _ _ _ _ => rfl) (v := .int k (if m < n then n else m)) ?_) (.pure (.int _ _))
      simp [Builtin.max_, Builtin.max2, hx.inv_int, hy.inv_int]
    · cases hv
  · cases hv

theorem bytesD_eq : ∀ (es : List D) (l : List UInt8), bytesD es = some l → ∃ ns : List Int, es = ns.map (D.int .u8) ∧ l = ns.map fun n => UInt8.ofNat n.toNat
  | [], l, h => by simp only [bytesD, Option.some.injEq] at h; subst h; exact ⟨[], rfl, rfl⟩
  | x :: es, l, h => by
    unfold bytesD at h
    split at h
    · rename_i heq; cases heq
    · rename_i n es' heq
      injection heq with h1 h2
      subst h1; subst h2
      rw [Option.map_eq_some_iff] at h
      obtain ⟨l', h', rfl⟩ := h
      obtain ⟨ns, rfl, rfl⟩ := bytesD_eq _ _ h'
      exact ⟨n :: ns, rfl, rfl⟩
    · cases h

theorem bytes_run {S : Nat → Prop} {es : List D} {A : Option Addr} {n cap : Nat} {l : List UInt8} (hx : PRep w S (.sl 1 es) (.slice A n cap)) (hl : bytesD es = some l) : (Conv.bytesToString (.slice A n cap)).run P w = .ok (.string ⟨l.toArray⟩) w := by
  obtain ⟨ns, rfl, rfl⟩ := bytesD_eq es l hl
  cases hx with
  | @sl _ _ _ _ _ b off us hn hcap hmax hA hsz hc h1 hr =>
    by_cases hne : ns = []
    · subst hne
      simp only [List.map_nil, List.length_nil] at hn
      subst hn
      cases A with
      | none => rw [Conv.bytesToString, Sem.run_pure]; rfl
      | some ad =>
        rw [run_bytesToString w ad 0 cap [] (run_loadCells_list (P := P) (w := w) ad [] (fun j v hj => by simp at hj))]
        rfl
    · obtain ⟨rfl, _⟩ := hA (by simpa using hne)
      have hl : (loadCells ⟨b, off, none⟩ n).run P w = .ok (ns.map (Value.int .u8)).toArray w := by
        have := run_loadCells_list (P := P) (w := w) ⟨b, off, none⟩ (ns.map (Value.int .u8)) (fun j v hj => by
          rw [List.getElem?_map, Option.map_eq_some_iff] at hj
          obtain ⟨m, hm, rfl⟩ := hj
          have h0 := hc j (.int .u8 m) 0 (.int .u8 m) (by simp [hm]) rfl
          have h2 := hr j (.int .u8 m) 0 (.int .u8 m) (by simp [hm]) rfl
          have e : us j 0 = .int .u8 m := (Rep.pure (ρ := ⟨fun _ _ => none, fun _ => none⟩) h2).inv_int
          rw [e] at h0
          rw [Addr.add_none]
          simpa using h0)
        rw [List.length_map] at this
        rw [List.length_map] at hn
        rw [hn]; exact this
      rw [run_bytesToString w _ n cap ns hl, foldl_push_bytes]
      congr 2
      simp [ByteArray.empty, ByteArray.emptyWithCapacity]
      rfl

theorem conv_sound (h : Sim X ρ σ bx a w) {s t : TypeId} {x : Operand} {d : D} (hv : convD (tiOf P) (tiOf P s) (tiOf P t) (ev σ x) = some d) : Yields P X ρ bx a w ⟨dst, .convert s t x, ty, pos, af, g⟩ d := by
  have hx := h.ev x
  generalize ev σ x = dx at hv hx
  unfold convD at hv
  split at hv
  · rename_i k n
    split at hv
    · rename_i k1 k2 h1 h2
      injection hv with hv
      subst hv
      refine yields_same (.int k2 (k2.wrap n)) ?_ (.pure (.int _ _))
      simp [execOp, convert, run_underlying (ti_int h1), run_underlying (ti_int h2), hx.inv_int, Conv.intToInt]
    · cases hv
  · rename_i l
    split at hv
    · rename_i h1 h2
      injection hv with hv
      subst hv
      refine yields_same (.string ⟨l.toArray⟩) ?_ (.pure (.str _))
      simp [execOp, convert, run_underlying (ti_str h1), run_underlying (ti_str h2), hx.inv_str]
    · cases hv
  · rename_i sz es
    split at hv
    · rename_i e z0 b0 g0 h1 h2
      split at hv
      · rename_i hsz
        obtain ⟨hsz, hu8⟩ := hsz
        subst hsz
        have hu : P.underlying e = some (.int .u8) := by
          unfold TK.isU8 at hu8
          split at hu8
          · rename_i hk; exact ti_int hk
          · cases hu8
        rw [Option.map_eq_some_iff] at hv
        obtain ⟨l, hl, rfl⟩ := hv
        have hx2 : PRep w (Stab X ρ bx w) (.sl 1 es) (a.eval x) := hx.toP rfl
        refine yields_same (.string ⟨l.toArray⟩) ?_ (.pure (.str _))
        generalize hax : a.eval x = vx at hx2
        have hsl : ∃ A n cap, vx = .slice A n cap := by cases hx2; exact ⟨_, _, _, rfl⟩
        obtain ⟨A, n, cap, rfl⟩ := hsl
        have hrun := bytes_run (P := P) hx2 hl
        simp only [execOp, convert, hax, Sem.run_bind, run_underlying (ti_slice h1).1, run_underlying (ti_str h2), run_underlying hu, Result.andThen_ok, hrun, Sem.run_pure]
      · cases hv
    · cases hv
  · cases hv

theorem pick_sound (h : Sim X ρ σ bx a w) {c x y : Operand} {d : D} (hv : pickV (ev σ c) (ev σ x) (ev σ y) = some d) : Yields P X ρ bx a w ⟨dst, .pick c x y, ty, pos, af, g⟩ d := by
  have hc := h.ev c
  generalize ev σ c = dc at hv hc
  cases dc <;> simp only [pickV] at hv <;> try (cases hv; done)
  rename_i t
  injection hv with hv
  subst hv
  refine yields_same (if t then a.eval x else a.eval y) ?_ ?_
  · simp [execOp, asBool, hc.inv_bool]
  · cases t
    · exact h.ev y
    · exact h.ev x

theorem nil_sound (h : Sim X ρ σ bx a w) {op : BinOp} {t t' : TypeId} {x : Operand} {d : D} (hv : nilB (tiOf P t) op (ev σ x) = some d) : Yields P X ρ bx a w ⟨dst, .binOp op t x (.const .nilIface) t', ty, pos, af, g⟩ d := by
  have hx := h.ev x
  generalize ev σ x = dx at hv hx
  have key : ∀ b ms, P.underlying t = some (.interface ms) → nilE dx = some b → (Op.equal t (a.eval x) .nilIface).run P w = .ok b w ∧ (∀ op, (eqGuard op t x (.const .nilIface) (a.eval x) .nilIface).run P w = .ok () w) ∧ ((∃ t v, a.eval x = .iface t v) ∨ a.eval x = .nilIface) := by
    intro b ms hu hb
    unfold nilE at hb
    split at hb
    · injection hb with hb
      subst hb
      generalize a.eval x = vx at hx
      have : ∃ t v, vx = .iface t v := by cases hx with
        | pure h => cases h with | ifc h => exact ⟨_, _, rfl⟩
        | ifc h => exact ⟨_, _, rfl⟩
      obtain ⟨t1, v1, rfl⟩ := this
      have e1 : ∀ n, (Op.equalIn (n + 1) t (.iface t1 v1) .nilIface).run P w = .ok false w := fun n => by simp [Op.equalIn, run_underlying hu]
      exact ⟨e1 9999, fun op => by cases op <;> simp [eqGuard], .inl ⟨_, _, rfl⟩⟩
    · injection hb with hb
      subst hb
      have hx := hx.inv_raw
      rw [hx]
      have e1 : ∀ n, (Op.equalIn (n + 1) t .nilIface .nilIface).run P w = .ok true w := fun n => by simp [Op.equalIn, run_underlying hu]
      exact ⟨e1 9999, fun op => by cases op <;> simp [eqGuard], .inr rfl⟩
    · cases hb
  unfold nilB at hv
  split at hv
  · rename_i hk
    obtain ⟨ms, hu⟩ := ti_ifc hk
    rw [Option.map_eq_some_iff] at hv
    obtain ⟨b, hb, rfl⟩ := hv
    obtain ⟨h1, h2, h3⟩ := key b ms hu hb
    refine yields_same (.bool b) ?_ (.pure (.bool _))
    have he : a.eval (.const .nilIface) = .nilIface := rfl
    have : (binOp .eql t (a.eval x) .nilIface).run P w = .ok (.bool b) w := by
      rcases h3 with ⟨t1, v1, e⟩ | e <;> rw [e] at h1 ⊢ <;> simp [binOp, h1]
    simp only [execOp, he, Sem.run_bind, h2, this, Result.andThen_ok, Sem.run_pure]
  · rename_i hk
    obtain ⟨ms, hu⟩ := ti_ifc hk
    rw [Option.map_eq_some_iff] at hv
    obtain ⟨b, hb, rfl⟩ := hv
    obtain ⟨h1, h2, h3⟩ := key b ms hu hb
    refine yields_same (.bool (!b)) ?_ (.pure (.bool _))
    have he : a.eval (.const .nilIface) = .nilIface := rfl
    have : (binOp .neq t (a.eval x) .nilIface).run P w = .ok (.bool (!b)) w := by
      rcases h3 with ⟨t1, v1, e⟩ | e <;> rw [e] at h1 ⊢ <;> simp [binOp, h1]
    simp only [execOp, he, Sem.run_bind, h2, this, Result.andThen_ok, Sem.run_pure]
  · cases hv

theorem mkIfc_sound (h : Sim X ρ σ bx a w) {t : TypeId} {x : Operand} {d : D} (hv : mkIfc (tiOf P t) t (ev σ x) = some d) : Yields P X ρ bx a w ⟨dst, .makeInterface t x, ty, pos, af, g⟩ d := by
  unfold mkIfc at hv
  split at hv
  · cases hv
  · cases hv
  · rename_i h1 h2
    injection hv with hv
    subst hv
    obtain ⟨dd, hu, hn⟩ := ti_noifc h1 h2
    refine yields_same (.iface t (a.eval x)) ?_ (.ifc (h.ev x))
    simp only [execOp, Instr.makeInterface, Sem.run_bind, run_underlying hu, Result.andThen_ok]
    cases dd <;> first | (exact absurd rfl (hn _)) | simp

theorem tass_sound (h : Sim X ρ σ bx a w) {t xt : TypeId} {x : Operand} {ok : Bool} {d : D} (hv : tassD (tiOf P t) t ok (ev σ x) = some d) : Yields P X ρ bx a w ⟨dst, .typeAssert x xt t ok, ty, pos, af, g⟩ d := by
  have hx := h.ev x
  generalize ev σ x = dx at hv hx
  have hzero : (tiOf P t).zero.isEmpty = false → ∃ z, (zeroValue t).run P w = .ok z w := by
    intro h2
    simp only [tiOf] at h2
    cases hi : P.info? t with
    | none => simp [hi] at h2
    | some i =>
      cases hz : i.zero with
      | none => simp [hi, hz] at h2
      | some z => exact ⟨z, by simp [zeroValue, typeInfo, hi, hz, go_sem]⟩
  have htup : ∀ (v v2 : Value) (d d2 : D), Rep w (Stab X ρ bx w) ρ d v → Rep w (Stab X ρ bx w) ρ d2 v2 → Rep w (Stab X ρ bx w) ρ (.tup [d, d2]) (.tuple #[v, v2]) := by
    intro v v2 d d2 h1 h2
    refine .tup rfl fun i dd vv hd hv => ?_
    rcases i with _ | _ | i
    · simp at hd hv; subst hd; subst hv; exact h1
    · simp at hd hv; subst hd; subst hv; exact h2
    · simp at hd
  unfold tassD at hv
  split at hv
  · cases hv
  · cases hv
  · rename_i h1 h2
    obtain ⟨dd, hu, hn⟩ := ti_noifc h1 h2
    split at hv
    · rename_i t' v0
      generalize hax : a.eval x = vx at hx
      have : ∃ v, vx = .iface t' v ∧ Rep w (Stab X ρ bx w) ρ v0 v := by cases hx with
        | pure h => cases h with | ifc h => exact ⟨_, rfl, .pure h⟩
        | ifc h => exact ⟨_, rfl, h⟩
      obtain ⟨v, rfl, hr⟩ := this
      split at hv
      · rename_i ht
        subst ht
        injection hv with hv
        subst hv
        refine yields_same (if ok then .tuple #[v, .bool true] else v) ?_ ?_
        · simp only [execOp, Instr.typeAssert, Sem.run_bind, run_underlying hu, Result.andThen_ok, hax]
          cases dd <;> first | (exact absurd rfl (hn _)) | (cases ok <;> simp)
        · cases ok
          · exact hr
          · exact htup _ _ _ _ hr (.pure (.bool _))
      · rename_i ht
        split at hv
        · rename_i hz
          simp only [Bool.and_eq_true, Bool.not_eq_true'] at hz
          obtain ⟨rfl, hz⟩ := hz
          injection hv with hv
          subst hv
          obtain ⟨z, hz⟩ := hzero hz
          refine yields_same (.tuple #[z, .bool false]) ?_ (htup _ _ _ _ (.pure (.undef _)) (.pure (.bool _)))
          simp only [execOp, Instr.typeAssert, Sem.run_bind, run_underlying hu, Result.andThen_ok, hax]
          cases dd <;> first | (exact absurd rfl (hn _)) | simp [ht, hz]
        · cases hv
    · split at hv
      · rename_i hz
        simp only [Bool.and_eq_true, Bool.not_eq_true'] at hz
        obtain ⟨rfl, hz⟩ := hz
        injection hv with hv
        subst hv
        obtain ⟨z, hz⟩ := hzero hz
        refine yields_same (.tuple #[z, .bool false]) ?_ (htup _ _ _ _ (.pure (.undef _)) (.pure (.bool _)))
        simp only [execOp, Instr.typeAssert, Sem.run_bind, run_underlying hu, Result.andThen_ok, hx.inv_raw]
        cases dd <;> first | (exact absurd rfl (hn _)) | simp [hz]
      · cases hv
    · cases hv

/-- **ALL OPERATIONS THAT YIELD A DATUM.** -/
theorem val_sound (h : Sim X ρ σ bx a w) (o : Oper) {d : D} (hv : valD P σ bx o.op = some d) : Yields P X ρ bx a w o d := by
  obtain ⟨dst, op, ty, pos, af, g⟩ := o
  simp only at hv
  cases op with
  | move x => simp only [valD, Option.some.injEq] at hv; subst hv; exact yields_same (a.eval x) (by simp [execOp]) (h.ev x)
  | assign x => simp only [valD, Option.some.injEq] at hv; subst hv; exact yields_same (a.eval x) (by simp [execOp]) (h.ev x)
  | pick c x y => exact pick_sound h hv
  | binOp op t x y t' =>
    simp only [valD, binV] at hv
    cases hn : isNil y with
    | false => rw [hn] at hv; exact binOp_sound h hv
    | true =>
      rw [hn] at hv
      have hy : y = .const .nilIface := by
        unfold isNil at hn
        split at hn
        · rfl
        · cases hn
      subst hy
      exact nil_sound h hv
  | makeInterface t x => exact mkIfc_sound h hv
  | typeAssert x xt t ok => exact tass_sound h hv
  | unOp op t x => exact unOp_sound h hv
  | fieldAddr t x i => exact fieldAddr_sound h hv
  | field t x i => exact field_sound h hv
  | indexAddr t x y => exact indexAddr_sound h hv
  | index t x y => exact index_sound h hv
  | load t x => exact load_sound h hv
  | extract x i =>
    simp only [valD] at hv
    have hx := h.ev x
    generalize ev σ x = dx at hv hx
    cases dx <;> simp only [atTup] at hv <;> try (cases hv; done)
    rename_i ds
    obtain ⟨vs, hax, hl, hr⟩ := hx.inv_tup
    have hi : i < vs.size := by have := (List.getElem?_eq_some_iff.1 hv).1; omega
    have hvi : vs[i]? = some vs[i] := Array.getElem?_eq_getElem hi
    exact yields_same vs[i] (by simp [execOp, Instr.extract, hax, hvi]) (hr _ _ _ hv hvi)
  | slice t x lo hi mx =>
    cases mx with
    | none => exact slice_sound h hv
    | some m => simp [valD] at hv
  | build t ps => exact build_sound h hv
  | buildSlice t n ps => exact buildSlice_sound h hv
  | nilCheck x =>
    simp only [valD] at hv
    have hx := h.ev x
    generalize ev σ x = dx at hv hx
    cases dx <;> simp only [nilD] at hv <;> try (cases hv; done)
    · injection hv with hv
      subst hv
      have hx2 := hx.toP rfl
      generalize hax : a.eval x = vx at hx hx2
      refine yields_same vx ?_ hx
      cases hx2
      simp [execOp, hax]
    · injection hv with hv
      subst hv
      obtain ⟨p, hp, hax⟩ := hx.inv_loc
      exact yields_same (a.eval x) (by simp [execOp, hax]) hx
  | makeFunc f first caps =>
    simp only [valD] at hv
    split at hv
    · rename_i hf
      injection hv with hv
      subst hv
      have hf : first = #[] := by simpa using hf
      subst hf
      refine yields_same (.func f #[] (caps.map a.eval)) (by simp [execOp, Instr.makeFunc]) (.fn (by simp) fun i d v hd hv => ?_)
      simp only [List.getElem?_map, Array.getElem?_toList, Array.getElem?_map, Option.map_eq_some_iff] at hd hv
      obtain ⟨x, hx, rfl⟩ := hd
      obtain ⟨y, hy, rfl⟩ := hv
      rw [hx] at hy; injection hy with hy; subst hy
      exact h.ev x
    · split at hv
      · rename_i hf
        have hf : caps = #[] := by simpa using hf
        subst hf
        unfold bfnD at hv
        split at hv
        · injection hv with hv
          subst hv
          refine yields_same (.func (.func _) (first.map a.eval) #[]) (by simp [execOp, Instr.makeFunc]) (.bfn (by simp) fun i d v hd hv => ?_)
          simp only [List.getElem?_map, Array.getElem?_toList, Array.getElem?_map, Option.map_eq_some_iff] at hd hv
          obtain ⟨x, hx, rfl⟩ := hd
          obtain ⟨y, hy, rfl⟩ := hv
          rw [hx] at hy; injection hy with hy; subst hy
          exact h.ev x
        · cases hv
      · cases hv
  | convert s t x => exact conv_sound h hv
  | call c =>
    obtain ⟨callee, args, ats⟩ := c
    cases callee with
    | builtin b =>
      simp only [valD] at hv
      cases b with
      | len => exact len_sound h hv
      | min => exact min_sound h (by simpa only [biD] using hv)
      | max => exact max_sound h (by simpa only [biD] using hv)
      | _ => simp [biD] at hv
    | _ => simp [valD] at hv
  | _ => simp [valD] at hv

end Go.V

namespace Go.V
open Go.RowKit

variable {P : Program} {X : Ctx} {ρ : Rho} {σ : Env} {bx : Bxs} {a : Act} {w : World}
variable {ty : TypeId} {pos : String} {af : Array Edge} {g : Option (Nat × Bool)}

/-- A new variable that holds v. -/
theorem newvar (h : Sim X ρ σ bx a w) {T d s : Nat} (hd : d < X.N) (hlo : X.lo ≤ s) {v : Value} {x : D} (hs : v.cells.size = x.cells.length)
    (hc : ∀ (j : Nat) c, x.cells[j]? = some c → ∃ u, v.cells[j]? = some u ∧ Rep w (Stab X ρ bx w) ρ c u ∧ u.oneCell' = true) :
    ∃ ρ', Sim X ρ' (upd σ d (.loc s ((bx s).ep + 1) 0 0)) (upd bx s ⟨(bx s).ep + 1, 1, x.cells.length, T, [x]⟩) (a.put (some d) (.pointer (some ⟨w.heap.size, 0, none⟩))) (w.alloc (.cells v.cells T)) := by
  have hb := (Below.refl w.heap.size w).alloc (Nat.le_refl _) (.cells v.cells T)
  have h2 := h.own (w' := w.alloc (.cells v.cells T)) (t := s) (p := ⟨w.heap.size, 1, x.cells.length, T⟩) (es := [x]) (bx1 := bx) hlo (fun _ => .inl rfl) (Old := fun _ => False) (.of_below hb) (fun _ h => h.elim) (.inl (Nat.le_refl _)) (fun S' ρ' hS hρ => by
    refine ⟨⟨v.cells, heap_alloc_new w _, by simp [hs], fun _ j => v.cells.getD j undef, fun i y j c hi hj => ?_⟩, by simp, by simp [maxLen], fun i y hi => ?_⟩
    · cases i with
      | zero =>
        simp only [List.getElem?_cons_zero, Option.some.injEq] at hi
        subst hi
        dsimp only
        obtain ⟨u, hu, hr, h1⟩ := hc j c hj
        have : v.cells.getD j undef = u := by rw [Array.getD_eq_getD_getElem?, hu]; rfl
        rw [this, Nat.zero_mul, Nat.zero_add]
        exact ⟨hu, hr.mono (fun b hb' => hb.block b hb'.1) hS hρ, h1⟩
      | succ i => simp at hi
    · cases i with
      | zero => simp only [List.getElem?_cons_zero, Option.some.injEq] at hi; subst hi; rfl
      | succ i => simp at hi)
  refine ⟨_, h2.put (dst := some d) (fun t ht => by injection ht with ht; subst ht; exact hd) (.loc (p := ⟨w.heap.size, 1, x.cells.length, T⟩) ?_ (by simp))⟩
  simp

theorem zero_ex {t : TypeId} (h : (tiOf P t).zero.length ≠ 0) : ∃ i z, P.info? t = some i ∧ i.zero = some z ∧ (tiOf P t).zero = z.cells.toList.map ofC := by
  simp only [tiOf] at h ⊢
  cases hi : P.info? t with
  | none => simp [hi] at h
  | some i =>
    cases hz : i.zero with
    | none => simp [hi, hz] at h
    | some z => exact ⟨i, z, rfl, hz, by simp [hz]⟩

theorem alloc_sound (h : Sim X ρ σ bx a w) {T d s : Nat} (hd : d < X.N) (hlo : X.lo ≤ s) {z : D} (hz : zeroD (tiOf P T) = some z) :
    ∃ v w', (execOp a.eval ⟨some d, .alloc T, ty, pos, af, g⟩).run P w = .ok (.value v) w' ∧
      ∃ ρ', Sim X ρ' (upd σ d (.loc s ((bx s).ep + 1) 0 0)) (upd bx s ⟨(bx s).ep + 1, 1, (tiOf P T).size, T, [z]⟩) (a.put (some d) v) w' := by
  unfold zeroD at hz
  split at hz
  · rename_i hc
    obtain ⟨hpos, hl, hag, hone⟩ := hc
    injection hz with hz
    have hzero : ∃ zv, (zeroValue T).run P w = .ok zv w ∧ (tiOf P T).zero = zv.cells.toList.map ofC := by
      have h2 : (tiOf P T).zero.length ≠ 0 := by omega
      simp only [tiOf] at h2 ⊢
      cases hi : P.info? T with
      | none => simp [hi] at h2
      | some i =>
        cases hz : i.zero with
        | none => simp [hi, hz] at h2
        | some z => exact ⟨z, by simp [zeroValue, typeInfo, hi, hz, go_sem], by simp [hz]⟩
    obtain ⟨zv, hz1, hz2⟩ := hzero
    have hcells : z.cells = (tiOf P T).zero := by
      subst hz
      unfold mkD
      cases hA : (tiOf P T).agg with
      | true => rfl
      | false =>
        rcases hag with hag | hag
        · rw [hA] at hag; cases hag
        · rw [hag] at hl
          match hzz : (tiOf P T).zero, hl with
          | [c], _ =>
            rw [hzz] at hone
            simp only [List.all_cons, List.all_nil, Bool.and_true] at hone
            simp [cells_single hone]
    have hlen : z.cells.length = (tiOf P T).size := by rw [hcells, hl]
    obtain ⟨ρ', h'⟩ := newvar (T := T) h hd hlo (v := zv) (x := z) (by rw [hcells, hz2]; simp) (fun j c hj => by
      rw [hcells] at hj
      have h1 := List.all_eq_true.1 hone c (List.mem_of_getElem? hj)
      rw [hz2, List.getElem?_map, Option.map_eq_some_iff] at hj
      obtain ⟨u, hu, rfl⟩ := hj
      rw [Array.getElem?_toList] at hu
      exact ⟨u, hu, .pure (rep_ofC u), (Rep.pure (w := w) (S := Stab X ρ bx w) (ρ := ρ) (rep_ofC u)).one h1⟩)
    rw [hlen] at h'
    refine ⟨_, _, ?_, ρ', h'⟩
    simp only [execOp, Instr.alloc, Sem.run_bind, hz1, Result.andThen_ok, newVar, newRow, newObj, Sem.run_pure, Sem.run, World.alloc]
  · cases hz

theorem mksl_sound (h : Sim X ρ σ bx a w) {T d s : Nat} (hd : d < X.N) (hlo : X.lo ≤ s) {l c : Operand} {r : Nat × TypeId × List D} (hz : mkslD (tiOf P) (tiOf P T) (ev σ l) (ev σ c) = some r) :
    ∃ v w', (execOp a.eval ⟨some d, .makeSlice T l c, ty, pos, af, g⟩).run P w = .ok (.value v) w' ∧
      ∃ ρ', Sim X ρ' (upd σ d (.osl s ((bx s).ep + 1) r.1 0 r.2.2.length)) (upd bx s ⟨(bx s).ep + 1, 1, r.1, r.2.1, r.2.2⟩) (a.put (some d) v) w' := by
  have hl := h.ev l
  have hc := h.ev c
  generalize ev σ l = dl at hz hl
  generalize ev σ c = dc at hz hc
  unfold mkslD at hz
  split at hz
  · rename_i el esz bytes g0 k1 n k2 m hk
    split at hz
    · rename_i hcond
      obtain ⟨h0, hnm, hby, hez, hb0, hsz⟩ := hcond
      rw [Option.map_eq_some_iff] at hz
      obtain ⟨z, hz, rfl⟩ := hz
      obtain ⟨hu, he, hbt, _⟩ := ti_slice hk
      unfold zeroD at hz
      split at hz
      · rename_i hcz
        obtain ⟨hpos, hzl, hag, hone⟩ := hcz
        injection hz with hz
        obtain ⟨i, zv, hi, hz1, hz2⟩ := zero_ex (P := P) (t := el) (by omega)
        have hcells : z.cells = (tiOf P el).zero := by
          subst hz
          unfold mkD
          cases hA : (tiOf P el).agg with
          | true => rfl
          | false =>
            rcases hag with hag | hag
            · rw [hA] at hag; cases hag
            · rw [hag] at hzl
              match hzz : (tiOf P el).zero, hzl with
              | [c], _ =>
                rw [hzz] at hone
                simp only [List.all_cons, List.all_nil, Bool.and_true] at hone
                simp [cells_single hone]
        have hbi : i.bytes = bytes := by rw [hbt, hi]; rfl
        have hzs : zv.cells.size = esz := by
          have : (tiOf P el).zero.length = zv.cells.size := by rw [hz2]; simp
          omega
        have hmb : m ≤ m * bytes := by
          have : m * 1 ≤ m * (bytes : Int) := Int.mul_le_mul_of_nonneg_left (by omega) (by omega)
          omega
        have hmz : 0 < m.toNat * esz ∨ m.toNat = 0 := by
          rcases Nat.eq_zero_or_pos m.toNat with h | h
          · exact .inr h
          · exact .inl (Nat.mul_pos h hez)
        generalize harr : ((Array.range (m.toNat * esz)).map ((if m.toNat * esz = 0 then (#[] : Array Value) else zv.cells)[· % (if m.toNat * esz = 0 then (#[] : Array Value) else zv.cells).size]!)) = arr
        have hsa : arr.size = m.toNat * esz := by rw [← harr]; simp
        have hget : ∀ i' j, i' < m.toNat → j < esz → arr[i' * esz + j]? = some (zv.cells.getD j undef) := by
          intro i' j hi' hj
          have hlt : i' * esz + j < m.toNat * esz := by
            have : (i' + 1) * esz ≤ m.toNat * esz := Nat.mul_le_mul_right _ hi'
            rw [Nat.add_mul] at this; omega
          rw [← harr]
          simp only [Array.getElem?_map, Array.getElem?_range, hlt, if_true, Option.map_some]
          have hne : ¬ m.toNat * esz = 0 := by omega
          simp only [hne, if_false, hzs]
          have : (i' * esz + j) % esz = j := by rw [Nat.mul_comm, Nat.mul_add_mod, Nat.mod_eq_of_lt hj]
          rw [this, Array.getD_eq_getD_getElem?]
          have : zv.cells[j]? = some (zv.cells[j]'(by omega)) := Array.getElem?_eq_getElem (by omega)
          rw [this, getElem!_pos zv.cells j (by omega)]
          rfl
        have hb := (Below.refl w.heap.size w).alloc (Nat.le_refl _) (.cells arr el)
        have h2 := h.own (w' := w.alloc (.cells arr el)) (t := s) (p := ⟨w.heap.size, m.toNat, esz, el⟩) (es := List.replicate n.toNat z) (bx1 := bx) hlo (fun _ => .inl rfl) (Old := fun _ => False) (.of_below hb) (fun _ h => h.elim) (.inl (Nat.le_refl _)) (fun S' ρ' hS hρ => by
          refine ⟨⟨arr, heap_alloc_new w _, hsa, fun _ j => zv.cells.getD j undef, fun i' y j c hi' hj => ?_⟩, by simp; omega, by simp only [maxLen]; omega, fun i' y hi' => ?_⟩
          · have hi2 := (List.getElem?_eq_some_iff.1 hi').1
            simp only [List.length_replicate] at hi2
            have hy : y = z := by
              have := List.mem_of_getElem? hi'
              exact List.eq_of_mem_replicate this
            subst hy
            rw [hcells] at hj
            have hj2 := (List.getElem?_eq_some_iff.1 hj).1
            have h1 := List.all_eq_true.1 hone c (List.mem_of_getElem? hj)
            rw [hz2, List.getElem?_map, Option.map_eq_some_iff] at hj
            obtain ⟨u, hu, rfl⟩ := hj
            rw [Array.getElem?_toList] at hu
            have hgd : zv.cells.getD j undef = u := by rw [Array.getD_eq_getD_getElem?, hu]; rfl
            refine ⟨hget i' j (by omega) (by omega), ?_, ?_⟩
            · dsimp only; rw [hgd]; exact .pure (rep_ofC u)
            · dsimp only; rw [hgd]; exact (Rep.pure (w := w) (S := Stab X ρ bx w) (ρ := ρ) (rep_ofC u)).one h1
          · have hy : y = z := List.eq_of_mem_replicate (List.mem_of_getElem? hi')
            subst hy
            rw [hcells]; show (tiOf P el).zero.length = esz; omega)
        refine ⟨.slice (some ⟨w.heap.size, 0, none⟩) n.toNat m.toNat, _, ?_, _, h2.put (dst := some d) (fun t ht => by injection ht with ht; subst ht; exact hd) ?_⟩
        · have hby2 : (bytes : Int) * m ≤ 140737488355328 := by rw [Int.mul_comm]; exact hby
          have hp : (2 : Int) ^ 48 = 281474976710656 := by decide
          have hcond : (decide (m < 0) || decide ((bytes : Int) * m > 2 ^ 48) || decide (n < 0) || decide (n > m)) = false := by
            rw [hp]
            simp only [Bool.or_eq_false_iff, decide_eq_false_iff_not]
            omega
          have ha : ∀ k (n : Int), (asInt (.int k n)).run P w = .ok n w := fun k n => by simp [asInt, asIntOf]
          have hw1 : IntKind.i64.wrap n = n := IntWalk.i64_in n ⟨by omega, by omega⟩
          have hw2 : IntKind.i64.wrap m = m := IntWalk.i64_in m ⟨by omega, by omega⟩
          have hprog : (program).run P w = .ok P w := by simp [go_sem]
          have hzv : (zeroValue el).run P w = .ok zv w := by simp [zeroValue, typeInfo, hi, hz1, go_sem]
          simp only [execOp, Instr.makeSlice, hl.inv_int, hc.inv_int, Sem.run_bind, run_underlying hu, Sem.run_pure, Result.andThen_ok, ha, typeInfo, hprog, hi, hbi, hw1, hw2, hcond, Bool.false_eq_true, if_false, run_askRoom, run_sizeT (P := P) (t := el) (by omega), ← he]
          by_cases hz0 : m.toNat * esz = 0
          · simp only [hz0, if_true] at harr
            simp only [hz0, if_true, Sem.run_bind, Sem.run_pure, Result.andThen_ok, newRow, newObj, Sem.run, World.alloc]
            rw [← harr]
          · simp only [hz0, if_false] at harr
            simp only [hz0, if_false, Sem.run_bind, Sem.run_pure, Result.andThen_ok, hzv, newRow, newObj, Sem.run, World.alloc]
            rw [← harr]
        · simp only [List.length_replicate]
          refine .osl (p := ⟨w.heap.size, m.toNat, esz, el⟩) ?_ rfl (fun _ => ⟨rfl, rfl⟩) (fun _ => by simp) ?_ ?_
          · simp
          · simp; omega
          · simp only [maxLen]; omega
      · cases hz
    · cases hz
  · cases hz

theorem litX_sound (h : Sim X ρ σ bx a w) {T d s n : Nat} (hd : d < X.N) (hlo : X.lo ≤ s) {ps : Array (Nat × Operand)} {r : Nat × TypeId × List D} (hz : litXD (tiOf P) (tiOf P T) n (ps.toList.map fun p => (p.1, ev σ p.2)) = some r) :
    ∃ v w', (execOp a.eval ⟨some d, .buildSlice T n ps, ty, pos, af, g⟩).run P w = .ok (.value v) w' ∧
      ∃ ρ', Sim X ρ' (upd σ d (.osl s ((bx s).ep + 1) r.1 0 r.2.2.length)) (upd bx s ⟨(bx s).ep + 1, 1, r.1, r.2.1, r.2.2⟩) (a.put (some d) v) w' := by
  unfold litXD at hz
  split at hz
  · rename_i e esz b ag hk
    split at hz
    · rename_i hc
      obtain ⟨hm, ha, hpos, hbig, hzl⟩ := hc
      injection hz with hz
      subst hz
      obtain ⟨hu, hse, _, _⟩ := ti_slice hk
      generalize hds : (ps.toList.map fun p => (p.1, ev σ p.2)) = dps at hm ha
      have hlen : dps.length = n := by have := congrArg List.length hm; simpa using this
      obtain ⟨vs', hrun, hrep⟩ := lit_run (ag := ag) h hu hse hds hm ha hpos hbig hzl
      have hel : ∀ x ∈ dps.map (·.2), x.cells.length = esz ∧ x.cells.all D.one = true := by
        intro x hx
        obtain ⟨p, hp, rfl⟩ := List.mem_map.1 hx
        have := List.all_eq_true.1 ha p hp
        simp only [Bool.and_eq_true, beq_iff_eq] at this
        exact this
      have hcell : ∀ (i : Nat) d (j : Nat) c, (dps.map (·.2))[i]? = some d → d.cells[j]? = some c → ∃ u, vs'[i * esz + j]? = some u ∧ Rep w (Stab X ρ bx w) ρ c u := by
        intro i d j c hi hj
        have hd := hel d (List.mem_of_getElem? hi)
        have hj' : j < esz := by have := (List.getElem?_eq_some_iff.1 hj).1; omega
        have hf := flat_get (sz := esz) (dps.map (·.2)) i j d (fun x hx => (hel x hx).1) hi hj'
        rw [hj] at hf
        have hlt := (List.getElem?_eq_some_iff.1 hf).1
        have hlt' : i * esz + j < vs'.size := by rw [hrep.1]; exact hlt
        have hu' : vs'[i * esz + j]? = some vs'[i * esz + j] := Array.getElem?_eq_getElem hlt'
        exact ⟨_, hu', hrep.2 _ _ _ hf hu'⟩
      have hgd : ∀ (i : Nat) d (j : Nat) c, (dps.map (·.2))[i]? = some d → d.cells[j]? = some c → vs'[i * esz + j]? = some (vs'.getD (i * esz + j) undef) ∧ Rep w (Stab X ρ bx w) ρ c (vs'.getD (i * esz + j) undef) := by
        intro i d j c hi hj
        obtain ⟨u, hu', hr⟩ := hcell i d j c hi hj
        have : vs'.getD (i * esz + j) undef = u := by rw [Array.getD_eq_getD_getElem?, hu']; rfl
        rw [this]; exact ⟨hu', hr⟩
      have hsa : vs'.size = n * esz := by
        rw [hrep.1, flat_len (dps.map (·.2)) (fun x hx => (hel x hx).1)]
        simp [hlen]
      have hb := (Below.refl w.heap.size w).alloc (Nat.le_refl _) (.cells vs' e)
      have hmn : n ≤ n * esz := Nat.le_mul_of_pos_right n hpos
      have h2 := h.own (w' := w.alloc (.cells vs' e)) (t := s) (p := ⟨w.heap.size, n, esz, e⟩) (es := dps.map (·.2)) (bx1 := bx) hlo (fun _ => .inl rfl) (Old := fun _ => False) (.of_below hb) (fun _ h => h.elim) (.inl (Nat.le_refl _)) (fun S' ρ' hS hρ => by
        refine ⟨⟨vs', heap_alloc_new w _, hsa, fun i j => vs'.getD (i * esz + j) undef, fun i' y j c hi' hj => ?_⟩, by simp; omega, by simp only [maxLen]; omega, fun i' y hi' => ?_⟩
        · obtain ⟨g1, g2⟩ := hgd i' y j c hi' hj
          have h1 := List.all_eq_true.1 (hel y (List.mem_of_getElem? hi')).2 c (List.mem_of_getElem? hj)
          exact ⟨g1, (g2.mono (fun b hb' => hb.block b hb'.1) (fun b hb' => hS b hb') hρ), g2.one h1⟩
        · exact (hel y (List.mem_of_getElem? hi')).1)
      refine ⟨.slice (some ⟨w.heap.size, 0, none⟩) n n, _, ?_, _, h2.put (dst := some d) (fun t ht => by injection ht with ht; subst ht; exact hd) ?_⟩
      · simp only [execOp, Sem.run_bind, hrun, Result.andThen_ok, Sem.run_pure]
      · simp only [List.length_map, hlen]
        refine .osl (p := ⟨w.heap.size, n, esz, e⟩) ?_ rfl (fun _ => ⟨rfl, rfl⟩) (fun _ => by simp) ?_ ?_
        · simp
        · simp
        · simp only [maxLen]; omega
    · cases hz
  · cases hz

theorem box_sound (h : Sim X ρ σ bx a w) {T d s : Nat} (hd : d < X.N) (hlo : X.lo ≤ s) {x : Operand} {z : D} (hz : boxD (tiOf P T) (ev σ x) = some z) :
    ∃ v w', (execOp a.eval ⟨some d, .box T x, ty, pos, af, g⟩).run P w = .ok (.value v) w' ∧
      ∃ ρ', Sim X ρ' (upd σ d (.loc s ((bx s).ep + 1) 0 0)) (upd bx s ⟨(bx s).ep + 1, 1, (tiOf P T).size, T, [z]⟩) (a.put (some d) v) w' := by
  have hx := h.ev x
  generalize ev σ x = dx at hz hx
  unfold boxD at hz
  split at hz
  · rename_i hc
    obtain ⟨hpos, hl, hone⟩ := hc
    injection hz with hz
    subst hz
    obtain ⟨hs, hcc⟩ := hx.cells hone
    obtain ⟨ρ', h'⟩ := newvar (T := T) h hd hlo (v := a.eval x) (x := dx) hs hcc
    rw [hl] at h'
    refine ⟨_, _, ?_, ρ', h'⟩
    simp only [execOp, Instr.box, Sem.run_bind, Result.andThen_ok, newVar, newRow, newObj, Sem.run_pure, Sem.run, World.alloc]
  · cases hz

theorem setD_len {d d' : D} {j : Nat} {cs : List D} (h : setD d j cs = some d') (hone : cs.all D.one = true) : d'.cells.length = d.cells.length ∧ j + cs.length ≤ d.cells.length ∧ ∀ (k : Nat) c, d'.cells[k]? = some c → (j ≤ k ∧ k < j + cs.length ∧ cs[k - j]? = some c) ∨ ((k < j ∨ j + cs.length ≤ k) ∧ d.cells[k]? = some c) := by
  unfold setD at h
  split at h
  · rename_i hle
    cases d with
    | agg ds =>
      simp only [Option.some.injEq] at h
      subst h
      simp only [D.cells] at hle ⊢
      refine ⟨by simp; omega, hle, fun k c hk => ?_⟩
      by_cases h1 : k < j
      · rw [List.append_assoc, List.getElem?_append_left (by simp; omega), List.getElem?_take_of_lt h1] at hk
        exact .inr ⟨.inl h1, hk⟩
      · have hl : (ds.take j).length = j := by simp; omega
        by_cases h2 : k < j + cs.length
        · rw [List.append_assoc, List.getElem?_append_right (by omega), hl, List.getElem?_append_left (by omega)] at hk
          exact .inl ⟨by omega, h2, hk⟩
        · have hl2 : (ds.take j ++ cs).length = j + cs.length := by simp; omega
          rw [List.getElem?_append_right (by omega), hl2, List.getElem?_drop] at hk
          have : j + cs.length + (k - (j + cs.length)) = k := by omega
          rw [this] at hk
          exact .inr ⟨.inr (by omega), hk⟩
    | _ =>
      all_goals
        match cs, h with
        | [c], h =>
          simp only [Option.some.injEq] at h
          subst h
          simp only [List.all_cons, List.all_nil, Bool.and_true] at hone
          rw [cells_single hone]
          simp only [D.cells, List.length_cons, List.length_nil] at hle ⊢
          refine ⟨by simp, hle, fun k c' hk => ?_⟩
          obtain rfl : j = 0 := by omega
          have hk0 : k = 0 := by have := (List.getElem?_eq_some_iff.1 hk).1; simp at this; exact this
          subst hk0
          exact .inl ⟨Nat.le_refl _, by omega, hk⟩
  · cases h


/-- A row of which vs is written at o. -/
def putRow (cur : Array Value) (o : Nat) (vs : Array Value) : Array Value :=
  (cur.toList.take o ++ vs.toList ++ cur.toList.drop (o + vs.size)).toArray

theorem putRow_size {cur vs : Array Value} {o : Nat} (h : o + vs.size ≤ cur.size) : (putRow cur o vs).size = cur.size := by
  unfold putRow
  simp only [List.size_toArray, List.length_append, List.length_take, List.length_drop, Array.length_toList]
  omega

theorem putRow_get {cur vs : Array Value} {o : Nat} (h : o + vs.size ≤ cur.size) (k : Nat) : (putRow cur o vs)[k]? = if o ≤ k ∧ k < o + vs.size then vs[k - o]? else cur[k]? := by
  unfold putRow
  rw [List.getElem?_toArray]
  have hl1 : (cur.toList.take o).length = o := by simp only [List.length_take, Array.length_toList]; omega
  by_cases h1 : k < o
  · rw [if_neg (by omega), List.append_assoc, List.getElem?_append_left (by omega), List.getElem?_take_of_lt h1, Array.getElem?_toList]
  · by_cases h2 : k < o + vs.size
    · rw [if_pos (by omega), List.append_assoc, List.getElem?_append_right (by omega), hl1, List.getElem?_append_left (by simp only [Array.length_toList]; omega), Array.getElem?_toList]
    · have hl2 : (cur.toList.take o ++ vs.toList).length = o + vs.size := by simp only [List.length_append, hl1, Array.length_toList]
      rw [if_neg (by omega), List.getElem?_append_right (by omega), hl2, List.getElem?_drop, Array.getElem?_toList]
      congr 1
      omega

theorem holds_put {S : Nat → Prop} {p : Place} {es : List D} {i j : Nat} {d0 d' dy : D} {v : Value}
    (hh : Holds w S ρ p es) (hS : ∀ b, S b → b ≠ p.b) (hi : es[i]? = some d0) (hset : setD d0 j dy.cells = some d') (hone : dy.cells.all D.one = true) (hy : Rep w S ρ dy v) :
    ∃ cur, w.heap[p.b]? = some (.cells cur p.ty) ∧ i * p.sz + j + v.cells.size ≤ cur.size ∧ (∀ u ∈ v.cells.toList, u.oneCell' = true) ∧
      Holds (w.setRow p.b (putRow cur (i * p.sz + j) v.cells)) S ρ p (es.set i d') := by
  obtain ⟨⟨cur, hcur, hcs, us, hus⟩, hlc, hmx, hsz⟩ := hh
  obtain ⟨hs, hcc⟩ := hy.cells hone
  obtain ⟨hlen, hfit, hget⟩ := setD_len hset hone
  have hd0 := hsz i d0 hi
  have hilt := (List.getElem?_eq_some_iff.1 hi).1
  have hmul : i * p.sz + p.sz ≤ cur.size := by
    rw [hcs, ← Nat.succ_mul]; exact Nat.mul_le_mul_right _ (by omega)
  have hroom : i * p.sz + j + v.cells.size ≤ cur.size := by omega
  refine ⟨cur, hcur, hroom, fun u hu => ?_, ?_⟩
  · obtain ⟨k, hk1, hk2⟩ := List.mem_iff_getElem.1 hu
    have hkl : k < dy.cells.length := by rw [← hs]; simpa using hk1
    obtain ⟨u', hu', _, h1⟩ := hcc k _ (List.getElem?_eq_getElem hkl)
    have : u = u' := by
      have h3 : v.cells.toList[k]? = some u := by rw [List.getElem?_eq_getElem hk1, hk2]
      rw [Array.getElem?_toList, hu'] at h3
      injection h3 with h3; exact h3.symm
    rw [this]; exact h1
  · have hnewsz := putRow_size hroom
    have hnewget := putRow_get hroom
    generalize putRow cur (i * p.sz + j) v.cells = new at hnewsz hnewget ⊢
    have hmono : ∀ c u, Rep w S ρ c u → Rep (w.setRow p.b new) S ρ c u := fun c u hr => hr.mono (fun b hb' => setRow_other w p.b b new (hS b hb')) (fun _ h => h) (fun _ _ _ h => h)
    have fin : ∀ c q u, new[q]? = some u → Rep w S ρ c u → u.oneCell' = true → new[q]? = some (new.getD q undef) ∧ Rep (w.setRow p.b new) S ρ c (new.getD q undef) ∧ (new.getD q undef).oneCell' = true := by
      intro c q u hu hr h1
      have : new.getD q undef = u := by rw [Array.getD_eq_getD_getElem?, hu]; rfl
      rw [this]; exact ⟨hu, hmono _ _ hr, h1⟩
    refine ⟨⟨new, setRow_heap w p.b cur new p.ty (0, 0) hcur, by rw [hnewsz, hcs], fun i' k => new.getD (i' * p.sz + k) undef, fun i' d k c hi' hk' => ?_⟩, by simpa using hlc, hmx, fun i' d hi' => ?_⟩
    · by_cases hii : i' = i
      · subst hii
        rw [List.getElem?_set_self (by omega)] at hi'
        injection hi' with hi'
        subst hi'
        rcases hget k c hk' with ⟨k1, k2, k3⟩ | ⟨k1, k3⟩
        · obtain ⟨u, hu, hr, h1⟩ := hcc _ _ k3
          refine fin _ _ u ?_ hr h1
          rw [hnewget, if_pos (by omega)]
          have : i' * p.sz + k - (i' * p.sz + j) = k - j := by omega
          rw [this]; exact hu
        · obtain ⟨u1, u2, u3⟩ := hus i' d0 k c hi k3
          refine fin _ _ _ ?_ u2 u3
          rw [hnewget, if_neg (by omega)]
          exact u1
      · rw [List.getElem?_set_ne (Ne.symm hii)] at hi'
        have hkz : k < p.sz := by have := (List.getElem?_eq_some_iff.1 hk').1; rw [hsz i' d hi'] at this; exact this
        obtain ⟨u1, u2, u3⟩ := hus i' d k c hi' hk'
        refine fin _ _ _ ?_ u2 u3
        rw [hnewget, if_neg ?_]
        · exact u1
        · rcases Nat.lt_or_gt_of_ne hii with hlt | hgt
          · have := Nat.mul_le_mul_right p.sz (show i' + 1 ≤ i from hlt)
            rw [Nat.succ_mul] at this; omega
          · have := Nat.mul_le_mul_right p.sz (show i + 1 ≤ i' from hgt)
            rw [Nat.succ_mul] at this; omega
    · by_cases hii : i' = i
      · subst hii
        rw [List.getElem?_set_self (by omega)] at hi'
        injection hi' with hi'
        subst hi'
        rw [hlen, hd0]
      · rw [List.getElem?_set_ne (Ne.symm hii)] at hi'
        exact hsz i' d hi'

theorem store_sound (h : Sim X ρ σ bx a w) {T : Nat} {x y : Operand} {dst : Option Tmp} (hdst : ∀ t, dst = some t → t < X.N) {lo : Nat} (hlo : X.lo ≤ lo) {bx' : Bxs} (hv : storeD lo (tiOf P T) bx (ev σ x) (ev σ y) = some bx') :
    ∃ w', (execOp a.eval ⟨dst, .store T x y, ty, pos, af, g⟩).run P w = .ok .skip w' ∧ ∃ ρ', Sim X ρ' (put σ dst (.raw undef)) bx' (a.put dst undef) w' := by
  have hx := h.ev x
  have hy := h.ev y
  generalize ev σ x = dx at hv hx
  generalize ev σ y = dy at hv hy
  unfold storeD at hv
  split at hv
  · rename_i t e i j
    split at hv
    · rename_i hc
      obtain ⟨hlt, hl, hpos, hone⟩ := hc
      unfold bxSet at hv
      split at hv
      · rename_i hk
        obtain ⟨he, hk⟩ := hk
        cases hi : (bx t).es[i]? with
        | none => simp [hi] at hv
        | some d0 =>
          simp only [hi, Option.map_eq_some_iff] at hv
          obtain ⟨d', hset, rfl⟩ := hv
          obtain ⟨p, hp, hax⟩ := hx.inv_loc
          obtain ⟨p', hp', hpz, hpt, hpb, hh⟩ := h.box t (by rw [hk]; decide)
          rw [he, hp] at hp'; injection hp' with hp'; subst hp'
          have hrp : ρ t (bx t).ep = some p := by rw [he]; exact hp
          obtain ⟨cur, hcur, hroom, hall, hh'⟩ := holds_put hh (fun b hb e => hb.2.2 t hk p hrp e.symm) hi hset hone hy
          obtain ⟨hs, _⟩ := hy.cells hone
          have hst := run_storeCells_at P p.b (i * p.sz + j) p.ty (a.eval y).cells.toList 0 cur w hcur (by simpa using hroom) hall
          simp only [Nat.add_zero, Array.length_toList] at hst
          have hfr : Fr (fun b => b = p.b) w (w.setRow p.b (putRow cur (i * p.sz + j) (a.eval y).cells)) := ⟨rfl, rfl, rfl, by simp [World.setRow], fun k _ hk => setRow_other w p.b k _ hk⟩
          refine ⟨w.setRow p.b (putRow cur (i * p.sz + j) (a.eval y).cells), ?_, ρ, ((h.stored (Nat.le_trans hlo hlt) hk hrp hfr hh').put hdst (.pure (.raw _)))⟩
          have hsize := run_sizeT (P := P) (t := T) hpos w
          have hszT : (tiOf P T).size = sizeT P T := rfl
          have hne : ¬ ((a.eval y).cells.size ≠ sizeT P T) := by rw [hs, hl, hszT]; simp
          simp only [execOp, Instr.storeAt, Instr.sureAddr, hax, Sem.run_bind, Sem.run_pure, Result.andThen_ok, storeVar, hsize, hne, if_false]
          rw [hst]
          simp only [Result.andThen_ok, putRow]
      · cases hv
    · cases hv
  · cases hv

end Go.V

namespace Go.V
open Go.RowKit

variable {P : Program} {X : Ctx} {ρ : Rho} {σ : Env} {bx : Bxs} {a : Act} {w : World}
variable {ty : TypeId} {pos : String} {af : Array Edge} {g : Option (Nat × Bool)}

theorem Rep.inv_osl {S : Nat → Prop} {t e sz o n : Nat} {v : Value} (h : Rep w S ρ (.osl t e sz o n) v) : ∃ p off cap, ρ t e = some p ∧ p.sz = sz ∧ (o = 0 → off = 0 ∧ cap = p.cap) ∧ (0 < n → off = o * sz) ∧ n ≤ cap ∧ o + cap ≤ p.cap ∧ p.cap ≤ maxLen ∧
    v = .slice (some ⟨p.b, off, none⟩) n cap := by
  cases h with
  | pure h => cases h
  | osl hp hsz h0 hoff hn hcap => exact ⟨_, _, _, hp, hsz, h0, fun h => hoff (by omega), hn, hcap.1, hcap.2, rfl⟩

theorem elems_sound (h : Sim X ρ σ bx a w) {esz : Nat} {x : D} {v : Value} (hx : Rep w (Stab X ρ bx w) ρ x v) {ys : List D} (he : elemsD bx esz x = some ys) :
    ∃ A c b off, ∃ us : Nat → Nat → Value, v = .slice A ys.length c ∧ (ys ≠ [] → A = some ⟨b, off, none⟩) ∧ (∀ (i : Nat) d, ys[i]? = some d → d.cells.length = esz) ∧
      ∀ (i : Nat) d (j : Nat) c, ys[i]? = some d → d.cells[j]? = some c → w.cell? ⟨b, off + i * esz + j, none⟩ = some (us i j) ∧ Rep w (Stab X ρ bx w) ρ c (us i j) ∧ (us i j).oneCell' = true := by
  unfold elemsD at he
  split at he
  · injection he with he; subst he
    exact ⟨none, 0, 0, 0, fun _ _ => undef, hx.inv_nil, by simp, by simp, by simp⟩
  · rename_i sz es
    split at he
    · rename_i hs
      injection he with he; subst he; subst hs
      cases hx with
      | pure hx =>
        cases hx with
        | @sl _ _ A n cap b off us hn hcap hmax hA hsz hc h1 hr =>
          subst hn
          exact ⟨A, cap, b, off, us, rfl, fun hne => (hA hne).1, hsz, fun i d j c hi hj => ⟨hc i d j c hi hj, .pure (hr i d j c hi hj), h1 i d j c hi hj⟩⟩
    · cases he
  · rename_i t e sz o n
    split at he
    · rename_i hs
      obtain ⟨hs, hep, hk, hbs, hle⟩ := hs
      injection he with he; subst hs
      obtain ⟨p, off, cap, hp, hpz, h0, hoff, hn, hoc, hmax, rfl⟩ := hx.inv_osl
      obtain ⟨p', hp', hpz', hpt, hpb, hh⟩ := h.box t hk
      rw [hep, hp] at hp'; injection hp' with hp'; subst hp'
      have hl : ys.length = n := by rw [← he]; simp; omega
      have hget : ∀ (i : Nat) d, ys[i]? = some d → (bx t).es[o + i]? = some d ∧ 0 < n := by
        intro i d hi
        have hi' := (List.getElem?_eq_some_iff.1 hi).1
        rw [← he, List.getElem?_take_of_lt (by omega), List.getElem?_drop] at hi
        exact ⟨hi, by omega⟩
      obtain ⟨⟨cur, hcur, hcs, us, hus⟩, hlc, hmx, hsz⟩ := hh
      refine ⟨_, _, p.b, off, fun i j => us (o + i) j, by rw [hl], fun _ => rfl, fun i d hi => (hsz _ d (hget i d hi).1).trans hpz, fun i d j c hi hj => ?_⟩
      obtain ⟨h1, h2⟩ := hget i d hi
      obtain ⟨u1, u2, u3⟩ := hus (o + i) d j c h1 hj
      refine ⟨?_, u2, u3⟩
      have : off + i * sz + j = (o + i) * p.sz + j := by rw [hoff h2, Nat.add_mul, hpz]
      rw [this]
      simp [World.cell?, hcur, u1]
    · cases he
  · cases he

/-- The cells of a row, one after another. -/
def rowOf (us : Nat → Nat → Value) (m sz : Nat) : List Value := (List.range (m * sz)).map fun k => us (k / sz) (k % sz)

theorem rowOf_len (us : Nat → Nat → Value) (m sz : Nat) : (rowOf us m sz).length = m * sz := by simp [rowOf]
theorem rowOf_get {us : Nat → Nat → Value} {m sz i j : Nat} (hi : i < m) (hj : j < sz) : (rowOf us m sz)[i * sz + j]? = some (us i j) := by
  have hlt : i * sz + j < m * sz := by
    have := Nat.mul_le_mul_right sz (show i + 1 ≤ m from hi)
    rw [Nat.succ_mul] at this; omega
  unfold rowOf
  rw [List.getElem?_map, List.getElem?_range hlt, Option.map_some]
  congr 2
  · rw [Nat.add_comm, Nat.add_mul_div_right _ _ (by omega), Nat.div_eq_of_lt hj, Nat.zero_add]
  · rw [Nat.add_comm, Nat.add_mul_mod_self_right, Nat.mod_eq_of_lt hj]
theorem rowOf_inv {us : Nat → Nat → Value} {m sz k : Nat} {u : Value} (h : (rowOf us m sz)[k]? = some u) : ∃ i j, i < m ∧ j < sz ∧ k = i * sz + j ∧ u = us i j := by
  have hk : k < m * sz := by have := (List.getElem?_eq_some_iff.1 h).1; rw [rowOf_len] at this; exact this
  have hz : 0 < sz := by rcases Nat.eq_zero_or_pos sz with h0 | h0; · subst h0; simp at hk
                         · exact h0
  have hdm : k / sz * sz + k % sz = k := Nat.div_add_mod' k sz
  have hi : k / sz < m := Nat.div_lt_of_lt_mul (by rw [Nat.mul_comm]; exact hk)
  have hj := Nat.mod_lt k hz
  refine ⟨k / sz, k % sz, hi, hj, hdm.symm, ?_⟩
  have := rowOf_get (us := us) hi hj
  rw [hdm, h] at this
  injection this

theorem append_core (h : Sim X ρ σ bx a w) {T d sl el esz bytes n : Nat} {ag : Bool} (hd : d < X.N) (hlo : X.lo ≤ sl) (hk : (tiOf P T).k = .slice el esz bytes ag) (hez : esz ≠ 0) (hz : (tiOf P el).zero.length = esz)
    {vx vy : Value} {xs : List Value} {xs0 ys : List D} {us0 : Nat → Nat → Value} (hown : w.ownsRow 0 el esz vx n xs) (hxl : xs0.length = n)
    (hxz : ∀ (i : Nat) d, xs0[i]? = some d → d.cells.length = esz)
    (hxs : ∀ (i : Nat) d (j : Nat) c, xs0[i]? = some d → d.cells[j]? = some c → xs[i * esz + j]? = some (us0 i j) ∧ Rep w (Stab X ρ bx w) ρ c (us0 i j) ∧ (us0 i j).oneCell' = true)
    {c b off : Nat} {us : Nat → Nat → Value} (hne : ys ≠ []) (hvy : vy = .slice (some ⟨b, off, none⟩) ys.length c) (hyz : ∀ (i : Nat) d, ys[i]? = some d → d.cells.length = esz)
    (hys : ∀ (i : Nat) d (j : Nat) c, ys[i]? = some d → d.cells[j]? = some c → w.cell? ⟨b, off + i * esz + j, none⟩ = some (us i j) ∧ Rep w (Stab X ρ bx w) ρ c (us i j) ∧ (us i j).oneCell' = true)
    (hby : (n + ys.length) * bytes ≤ 140737488355328) (hb0 : 0 < bytes) {bx1 : Bxs} (h1 : ∀ s, bx1 s = bx s ∨ ((bx1 s).k = 0 ∧ (bx1 s).ep = (bx s).ep ∧ X.lo ≤ s))
    (hO : ∀ b, some b = vx.ownBlock → ∃ t0 p0, (bx t0).k = 1 ∧ ρ t0 (bx t0).ep = some p0 ∧ p0.b = b ∧ (t0 = sl ∨ (bx1 t0).k = 0)) :
    ∃ v w', (Builtin.append_ #[T, T] ty #[vx, vy]).run P w = .ok v w' ∧
      ∃ ρ', Sim X ρ' (upd σ d (.osl sl ((bx sl).ep + 1) esz 0 (n + ys.length))) (upd bx1 sl ⟨(bx sl).ep + 1, 1, esz, el, xs0 ++ ys⟩) (a.put (some d) v) w' := by
  obtain ⟨hu, he, hbt, _⟩ := ti_slice hk
  obtain ⟨i, z, hi, hzz, hzc⟩ := zero_ex (P := P) (t := el) (by omega)
  have hsz : i.size = esz := by
    obtain ⟨i', _, hi', _, hs'⟩ := size_ex (P := P) (t := el) (by omega)
    rw [hi] at hi'; injection hi' with hi'; rw [hi', hs', he]
  have hbi : i.bytes = bytes := by rw [hbt, hi]; rfl
  have hzs : z.cells.size = esz := by rw [← hz, hzc]; simp
  have hmm : (n + ys.length) ≤ maxLen := by
    have := Nat.le_mul_of_pos_right (n + ys.length) hb0
    simp only [maxLen]; omega
  have hm0 : 0 < ys.length := List.length_pos_iff.2 hne
  have hcell : ∀ i j, i < ys.length → j < esz → w.cell? ⟨b, off + i * esz + j, none⟩ = some (us i j) ∧ (us i j).oneCell' = true := by
    intro i j hi hj
    have hd := List.getElem?_eq_getElem hi
    have hc := List.getElem?_eq_getElem (show j < ys[i].cells.length by rw [hyz i _ hd]; exact hj)
    exact ⟨(hys i _ j _ hd hc).1, (hys i _ j _ hd hc).2.2⟩
  obtain ⟨v', w', hr, hrow, hgr, hnil, hblk⟩ := run_append_own_at (P := P) w 0 T ty el i z esz bytes hu hi hzz hsz hbi hzs (by omega) vx n xs hown ⟨b, off, none⟩ ys.length c (rowOf us ys.length esz) (rowOf_len _ _ _)
    (fun j u hj => by
      obtain ⟨k, l, hk, hl, rfl, rfl⟩ := rowOf_inv hj
      rw [Addr.add_none]
      have := (hcell k l hk hl).1
      rw [← Nat.add_assoc]; exact this)
    (fun u hu => by
      obtain ⟨j, hj⟩ := List.mem_iff_getElem?.1 hu
      obtain ⟨k, l, hk, hl, rfl, rfl⟩ := rowOf_inv hj
      exact (hcell k l hk hl).2) hmm hby (Nat.zero_le _)
  subst hvy
  obtain ⟨hlen, hrow⟩ := hrow
  rcases hrow with ⟨_, hrow⟩ | ⟨gg, cap, cur, rfl, _, hgg, hnc, hcm, hcs, htake⟩
  · omega
  have hold : w.heap.size ≤ gg ∨ some gg = vx.ownBlock := by
    rcases hblk with hb | hb
    · exact .inr hb
    · simp only [Value.ownBlock, Option.some.injEq] at hb; exact .inl (by omega)
  have hw : ∀ b, Stab X ρ bx w b → w'.heap[b]? = w.heap[b]? := fun b hb => hgr.block b hb.1 (fun e => by
    obtain ⟨t0, p0, hk0, hr0, hp0, _⟩ := hO b e
    exact hb.2.2 t0 hk0 p0 hr0 hp0)
  have hat : ∀ (k : Nat) (u : Value), (xs ++ rowOf us ys.length esz)[k]? = some u → cur[k]? = some u := by
    intro k u hk
    rw [← htake] at hk
    have hlt := (List.getElem?_eq_some_iff.1 hk).1
    rw [List.length_take] at hlt
    rw [List.getElem?_take_of_lt (by omega), Array.getElem?_toList] at hk
    exact hk
  have h2 := h.own (w' := w') (t := sl) (p := ⟨gg, cap, esz, el⟩) (es := xs0 ++ ys) (bx1 := bx1) hlo h1 (Old := fun b => some b = vx.ownBlock) (.of_grown hgr) hO hold (fun S' ρ' hS hρ => by
    have hmono : ∀ c u, Rep w (Stab X ρ bx w) ρ c u → Rep w' S' ρ' c u := fun c u hr => hr.mono hw hS hρ
    refine ⟨⟨cur, hgg, hcs, fun i j => if i < n then us0 i j else us (i - n) j, fun i y j c hi hj => ?_⟩, by simp [hxl, hnc], hcm, fun i y hi => ?_⟩
    · dsimp only
      by_cases hin : i < n
      · rw [List.getElem?_append_left (by omega)] at hi
        obtain ⟨u1, u2, u3⟩ := hxs i y j c hi hj
        simp only [hin, if_true]
        refine ⟨hat _ _ ?_, hmono _ _ u2, u3⟩
        rw [List.getElem?_append_left ((List.getElem?_eq_some_iff.1 u1).1)]
        exact u1
      · rw [List.getElem?_append_right (by omega), hxl] at hi
        obtain ⟨u1, u2, u3⟩ := hys (i - n) y j c hi hj
        simp only [hin, if_false]
        refine ⟨hat _ _ ?_, hmono _ _ u2, u3⟩
        have hjz : j < esz := by have := (List.getElem?_eq_some_iff.1 hj).1; rw [hyz _ y hi] at this; exact this
        have hil := (List.getElem?_eq_some_iff.1 hi).1
        have hxl' : xs.length = n * esz := hown.1
        have e1 : i * esz + j = n * esz + ((i - n) * esz + j) := by
          have : i = n + (i - n) := by omega
          conv => lhs; rw [this, Nat.add_mul]
          omega
        rw [List.getElem?_append_right (by rw [hxl', e1]; omega), hxl', e1, Nat.add_sub_cancel_left]
        exact rowOf_get hil hjz
    · by_cases hin : i < n
      · rw [List.getElem?_append_left (by omega)] at hi
        exact hxz i y hi
      · rw [List.getElem?_append_right (by omega)] at hi
        exact hyz _ y hi)
  refine ⟨_, _, hr, _, h2.put (dst := some d) (fun t ht => by injection ht with ht; subst ht; exact hd) (.osl (p := ⟨gg, cap, esz, el⟩) ?_ rfl (fun _ => ⟨rfl, rfl⟩) (fun _ => by simp) hnc ⟨by simp, hcm⟩)⟩
  simp

theorem append_sound (h : Sim X ρ σ bx a w) {T T' : TypeId} {x y : Operand} {dst : Option Tmp} (hdst : ∀ t, dst = some t → t < X.N) {lo base : Nat} (hlo : X.lo ≤ lo) (hbase : X.lo ≤ base) {r : D × Bxs} (hv : appD lo (tiOf P) T T' (slotO base dst) bx (ev σ x) (ev σ y) = some r) :
    ∃ v w', (execOp a.eval ⟨dst, .call { callee := .builtin .append, args := #[x, y], argTypes := #[T, T'] }, ty, pos, af, g⟩).run P w = .ok (.value v) w' ∧ ∃ ρ', Sim X ρ' (put σ dst r.1) r.2 (a.put dst v) w' := by
  have hx := h.ev x
  have hy := h.ev y
  suffices hs : ∃ v w', (Builtin.append_ #[T, T'] ty #[a.eval x, a.eval y]).run P w = .ok v w' ∧ ∃ ρ', Sim X ρ' (put σ dst r.1) r.2 (a.put dst v) w' by
    obtain ⟨v, w', hr, hS⟩ := hs
    refine ⟨v, w', ?_, hS⟩
    simp only [execOp, resolve, invoke, builtin, Sem.run_bind, Sem.run_pure, Result.andThen_ok, List.map_toArray, List.map_cons, List.map_nil, hr]
  generalize ev σ x = dx at hv hx
  generalize ev σ y = dy at hv hy
  generalize a.eval x = vx at hx ⊢
  generalize a.eval y = vy at hy ⊢
  unfold appD at hv
  split at hv
  · rename_i hTT
    subst hTT
    unfold appK at hv
    split at hv
    · rename_i el esz bytes ag hk
      split at hv
      · cases hv
      · rename_i hez
        rw [Option.bind_eq_some_iff] at hv
        obtain ⟨ys, hel, hv⟩ := hv
        obtain ⟨A, c, b, off, us, hvy, hA, hyz, hys⟩ := elems_sound h hy hel
        unfold appendD at hv
        rw [hk] at hv
        cases dst with
        | none => simp [slotO] at hv
        | some d =>
          have hd := hdst d rfl
          dsimp only [slotO] at hv
          obtain ⟨hu, he, _, _⟩ := ti_slice hk
          have hsl : X.lo ≤ base + d := Nat.le_trans hbase (Nat.le_add_right _ _)
          split at hv
          · rename_i hy0
            subst hy0
            have hsl2 : ∃ B n cap, vx = .slice B n cap ∧ n ≤ cap ∧ r = (dx, bx) := by
              unfold slO at hv
              split at hv
              · injection hv with hv; exact ⟨none, 0, 0, hx.inv_nil, Nat.le_refl _, hv.symm⟩
              · injection hv with hv
                obtain ⟨p, off, cap, _, _, _, _, hn, _, _, hvx⟩ := hx.inv_osl
                exact ⟨_, _, _, hvx, hn, hv.symm⟩
              · injection hv with hv
                cases hx with
                | pure hx => cases hx with | sl hn hcap => exact ⟨_, _, _, rfl, hcap, hv.symm⟩
              · cases hv
            obtain ⟨B, n, cap, hvx, hnc, rfl⟩ := hsl2
            subst hvx hvy
            refine ⟨.slice B n cap, w, ?_, ρ, h.put (dst := some d) (fun t ht => by injection ht with ht; subst ht; exact hd) hx⟩
            have hsz := run_sizeT (P := P) (t := el) (by omega) w
            cases A <;> cases B <;> simp [Builtin.append_, run_underlying hu, hsz, Builtin.lenOf, Builtin.firstCells, loadCells, loadCellsFrom, hnc, storeCells]
          · rename_i hne
            split at hv
            · rename_i hzl
              obtain rfl := hA hne
              unfold appX at hv
              split at hv
              · split at hv
                · rename_i hc
                  injection hv with hv
                  subst hv
                  have := append_core (ty := ty) h hd hsl hk hez hzl (vx := vx) (xs := []) (xs0 := []) (n := 0) (us0 := fun _ _ => undef) (by rw [hx.inv_nil]; exact World.ownsRow_nil w 0 el esz) rfl (by simp) (by simp) hne hvy hyz hys (by simpa using hc.1) hc.2.2 (bx1 := bx) (fun _ => .inl rfl)
                    (by rw [hx.inv_nil]; simp [Value.ownBlock])
                  simp only [List.nil_append, Nat.zero_add] at this
                  exact this
                · cases hv
              · rename_i t e sz o n
                unfold appO at hv
                split at hv
                · rename_i hc
                  obtain ⟨c0, c1, c2, c3, c4, c5, c6, c7, c8, c9, c10⟩ := hc
                  injection hv with hv
                  subst hv
                  subst c1; subst c2
                  obtain ⟨p, off', cap, hp, hpz, h0, _, hn, _, hmax, hvx⟩ := hx.inv_osl
                  obtain ⟨rfl, rfl⟩ := h0 rfl
                  obtain ⟨p', hp', hpz', hpt, hpb, hh⟩ := h.box t (by rw [c4]; decide)
                  rw [c3, hp] at hp'; injection hp' with hp'; subst hp'
                  obtain ⟨⟨cur, hcur, hcs, us0, hus⟩, hlc, hmx, hsz⟩ := hh
                  have hlen : ((bx t).es.take n).length = n := by simp; omega
                  have hget : ∀ (i : Nat) d, ((bx t).es.take n)[i]? = some d → i < n ∧ (bx t).es[i]? = some d := by
                    intro i d hi
                    have := (List.getElem?_eq_some_iff.1 hi).1
                    rw [List.getElem?_take_of_lt (by omega)] at hi
                    exact ⟨by omega, hi⟩
                  have hfit : n * sz ≤ cur.size := by rw [hcs, hpz]; exact Nat.mul_le_mul_right _ (by omega)
                  have := append_core (ty := ty) h hd hsl hk hez hzl (vx := vx) (xs := cur.toList.take (n * sz)) (xs0 := (bx t).es.take n) (n := n) (us0 := us0)
                    (by rw [hvx]; refine ⟨by simp; omega, .inr ⟨p.b, p.cap, cur, rfl, Nat.zero_le _, ?_, hn, hmax, by rw [hcs, hpz], rfl⟩⟩; rw [hcur, hpt, c6]) hlen (fun i d hi => (hsz i d (hget i d hi).2).trans hpz)
                    (fun i d j c hi hj => by
                      obtain ⟨g1, g2⟩ := hget i d hi
                      obtain ⟨u1, u2, u3⟩ := hus i d j c g2 hj
                      refine ⟨?_, u2, u3⟩
                      have hjz : j < sz := by have := (List.getElem?_eq_some_iff.1 hj).1; rw [hsz i d g2, hpz] at this; exact this
                      have hlt : i * sz + j < n * sz := by
                        have := Nat.mul_le_mul_right sz (show i + 1 ≤ n from g1)
                        rw [Nat.succ_mul] at this; omega
                      rw [List.getElem?_take_of_lt hlt, Array.getElem?_toList, ← hpz]
                      exact u1) hne hvy hyz hys c8 c10 (bx1 := upd bx t { bx t with k := 0 })
                    (fun s => by
                      by_cases hs : s = t
                      · subst hs; exact .inr ⟨by simp [upd], by simp [upd], Nat.le_trans hlo c0⟩
                      · exact .inl (by simp [upd, hs]))
                    (by
                      rw [hvx]
                      intro b hb
                      simp only [Value.ownBlock, Option.some.injEq] at hb
                      exact ⟨t, p, c4, by rw [c3]; exact hp, hb.symm, .inr (by simp [upd])⟩)
                  exact this
                · cases hv
              · cases hv
            · cases hv
    · cases hv
  · cases hv

end Go.V

namespace Go.V
open Go.RowKit

variable {P : Program} {X : Ctx} {ρ : Rho} {σ : Env} {bx : Bxs} {a : Act} {w : World}
variable {ty : TypeId} {pos : String} {af : Array Edge} {g : Option (Nat × Bool)}

theorem run_append_room_off (t ty e : TypeId) (i : TypeInfo) (ht : P.underlying t = some (.slice e)) (hi : P.info? e = some i)
    (gg off sLen sCap : Nat) (cur : Array Value) (hg : w.heap[gg]? = some (.cells cur e (0, 0)))
    (ad : Addr) (m c : Nat) (news : List Value) (hl : news.length = m * i.size) (hnews : ∀ j u, news[j]? = some u → w.cell? (ad.add j) = some u) (h1 : ∀ u ∈ news, u.oneCell' = true)
    (hroom : sLen + m ≤ sCap) (hfit : off + sLen * i.size + news.length ≤ cur.size) :
    (Builtin.append_ #[t, t] ty #[.slice (some ⟨gg, off, none⟩) sLen sCap, .slice (some ad) m c]).run P w =
      .ok (.slice (some ⟨gg, off, none⟩) (sLen + m) sCap) (w.setRow gg (cur.toList.take (off + sLen * i.size) ++ news ++ cur.toList.drop (off + sLen * i.size + news.length)).toArray) := by
  have hf := run_firstCells_some (P := P) w i.size m ad m c news hl hnews
  have hst := run_storeCells_at P gg (off + sLen * i.size) e news 0 cur w hg (by simpa using hfit) h1
  simp only [Nat.add_zero] at hst
  simp [Builtin.append_, run_underlying ht, sizeOf, typeInfo, hi, Builtin.lenOf, hroom, hf, Addr.add_lit, hst]
theorem Rep.inv_osl2 {S : Nat → Prop} {t e sz o n : Nat} {v : Value} (h : Rep w S ρ (.osl t e sz o n) v) : ∃ p off cap, ρ t e = some p ∧ p.sz = sz ∧ (o = 0 → off = 0 ∧ cap = p.cap) ∧ (0 < cap → off = o * sz) ∧ n ≤ cap ∧ o + cap ≤ p.cap ∧ p.cap ≤ maxLen ∧
    v = .slice (some ⟨p.b, off, none⟩) n cap := by
  cases h with
  | pure h => cases h
  | osl hp hsz h0 hoff hn hcap => exact ⟨_, _, _, hp, hsz, h0, hoff, hn, hcap.1, hcap.2, rfl⟩

theorem append2_core (h : Sim X ρ σ bx a w) {T d sl el esz bytes n t e o : Nat} {ag : Bool} (hd : d < X.N) (hlo : X.lo ≤ sl) (hk : (tiOf P T).k = .slice el esz bytes ag) (hez : esz ≠ 0) (hz : (tiOf P el).zero.length = esz)
    {vx vy : Value} {ys : List D} (hx : Rep w (Stab X ρ bx w) ρ (.osl t e esz o n) vx) (hlt : X.lo ≤ t) (hep : (bx t).ep = e) (hk1 : (bx t).k = 1) (hbz : (bx t).sz = esz) (hty : (bx t).ty = el) (hle : o + n ≤ (bx t).es.length)
    {c b off2 : Nat} {us2 : Nat → Nat → Value} (hne : ys ≠ []) (hvy : vy = .slice (some ⟨b, off2, none⟩) ys.length c) (hyz : ∀ (i : Nat) d, ys[i]? = some d → d.cells.length = esz)
    (hys : ∀ (i : Nat) d (j : Nat) c, ys[i]? = some d → d.cells[j]? = some c → w.cell? ⟨b, off2 + i * esz + j, none⟩ = some (us2 i j) ∧ Rep w (Stab X ρ bx w) ρ c (us2 i j) ∧ (us2 i j).oneCell' = true)
    (hby : (n + ys.length) * bytes ≤ 140737488355328) (hb0 : 0 < bytes) :
    ∃ v w', (Builtin.append_ #[T, T] ty #[vx, vy]).run P w = .ok v w' ∧
      ∃ ρ', Sim X ρ' (upd σ d (.osl sl ((bx sl).ep + 1) esz 0 (n + ys.length))) (upd (upd bx t { bx t with k := 0 }) sl ⟨(bx sl).ep + 1, 1, esz, el, ((bx t).es.drop o).take n ++ ys⟩) (a.put (some d) v) w' ∨
        Sim X ρ' (upd σ d (.osl sl ((bx sl).ep + 1) esz o (n + ys.length))) (upd (upd bx t { bx t with k := 0 }) sl ⟨(bx sl).ep + 1, 1, esz, el, (bx t).es.take (o + n) ++ ys⟩) (a.put (some d) v) w' := by
  obtain ⟨hu, he, hbt, _⟩ := ti_slice hk
  obtain ⟨i, z, hi, hzz, hzc⟩ := zero_ex (P := P) (t := el) (by omega)
  have hsz : i.size = esz := by
    obtain ⟨i', _, hi', _, hs'⟩ := size_ex (P := P) (t := el) (by omega)
    rw [hi] at hi'; injection hi' with hi'; rw [hi', hs', he]
  have hbi : i.bytes = bytes := by rw [hbt, hi]; rfl
  have hzs : z.cells.size = esz := by rw [← hz, hzc]; simp
  have hmm : (n + ys.length) ≤ maxLen := by
    have := Nat.le_mul_of_pos_right (n + ys.length) hb0
    simp only [maxLen]; omega
  have hm0 : 0 < ys.length := List.length_pos_iff.2 hne
  obtain ⟨p, off, cap, hp, hpz, h0, hoff, hn, hoc, hmax, rfl⟩ := hx.inv_osl2
  obtain ⟨p', hp', hpz', hpt, hpb, hh⟩ := h.box t (by rw [hk1]; decide)
  rw [hep, hp] at hp'; injection hp' with hp'; subst hp'
  obtain ⟨⟨cur, hcur, hcs, us, hus⟩, hlc, hmx, hszz⟩ := hh
  have hcell2 : ∀ i j, i < ys.length → j < esz → w.cell? ⟨b, off2 + i * esz + j, none⟩ = some (us2 i j) ∧ (us2 i j).oneCell' = true := by
    intro i j hi hj
    have hd := List.getElem?_eq_getElem hi
    have hc := List.getElem?_eq_getElem (show j < ys[i].cells.length by rw [hyz i _ hd]; exact hj)
    exact ⟨(hys i _ j _ hd hc).1, (hys i _ j _ hd hc).2.2⟩
  have hcell1 : ∀ i j, i < (bx t).es.length → j < esz → cur[i * esz + j]? = some (us i j) := by
    intro i j hi hj
    have hd := List.getElem?_eq_getElem hi
    have hc := List.getElem?_eq_getElem (show j < (bx t).es[i].cells.length by rw [hszz i _ hd, hpz]; exact hj)
    have := (hus i _ j _ hd hc).1
    rwa [hpz] at this
  have hnews : ∀ j u, (rowOf us2 ys.length esz)[j]? = some u → w.cell? ((⟨b, off2, none⟩ : Addr).add j) = some u := fun j u hj => by
    obtain ⟨k, l, hk, hl, rfl, rfl⟩ := rowOf_inv hj
    rw [Addr.add_none]
    have := (hcell2 k l hk hl).1
    rw [← Nat.add_assoc]; exact this
  have hone : ∀ u ∈ rowOf us2 ys.length esz, u.oneCell' = true := fun u hu => by
    obtain ⟨j, hj⟩ := List.mem_iff_getElem?.1 hu
    obtain ⟨k, l, hk, hl, rfl, rfl⟩ := rowOf_inv hj
    exact (hcell2 k l hk hl).2
  have hb1 : ∀ s, upd bx t { bx t with k := 0 } s = bx s ∨ ((upd bx t { bx t with k := 0 } s).k = 0 ∧ (upd bx t { bx t with k := 0 } s).ep = (bx s).ep ∧ X.lo ≤ s) := fun s => by
    by_cases hs : s = t
    · subst hs; exact .inr ⟨by simp [upd], by simp [upd], hlt⟩
    · exact .inl (by simp [upd, hs])
  have hO : ∀ b', b' = p.b → ∃ t0 p0, (bx t0).k = 1 ∧ ρ t0 (bx t0).ep = some p0 ∧ p0.b = b' ∧ (t0 = sl ∨ (upd bx t { bx t with k := 0 } t0).k = 0) := fun b' hb => ⟨t, p, hk1, by rw [hep]; exact hp, hb.symm, .inr (by simp [upd])⟩
  subst hvy
  by_cases hroom : n + ys.length ≤ cap
  · -- in place
    have hoff' := hoff (by omega)
    have hfit : off + n * i.size + (rowOf us2 ys.length esz).length ≤ cur.size := by
      rw [rowOf_len, hcs, hpz, hsz, hoff', ← Nat.add_mul, ← Nat.add_mul]
      exact Nat.mul_le_mul_right _ (by omega)
    have hr := run_append_room_off (P := P) (w := w) T ty el i hu hi p.b off n cap cur (by rw [hcur, hpt, hty]) ⟨b, off2, none⟩ ys.length c (rowOf us2 ys.length esz) (by rw [rowOf_len, hsz]) hnews hone hroom hfit
    rw [hsz] at hr hfit
    have eoff : off + n * esz = (o + n) * esz := by rw [hoff', Nat.add_mul]
    rw [eoff] at hr hfit
    have hA : (o + n) * esz ≤ cur.size := by omega
    have hat1 : ∀ k, k < (o + n) * esz → (cur.toList.take ((o + n) * esz) ++ rowOf us2 ys.length esz ++ cur.toList.drop ((o + n) * esz + (rowOf us2 ys.length esz).length)).toArray[k]? = cur[k]? := fun k hk => by
      rw [List.getElem?_toArray, List.append_assoc, List.getElem?_append_left (by simp; omega), List.getElem?_take_of_lt hk, Array.getElem?_toList]
    have hat2 : ∀ (k : Nat) u, (rowOf us2 ys.length esz)[k]? = some u → (cur.toList.take ((o + n) * esz) ++ rowOf us2 ys.length esz ++ cur.toList.drop ((o + n) * esz + (rowOf us2 ys.length esz).length)).toArray[(o + n) * esz + k]? = some u := fun k u hk => by
      have hkl := (List.getElem?_eq_some_iff.1 hk).1
      have hl1 : (cur.toList.take ((o + n) * esz)).length = (o + n) * esz := by simp; omega
      rw [List.getElem?_toArray, List.append_assoc, List.getElem?_append_right (by omega), hl1, Nat.add_sub_cancel_left, List.getElem?_append_left hkl, hk]
    have hsize : (cur.toList.take ((o + n) * esz) ++ rowOf us2 ys.length esz ++ cur.toList.drop ((o + n) * esz + (rowOf us2 ys.length esz).length)).toArray.size = p.cap * p.sz := by
      rw [← hcs]; simp; omega
    generalize (cur.toList.take ((o + n) * esz) ++ rowOf us2 ys.length esz ++ cur.toList.drop ((o + n) * esz + (rowOf us2 ys.length esz).length)).toArray = cur' at hr hat1 hat2 hsize
    have hw' : (w.setRow p.b cur').heap[p.b]? = some (.cells cur' p.ty (0, 0)) := setRow_heap w p.b cur _ _ _ hcur
    have hfr : Fr (fun b' => b' = p.b) w (w.setRow p.b cur') := ⟨rfl, rfl, rfl, by simp, fun k _ hk => setRow_other w p.b k _ hk⟩
    have hw : ∀ b', Stab X ρ bx w b' → (w.setRow p.b cur').heap[b']? = w.heap[b']? := fun b' hb => hfr.block b' hb.1 fun ee => by
      obtain ⟨t0, p0, hk0, hr0, hp0, _⟩ := hO b' ee
      exact hb.2.2 t0 hk0 p0 hr0 hp0
    have htl : ((bx t).es.take (o + n)).length = o + n := by simp; omega
    refine ⟨_, _, hr, _, .inr ((Sim.own (t := sl) (p := ⟨p.b, p.cap, esz, el⟩) (es := (bx t).es.take (o + n) ++ ys) (bx1 := upd bx t { bx t with k := 0 }) h hlo hb1 (Old := fun b' => b' = p.b) hfr hO (.inr rfl) fun S' ρ' hS hρ => ?_).put (dst := some d) (fun t ht => by injection ht with ht; subst ht; exact hd) ?_)⟩
    · have hmono : ∀ c u, Rep w (Stab X ρ bx w) ρ c u → Rep (w.setRow p.b cur') S' ρ' c u := fun c u hr => hr.mono hw hS hρ
      refine ⟨⟨cur', by rw [hw', hpt, hty], by rw [hsize, hpz], fun i j => if i < o + n then us i j else us2 (i - (o + n)) j, fun i y j c hi hj => ?_⟩, by simp; omega, hmax, fun i y hi => ?_⟩
      · dsimp only
        by_cases hin : i < o + n
        · rw [List.getElem?_append_left (by omega), List.getElem?_take_of_lt hin] at hi
          obtain ⟨u1, u2, u3⟩ := hus i y j c hi hj
          have hjz : j < esz := by have := (List.getElem?_eq_some_iff.1 hj).1; rw [hszz i y hi, hpz] at this; exact this
          have hlt2 : i * esz + j < (o + n) * esz := by
            have := Nat.mul_le_mul_right esz (show i + 1 ≤ o + n from hin)
            rw [Nat.succ_mul] at this; omega
          simp only [hin, if_true]
          rw [hpz] at u1
          exact ⟨(hat1 _ hlt2).trans u1, hmono _ _ u2, u3⟩
        · rw [List.getElem?_append_right (by omega), htl] at hi
          obtain ⟨u1, u2, u3⟩ := hys (i - (o + n)) y j c hi hj
          have hjz : j < esz := by have := (List.getElem?_eq_some_iff.1 hj).1; rw [hyz _ y hi] at this; exact this
          have hil := (List.getElem?_eq_some_iff.1 hi).1
          simp only [hin, if_false]
          have e1 : i * esz + j = (o + n) * esz + ((i - (o + n)) * esz + j) := by
            have : i = (o + n) + (i - (o + n)) := by omega
            conv => lhs; rw [this, Nat.add_mul]
            omega
          rw [e1]
          exact ⟨hat2 _ _ (rowOf_get hil hjz), hmono _ _ u2, u3⟩
      · by_cases hin : i < o + n
        · rw [List.getElem?_append_left (by omega), List.getElem?_take_of_lt hin] at hi
          exact (hszz i y hi).trans hpz
        · rw [List.getElem?_append_right (by omega)] at hi
          exact hyz _ y hi
    · exact .osl (p := ⟨p.b, p.cap, esz, el⟩) (by simp) rfl h0 hoff hroom ⟨hoc, hmax⟩
  · -- in a new place
    have hm63 : n + ys.length ≤ 9223372036854775807 := by simp only [maxLen] at hmm; omega
    have hnl : (rowOf us2 ys.length esz).length = ys.length * i.size := by rw [rowOf_len, hsz]
    have hol : (rowOf (fun i j => us (o + i) j) n esz).length = n * i.size := by rw [rowOf_len, hsz]
    have holds : ∀ j v, (rowOf (fun i j => us (o + i) j) n esz)[j]? = some v → w.cell? ((⟨p.b, off, none⟩ : Addr).add j) = some v := fun j v hj => by
      obtain ⟨k, l, hk, hl, rfl, rfl⟩ := rowOf_inv hj
      rw [Addr.add_none, hoff (by omega)]
      have := hcell1 (o + k) l (by omega) hl
      rw [Nat.add_mul] at this
      rw [← Nat.add_assoc]
      simp [World.cell?, hcur, this]
    have hr := run_append_grow (P := P) w T ty el i z hu hi hzz ⟨p.b, off, none⟩ n cap _ hol holds ⟨b, off2, none⟩ ys.length c _ hnl hnews (by omega) (by omega) (growslice_fits (by omega) (by rw [hbi]; exact hby))
    have hge := grownCap_ge w (n + ys.length) cap el
    have hcm : grownCap w (n + ys.length) cap el ≤ maxLen := grownCap_le_maxLen w (n + ys.length) cap el hmm
    have hsize : ((rowOf (fun i j => us (o + i) j) n esz).toArray ++ (rowOf us2 ys.length esz).toArray ++ Builtin.zeroCells z.cells (grownCap w (n + ys.length) cap el - (n + ys.length))).size = grownCap w (n + ys.length) cap el * esz := by
      simp only [Array.size_append, List.size_toArray, size_zeroCells, hzs, rowOf_len, ← Nat.add_mul]
      congr 1
      omega
    have hat : ∀ (k : Nat) u, (rowOf (fun i j => us (o + i) j) n esz ++ rowOf us2 ys.length esz)[k]? = some u → ((rowOf (fun i j => us (o + i) j) n esz).toArray ++ (rowOf us2 ys.length esz).toArray ++ Builtin.zeroCells z.cells (grownCap w (n + ys.length) cap el - (n + ys.length)))[k]? = some u := fun k u hk => by
      have hkl := (List.getElem?_eq_some_iff.1 hk).1
      rw [Array.getElem?_append_left (by simpa using hkl), ← Array.getElem?_toList, Array.toList_append]
      exact hk
    generalize (rowOf (fun i j => us (o + i) j) n esz).toArray ++ (rowOf us2 ys.length esz).toArray ++ Builtin.zeroCells z.cells (grownCap w (n + ys.length) cap el - (n + ys.length)) = cur' at hr hsize hat
    generalize grownCap w (n + ys.length) cap el = cap' at hr hge hcm hsize
    have hfr : Fr (fun _ => False) w (w.drew.alloc (.cells cur' el)) := ⟨rfl, rfl, rfl, by simp, fun k hk _ => heap_alloc_old w.drew _ (show k < w.drew.heap.size from hk)⟩
    have hw : ∀ b', Stab X ρ bx w b' → (w.drew.alloc (.cells cur' el)).heap[b']? = w.heap[b']? := fun b' hb => hfr.block b' hb.1 fun ee => ee
    have hnew : (w.drew.alloc (.cells cur' el)).heap[w.heap.size]? = some (.cells cur' el (0, 0)) := heap_alloc_new w.drew _
    have htl : (((bx t).es.drop o).take n).length = n := by simp; omega
    have hget : ∀ (k : Nat) y, (((bx t).es.drop o).take n)[k]? = some y → k < n ∧ (bx t).es[o + k]? = some y := fun k y hk => by
      have hkl := (List.getElem?_eq_some_iff.1 hk).1
      rw [htl] at hkl
      rw [List.getElem?_take_of_lt hkl, List.getElem?_drop] at hk
      exact ⟨hkl, hk⟩
    refine ⟨_, _, hr, _, .inl ((Sim.own (t := sl) (p := ⟨w.heap.size, cap', esz, el⟩) (es := ((bx t).es.drop o).take n ++ ys) (bx1 := upd bx t { bx t with k := 0 }) h hlo hb1 (Old := fun _ => False) hfr (fun _ hh => hh.elim) (.inl (Nat.le_refl _)) fun S' ρ' hS hρ => ?_).put (dst := some d) (fun t ht => by injection ht with ht; subst ht; exact hd) ?_)⟩
    · have hmono : ∀ c u, Rep w (Stab X ρ bx w) ρ c u → Rep (w.drew.alloc (.cells cur' el)) S' ρ' c u := fun c u hr => hr.mono hw hS hρ
      refine ⟨⟨cur', hnew, hsize, fun i j => if i < n then us (o + i) j else us2 (i - n) j, fun i y j c hi hj => ?_⟩, by simp; omega, hcm, fun i y hi => ?_⟩
      · dsimp only
        by_cases hin : i < n
        · rw [List.getElem?_append_left (by omega)] at hi
          obtain ⟨_, hi2⟩ := hget i y hi
          obtain ⟨u1, u2, u3⟩ := hus (o + i) y j c hi2 hj
          have hjz : j < esz := by have := (List.getElem?_eq_some_iff.1 hj).1; rw [hszz _ y hi2, hpz] at this; exact this
          simp only [hin, if_true]
          refine ⟨hat _ _ ?_, hmono _ _ u2, u3⟩
          have hrr := rowOf_get (us := fun i j => us (o + i) j) hin hjz
          rw [List.getElem?_append_left (List.getElem?_eq_some_iff.1 hrr).1]
          exact hrr
        · rw [List.getElem?_append_right (by omega), htl] at hi
          obtain ⟨u1, u2, u3⟩ := hys (i - n) y j c hi hj
          have hjz : j < esz := by have := (List.getElem?_eq_some_iff.1 hj).1; rw [hyz _ y hi] at this; exact this
          have hil := (List.getElem?_eq_some_iff.1 hi).1
          simp only [hin, if_false]
          refine ⟨hat _ _ ?_, hmono _ _ u2, u3⟩
          have e1 : i * esz + j = n * esz + ((i - n) * esz + j) := by
            have : i = n + (i - n) := by omega
            conv => lhs; rw [this, Nat.add_mul]
            omega
          rw [List.getElem?_append_right (by rw [rowOf_len, e1]; omega), rowOf_len, e1, Nat.add_sub_cancel_left]
          exact rowOf_get hil hjz
      · by_cases hin : i < n
        · rw [List.getElem?_append_left (by omega)] at hi
          exact (hszz _ y (hget i y hi).2).trans hpz
        · rw [List.getElem?_append_right (by omega)] at hi
          exact hyz _ y hi
    · exact .osl (p := ⟨w.heap.size, cap', esz, el⟩) (by simp) rfl (fun _ => ⟨rfl, rfl⟩) (fun _ => by simp) hge ⟨by simp, hcm⟩

theorem append2_sound (h : Sim X ρ σ bx a w) {T T' : TypeId} {x y : Operand} {dst : Option Tmp} (hdst : ∀ t, dst = some t → t < X.N) {lo base : Nat} (hlo : X.lo ≤ lo) (hbase : X.lo ≤ base) {r : (D × Bxs) × (D × Bxs)} (hv : (if T = T' then appQK lo (tiOf P) (tiOf P T) (slotO base dst) bx (ev σ x) (ev σ y) else none) = some r) :
    ∃ v w', (execOp a.eval ⟨dst, .call { callee := .builtin .append, args := #[x, y], argTypes := #[T, T'] }, ty, pos, af, g⟩).run P w = .ok (.value v) w' ∧ ∃ ρ', Sim X ρ' (put σ dst r.1.1) r.1.2 (a.put dst v) w' ∨ Sim X ρ' (put σ dst r.2.1) r.2.2 (a.put dst v) w' := by
  have hx := h.ev x
  have hy := h.ev y
  suffices hs : ∃ v w', (Builtin.append_ #[T, T'] ty #[a.eval x, a.eval y]).run P w = .ok v w' ∧ ∃ ρ', Sim X ρ' (put σ dst r.1.1) r.1.2 (a.put dst v) w' ∨ Sim X ρ' (put σ dst r.2.1) r.2.2 (a.put dst v) w' by
    obtain ⟨v, w', hr, hS⟩ := hs
    refine ⟨v, w', ?_, hS⟩
    simp only [execOp, resolve, invoke, builtin, Sem.run_bind, Sem.run_pure, Result.andThen_ok, List.map_toArray, List.map_cons, List.map_nil, hr]
  generalize ev σ x = dx at hv hx
  generalize ev σ y = dy at hv hy
  generalize a.eval x = vx at hx ⊢
  generalize a.eval y = vy at hy ⊢
  split at hv
  · rename_i hTT
    subst hTT
    unfold appQK at hv
    split at hv
    · rename_i el esz bytes ag d0 hk hd0
      cases dst with
      | none => simp [slotO] at hd0
      | some d =>
        simp only [slotO, Option.some.injEq] at hd0
        subst hd0
        split at hv
        · rename_i hzl
          rw [Option.bind_eq_some_iff] at hv
          obtain ⟨ys, hel, hv⟩ := hv
          split at hv
          · cases hv
          · rename_i hne
            obtain ⟨A, c, b, off, us, hvy, hA, hyz, hys⟩ := elems_sound h hy hel
            obtain rfl := hA hne
            unfold appQ at hv
            split at hv
            · rename_i t e sz o n
              split at hv
              · rename_i hc
                obtain ⟨c0, c1, c3, c4, c5, c6, c7, c8, c9, c10⟩ := hc
                injection hv with hv
                subst hv
                subst c1
                exact append2_core (ty := ty) h (hdst d rfl) (Nat.le_trans hbase (Nat.le_add_right _ _)) hk (by omega) hzl hx (Nat.le_trans hlo c0) c3 c4 c5 c6 c7 hne hvy hyz hys c8 c10
              · cases hv
            · cases hv
        · cases hv
    · cases hv
  · cases hv
end Go.V

namespace Go.V
open Go.RowKit
set_option linter.unusedVariables false

/-- What a call leaves: the value that d tells of, in what was given and what is new; nothing of what was there has turned. -/
def Post (w : World) (S : Nat → Prop) (d : D) (v : Value) (w' : World) : Prop :=
  PRep w' (fun b => S b ∨ (w.heap.size ≤ b ∧ b < w'.heap.size)) d v ∧ Below w.heap.size w w'

/-- THE CONTRACT: f, called with data ds, comes to d. -/
def CallsTo (P : Program) (f : FuncId) (ds : List D) (d : D) : Prop :=
  ∀ (w : World) (S : Nat → Prop) (vs : Array Value), (∀ b, S b → b < w.heap.size) → PRep w S .glo undef → vs.size = ds.length → (∀ (i : Nat) x v, ds[i]? = some x → vs[i]? = some v → PRep w S x v) →
    ((callFunc f vs).run P w = .ok (.enter f vs) w ∧ Calls P f vs w (fun e w' => ∃ v, e = .returned v ∧ Post w S d v w')) ∨
    (∃ v w', (callFunc f vs).run P w = .ok (.value v) w' ∧ Post w S d v w')

variable {P : Program} {C : Calc} {X : Ctx} {ρ : Rho} {σ : Env} {bx : Bxs} {a : Act} {w : World}

theorem bareL_mem : ∀ (ds : List D), D.bareL ds = true → ∀ (i : Nat) d, ds[i]? = some d → d.bare = true
  | [], _, i, d, hd => by simp at hd
  | x :: xs, hp, i, d, hd => by
    simp only [D.bareL, Bool.and_eq_true] at hp
    cases i with
    | zero => simp at hd; subst hd; exact hp.1
    | succ i => exact bareL_mem xs hp.2 i d (by simpa using hd)

theorem pureL_mem (ds : List D) (hp : D.pureL ds = true) (i : Nat) (d : D) (hd : ds[i]? = some d) : d.pure = true := pure_mem ds hp d (List.mem_of_getElem? hd)

/-- A datum with no memory behind it stands for its value in any world. -/
theorem PRep.bare {w w' : World} {S S' : Nat → Prop} {d : D} {v : Value} (h : PRep w S d v) (hb : d.bare = true) : PRep w' S' d v := by
  induction h with
  | undef v => simp [D.bare] at hb
  | any ds v => exact .any ds v
  | glo => simp [D.bare] at hb
  | int k n => exact .int k n
  | bool b => exact .bool b
  | abool b => exact .abool b
  | str l => exact .str l
  | raw x => exact .raw x
  | nilsl => exact .nilsl
  | agg hl _ ih => exact .agg hl fun i d v hd hv => ih i d v hd hv (bareL_mem _ (by simpa only [D.bare] using hb) i d hd)
  | tup hl _ ih => exact .tup hl fun i d v hd hv => ih i d v hd hv (bareL_mem _ (by simpa only [D.bare] using hb) i d hd)
  | sl => simp [D.bare] at hb
  | cref => simp [D.bare] at hb
  | fn hl _ ih => exact .fn hl fun i d v hd hv => ih i d v hd hv (bareL_mem _ (by simpa only [D.bare] using hb) i d hd)
  | bfn hl _ ih => exact .bfn hl fun i d v hd hv => ih i d v hd hv (bareL_mem _ (by simpa only [D.bare] using hb) i d hd)
  | ifc _ ih => exact .ifc (ih (by simpa only [D.bare] using hb))

mutual
/-- The slots that a datum names. -/
def names : D → List Nat
  | .loc t _ _ _ | .osl t _ _ _ _ => [t]
  | .agg ds | .tup ds | .fn _ ds | .bfn _ ds => namesL ds
  | .ifc _ d => names d
  | _ => []
def namesL : List D → List Nat
  | [] => []
  | d :: ds => names d ++ namesL ds
end

/-- frozen -/
def frz (b : Bx) : Bx := { b with k := if b.k = 1 then 2 else b.k }
theorem frz_frz (b : Bx) : frz (frz b) = frz b := by
  unfold frz
  by_cases h : b.k = 1 <;> simp [h]

mutual
theorem frzD_at (bx : Bxs) (t : Nat) : ∀ d : D, frzD bx d t = if t ∈ names d then frz (bx t) else bx t
  | .loc s _ _ _ => by simp only [frzD, names, upd, List.mem_singleton]; split <;> simp_all [frz]
  | .osl s _ _ _ _ => by simp only [frzD, names, upd, List.mem_singleton]; split <;> simp_all [frz]
  | .agg ds => by simp only [frzD, names]; exact frzL_at bx t ds
  | .tup ds => by simp only [frzD, names]; exact frzL_at bx t ds
  | .fn f ds => by simp only [frzD, names]; exact frzL_at bx t ds
  | .bfn f ds => by simp only [frzD, names]; exact frzL_at bx t ds
  | .ifc _ d => by simp only [frzD, names]; exact frzD_at bx t d
  | .undef => by simp [frzD, names]
  | .any _ => by simp [frzD, names]
  | .glo => by simp [frzD, names]
  | .abool => by simp [frzD, names]
  | .int _ _ => by simp [frzD, names]
  | .bool _ => by simp [frzD, names]
  | .str _ => by simp [frzD, names]
  | .raw _ => by simp [frzD, names]
  | .nilsl => by simp [frzD, names]
  | .sl _ _ => by simp [frzD, names]
  | .cref _ _ => by simp [frzD, names]
  | .omap _ _ => by simp [frzD, names]
theorem frzL_at (bx : Bxs) (t : Nat) : ∀ ds : List D, frzL bx ds t = if t ∈ namesL ds then frz (bx t) else bx t
  | [] => by simp [frzL, namesL]
  | d :: ds => by
    simp only [frzL, namesL, List.mem_append]
    rw [frzL_at (frzD bx d) t ds, frzD_at bx t d]
    by_cases h1 : t ∈ names d <;> by_cases h2 : t ∈ namesL ds <;> simp [h1, h2, frz_frz]
end

theorem PRep.monoS {S S' : Nat → Prop} {d : D} {v : Value} (h : PRep w S d v) (hS : ∀ b, S b → S' b) : PRep w S' d v := h.mono (fun _ _ => rfl) hS

theorem Rep.inv_ifc {S : Nat → Prop} {t : TypeId} {d : D} {v : Value} (h : Rep w S ρ (.ifc t d) v) : ∃ u, v = .iface t u ∧ Rep w S ρ d u := by
  cases h with
  | pure h => cases h with | ifc h => exact ⟨_, rfl, .pure h⟩
  | ifc h => exact ⟨_, rfl, h⟩

theorem consO_inv {x : Option D} {xs : Option (List D)} {r : List D} (h : consO x xs = some r) : ∃ y ys, x = some y ∧ xs = some ys ∧ r = y :: ys := by
  cases x <;> cases xs <;> simp [consO] at h
  exact ⟨_, _, rfl, rfl, h.symm⟩

/-- What S' must hold for the data d to be told of without names of own variables. -/
def Lends (X : Ctx) (ρ : Rho) (bx : Bxs) (w : World) (S' : Nat → Prop) (ns : List Nat) : Prop :=
  (∀ b, Stab X ρ bx w b → S' b) ∧ ∀ t ∈ ns, lv (bx t).k → ∀ p, ρ t (bx t).ep = some p → S' p.b

theorem veil_cells (d : D) : d.veil.cells = d.cells.map D.veilC := by
  have key : ∀ c : D, c.cells = [c] → (D.veilC c).cells = [D.veilC c] := by
    intro c h
    unfold D.veilC
    split
    · exact h
    · rfl
  cases d with
  | agg ds => rfl
  | _ => exact key _ rfl

mutual
theorem outD_sound (h : Sim X ρ σ bx a w) {S' : Nat → Prop} : ∀ (d d' : D) (v : Value), Lends X ρ bx w S' (names d) → Rep w (Stab X ρ bx w) ρ d v → outD bx d = some d' → PRep w S' d' v
  | .loc t e i j, d', v, hS, hr, ho => by
    simp only [outD] at ho
    split at ho
    · rename_i hc
      obtain ⟨he, hk⟩ := hc
      split at ho
      · rename_i d hd
        split at ho
        · rename_i hp
          injection ho with ho; subst ho
          obtain ⟨p, hp1, rfl⟩ := hr.inv_loc
          obtain ⟨p', hp', hpz, hpt, hpb, hh⟩ := h.box t hk
          rw [he, hp1] at hp'; injection hp' with hp'; subst hp'
          obtain ⟨⟨cur, hcur, hcs, us, hus⟩, hlc, hmx, hsz⟩ := hh
          refine .cref (off := i * p.sz) (us := us i) (hS.2 t (by simp [names]) hk p (by rw [he]; exact hp1)) rfl (fun m c hm => ?_) (fun m c hm => (hus i d m c hd hm).2.2) (fun m c hm => ?_)
          · simp [World.cell?, hcur, (hus i d m c hd hm).1]
          · exact ((hus i d m c hd hm).2.1.toP (pure_cells hp c (List.mem_of_getElem? hm))).monoS hS.1
        · injection ho with ho; subst ho
          obtain ⟨p, hp1, rfl⟩ := hr.inv_loc
          obtain ⟨p', hp', hpz, hpt, hpb, hh⟩ := h.box t hk
          rw [he, hp1] at hp'; injection hp' with hp'; subst hp'
          obtain ⟨⟨cur, hcur, hcs, us, hus⟩, hlc, hmx, hsz⟩ := hh
          have hcell : ∀ (m : Nat) c', d.veil.cells[m]? = some c' → ∃ c, d.cells[m]? = some c ∧ c' = D.veilC c := fun m c' hm => by
            rw [veil_cells, List.getElem?_map, Option.map_eq_some_iff] at hm
            obtain ⟨c, h1, h2⟩ := hm
            exact ⟨c, h1, h2.symm⟩
          refine .cref (off := i * p.sz) (us := us i) (hS.2 t (by simp [names]) hk p (by rw [he]; exact hp1)) rfl (fun m c' hm => ?_) (fun m c' hm => ?_) (fun m c' hm => ?_)
          · obtain ⟨c, hc, _⟩ := hcell m c' hm
            simp [World.cell?, hcur, (hus i d m c hd hc).1]
          · obtain ⟨c, hc, _⟩ := hcell m c' hm
            exact (hus i d m c hd hc).2.2
          · obtain ⟨c, hc, rfl⟩ := hcell m c' hm
            unfold D.veilC
            split
            · rename_i hpc
              exact ((hus i d m c hd hc).2.1.toP hpc).monoS hS.1
            · exact .undef _
      · cases ho
    · cases ho
  | .osl t e sz o n, d', v, hS, hr, ho => by
    simp only [outD] at ho
    split at ho
    · rename_i hc
      obtain ⟨he, hk, hz, hle⟩ := hc
      split at ho
      · rename_i hp
        injection ho with ho; subst ho
        have hel : elemsD bx sz (.osl t e sz o n) = some (((bx t).es.drop o).take n) := by unfold elemsD; exact if_pos ⟨rfl, he, hk, hz, hle⟩
        obtain ⟨p, off, cap, hp1, hpz, h0, hoff, hn, hcap, hmax, rfl⟩ := hr.inv_osl
        obtain ⟨A, c, b, off', us, hv, hA, hyz, hys⟩ := elems_sound h hr hel
        injection hv with hv1 hv2 hv3
        have hpb : ((bx t).es.drop o).take n ≠ [] → b = p.b := fun hne => by
          have := hA hne
          rw [this] at hv1; injection hv1 with hv1; injection hv1 with hv1; exact hv1.symm
        refine .sl (b := b) (off := off') (us := us) hv2 (by omega) (by omega) (fun hne => ⟨hv1.trans (hA hne), ?_⟩) hyz (fun i d j c hi hj => (hys i d j c hi hj).1) (fun i d j c hi hj => (hys i d j c hi hj).2.2) (fun i d j c hi hj => ?_)
        · rw [hpb hne]; exact hS.2 t (by simp [names]) hk p (by rw [he]; exact hp1)
        · exact ((hys i d j c hi hj).2.1.toP (pure_cells (pure_mem _ hp d (List.mem_of_getElem? hi)) c (List.mem_of_getElem? hj))).monoS hS.1
      · cases ho
    · cases ho
  | .agg ds, d', v, hS, hr, ho => by
    simp only [outD, Option.map_eq_some_iff] at ho
    obtain ⟨ds', ho, rfl⟩ := ho
    obtain ⟨vs, rfl, hl, hv⟩ := hr.inv_agg
    obtain ⟨h1, h2⟩ := outL_sound h ds ds' vs.toList (by simpa [names] using hS) (by simpa using hl) (fun i d v hd hv' => hv i d v hd (by simpa using hv')) ho
    exact .agg (hl.trans h1.symm) (fun i d v hd hv' => h2 i d v hd (by simpa using hv'))
  | .tup ds, d', v, hS, hr, ho => by
    simp only [outD, Option.map_eq_some_iff] at ho
    obtain ⟨ds', ho, rfl⟩ := ho
    obtain ⟨vs, rfl, hl, hv⟩ := hr.inv_tup
    obtain ⟨h1, h2⟩ := outL_sound h ds ds' vs.toList (by simpa [names] using hS) (by simpa using hl) (fun i d v hd hv' => hv i d v hd (by simpa using hv')) ho
    exact .tup (hl.trans h1.symm) (fun i d v hd hv' => h2 i d v hd (by simpa using hv'))
  | .fn f ds, d', v, hS, hr, ho => by
    simp only [outD, Option.map_eq_some_iff] at ho
    obtain ⟨ds', ho, rfl⟩ := ho
    obtain ⟨vs, rfl, hl, hv⟩ := hr.inv_fn
    obtain ⟨h1, h2⟩ := outL_sound h ds ds' vs.toList (by simpa [names] using hS) (by simpa using hl) (fun i d v hd hv' => hv i d v hd (by simpa using hv')) ho
    exact .fn (hl.trans h1.symm) (fun i d v hd hv' => h2 i d v hd (by simpa using hv'))
  | .bfn f ds, d', v, hS, hr, ho => by
    simp only [outD, Option.map_eq_some_iff] at ho
    obtain ⟨ds', ho, rfl⟩ := ho
    obtain ⟨vs, rfl, hl, hv⟩ := hr.inv_bfn
    obtain ⟨h1, h2⟩ := outL_sound h ds ds' vs.toList (by simpa [names] using hS) (by simpa using hl) (fun i d v hd hv' => hv i d v hd (by simpa using hv')) ho
    exact .bfn (hl.trans h1.symm) (fun i d v hd hv' => h2 i d v hd (by simpa using hv'))
  | .ifc t d, d', v, hS, hr, ho => by
    simp only [outD, Option.map_eq_some_iff] at ho
    obtain ⟨d'', ho, rfl⟩ := ho
    obtain ⟨u, rfl, hu⟩ := hr.inv_ifc
    exact .ifc (outD_sound h d d'' u (by simpa [names] using hS) hu ho)
  | .undef, d', v, hS, hr, ho => by simp only [outD, Option.some.injEq] at ho; subst ho; exact .undef v
  | .any l, d', v, hS, hr, ho => by simp only [outD, Option.some.injEq] at ho; subst ho; exact .any l v
  | .int k n, d', v, hS, hr, ho => by simp only [outD, Option.some.injEq] at ho; subst ho; exact (hr.toP rfl).monoS hS.1
  | .bool b, d', v, hS, hr, ho => by simp only [outD, Option.some.injEq] at ho; subst ho; exact (hr.toP rfl).monoS hS.1
  | .abool, d', v, hS, hr, ho => by simp only [outD, Option.some.injEq] at ho; subst ho; exact (hr.toP rfl).monoS hS.1
  | .str s, d', v, hS, hr, ho => by simp only [outD, Option.some.injEq] at ho; subst ho; exact (hr.toP rfl).monoS hS.1
  | .raw x, d', v, hS, hr, ho => by simp only [outD, Option.some.injEq] at ho; subst ho; exact (hr.toP rfl).monoS hS.1
  | .glo, d', v, hS, hr, ho => by simp only [outD, Option.some.injEq] at ho; subst ho; exact (hr.toP rfl).monoS hS.1
  | .nilsl, d', v, hS, hr, ho => by simp only [outD, Option.some.injEq] at ho; subst ho; exact (hr.toP rfl).monoS hS.1
  | .sl sz es, d', v, hS, hr, ho => by simp only [outD, Option.some.injEq] at ho; subst ho; exact (hr.toP rfl).monoS hS.1
  | .cref d j, d', v, hS, hr, ho => by simp only [outD, Option.some.injEq] at ho; subst ho; exact (hr.toP rfl).monoS hS.1
theorem outL_sound (h : Sim X ρ σ bx a w) {S' : Nat → Prop} : ∀ (ds ds' : List D) (vs : List Value), Lends X ρ bx w S' (namesL ds) → vs.length = ds.length → (∀ (i : Nat) d v, ds[i]? = some d → vs[i]? = some v → Rep w (Stab X ρ bx w) ρ d v) → outL bx ds = some ds' →
    ds'.length = ds.length ∧ ∀ (i : Nat) d v, ds'[i]? = some d → vs[i]? = some v → PRep w S' d v
  | [], ds', vs, hS, hl, hv, ho => by
    simp only [outL, Option.some.injEq] at ho; subst ho
    exact ⟨rfl, fun i d v hd => by simp at hd⟩
  | d :: ds, ds', vs, hS, hl, hv, ho => by
    simp only [outL] at ho
    obtain ⟨y, ys, h1, h2, rfl⟩ := consO_inv ho
    cases vs with
    | nil => simp at hl
    | cons v vs =>
      simp only [namesL] at hS
      have hSd : Lends X ρ bx w S' (names d) := ⟨hS.1, fun t ht => hS.2 t (List.mem_append_left _ ht)⟩
      have hSl : Lends X ρ bx w S' (namesL ds) := ⟨hS.1, fun t ht => hS.2 t (List.mem_append_right _ ht)⟩
      obtain ⟨g1, g2⟩ := outL_sound h ds ys vs hSl (by simpa using hl) (fun i d' v' hd hv' => hv (i + 1) d' v' (by simpa using hd) (by simpa using hv')) h2
      refine ⟨by simp [g1], fun i d' v' hd hv' => ?_⟩
      cases i with
      | zero =>
        simp only [List.getElem?_cons_zero, Option.some.injEq] at hd hv'
        subst hd; subst hv'
        exact outD_sound h d y v hSd (hv 0 d v (by simp) (by simp)) h1
      | succ i => exact g2 i d' v' (by simpa using hd) (by simpa using hv')
end

theorem Sim.got {w' : World} (h : Sim X ρ σ bx a w) {d : D} {v : Value} (hp : Post w (Stab X ρ bx w) d v w') : Sim X ρ σ bx a w' ∧ Rep w' (Stab X ρ bx w') ρ d v := by
  refine ⟨h.ext hp.2, .pure (hp.1.monoS fun b hb => ?_)⟩
  rcases hb with hb | ⟨h1, h2⟩
  · exact ⟨Nat.lt_of_lt_of_le hb.1 hp.2.size, hb.2⟩
  · refine ⟨h2, .inr (Nat.le_trans (Nat.le_trans h.nb h.fr.size) h1), fun t hk p hp' => ?_⟩
    obtain ⟨p', hp'', _, _, _, hh⟩ := h.box t (by rw [hk]; decide)
    rw [hp'] at hp''; injection hp'' with hp''; subst hp''
    have := hh.lt
    omega

theorem frzL_lends (h : Sim X ρ σ bx a w) (ds : List D) : Lends X ρ bx w (Stab X ρ (frzL bx ds) w) (namesL ds) := by
  have hfk : ∀ t, (frzL bx ds t).k = 1 → (bx t).k = 1 ∧ t ∉ namesL ds ∧ (frzL bx ds t).ep = (bx t).ep := by
    intro t ht
    rw [frzL_at] at ht ⊢
    by_cases hn : t ∈ namesL ds
    · simp only [hn, if_true, frz] at ht ⊢
      split at ht <;> simp_all
    · simp only [hn, if_false] at ht ⊢
      exact ⟨ht, not_false, trivial⟩
  refine ⟨fun b hb => ⟨hb.1, hb.2.1, fun t ht p hp => ?_⟩, fun t ht hk p hp => ?_⟩
  · obtain ⟨h1, _, h3⟩ := hfk t ht
    rw [h3] at hp
    exact hb.2.2 t h1 p hp
  · obtain ⟨p', hp', _, _, hpb, hh⟩ := h.box t hk
    rw [hp] at hp'; injection hp' with hp'; subst hp'
    refine ⟨hh.lt, .inr hpb.1, fun s hs q hq => ?_⟩
    obtain ⟨h1, h2, h3⟩ := hfk s hs
    rw [h3] at hq
    exact h.inj s t q p h1 hk (fun e => h2 (e ▸ ht)) hq hp

theorem Sim.frozen (h : Sim X ρ σ bx a w) (hlo : X.lo = 0) (ds : List D) : Sim X ρ σ (frzL bx ds) a w := by
  refine h.less fun s => ?_
  rw [frzL_at]
  by_cases hn : s ∈ namesL ds
  · right
    simp only [hn, if_true, frz]
    refine ⟨by omega, ?_, ?_⟩
    · split <;> simp_all
    · refine ⟨trivial, fun hk => ⟨?_, trivial, trivial, trivial⟩, fun hk => ⟨?_, trivial⟩⟩
      · split at hk
        · rename_i h1; rw [h1, lv1]; trivial
        · exact hk
      · split at hk
        · cases hk
        · exact hk
  · left; simp only [hn, if_false]

theorem Calls.mono {f : FuncId} {args : Array Value} {R R' : Ending → World → Prop} (h : Calls P f args w R) (hr : ∀ e w', R e w' → R' e w') : Calls P f args w R' :=
  fun cs => let ⟨e, w', fr, r, rest⟩ := h cs; ⟨e, w', fr, hr _ _ r, rest⟩

/-- The two ways in which a call is carried out. -/
def Carried (P : Program) (f : FuncId) (vs : Array Value) (w : World) (G : Value → World → Prop) : Prop :=
  ((callFunc f vs).run P w = .ok (.enter f vs) w ∧ Calls P f vs w (fun e w' => ∃ v, e = .returned v ∧ G v w')) ∨
  (∃ v w', (callFunc f vs).run P w = .ok (.value v) w' ∧ G v w')

/-- A panic with a value. -/
def pe (v : Value) : PanicEntry := { v, recovered := false }

/-- The same where it may panic. -/
def CarriedP (P : Program) (f : FuncId) (vs : Array Value) (w : World) (G Gp : Value → World → Prop) : Prop :=
  ((callFunc f vs).run P w = .ok (.enter f vs) w ∧ Calls P f vs w (fun e w' => (∃ v, e = .returned v ∧ G v w') ∨ ∃ v, e = .panicked [pe v] ∧ Gp v w')) ∨
  (∃ v w', (callFunc f vs).run P w = .ok (.value v) w' ∧ G v w')

theorem Carried.toP {f : FuncId} {vs : Array Value} {G Gp : Value → World → Prop} (h : Carried P f vs w G) : CarriedP P f vs w G Gp := by
  rcases h with ⟨h1, h2⟩ | h
  · exact .inl ⟨h1, Calls.mono h2 fun e w' h => .inl h⟩
  · exact .inr h
theorem CarriedP.mono {f : FuncId} {vs : Array Value} {G Gp G' Gp' : Value → World → Prop} (h : CarriedP P f vs w G Gp) (h1 : ∀ v w', G v w' → G' v w') (h2 : ∀ v w', Gp v w' → Gp' v w') : CarriedP P f vs w G' Gp' := by
  rcases h with ⟨k1, k2⟩ | ⟨v, w', k1, k2⟩
  · refine .inl ⟨k1, Calls.mono k2 fun e w' h => ?_⟩
    rcases h with ⟨v, he, hg⟩ | ⟨v, he, hg⟩
    · exact .inl ⟨v, he, h1 _ _ hg⟩
    · exact .inr ⟨v, he, h2 _ _ hg⟩
  · exact .inr ⟨v, w', k1, h1 _ _ k2⟩

theorem CallsTo.carried {f : FuncId} {ds : List D} {d : D} (h : CallsTo P f ds d) {S : Nat → Prop} {vs : Array Value} {G : Value → World → Prop} (hS : ∀ b, S b → b < w.heap.size) (hg : PRep w S .glo undef) (hl : vs.size = ds.length)
    (hv : ∀ (i : Nat) x v, ds[i]? = some x → vs[i]? = some v → PRep w S x v) (hG : ∀ v w', Post w S d v w' → G v w') : Carried P f vs w G := by
  rcases h w S vs hS hg hl hv with ⟨h1, h2⟩ | ⟨v, w', h1, h2⟩
  · exact .inl ⟨h1, Calls.mono h2 fun e w' ⟨v, he, hp⟩ => ⟨v, he, hG v w' hp⟩⟩
  · exact .inr ⟨v, w', h1, hG v w' h2⟩

/-- The contract of a function that has its caller's variables at hand, its own in the slots from base on. -/
def CallsB (P : Program) (f : FuncId) (base : Nat) (ds : List D) (bx : Bxs) (Q Qp : D → Bxs → Prop) : Prop :=
  ∀ (X : Ctx) (ρ : Rho) (σ : Env) (a : Act) (w : World) (vs : Array Value), Sim X ρ σ bx a w → X.lo = 0 → vs.size = ds.length → (∀ (i : Nat) x v, ds[i]? = some x → vs[i]? = some v → Rep w (Stab X ρ bx w) ρ x v) →
    CarriedP P f vs w (fun v w' => ∃ d bx' ρ', Q d bx' ∧ Sim X ρ' σ bx' a w' ∧ Rep w' (Stab X ρ' bx' w') ρ' d v) (fun v w' => ∃ d bx' ρ', Qp d bx' ∧ Sim X ρ' σ bx' a w' ∧ Rep w' (Stab X ρ' bx' w') ρ' d v)

/-- How a round that yields is carried out: it leaves the slots from base to base + ext as they were; it goes on, or leaves a jump. -/
def RoundOk (P : Program) (X : Ctx) (l : Nat) (rc : Loop) (base ext : Nat) (items : List (List D)) (J : Nat → Bxs → Prop) (Jx : Code → Bxs → Prop) (σ : Env) (a : Act) : Prop :=
  ∀ (n : Nat) (it : List D) (ρ : Rho) (bx : Bxs) (w : World) (us : Array Value), items[n]? = some it → Sim X ρ σ bx a w → ρ.hold l = some (.loop rc) → J n (cutB base bx) → us.size = it.length →
    (∀ (i : Nat) x v, it[i]? = some x → us[i]? = some v → PRep w (Stab X ρ bx w) x v) →
    ∃ f tm as bd, (Instr.yield l us).run P w = .ok (.round l f tm as bd) w ∧ ∀ m, RoundIn Fence.wide m P l f tm as bd w fun e w2 => ∃ ρ2 bx2 b, e = .returned (.bool b) ∧ (∀ s, base ≤ s → s < base + ext → bx2 s = bx s) ∧
      (∀ (X1 : Ctx) (σ1 : Env) (a1 : Act), X1.S0 = X.S0 → X1.n0 = X.n0 → X1.E l → Sim X1 ρ σ1 bx a1 w → X1.Y (cutB X1.lo bx2) ρ2.hold → Sim X1 ρ2 σ1 bx2 a1 w2) ∧
      (∀ k o, k ≠ l → ρ.hold k = some o → Obj.isM o = false → ρ2.hold k = some o) ∧
      ((b = true ∧ ρ2.hold l = some (.loop rc) ∧ J (n + 1) (cutB base bx2)) ∨ (b = false ∧ ∃ jump, ρ2.hold l = some (.loop { rc with state := .done, pending := some jump }) ∧ Jx jump (cutB base bx2)))

/-- The contract of a function that is ranged over. -/
def IterTo (P : Program) (f : FuncId) (caps : List D) (items : List (List D)) (ext : Nat) : Prop :=
  ∀ (X : Ctx) (ρ : Rho) (σ : Env) (bx : Bxs) (a : Act) (w : World) (l base : Nat) (rc : Loop) (vs : Array Value) (J : Nat → Bxs → Prop) (Jx : Code → Bxs → Prop), Sim X ρ σ bx a w → X.lo = 0 → ρ.hold l = some (.loop rc) → (X.w0.heap.size ≤ l) → X.r0.hold l = none →
    vs.size = caps.length → (∀ (i : Nat) x v, caps[i]? = some x → vs[i]? = some v → PRep w (Stab X ρ bx w) x v) → J 0 (cutB base bx) → RoundOk P X l rc base ext items J Jx σ a →
    (callFunc f (#[.func (.yield l) #[] #[]] ++ vs)).run P w = .ok (.enter f (#[.func (.yield l) #[] #[]] ++ vs)) w ∧
    Calls P f (#[.func (.yield l) #[] #[]] ++ vs) w fun e w' => ∃ v ρ' bx', e = .returned v ∧ Sim X ρ' σ bx' a w' ∧
      ((ρ'.hold l = some (.loop rc) ∧ J items.length (cutB base bx')) ∨ ∃ jump, ρ'.hold l = some (.loop { rc with state := .done, pending := some jump }) ∧ Jx jump (cutB base bx'))

/-- The contracts are kept. -/
structure Ok (P : Program) (O : Orac) : Prop where
  to : ∀ f ds d, O.to f ds d → CallsTo P f ds d
  toB : ∀ f base ds bx Q Qp, O.toB f base ds bx Q Qp → CallsB P f base ds bx Q Qp
  it : ∀ f caps items ext, O.it f caps items ext → IterTo P f caps items ext

/-- A yield is carried out. -/
def YOk (P : Program) (C : Calc) (X : Ctx) : Prop := ∀ items gs l, C.yl = some (items, gs, l) → ∀ (ρ : Rho) (σ : Env) (bx : Bxs) (a : Act) (w : World) (us : Array Value) (ds : List D), Sim X ρ σ bx a w → items[(bx gs).sz]? = some ds → us.size = ds.length →
  (∀ (i : Nat) x v, ds[i]? = some x → us[i]? = some v → PRep w (Stab X ρ bx w) x v) →
    ∃ f tm as bd, (Instr.yield l us).run P w = .ok (.round l f tm as bd) w ∧ ∀ m, RoundIn Fence.wide m P l f tm as bd w fun e w2 => ∃ ρ2 bx1 b, e = .returned (.bool b) ∧
      Sim X ρ2 σ (upd (mixB C.lo C.nxt bx bx1) gs { bx gs with sz := if b then (bx gs).sz + 1 else items.length + 1 }) a w2

/-- What an activation rests on. -/
structure Good (P : Program) (C : Calc) (X : Ctx) : Prop where
  ok : Ok P C.o
  lo : X.lo ≤ C.lo
  base : X.lo ≤ C.base
  yok : YOk P C X
  df : C.df = true → X.md = 2
  it : X.md = 3 → ∀ f c i e, ¬ C.o.it f c i e

theorem callD_sound (h : Sim X ρ σ bx a w) (hG : Good P C X) {f : FuncId} {ds : List D} {vs : Array Value} (hl : vs.size = ds.length)
    (hv : ∀ (i : Nat) x v, ds[i]? = some x → vs[i]? = some v → Rep w (Stab X ρ bx w) ρ x v) {K : Cl → D → Bxs → Prop} (hc : callD C f ds bx K) :
    CarriedP P f vs w (fun v w' => ∃ c d bx' ρ', (∀ x, c ≠ .pan x) ∧ K c d bx' ∧ Sim X ρ' σ bx' a w' ∧ Rep w' (Stab X ρ' bx' w') ρ' d v) (fun v w' => ∃ d bx' ρ', K (.pan d) .undef bx' ∧ Sim X ρ' σ bx' a w' ∧ Rep w' (Stab X ρ' bx' w') ρ' d v) := by
  have hC := hG.ok.to
  rcases hc with ⟨d, hp, hto, hK⟩ | ⟨ds', d, ho, hto, hb, hK⟩ | ⟨ds', d, hlo, ho, hto, hK⟩ | ⟨Q, Qp, hlo, hto, hK, hKp⟩
  · exact ((hC f ds d hto).carried (S := Stab X ρ bx w) (fun b hb => hb.1) (h.glo.toP rfl) hl (fun i x v hx hv' => (hv i x v hx hv').toP (pureL_mem _ hp i x hx)) fun v w' hp => ⟨.n, d, bx, ρ, (by intro x; simp), hK, h.got hp⟩).toP
  · have hL : Lends X ρ bx w (fun b => b < w.heap.size) (namesL ds) := ⟨fun b hb => hb.1, fun t _ hk p hp => by
      obtain ⟨p', hp', _, _, _, hh⟩ := h.box t hk
      rw [hp] at hp'; injection hp' with hp'; subst hp'
      exact hh.lt⟩
    obtain ⟨g1, g2⟩ := outL_sound h ds ds' vs.toList hL (by simpa using hl) (fun i x v hx hv' => hv i x v hx (by simpa using hv')) ho
    exact ((hC f ds' d hto).carried (S := fun b => b < w.heap.size) (fun b hb => hb) ((h.glo.toP rfl).mono (fun _ _ => rfl) (fun b hb => hb.1)) (hl.trans g1.symm) (fun i x v hx hv' => g2 i x v hx (by simpa using hv')) fun v w' hp => ⟨.ra, d, bx, ρ, (by intro x; simp), hK, h.ext hp.2, .pure (hp.1.bare hb)⟩).toP
  · have hL := frzL_lends h ds
    obtain ⟨g1, g2⟩ := outL_sound h ds ds' vs.toList hL (by simpa using hl) (fun i x v hx hv' => hv i x v hx (by simpa using hv')) ho
    exact ((hC f ds' d hto).carried (S := Stab X ρ (frzL bx ds) w) (fun b hb => hb.1) ((h.frozen (by have := hG.lo; omega) ds).glo.toP rfl) (hl.trans g1.symm) (fun i x v hx hv' => g2 i x v hx (by simpa using hv')) fun v w' hp => ⟨.wa, d, frzL bx ds, ρ, (by intro x; simp), hK, (h.frozen (by have := hG.lo; omega) ds).got hp⟩).toP
  · refine (hG.ok.toB _ _ _ _ _ _ hto X ρ σ a w vs h (by have := hG.lo; omega) hl hv).mono ?_ ?_
    · rintro v w' ⟨d, bx', ρ', g1, g2⟩
      rcases hK d bx' g1 with hk | ⟨r, r', e1, e2, hk⟩
      · exact ⟨.wa, d, bx', ρ', (by intro x; simp), hk, g2⟩
      · obtain ⟨g2, g3⟩ := g2
        have ho : outL bx' [d] = some [r] := by simp [outL, e1, consO]
        obtain ⟨_, g5⟩ := outL_sound g2 [d] [r] [v] (frzL_lends g2 [d]) rfl (fun i x u hx hu => by
          rcases i with _ | i
          · simp at hx hu; subst hx; subst hu; exact g3
          · simp at hx) ho
        exact ⟨.wa, r', frzL bx' [d], ρ', (by intro x; simp), hk, g2.frozen (by have := hG.lo; omega) [d], .pure (Rep.weak e2 (g5 0 r v rfl rfl))⟩
    · rintro v w' ⟨d, bx', ρ', g1, g2⟩
      exact ⟨d, bx', ρ', hKp d bx' g1, g2⟩

end Go.V
