/-
  Each operation that yields a datum, the fourth part: structs and slices built, and all of them together.
-/
import Derived.Test.YtbnniokcdilpgaaDoorVg
import Derived.Laws.BytesArg
namespace Go.V
open Go.RowKit

variable {P : Program} {X : Ctx} {ρ : Rho} {σ : Env} {bx : Bxs} {a : Act} {w : World}
variable {dst : Option Tmp} {ty : TypeId} {pos : String} {af : Array Edge} {g : Option (Nat × Bool)}

theorem fold_set : ∀ (vs : List Value) (k off : Nat) (cs : Array Value), (((vs.zipIdx k).foldl (fun (cs : Array Value) (x : Value × Nat) => cs.setIfInBounds (off + x.2) x.1) cs).size = cs.size) ∧
    ∀ i, ((vs.zipIdx k).foldl (fun (cs : Array Value) (x : Value × Nat) => cs.setIfInBounds (off + x.2) x.1) cs)[i]? = if off + k ≤ i ∧ i < off + k + vs.length ∧ i < cs.size then vs[i - (off + k)]? else cs[i]?
  | [], k, off, cs => by
    refine ⟨rfl, fun i => ?_⟩
    simp only [List.zipIdx_nil, List.foldl_nil, List.length_nil, Nat.add_zero]
    rw [if_neg (by omega)]
  | v :: vs, k, off, cs => by
    obtain ⟨h1, h2⟩ := fold_set vs (k + 1) off (cs.setIfInBounds (off + k) v)
    simp only [List.zipIdx_cons, List.foldl_cons]
    refine ⟨by rw [h1]; simp, fun i => ?_⟩
    rw [h2]
    simp only [Array.size_setIfInBounds, List.length_cons]
    by_cases hi : i = off + k
    · subst hi
      rw [if_neg (by omega)]
      by_cases hs : off + k < cs.size
      · rw [if_pos (by omega)]
        simp [hs]
      · rw [if_neg (by omega)]
        simp [hs]
    · rw [Array.getElem?_setIfInBounds_ne (Ne.symm hi)]
      by_cases hc : off + (k + 1) ≤ i ∧ i < off + (k + 1) + vs.length ∧ i < cs.size
      · rw [if_pos hc, if_pos (by omega)]
        have : i - (off + k) = (i - (off + (k + 1))) + 1 := by omega
        rw [this, List.getElem?_cons_succ]
      · rw [if_neg hc, if_neg (by omega)]

/-- cells that represent data, one by one -/
def RepL (w : World) (S : Nat → Prop) (ρ : Rho) (cs : List D) (vs : Array Value) : Prop := vs.size = cs.length ∧ ∀ (i : Nat) c u, cs[i]? = some c → vs[i]? = some u → Rep w S ρ c u

theorem fill_one {S : Nat → Prop} {cs : List D} {vs : Array Value} {d : D} {v : Value} {off : Nat} (h : RepL w S ρ cs vs) (hd : Rep w S ρ d v) (h1 : d.cells.all D.one = true) (hl : off + d.cells.length ≤ cs.length) :
    v.cells.size = d.cells.length ∧ RepL w S ρ (cs.take off ++ d.cells ++ cs.drop (off + d.cells.length)) (v.cells.zipIdx.foldl (fun (cs : Array Value) (x : Value × Nat) => cs.setIfInBounds (off + x.2) x.1) vs) := by
  obtain ⟨hs, hc⟩ := hd.cells h1
  refine ⟨hs, ?_⟩
  have e : v.cells.zipIdx.foldl (fun (cs : Array Value) (x : Value × Nat) => cs.setIfInBounds (off + x.2) x.1) vs = (v.cells.toList.zipIdx 0).foldl (fun (cs : Array Value) (x : Value × Nat) => cs.setIfInBounds (off + x.2) x.1) vs := by
    rw [← Array.foldl_toList, Array.toList_zipIdx]
  rw [e]
  obtain ⟨f1, f2⟩ := fold_set v.cells.toList 0 off vs
  refine ⟨by rw [f1, h.1]; simp; omega, fun i c u hi hu => ?_⟩
  rw [f2] at hu
  simp only [Nat.add_zero, Array.length_toList, Array.getElem?_toList] at hu
  by_cases ho : i < off
  · rw [if_neg (by omega)] at hu
    rw [List.append_assoc, List.getElem?_append_left (by simp; omega), List.getElem?_take_of_lt ho] at hi
    exact h.2 i c u hi hu
  · by_cases hm : i < off + d.cells.length
    · have hv : i < vs.size := by rw [h.1]; omega
      rw [if_pos (by omega)] at hu
      have hl2 : (cs.take off).length = off := by simp; omega
      rw [List.append_assoc, List.getElem?_append_right (by omega), hl2, List.getElem?_append_left (by omega)] at hi
      obtain ⟨u', hu', hr, _⟩ := hc _ _ hi
      rw [hu'] at hu; injection hu with hu; subst hu
      exact hr
    · rw [if_neg (by omega)] at hu
      have hl2 : (cs.take off ++ d.cells).length = off + d.cells.length := by simp; omega
      rw [List.getElem?_append_right (by omega), hl2, List.getElem?_drop] at hi
      have : off + d.cells.length + (i - (off + d.cells.length)) = i := by omega
      rw [this] at hi
      exact h.2 i c u hi hu

theorem fill_sound {S : Nat → Prop} {fs : List (Nat × Nat × Bool)} {places : Nat → Option (Nat × Nat)} (hpl : ∀ (i : Nat) x, fs[i]? = some x → places i = some (x.1, x.2.1)) : ∀ (ps : List (Nat × D)) (vps : List (Nat × Value)) (cs r : List D) (vs : Array Value),
    buildL fs cs ps = some r → ps.length = vps.length → (∀ (i : Nat) p q, ps[i]? = some p → vps[i]? = some q → p.1 = q.1 ∧ Rep w S ρ p.2 q.2) → RepL w S ρ cs vs →
    ∃ vs', Instr.fill places vs vps = some vs' ∧ RepL w S ρ r vs'
  | [], vps, cs, r, vs, hb, hl, _, h => by
    cases vps with
    | nil => simp only [buildL, Option.some.injEq] at hb; subst hb; exact ⟨vs, rfl, h⟩
    | cons q vps => simp at hl
  | (i, d) :: ps, vps, cs, r, vs, hb, hl, hr, h => by
    cases vps with
    | nil => simp at hl
    | cons q vps =>
    obtain ⟨j, v⟩ := q
    obtain ⟨hij, hd⟩ := hr 0 _ _ rfl rfl
    simp only at hij hd
    subst hij
    simp only [buildL] at hb
    cases hf : fs[i]? with
    | none => simp [hf] at hb
    | some f =>
      obtain ⟨off, sz, gg⟩ := f
      simp only [hf] at hb
      split at hb
      · rename_i hc
        obtain ⟨h1, h2, h3⟩ := hc
        rw [← h1] at hb h2
        obtain ⟨g1, g2⟩ := fill_one h hd h3 h2
        obtain ⟨vs', k1, k2⟩ := fill_sound hpl ps vps _ r _ hb (by simpa using hl) (fun i p q hp hq => hr (i + 1) p q (by simpa using hp) (by simpa using hq)) g2
        refine ⟨vs', ?_, k2⟩
        have hle : ¬ (v.cells.size ≠ sz ∨ off + v.cells.size > vs.size) := by rw [h.1]; omega
        simp only [Instr.fill, hpl i _ hf]
        rw [if_neg (by simpa using hle)]
        exact k1
      · cases hb

theorem run_places : ∀ (L : List Field), (∀ f ∈ L, 0 < sizeT P f.type) → (L.mapM fun f => (do pure (f.offset, ← sizeOf f.type) : Sem (Nat × Nat))).run P w = .ok (L.map fun f => (f.offset, sizeT P f.type)) w
  | [], _ => by simp
  | f :: L, h => by
    have ih := run_places L (fun f hf => h f (List.mem_cons_of_mem _ hf))
    simp only [List.mapM_cons, Sem.run_bind, run_sizeT (h f (List.mem_cons_self ..)), Result.andThen_ok, Sem.run_pure, ih, List.map_cons]

theorem build_sound (h : Sim X ρ σ bx a w) {t : TypeId} {ps : Array (Nat × Operand)} {d : D} (hv : buildD (tiOf P t) (ps.toList.map fun p => (p.1, ev σ p.2)) = some d) : Yields P X ρ bx a w ⟨dst, .build t ps, ty, pos, af, g⟩ d := by
  unfold buildD at hv
  split at hv
  · rename_i fs eq hk
    split at hv
    · rename_i hz
      obtain ⟨F, hu, hfs, _⟩ := ti_struct hk
      subst hfs
      rw [Option.map_eq_some_iff] at hv
      obtain ⟨r, hb, rfl⟩ := hv
      have hzero : ∃ z, (zeroValue t).run P w = .ok z w ∧ (tiOf P t).zero = z.cells.toList.map ofC := by
        have h2 : (tiOf P t).zero.length ≠ 0 := by omega
        simp only [tiOf] at h2 ⊢
        cases hi : P.info? t with
        | none => simp [hi] at h2
        | some i =>
          cases hz : i.zero with
          | none => simp [hi, hz] at h2
          | some z => exact ⟨z, by simp [zeroValue, typeInfo, hi, hz, go_sem], by simp [hz]⟩
      obtain ⟨z, hz1, hz2⟩ := hzero
      have hpos : ∀ f ∈ F.toList, 0 < sizeT P f.type := by
        intro f hf
        have := List.all_eq_true.1 hz.2.2 _ (List.mem_map.2 ⟨f, hf, rfl⟩)
        simpa using this
      have hrun : (F.mapM fun f => (do pure (f.offset, ← sizeOf f.type) : Sem (Nat × Nat))).run P w = .ok (F.map fun f => (f.offset, sizeT P f.type)) w := by
        rw [Array.mapM_eq_mapM_toList, Sem.run_map, run_places F.toList hpos, Result.andThen_ok]
        congr 1
        apply Array.toList_inj.1
        simp
      obtain ⟨vs', k1, k2⟩ := fill_sound (S := Stab X ρ bx w) (ρ := ρ) (w := w) (places := fun i => (F.map fun f => (f.offset, sizeT P f.type))[i]?) (fun i x hx => by
        simp only [List.getElem?_map, Array.getElem?_toList, Option.map_eq_some_iff] at hx
        obtain ⟨f, hf, rfl⟩ := hx
        simp [hf]) _
        (ps.toList.map fun p => (p.1, a.eval p.2)) _ _ z.cells hb (by simp) (fun i p q hp hq => by
          simp only [List.getElem?_map, Option.map_eq_some_iff] at hp hq
          obtain ⟨y, hy, rfl⟩ := hp
          obtain ⟨y', hy', rfl⟩ := hq
          rw [hy] at hy'; injection hy' with hy'; subst hy'
          exact ⟨rfl, h.ev _⟩) ⟨by rw [hz2]; simp, fun i c u hc hu => by
            rw [hz2, List.getElem?_map, Array.getElem?_toList, hu] at hc
            simp only [Option.map_some, Option.some.injEq] at hc
            subst hc
            exact .pure (rep_ofC u)⟩
      refine yields_same (.agg vs') ?_ (.agg k2.1 k2.2)
      have hpm : (ps.map fun (x : Nat × Operand) => (x.1, a.eval x.2)).toList = ps.toList.map fun p => (p.1, a.eval p.2) := by simp
      simp only [execOp, Instr.build, Sem.run_bind, Sem.run_pure, Result.andThen_ok, run_underlying hu, hz1, hrun, hpm, k1]
    · cases hv
  · rename_i n esz ag hk
    split at hv
    · rename_i hz
      obtain ⟨e, hu, hse, _⟩ := ti_arr hk
      rw [Option.map_eq_some_iff] at hv
      obtain ⟨r, hb, rfl⟩ := hv
      have hzero : ∃ z, (zeroValue t).run P w = .ok z w ∧ (tiOf P t).zero = z.cells.toList.map ofC := by
        have h2 : (tiOf P t).zero.length ≠ 0 := by omega
        simp only [tiOf] at h2 ⊢
        cases hi : P.info? t with
        | none => simp [hi] at h2
        | some i =>
          cases hz : i.zero with
          | none => simp [hi, hz] at h2
          | some z => exact ⟨z, by simp [zeroValue, typeInfo, hi, hz, go_sem], by simp [hz]⟩
      obtain ⟨z, hz1, hz2⟩ := hzero
      obtain ⟨vs', k1, k2⟩ := fill_sound (S := Stab X ρ bx w) (ρ := ρ) (w := w) (places := fun i => some (i * esz, esz)) (fun i x hx => by
        simp only [List.getElem?_map, Option.map_eq_some_iff] at hx
        obtain ⟨y, hy, rfl⟩ := hx
        have := (List.getElem?_eq_some_iff.1 hy).2
        simp at this
        subst this
        rfl) _
        (ps.toList.map fun p => (p.1, a.eval p.2)) _ _ z.cells hb (by simp) (fun i p q hp hq => by
          simp only [List.getElem?_map, Option.map_eq_some_iff] at hp hq
          obtain ⟨y, hy, rfl⟩ := hp
          obtain ⟨y', hy', rfl⟩ := hq
          rw [hy] at hy'; injection hy' with hy'; subst hy'
          exact ⟨rfl, h.ev _⟩) ⟨by rw [hz2]; simp, fun i c u hc hu => by
            rw [hz2, List.getElem?_map, Array.getElem?_toList, hu] at hc
            simp only [Option.map_some, Option.some.injEq] at hc
            subst hc
            exact .pure (rep_ofC u)⟩
      refine yields_same (.agg vs') ?_ (.agg k2.1 k2.2)
      have hpm : (ps.map fun (x : Nat × Operand) => (x.1, a.eval x.2)).toList = ps.toList.map fun p => (p.1, a.eval p.2) := by simp
      simp only [execOp, Instr.build, Sem.run_bind, Sem.run_pure, Result.andThen_ok, run_underlying hu, hz1, run_sizeT (hse ▸ hz.2.2), ← hse, hpm, k1]
    · cases hv
  · cases hv

theorem buildL_flat {fs : List (Nat × Nat × Bool)} {esz : Nat} {ag : Bool} : ∀ (ps : List (Nat × D)) (k : Nat) (done : List D), done.length = k * esz → ps.map (·.1) = List.range' k ps.length → ps.all (fun p => p.2.cells.length == esz && p.2.cells.all D.one) = true →
    (∀ i, i < k + ps.length → fs[i]? = some (i * esz, esz, ag)) → buildL fs (done ++ List.replicate (ps.length * esz) .undef) ps = some (done ++ (ps.map (·.2)).flatMap D.cells)
  | [], k, done, _, _, _, _ => by simp [buildL]
  | (i, d) :: ps, k, done, hd, hm, ha, hf => by
    simp only [List.map_cons, List.length_cons, List.range'_succ, List.cons.injEq] at hm
    obtain ⟨rfl, hm⟩ := hm
    simp only [List.all_cons, Bool.and_eq_true, beq_iff_eq] at ha
    obtain ⟨⟨h1, h2⟩, h3⟩ := ha
    simp only [buildL, hf i (by simp)]
    have hlen : (done ++ List.replicate (((i, d) :: ps).length * esz) D.undef).length = i * esz + (ps.length + 1) * esz := by simp [hd]
    rw [if_pos ⟨h1, by rw [hlen, Nat.add_mul]; omega, h2⟩]
    have e1 : (done ++ List.replicate (((i, d) :: ps).length * esz) D.undef).take (i * esz) = done := by
      rw [← hd]; exact List.take_left
    have e2 : (done ++ List.replicate (((i, d) :: ps).length * esz) D.undef).drop (i * esz + esz) = List.replicate (ps.length * esz) D.undef := by
      rw [← hd, ← List.drop_drop, List.drop_left, List.drop_replicate]
      congr 1
      simp only [List.length_cons, Nat.add_mul]
      omega
    rw [e1, e2, buildL_flat ps (i + 1) (done ++ d.cells) (by simp [hd, h1, Nat.add_mul]) hm h3 (fun j hj => hf j (by simp; omega))]
    simp

theorem flat_len {sz : Nat} : ∀ (ds : List D), (∀ x ∈ ds, x.cells.length = sz) → (ds.flatMap D.cells).length = ds.length * sz
  | [], _ => by simp
  | x :: ds, h => by
    rw [List.flatMap_cons, List.length_append, h x (List.mem_cons_self ..), flat_len ds (fun y hy => h y (List.mem_cons_of_mem _ hy)), List.length_cons, Nat.add_mul]
    omega
theorem flat_get {sz : Nat} : ∀ (ds : List D) (i j : Nat) (d : D), (∀ x ∈ ds, x.cells.length = sz) → ds[i]? = some d → j < sz → (ds.flatMap D.cells)[i * sz + j]? = d.cells[j]?
  | [], i, j, d, _, hd, _ => by simp at hd
  | x :: ds, i, j, d, hs, hd, hj => by
    have hx := hs x (List.mem_cons_self ..)
    simp only [List.flatMap_cons]
    cases i with
    | zero =>
      simp at hd
      subst hd
      rw [Nat.zero_mul, Nat.zero_add, List.getElem?_append_left (by omega)]
    | succ i =>
      rw [Nat.add_mul, List.getElem?_append_right (by omega), hx]
      have : i * sz + 1 * sz + j - sz = i * sz + j := by omega
      rw [this]
      exact flat_get ds i j d (fun y hy => hs y (List.mem_cons_of_mem _ hy)) (by simpa using hd) hj

theorem Sim.fresh (h : Sim X ρ σ bx a w) (o : Obj) : Stab X ρ bx (w.alloc o) w.heap.size := by
  refine ⟨by simp, .inr (Nat.le_trans h.nb h.fr.size), fun t hk p hp => ?_⟩
  obtain ⟨p', hp', _, _, _, hh⟩ := h.box t (by rw [hk]; decide)
  rw [hp] at hp'; injection hp' with hp'; subst hp'
  have := hh.lt
  omega

theorem lit_run (h : Sim X ρ σ bx a w) {t e : TypeId} {n esz : Nat} {ag : Bool} {ps : Array (Nat × Operand)} {dps : List (Nat × D)} (hu : P.underlying t = some (.slice e)) (hse : esz = sizeT P e) (hds : (ps.toList.map fun p => (p.1, ev σ p.2)) = dps) (hm : dps.map (·.1) = List.range n)
    (ha : dps.all (fun p => p.2.cells.length == esz && p.2.cells.all D.one) = true) (hpos : 0 < esz) (hbig : n * esz ≤ 65536) (hzl : (tiOf P e).zero.length = esz) :
    ∃ vs', (Instr.buildSlice t n (ps.map fun (x : Nat × Operand) => (x.1, a.eval x.2))).run P w = .ok (.slice (some ⟨w.heap.size, 0, none⟩) n n) (w.alloc (.cells vs' e)) ∧ RepL w (Stab X ρ bx w) ρ ((dps.map (·.2)).flatMap D.cells) vs' := by
  have hlen : dps.length = n := by have := congrArg List.length hm; simpa using this
  have hzero : ∃ z, (zeroValue e).run P w = .ok z w ∧ z.cells.size = esz := by
    have h2 : (tiOf P e).zero.length ≠ 0 := by omega
    simp only [tiOf] at h2 hzl
    cases hi : P.info? e with
    | none => simp [hi] at h2
    | some i =>
      cases hz : i.zero with
      | none => simp [hi, hz] at h2
      | some z => exact ⟨z, by simp [zeroValue, typeInfo, hi, hz, go_sem], by simpa [hi, hz] using hzl⟩
  obtain ⟨z, hz1, hz2⟩ := hzero
  have hbl := buildL_flat (fs := (List.range n).map fun i => (i * esz, esz, ag)) (esz := esz) (ag := ag) dps 0 [] (by simp) (by rw [hm, List.range_eq_range', hlen]) ha (fun i hi => by
    have hi : i < n := by omega
    simp [List.getElem?_range hi])
  simp only [List.nil_append, hlen] at hbl
  have go : ∀ zc : Array Value, (n * esz = 0 ∨ zc = z.cells) → ∃ vs', Instr.fill (fun i => some (i * esz, esz)) ((Array.range (n * esz)).map (zc[· % zc.size]!)) (ps.toList.map fun p => (p.1, a.eval p.2)) = some vs' ∧ RepL w (Stab X ρ bx w) ρ ((dps.map (·.2)).flatMap D.cells) vs' := by
    intro zc _
    refine fill_sound (S := Stab X ρ bx w) (ρ := ρ) (w := w) (places := fun i => some (i * esz, esz)) (fun i x hx => ?_) _ _ _ _ ((Array.range (n * esz)).map (zc[· % zc.size]!)) hbl (by rw [← hds]; simp) (fun i p q hp hq => ?_) ⟨by simp, fun i c u hc _ => ?_⟩
    · simp only [List.getElem?_map, Option.map_eq_some_iff] at hx
      obtain ⟨y, hy, rfl⟩ := hx
      have := (List.getElem?_eq_some_iff.1 hy).2
      simp at this
      subst this
      rfl
    · rw [← hds] at hp
      simp only [List.getElem?_map, Option.map_eq_some_iff] at hp hq
      obtain ⟨y, hy, rfl⟩ := hp
      obtain ⟨y', hy', rfl⟩ := hq
      rw [hy] at hy'; injection hy' with hy'; subst hy'
      exact ⟨rfl, h.ev _⟩
    · have := List.mem_of_getElem? hc
      have := List.eq_of_mem_replicate this
      subst this
      exact .pure (.undef u)
  have main : ∃ vs', (Instr.buildSlice t n (ps.map fun (x : Nat × Operand) => (x.1, a.eval x.2))).run P w = .ok (.slice (some ⟨w.heap.size, 0, none⟩) n n) (w.alloc (.cells vs' e)) ∧ RepL w (Stab X ρ bx w) ρ ((dps.map (·.2)).flatMap D.cells) vs' := by
    have hpm : (ps.map fun (x : Nat × Operand) => (x.1, a.eval x.2)).toList = ps.toList.map fun p => (p.1, a.eval p.2) := by simp
    have hnb : ¬ n * sizeT P e > 2 ^ 24 := by rw [← hse]; omega
    by_cases hn0 : n * esz = 0
    · obtain ⟨vs', k1, k2⟩ := go #[] (.inl hn0)
      refine ⟨vs', ?_, k2⟩
      rw [hn0] at k1
      have hnb0 : ¬ 0 > 2 ^ 24 := by omega
      simp only [Instr.buildSlice, Sem.run_bind, run_underlying hu, Result.andThen_ok, run_sizeT (hse ▸ hpos), ← hse, hn0, hnb0, if_false, if_true, Sem.run_pure, hpm, k1, newRow, newObj, Sem.run, World.alloc]
    · obtain ⟨vs', k1, k2⟩ := go z.cells (.inr rfl)
      refine ⟨vs', ?_, k2⟩
      rw [← hse] at hnb
      simp only [Instr.buildSlice, Sem.run_bind, run_underlying hu, Result.andThen_ok, run_sizeT (hse ▸ hpos), ← hse, hnb, if_false, hn0, Sem.run_pure, hpm, hz1, k1, newRow, newObj, Sem.run, World.alloc]
  exact main

theorem buildSlice_sound (h : Sim X ρ σ bx a w) {t : TypeId} {n : Nat} {ps : Array (Nat × Operand)} {d : D} (hv : buildSliceD (tiOf P) (tiOf P t) n (ps.toList.map fun p => (p.1, ev σ p.2)) = some d) : Yields P X ρ bx a w ⟨dst, .buildSlice t n ps, ty, pos, af, g⟩ d := by
  unfold buildSliceD at hv
  split at hv
  · rename_i e esz b ag hk
    split at hv
    · rename_i hc
      obtain ⟨hm, ha, hpos, hbig, hzl⟩ := hc
      injection hv with hv
      subst hv
      obtain ⟨hu, hse, _, _⟩ := ti_slice hk
      generalize hds : (ps.toList.map fun p => (p.1, ev σ p.2)) = dps at hm ha
      have hlen : dps.length = n := by have := congrArg List.length hm; simpa using this
      have ha' : dps.all (fun p => p.2.cells.length == esz && p.2.cells.all D.one) = true := by
        rw [List.all_eq_true] at ha ⊢
        intro p hp
        have := ha p hp
        simp only [Bool.and_eq_true] at this ⊢
        exact this.1
      obtain ⟨vs', hrun, hrep⟩ := lit_run (ag := ag) h hu hse hds hm ha' hpos hbig hzl
      have hb := (Below.refl w.heap.size w).alloc (Nat.le_refl _) (.cells vs' e)
      have hel : ∀ x ∈ dps.map (·.2), x.cells.length = esz ∧ x.cells.all D.one = true ∧ x.pure = true := by
        intro x hx
        obtain ⟨p, hp, rfl⟩ := List.mem_map.1 hx
        have := List.all_eq_true.1 ha p hp
        simp only [Bool.and_eq_true, beq_iff_eq] at this
        exact ⟨this.1.1, this.1.2, this.2⟩
      have hcell : ∀ (i : Nat) d (j : Nat) c, (dps.map (·.2))[i]? = some d → d.cells[j]? = some c → ∃ u, vs'[i * esz + j]? = some u ∧ Rep w (Stab X ρ bx w) ρ c u := by
        intro i d j c hi hj
        have hd := hel d (List.mem_of_getElem? hi)
        have hj' : j < esz := by have := (List.getElem?_eq_some_iff.1 hj).1; omega
        have hf := flat_get (sz := esz) (dps.map (·.2)) i j d (fun x hx => (hel x hx).1) hi hj'
        rw [hj] at hf
        have hlt := (List.getElem?_eq_some_iff.1 hf).1
        have hlt' : i * esz + j < vs'.size := by rw [hrep.1]; exact hlt
        have hu' : vs'[i * esz + j]? = some vs'[i * esz + j] := Array.getElem?_eq_getElem hlt'
        exact ⟨_, hu', hrep.2 _ _ _ hf hu'⟩
      have hgd : ∀ (i : Nat) d (j : Nat) c, (dps.map (·.2))[i]? = some d → d.cells[j]? = some c → vs'[i * esz + j]? = some (vs'.getD (i * esz + j) undef) ∧ Rep w (Stab X ρ bx w) ρ c (vs'.getD (i * esz + j) undef) := by
        intro i d j c hi hj
        obtain ⟨u, hu', hr⟩ := hcell i d j c hi hj
        have : vs'.getD (i * esz + j) undef = u := by rw [Array.getD_eq_getD_getElem?, hu']; rfl
        rw [this]; exact ⟨hu', hr⟩
      refine ⟨.slice (some ⟨w.heap.size, 0, none⟩) n n, w.alloc (.cells vs' e), ?_, hb, .pure (.sl (b := w.heap.size) (off := 0) (us := fun i j => vs'.getD (i * esz + j) undef) (by simp [hlen]) (Nat.le_refl _) ?_ (fun _ => ⟨rfl, h.fresh _⟩)
        (fun i d hi => (hel d (List.mem_of_getElem? hi)).1) (fun i d j c hi hj => ?_) (fun i d j c hi hj => ?_) (fun i d j c hi hj => ?_))⟩
      · simp only [execOp, Sem.run_bind, hrun, Result.andThen_ok, Sem.run_pure]
      · have : n ≤ n * esz := Nat.le_mul_of_pos_right n hpos
        simp only [maxLen]; omega
      · rw [Nat.zero_add]
        have hn := heap_alloc_new w (.cells vs' e)
        simp only [World.cell?, hn, Option.isSome_none, Bool.false_eq_true, if_false]
        exact (hgd i d j c hi hj).1
      · exact (hgd i d j c hi hj).2.one (List.all_eq_true.1 (hel d (List.mem_of_getElem? hi)).2.1 c (List.mem_of_getElem? hj))
      · refine ((hgd i d j c hi hj).2.mono (fun b hb' => ?_) (fun b hb' => ?_) (fun _ _ _ h => h)).toP (pure_cells (hel d (List.mem_of_getElem? hi)).2.2 c (List.mem_of_getElem? hj))
        · exact hb.block b hb'.1
        · exact ⟨Nat.lt_of_lt_of_le hb'.1 hb.size, hb'.2⟩
    · cases hv
  · cases hv

theorem builtin_run {b : Builtin} {ats : Array TypeId} {args : Array Operand} {v : Value} {f : Array TypeId → TypeId → Array Value → Sem Value} (hb : ∀ ts t cs vs, builtin b ts t cs vs = (do pure (.value (← f ts t vs)))) (hr : (f ats ty (args.map a.eval)).run P w = .ok v w) :
    (execOp a.eval ⟨dst, .call { callee := .builtin b, args, argTypes := ats }, ty, pos, af, g⟩).run P w = .ok (.value v) w := by
  simp only [execOp, resolve, invoke, Sem.run_bind, Sem.run_pure, Result.andThen_ok, hb, hr]

theorem len_sound (h : Sim X ρ σ bx a w) {ats : Array TypeId} {args : Array Operand} {d : D} (hv : biD .len (ats.toList.map (tiOf P)) (args.toList.map (ev σ)) = some d) : Yields P X ρ bx a w ⟨dst, .call { callee := .builtin .len, args, argTypes := ats }, ty, pos, af, g⟩ d := by
  obtain ⟨ats⟩ := ats
  obtain ⟨args⟩ := args
  cases ats with
  | nil => simp [biD] at hv
  | cons T ats =>
  cases ats with
  | cons T' ats => simp [biD] at hv
  | nil =>
  cases args with
  | nil => simp [biD] at hv
  | cons x args =>
  cases args with
  | cons y args => simp [biD] at hv
  | nil =>
  simp only [List.map_cons, List.map_nil, biD, Option.map_eq_some_iff] at hv
  obtain ⟨n, hn, rfl⟩ := hv
  have hx := h.ev x
  generalize ev σ x = dx at hn hx
  refine yields_same _ (builtin_run (f := Builtin.len_) (fun _ _ _ _ => rfl) (v := .int .i64 (n : Int)) ?_) (.pure (.int _ _))
  simp only [List.map_toArray, List.map_cons, List.map_nil]
  unfold lenD at hn
  split at hn <;> try (cases hn; done)
  all_goals injection hn with hn; subst hn
  · rename_i s hk
    have hsz : (⟨s.toArray⟩ : ByteArray).size = s.length := by simp [ByteArray.size]
    simp only [Builtin.len_, List.getElem?_toArray, List.getElem?_cons_zero, hx.inv_str, Sem.run_bind, run_underlying (ti_str hk), Result.andThen_ok, Sem.run_pure, goInt, hsz]
  · rename_i hk
    have hx2 := hx.toP rfl
    generalize hax : a.eval x = vx at hx2
    cases hx2 with
    | sl hn _ _ _ _ _ _ _ => subst hn; simp [Builtin.len_, run_underlying (ti_slice hk).1, goInt]
  · rename_i hk
    simp [Builtin.len_, hx.inv_nil, run_underlying (ti_slice hk).1, goInt]
  · rename_i hk
    generalize hax : a.eval x = vx at hx
    cases hx with
    | pure h => cases h
    | osl => simp [Builtin.len_, run_underlying (ti_slice hk).1, goInt]
  · rename_i hk
    obtain ⟨e, hu, _⟩ := ti_arr hk
    simp [Builtin.len_, run_underlying hu, goInt]

theorem min_sound (h : Sim X ρ σ bx a w) {ats : Array TypeId} {args : Array Operand} {d : D} (hv : minD (args.toList.map (ev σ)) = some d) : Yields P X ρ bx a w ⟨dst, .call { callee := .builtin .min, args, argTypes := ats }, ty, pos, af, g⟩ d := by
  obtain ⟨args⟩ := args
  unfold minD at hv
  split at hv
  · rename_i k m k' n he
    cases args with
    | nil => simp at he
    | cons x args =>
    cases args with
    | nil => simp at he
    | cons y args =>
    cases args with
    | cons z args => simp at he
    | nil =>
    simp only [List.map_cons, List.map_nil, List.cons.injEq, and_true] at he
    split at hv
    · injection hv with hv
      subst hv
      have hx := h.ev x
      have hy := h.ev y
      rw [he.1] at hx
      rw [he.2] at hy
      refine yields_same _ (builtin_run (f := Builtin.min_) (fun _ _ _ _ => rfl) (v := .int k (if n < m then n else m)) ?_) (.pure (.int _ _))
      simp [Builtin.min_, Builtin.min2, hx.inv_int, hy.inv_int]
    · cases hv
  · cases hv

theorem max_sound (h : Sim X ρ σ bx a w) {ats : Array TypeId} {args : Array Operand} {d : D} (hv : maxD (args.toList.map (ev σ)) = some d) : Yields P X ρ bx a w ⟨dst, .call { callee := .builtin .max, args, argTypes := ats }, ty, pos, af, g⟩ d := by
  obtain ⟨args⟩ := args
  unfold maxD at hv
  split at hv
  · rename_i k m k' n he
    cases args with
    | nil => simp at he
    | cons x args =>
    cases args with
    | nil => simp at he
    | cons y args =>
    cases args with
    | cons z args => simp at he
    | nil =>
    simp only [List.map_cons, List.map_nil, List.cons.injEq, and_true] at he
    split at hv
    · injection hv with hv
      subst hv
      have hx := h.ev x
      have hy := h.ev y
      rw [he.1] at hx
      rw [he.2] at hy
      refine yields_same _ (builtin_run (f := Builtin.max_) (fun _ _ _ _ => rfl) (v := .int k (if m < n then n else m)) ?_) (.pure (.int _ _))
      simp [Builtin.max_, Builtin.max2, hx.inv_int, hy.inv_int]
    · cases hv
  · cases hv

theorem bytesD_eq : ∀ (es : List D) (l : List UInt8), bytesD es = some l → ∃ ns : List Int, es = ns.map (D.int .u8) ∧ l = ns.map fun n => UInt8.ofNat n.toNat
  | [], l, h => by simp only [bytesD, Option.some.injEq] at h; subst h; exact ⟨[], rfl, rfl⟩
  | x :: es, l, h => by
    unfold bytesD at h
    split at h
    · rename_i heq; cases heq
    · rename_i n es' heq
      injection heq with h1 h2
      subst h1; subst h2
      rw [Option.map_eq_some_iff] at h
      obtain ⟨l', h', rfl⟩ := h
      obtain ⟨ns, rfl, rfl⟩ := bytesD_eq _ _ h'
      exact ⟨n :: ns, rfl, rfl⟩
    · cases h

theorem bytes_run {S : Nat → Prop} {es : List D} {A : Option Addr} {n cap : Nat} {l : List UInt8} (hx : PRep w S (.sl 1 es) (.slice A n cap)) (hl : bytesD es = some l) : (Conv.bytesToString (.slice A n cap)).run P w = .ok (.string ⟨l.toArray⟩) w := by
  obtain ⟨ns, rfl, rfl⟩ := bytesD_eq es l hl
  cases hx with
  | @sl _ _ _ _ _ b off us hn hcap hmax hA hsz hc h1 hr =>
    by_cases hne : ns = []
    · subst hne
      simp only [List.map_nil, List.length_nil] at hn
      subst hn
      cases A with
      | none => rw [Conv.bytesToString, Sem.run_pure]; rfl
      | some ad =>
        rw [run_bytesToString w ad 0 cap [] (run_loadCells_list (P := P) (w := w) ad [] (fun j v hj => by simp at hj))]
        rfl
    · obtain ⟨rfl, _⟩ := hA (by simpa using hne)
      have hl : (loadCells ⟨b, off, none⟩ n).run P w = .ok (ns.map (Value.int .u8)).toArray w := by
        have := run_loadCells_list (P := P) (w := w) ⟨b, off, none⟩ (ns.map (Value.int .u8)) (fun j v hj => by
          rw [List.getElem?_map, Option.map_eq_some_iff] at hj
          obtain ⟨m, hm, rfl⟩ := hj
          have h0 := hc j (.int .u8 m) 0 (.int .u8 m) (by simp [hm]) rfl
          have h2 := hr j (.int .u8 m) 0 (.int .u8 m) (by simp [hm]) rfl
          have e : us j 0 = .int .u8 m := (Rep.pure (ρ := ⟨fun _ _ => none, fun _ => none⟩) h2).inv_int
          rw [e] at h0
          rw [Addr.add_none]
          simpa using h0)
        rw [List.length_map] at this
        rw [List.length_map] at hn
        rw [hn]; exact this
      rw [run_bytesToString w _ n cap ns hl, foldl_push_bytes]
      congr 2
      simp [ByteArray.empty, ByteArray.emptyWithCapacity]
      rfl

theorem conv_sound (h : Sim X ρ σ bx a w) {s t : TypeId} {x : Operand} {d : D} (hv : convD (tiOf P) (tiOf P s) (tiOf P t) (ev σ x) = some d) : Yields P X ρ bx a w ⟨dst, .convert s t x, ty, pos, af, g⟩ d := by
  have hx := h.ev x
  generalize ev σ x = dx at hv hx
  unfold convD at hv
  split at hv
  · rename_i k n
    split at hv
    · rename_i k1 k2 h1 h2
      injection hv with hv
      subst hv
      refine yields_same (.int k2 (k2.wrap n)) ?_ (.pure (.int _ _))
      simp [execOp, convert, run_underlying (ti_int h1), run_underlying (ti_int h2), hx.inv_int, Conv.intToInt]
    · cases hv
  · rename_i l
    split at hv
    · rename_i h1 h2
      injection hv with hv
      subst hv
      refine yields_same (.string ⟨l.toArray⟩) ?_ (.pure (.str _))
      simp [execOp, convert, run_underlying (ti_str h1), run_underlying (ti_str h2), hx.inv_str]
    · cases hv
  · rename_i sz es
    split at hv
    · rename_i e z0 b0 g0 h1 h2
      split at hv
      · rename_i hsz
        obtain ⟨hsz, hu8⟩ := hsz
        subst hsz
        have hu : P.underlying e = some (.int .u8) := by
          unfold TK.isU8 at hu8
          split at hu8
          · rename_i hk; exact ti_int hk
          · cases hu8
        rw [Option.map_eq_some_iff] at hv
        obtain ⟨l, hl, rfl⟩ := hv
        have hx2 : PRep w (Stab X ρ bx w) (.sl 1 es) (a.eval x) := hx.toP rfl
        refine yields_same (.string ⟨l.toArray⟩) ?_ (.pure (.str _))
        generalize hax : a.eval x = vx at hx2
        have hsl : ∃ A n cap, vx = .slice A n cap := by cases hx2; exact ⟨_, _, _, rfl⟩
        obtain ⟨A, n, cap, rfl⟩ := hsl
        have hrun := bytes_run (P := P) hx2 hl
        simp only [execOp, convert, hax, Sem.run_bind, run_underlying (ti_slice h1).1, run_underlying (ti_str h2), run_underlying hu, Result.andThen_ok, hrun, Sem.run_pure]
      · cases hv
    · cases hv
  · cases hv

theorem pick_sound (h : Sim X ρ σ bx a w) {c x y : Operand} {d : D} (hv : pickV (ev σ c) (ev σ x) (ev σ y) = some d) : Yields P X ρ bx a w ⟨dst, .pick c x y, ty, pos, af, g⟩ d := by
  have hc := h.ev c
  generalize ev σ c = dc at hv hc
  cases dc <;> simp only [pickV] at hv <;> try (cases hv; done)
  rename_i t
  injection hv with hv
  subst hv
  refine yields_same (if t then a.eval x else a.eval y) ?_ ?_
  · simp [execOp, asBool, hc.inv_bool]
  · cases t
    · exact h.ev y
    · exact h.ev x

theorem nil_sound (h : Sim X ρ σ bx a w) {op : BinOp} {t t' : TypeId} {x : Operand} {d : D} (hv : nilB (tiOf P t) op (ev σ x) = some d) : Yields P X ρ bx a w ⟨dst, .binOp op t x (.const .nilIface) t', ty, pos, af, g⟩ d := by
  have hx := h.ev x
  generalize ev σ x = dx at hv hx
  have key : ∀ b ms, P.underlying t = some (.interface ms) → nilE dx = some b → (Op.equal t (a.eval x) .nilIface).run P w = .ok b w ∧ (∀ op, (eqGuard op t x (.const .nilIface) (a.eval x) .nilIface).run P w = .ok () w) ∧ ((∃ t v, a.eval x = .iface t v) ∨ a.eval x = .nilIface) := by
    intro b ms hu hb
    unfold nilE at hb
    split at hb
    · injection hb with hb
      subst hb
      generalize a.eval x = vx at hx
      have : ∃ t v, vx = .iface t v := by cases hx with
        | pure h => cases h with | ifc h => exact ⟨_, _, rfl⟩
        | ifc h => exact ⟨_, _, rfl⟩
      obtain ⟨t1, v1, rfl⟩ := this
      have e1 : ∀ n, (Op.equalIn (n + 1) t (.iface t1 v1) .nilIface).run P w = .ok false w := fun n => by simp [Op.equalIn, run_underlying hu]
      exact ⟨e1 9999, fun op => by cases op <;> simp [eqGuard], .inl ⟨_, _, rfl⟩⟩
    · injection hb with hb
      subst hb
      have hx := hx.inv_raw
      rw [hx]
      have e1 : ∀ n, (Op.equalIn (n + 1) t .nilIface .nilIface).run P w = .ok true w := fun n => by simp [Op.equalIn, run_underlying hu]
      exact ⟨e1 9999, fun op => by cases op <;> simp [eqGuard], .inr rfl⟩
    · cases hb
  unfold nilB at hv
  split at hv
  · rename_i hk
    obtain ⟨ms, hu⟩ := ti_ifc hk
    rw [Option.map_eq_some_iff] at hv
    obtain ⟨b, hb, rfl⟩ := hv
    obtain ⟨h1, h2, h3⟩ := key b ms hu hb
    refine yields_same (.bool b) ?_ (.pure (.bool _))
    have he : a.eval (.const .nilIface) = .nilIface := rfl
    have : (binOp .eql t (a.eval x) .nilIface).run P w = .ok (.bool b) w := by
      rcases h3 with ⟨t1, v1, e⟩ | e <;> rw [e] at h1 ⊢ <;> simp [binOp, h1]
    simp only [execOp, he, Sem.run_bind, h2, this, Result.andThen_ok, Sem.run_pure]
  · rename_i hk
    obtain ⟨ms, hu⟩ := ti_ifc hk
    rw [Option.map_eq_some_iff] at hv
    obtain ⟨b, hb, rfl⟩ := hv
    obtain ⟨h1, h2, h3⟩ := key b ms hu hb
    refine yields_same (.bool (!b)) ?_ (.pure (.bool _))
    have he : a.eval (.const .nilIface) = .nilIface := rfl
    have : (binOp .neq t (a.eval x) .nilIface).run P w = .ok (.bool (!b)) w := by
      rcases h3 with ⟨t1, v1, e⟩ | e <;> rw [e] at h1 ⊢ <;> simp [binOp, h1]
    simp only [execOp, he, Sem.run_bind, h2, this, Result.andThen_ok, Sem.run_pure]
  · cases hv

theorem mkIfc_sound (h : Sim X ρ σ bx a w) {t : TypeId} {x : Operand} {d : D} (hv : mkIfc (tiOf P t) t (ev σ x) = some d) : Yields P X ρ bx a w ⟨dst, .makeInterface t x, ty, pos, af, g⟩ d := by
  unfold mkIfc at hv
  split at hv
  · cases hv
  · cases hv
  · rename_i h1 h2
    injection hv with hv
    subst hv
    obtain ⟨dd, hu, hn⟩ := ti_noifc h1 h2
    refine yields_same (.iface t (a.eval x)) ?_ (.ifc (h.ev x))
    simp only [execOp, Instr.makeInterface, Sem.run_bind, run_underlying hu, Result.andThen_ok]
    cases dd <;> first | (exact absurd rfl (hn _)) | simp

theorem tass_sound (h : Sim X ρ σ bx a w) {t xt : TypeId} {x : Operand} {ok : Bool} {d : D} (hv : tassD (tiOf P t) t ok (ev σ x) = some d) : Yields P X ρ bx a w ⟨dst, .typeAssert x xt t ok, ty, pos, af, g⟩ d := by
  have hx := h.ev x
  generalize ev σ x = dx at hv hx
  have hzero : (tiOf P t).zero.isEmpty = false → ∃ z, (zeroValue t).run P w = .ok z w := by
    intro h2
    simp only [tiOf] at h2
    cases hi : P.info? t with
    | none => simp [hi] at h2
    | some i =>
      cases hz : i.zero with
      | none => simp [hi, hz] at h2
      | some z => exact ⟨z, by simp [zeroValue, typeInfo, hi, hz, go_sem]⟩
  have htup : ∀ (v v2 : Value) (d d2 : D), Rep w (Stab X ρ bx w) ρ d v → Rep w (Stab X ρ bx w) ρ d2 v2 → Rep w (Stab X ρ bx w) ρ (.tup [d, d2]) (.tuple #[v, v2]) := by
    intro v v2 d d2 h1 h2
    refine .tup rfl fun i dd vv hd hv => ?_
    rcases i with _ | _ | i
    · simp at hd hv; subst hd; subst hv; exact h1
    · simp at hd hv; subst hd; subst hv; exact h2
    · simp at hd
  unfold tassD at hv
  split at hv
  · cases hv
  · cases hv
  · rename_i h1 h2
    obtain ⟨dd, hu, hn⟩ := ti_noifc h1 h2
    split at hv
    · rename_i t' v0
      generalize hax : a.eval x = vx at hx
      have : ∃ v, vx = .iface t' v ∧ Rep w (Stab X ρ bx w) ρ v0 v := by cases hx with
        | pure h => cases h with | ifc h => exact ⟨_, rfl, .pure h⟩
        | ifc h => exact ⟨_, rfl, h⟩
      obtain ⟨v, rfl, hr⟩ := this
      split at hv
      · rename_i ht
        subst ht
        injection hv with hv
        subst hv
        refine yields_same (if ok then .tuple #[v, .bool true] else v) ?_ ?_
        · simp only [execOp, Instr.typeAssert, Sem.run_bind, run_underlying hu, Result.andThen_ok, hax]
          cases dd <;> first | (exact absurd rfl (hn _)) | (cases ok <;> simp)
        · cases ok
          · exact hr
          · exact htup _ _ _ _ hr (.pure (.bool _))
      · rename_i ht
        split at hv
        · rename_i hz
          simp only [Bool.and_eq_true, Bool.not_eq_true'] at hz
          obtain ⟨rfl, hz⟩ := hz
          injection hv with hv
          subst hv
          obtain ⟨z, hz⟩ := hzero hz
          refine yields_same (.tuple #[z, .bool false]) ?_ (htup _ _ _ _ (.pure (.undef _)) (.pure (.bool _)))
          simp only [execOp, Instr.typeAssert, Sem.run_bind, run_underlying hu, Result.andThen_ok, hax]
          cases dd <;> first | (exact absurd rfl (hn _)) | simp [ht, hz]
        · cases hv
    · split at hv
      · rename_i hz
        simp only [Bool.and_eq_true, Bool.not_eq_true'] at hz
        obtain ⟨rfl, hz⟩ := hz
        injection hv with hv
        subst hv
        obtain ⟨z, hz⟩ := hzero hz
        refine yields_same (.tuple #[z, .bool false]) ?_ (htup _ _ _ _ (.pure (.undef _)) (.pure (.bool _)))
        simp only [execOp, Instr.typeAssert, Sem.run_bind, run_underlying hu, Result.andThen_ok, hx.inv_raw]
        cases dd <;> first | (exact absurd rfl (hn _)) | simp [hz]
      · cases hv
    · cases hv

/-- **ALL OPERATIONS THAT YIELD A DATUM.** -/
theorem val_sound (h : Sim X ρ σ bx a w) (o : Oper) {d : D} (hv : valD P σ bx o.op = some d) : Yields P X ρ bx a w o d := by
  obtain ⟨dst, op, ty, pos, af, g⟩ := o
  simp only at hv
  cases op with
  | move x => simp only [valD, Option.some.injEq] at hv; subst hv; exact yields_same (a.eval x) (by simp [execOp]) (h.ev x)
  | assign x => simp only [valD, Option.some.injEq] at hv; subst hv; exact yields_same (a.eval x) (by simp [execOp]) (h.ev x)
  | pick c x y => exact pick_sound h hv
  | binOp op t x y t' =>
    simp only [valD, binV] at hv
    cases hn : isNil y with
    | false => rw [hn] at hv; exact binOp_sound h hv
    | true =>
      rw [hn] at hv
      have hy : y = .const .nilIface := by
        unfold isNil at hn
        split at hn
        · rfl
        · cases hn
      subst hy
      exact nil_sound h hv
  | makeInterface t x => exact mkIfc_sound h hv
  | typeAssert x xt t ok => exact tass_sound h hv
  | unOp op t x => exact unOp_sound h hv
  | fieldAddr t x i => exact fieldAddr_sound h hv
  | field t x i => exact field_sound h hv
  | indexAddr t x y => exact indexAddr_sound h hv
  | index t x y => exact index_sound h hv
  | load t x => exact load_sound h hv
  | extract x i =>
    simp only [valD] at hv
    have hx := h.ev x
    generalize ev σ x = dx at hv hx
    cases dx <;> simp only [atTup] at hv <;> try (cases hv; done)
    rename_i ds
    obtain ⟨vs, hax, hl, hr⟩ := hx.inv_tup
    have hi : i < vs.size := by have := (List.getElem?_eq_some_iff.1 hv).1; omega
    have hvi : vs[i]? = some vs[i] := Array.getElem?_eq_getElem hi
    exact yields_same vs[i] (by simp [execOp, Instr.extract, hax, hvi]) (hr _ _ _ hv hvi)
  | slice t x lo hi mx =>
    cases mx with
    | none => exact slice_sound h hv
    | some m => simp [valD] at hv
  | build t ps => exact build_sound h hv
  | buildSlice t n ps => exact buildSlice_sound h hv
  | nilCheck x =>
    simp only [valD] at hv
    have hx := h.ev x
    generalize ev σ x = dx at hv hx
    cases dx <;> simp only [nilD] at hv <;> try (cases hv; done)
    · injection hv with hv
      subst hv
      have hx2 := hx.toP rfl
      generalize hax : a.eval x = vx at hx hx2
      refine yields_same vx ?_ hx
      cases hx2
      simp [execOp, hax]
    · injection hv with hv
      subst hv
      obtain ⟨p, hp, hax⟩ := hx.inv_loc
      exact yields_same (a.eval x) (by simp [execOp, hax]) hx
  | makeFunc f first caps =>
    simp only [valD] at hv
    split at hv
    · rename_i hf
      injection hv with hv
      subst hv
      have hf : first = #[] := by simpa using hf
      subst hf
      refine yields_same (.func f #[] (caps.map a.eval)) (by simp [execOp, Instr.makeFunc]) (.fn (by simp) fun i d v hd hv => ?_)
      simp only [List.getElem?_map, Array.getElem?_toList, Array.getElem?_map, Option.map_eq_some_iff] at hd hv
      obtain ⟨x, hx, rfl⟩ := hd
      obtain ⟨y, hy, rfl⟩ := hv
      rw [hx] at hy; injection hy with hy; subst hy
      exact h.ev x
    · cases hv
  | convert s t x => exact conv_sound h hv
  | call c =>
    obtain ⟨callee, args, ats⟩ := c
    cases callee with
    | builtin b =>
      simp only [valD] at hv
      cases b with
      | len => exact len_sound h hv
      | min => exact min_sound h (by simpa only [biD] using hv)
      | max => exact max_sound h (by simpa only [biD] using hv)
      | _ => simp [biD] at hv
    | _ => simp [valD] at hv
  | _ => simp [valD] at hv

end Go.V
