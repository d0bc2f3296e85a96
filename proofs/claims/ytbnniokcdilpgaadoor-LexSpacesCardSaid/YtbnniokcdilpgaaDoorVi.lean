/-
  The operations that lay, write or lengthen a variable of the activation's own.
-/
import Derived.Test.YtbnniokcdilpgaaDoorVh
import Derived.Maps.AppendAt
namespace Go.V
open Go.RowKit

variable {P : Program} {X : Ctx} {ρ : Rho} {σ : Env} {bx : Bxs} {a : Act} {w : World}
variable {ty : TypeId} {pos : String} {af : Array Edge} {g : Option (Nat × Bool)}

/-- A new variable that holds v. -/
theorem newvar (h : Sim X ρ σ bx a w) {T d s : Nat} (hd : d < X.N) (hlo : X.lo ≤ s) {v : Value} {x : D} (hs : v.cells.size = x.cells.length)
    (hc : ∀ (j : Nat) c, x.cells[j]? = some c → ∃ u, v.cells[j]? = some u ∧ Rep w (Stab X ρ bx w) ρ c u ∧ u.oneCell' = true) :
    ∃ ρ', Sim X ρ' (upd σ d (.loc s ((bx s).ep + 1) 0 0)) (upd bx s ⟨(bx s).ep + 1, 1, x.cells.length, T, [x]⟩) (a.put (some d) (.pointer (some ⟨w.heap.size, 0, none⟩))) (w.alloc (.cells v.cells T)) := by
  have hb := (Below.refl w.heap.size w).alloc (Nat.le_refl _) (.cells v.cells T)
  have h2 := h.own (w' := w.alloc (.cells v.cells T)) (t := s) (p := ⟨w.heap.size, 1, x.cells.length, T⟩) (es := [x]) (bx1 := bx) hlo (fun _ => .inl rfl) (Old := fun _ => False) (.of_below hb) (fun _ h => h.elim) (.inl (Nat.le_refl _)) (fun S' ρ' hS hρ => by
    refine ⟨⟨v.cells, heap_alloc_new w _, by simp [hs], fun _ j => v.cells.getD j undef, fun i y j c hi hj => ?_⟩, by simp, by simp [maxLen], fun i y hi => ?_⟩
    · cases i with
      | zero =>
        simp only [List.getElem?_cons_zero, Option.some.injEq] at hi
        subst hi
        dsimp only
        obtain ⟨u, hu, hr, h1⟩ := hc j c hj
        have : v.cells.getD j undef = u := by rw [Array.getD_eq_getD_getElem?, hu]; rfl
        rw [this, Nat.zero_mul, Nat.zero_add]
        exact ⟨hu, hr.mono (fun b hb' => hb.block b hb'.1) hS hρ, h1⟩
      | succ i => simp at hi
    · cases i with
      | zero => simp only [List.getElem?_cons_zero, Option.some.injEq] at hi; subst hi; rfl
      | succ i => simp at hi)
  refine ⟨_, h2.put (dst := some d) (fun t ht => by injection ht with ht; subst ht; exact hd) (.loc (p := ⟨w.heap.size, 1, x.cells.length, T⟩) ?_ (by simp))⟩
  simp

theorem zero_ex {t : TypeId} (h : (tiOf P t).zero.length ≠ 0) : ∃ i z, P.info? t = some i ∧ i.zero = some z ∧ (tiOf P t).zero = z.cells.toList.map ofC := by
  simp only [tiOf] at h ⊢
  cases hi : P.info? t with
  | none => simp [hi] at h
  | some i =>
    cases hz : i.zero with
    | none => simp [hi, hz] at h
    | some z => exact ⟨i, z, rfl, hz, by simp [hz]⟩

theorem alloc_sound (h : Sim X ρ σ bx a w) {T d s : Nat} (hd : d < X.N) (hlo : X.lo ≤ s) {z : D} (hz : zeroD (tiOf P T) = some z) :
    ∃ v w', (execOp a.eval ⟨some d, .alloc T, ty, pos, af, g⟩).run P w = .ok (.value v) w' ∧
      ∃ ρ', Sim X ρ' (upd σ d (.loc s ((bx s).ep + 1) 0 0)) (upd bx s ⟨(bx s).ep + 1, 1, (tiOf P T).size, T, [z]⟩) (a.put (some d) v) w' := by
  unfold zeroD at hz
  split at hz
  · rename_i hc
    obtain ⟨hpos, hl, hag, hone⟩ := hc
    injection hz with hz
    have hzero : ∃ zv, (zeroValue T).run P w = .ok zv w ∧ (tiOf P T).zero = zv.cells.toList.map ofC := by
      have h2 : (tiOf P T).zero.length ≠ 0 := by omega
      simp only [tiOf] at h2 ⊢
      cases hi : P.info? T with
      | none => simp [hi] at h2
      | some i =>
        cases hz : i.zero with
        | none => simp [hi, hz] at h2
        | some z => exact ⟨z, by simp [zeroValue, typeInfo, hi, hz, go_sem], by simp [hz]⟩
    obtain ⟨zv, hz1, hz2⟩ := hzero
    have hcells : z.cells = (tiOf P T).zero := by
      subst hz
      unfold mkD
      cases hA : (tiOf P T).agg with
      | true => rfl
      | false =>
        rcases hag with hag | hag
        · rw [hA] at hag; cases hag
        · rw [hag] at hl
          match hzz : (tiOf P T).zero, hl with
          | [c], _ =>
            rw [hzz] at hone
            simp only [List.all_cons, List.all_nil, Bool.and_true] at hone
            simp [cells_single hone]
    have hlen : z.cells.length = (tiOf P T).size := by rw [hcells, hl]
    obtain ⟨ρ', h'⟩ := newvar (T := T) h hd hlo (v := zv) (x := z) (by rw [hcells, hz2]; simp) (fun j c hj => by
      rw [hcells] at hj
      have h1 := List.all_eq_true.1 hone c (List.mem_of_getElem? hj)
      rw [hz2, List.getElem?_map, Option.map_eq_some_iff] at hj
      obtain ⟨u, hu, rfl⟩ := hj
      rw [Array.getElem?_toList] at hu
      exact ⟨u, hu, .pure (rep_ofC u), (Rep.pure (w := w) (S := Stab X ρ bx w) (ρ := ρ) (rep_ofC u)).one h1⟩)
    rw [hlen] at h'
    refine ⟨_, _, ?_, ρ', h'⟩
    simp only [execOp, Instr.alloc, Sem.run_bind, hz1, Result.andThen_ok, newVar, newRow, newObj, Sem.run_pure, Sem.run, World.alloc]
  · cases hz

theorem mksl_sound (h : Sim X ρ σ bx a w) {T d s : Nat} (hd : d < X.N) (hlo : X.lo ≤ s) {l c : Operand} {r : Nat × TypeId × List D} (hz : mkslD (tiOf P) (tiOf P T) (ev σ l) (ev σ c) = some r) :
    ∃ v w', (execOp a.eval ⟨some d, .makeSlice T l c, ty, pos, af, g⟩).run P w = .ok (.value v) w' ∧
      ∃ ρ', Sim X ρ' (upd σ d (.osl s ((bx s).ep + 1) r.1 0 r.2.2.length)) (upd bx s ⟨(bx s).ep + 1, 1, r.1, r.2.1, r.2.2⟩) (a.put (some d) v) w' := by
  have hl := h.ev l
  have hc := h.ev c
  generalize ev σ l = dl at hz hl
  generalize ev σ c = dc at hz hc
  unfold mkslD at hz
  split at hz
  · rename_i el esz bytes g0 k1 n k2 m hk
    split at hz
    · rename_i hcond
      obtain ⟨h0, hnm, hby, hez, hb0, hsz⟩ := hcond
      rw [Option.map_eq_some_iff] at hz
      obtain ⟨z, hz, rfl⟩ := hz
      obtain ⟨hu, he, hbt, _⟩ := ti_slice hk
      unfold zeroD at hz
      split at hz
      · rename_i hcz
        obtain ⟨hpos, hzl, hag, hone⟩ := hcz
        injection hz with hz
        obtain ⟨i, zv, hi, hz1, hz2⟩ := zero_ex (P := P) (t := el) (by omega)
        have hcells : z.cells = (tiOf P el).zero := by
          subst hz
          unfold mkD
          cases hA : (tiOf P el).agg with
          | true => rfl
          | false =>
            rcases hag with hag | hag
            · rw [hA] at hag; cases hag
            · rw [hag] at hzl
              match hzz : (tiOf P el).zero, hzl with
              | [c], _ =>
                rw [hzz] at hone
                simp only [List.all_cons, List.all_nil, Bool.and_true] at hone
                simp [cells_single hone]
        have hbi : i.bytes = bytes := by rw [hbt, hi]; rfl
        have hzs : zv.cells.size = esz := by
          have : (tiOf P el).zero.length = zv.cells.size := by rw [hz2]; simp
          omega
        have hmb : m ≤ m * bytes := by
          have : m * 1 ≤ m * (bytes : Int) := Int.mul_le_mul_of_nonneg_left (by omega) (by omega)
          omega
        have hmz : 0 < m.toNat * esz ∨ m.toNat = 0 := by
          rcases Nat.eq_zero_or_pos m.toNat with h | h
          · exact .inr h
          · exact .inl (Nat.mul_pos h hez)
        generalize harr : ((Array.range (m.toNat * esz)).map ((if m.toNat * esz = 0 then (#[] : Array Value) else zv.cells)[· % (if m.toNat * esz = 0 then (#[] : Array Value) else zv.cells).size]!)) = arr
        have hsa : arr.size = m.toNat * esz := by rw [← harr]; simp
        have hget : ∀ i' j, i' < m.toNat → j < esz → arr[i' * esz + j]? = some (zv.cells.getD j undef) := by
          intro i' j hi' hj
          have hlt : i' * esz + j < m.toNat * esz := by
            have : (i' + 1) * esz ≤ m.toNat * esz := Nat.mul_le_mul_right _ hi'
            rw [Nat.add_mul] at this; omega
          rw [← harr]
          simp only [Array.getElem?_map, Array.getElem?_range, hlt, if_true, Option.map_some]
          have hne : ¬ m.toNat * esz = 0 := by omega
          simp only [hne, if_false, hzs]
          have : (i' * esz + j) % esz = j := by rw [Nat.mul_comm, Nat.mul_add_mod, Nat.mod_eq_of_lt hj]
          rw [this, Array.getD_eq_getD_getElem?]
          have : zv.cells[j]? = some (zv.cells[j]'(by omega)) := Array.getElem?_eq_getElem (by omega)
          rw [this, getElem!_pos zv.cells j (by omega)]
          rfl
        have hb := (Below.refl w.heap.size w).alloc (Nat.le_refl _) (.cells arr el)
        have h2 := h.own (w' := w.alloc (.cells arr el)) (t := s) (p := ⟨w.heap.size, m.toNat, esz, el⟩) (es := List.replicate n.toNat z) (bx1 := bx) hlo (fun _ => .inl rfl) (Old := fun _ => False) (.of_below hb) (fun _ h => h.elim) (.inl (Nat.le_refl _)) (fun S' ρ' hS hρ => by
          refine ⟨⟨arr, heap_alloc_new w _, hsa, fun _ j => zv.cells.getD j undef, fun i' y j c hi' hj => ?_⟩, by simp; omega, by simp only [maxLen]; omega, fun i' y hi' => ?_⟩
          · have hi2 := (List.getElem?_eq_some_iff.1 hi').1
            simp only [List.length_replicate] at hi2
            have hy : y = z := by
              have := List.mem_of_getElem? hi'
              exact List.eq_of_mem_replicate this
            subst hy
            rw [hcells] at hj
            have hj2 := (List.getElem?_eq_some_iff.1 hj).1
            have h1 := List.all_eq_true.1 hone c (List.mem_of_getElem? hj)
            rw [hz2, List.getElem?_map, Option.map_eq_some_iff] at hj
            obtain ⟨u, hu, rfl⟩ := hj
            rw [Array.getElem?_toList] at hu
            have hgd : zv.cells.getD j undef = u := by rw [Array.getD_eq_getD_getElem?, hu]; rfl
            refine ⟨hget i' j (by omega) (by omega), ?_, ?_⟩
            · dsimp only; rw [hgd]; exact .pure (rep_ofC u)
            · dsimp only; rw [hgd]; exact (Rep.pure (w := w) (S := Stab X ρ bx w) (ρ := ρ) (rep_ofC u)).one h1
          · have hy : y = z := List.eq_of_mem_replicate (List.mem_of_getElem? hi')
            subst hy
            rw [hcells]; show (tiOf P el).zero.length = esz; omega)
        refine ⟨.slice (some ⟨w.heap.size, 0, none⟩) n.toNat m.toNat, _, ?_, _, h2.put (dst := some d) (fun t ht => by injection ht with ht; subst ht; exact hd) ?_⟩
        · have hby2 : (bytes : Int) * m ≤ 140737488355328 := by rw [Int.mul_comm]; exact hby
          have hp : (2 : Int) ^ 48 = 281474976710656 := by decide
          have hcond : (decide (m < 0) || decide ((bytes : Int) * m > 2 ^ 48) || decide (n < 0) || decide (n > m)) = false := by
            rw [hp]
            simp only [Bool.or_eq_false_iff, decide_eq_false_iff_not]
            omega
          have ha : ∀ k (n : Int), (asInt (.int k n)).run P w = .ok n w := fun k n => by simp [asInt, asIntOf]
          have hw1 : IntKind.i64.wrap n = n := IntWalk.i64_in n ⟨by omega, by omega⟩
          have hw2 : IntKind.i64.wrap m = m := IntWalk.i64_in m ⟨by omega, by omega⟩
          have hprog : (program).run P w = .ok P w := by simp [go_sem]
          have hzv : (zeroValue el).run P w = .ok zv w := by simp [zeroValue, typeInfo, hi, hz1, go_sem]
          simp only [execOp, Instr.makeSlice, hl.inv_int, hc.inv_int, Sem.run_bind, run_underlying hu, Sem.run_pure, Result.andThen_ok, ha, typeInfo, hprog, hi, hbi, hw1, hw2, hcond, Bool.false_eq_true, if_false, run_askRoom, run_sizeT (P := P) (t := el) (by omega), ← he]
          by_cases hz0 : m.toNat * esz = 0
          · simp only [hz0, if_true] at harr
            simp only [hz0, if_true, Sem.run_bind, Sem.run_pure, Result.andThen_ok, newRow, newObj, Sem.run, World.alloc]
            rw [← harr]
          · simp only [hz0, if_false] at harr
            simp only [hz0, if_false, Sem.run_bind, Sem.run_pure, Result.andThen_ok, hzv, newRow, newObj, Sem.run, World.alloc]
            rw [← harr]
        · simp only [List.length_replicate]
          refine .osl (p := ⟨w.heap.size, m.toNat, esz, el⟩) ?_ rfl (fun _ => ⟨rfl, rfl⟩) (fun _ => by simp) ?_ ?_
          · simp
          · simp; omega
          · simp only [maxLen]; omega
      · cases hz
    · cases hz
  · cases hz

theorem litX_sound (h : Sim X ρ σ bx a w) {T d s n : Nat} (hd : d < X.N) (hlo : X.lo ≤ s) {ps : Array (Nat × Operand)} {r : Nat × TypeId × List D} (hz : litXD (tiOf P) (tiOf P T) n (ps.toList.map fun p => (p.1, ev σ p.2)) = some r) :
    ∃ v w', (execOp a.eval ⟨some d, .buildSlice T n ps, ty, pos, af, g⟩).run P w = .ok (.value v) w' ∧
      ∃ ρ', Sim X ρ' (upd σ d (.osl s ((bx s).ep + 1) r.1 0 r.2.2.length)) (upd bx s ⟨(bx s).ep + 1, 1, r.1, r.2.1, r.2.2⟩) (a.put (some d) v) w' := by
  unfold litXD at hz
  split at hz
  · rename_i e esz b ag hk
    split at hz
    · rename_i hc
      obtain ⟨hm, ha, hpos, hbig, hzl⟩ := hc
      injection hz with hz
      subst hz
      obtain ⟨hu, hse, _, _⟩ := ti_slice hk
      generalize hds : (ps.toList.map fun p => (p.1, ev σ p.2)) = dps at hm ha
      have hlen : dps.length = n := by have := congrArg List.length hm; simpa using this
      obtain ⟨vs', hrun, hrep⟩ := lit_run (ag := ag) h hu hse hds hm ha hpos hbig hzl
      have hel : ∀ x ∈ dps.map (·.2), x.cells.length = esz ∧ x.cells.all D.one = true := by
        intro x hx
        obtain ⟨p, hp, rfl⟩ := List.mem_map.1 hx
        have := List.all_eq_true.1 ha p hp
        simp only [Bool.and_eq_true, beq_iff_eq] at this
        exact this
      have hcell : ∀ (i : Nat) d (j : Nat) c, (dps.map (·.2))[i]? = some d → d.cells[j]? = some c → ∃ u, vs'[i * esz + j]? = some u ∧ Rep w (Stab X ρ bx w) ρ c u := by
        intro i d j c hi hj
        have hd := hel d (List.mem_of_getElem? hi)
        have hj' : j < esz := by have := (List.getElem?_eq_some_iff.1 hj).1; omega
        have hf := flat_get (sz := esz) (dps.map (·.2)) i j d (fun x hx => (hel x hx).1) hi hj'
        rw [hj] at hf
        have hlt := (List.getElem?_eq_some_iff.1 hf).1
        have hlt' : i * esz + j < vs'.size := by rw [hrep.1]; exact hlt
        have hu' : vs'[i * esz + j]? = some vs'[i * esz + j] := Array.getElem?_eq_getElem hlt'
        exact ⟨_, hu', hrep.2 _ _ _ hf hu'⟩
      have hgd : ∀ (i : Nat) d (j : Nat) c, (dps.map (·.2))[i]? = some d → d.cells[j]? = some c → vs'[i * esz + j]? = some (vs'.getD (i * esz + j) undef) ∧ Rep w (Stab X ρ bx w) ρ c (vs'.getD (i * esz + j) undef) := by
        intro i d j c hi hj
        obtain ⟨u, hu', hr⟩ := hcell i d j c hi hj
        have : vs'.getD (i * esz + j) undef = u := by rw [Array.getD_eq_getD_getElem?, hu']; rfl
        rw [this]; exact ⟨hu', hr⟩
      have hsa : vs'.size = n * esz := by
        rw [hrep.1, flat_len (dps.map (·.2)) (fun x hx => (hel x hx).1)]
        simp [hlen]
      have hb := (Below.refl w.heap.size w).alloc (Nat.le_refl _) (.cells vs' e)
      have hmn : n ≤ n * esz := Nat.le_mul_of_pos_right n hpos
      have h2 := h.own (w' := w.alloc (.cells vs' e)) (t := s) (p := ⟨w.heap.size, n, esz, e⟩) (es := dps.map (·.2)) (bx1 := bx) hlo (fun _ => .inl rfl) (Old := fun _ => False) (.of_below hb) (fun _ h => h.elim) (.inl (Nat.le_refl _)) (fun S' ρ' hS hρ => by
        refine ⟨⟨vs', heap_alloc_new w _, hsa, fun i j => vs'.getD (i * esz + j) undef, fun i' y j c hi' hj => ?_⟩, by simp; omega, by simp only [maxLen]; omega, fun i' y hi' => ?_⟩
        · obtain ⟨g1, g2⟩ := hgd i' y j c hi' hj
          have h1 := List.all_eq_true.1 (hel y (List.mem_of_getElem? hi')).2 c (List.mem_of_getElem? hj)
          exact ⟨g1, (g2.mono (fun b hb' => hb.block b hb'.1) (fun b hb' => hS b hb') hρ), g2.one h1⟩
        · exact (hel y (List.mem_of_getElem? hi')).1)
      refine ⟨.slice (some ⟨w.heap.size, 0, none⟩) n n, _, ?_, _, h2.put (dst := some d) (fun t ht => by injection ht with ht; subst ht; exact hd) ?_⟩
      · simp only [execOp, Sem.run_bind, hrun, Result.andThen_ok, Sem.run_pure]
      · simp only [List.length_map, hlen]
        refine .osl (p := ⟨w.heap.size, n, esz, e⟩) ?_ rfl (fun _ => ⟨rfl, rfl⟩) (fun _ => by simp) ?_ ?_
        · simp
        · simp
        · simp only [maxLen]; omega
    · cases hz
  · cases hz

theorem box_sound (h : Sim X ρ σ bx a w) {T d s : Nat} (hd : d < X.N) (hlo : X.lo ≤ s) {x : Operand} {z : D} (hz : boxD (tiOf P T) (ev σ x) = some z) :
    ∃ v w', (execOp a.eval ⟨some d, .box T x, ty, pos, af, g⟩).run P w = .ok (.value v) w' ∧
      ∃ ρ', Sim X ρ' (upd σ d (.loc s ((bx s).ep + 1) 0 0)) (upd bx s ⟨(bx s).ep + 1, 1, (tiOf P T).size, T, [z]⟩) (a.put (some d) v) w' := by
  have hx := h.ev x
  generalize ev σ x = dx at hz hx
  unfold boxD at hz
  split at hz
  · rename_i hc
    obtain ⟨hpos, hl, hone⟩ := hc
    injection hz with hz
    subst hz
    obtain ⟨hs, hcc⟩ := hx.cells hone
    obtain ⟨ρ', h'⟩ := newvar (T := T) h hd hlo (v := a.eval x) (x := dx) hs hcc
    rw [hl] at h'
    refine ⟨_, _, ?_, ρ', h'⟩
    simp only [execOp, Instr.box, Sem.run_bind, Result.andThen_ok, newVar, newRow, newObj, Sem.run_pure, Sem.run, World.alloc]
  · cases hz

theorem setD_len {d d' : D} {j : Nat} {cs : List D} (h : setD d j cs = some d') (hone : cs.all D.one = true) : d'.cells.length = d.cells.length ∧ j + cs.length ≤ d.cells.length ∧ ∀ (k : Nat) c, d'.cells[k]? = some c → (j ≤ k ∧ k < j + cs.length ∧ cs[k - j]? = some c) ∨ ((k < j ∨ j + cs.length ≤ k) ∧ d.cells[k]? = some c) := by
  unfold setD at h
  split at h
  · rename_i hle
    cases d with
    | agg ds =>
      simp only [Option.some.injEq] at h
      subst h
      simp only [D.cells] at hle ⊢
      refine ⟨by simp; omega, hle, fun k c hk => ?_⟩
      by_cases h1 : k < j
      · rw [List.append_assoc, List.getElem?_append_left (by simp; omega), List.getElem?_take_of_lt h1] at hk
        exact .inr ⟨.inl h1, hk⟩
      · have hl : (ds.take j).length = j := by simp; omega
        by_cases h2 : k < j + cs.length
        · rw [List.append_assoc, List.getElem?_append_right (by omega), hl, List.getElem?_append_left (by omega)] at hk
          exact .inl ⟨by omega, h2, hk⟩
        · have hl2 : (ds.take j ++ cs).length = j + cs.length := by simp; omega
          rw [List.getElem?_append_right (by omega), hl2, List.getElem?_drop] at hk
          have : j + cs.length + (k - (j + cs.length)) = k := by omega
          rw [this] at hk
          exact .inr ⟨.inr (by omega), hk⟩
    | _ =>
      all_goals
        match cs, h with
        | [c], h =>
          simp only [Option.some.injEq] at h
          subst h
          simp only [List.all_cons, List.all_nil, Bool.and_true] at hone
          rw [cells_single hone]
          simp only [D.cells, List.length_cons, List.length_nil] at hle ⊢
          refine ⟨by simp, hle, fun k c' hk => ?_⟩
          obtain rfl : j = 0 := by omega
          have hk0 : k = 0 := by have := (List.getElem?_eq_some_iff.1 hk).1; simp at this; exact this
          subst hk0
          exact .inl ⟨Nat.le_refl _, by omega, hk⟩
  · cases h


/-- A row of which vs is written at o. -/
def putRow (cur : Array Value) (o : Nat) (vs : Array Value) : Array Value :=
  (cur.toList.take o ++ vs.toList ++ cur.toList.drop (o + vs.size)).toArray

theorem putRow_size {cur vs : Array Value} {o : Nat} (h : o + vs.size ≤ cur.size) : (putRow cur o vs).size = cur.size := by
  unfold putRow
  simp only [List.size_toArray, List.length_append, List.length_take, List.length_drop, Array.length_toList]
  omega

theorem putRow_get {cur vs : Array Value} {o : Nat} (h : o + vs.size ≤ cur.size) (k : Nat) : (putRow cur o vs)[k]? = if o ≤ k ∧ k < o + vs.size then vs[k - o]? else cur[k]? := by
  unfold putRow
  rw [List.getElem?_toArray]
  have hl1 : (cur.toList.take o).length = o := by simp only [List.length_take, Array.length_toList]; omega
  by_cases h1 : k < o
  · rw [if_neg (by omega), List.append_assoc, List.getElem?_append_left (by omega), List.getElem?_take_of_lt h1, Array.getElem?_toList]
  · by_cases h2 : k < o + vs.size
    · rw [if_pos (by omega), List.append_assoc, List.getElem?_append_right (by omega), hl1, List.getElem?_append_left (by simp only [Array.length_toList]; omega), Array.getElem?_toList]
    · have hl2 : (cur.toList.take o ++ vs.toList).length = o + vs.size := by simp only [List.length_append, hl1, Array.length_toList]
      rw [if_neg (by omega), List.getElem?_append_right (by omega), hl2, List.getElem?_drop, Array.getElem?_toList]
      congr 1
      omega

theorem holds_put {S : Nat → Prop} {p : Place} {es : List D} {i j : Nat} {d0 d' dy : D} {v : Value}
    (hh : Holds w S ρ p es) (hS : ∀ b, S b → b ≠ p.b) (hi : es[i]? = some d0) (hset : setD d0 j dy.cells = some d') (hone : dy.cells.all D.one = true) (hy : Rep w S ρ dy v) :
    ∃ cur, w.heap[p.b]? = some (.cells cur p.ty) ∧ i * p.sz + j + v.cells.size ≤ cur.size ∧ (∀ u ∈ v.cells.toList, u.oneCell' = true) ∧
      Holds (w.setRow p.b (putRow cur (i * p.sz + j) v.cells)) S ρ p (es.set i d') := by
  obtain ⟨⟨cur, hcur, hcs, us, hus⟩, hlc, hmx, hsz⟩ := hh
  obtain ⟨hs, hcc⟩ := hy.cells hone
  obtain ⟨hlen, hfit, hget⟩ := setD_len hset hone
  have hd0 := hsz i d0 hi
  have hilt := (List.getElem?_eq_some_iff.1 hi).1
  have hmul : i * p.sz + p.sz ≤ cur.size := by
    rw [hcs, ← Nat.succ_mul]; exact Nat.mul_le_mul_right _ (by omega)
  have hroom : i * p.sz + j + v.cells.size ≤ cur.size := by omega
  refine ⟨cur, hcur, hroom, fun u hu => ?_, ?_⟩
  · obtain ⟨k, hk1, hk2⟩ := List.mem_iff_getElem.1 hu
    have hkl : k < dy.cells.length := by rw [← hs]; simpa using hk1
    obtain ⟨u', hu', _, h1⟩ := hcc k _ (List.getElem?_eq_getElem hkl)
    have : u = u' := by
      have h3 : v.cells.toList[k]? = some u := by rw [List.getElem?_eq_getElem hk1, hk2]
      rw [Array.getElem?_toList, hu'] at h3
      injection h3 with h3; exact h3.symm
    rw [this]; exact h1
  · have hnewsz := putRow_size hroom
    have hnewget := putRow_get hroom
    generalize putRow cur (i * p.sz + j) v.cells = new at hnewsz hnewget ⊢
    have hmono : ∀ c u, Rep w S ρ c u → Rep (w.setRow p.b new) S ρ c u := fun c u hr => hr.mono (fun b hb' => setRow_other w p.b b new (hS b hb')) (fun _ h => h) (fun _ _ _ h => h)
    have fin : ∀ c q u, new[q]? = some u → Rep w S ρ c u → u.oneCell' = true → new[q]? = some (new.getD q undef) ∧ Rep (w.setRow p.b new) S ρ c (new.getD q undef) ∧ (new.getD q undef).oneCell' = true := by
      intro c q u hu hr h1
      have : new.getD q undef = u := by rw [Array.getD_eq_getD_getElem?, hu]; rfl
      rw [this]; exact ⟨hu, hmono _ _ hr, h1⟩
    refine ⟨⟨new, setRow_heap w p.b cur new p.ty (0, 0) hcur, by rw [hnewsz, hcs], fun i' k => new.getD (i' * p.sz + k) undef, fun i' d k c hi' hk' => ?_⟩, by simpa using hlc, hmx, fun i' d hi' => ?_⟩
    · by_cases hii : i' = i
      · subst hii
        rw [List.getElem?_set_self (by omega)] at hi'
        injection hi' with hi'
        subst hi'
        rcases hget k c hk' with ⟨k1, k2, k3⟩ | ⟨k1, k3⟩
        · obtain ⟨u, hu, hr, h1⟩ := hcc _ _ k3
          refine fin _ _ u ?_ hr h1
          rw [hnewget, if_pos (by omega)]
          have : i' * p.sz + k - (i' * p.sz + j) = k - j := by omega
          rw [this]; exact hu
        · obtain ⟨u1, u2, u3⟩ := hus i' d0 k c hi k3
          refine fin _ _ _ ?_ u2 u3
          rw [hnewget, if_neg (by omega)]
          exact u1
      · rw [List.getElem?_set_ne (Ne.symm hii)] at hi'
        have hkz : k < p.sz := by have := (List.getElem?_eq_some_iff.1 hk').1; rw [hsz i' d hi'] at this; exact this
        obtain ⟨u1, u2, u3⟩ := hus i' d k c hi' hk'
        refine fin _ _ _ ?_ u2 u3
        rw [hnewget, if_neg ?_]
        · exact u1
        · rcases Nat.lt_or_gt_of_ne hii with hlt | hgt
          · have := Nat.mul_le_mul_right p.sz (show i' + 1 ≤ i from hlt)
            rw [Nat.succ_mul] at this; omega
          · have := Nat.mul_le_mul_right p.sz (show i + 1 ≤ i' from hgt)
            rw [Nat.succ_mul] at this; omega
    · by_cases hii : i' = i
      · subst hii
        rw [List.getElem?_set_self (by omega)] at hi'
        injection hi' with hi'
        subst hi'
        rw [hlen, hd0]
      · rw [List.getElem?_set_ne (Ne.symm hii)] at hi'
        exact hsz i' d hi'

theorem store_sound (h : Sim X ρ σ bx a w) {T : Nat} {x y : Operand} {dst : Option Tmp} (hdst : ∀ t, dst = some t → t < X.N) {lo : Nat} (hlo : X.lo ≤ lo) {bx' : Bxs} (hv : storeD lo (tiOf P T) bx (ev σ x) (ev σ y) = some bx') :
    ∃ w', (execOp a.eval ⟨dst, .store T x y, ty, pos, af, g⟩).run P w = .ok .skip w' ∧ ∃ ρ', Sim X ρ' (put σ dst (.raw undef)) bx' (a.put dst undef) w' := by
  have hx := h.ev x
  have hy := h.ev y
  generalize ev σ x = dx at hv hx
  generalize ev σ y = dy at hv hy
  unfold storeD at hv
  split at hv
  · rename_i t e i j
    split at hv
    · rename_i hc
      obtain ⟨hlt, hl, hpos, hone⟩ := hc
      unfold bxSet at hv
      split at hv
      · rename_i hk
        obtain ⟨he, hk⟩ := hk
        cases hi : (bx t).es[i]? with
        | none => simp [hi] at hv
        | some d0 =>
          simp only [hi, Option.map_eq_some_iff] at hv
          obtain ⟨d', hset, rfl⟩ := hv
          obtain ⟨p, hp, hax⟩ := hx.inv_loc
          obtain ⟨p', hp', hpz, hpt, hpb, hh⟩ := h.box t (by rw [hk]; decide)
          rw [he, hp] at hp'; injection hp' with hp'; subst hp'
          have hrp : ρ t (bx t).ep = some p := by rw [he]; exact hp
          obtain ⟨cur, hcur, hroom, hall, hh'⟩ := holds_put hh (fun b hb e => hb.2.2 t hk p hrp e.symm) hi hset hone hy
          obtain ⟨hs, _⟩ := hy.cells hone
          have hst := run_storeCells_at P p.b (i * p.sz + j) p.ty (a.eval y).cells.toList 0 cur w hcur (by simpa using hroom) hall
          simp only [Nat.add_zero, Array.length_toList] at hst
          have hfr : Fr (fun b => b = p.b) w (w.setRow p.b (putRow cur (i * p.sz + j) (a.eval y).cells)) := ⟨rfl, rfl, rfl, by simp [World.setRow], fun k _ hk => setRow_other w p.b k _ hk⟩
          refine ⟨w.setRow p.b (putRow cur (i * p.sz + j) (a.eval y).cells), ?_, ρ, ((h.stored (Nat.le_trans hlo hlt) hk hrp hfr hh').put hdst (.pure (.raw _)))⟩
          have hsize := run_sizeT (P := P) (t := T) hpos w
          have hszT : (tiOf P T).size = sizeT P T := rfl
          have hne : ¬ ((a.eval y).cells.size ≠ sizeT P T) := by rw [hs, hl, hszT]; simp
          simp only [execOp, Instr.storeAt, Instr.sureAddr, hax, Sem.run_bind, Sem.run_pure, Result.andThen_ok, storeVar, hsize, hne, if_false]
          rw [hst]
          simp only [Result.andThen_ok, putRow]
      · cases hv
    · cases hv
  · cases hv

end Go.V
