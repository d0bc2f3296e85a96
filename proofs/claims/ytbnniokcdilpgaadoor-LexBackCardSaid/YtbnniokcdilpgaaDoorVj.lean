/-
  append.
-/
import Derived.Test.YtbnniokcdilpgaaDoorVi
namespace Go.V
open Go.RowKit

variable {P : Program} {X : Ctx} {ρ : Rho} {σ : Env} {bx : Bxs} {a : Act} {w : World}
variable {ty : TypeId} {pos : String} {af : Array Edge} {g : Option (Nat × Bool)}

theorem Rep.inv_osl {S : Nat → Prop} {t e sz o n : Nat} {v : Value} (h : Rep w S ρ (.osl t e sz o n) v) : ∃ p off cap, ρ t e = some p ∧ p.sz = sz ∧ (o = 0 → off = 0 ∧ cap = p.cap) ∧ (0 < n → off = o * sz) ∧ n ≤ cap ∧ o + cap ≤ p.cap ∧ p.cap ≤ maxLen ∧
    v = .slice (some ⟨p.b, off, none⟩) n cap := by
  cases h with
  | pure h => cases h
  | osl hp hsz h0 hoff hn hcap => exact ⟨_, _, _, hp, hsz, h0, hoff, hn, hcap.1, hcap.2, rfl⟩

theorem elems_sound (h : Sim X ρ σ bx a w) {esz : Nat} {x : D} {v : Value} (hx : Rep w (Stab X ρ bx w) ρ x v) {ys : List D} (he : elemsD bx esz x = some ys) :
    ∃ A c b off, ∃ us : Nat → Nat → Value, v = .slice A ys.length c ∧ (ys ≠ [] → A = some ⟨b, off, none⟩) ∧ (∀ (i : Nat) d, ys[i]? = some d → d.cells.length = esz) ∧
      ∀ (i : Nat) d (j : Nat) c, ys[i]? = some d → d.cells[j]? = some c → w.cell? ⟨b, off + i * esz + j, none⟩ = some (us i j) ∧ Rep w (Stab X ρ bx w) ρ c (us i j) ∧ (us i j).oneCell' = true := by
  unfold elemsD at he
  split at he
  · injection he with he; subst he
    exact ⟨none, 0, 0, 0, fun _ _ => undef, hx.inv_nil, by simp, by simp, by simp⟩
  · rename_i sz es
    split at he
    · rename_i hs
      injection he with he; subst he; subst hs
      cases hx with
      | pure hx =>
        cases hx with
        | @sl _ _ A n cap b off us hn hcap hmax hA hsz hc h1 hr =>
          subst hn
          exact ⟨A, cap, b, off, us, rfl, fun hne => (hA hne).1, hsz, fun i d j c hi hj => ⟨hc i d j c hi hj, .pure (hr i d j c hi hj), h1 i d j c hi hj⟩⟩
    · cases he
  · rename_i t e sz o n
    split at he
    · rename_i hs
      obtain ⟨hs, hep, hk, hbs, hle⟩ := hs
      injection he with he; subst hs
      obtain ⟨p, off, cap, hp, hpz, h0, hoff, hn, hoc, hmax, rfl⟩ := hx.inv_osl
      obtain ⟨p', hp', hpz', hpt, hpb, hh⟩ := h.box t hk
      rw [hep, hp] at hp'; injection hp' with hp'; subst hp'
      have hl : ys.length = n := by rw [← he]; simp; omega
      have hget : ∀ (i : Nat) d, ys[i]? = some d → (bx t).es[o + i]? = some d ∧ 0 < n := by
        intro i d hi
        have hi' := (List.getElem?_eq_some_iff.1 hi).1
        rw [← he, List.getElem?_take_of_lt (by omega), List.getElem?_drop] at hi
        exact ⟨hi, by omega⟩
      obtain ⟨⟨cur, hcur, hcs, us, hus⟩, hlc, hmx, hsz⟩ := hh
      refine ⟨_, _, p.b, off, fun i j => us (o + i) j, by rw [hl], fun _ => rfl, fun i d hi => (hsz _ d (hget i d hi).1).trans hpz, fun i d j c hi hj => ?_⟩
      obtain ⟨h1, h2⟩ := hget i d hi
      obtain ⟨u1, u2, u3⟩ := hus (o + i) d j c h1 hj
      refine ⟨?_, u2, u3⟩
      have : off + i * sz + j = (o + i) * p.sz + j := by rw [hoff h2, Nat.add_mul, hpz]
      rw [this]
      simp [World.cell?, hcur, u1]
    · cases he
  · cases he

/-- The cells of a row, one after another. -/
def rowOf (us : Nat → Nat → Value) (m sz : Nat) : List Value := (List.range (m * sz)).map fun k => us (k / sz) (k % sz)

theorem rowOf_len (us : Nat → Nat → Value) (m sz : Nat) : (rowOf us m sz).length = m * sz := by simp [rowOf]
theorem rowOf_get {us : Nat → Nat → Value} {m sz i j : Nat} (hi : i < m) (hj : j < sz) : (rowOf us m sz)[i * sz + j]? = some (us i j) := by
  have hlt : i * sz + j < m * sz := by
    have := Nat.mul_le_mul_right sz (show i + 1 ≤ m from hi)
    rw [Nat.succ_mul] at this; omega
  unfold rowOf
  rw [List.getElem?_map, List.getElem?_range hlt, Option.map_some]
  congr 2
  · rw [Nat.add_comm, Nat.add_mul_div_right _ _ (by omega), Nat.div_eq_of_lt hj, Nat.zero_add]
  · rw [Nat.add_comm, Nat.add_mul_mod_self_right, Nat.mod_eq_of_lt hj]
theorem rowOf_inv {us : Nat → Nat → Value} {m sz k : Nat} {u : Value} (h : (rowOf us m sz)[k]? = some u) : ∃ i j, i < m ∧ j < sz ∧ k = i * sz + j ∧ u = us i j := by
  have hk : k < m * sz := by have := (List.getElem?_eq_some_iff.1 h).1; rw [rowOf_len] at this; exact this
  have hz : 0 < sz := by rcases Nat.eq_zero_or_pos sz with h0 | h0; · subst h0; simp at hk
                         · exact h0
  have hdm : k / sz * sz + k % sz = k := Nat.div_add_mod' k sz
  have hi : k / sz < m := Nat.div_lt_of_lt_mul (by rw [Nat.mul_comm]; exact hk)
  have hj := Nat.mod_lt k hz
  refine ⟨k / sz, k % sz, hi, hj, hdm.symm, ?_⟩
  have := rowOf_get (us := us) hi hj
  rw [hdm, h] at this
  injection this

theorem append_core (h : Sim X ρ σ bx a w) {T d sl el esz bytes n : Nat} {ag : Bool} (hd : d < X.N) (hlo : X.lo ≤ sl) (hk : (tiOf P T).k = .slice el esz bytes ag) (hez : esz ≠ 0) (hz : (tiOf P el).zero.length = esz)
    {vx vy : Value} {xs : List Value} {xs0 ys : List D} {us0 : Nat → Nat → Value} (hown : w.ownsRow 0 el esz vx n xs) (hxl : xs0.length = n)
    (hxz : ∀ (i : Nat) d, xs0[i]? = some d → d.cells.length = esz)
    (hxs : ∀ (i : Nat) d (j : Nat) c, xs0[i]? = some d → d.cells[j]? = some c → xs[i * esz + j]? = some (us0 i j) ∧ Rep w (Stab X ρ bx w) ρ c (us0 i j) ∧ (us0 i j).oneCell' = true)
    {c b off : Nat} {us : Nat → Nat → Value} (hne : ys ≠ []) (hvy : vy = .slice (some ⟨b, off, none⟩) ys.length c) (hyz : ∀ (i : Nat) d, ys[i]? = some d → d.cells.length = esz)
    (hys : ∀ (i : Nat) d (j : Nat) c, ys[i]? = some d → d.cells[j]? = some c → w.cell? ⟨b, off + i * esz + j, none⟩ = some (us i j) ∧ Rep w (Stab X ρ bx w) ρ c (us i j) ∧ (us i j).oneCell' = true)
    (hby : (n + ys.length) * bytes ≤ 140737488355328) (hb0 : 0 < bytes) {bx1 : Bxs} (h1 : ∀ s, bx1 s = bx s ∨ ((bx1 s).k = 0 ∧ (bx1 s).ep = (bx s).ep ∧ X.lo ≤ s))
    (hO : ∀ b, some b = vx.ownBlock → ∃ t0 p0, (bx t0).k = 1 ∧ ρ t0 (bx t0).ep = some p0 ∧ p0.b = b ∧ (t0 = sl ∨ (bx1 t0).k = 0)) :
    ∃ v w', (Builtin.append_ #[T, T] ty #[vx, vy]).run P w = .ok v w' ∧
      ∃ ρ', Sim X ρ' (upd σ d (.osl sl ((bx sl).ep + 1) esz 0 (n + ys.length))) (upd bx1 sl ⟨(bx sl).ep + 1, 1, esz, el, xs0 ++ ys⟩) (a.put (some d) v) w' := by
  obtain ⟨hu, he, hbt, _⟩ := ti_slice hk
  obtain ⟨i, z, hi, hzz, hzc⟩ := zero_ex (P := P) (t := el) (by omega)
  have hsz : i.size = esz := by
    obtain ⟨i', _, hi', _, hs'⟩ := size_ex (P := P) (t := el) (by omega)
    rw [hi] at hi'; injection hi' with hi'; rw [hi', hs', he]
  have hbi : i.bytes = bytes := by rw [hbt, hi]; rfl
  have hzs : z.cells.size = esz := by rw [← hz, hzc]; simp
  have hmm : (n + ys.length) ≤ maxLen := by
    have := Nat.le_mul_of_pos_right (n + ys.length) hb0
    simp only [maxLen]; omega
  have hm0 : 0 < ys.length := List.length_pos_iff.2 hne
  have hcell : ∀ i j, i < ys.length → j < esz → w.cell? ⟨b, off + i * esz + j, none⟩ = some (us i j) ∧ (us i j).oneCell' = true := by
    intro i j hi hj
    have hd := List.getElem?_eq_getElem hi
    have hc := List.getElem?_eq_getElem (show j < ys[i].cells.length by rw [hyz i _ hd]; exact hj)
    exact ⟨(hys i _ j _ hd hc).1, (hys i _ j _ hd hc).2.2⟩
  obtain ⟨v', w', hr, hrow, hgr, hnil, hblk⟩ := run_append_own_at (P := P) w 0 T ty el i z esz bytes hu hi hzz hsz hbi hzs (by omega) vx n xs hown ⟨b, off, none⟩ ys.length c (rowOf us ys.length esz) (rowOf_len _ _ _)
    (fun j u hj => by
      obtain ⟨k, l, hk, hl, rfl, rfl⟩ := rowOf_inv hj
      rw [Addr.add_none]
      have := (hcell k l hk hl).1
      rw [← Nat.add_assoc]; exact this)
    (fun u hu => by
      obtain ⟨j, hj⟩ := List.mem_iff_getElem?.1 hu
      obtain ⟨k, l, hk, hl, rfl, rfl⟩ := rowOf_inv hj
      exact (hcell k l hk hl).2) hmm hby (Nat.zero_le _)
  subst hvy
  obtain ⟨hlen, hrow⟩ := hrow
  rcases hrow with ⟨_, hrow⟩ | ⟨gg, cap, cur, rfl, _, hgg, hnc, hcm, hcs, htake⟩
  · omega
  have hold : w.heap.size ≤ gg ∨ some gg = vx.ownBlock := by
    rcases hblk with hb | hb
    · exact .inr hb
    · simp only [Value.ownBlock, Option.some.injEq] at hb; exact .inl (by omega)
  have hw : ∀ b, Stab X ρ bx w b → w'.heap[b]? = w.heap[b]? := fun b hb => hgr.block b hb.1 (fun e => by
    obtain ⟨t0, p0, hk0, hr0, hp0, _⟩ := hO b e
    exact hb.2.2 t0 hk0 p0 hr0 hp0)
  have hat : ∀ (k : Nat) (u : Value), (xs ++ rowOf us ys.length esz)[k]? = some u → cur[k]? = some u := by
    intro k u hk
    rw [← htake] at hk
    have hlt := (List.getElem?_eq_some_iff.1 hk).1
    rw [List.length_take] at hlt
    rw [List.getElem?_take_of_lt (by omega), Array.getElem?_toList] at hk
    exact hk
  have h2 := h.own (w' := w') (t := sl) (p := ⟨gg, cap, esz, el⟩) (es := xs0 ++ ys) (bx1 := bx1) hlo h1 (Old := fun b => some b = vx.ownBlock) (.of_grown hgr) hO hold (fun S' ρ' hS hρ => by
    have hmono : ∀ c u, Rep w (Stab X ρ bx w) ρ c u → Rep w' S' ρ' c u := fun c u hr => hr.mono hw hS hρ
    refine ⟨⟨cur, hgg, hcs, fun i j => if i < n then us0 i j else us (i - n) j, fun i y j c hi hj => ?_⟩, by simp [hxl, hnc], hcm, fun i y hi => ?_⟩
    · dsimp only
      by_cases hin : i < n
      · rw [List.getElem?_append_left (by omega)] at hi
        obtain ⟨u1, u2, u3⟩ := hxs i y j c hi hj
        simp only [hin, if_true]
        refine ⟨hat _ _ ?_, hmono _ _ u2, u3⟩
        rw [List.getElem?_append_left ((List.getElem?_eq_some_iff.1 u1).1)]
        exact u1
      · rw [List.getElem?_append_right (by omega), hxl] at hi
        obtain ⟨u1, u2, u3⟩ := hys (i - n) y j c hi hj
        simp only [hin, if_false]
        refine ⟨hat _ _ ?_, hmono _ _ u2, u3⟩
        have hjz : j < esz := by have := (List.getElem?_eq_some_iff.1 hj).1; rw [hyz _ y hi] at this; exact this
        have hil := (List.getElem?_eq_some_iff.1 hi).1
        have hxl' : xs.length = n * esz := hown.1
        have e1 : i * esz + j = n * esz + ((i - n) * esz + j) := by
          have : i = n + (i - n) := by omega
          conv => lhs; rw [this, Nat.add_mul]
          omega
        rw [List.getElem?_append_right (by rw [hxl', e1]; omega), hxl', e1, Nat.add_sub_cancel_left]
        exact rowOf_get hil hjz
    · by_cases hin : i < n
      · rw [List.getElem?_append_left (by omega)] at hi
        exact hxz i y hi
      · rw [List.getElem?_append_right (by omega)] at hi
        exact hyz _ y hi)
  refine ⟨_, _, hr, _, h2.put (dst := some d) (fun t ht => by injection ht with ht; subst ht; exact hd) (.osl (p := ⟨gg, cap, esz, el⟩) ?_ rfl (fun _ => ⟨rfl, rfl⟩) (fun _ => by simp) hnc ⟨by simp, hcm⟩)⟩
  simp

theorem append_sound (h : Sim X ρ σ bx a w) {T T' : TypeId} {x y : Operand} {dst : Option Tmp} (hdst : ∀ t, dst = some t → t < X.N) {lo base : Nat} (hlo : X.lo ≤ lo) (hbase : X.lo ≤ base) {r : D × Bxs} (hv : appD lo (tiOf P) T T' (slotO base dst) bx (ev σ x) (ev σ y) = some r) :
    ∃ v w', (execOp a.eval ⟨dst, .call { callee := .builtin .append, args := #[x, y], argTypes := #[T, T'] }, ty, pos, af, g⟩).run P w = .ok (.value v) w' ∧ ∃ ρ', Sim X ρ' (put σ dst r.1) r.2 (a.put dst v) w' := by
  have hx := h.ev x
  have hy := h.ev y
  suffices hs : ∃ v w', (Builtin.append_ #[T, T'] ty #[a.eval x, a.eval y]).run P w = .ok v w' ∧ ∃ ρ', Sim X ρ' (put σ dst r.1) r.2 (a.put dst v) w' by
    obtain ⟨v, w', hr, hS⟩ := hs
    refine ⟨v, w', ?_, hS⟩
    simp only [execOp, resolve, invoke, builtin, Sem.run_bind, Sem.run_pure, Result.andThen_ok, List.map_toArray, List.map_cons, List.map_nil, hr]
  generalize ev σ x = dx at hv hx
  generalize ev σ y = dy at hv hy
  generalize a.eval x = vx at hx ⊢
  generalize a.eval y = vy at hy ⊢
  unfold appD at hv
  split at hv
  · rename_i hTT
    subst hTT
    unfold appK at hv
    split at hv
    · rename_i el esz bytes ag hk
      split at hv
      · cases hv
      · rename_i hez
        rw [Option.bind_eq_some_iff] at hv
        obtain ⟨ys, hel, hv⟩ := hv
        obtain ⟨A, c, b, off, us, hvy, hA, hyz, hys⟩ := elems_sound h hy hel
        unfold appendD at hv
        rw [hk] at hv
        cases dst with
        | none => simp [slotO] at hv
        | some d =>
          have hd := hdst d rfl
          dsimp only [slotO] at hv
          obtain ⟨hu, he, _, _⟩ := ti_slice hk
          have hsl : X.lo ≤ base + d := Nat.le_trans hbase (Nat.le_add_right _ _)
          split at hv
          · rename_i hy0
            subst hy0
            have hsl2 : ∃ B n cap, vx = .slice B n cap ∧ n ≤ cap ∧ r = (dx, bx) := by
              unfold slO at hv
              split at hv
              · injection hv with hv; exact ⟨none, 0, 0, hx.inv_nil, Nat.le_refl _, hv.symm⟩
              · injection hv with hv
                obtain ⟨p, off, cap, _, _, _, _, hn, _, _, hvx⟩ := hx.inv_osl
                exact ⟨_, _, _, hvx, hn, hv.symm⟩
              · injection hv with hv
                cases hx with
                | pure hx => cases hx with | sl hn hcap => exact ⟨_, _, _, rfl, hcap, hv.symm⟩
              · cases hv
            obtain ⟨B, n, cap, hvx, hnc, rfl⟩ := hsl2
            subst hvx hvy
            refine ⟨.slice B n cap, w, ?_, ρ, h.put (dst := some d) (fun t ht => by injection ht with ht; subst ht; exact hd) hx⟩
            have hsz := run_sizeT (P := P) (t := el) (by omega) w
            cases A <;> cases B <;> simp [Builtin.append_, run_underlying hu, hsz, Builtin.lenOf, Builtin.firstCells, loadCells, loadCellsFrom, hnc, storeCells]
          · rename_i hne
            split at hv
            · rename_i hzl
              obtain rfl := hA hne
              unfold appX at hv
              split at hv
              · split at hv
                · rename_i hc
                  injection hv with hv
                  subst hv
                  have := append_core (ty := ty) h hd hsl hk hez hzl (vx := vx) (xs := []) (xs0 := []) (n := 0) (us0 := fun _ _ => undef) (by rw [hx.inv_nil]; exact World.ownsRow_nil w 0 el esz) rfl (by simp) (by simp) hne hvy hyz hys (by simpa using hc.1) hc.2.2 (bx1 := bx) (fun _ => .inl rfl)
                    (by rw [hx.inv_nil]; simp [Value.ownBlock])
                  simp only [List.nil_append, Nat.zero_add] at this
                  exact this
                · cases hv
              · rename_i t e sz o n
                unfold appO at hv
                split at hv
                · rename_i hc
                  obtain ⟨c0, c1, c2, c3, c4, c5, c6, c7, c8, c9, c10⟩ := hc
                  injection hv with hv
                  subst hv
                  subst c1; subst c2
                  obtain ⟨p, off', cap, hp, hpz, h0, _, hn, _, hmax, hvx⟩ := hx.inv_osl
                  obtain ⟨rfl, rfl⟩ := h0 rfl
                  obtain ⟨p', hp', hpz', hpt, hpb, hh⟩ := h.box t (by rw [c4]; decide)
                  rw [c3, hp] at hp'; injection hp' with hp'; subst hp'
                  obtain ⟨⟨cur, hcur, hcs, us0, hus⟩, hlc, hmx, hsz⟩ := hh
                  have hlen : ((bx t).es.take n).length = n := by simp; omega
                  have hget : ∀ (i : Nat) d, ((bx t).es.take n)[i]? = some d → i < n ∧ (bx t).es[i]? = some d := by
                    intro i d hi
                    have := (List.getElem?_eq_some_iff.1 hi).1
                    rw [List.getElem?_take_of_lt (by omega)] at hi
                    exact ⟨by omega, hi⟩
                  have hfit : n * sz ≤ cur.size := by rw [hcs, hpz]; exact Nat.mul_le_mul_right _ (by omega)
                  have := append_core (ty := ty) h hd hsl hk hez hzl (vx := vx) (xs := cur.toList.take (n * sz)) (xs0 := (bx t).es.take n) (n := n) (us0 := us0)
                    (by rw [hvx]; refine ⟨by simp; omega, .inr ⟨p.b, p.cap, cur, rfl, Nat.zero_le _, ?_, hn, hmax, by rw [hcs, hpz], rfl⟩⟩; rw [hcur, hpt, c6]) hlen (fun i d hi => (hsz i d (hget i d hi).2).trans hpz)
                    (fun i d j c hi hj => by
                      obtain ⟨g1, g2⟩ := hget i d hi
                      obtain ⟨u1, u2, u3⟩ := hus i d j c g2 hj
                      refine ⟨?_, u2, u3⟩
                      have hjz : j < sz := by have := (List.getElem?_eq_some_iff.1 hj).1; rw [hsz i d g2, hpz] at this; exact this
                      have hlt : i * sz + j < n * sz := by
                        have := Nat.mul_le_mul_right sz (show i + 1 ≤ n from g1)
                        rw [Nat.succ_mul] at this; omega
                      rw [List.getElem?_take_of_lt hlt, Array.getElem?_toList, ← hpz]
                      exact u1) hne hvy hyz hys c8 c10 (bx1 := upd bx t { bx t with k := 0 })
                    (fun s => by
                      by_cases hs : s = t
                      · subst hs; exact .inr ⟨by simp [upd], by simp [upd], Nat.le_trans hlo c0⟩
                      · exact .inl (by simp [upd, hs]))
                    (by
                      rw [hvx]
                      intro b hb
                      simp only [Value.ownBlock, Option.some.injEq] at hb
                      exact ⟨t, p, c4, by rw [c3]; exact hp, hb.symm, .inr (by simp [upd])⟩)
                  exact this
                · cases hv
              · cases hv
            · cases hv
    · cases hv
  · cases hv

end Go.V
