/-
  Each operation that yields a datum, the third part; all of them together.
-/
import Derived.Test.YtbnniokcdilpgaaDoorVf
namespace Go.V
open Go.RowKit

variable {P : Program} {X : Ctx} {ρ : Rho} {σ : Env} {bx : Bxs} {a : Act} {w : World}
variable {dst : Option Tmp} {ty : TypeId} {pos : String} {af : Array Edge} {g : Option (Nat × Bool)}

theorem kindsOk_none (k : Nat) (ks : List Nat) : kindsOk (k :: ks) [] = false := by
  unfold kindsOk
  split <;> simp_all

theorem kind_fits {P : Program} : ∀ (ks : List Nat) (F : List Field) (ds : List D), ks = F.map (fun f => kindT P f.type) → kindsOk ks ds = true → F.length = ds.length ∧ ∀ (i : Nat) f d, F[i]? = some f → ds[i]? = some d → fitsT P f.type d := by
  intro ks
  induction ks with
  | nil =>
    intro F ds hF h
    cases F with
    | nil => cases ds with
      | nil => simp
      | cons d ds => simp [kindsOk] at h
    | cons f F => simp at hF
  | cons k ks ih =>
    intro F ds hF h
    cases F with
    | nil => simp at hF
    | cons f F =>
    cases ds with
    | nil => exact absurd h (by rw [kindsOk_none]; decide)
    | cons d ds =>
    simp only [List.map_cons, List.cons.injEq] at hF
    obtain ⟨hk, hF⟩ := hF
    have step : kindsOk ks ds = true ∧ fitsT P f.type d := by
      unfold kindsOk at h
      split at h
      · rename_i he _; cases he
      · rename_i he he2
        injection he with e1 e2; injection he2 with e3 e4
        subst e2; subst e4; subst e3
        refine ⟨h, .inr (.inl ⟨_, rfl, ?_⟩)⟩
        rw [e1] at hk
        unfold kindT at hk
        cases hu : P.underlying f.type with
        | none => simp [hu] at hk
        | some x => cases x <;> simp [hu] at hk; rfl
      · rename_i he he2
        injection he with e1 e2; injection he2 with e3 e4
        subst e2; subst e4; subst e3
        refine ⟨h, .inl ⟨_, _, rfl, ?_⟩⟩
        rw [e1] at hk
        unfold kindT at hk
        cases hu : P.underlying f.type with
        | none => simp [hu] at hk
        | some x => cases x <;> simp [hu] at hk; exact ⟨_, rfl⟩
      · rename_i he he2
        injection he with e1 e2; injection he2 with e3 e4
        subst e2; subst e4; subst e3
        refine ⟨h, .inr (.inr ⟨_, rfl, ?_⟩)⟩
        rw [e1] at hk
        unfold kindT at hk
        cases hu : P.underlying f.type with
        | none => simp [hu] at hk
        | some x => cases x <;> simp [hu] at hk; rfl
      · cases h
    obtain ⟨hl, hr⟩ := ih F ds hF step.1
    refine ⟨by simp [hl], fun i f' d' hf hd => ?_⟩
    cases i with
    | zero => simp at hf hd; subst hf; subst hd; exact step.2
    | succ i => exact hr i f' d' (by simpa using hf) (by simpa using hd)

theorem eqD_run {S : Nat → Prop} {t : TypeId} {x y : D} {vx vy : Value} {b : Bool} (h : eqD (tiOf P t) x y = some b) (hx : Rep w S ρ x vx) (hy : Rep w S ρ y vy) :
    (Op.equal t vx vy).run P w = .ok b w ∧ ∀ (op : BinOp) (p q : Operand), (eqGuard op t p q vx vy).run P w = .ok () w := by
  unfold eqD at h
  split at h
  · rename_i fs k ks da db hk
    split at h
    · rename_i hko
      obtain ⟨F, hu, hfs, hks⟩ := ti_struct hk
      obtain ⟨xs, rfl, hxl, hxr⟩ := hx.inv_agg
      obtain ⟨ys, rfl, hyl, hyr⟩ := hy.inv_agg
      have hcond : (F.toList.all (fun f => f.name != "_" && flatT P f.type && sizeT P f.type == 1) && !P.stoodInHeld t && !P.eqGuardType P.depth t && (F.toList.map (·.offset)) == List.range F.size && sizeT P t == F.size) = true := by
        cases hb : (F.toList.all (fun f => f.name != "_" && flatT P f.type && sizeT P f.type == 1) && !P.stoodInHeld t && !P.eqGuardType P.depth t && (F.toList.map (·.offset)) == List.range F.size && sizeT P t == F.size) with
        | true => rfl
        | false => rw [hb] at hks; simp at hks
      rw [hcond] at hks
      simp only [if_true] at hks
      simp only [Bool.and_eq_true, Bool.not_eq_true', beq_iff_eq] at hcond
      obtain ⟨⟨⟨⟨hall, hst⟩, hgd⟩, hoff⟩, _⟩ := hcond
      obtain ⟨hl, hfit⟩ := kind_fits _ _ _ hks hko
      have hlen2 : ∀ (p q : List D) (b : Bool), eqL p q = some b → p.length = q.length := by
        intro p
        induction p with
        | nil => intro q b hq; cases q <;> simp [eqL] at hq ⊢
        | cons c p ih =>
          intro q b hq
          cases q with
          | nil => simp [eqL] at hq
          | cons c' q =>
            simp only [eqL] at hq
            cases hc : eqC c c' with
            | none => simp [hc] at hq
            | some r =>
              cases r with
              | true => simp only [hc] at hq; simp [ih q b hq]
              | false =>
                simp only [hc] at hq
                cases hr : eqL p q with
                | none => simp [hr] at hq
                | some r => simp [ih q r hr]
      have hF : P.fieldsOf t = F := by simp [Program.fieldsOf, hu]
      constructor
      · simp only [Op.equal, Op.maxDepth]
        rw [run_equalIn_struct w 9999 t xs ys (by rw [hF]; exact hu) hst, hF]
        refine eqFields_run (S := S) (ρ := ρ) (n := 9998) F.toList 0 da db b hall ?_ hl h (fun i d hd => ?_) (fun i d hd => ?_) hfit
        · rw [hoff, List.range_eq_range']; simp
        · have hi : i < xs.size := by have := (List.getElem?_eq_some_iff.1 hd).1; omega
          rw [Nat.zero_add]
          exact ⟨_, Array.getElem?_eq_getElem hi, hxr i d _ hd (Array.getElem?_eq_getElem hi)⟩
        · have hi : i < ys.size := by have := (List.getElem?_eq_some_iff.1 hd).1; omega
          rw [Nat.zero_add]
          exact ⟨_, Array.getElem?_eq_getElem hi, hyr i d _ hd (Array.getElem?_eq_getElem hi)⟩
      · intro op p q
        exact run_eqGuard_agg w op t p q xs ys hgd
    · cases h
  · rename_i a b hk
    injection h with h
    subst h
    rw [hx.inv_bool, hy.inv_bool]
    refine ⟨?_, fun op p q => guard_plain op t p q _ _ (.inr (.inr ⟨_, rfl⟩))⟩
    simp only [Op.equal, Op.maxDepth]
    exact run_equalIn_bool' w 9999 t _ _ (ti_bool hk)
  · cases h

theorem bin_eq {op : BinOp} {t : TypeId} {vx vy : Value} (ho : op = .eql ∨ op = .neq) (hv : (∃ xs, vx = .agg xs) ∨ (∃ b, vx = .bool b)) {b : Bool} (h : (Op.equal t vx vy).run P w = .ok b w) :
    (binOp op t vx vy).run P w = .ok (.bool (if op = .eql then b else !b)) w := by
  rcases ho with rfl | rfl <;> rcases hv with ⟨xs, rfl⟩ | ⟨c, rfl⟩ <;> cases vy <;> simp [binOp, h]

theorem binD_split (ti : TI) (op : BinOp) (dx dy : D) : (∃ k m k' n, dx = .int k m ∧ dy = .int k' n) ∨ (∃ m n, dx = .str m ∧ dy = .str n) ∨ binD ti op dx dy = binE ti op dx dy := by
  cases dx <;> cases dy <;> first | exact .inr (.inr rfl) | exact .inl ⟨_, _, _, _, rfl, rfl⟩ | exact .inr (.inl ⟨_, _, rfl, rfl⟩)

theorem binOp_sound (h : Sim X ρ σ bx a w) {op : BinOp} {t t' : TypeId} {x y : Operand} {d : D} (hv : binD (tiOf P t) op (ev σ x) (ev σ y) = some d) : Yields P X ρ bx a w ⟨dst, .binOp op t x y t', ty, pos, af, g⟩ d := by
  have hx := h.ev x
  have hy := h.ev y
  generalize ev σ x = dx at hv hx
  generalize ev σ y = dy at hv hy
  rcases binD_split (tiOf P t) op dx dy with ⟨k, m, k', n, rfl, rfl⟩ | ⟨m, n, rfl, rfl⟩ | he
  · simp only [binD] at hv
    split at hv
    · rename_i hk
      subst hk
      obtain ⟨v, hrun, hr⟩ := bin_int (P := P) (ρ := ρ) (w := w) op k m n d hv t (Stab X ρ bx w)
      refine yields_same v ?_ hr
      simp only [execOp, Sem.run_bind, hx.inv_int, hy.inv_int, guard_plain op t x y _ _ (.inl ⟨_, _, rfl⟩), Result.andThen_ok, hrun, Sem.run_pure]
    · cases hv
  · simp only [binD] at hv
    obtain ⟨v, hrun, hr⟩ := bin_str (P := P) (ρ := ρ) (w := w) op m n d hv t (Stab X ρ bx w)
    refine yields_same v ?_ hr
    simp only [execOp, Sem.run_bind, hx.inv_str, hy.inv_str, guard_plain op t x y _ _ (.inr (.inl ⟨_, rfl⟩)), Result.andThen_ok, hrun, Sem.run_pure]
  · rw [he] at hv
    have hop : op = .eql ∨ op = .neq := by cases op <;> simp [binE] at hv <;> simp
    obtain ⟨b, hb, hd⟩ : ∃ b, eqD (tiOf P t) dx dy = some b ∧ d = .bool (if op = .eql then b else !b) := by
      rcases hop with rfl | rfl <;> simp only [binE, Option.map_eq_some_iff] at hv <;> obtain ⟨b, hb, rfl⟩ := hv <;> exact ⟨b, hb, by simp⟩
    obtain ⟨he, hg⟩ := eqD_run hb hx hy
    subst hd
    have hvx : (∃ xs, a.eval x = .agg xs) ∨ (∃ b, a.eval x = .bool b) := by
      unfold eqD at hb
      split at hb
      · obtain ⟨vs, h1, _⟩ := hx.inv_agg; exact .inl ⟨vs, h1⟩
      · exact .inr ⟨_, hx.inv_bool⟩
      · cases hb
    refine yields_same (.bool (if op = .eql then b else !b)) ?_ (.pure (.bool _))
    simp only [execOp, Sem.run_bind, hg, Result.andThen_ok, bin_eq hop hvx he, Sem.run_pure]

theorem unOp_sound (h : Sim X ρ σ bx a w) {op : UnOp} {t : TypeId} {x : Operand} {d : D} (hv : unD op (ev σ x) = some d) : Yields P X ρ bx a w ⟨dst, .unOp op t x, ty, pos, af, g⟩ d := by
  have hx := h.ev x
  generalize ev σ x = dx at hv hx
  cases dx <;> simp only [unD] at hv <;> try (cases hv; done)
  · cases op <;> simp only at hv <;> try (cases hv; done)
    injection hv with hv
    subst hv
    exact yields_same _ (by simp [execOp, hx.inv_int, Op.unary, Op.intArith]) (.pure (.int _ _))
  · cases op <;> simp only at hv <;> try (cases hv; done)
    injection hv with hv
    subst hv
    exact yields_same _ (by simp [execOp, hx.inv_bool, Op.unary]) (.pure (.bool _))

theorem shift_sound {S : Nat → Prop} {dx d : D} {vx : Value} {o : Nat} (hv : shiftD dx o = some d) (hx : Rep w S ρ dx vx) : ∃ b p, vx = .pointer (some ⟨b, p, none⟩) ∧ Rep w S ρ d (.pointer (some ⟨b, p + o, none⟩)) := by
  cases dx with
  | loc s e i j =>
    simp only [shiftD, Option.some.injEq] at hv
    subst hv
    obtain ⟨p, hp, rfl⟩ := hx.inv_loc
    exact ⟨_, _, rfl, .loc hp (by omega)⟩
  | cref d0 j =>
    simp only [shiftD, Option.some.injEq] at hv
    subst hv
    have hx2 : PRep w S (.cref d0 j) vx := hx.toP rfl
    cases hx2 with
    | @cref _ _ b off p us hb hp hc h1 hr => exact ⟨_, _, rfl, .pure (.cref (us := us) hb (by omega) hc h1 hr)⟩
  | _ => simp [shiftD] at hv

theorem fieldAddr_sound (h : Sim X ρ σ bx a w) {t : TypeId} {x : Operand} {i : Nat} {d : D} (hv : fieldAddrD (tiOf P t) (ev σ x) i = some d) : Yields P X ρ bx a w ⟨dst, .fieldAddr t x i, ty, pos, af, g⟩ d := by
  have hx := h.ev x
  generalize ev σ x = dx at hv hx
  simp only [fieldAddrD] at hv
  cases hk : (tiOf P t).k with
  | struct fs eq =>
    simp only [hk] at hv
    obtain ⟨F, hu, hfs, _⟩ := ti_struct hk
    subst hfs
    simp only [List.getElem?_map, Array.getElem?_toList] at hv
    cases hf : F[i]? with
    | none => simp [hf] at hv
    | some f =>
      simp only [hf, Option.map_some] at hv
      split at hv
      · cases hv
      · rename_i hz
        obtain ⟨b, p, hax, hr⟩ := shift_sound hv hx
        refine yields_same _ ?_ hr
        have hsz := run_sizeT (P := P) (t := f.type) (by omega) w
        simp only [execOp, Instr.fieldAt, Instr.sureAddr, Sem.run_bind, Sem.run_pure, Result.andThen_ok, run_underlying hu, hf, hax, fieldPlace, hsz, hz, if_false, Addr.add_none]
  | _ => simp [hk] at hv

theorem field_sound (h : Sim X ρ σ bx a w) {t : TypeId} {x : Operand} {i : Nat} {d : D} (hv : fieldD (tiOf P t) (ev σ x) i = some d) : Yields P X ρ bx a w ⟨dst, .field t x i, ty, pos, af, g⟩ d := by
  have hx := h.ev x
  generalize ev σ x = dx at hv hx
  unfold fieldD at hv
  split at hv
  · rename_i fs eq ds hk
    obtain ⟨F, hu, hfs, _⟩ := ti_struct hk
    subst hfs
    obtain ⟨vs, hax, hl, hr⟩ := hx.inv_agg
    simp only [List.getElem?_map, Array.getElem?_toList] at hv
    cases hf : F[i]? with
    | none => simp [hf] at hv
    | some f =>
      simp only [hf, Option.map_some] at hv
      split at hv
      · cases hv
      · rename_i hz
        have hz : 0 < sizeT P f.type := by omega
        have hpart : ∃ v, (part f.type vs f.offset).run P w = .ok v w ∧ Rep w (Stab X ρ bx w) ρ d v := by
          have hud : ∃ dd, P.underlying f.type = some dd := let ⟨_, dd, _, h2, _⟩ := size_ex hz; ⟨dd, h2⟩
          obtain ⟨dd, hud⟩ := hud
          unfold pickD at hv
          cases hag : aggT P f.type with
          | true =>
            simp only [hag, if_true] at hv
            split at hv
            · rename_i hle
              injection hv with hv
              subst hv
              refine ⟨.agg (vs.extract f.offset (f.offset + sizeT P f.type)), by simp only [part, Sem.run_bind, run_aggT hud, Result.andThen_ok, hag, if_true, run_sizeT hz, Sem.run_pure], .agg ?_ ?_⟩
              · simp [D.cells] at hle ⊢; omega
              · intro j c u hc hu'
                simp only [D.cells] at hc hle
                have hj : j < sizeT P f.type := by have := (List.getElem?_eq_some_iff.1 hc).1; simp at this; omega
                rw [List.getElem?_take_of_lt hj, List.getElem?_drop] at hc
                rw [Array.getElem?_extract] at hu'
                split at hu'
                · exact hr _ _ _ hc hu'
                · cases hu'
            · cases hv
          | false =>
            simp only [hag, Bool.false_eq_true, if_false, D.cells] at hv
            have hlt := (List.getElem?_eq_some_iff.1 hv).1
            have hvs : vs[f.offset]? = some vs[f.offset] := Array.getElem?_eq_getElem (by omega)
            exact ⟨_, by simp only [part, Sem.run_bind, run_aggT hud, Result.andThen_ok, hag, Bool.false_eq_true, if_false, hvs, Sem.run_pure], hr _ _ _ hv hvs⟩
        obtain ⟨v, hrun, hrep⟩ := hpart
        refine yields_same v ?_ hrep
        simp only [execOp, Instr.field, Sem.run_bind, Sem.run_pure, Result.andThen_ok, run_underlying hu, hf, hax, asAgg, hrun]
  · cases hv

theorem index_sound (h : Sim X ρ σ bx a w) {t : TypeId} {x y : Operand} {d : D} (hv : atInt (ev σ y) (indexD (tiOf P t) (ev σ x)) = some d) : Yields P X ρ bx a w ⟨dst, .index t x y, ty, pos, af, g⟩ d := by
  have hx := h.ev x
  have hy := h.ev y
  generalize ev σ x = dx at hv hx
  generalize ev σ y = dy at hv hy
  cases dy with
  | int k n =>
    have hy := hy.inv_int
    simp only [atInt] at hv
    unfold indexD at hv
    split at hv
    · rename_i s hk
      split at hv
      · rename_i h0
        cases hs : s[n.toNat]? with
        | none => simp [hs] at hv
        | some b =>
          simp only [hs, Option.map_some, Option.some.injEq] at hv
          subst hv
          have hlt := (List.getElem?_eq_some_iff.1 hs).1
          refine yields_same (.int .u8 (b.toNat : Int)) ?_ (.pure (.int _ _))
          have hb : (⟨s.toArray⟩ : ByteArray)[n.toNat]? = some b := by
            rw [ByteArray.getElem?_lt' _ _ (by simpa [ByteArray.size] using hlt)]
            have : s[n.toNat] = b := by have := List.getElem?_eq_getElem hlt; rw [hs] at this; injection this with this; exact this.symm
            rw [← this]; rfl
          simp only [execOp, Instr.index, hy, hx.inv_str, asIntOf, Sem.run_bind, Sem.run_pure, Result.andThen_ok, run_underlying (ti_str hk), h0, if_true, hb]
      · cases hv
    · rename_i len esz ag ds hk
      split at hv
      · rename_i hc
        obtain ⟨h0, hlt, hpos⟩ := hc
        obtain ⟨e, hu, he, hag⟩ := ti_arr hk
        obtain ⟨vs, hax, hl, hr⟩ := hx.inv_agg
        subst he
        subst hag
        obtain ⟨_, dd, _, hud, _⟩ := size_ex hpos
        have hc2 : 0 ≤ n ∧ n < ((len : Nat) : Int) := ⟨h0, hlt⟩
        have hpart : ∃ v, (part e vs (n.toNat * sizeT P e)).run P w = .ok v w ∧ Rep w (Stab X ρ bx w) ρ d v := by
          unfold pickD at hv
          cases hag : aggT P e with
          | true =>
            simp only [hag, if_true] at hv
            split at hv
            · rename_i hle
              injection hv with hv
              subst hv
              refine ⟨.agg (vs.extract (n.toNat * sizeT P e) (n.toNat * sizeT P e + sizeT P e)), by simp only [part, Sem.run_bind, run_aggT hud, Result.andThen_ok, hag, if_true, run_sizeT hpos, Sem.run_pure], .agg ?_ ?_⟩
              · simp [D.cells] at hle ⊢; omega
              · intro j c u hc hu'
                simp only [D.cells] at hc hle
                have hj : j < sizeT P e := by have := (List.getElem?_eq_some_iff.1 hc).1; simp at this; omega
                rw [List.getElem?_take_of_lt hj, List.getElem?_drop] at hc
                rw [Array.getElem?_extract] at hu'
                split at hu'
                · exact hr _ _ _ hc hu'
                · cases hu'
            · cases hv
          | false =>
            simp only [hag, Bool.false_eq_true, if_false, D.cells] at hv
            have hlt := (List.getElem?_eq_some_iff.1 hv).1
            have hvs : vs[n.toNat * sizeT P e]? = some vs[n.toNat * sizeT P e] := Array.getElem?_eq_getElem (by omega)
            exact ⟨_, by simp only [part, Sem.run_bind, run_aggT hud, Result.andThen_ok, hag, Bool.false_eq_true, if_false, hvs, Sem.run_pure], hr _ _ _ hv hvs⟩
        obtain ⟨v, hrun, hrep⟩ := hpart
        refine yields_same v ?_ hrep
        simp only [execOp, Instr.index, hy, hax, asIntOf, Sem.run_bind, Sem.run_pure, Result.andThen_ok, run_underlying hu, hc2, and_self, if_true, run_sizeT hpos, hrun]
      · cases hv
    · cases hv
  | _ => simp [atInt] at hv

theorem optInt_sound (h : Sim X ρ σ bx a w) {lo : Option Operand} {l : Option Int} (hl : optInt σ lo = some l) : (lo = none ∧ l = none) ∨ ∃ x k n, lo = some x ∧ l = some n ∧ a.eval x = .int k n := by
  cases lo with
  | none => simp only [optInt, Option.some.injEq] at hl; exact .inl ⟨rfl, hl.symm⟩
  | some x =>
    simp only [optInt] at hl
    have hx := h.ev x
    generalize ev σ x = dx at hl hx
    cases dx <;> simp only [intO] at hl <;> try (cases hl; done)
    injection hl with hl
    subst hl
    exact .inr ⟨x, _, _, rfl, rfl, hx.inv_int⟩

theorem bounds_run (h : Sim X ρ σ bx a w) {lo hi : Option Operand} {l u : Option Int} (hl : optInt σ lo = some l) (hh : optInt σ hi = some u) {isS : Bool} {len cap p q : Nat} (hc : cutD len l u = some (p, q)) (hle : len ≤ cap) :
    (Instr.sliceBounds isS len cap (lo.map a.eval) (hi.map a.eval) none).run P w = .ok (p, q, cap) w ∧ p ≤ q ∧ q ≤ len := by
  unfold cutD at hc
  simp only at hc
  split at hc
  · rename_i hb
    injection hc with hc
    injection hc with h1 h2
    rcases optInt_sound h hl with ⟨rfl, rfl⟩ | ⟨x, k, n, rfl, rfl, hx⟩ <;> rcases optInt_sound h hh with ⟨rfl, rfl⟩ | ⟨y, k', m, rfl, rfl, hy⟩ <;> simp only [Option.getD_none, Option.getD_some] at hb h1 h2
    · subst h1; subst h2
      refine ⟨by simp [Instr.sliceBounds], by omega, by omega⟩
    · subst h1; subst h2
      have c1 : 0 ≤ m ∧ m ≤ (cap : Int) := ⟨by omega, by omega⟩
      refine ⟨by simp [Instr.sliceBounds, Instr.sliceBound, hy, asIntOf, c1], by omega, by omega⟩
    · subst h1; subst h2
      have c1 : 0 ≤ n ∧ n ≤ (len : Int) := ⟨by omega, by omega⟩
      refine ⟨by simp [Instr.sliceBounds, Instr.sliceBound, hx, asIntOf, c1], by omega, by omega⟩
    · subst h1; subst h2
      have c1 : 0 ≤ m ∧ m ≤ (cap : Int) := ⟨by omega, by omega⟩
      have c2 : 0 ≤ n ∧ n ≤ ((m.toNat : Nat) : Int) := ⟨by omega, by omega⟩
      refine ⟨by simp only [Instr.sliceBounds, Instr.sliceBound, hx, hy, asIntOf, Option.map_some, Sem.run_bind, Sem.run_pure, Result.andThen_ok, Sem.run_ite, c1, c2, and_self, if_true], by omega, by omega⟩
  · cases hc

theorem slice_sound (h : Sim X ρ σ bx a w) {t : TypeId} {x : Operand} {lo hi : Option Operand} {d : D} (hv : optV (optInt σ lo) (optInt σ hi) (sliceD (tiOf P t) (ev σ x)) = some d) : Yields P X ρ bx a w ⟨dst, .slice t x lo hi none, ty, pos, af, g⟩ d := by
  have hx := h.ev x
  generalize ev σ x = dx at hv hx
  cases hl : optInt σ lo with
  | none => simp [hl, optV] at hv
  | some l =>
  cases hh : optInt σ hi with
  | none => simp [hl, hh, optV] at hv
  | some u =>
  simp only [hl, hh, optV] at hv
  unfold sliceD at hv
  split at hv
  · rename_i s hk
    cases hc : cutD s.length l u with
    | none => simp [hc] at hv
    | some pq =>
      obtain ⟨p, q⟩ := pq
      simp only [hc, Option.map_some, Option.some.injEq] at hv
      subst hv
      obtain ⟨hrun, h1, h2⟩ := bounds_run (P := P) (isS := false) (cap := s.length) h hl hh hc (Nat.le_refl _)
      refine yields_same (.string ⟨((s.drop p).take (q - p)).toArray⟩) ?_ (.pure (.str _))
      have hsz : (⟨s.toArray⟩ : ByteArray).size = s.length := by simp [ByteArray.size]
      have hex : (⟨s.toArray⟩ : ByteArray).extract p q = ⟨((s.drop p).take (q - p)).toArray⟩ := by
        apply ByteArray.ext
        apply Array.toList_inj.1
        simp [ByteArray.data_extract, List.extract]
      simp only [execOp, Instr.sliceAt, Instr.slice, hx.inv_str, Sem.run_bind, Sem.run_pure, Result.andThen_ok, run_underlying (ti_str hk), Option.map_none, Option.isSome_none, Bool.false_eq_true, if_false, hsz, hrun, hex]
  · rename_i e esz b ag sz es hk
    split at hv
    · rename_i he
      obtain ⟨he, hpos⟩ := he
      subst he
      obtain ⟨hu, hse, _, _⟩ := ti_slice hk
      cases hc : cutD es.length l u with
      | none => simp [hc] at hv
      | some pq =>
        obtain ⟨p, q⟩ := pq
        simp only [hc, Option.map_some, Option.some.injEq] at hv
        subst hv
        have hx2 : PRep w (Stab X ρ bx w) (.sl sz es) (a.eval x) := hx.toP rfl
        generalize hax : a.eval x = vx at hx2
        cases hx2 with
        | @sl _ _ A m cap b' off us hn hcap hmax hA hsz hcc h1 hr =>
          subst hn
          obtain ⟨hrun, k1, k2⟩ := bounds_run (P := P) (isS := true) (cap := cap) h hl hh hc hcap
          have hel : ∀ (i : Nat) c, ((es.drop p).take (q - p))[i]? = some c → es[p + i]? = some c := fun i c hi => by
            have hlt := (List.getElem?_eq_some_iff.1 hi).1
            simp at hlt
            rwa [List.getElem?_take_of_lt (by omega), List.getElem?_drop] at hi
          refine yields_same (.slice (if cap = p then A else A.map (·.add (p * sz))) (q - p) (cap - p)) ?_ (.pure (.sl (b := b') (off := off + p * sz) (us := fun i j => us (p + i) j) (by simp; omega) (by omega) (by omega) (fun hne => ?_)
            (fun i c hi => hsz _ _ (hel i c hi)) (fun i c j c' hi hj => ?_) (fun i c j c' hi hj => h1 _ _ _ _ (hel i c hi) hj) (fun i c j c' hi hj => hr _ _ _ _ (hel i c hi) hj)))
          · simp only [execOp, Instr.sliceAt, Instr.slice, hax, Sem.run_bind, Sem.run_pure, Result.andThen_ok, run_underlying hu, Option.map_none, hrun, run_sizeT (hse ▸ hpos), ← hse]
          · have hlt : p < es.length := by
              rcases Nat.lt_or_ge p es.length with h' | h'
              · exact h'
              · exfalso; apply hne; rw [List.drop_eq_nil_of_le h']; simp
            obtain ⟨rfl, hb⟩ := hA (by rintro rfl; simp at hlt)
            rw [if_neg (by omega)]
            exact ⟨by simp [Addr.add_none], hb⟩
          · have := hcc _ _ _ _ (hel i c hi) hj
            rwa [Nat.add_mul, ← Nat.add_assoc] at this
    · cases hv
  · rename_i e esz b ag s e' sz o n hk
    split at hv
    · rename_i he
      obtain ⟨he, hpos⟩ := he
      subst he
      obtain ⟨hu, hse, _, _⟩ := ti_slice hk
      cases hc : cutD n l u with
      | none => simp [hc] at hv
      | some pq =>
        obtain ⟨p, q⟩ := pq
        simp only [hc, Option.map_some, Option.some.injEq] at hv
        subst hv
        generalize hax : a.eval x = vx at hx
        cases hx with
        | pure h => cases h
        | @osl _ _ _ _ _ off cap pl hp hsz h0' hoff hn hcap =>
          obtain ⟨hrun, k1, k2⟩ := bounds_run (P := P) (isS := true) (cap := cap) h hl hh hc hn
          have hrun2 : (execOp a.eval ⟨dst, .slice t x lo hi none, ty, pos, af, g⟩).run P w = .ok (.value (.slice (if cap = p then some ⟨pl.b, off, none⟩ else some ⟨pl.b, off + p * sz, none⟩) (q - p) (cap - p))) w := by
            simp only [execOp, Instr.sliceAt, Instr.slice, hax, Sem.run_bind, Sem.run_pure, Result.andThen_ok, run_underlying hu, Option.map_none, hrun, run_sizeT (hse ▸ hpos), ← hse, Option.map_some, Addr.add_none]
          by_cases hcp : cap = p
          · rw [if_pos hcp] at hrun2
            refine yields_same _ hrun2 (.osl hp hsz (fun h0 => ⟨(h0' (by omega)).1, ?_⟩) (fun hq => by omega) (by omega) ⟨by omega, hcap.2⟩)
            have := h0' (by omega)
            omega
          · rw [if_neg hcp] at hrun2
            refine yields_same _ hrun2 (.osl hp hsz (fun h0 => ?_) (fun hq => ?_) (by omega) ⟨by omega, hcap.2⟩)
            · have hp0 : p = 0 := by omega
              subst hp0
              have := h0' (by omega)
              simp only [Nat.zero_mul, Nat.add_zero, Nat.sub_zero]
              exact this
            · rw [hoff (by omega), Nat.add_mul]
    · cases hv
  · cases hv

end Go.V
