/-
  What a step does hangs on what it looks at alone: so steps that come in no fixed order may be taken in any.
-/
import Derived.Test.YtbnniokcdilpgaaDoorVl
namespace Go.V
open Go.RowKit

variable {P : Program} {C : Calc} {σ σ₂ : Env} {bx bx₂ : Bxs}

def mergeB (c : Cl) (bx' bx₂ : Bxs) : Bxs := fun s => if c.wr s then bx' s else bx₂ s

theorem mergeB_wa (bx' bx₂ : Bxs) : mergeB .wa bx' bx₂ = bx' := by funext s; simp [mergeB, Cl.wr]
theorem mergeB_w {t : Nat} {b : Bx} (bx bx₂ : Bxs) : mergeB (.w t) (upd bx t b) bx₂ = upd bx₂ t b := by
  funext s
  by_cases h : s = t <;> simp [mergeB, Cl.wr, upd, h]
theorem mergeB_no {c : Cl} (h : ∀ s, c.wr s = false) (bx' bx₂ : Bxs) : mergeB c bx' bx₂ = bx₂ := by funext s; simp [mergeB, h s]

theorem ev_agree {x : Operand} (h : ∀ t, x = .tmp t → σ₂ t = σ t) : ev σ₂ x = ev σ x := by
  cases x with
  | tmp t => exact h t rfl
  | _ => rfl

/-- The two states look alike to an operation. -/
def Alike (σ σ₂ : Env) (op : Op) : Prop := ∀ x ∈ op.operands.toList, ev σ₂ x = ev σ x

theorem optInt_alike {l : Option Operand} (h : ∀ x ∈ l.toList, ev σ₂ x = ev σ x) : optInt σ₂ l = optInt σ l := by
  cases l with
  | none => rfl
  | some x => simp only [optInt, h x (by simp)]

theorem valD_alike {op : Op} (h : Alike σ σ₂ op) (hl : ∀ T a, op ≠ .load T a) : valD P σ₂ bx₂ op = valD P σ bx op := by
  cases op with
  | move x => simp only [valD, h x (by simp [Op.operands])]
  | assign x => simp only [valD, h x (by simp [Op.operands])]
  | pick c x y => simp only [valD, h c (by simp [Op.operands]), h x (by simp [Op.operands]), h y (by simp [Op.operands])]
  | binOp op t x y t' => simp only [valD, h x (by simp [Op.operands]), h y (by simp [Op.operands])]
  | makeInterface t x => simp only [valD, h x (by simp [Op.operands])]
  | typeAssert x t t' ok => simp only [valD, h x (by simp [Op.operands])]
  | unOp op t x => simp only [valD, h x (by simp [Op.operands])]
  | fieldAddr t x i => simp only [valD, h x (by simp [Op.operands])]
  | field t x i => simp only [valD, h x (by simp [Op.operands])]
  | indexAddr t x y => simp only [valD, h x (by simp [Op.operands]), h y (by simp [Op.operands])]
  | index t x y => simp only [valD, h x (by simp [Op.operands]), h y (by simp [Op.operands])]
  | load t x => exact absurd rfl (hl t x)
  | extract x i => simp only [valD, h x (by simp [Op.operands])]
  | slice t x lo hi mx =>
    cases mx with
    | none => simp only [valD, h x (by simp [Op.operands]), optInt_alike (l := lo) (fun y hy => h y (by simp at hy; simp [Op.operands, hy])), optInt_alike (l := hi) (fun y hy => h y (by simp at hy; simp [Op.operands, hy]))]
    | some m => simp [valD]
  | build t ps =>
    have : (ps.toList.map fun p => (p.1, ev σ₂ p.2)) = ps.toList.map fun p => (p.1, ev σ p.2) := List.map_congr_left fun p hp => by
      rw [h p.2 (by simp only [Op.operands, List.mem_map]; exact ⟨p, hp, rfl⟩)]
    simp only [valD, this]
  | buildSlice t n ps =>
    have : (ps.toList.map fun p => (p.1, ev σ₂ p.2)) = ps.toList.map fun p => (p.1, ev σ p.2) := List.map_congr_left fun p hp => by
      rw [h p.2 (by simp only [Op.operands, List.mem_map]; exact ⟨p, hp, rfl⟩)]
    simp only [valD, this]
  | nilCheck x => simp only [valD, h x (by simp [Op.operands])]
  | makeFunc f first caps =>
    have : caps.toList.map (ev σ₂) = caps.toList.map (ev σ) := List.map_congr_left fun x hx => h x (by simp [Op.operands] ; exact .inr (by simpa using hx))
    simp only [valD, this]
  | convert s t x => simp only [valD, h x (by simp [Op.operands])]
  | call c =>
    obtain ⟨callee, args, ats⟩ := c
    cases callee with
    | builtin b =>
      have : args.toList.map (ev σ₂) = args.toList.map (ev σ) := List.map_congr_left fun x hx => h x (by simp [Op.operands, Call.operands]; simpa using hx)
      simp only [valD, this]
    | _ => simp [valD]
  | _ => simp [valD]

theorem loadD_alike {ti : TI} {d : D} (h : ∀ s, (slotR d).rd s = true → bx₂ s = bx s) : loadD ti bx₂ d = loadD ti bx d := by
  cases d with
  | loc t e i j => simp only [loadD, h t (by simp [slotR, Cl.rd])]
  | _ => rfl

theorem storeD_alike {lo : Nat} {ti : TI} {a v : D} {bx' : Bxs} (hs : storeD lo ti bx a v = some bx') : (∀ s, (slotW a).wr s = false → bx' s = bx s) ∧
    ∀ bx₂ : Bxs, (∀ s, (slotW a).rd s = true → bx₂ s = bx s) → storeD lo ti bx₂ a v = some (mergeB (slotW a) bx' bx₂) := by
  unfold storeD at hs
  split at hs
  · rename_i t e i j
    split at hs
    · rename_i hc
      unfold bxSet at hs
      split at hs
      · rename_i hk
        cases hi : (bx t).es[i]? with
        | none => simp [hi] at hs
        | some d0 =>
          simp only [hi, Option.map_eq_some_iff] at hs
          obtain ⟨d', hd', rfl⟩ := hs
          refine ⟨fun s hs => ?_, fun bx₂ h2 => ?_⟩
          · have : s ≠ t := by simpa [slotW, Cl.wr] using hs
            simp [upd, this]
          · have ht := h2 t (by simp [slotW, Cl.rd])
            simp only [storeD, hc, and_self, if_true, bxSet, ht, hk, hi, hd', Option.map_some, slotW, mergeB_w]
      · cases hs
    · cases hs
  · cases hs

/-- What a step does, told of by what it looks at. -/
structure Eff (P : Program) (C : Calc) (o : Oper) (σ : Env) (bx : Bxs) (c : Cl) (v : D) (bx' : Bxs) : Prop where
  np : ∀ x, c ≠ .pan x
  same : ∀ s, c.wr s = false → bx' s = bx s
  le0 : wcls o.op = 0 → c = .n
  le1 : wcls o.op ≠ 2 → ∀ s, c.wr s = false
  run : ∀ σ₂ bx₂, Alike σ σ₂ o.op → (∀ s, c.rd s = true → bx₂ s = bx s) → ∀ K : Cl → Env → Bxs → Prop, K c (put σ₂ o.dst v) (mergeB c bx' bx₂) → stepD P C o σ₂ bx₂ K

theorem stepD_eff (hT : ∀ f b ds bx Q Qp, ¬ C.o.toB f b ds bx Q Qp) (hyl : C.yl = none) (hpn : C.pn = false) (hdf : C.df = false) {o : Oper} {K : Cl → Env → Bxs → Prop} (hs : stepD P C o σ bx K) : ∃ c v bx', K c (put σ o.dst v) bx' ∧ Eff P C o σ bx c v bx' := by
  obtain ⟨dst, op, ty, pos, af, g⟩ := o
  unfold stepD at hs
  dsimp only at hs
  split at hs
  · rename_i T
    split at hs
    · rename_i d
      cases hz : zeroD (tiOf P T) with
      | none => rw [hz] at hs; exact hs.elim
      | some z =>
        rw [hz] at hs
        refine ⟨_, _, _, hs, ⟨(by intro x; simp), fun s hs => ?_, by simp [wcls], by simp [wcls], fun σ₂ bx₂ hal hbx K hK => ?_⟩⟩
        · have : s ≠ C.base + d := by simpa [Cl.wr] using hs
          simp [upd, this]
        · have hd := hbx (C.base + d) (by simp [Cl.rd])
          rw [mergeB_w] at hK
          simp only [stepD, hz, bindD, hd]
          exact hK
    · exact hs.elim
  · rename_i T x
    split at hs
    · rename_i d
      cases hz : boxD (tiOf P T) (ev σ x) with
      | none => rw [hz] at hs; exact hs.elim
      | some z =>
        rw [hz] at hs
        refine ⟨_, _, _, hs, ⟨(by intro x; simp), fun s hs => ?_, by simp [wcls], by simp [wcls], fun σ₂ bx₂ hal hbx K hK => ?_⟩⟩
        · have : s ≠ C.base + d := by simpa [Cl.wr] using hs
          simp [upd, this]
        · have hd := hbx (C.base + d) (by simp [Cl.rd])
          have hx := hal x (by simp [Op.operands])
          rw [mergeB_w] at hK
          simp only [stepD, hx, hz, bindD, hd]
          exact hK
    · exact hs.elim
  · rename_i T x y
    cases hz : storeD C.lo (tiOf P T) bx (ev σ x) (ev σ y) with
    | none => rw [hz] at hs; exact hs.elim
    | some bx' =>
      rw [hz] at hs
      obtain ⟨h1, h2⟩ := storeD_alike hz
      refine ⟨_, _, _, hs, ⟨slotW_np _, h1, by simp [wcls], by simp [wcls], fun σ₂ bx₂ hal hbx K hK => ?_⟩⟩
      have hx := hal x (by simp [Op.operands])
      have hy := hal y (by simp [Op.operands])
      simp only [stepD, hx, hy, h2 bx₂ hbx, bindD]
      exact hK
  · rename_i T x
    cases hz : loadD (tiOf P T) bx (ev σ x) with
    | none => rw [hz] at hs; exact hs.elim
    | some d =>
      rw [hz] at hs
      have hw : ∀ s, (slotR (ev σ x)).wr s = false := by intro s; cases ev σ x <;> rfl
      refine ⟨_, _, _, hs, ⟨slotR_np _, fun s _ => rfl, by simp [wcls], fun _ => hw, fun σ₂ bx₂ hal hbx K hK => ?_⟩⟩
      have hx := hal x (by simp [Op.operands])
      rw [mergeB_no hw] at hK
      simp only [stepD, hx, loadD_alike hbx, hz, bindD]
      exact hK
  · rename_i args ats
    cases hz : appLD C.lo (tiOf P) ats.toList (slotO C.base dst) bx (args.toList.map (ev σ)) with
    | none => rw [hz] at hs; exact hs.elim
    | some r =>
      rw [hz] at hs
      refine ⟨_, _, _, hs, ⟨(by intro x; simp), fun s hs => by simp [Cl.wr] at hs, by simp [wcls], by simp [wcls], fun σ₂ bx₂ hal hbx K hK => ?_⟩⟩
      have hb : bx₂ = bx := funext fun s => hbx s (by simp [Cl.rd])
      have hx : args.toList.map (ev σ₂) = args.toList.map (ev σ) := List.map_congr_left fun x hx => hal x (by simp [Op.operands, Call.operands]; simpa using hx)
      rw [mergeB_wa] at hK
      simp only [stepD, hx, hb, hz, bindD]
      exact hK
  · rename_i fo args ats
    cases hf : ev σ fo with
    | fn f caps =>
      cases f with
      | func f =>
        rw [hf] at hs
        have fin : ∀ σ₂ bx₂, Alike σ σ₂ (.call { callee := .value fo, args, argTypes := ats }) → ∀ K : Cl → Env → Bxs → Prop, callD C f (args.toList.map (ev σ) ++ caps) bx₂ (fun c d bx' => K c (put σ₂ dst d) bx') → stepD P C ⟨dst, .call { callee := .value fo, args, argTypes := ats }, ty, pos, af, g⟩ σ₂ bx₂ K := by
          intro σ₂ bx₂ hal K hK
          have hx : args.toList.map (ev σ₂) = args.toList.map (ev σ) := List.map_congr_left fun x hx => hal x (by simp [Op.operands, Call.operands]; exact .inr (by simpa using hx))
          have hfo := hal fo (by simp [Op.operands, Call.operands])
          simp only [stepD, hx, hfo, hf, callV]
          exact hK
        simp only [callV] at hs
        rcases hs with ⟨d, hp, hto, hK⟩ | ⟨ds', d, ho, hto, hb, hK⟩ | ⟨ds', d, hlo, ho, hto, hK⟩ | ⟨Q, _, _, hto, _⟩
        · refine ⟨_, _, _, hK, ⟨(by intro x; simp), fun _ _ => rfl, by simp [wcls], by simp [wcls], fun σ₂ bx₂ hal hbx K hK => ?_⟩⟩
          rw [mergeB_no (fun _ => rfl)] at hK
          exact fin σ₂ bx₂ hal K (.inl ⟨d, hp, hto, hK⟩)
        · refine ⟨_, _, _, hK, ⟨(by intro x; simp), fun _ _ => rfl, by simp [wcls], by simp [wcls], fun σ₂ bx₂ hal hbx K' hK' => ?_⟩⟩
          have hb' : bx₂ = bx := funext fun s => hbx s (by simp [Cl.rd])
          rw [mergeB_no (fun _ => rfl)] at hK'
          rw [hb'] at hK' ⊢
          exact fin σ₂ bx hal K' (.inr (.inl ⟨ds', d, ho, hto, hb, hK'⟩))
        · refine ⟨_, _, _, hK, ⟨(by intro x; simp), fun s hs => by simp [Cl.wr] at hs, by simp [wcls], by simp [wcls], fun σ₂ bx₂ hal hbx K' hK' => ?_⟩⟩
          have hb' : bx₂ = bx := funext fun s => hbx s (by simp [Cl.rd])
          rw [mergeB_wa] at hK'
          rw [hb']
          exact fin σ₂ bx hal K' (.inr (.inr (.inl ⟨ds', d, hlo, ho, hto, hK'⟩)))
        · exact absurd hto (hT _ _ _ _ _ _)
      | yield l =>
        rw [hf] at hs
        cases caps with
        | nil => simp only [callV, yieldD, hyl] at hs
        | cons _ _ => exact hs.elim
      | _ => rw [hf] at hs; exact hs.elim
    | _ => rw [hf] at hs; exact hs.elim
  · rw [hpn] at hs; exact absurd hs.1 (by decide)
  · rw [hdf] at hs; exact absurd hs.1 (by decide)
  · rename_i T l c
    split at hs
    · rename_i d
      cases hz : mkslD (tiOf P) (tiOf P T) (ev σ l) (ev σ c) with
      | none => rw [hz] at hs; exact hs.elim
      | some z =>
        rw [hz] at hs
        refine ⟨_, _, _, hs, ⟨(by intro x; simp), fun s hs => ?_, by simp [wcls], by simp [wcls], fun σ₂ bx₂ hal hbx K hK => ?_⟩⟩
        · have : s ≠ C.base + d := by simpa [Cl.wr] using hs
          simp [upd, this]
        · have hd := hbx (C.base + d) (by simp [Cl.rd])
          have hx := hal l (by simp [Op.operands])
          have hy := hal c (by simp [Op.operands])
          rw [mergeB_w] at hK
          simp only [stepD, hx, hy, hz, bindD, hd]
          exact hK
    · exact hs.elim
  · rename_i op' h1 h2 h3 h4 h5 h6 h7 h8 h9
    have hrun : ∀ σ₂ bx₂ K, stepD P C ⟨dst, op, ty, pos, af, g⟩ σ₂ bx₂ K = stepE P C dst op σ₂ bx₂ K := by
      intro σ₂ bx₂ K
      unfold stepD
      dsimp only
      split <;> first | rfl | (exact absurd rfl (h1 _)) | (exact absurd rfl (h2 _ _)) | (exact absurd rfl (h3 _ _ _)) | (exact absurd rfl (h4 _ _)) | (exact absurd rfl (h5 _ _)) | (exact absurd rfl (h6 _ _ _)) | (exact absurd rfl (h7 _)) | (exact absurd rfl (h8 _ _ _)) | (exact absurd rfl (h9 _ _ _))
    have hval : ∀ d, valD P σ bx op = some d → (∀ σ₂ bx₂ (K : Cl → Env → Bxs → Prop), valD P σ₂ bx₂ op = some d → K .n (put σ₂ dst d) bx₂ → stepE P C dst op σ₂ bx₂ K) → K .n (put σ dst d) bx → ∃ c v bx', K c (put σ dst v) bx' ∧ Eff P C ⟨dst, op, ty, pos, af, g⟩ σ bx c v bx' := by
      intro d hz hE hq
      by_cases hb : ∃ T n ps, op = .buildSlice T n ps
      · obtain ⟨T, n, ps, rfl⟩ := hb
        refine ⟨_, _, _, hq, ⟨(by intro x; simp), fun _ _ => rfl, fun _ => rfl, fun _ _ => rfl, fun σ₂ bx₂ hal hbx K hK => ?_⟩⟩
        have hv := valD_alike (P := P) (bx := bx) (bx₂ := bx₂) hal (fun T a => h4 T a)
        rw [hz] at hv
        rw [mergeB_no (fun _ => rfl)] at hK
        rw [hrun]
        exact hE _ _ _ hv hK
      · refine ⟨_, _, _, hq, ⟨(by intro x; simp), fun _ _ => rfl, fun _ => rfl, fun _ _ => rfl, fun σ₂ bx₂ hal hbx K hK => ?_⟩⟩
        have hv := valD_alike (P := P) (bx := bx) (bx₂ := bx₂) hal (fun T a => h4 T a)
        rw [hz] at hv
        rw [mergeB_no (fun _ => rfl)] at hK
        rw [hrun]
        exact hE _ _ _ hv hK
    clear h1 h2 h3 h4 h5 h6 h7 h8 h9
    unfold stepE at hs
    split at hs
    · rename_i T m ps
      have hps : ∀ σ₂, Alike σ σ₂ (.buildSlice T m ps) → (ps.toList.map fun p => (p.1, ev σ₂ p.2)) = ps.toList.map fun p => (p.1, ev σ p.2) := fun σ₂ hal => List.map_congr_left fun p hp => by
        rw [hal p.2 (by simp only [Op.operands, List.mem_map]; exact ⟨p, hp, rfl⟩)]
      split at hs
      · rename_i ho
        split at hs
        · rename_i d
          cases hz : litXD (tiOf P) (tiOf P T) m (ps.toList.map fun p => (p.1, ev σ p.2)) with
          | none => rw [hz] at hs; exact hs.elim
          | some z =>
            rw [hz] at hs
            refine ⟨_, _, _, hs, ⟨(by intro x; simp), fun s hs => ?_, by simp [wcls], by simp [wcls], fun σ₂ bx₂ hal hbx K hK => ?_⟩⟩
            · have : s ≠ C.base + d := by simpa [Cl.wr] using hs
              simp [upd, this]
            · have hd := hbx (C.base + d) (by simp [Cl.rd])
              rw [mergeB_w] at hK
              rw [hrun]
              unfold stepE
              simp only [ho, if_true, hps σ₂ hal, hz, bindD, hd]
              exact hK
        · exact hs.elim
      · rename_i ho
        cases hz : valD P σ bx (.buildSlice T m ps) with
        | none => rw [hz] at hs; exact hs.elim
        | some d =>
          rw [hz] at hs
          refine hval d hz (fun σ₂ bx₂ K hv hK => ?_) hs
          unfold stepE
          simp only [ho, if_false, hv, bindD]
          exact hK
    · rename_i op' hb
      cases hz : valD P σ bx op with
      | none => rw [hz] at hs; exact hs.elim
      | some d =>
        rw [hz] at hs
        refine hval d hz (fun σ₂ bx₂ K hv hK => ?_) hs
        have : stepE P C dst op σ₂ bx₂ K = bindD (valD P σ₂ bx₂ op) fun v => K .n (put σ₂ dst v) bx₂ := by
          unfold stepE
          split
          · exact absurd rfl (hb _ _ _)
          · rfl
        rw [this, hv]
        exact hK

end Go.V
