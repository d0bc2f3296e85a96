/-
  Code; functions.
-/
import Derived.Test.YtbnniokcdilpgaaDoorVp
import Derived.Sort.LoopGhostIn
import Derived.Conc.MuLone
import Derived.RangeFuncRecord
import Derived.RangeFuncIn
namespace Go.V
open Go.RowKit

variable {P : Program} {C : Calc} {X : Ctx} {ρ : Rho} {σ : Env} {bx : Bxs} {a : Act} {w : World} {r : Option Nat} {n : Nat}

theorem run_of {ops : List Oper} {acc : List Cl} {id : Nat} {cs : Nat → Cl} {vs : Nat → D} {σs : Nat → Env} {bs : Nat → Bxs} {tab : List (Nat × List (Nat × Nat))} (hok : commOk ops (lookT tab id) = true) (hacc : acc = ((List.range ops.length).map cs).reverse) (hch : chk (lookT tab id) acc)
    (hat : ∀ (k : Nat) o, ops[k]? = some o → σs (k + 1) = put (σs k) o.dst (vs k) ∧ EffG P C ops o (σs k) (bs k) (cs k) (vs k) (bs (k + 1))) : Run P C ops cs vs σs bs := by
  obtain ⟨hback, hfree⟩ := commOk_spec hok
  refine ⟨hat, hback, fun i j o o' hj hi hij hord => ?_⟩
  obtain ⟨h1, h2, h3⟩ := hfree i j o o' hj hi hij hord
  have hord' : ordered (Region.before ops.toArray) j i = false := by rw [← hord]; simp [ordered, Nat.max_comm, Nat.min_comm]
  obtain ⟨_, _, h3'⟩ := hfree j i o' o hi hj (Ne.symm hij) hord'
  refine ⟨h1, fun s hw hr => ?_⟩
  have hjl := (List.getElem?_eq_some_iff.1 hj).1
  have hil := (List.getElem?_eq_some_iff.1 hi).1
  have hEi := (hat i o' hi).2
  have hEj := (hat j o hj).2
  have hwi : wcls o'.op = 2 := by
    rcases Nat.decEq (wcls o'.op) 2 with hne | he
    · have := hEi.le1 hne s; rw [hw] at this; cases this
    · exact he
  have hwj : wcls o.op ≠ 0 := fun h0 => by
    have := hEj.le0 h0
    rw [this] at hr; simp [Cl.rd] at hr
  have hget : ∀ k, k < ops.length → acc[ops.length - 1 - k]? = some (cs k) := by
    intro k hk
    rw [hacc, List.getElem?_reverse (by simp; omega)]
    simp only [List.length_map, List.length_range]
    have : ops.length - 1 - (ops.length - 1 - k) = k := by omega
    rw [this, List.getElem?_map, List.getElem?_range hk]
    rfl
  rcases h3' hwi hwj with hm | hm
  · have := chk_at hch _ _ hm
    rw [hget i hil, hget j hjl] at this
    exact (apart_no this s).1 hw hr
  · have := chk_at hch _ _ hm
    rw [hget i hil, hget j hjl] at this
    exact (apart_no this s).2 hw hr

theorem Good.det (h : Good P C X) : Good P C.det X :=
  ⟨⟨h.ok.to, fun _ _ _ _ _ _ hf => hf.elim, fun _ _ _ _ hf => hf.elim⟩, h.lo, h.base, (fun _ _ _ hf => by cases hf), (fun hf => by cases hf), fun _ _ _ _ _ h => h⟩

theorem putObj_fr (w : World) (l : Nat) (o : Obj) : Fr (fun k => k = l) w (w.putObj l o) :=
  ⟨rfl, rfl, rfl, by simp, fun k _ hk => World.putObj_heap_other hk⟩

/-- How the machine leaves, as the data level has it. -/
def XR (w : World) (S : Nat → Prop) (ρ : Rho) : DX → Exit → Prop
  | .normal, .normal => True
  | .ret, .ret => True
  | .exit i, .exit j => i = j
  | .goto i, .goto j => i = j
  | .pan d, .panic ch => ∃ v, ch = [pe v] ∧ Rep w S ρ d v
  | _, _ => False

theorem XR.cases {S : Nat → Prop} {e : DX} {e' : Exit} (h : XR w S ρ e e') : (e = .normal ∧ e' = .normal) ∨ (e = .ret ∧ e' = .ret) ∨ (∃ i, e = .exit i ∧ e' = .exit i) ∨ (∃ l, e = .goto l ∧ e' = .goto l) ∨ ∃ d v, e = .pan d ∧ e' = .panic [pe v] ∧ Rep w S ρ d v := by
  cases e with
  | normal => cases e' <;> first | exact h.elim | exact .inl ⟨rfl, rfl⟩
  | ret => cases e' <;> first | exact h.elim | exact .inr (.inl ⟨rfl, rfl⟩)
  | exit i => cases e' with
    | exit j => have : i = j := h; subst this; exact .inr (.inr (.inl ⟨i, rfl, rfl⟩))
    | _ => exact h.elim
  | goto i => cases e' with
    | goto j => have : i = j := h; subst this; exact .inr (.inr (.inr (.inl ⟨i, rfl, rfl⟩)))
    | _ => exact h.elim
  | pan d => cases e' with
    | panic ch => obtain ⟨v, rfl, hr⟩ := h; exact .inr (.inr (.inr (.inr ⟨d, v, rfl, rfl, hr⟩)))
    | _ => exact h.elim

/-- What is asked of the code of an activation or a round. -/
def Sound (P : Program) (c : Code) : Prop :=
  ∀ (r : Option Nat) (n : Nat) (C : Calc) (X : Ctx) (Qd : DX → Env → Bxs → Prop) (Q : Exit → Act → World → Prop) (ρ : Rho) (σ : Env) (bx : Bxs) (a : Act) (w : World), Good P C X → (∀ l, r = some l → X.md = 1 ∧ ∃ rc, X.r0.hold l = some (.loop rc) ∧ ¬ X.E l) →
    codeOk1 C.tab X.N c = true → Sim X ρ σ bx a w → cR P C c Qd σ bx → (∀ e e' σ' bx' a' w' ρ', XR w' (Stab X ρ' bx' w') ρ' e e' → Qd e σ' bx' → Sim X ρ' σ' bx' a' w' → Q e' a' w') → c.wpIn (Fw r) n P Q a w

theorem bindPs_rep {S : Nat → Prop} : ∀ (ps : List Tmp) (it : List D) (us : List Value) (σ : Env) (tm : Array Value), us.length = it.length → it.length = ps.length → (∀ t ∈ ps, t < tm.size) → (∀ (i : Nat) x v, it[i]? = some x → us[i]? = some v → Rep w S ρ x v) → (∀ t, Rep w S ρ (σ t) (tm.getD t undef)) →
    ((ps.zip us).foldl (fun tmps (x : Tmp × Value) => tmps.setIfInBounds x.1 x.2) tm).size = tm.size ∧ ∀ t, Rep w S ρ (bindPs σ ps it t) (((ps.zip us).foldl (fun tmps (x : Tmp × Value) => tmps.setIfInBounds x.1 x.2) tm).getD t undef)
  | [], it, us, σ, tm, _, h2, _, _, h => by
    cases it with
    | nil => exact ⟨rfl, h⟩
    | cons _ _ => simp at h2
  | p :: ps, it, us, σ, tm, h1, h2, hlt, hr, h => by
    cases it with
    | nil => simp at h2
    | cons d it =>
      cases us with
      | nil => simp at h1
      | cons u us =>
        have := bindPs_rep ps it us (upd σ p d) (tm.setIfInBounds p u) (by simpa using h1) (by simpa using h2) (fun t ht => by simpa using hlt t (List.mem_cons_of_mem _ ht)) (fun i x v hx hv => hr (i + 1) x v (by simpa using hx) (by simpa using hv)) (fun t => by
          by_cases e : t = p
          · subst e
            have hl := hlt t (List.mem_cons_self ..)
            have e2 : (tm.setIfInBounds t u).getD t undef = u := by simp [Array.getD, hl]
            rw [e2]; simp only [upd, if_true]
            exact hr 0 d u rfl rfl
          · have e2 : (tm.setIfInBounds p u).getD t undef = tm.getD t undef := by simp only [Array.getD_eq_getD_getElem?, Array.getElem?_setIfInBounds_ne (Ne.symm e)]
            rw [e2]; simp only [upd, e, if_false]
            exact h t)
        refine ⟨?_, this.2⟩
        have h1 := this.1
        simp only [List.zip_cons_cons, List.foldl_cons]
        rw [h1]; simp

/-- What is left behind by a round that jumps. -/
def JxOf (nxt : Nat) (Qd : DX → Env → Bxs → Prop) (σ : Env) : Code → Bxs → Prop
  | .ret, c => ∀ bx2, cutB nxt bx2 = c → Qd .ret σ bx2
  | .exit id, c => ∀ bx2, cutB nxt bx2 = c → Qd (.exit id) σ bx2
  | _, _ => False

/-- The rounds of a range over a function. -/
theorem rounds_sound {assign body : Code} (hA : Sound P assign) (hB : Sound P body) {ps : Array Tmp} {l ext : Nat} {rc : Loop} {items : List (List D)} {J : Nat → Bxs → Prop} {Qd : DX → Env → Bxs → Prop} (hG : Ok P C.o) (hlo : C.lo = 0) (hyl : C.yl = none)
    (hok : (∀ t ∈ ps.toList, t < X.N) ∧ codeOk1 C.tab X.N assign = true ∧ codeOk1 C.tab X.N body = true)
    (hrc : rc.state = .ready ∧ rc.pending = none ∧ rc.tmps = a.tmps ∧ rc.params = ps ∧ rc.assign = assign ∧ rc.body = body)
    (hr : ∀ n it bx1, items[n]? = some it → J n (cutB C.nxt bx1) → it.length = ps.size ∧
        cR P ⟨C.o, C.tab, C.base, C.nxt + ext, C.lo, C.yl, false, false⟩ assign (thenQ (cR P ⟨C.o, C.tab, C.base, C.nxt + ext, C.lo, C.yl, false, false⟩ body (roundQ C.nxt ext J n Qd σ bx1)) noQ) (bindPs σ ps.toList it) bx1) :
    RoundOk P X l rc C.nxt ext items J (JxOf C.nxt Qd σ) σ a := by
  obtain ⟨st, pe, fn, tm, pr, as, bd, df⟩ := rc
  obtain ⟨hst, hpe, htm, hps, has, hbd⟩ := hrc
  simp only at hst hpe htm hps has hbd
  subst hst; subst hpe; subst htm; subst hps; subst has; subst hbd
  intro n it ρ1 bx1 w1 us hi h hl hJ hul hus
  obtain ⟨hil, hcr⟩ := hr n it bx1 hi hJ
  have hlw := (h.hold l _ hl).1
  have hll : l < w1.heap.size := (Array.getElem?_eq_some_iff.1 hlw).1
  refine ⟨fn, _, as, bd, run_yield hlw (by rw [hul, hil]), fun m => roundIn_of_wpIn trivial ?_⟩
  -- the round's frame
  have hlen : (pr.zip us).toList = pr.toList.zip us.toList := by simp
  obtain ⟨hsz, hreps⟩ := bindPs_rep (w := w1) (ρ := ρ1) (S := Stab X ρ1 bx1 w1) pr.toList it us.toList σ a.tmps (by simpa using hul) (by simpa using hil) (fun t ht => by rw [h.size]; exact hok.1 t ht) (fun i x v hx hv => .pure (hus i x v hx (by simpa using hv))) h.tmps
  have e1 : (pr.zip us).foldl (fun tmps (x : Tmp × Value) => tmps.setIfInBounds x.1 x.2) a.tmps = (pr.toList.zip us.toList).foldl (fun tmps (x : Tmp × Value) => tmps.setIfInBounds x.1 x.2) a.tmps := by
    rw [← hlen, Array.foldl_toList]
  have hE : ∀ b, b = l → ∀ o, w1.heap[b]? = some o → Obj.isC o = false := by
    rintro b rfl o ho
    rw [hlw] at ho; injection ho with ho; subst ho; rfl
  have hc : Sim (X.sub ρ1 bx1 w1 (fun b => b = l) X.N 0 1) ρ1 (bindPs σ pr.toList it) bx1 { tmps := (pr.zip us).foldl (fun tmps (x : Tmp × Value) => tmps.setIfInBounds x.1 x.2) a.tmps, defers := [] } w1 :=
    h.sub h.nle hE (by rw [e1, hsz]; exact h.size) (.inl rfl) (Nat.zero_le _) (by rw [e1]; exact hreps)
  generalize hY : X.sub ρ1 bx1 w1 (fun b => b = l) X.N 0 1 = Y at hc
  have hYS : Y.S0 = X.S0 ∧ Y.n0 = X.n0 ∧ Y.w0 = w1 ∧ Y.r0 = ρ1 ∧ Y.N = X.N ∧ Y.lo = 0 ∧ (Y.E = fun b => b = l) ∧ Y.md = 1 := by rw [← hY]; exact ⟨rfl, rfl, rfl, rfl, rfl, rfl, rfl, rfl⟩
  obtain ⟨yS, yn, yw, yr, yN, ylo, yE, ymd⟩ := hYS
  -- code run in a sub-activation of Y
  have run : ∀ (c : Code), Sound P c → codeOk1 C.tab X.N c = true → ∀ (Qc : DX → Env → Bxs → Prop) (Qm : Exit → Act → World → Prop) (ρa : Rho) (σa : Env) (bxa : Bxs) (aa : Act) (wa : World) (rca : Loop), ρa.hold l = some (.loop rca) → Sim Y ρa σa bxa aa wa →
      cR P ⟨C.o, C.tab, C.base, C.nxt + ext, C.lo, C.yl, false, false⟩ c Qc σa bxa → (∀ e e' σ' bx' a' w' ρ', XR w' (Stab Y ρ' bx' w') ρ' e e' → Qc e σ' bx' → Sim Y ρ' σ' bx' a' w' → ρ'.hold l = some (.loop rca) → Qm e' a' w') → c.wpIn (Fw (some l)) m P Qm aa wa := by
    intro c hS hcok Qc Qm ρa σa bxa aa wa rca hhold hsim hcr hq
    have hsub := hsim.sub (E := fun _ => False) (N := X.N) (ml := Y.ml) (md := 1) (σ' := σa) (a' := aa) h.nle (fun b hb => hb.elim) (by rw [hsim.size, yN]) (.inl rfl) (Nat.le_trans hsim.mkb hsim.fr.size) hsim.tmps
    refine hS (some l) m ⟨C.o, C.tab, C.base, C.nxt + ext, C.lo, C.yl, false, false⟩ (Y.sub ρa bxa wa (fun _ => False) X.N Y.ml 1) Qc Qm ρa σa bxa aa wa ⟨hG, Nat.zero_le _, Nat.zero_le _, (fun i g k hk => ?_), (fun hf => by cases hf), fun hf => by have : (1 : Nat) = 3 := hf; omega⟩ (fun l' hl' => ?_) hcok hsub hcr fun e e' σ' bx' a' w' ρ' h0 h1 h2 => hq e e' σ' bx' a' w' ρ' h0 h1 ?_ (h2.holds0 l _ hhold id)
    · rw [show (Calc.mk C.o C.tab C.base (C.nxt + ext) C.lo C.yl false false).yl = C.yl from rfl, hyl] at hk; cases hk
    · injection hl' with hl'; subst hl'; exact ⟨rfl, rca, hhold, id⟩
    · have hb := hsim.back rfl rfl h2 (fun b hb => hb.elim) (fun b hb => hb.elim) (fun b hb => hb.elim) (hsim.y0 ylo _ _)
      exact hb.switch (by rw [h2.size, yN]; rfl) (.inl ymd) h2.tmps
  have setl : ∀ (ρa : Rho) (σa : Env) (bxa : Bxs) (aa : Act) (wa : World) (rca : Loop) (o' : Loop), ρa.hold l = some (.loop rca) → Sim Y ρa σa bxa aa wa → Sim Y ⟨ρa.at_, fun k => if k = l then some (.loop o') else ρa.hold k⟩ σa bxa aa (wa.putObj l (.loop o')) := fun ρa σa bxa aa wa rca o' hhold hsim =>
    hsim.setHold hhold (.inl (by rw [yE])) (.inr (by rw [yE])) (by simp) rfl (putObj_fr wa l _) (World.putObj_heap_same (Array.getElem?_eq_some_iff.1 (hsim.hold l _ hhold).1).1) (hsim.y0 ylo _ _)
  refine run as hA hok.2.1 _ _ ρ1 _ bx1 _ w1 _ hl hc hcr fun e e' σa bxa aa wa ρa hx hq hsa hla => ?_
  rcases hx.cases with ⟨rfl, rfl⟩ | ⟨rfl, rfl⟩ | ⟨_, rfl, rfl⟩ | ⟨_, rfl, rfl⟩ | ⟨_, _, rfl, rfl, _⟩
  rotate_left
  · exact hq.elim
  · exact hq.elim
  · exact hq.elim
  · exact hq.elim
  · skip
    refine ⟨_, run_beginRound (hsa.hold l _ hla).1 rfl, ?_⟩
    have hsb := setl ρa σa bxa aa wa _ ⟨.busy, none, fn, a.tmps, pr, as, bd, df⟩ hla hsa
    refine run bd hB hok.2.2 _ _ _ σa bxa aa _ ⟨.busy, none, fn, a.tmps, pr, as, bd, df⟩ (by simp) hsb hq fun e e' σc bxc ac wc ρc hx2 hq2 hsc hlc => ?_
    have fin : ∀ (jump : Option Code), (jump = none → J (n + 1) (cutB C.nxt bxc)) → (∀ j, jump = some j → JxOf C.nxt Qd σ j (cutB C.nxt bxc)) → ∃ v w', (Instr.endRound l jump).run P wc = .ok v w' ∧ ∃ ρ2 bx2 b, Ending.returned v = .returned (.bool b) ∧ (∀ s, C.nxt ≤ s → s < C.nxt + ext → bx2 s = bx1 s) ∧
        (∀ (X1 : Ctx) (σ1 : Env) (a1 : Act), X1.S0 = X.S0 → X1.n0 = X.n0 → X1.E l → Sim X1 ρ1 σ1 bx1 a1 w1 → X1.Y (cutB X1.lo bx2) ρ2.hold → Sim X1 ρ2 σ1 bx2 a1 w') ∧ (∀ k o, k ≠ l → ρ1.hold k = some o → ρ2.hold k = some o) ∧
        ((b = true ∧ ρ2.hold l = some (.loop ⟨.ready, none, fn, a.tmps, pr, as, bd, df⟩) ∧ J (n + 1) (cutB C.nxt bx2)) ∨ (b = false ∧ ∃ jump, ρ2.hold l = some (.loop ⟨.done, some jump, fn, a.tmps, pr, as, bd, df⟩) ∧ JxOf C.nxt Qd σ jump (cutB C.nxt bx2))) := by
      intro jump hj1 hj2
      have hsd := setl ρc σc bxc ac wc _ ⟨if jump.isNone then .ready else .done, jump, fn, a.tmps, pr, as, bd, df⟩ hlc hsc
      refine ⟨_, _, run_endRound jump (hsc.hold l _ hlc).1, ⟨ρc.at_, fun k => if k = l then some (.loop ⟨if jump.isNone then .ready else .done, jump, fn, a.tmps, pr, as, bd, df⟩) else ρc.hold k⟩, bxc, jump.isNone, rfl, hq2.1, fun X1 σ1 a1 g1 g2 g3 g4 g5 => ?_, fun k o hk ho => ?_, ?_⟩
      · rw [← hY] at hsd
        exact g4.back g1 g2 hsd (fun b hb => by subst hb; exact .inl g3) (fun b hb => by subst hb; rw [hl]; simp) (fun b hb => by subst hb; exact .inr g3) g5
      · have := hsd.holds0 k o (by rw [yr]; exact ho) (by rw [yE]; exact hk)
        exact this
      · cases jump with
        | none =>
          exact .inl ⟨rfl, by simp, hj1 rfl⟩
        | some j => exact .inr ⟨rfl, j, by simp, hj2 j rfl⟩
    rcases hx2.cases with ⟨rfl, rfl⟩ | ⟨rfl, rfl⟩ | ⟨id, rfl, rfl⟩ | ⟨_, rfl, rfl⟩ | ⟨_, _, rfl, rfl, _⟩
    · exact fin none (fun _ => hq2.2) (fun j hj => by cases hj)
    · exact fin (some .ret) (fun hj => by cases hj) (fun j hj => by injection hj with hj; subst hj; exact hq2.2)
    · exact fin (some (.exit id)) (fun hj => by cases hj) (fun j hj => by injection hj with hj; subst hj; exact hq2.2)
    · exact hq2.2.elim
    · exact hq2.2.elim

end Go.V
