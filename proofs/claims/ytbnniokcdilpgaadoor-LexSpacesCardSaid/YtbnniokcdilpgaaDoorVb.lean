/-
  The data level's rules of evaluation, one for each form of code and operation: laid for simp under go_sem. None is proved by rfl alone: else the kernel would compute what simp has computed.
-/
import Derived.Test.YtbnniokcdilpgaaDoorVa
namespace Go.V
open Go.RowKit

theorem ite_and2 {α : Type} (p q : Prop) [Decidable p] [Decidable q] (x y : α) : (if p ∧ q then x else y) = if p then (if q then x else y) else y := by
  by_cases hp : p <;> by_cases hq : q <;> simp [hp, hq]

variable {P : Program} {C : Calc} {Q : DX → Env → Bxs → Prop} {σ : Env} {bx : Bxs}

set_option linter.unusedSimpArgs false
attribute [go_sem] Nat.le_add_right Bool.false_eq_true eq_self decide_true decide_false Nat.zero_le Nat.le_refl upd_same List.take_succ_cons List.take_zero List.drop_succ_cons List.drop_zero List.getElem?_cons_zero List.getElem?_cons_succ List.length_cons List.length_nil Option.map_some Option.map_none Option.bind_some List.length_map List.getElem?_map Int.toNat_natCast List.map_cons List.map_nil List.cons_append List.nil_append List.append_nil Nat.zero_add Nat.add_zero List.set_cons_zero List.set_cons_succ Bool.not_not Bool.not_true Bool.not_false Int.natCast_zero

@[go_sem] theorem upd_ap {α : Type} (σ : Nat → α) (t : Nat) (v : α) (x : Nat) : upd σ t v x = if x = t then v else σ x := Eq.trans rfl rfl

@[go_sem] theorem bindD_some {α : Type} (v : α) (f : α → Prop) : bindD (some v) f = f v := Eq.trans rfl rfl
@[go_sem] theorem bindD_none {α : Type} (f : α → Prop) : bindD none f = False := Eq.trans rfl rfl

@[go_sem] theorem condD_true (x y : Prop) : condD true x y = x := by simp [condD]
@[go_sem] theorem condD_false (x y : Prop) : condD false x y = y := by simp [condD]
@[go_sem] theorem condD_not (b : Bool) (x y : Prop) : condD (!b) x y = condD b y x := by cases b <;> simp [condD]
theorem condD_split {b : Bool} {x y : Prop} (h1 : b = true → x) (h2 : b = false → y) : condD b x y := by
  cases b
  · exact h2 rfl
  · exact h1 rfl


/-! Code -/
@[go_sem ↓] theorem cD_skip : cD P C .skip Q σ bx = Q .normal σ bx := Eq.trans rfl rfl
@[go_sem ↓] theorem cD_region_f (id : Nat) (l : List Oper) : cD P C (.region id l.toArray false) Q σ bx = opsD P C l l [] σ bx fun acc σ' bx' => regQ Q acc σ' bx' := by
  simp [cD, cR, opsD]
@[go_sem ↓] theorem cD_region_t (id : Nat) (l : List Oper) : cD P C (.region id l.toArray true) Q σ bx = opsD P C.det l l [] σ bx fun acc σ' bx' => chk (lookT C.tab id) acc ∧ Q .normal σ' bx' := by
  simp [cD, cR, opsD]
@[go_sem ↓] theorem cD_seq (a b : Code) : cD P C (.seq a b) Q σ bx = cD P C a (thenQ (fun σ bx => cD P C b Q σ bx) Q) σ bx := Eq.trans rfl rfl
@[go_sem] theorem condC_bool (t : Bool) (x y : Prop) : condC (.bool t) x y = condD t x y := Eq.trans rfl rfl
@[go_sem ↓] theorem cD_cond (c : Operand) (x y : Code) : cD P C (.cond c x y) Q σ bx = condC (ev σ c) (cD P C x Q σ bx) (cD P C y Q σ bx) := Eq.trans rfl rfl
@[go_sem ↓] theorem cD_block (id : Nat) (c : Code) : cD P C (.block id c) Q σ bx = cD P C c (blockQ id Q) σ bx := Eq.trans rfl rfl
@[go_sem ↓] theorem cD_scope (c : Code) : cD P C (.scope c) Q σ bx = cD P C c (scopeQ Q) σ bx := Eq.trans rfl rfl
@[go_sem ↓] theorem scopeQ_normal : scopeQ Q .normal σ bx = Q .normal σ bx := Eq.trans rfl rfl
@[go_sem ↓] theorem scopeQ_ret : scopeQ Q .ret σ bx = Q .ret σ bx := Eq.trans rfl rfl
@[go_sem ↓] theorem scopeQ_exit (id : Nat) : scopeQ Q (.exit id) σ bx = Q (.exit id) σ bx := Eq.trans rfl rfl
@[go_sem ↓] theorem cD_exit (id : Nat) : cD P C (.exit id) Q σ bx = Q (.exit id) σ bx := Eq.trans rfl rfl
@[go_sem ↓] theorem cD_ret : cD P C .ret Q σ bx = Q .ret σ bx := Eq.trans rfl rfl
@[go_sem ↓] theorem cD_label (l : Nat) : cD P C (.label l) Q σ bx = Q .normal σ bx := Eq.trans rfl rfl
theorem cD_loop {c : Code} (I : Env → Bxs → Prop) (μ : Env → Bxs → Nat) (h0 : I σ bx) (h : ∀ σ bx, I σ bx → cD P C c (thenQ (fun σ' bx' => I σ' bx' ∧ μ σ' bx' < μ σ bx) Q) σ bx) :
    cD P C (.loop c) Q σ bx := ⟨I, μ, h0, h⟩

@[go_sem ↓] theorem regQ_nil : regQ Q [] σ bx = Q .normal σ bx := Eq.trans rfl rfl
@[go_sem ↓] theorem regQ_n (acc : List Cl) : regQ Q (.n :: acc) σ bx = Q .normal σ bx := Eq.trans rfl rfl
@[go_sem ↓] theorem regQ_r (t : Nat) (acc : List Cl) : regQ Q (.r t :: acc) σ bx = Q .normal σ bx := Eq.trans rfl rfl
@[go_sem ↓] theorem regQ_w (t : Nat) (acc : List Cl) : regQ Q (.w t :: acc) σ bx = Q .normal σ bx := Eq.trans rfl rfl
@[go_sem ↓] theorem regQ_ra (acc : List Cl) : regQ Q (.ra :: acc) σ bx = Q .normal σ bx := Eq.trans rfl rfl
@[go_sem ↓] theorem regQ_wa (acc : List Cl) : regQ Q (.wa :: acc) σ bx = Q .normal σ bx := Eq.trans rfl rfl
@[go_sem ↓] theorem regQ_pan (d : D) (acc : List Cl) : regQ Q (.pan d :: acc) σ bx = Q (.pan d) σ bx := Eq.trans rfl rfl
@[go_sem ↓] theorem contC_n (x y : Prop) : contC .n x y = y := Eq.trans rfl rfl
@[go_sem ↓] theorem contC_r (t : Nat) (x y : Prop) : contC (.r t) x y = y := Eq.trans rfl rfl
@[go_sem ↓] theorem contC_w (t : Nat) (x y : Prop) : contC (.w t) x y = y := Eq.trans rfl rfl
@[go_sem ↓] theorem contC_ra (x y : Prop) : contC .ra x y = y := Eq.trans rfl rfl
@[go_sem ↓] theorem contC_wa (x y : Prop) : contC .wa x y = y := Eq.trans rfl rfl
@[go_sem ↓] theorem contC_pan (d : D) (x y : Prop) : contC (.pan d) x y = x := Eq.trans rfl rfl
@[go_sem] theorem contC_slotR_loc (t e i j : Nat) (x y : Prop) : contC (slotR (.loc t e i j)) x y = y := Eq.trans rfl rfl
@[go_sem ↓] theorem thenQ_pan (K : Env → Bxs → Prop) (d : D) : thenQ K Q (.pan d) σ bx = Q (.pan d) σ bx := Eq.trans rfl rfl
@[go_sem ↓] theorem blockQ_pan (id : Nat) (d : D) : blockQ id Q (.pan d) σ bx = Q (.pan d) σ bx := Eq.trans rfl rfl
@[go_sem ↓] theorem scopeQ_pan (d : D) : scopeQ Q (.pan d) σ bx = Q (.pan d) σ bx := Eq.trans rfl rfl
@[go_sem ↓] theorem thenQ_normal (K : Env → Bxs → Prop) : thenQ K Q .normal σ bx = K σ bx := Eq.trans rfl rfl
@[go_sem ↓] theorem thenQ_ret (K : Env → Bxs → Prop) : thenQ K Q .ret σ bx = Q .ret σ bx := Eq.trans rfl rfl
@[go_sem ↓] theorem thenQ_exit (K : Env → Bxs → Prop) (id : Nat) : thenQ K Q (.exit id) σ bx = Q (.exit id) σ bx := Eq.trans rfl rfl
@[go_sem ↓] theorem blockQ_normal (id : Nat) : blockQ id Q .normal σ bx = Q .normal σ bx := Eq.trans rfl rfl
@[go_sem ↓] theorem blockQ_ret (id : Nat) : blockQ id Q .ret σ bx = Q .ret σ bx := Eq.trans rfl rfl
@[go_sem ↓] theorem blockQ_exit (id id' : Nat) : blockQ id Q (.exit id') σ bx = if id' = id then Q .normal σ bx else Q (.exit id') σ bx := Eq.trans rfl rfl

theorem condD_dec {p : Prop} [Decidable p] {x y : Prop} (h1 : p → x) (h2 : ¬ p → y) : condD (decide p) x y := by
  by_cases h : p
  · simp only [h, decide_true, condD_true]; exact h1 h
  · simp only [h, decide_false, condD_false]; exact h2 h
theorem condD_yes {p : Prop} [Decidable p] {x y : Prop} (h : p) (h1 : x) : condD (decide p) x y := condD_dec (fun _ => h1) (fun n => absurd h n)
theorem condD_no {p : Prop} [Decidable p] {x y : Prop} (h : ¬ p) (h1 : y) : condD (decide p) x y := condD_dec (fun n => absurd n h) (fun _ => h1)
attribute [go_sem] decide_true decide_false not_true_eq_false not_false_eq_true

@[go_sem] theorem ev_global (g : Nat) : ev σ (.global g) = evG g (glob g) := Eq.trans rfl rfl
@[go_sem] theorem evG_some (g : Nat) (d : D) : evG g (some d) = .cref d 0 := Eq.trans rfl rfl
@[go_sem] theorem evG_none (g : Nat) : evG g none = .raw (.pointer (some ⟨g, 0, none⟩)) := Eq.trans rfl rfl
@[go_sem] theorem argsF_nil (n : Nat) : argsF n [] = fun _ => .raw undef := Eq.trans rfl rfl
@[go_sem] theorem argsF_cons (n : Nat) (d : D) (ds : List D) : argsF n (d :: ds) = upd (argsF (n + 1) ds) n d := Eq.trans rfl rfl
theorem fn_intro {O : Orac} {tab : List (Nat × List (Nat × Nat))} {fn : Func} {ds : List D} {d : D} (c : Code) (rv : List ResultVar) (n : Nat) (hc : fn.body = some c) (hr : fn.results = rv.toArray) (hn : fn.ntmps = n) (hok : codeOk tab n c = true)
    (h : cD P ⟨O, tab, 0, n, 0, none, false, false⟩ c (retQ P rv d) (argsF 0 ds) (fun _ => .none)) : fnD P O tab fn ds d := by
  subst hn
  refine ⟨c, hc, hok, ?_⟩
  rw [hr]
  simpa using h
theorem fnB_intro {O : Orac} {tab : List (Nat × List (Nat × Nat))} {fn : Func} {base : Nat} {ds : List D} {bx : Bxs} {Post Pan : D → Bxs → Prop} (c : Code) (rv : List ResultVar) (n : Nat) (hc : fn.body = some c) (hr : fn.results = rv.toArray) (hn : fn.ntmps = n) (hok : codeOk tab n c = true)
    (h : cD P ⟨O, tab, base, base + n, 0, none, true, false⟩ c (retB P rv Post Pan) (argsF 0 ds) bx) : fnB P O tab fn base ds bx Post Pan := by
  subst hn
  refine ⟨c, hc, hok, ?_⟩
  rw [hr]
  simpa using h
theorem fnI_intro {O : Orac} {tab : List (Nat × List (Nat × Nat))} {fn : Func} {caps : List D} {items : List (List D)} (c : Code) (n : Nat) (hc : fn.body = some c) (hr : fn.results = #[]) (hn : fn.ntmps = n) (hok : codeOk tab n c = true)
    (h : ∀ (gs l : Nat) (bx : Bxs), (bx gs).k = 0 → (bx gs).sz = 0 → cD P ⟨O, tab, gs + 1, gs + 1 + n, gs + 1, some (items, gs, l), false, false⟩ c (retI gs items.length) (argsF 0 (.fn (.yield l) [] :: caps)) bx) : fnI P O tab fn caps items := by
  subst hn
  refine ⟨c, hc, hok, by rw [hr], h⟩
@[go_sem ↓] theorem retB_pan (rv : List ResultVar) (Post Pan : D → Bxs → Prop) (d : D) : retB P rv Post Pan (.pan d) σ bx = Pan d bx := Eq.trans rfl rfl
@[go_sem ↓] theorem retB_ret (rv : List ResultVar) (Post Pan : D → Bxs → Prop) : retB P rv Post Pan .ret σ bx = bindD (resL P σ bx rv) fun rs => Post (tupD rs) bx := Eq.trans rfl rfl
@[go_sem ↓] theorem retB_normal (rv : List ResultVar) (Post Pan : D → Bxs → Prop) : retB P rv Post Pan .normal σ bx = bindD (resL P σ bx rv) fun rs => Post (tupD rs) bx := Eq.trans rfl rfl
@[go_sem ↓] theorem retI_ret (gs n : Nat) : retI gs n .ret σ bx = (n ≤ (bx gs).sz) := Eq.trans rfl rfl
@[go_sem ↓] theorem retI_normal (gs n : Nat) : retI gs n .normal σ bx = (n ≤ (bx gs).sz) := Eq.trans rfl rfl
@[go_sem] theorem callV_func (f : Nat) (caps ds : List D) (K : Cl → D → Bxs → Prop) : callV C (.fn (.func f) caps) ds bx K = callD C f (ds ++ caps) bx K := Eq.trans rfl rfl
@[go_sem] theorem callV_yield (l : Nat) (ds : List D) (K : Cl → D → Bxs → Prop) : callV C (.fn (.yield l) []) ds bx K = yieldD C l ds bx K := Eq.trans rfl rfl
@[go_sem] theorem bindPs_nil : bindPs σ [] [] = σ := Eq.trans rfl rfl
@[go_sem] theorem bindPs_cons (t : Nat) (ts : List Nat) (d : D) (ds : List D) : bindPs σ (t :: ts) (d :: ds) = bindPs (upd σ t d) ts ds := Eq.trans rfl rfl
@[go_sem] theorem cutB_at (n s : Nat) : cutB n bx s = if s < n then bx s else .none := Eq.trans rfl rfl
@[go_sem] theorem mixB_at (lo hi s : Nat) (bx1 : Bxs) : mixB lo hi bx bx1 s = if lo ≤ s then (if s < hi then bx s else bx1 s) else bx1 s := by
  unfold mixB; by_cases h1 : lo ≤ s <;> by_cases h2 : s < hi <;> simp [h1, h2]
/-- One more is yielded. -/
theorem yield_step {items : List (List D)} {gs l : Nat} {ds : List D} {K : Cl → D → Bxs → Prop} (hy : C.yl = some (items, gs, l)) (hp : D.pureL ds = true) (hi : items[(bx gs).sz]? = some ds)
    (hk : ∀ bx1 : Bxs, K .wa (.bool true) (upd (mixB C.lo C.nxt bx bx1) gs { bx gs with sz := (bx gs).sz + 1 }) ∧ K .wa (.bool false) (upd (mixB C.lo C.nxt bx bx1) gs { bx gs with sz := items.length + 1 })) : yieldD C l ds bx K := by
  unfold yieldD
  rw [hy]
  exact ⟨⟨rfl, hp, hi⟩, hk⟩
/-- A range over a function. -/
theorem cD_range {pn df : Bool} {o : Orac} {tab : List (Nat × List (Nat × Nat))} {base nxt : Nat} {g : Operand} {ps : List Tmp} {assign body : Code} (f : FuncId) (caps : List D) (items : List (List D)) (ext : Nat) (J : Nat → Bxs → Prop) (hg : ev σ g = .fn (.func f) caps) (hp : D.pureL caps = true) (hit : o.it f caps items ext)
    (h0 : J 0 (cutB nxt bx)) (hr : ∀ n it bx1, items[n]? = some it → J n (cutB nxt bx1) → it.length = ps.length ∧
      cD P ⟨o, tab, base, nxt + ext, 0, none, false, false⟩ assign (thenQ (fun σ' bx' => cD P ⟨o, tab, base, nxt + ext, 0, none, false, false⟩ body (roundQ nxt ext J n Q σ bx1) σ' bx') noQ) (bindPs σ ps it) bx1)
    (hq : ∀ bx1, J items.length (cutB nxt bx1) → Q .normal σ bx1) : cD P ⟨o, tab, base, nxt, 0, none, pn, df⟩ (.rangeFunc g ps.toArray assign body) Q σ bx :=
  ⟨rfl, rfl, f, caps, items, ext, hg, hp, hit, J, h0, fun n it bx1 h1 h2 => by have := hr n it bx1 h1 h2; exact ⟨by simpa using this.1, by simpa only [cD] using this.2⟩, hq⟩
/-- The end of a round. -/
@[go_sem ↓] theorem roundQ_normal (nxt ext n : Nat) (J : Nat → Bxs → Prop) (σ' : Env) (bx1 : Bxs) : roundQ nxt ext J n Q σ bx1 .normal σ' bx = ((∀ s, nxt ≤ s → s < nxt + ext → bx s = bx1 s) ∧ J (n + 1) (cutB nxt bx)) := Eq.trans rfl rfl
@[go_sem ↓] theorem roundQ_ret (nxt ext n : Nat) (J : Nat → Bxs → Prop) (σ' : Env) (bx1 : Bxs) : roundQ nxt ext J n Q σ bx1 .ret σ' bx = ((∀ s, nxt ≤ s → s < nxt + ext → bx s = bx1 s) ∧ ∀ bx2, cutB nxt bx2 = cutB nxt bx → Q .ret σ bx2) := Eq.trans rfl rfl
@[go_sem ↓] theorem roundQ_exit (nxt ext n id : Nat) (J : Nat → Bxs → Prop) (σ' : Env) (bx1 : Bxs) : roundQ nxt ext J n Q σ bx1 (.exit id) σ' bx = ((∀ s, nxt ≤ s → s < nxt + ext → bx s = bx1 s) ∧ ∀ bx2, cutB nxt bx2 = cutB nxt bx → Q (.exit id) σ bx2) := Eq.trans rfl rfl
/-- what holds of a slot below, from what holds of the slots below -/
theorem cut_at {n s : Nat} {bx bx2 : Bxs} (h : cutB n bx2 = cutB n bx) (hs : s < n) : bx2 s = bx s := by
  have := congrFun h s
  simpa [cutB, hs] using this
@[go_sem ↓] theorem retQ_ret (rv : List ResultVar) (d : D) : retQ P rv d .ret σ bx = bindD (resL P σ bx rv) fun rs => bindD (outD bx (tupD rs)) fun r => Weak r d := Eq.trans rfl rfl
@[go_sem ↓] theorem retQ_normal (rv : List ResultVar) (d : D) : retQ P rv d .normal σ bx = bindD (resL P σ bx rv) fun rs => bindD (outD bx (tupD rs)) fun r => Weak r d := Eq.trans rfl rfl
@[go_sem] theorem consO_some (x : D) (xs : List D) : consO (some x) (some xs) = some (x :: xs) := Eq.trans rfl rfl
@[go_sem] theorem resL_nil : resL P σ bx [] = some [] := Eq.trans rfl rfl
@[go_sem] theorem resL_cons (r : ResultVar) (rs : List ResultVar) : resL P σ bx (r :: rs) = consO (resD P σ bx r) (resL P σ bx rs) := Eq.trans rfl rfl
@[go_sem] theorem resD_tmp (t : Nat) : resD P σ bx (.tmp t) = some (σ t) := Eq.trans rfl rfl
@[go_sem] theorem resD_cell (t T : Nat) : resD P σ bx (.cell t T) = loadD (tiOf P T) bx (σ t) := Eq.trans rfl rfl
@[go_sem] theorem tupD_one (d : D) : tupD [d] = d := Eq.trans rfl rfl
@[go_sem] theorem tupD_two (d e : D) (ds : List D) : tupD (d :: e :: ds) = .tup (d :: e :: ds) := Eq.trans rfl rfl
@[go_sem] theorem tupD_nil : tupD [] = .tup [] := Eq.trans rfl rfl
@[go_sem] theorem outL_nil : outL bx [] = some [] := by simp [outL]
@[go_sem] theorem outL_cons (d : D) (ds : List D) : outL bx (d :: ds) = consO (outD bx d) (outL bx ds) := by simp only [outL]
@[go_sem] theorem outD_int (k : IntKind) (n : Int) : outD bx (.int k n) = some (.int k n) := by simp [outD]
@[go_sem] theorem outD_bool (b : Bool) : outD bx (.bool b) = some (.bool b) := by simp [outD]
@[go_sem] theorem outD_str (b : List UInt8) : outD bx (.str b) = some (.str b) := by simp [outD]
@[go_sem] theorem outD_raw (b : Value) : outD bx (.raw b) = some (.raw b) := by simp [outD]
@[go_sem] theorem outD_nilsl : outD bx .nilsl = some .nilsl := by simp [outD]
@[go_sem] theorem outD_sl (sz : Nat) (es : List D) : outD bx (.sl sz es) = some (.sl sz es) := by simp [outD]
@[go_sem] theorem outD_cref (d : D) (j : Nat) : outD bx (.cref d j) = some (.cref d j) := by simp [outD]
@[go_sem] theorem outD_agg (ds : List D) : outD bx (.agg ds) = (outL bx ds).map .agg := by simp only [outD]
@[go_sem] theorem outD_tup (ds : List D) : outD bx (.tup ds) = (outL bx ds).map .tup := by simp only [outD]
@[go_sem] theorem outD_fn (f : Fn) (ds : List D) : outD bx (.fn f ds) = (outL bx ds).map (.fn f) := by simp only [outD]
def outP (b : Bx) (e i j : Nat) : Option D := if b.ep = e ∧ b.k ≠ 0 then match b.es[i]? with
      | some d => if d.pure then some (.cref d j) else some (.cref d.veil j)
      | none => none
    else none
@[go_sem] theorem outD_loc (t e i j : Nat) : outD bx (.loc t e i j) = outP (bx t) e i j := by
  simp only [outD, outP]
  split
  · cases (bx t).es[i]? <;> rfl
  · rfl
def outP1 (x : Option D) (j : Nat) : Option D := match x with
  | some d => if d.pure then some (.cref d j) else some (.cref d.veil j)
  | none => none
@[go_sem] theorem outP_live (e sz ty i j : Nat) (es : List D) : outP ⟨e, 1, sz, ty, es⟩ e i j = outP1 es[i]? j := by
  unfold outP outP1
  cases es[i]? <;> simp
@[go_sem] theorem outP_frz (e sz ty i j : Nat) (es : List D) : outP ⟨e, 2, sz, ty, es⟩ e i j = outP1 es[i]? j := by
  unfold outP outP1
  cases es[i]? <;> simp
@[go_sem] theorem outP1_some (d : D) (j : Nat) : outP1 (some d) j = if d.pure then some (.cref d j) else some (.cref d.veil j) := Eq.trans rfl rfl
@[go_sem] theorem veil_agg (ds : List D) : (D.agg ds).veil = .agg (ds.map D.veilC) := Eq.trans rfl rfl
@[go_sem] theorem veilC_eq (c : D) : D.veilC c = if c.pure then c else .undef := Eq.trans rfl rfl
@[go_sem] theorem veil_osl (t e sz o n : Nat) : (D.osl t e sz o n).veil = .undef := Eq.trans rfl rfl
@[go_sem] theorem veil_loc (t e i j : Nat) : (D.loc t e i j).veil = .undef := Eq.trans rfl rfl
@[go_sem] theorem none_ep : Bx.none.ep = 0 := Eq.trans rfl rfl
@[go_sem] theorem none_k : Bx.none.k = 0 := Eq.trans rfl rfl
def outB (b : Bx) (e sz o n : Nat) : Option D := if b.ep = e ∧ b.k ≠ 0 ∧ b.sz = sz ∧ o + n ≤ b.es.length then
      (if D.pureL ((b.es.drop o).take n) then some (.sl sz ((b.es.drop o).take n)) else none) else none
@[go_sem] theorem outD_osl (t e sz o n : Nat) : outD bx (.osl t e sz o n) = outB (bx t) e sz o n := by simp only [outD, outB]
theorem outB_all (e k sz ty n : Nat) (es : List D) (hk : k ≠ 0) (hn : n = es.length) (hp : D.pureL es = true) : outB ⟨e, k, sz, ty, es⟩ e sz 0 n = some (.sl sz es) := by
  simp [outB, hk, hn, hp]
@[go_sem] theorem pure_int (k : IntKind) (n : Int) : D.pure (.int k n) = true := by simp [D.pure]
@[go_sem] theorem pure_bool (b : Bool) : D.pure (.bool b) = true := by simp [D.pure]
@[go_sem] theorem pure_str (b : List UInt8) : D.pure (.str b) = true := by simp [D.pure]
@[go_sem] theorem pure_raw (b : Value) : D.pure (.raw b) = true := by simp [D.pure]
@[go_sem] theorem pure_nilsl : D.pure .nilsl = true := by simp [D.pure]
@[go_sem] theorem pure_sl (sz : Nat) (es : List D) : D.pure (.sl sz es) = true := by simp [D.pure]
@[go_sem] theorem pure_cref (d : D) (j : Nat) : D.pure (.cref d j) = true := by simp [D.pure]
@[go_sem] theorem pure_agg (ds : List D) : D.pure (.agg ds) = D.pureL ds := by simp only [D.pure]
@[go_sem] theorem pure_fn (f : Fn) (ds : List D) : D.pure (.fn f ds) = D.pureL ds := by simp only [D.pure]
@[go_sem] theorem pureL_nil : D.pureL [] = true := by simp [D.pureL]
@[go_sem] theorem pureL_cons (d : D) (ds : List D) : D.pureL (d :: ds) = (d.pure && D.pureL ds) := by simp only [D.pureL]
theorem pureL_map {α : Type} (f : α → D) (l : List α) (h : ∀ x, (f x).pure = true) : D.pureL (l.map f) = true := by
  induction l with
  | nil => simp [D.pureL]
  | cons x l ih => simp [D.pureL, h, ih]

/-- ways that meet again: what holds behind the first piece -/
theorem seq_cut {a b : Code} (M : Env → Bxs → Prop) (h1 : cD P C a (thenQ M Q) σ bx) (hm : ∀ (c : Code) (Q Q' : DX → Env → Bxs → Prop) (σ : Env) (bx : Bxs), (∀ e σ bx, Q e σ bx → Q' e σ bx) → cD P C c Q σ bx → cD P C c Q' σ bx)
    (h2 : ∀ σ bx, M σ bx → cD P C b Q σ bx) : cD P C (.seq a b) Q σ bx := by
  refine hm a _ _ σ bx (fun e σ bx h => ?_) h1
  cases e <;> first | exact h2 _ _ h | exact h

/-! Operations: the frame -/
variable {full rest : List Oper} {acc : List Cl} {K : List Cl → Env → Bxs → Prop} {dst : Option Tmp} {ty : TypeId} {pos : String} {af : Array Edge} {g : Option (Nat × Bool)} {K1 : Cl → Env → Bxs → Prop}

@[go_sem ↓] theorem opsD_nil : opsD P C full [] acc σ bx K = K acc σ bx := Eq.trans rfl rfl
@[go_sem ↓] theorem opsD_none (op : Op) : opsD P C full (⟨dst, op, ty, pos, af, none⟩ :: rest) acc σ bx K =
    stepD P C ⟨dst, op, ty, pos, af, none⟩ σ bx fun c σ' bx' => contC c (K (c :: acc) σ' bx') (opsD P C full rest (c :: acc) σ' bx' K) := Eq.trans rfl rfl
@[go_sem] theorem gK_none (want : Bool) (x y : Prop) : gK none want x y = y := by simp [gK]
@[go_sem] theorem gK_true (b : Bool) (x y : Prop) : gK (some b) true x y = condD b x y := by cases b <;> simp [gK, condD]
@[go_sem] theorem gK_false (b : Bool) (x y : Prop) : gK (some b) false x y = condD b y x := by cases b <;> simp [gK, condD]
@[go_sem ↓] theorem opsD_some (op : Op) (j : Nat) (want : Bool) : opsD P C full (⟨dst, op, ty, pos, af, some (j, want)⟩ :: rest) acc σ bx K =
    bindD (guardO full[j]? σ) fun g => gK g want (stepD P C ⟨dst, op, ty, pos, af, some (j, want)⟩ σ bx fun c σ' bx' => contC c (K (c :: acc) σ' bx') (opsD P C full rest (c :: acc) σ' bx' K))
      (opsD P C full rest (.n :: acc) (put σ dst (.raw undef)) bx K) := Eq.trans rfl rfl
@[go_sem] theorem guardV_bool (b : Bool) : guardV (.bool b) = some (some b) := Eq.trans rfl rfl
@[go_sem] theorem guardV_undef : guardV (.raw undef) = some none := by simp [guardV, undef]
@[go_sem] theorem guardO_some (op : Op) (d : Nat) : guardO (some ⟨some d, op, ty, pos, af, g⟩) σ = guardV (σ d) := Eq.trans rfl rfl
@[go_sem] theorem slotR_loc (t e i j : Nat) : slotR (.loc t e i j) = .r t := Eq.trans rfl rfl
@[go_sem] theorem slotR_cref (d : D) (j : Nat) : slotR (.cref d j) = .n := Eq.trans rfl rfl
@[go_sem] theorem slotW_loc (t e i j : Nat) : slotW (.loc t e i j) = .w t := Eq.trans rfl rfl
section
variable (o : Orac) (tab : List (Nat × List (Nat × Nat))) (base nxt lo : Nat) (yl : Option (List (List D) × Nat × Nat)) (pn df : Bool)
@[go_sem] theorem calc_pn : (Calc.mk o tab base nxt lo yl pn df).pn = pn := Eq.trans rfl rfl
@[go_sem] theorem calc_df : (Calc.mk o tab base nxt lo yl pn df).df = df := Eq.trans rfl rfl
@[go_sem] theorem calc_o : (Calc.mk o tab base nxt lo yl pn df).o = o := Eq.trans rfl rfl
@[go_sem] theorem calc_tab : (Calc.mk o tab base nxt lo yl pn df).tab = tab := Eq.trans rfl rfl
@[go_sem] theorem calc_base : (Calc.mk o tab base nxt lo yl pn df).base = base := Eq.trans rfl rfl
@[go_sem] theorem calc_nxt : (Calc.mk o tab base nxt lo yl pn df).nxt = nxt := Eq.trans rfl rfl
@[go_sem] theorem calc_lo : (Calc.mk o tab base nxt lo yl pn df).lo = lo := Eq.trans rfl rfl
@[go_sem] theorem calc_det : (Calc.mk o tab base nxt lo yl pn df).det = ⟨⟨o.to, fun _ _ _ _ _ _ => False, fun _ _ _ _ => False⟩, tab, base, nxt, lo, none, false, false⟩ := Eq.trans rfl rfl
@[go_sem] theorem calc_yl : (Calc.mk o tab base nxt lo yl pn df).yl = yl := Eq.trans rfl rfl
end
@[go_sem] theorem orac_to (a : FuncId → List D → D → Prop) (b : FuncId → Nat → List D → Bxs → (D → Bxs → Prop) → (D → Bxs → Prop) → Prop) (c : FuncId → List D → List (List D) → Nat → Prop) : (Orac.mk a b c).to = a := Eq.trans rfl rfl
@[go_sem] theorem slot_ne1 (a c : Nat) : (a = a + 1 + c) = False := by simp; omega
@[go_sem] theorem slot_ne2 (a c : Nat) : (a + 1 + c = a) = False := by simp; omega
@[go_sem] theorem slot_le (a : Nat) : (a + 1 ≤ a) = False := by simp
@[go_sem] theorem slot_lt (a c n : Nat) : (a + 1 + c < a + 1 + n) = (c < n) := by simp
@[go_sem] theorem slotO_some (b d : Nat) : slotO b (some d) = some (b + d) := Eq.trans rfl rfl
@[go_sem] theorem slotO_none (b : Nat) : slotO b none = none := Eq.trans rfl rfl
@[go_sem] theorem lookT_nil (id : Nat) : lookT [] id = [] := Eq.trans rfl rfl
@[go_sem] theorem lookT_cons (k id : Nat) (ps : List (Nat × Nat)) (r : List (Nat × List (Nat × Nat))) : lookT ((k, ps) :: r) id = if k = id then ps else lookT r id := Eq.trans rfl rfl
@[go_sem] theorem chk_nil (acc : List Cl) : chk [] acc = True := Eq.trans rfl rfl
@[go_sem] theorem chk_cons (i j : Nat) (ps : List (Nat × Nat)) (acc : List Cl) : chk ((i, j) :: ps) acc = (apartO acc[i]? acc[j]? ∧ chk ps acc) := Eq.trans rfl rfl
@[go_sem] theorem apartO_some (a b : Cl) : apartO (some a) (some b) = apart a b := Eq.trans rfl rfl
@[go_sem] theorem apart_n1 (b : Cl) : apart .n b = True := Eq.trans (by cases b <;> rfl) rfl
@[go_sem] theorem apart_n2 (b : Cl) : apart b .n = True := Eq.trans (by cases b <;> rfl) rfl
@[go_sem] theorem apart_rr (s t : Nat) : apart (.r s) (.r t) = True := Eq.trans rfl rfl
@[go_sem] theorem apart_ar (t : Nat) : apart .ra (.r t) = True := Eq.trans rfl rfl
@[go_sem] theorem apart_raa (t : Nat) : apart (.r t) .ra = True := Eq.trans rfl rfl
@[go_sem] theorem apart_aa : apart .ra .ra = True := Eq.trans rfl rfl
@[go_sem] theorem apart_rw (s t : Nat) : apart (.r s) (.w t) = ¬ s = t := Eq.trans rfl rfl
@[go_sem] theorem apart_wr (s t : Nat) : apart (.w s) (.r t) = ¬ s = t := Eq.trans rfl rfl
@[go_sem] theorem apart_ww (s t : Nat) : apart (.w s) (.w t) = ¬ s = t := Eq.trans rfl rfl
attribute [go_sem] not_false_eq_true
@[go_sem ↓] theorem put_some (d : Nat) (v : D) : put σ (some d) v = upd σ d v := Eq.trans rfl rfl
@[go_sem ↓] theorem put_none (v : D) : put σ none v = σ := Eq.trans rfl rfl
@[go_sem ↓] theorem ev_tmp (t : Nat) : ev σ (.tmp t) = σ t := Eq.trans rfl rfl
@[go_sem ↓] theorem ev_const (v : Value) : ev σ (.const v) = ofV v := Eq.trans rfl rfl
@[go_sem ↓] theorem ev_func (f : Nat) : ev σ (.func f) = .fn (.func f) [] := Eq.trans rfl rfl
@[go_sem] theorem ofV_int (k : IntKind) (n : Int) : ofV (.int k n) = .int k n := Eq.trans rfl rfl
@[go_sem] theorem ofV_bool (b : Bool) : ofV (.bool b) = .bool b := Eq.trans rfl rfl
@[go_sem] theorem ofV_string (l : List UInt8) : ofV (.string ⟨l.toArray⟩) = .str l := Eq.trans rfl rfl
@[go_sem] theorem ofV_nil : ofV (.slice none 0 0) = .nilsl := Eq.trans rfl rfl

/-! Operations: each -/
@[go_sem ↓] theorem stepD_makeSlice (T d : Nat) (l c : Operand) : stepD P C ⟨some d, .makeSlice T l c, ty, pos, af, g⟩ σ bx K1 = bindD (mkslD (tiOf P) (tiOf P T) (ev σ l) (ev σ c)) fun r => K1 (.w (C.base + d)) (upd σ d (.osl (C.base + d) ((bx (C.base + d)).ep + 1) r.1 0 r.2.2.length)) (upd bx (C.base + d) ⟨(bx (C.base + d)).ep + 1, 1, r.1, r.2.1, r.2.2⟩) := Eq.trans rfl rfl
@[go_sem] theorem mkslD_eq (T : TypeId → TI) (el esz bytes size : Nat) (g ag : Bool) (z : List D) (k k' : IntKind) (n m : Int) (h1 : 0 < esz) (h2 : 0 < bytes) : mkslD T ⟨.slice el esz bytes g, size, ag, z⟩ (.int k n) (.int k' m) = if 0 ≤ n then (if n ≤ m then (if m * bytes ≤ 140737488355328 then (if (T el).size = esz then (zeroD (T el)).map fun z => (esz, el, List.replicate n.toNat z) else none) else none) else none) else none := by
  simp only [mkslD, h1, h2, true_and, ite_and2]
@[go_sem] theorem bytesD_nil : bytesD [] = some [] := Eq.trans rfl rfl
@[go_sem] theorem bytesD_cons (n : Int) (es : List D) : bytesD (.int .u8 n :: es) = (bytesD es).map (UInt8.ofNat n.toNat :: ·) := Eq.trans rfl rfl
@[go_sem] theorem convD_bytes (T : TypeId → TI) (e z0 b s s' : Nat) (g0 g g' : Bool) (z z' : List D) (es : List D) : convD T ⟨.slice e z0 b g0, s, g, z⟩ ⟨.str, s', g', z'⟩ (.sl 1 es) = if (T e).k.isU8 = true then (bytesD es).map .str else none := by
  simp [convD]
@[go_sem] theorem isU8_u8 : TK.isU8 (.int .u8) = true := Eq.trans rfl rfl
@[go_sem ↓] theorem stepD_alloc (T d : Nat) : stepD P C ⟨some d, .alloc T, ty, pos, af, g⟩ σ bx K1 = bindD (zeroD (tiOf P T)) fun z => bindD (some (tiOf P T).size) fun s =>
    K1 (.w (C.base + d)) (upd σ d (.loc (C.base + d) ((bx (C.base + d)).ep + 1) 0 0)) (upd bx (C.base + d) ⟨(bx (C.base + d)).ep + 1, 1, s, T, [z]⟩) := Eq.trans rfl rfl
@[go_sem ↓] theorem stepD_box (T d : Nat) (x : Operand) : stepD P C ⟨some d, .box T x, ty, pos, af, g⟩ σ bx K1 = bindD (boxD (tiOf P T) (ev σ x)) fun v => bindD (some (tiOf P T).size) fun s =>
    K1 (.w (C.base + d)) (upd σ d (.loc (C.base + d) ((bx (C.base + d)).ep + 1) 0 0)) (upd bx (C.base + d) ⟨(bx (C.base + d)).ep + 1, 1, s, T, [v]⟩) := Eq.trans rfl rfl
@[go_sem] theorem zeroD_eq (k : TK) (size : Nat) (ag : Bool) (z : List D) (h : 0 < size) : zeroD ⟨k, size, ag, z⟩ = if z.length = size then (if z.all D.one then (if ag then some (mkD ag z) else if size = 1 then some (mkD ag z) else none) else none) else none := by
  unfold zeroD
  cases h2 : z.all D.one <;> by_cases h1 : z.length = size <;> by_cases h3 : size = 1 <;> cases ag <;> simp_all
@[go_sem] theorem boxD_eq (k : TK) (size : Nat) (ag : Bool) (z : List D) (v : D) (h : 0 < size) : boxD ⟨k, size, ag, z⟩ v = if v.cells.length = size then (if v.cells.all D.one then some v else none) else none := by
  unfold boxD
  cases h2 : v.cells.all D.one <;> by_cases h1 : v.cells.length = size <;> simp_all
@[go_sem] theorem one_int (k : IntKind) (n : Int) : D.one (.int k n) = true := Eq.trans rfl rfl
@[go_sem] theorem one_bool (b : Bool) : D.one (.bool b) = true := Eq.trans rfl rfl
@[go_sem] theorem one_str (s : List UInt8) : D.one (.str s) = true := Eq.trans rfl rfl
@[go_sem] theorem one_nilsl : D.one .nilsl = true := Eq.trans rfl rfl
@[go_sem] theorem one_sl (sz : Nat) (es : List D) : D.one (.sl sz es) = true := Eq.trans rfl rfl
@[go_sem] theorem one_osl (t e sz o n : Nat) : D.one (.osl t e sz o n) = true := Eq.trans rfl rfl
@[go_sem] theorem one_loc (t e i j : Nat) : D.one (.loc t e i j) = true := Eq.trans rfl rfl
@[go_sem] theorem one_cref (d : D) (j : Nat) : D.one (.cref d j) = true := Eq.trans rfl rfl
@[go_sem] theorem one_fn (f : Fn) (ds : List D) : D.one (.fn f ds) = true := Eq.trans rfl rfl
@[go_sem] theorem one_ifc (t : TypeId) (d : D) : D.one (.ifc t d) = true := Eq.trans rfl rfl
@[go_sem] theorem one_rawp (x : Option Addr) : D.one (.raw (.pointer x)) = true := Eq.trans rfl rfl
@[go_sem] theorem one_rawf : D.one (.raw .nilFunc) = true := Eq.trans rfl rfl
@[go_sem] theorem one_rawi : D.one (.raw .nilIface) = true := Eq.trans rfl rfl
@[go_sem] theorem one_rawm (x : Option Nat) : D.one (.raw (.map x)) = true := Eq.trans rfl rfl
@[go_sem] theorem all_nil {α : Type} (p : α → Bool) : [].all p = true := Eq.trans rfl rfl
@[go_sem] theorem all_cons {α : Type} (p : α → Bool) (x : α) (l : List α) : (x :: l).all p = (p x && l.all p) := Eq.trans rfl rfl
attribute [go_sem] Bool.and_self Bool.and_true Bool.true_and Bool.and_false Bool.false_and true_and and_true
@[go_sem ↓] theorem stepD_store (T : Nat) (a x : Operand) : stepD P C ⟨dst, .store T a x, ty, pos, af, g⟩ σ bx K1 = bindD (storeD C.lo (tiOf P T) bx (ev σ a) (ev σ x)) fun bx' => bindD (some (slotW (ev σ a))) fun c => K1 c (put σ dst (.raw undef)) bx' := Eq.trans rfl rfl
@[go_sem ↓] theorem stepD_append (T T' : Nat) (x y : Operand) : stepD P C ⟨dst, .call { callee := .builtin .append, args := #[x, y], argTypes := #[T, T'] }, ty, pos, af, g⟩ σ bx K1 =
    bindD (appD C.lo (tiOf P) T T' (slotO C.base dst) bx (ev σ x) (ev σ y)) fun r => K1 .wa (put σ dst r.1) r.2 := Eq.trans rfl rfl
@[go_sem] theorem appD_same (lo : Nat) (T : TypeId → TI) (t : TypeId) (x y : D) : appD lo T t t dst bx x y = appK lo T (T t) dst bx x y := by
  simp only [appD, if_true]
@[go_sem] theorem appK_slice (lo : Nat) (T : TypeId → TI) (e esz b size : Nat) (ag ag' : Bool) (z : List D) (x y : D) : appK lo T ⟨.slice e esz b ag, size, ag', z⟩ dst bx x y = if esz = 0 then none else (elemsD bx esz y).bind fun ys => appendD lo T ⟨.slice e esz b ag, size, ag', z⟩ dst bx x ys := Eq.trans rfl rfl
@[go_sem ↓] theorem stepD_call (fo : Operand) (args : List Operand) (ats : Array TypeId) : stepD P C ⟨dst, .call { callee := .value fo, args := args.toArray, argTypes := ats }, ty, pos, af, g⟩ σ bx K1 =
    callV C (ev σ fo) (args.map (ev σ)) bx fun c d bx' => K1 c (put σ dst d) bx' := by
  simp only [stepD]

theorem call_pure {f : Nat} {ds : List D} {K2 : Cl → D → Bxs → Prop} {d : D} (h : C.o.to f ds d) (hp : D.pureL ds = true) (hk : K2 .n d bx) : callD C f ds bx K2 := .inl ⟨d, hp, h, hk⟩
theorem call_read {f : Nat} {ds ds' : List D} {K2 : Cl → D → Bxs → Prop} {d : D} (h : C.o.to f ds' d) (ho : outL bx ds = some ds') (hb : d.bare = true) (hk : K2 .ra d bx) : callD C f ds bx K2 := .inr (.inl ⟨ds', d, ho, h, hb, hk⟩)
theorem call_frz {f : Nat} {ds ds' : List D} {K2 : Cl → D → Bxs → Prop} {d : D} (h : C.o.to f ds' d) (ho : outL bx ds = some ds') (hlo : C.lo = 0) (hk : K2 .wa d (frzL bx ds)) : callD C f ds bx K2 := .inr (.inr (.inl ⟨ds', d, hlo, ho, h, hk⟩))
theorem call_boxes {f : Nat} {ds : List D} {K2 : Cl → D → Bxs → Prop} {Post : D → Bxs → Prop} (h : C.o.toB f C.nxt ds bx Post fun _ _ => False) (hlo : C.lo = 0) (hk : ∀ d bx', Post d bx' → K2 .wa d bx') : callD C f ds bx K2 := .inr (.inr (.inr ⟨Post, _, hlo, h, hk, fun _ _ h => h.elim⟩))
theorem call_pan {f : Nat} {ds : List D} {K2 : Cl → D → Bxs → Prop} {Post Pan : D → Bxs → Prop} (h : C.o.toB f C.nxt ds bx Post Pan) (hlo : C.lo = 0) (hk : ∀ d bx', Post d bx' → K2 .wa d bx') (hp : ∀ d bx', Pan d bx' → K2 (.pan d) .undef bx') : callD C f ds bx K2 := .inr (.inr (.inr ⟨Post, Pan, hlo, h, hk, hp⟩))

@[go_sem] theorem pickV_true (a b : D) : pickV (.bool true) a b = some a := by simp [pickV]
@[go_sem] theorem pickV_false (a b : D) : pickV (.bool false) a b = some b := by simp [pickV]
@[go_sem] theorem pickV_bb (t a b : Bool) : pickV (.bool t) (.bool a) (.bool b) = some (.bool (if t then a else b)) := by cases t <;> simp [pickV]

@[go_sem] theorem panV_ifc (t : TypeId) (v : D) (f : D → Prop) : panV (.ifc t v) f = f (.ifc t v) := Eq.trans rfl rfl
@[go_sem ↓] theorem stepD_panic (x : Operand) : stepD P C ⟨dst, .panic x, ty, pos, af, g⟩ σ bx K1 = (C.pn = true ∧ panV (ev σ x) fun d => K1 (.pan d) σ bx) := Eq.trans rfl rfl
@[go_sem ↓] theorem step_move (x : Operand) : stepD P C ⟨dst, .move x, ty, pos, af, g⟩ σ bx K1 = bindD (some (ev σ x)) fun v => K1 .n (put σ dst v) bx := Eq.trans rfl rfl
@[go_sem ↓] theorem step_assign (x : Operand) : stepD P C ⟨dst, .assign x, ty, pos, af, g⟩ σ bx K1 = bindD (some (ev σ x)) fun v => K1 .n (put σ dst v) bx := Eq.trans rfl rfl
@[go_sem ↓] theorem step_pick (x y z : Operand) : stepD P C ⟨dst, .pick x y z, ty, pos, af, g⟩ σ bx K1 = bindD (pickV (ev σ x) (ev σ y) (ev σ z)) fun v => K1 .n (put σ dst v) bx := Eq.trans rfl rfl
@[go_sem ↓] theorem step_binOp (op : BinOp) (t t' : Nat) (x y : Operand) : stepD P C ⟨dst, .binOp op t x y t', ty, pos, af, g⟩ σ bx K1 = bindD (binV (tiOf P t) op (ev σ x) (ev σ y) (isNil y)) fun v => K1 .n (put σ dst v) bx := Eq.trans rfl rfl
@[go_sem ↓] theorem isNil_tmp (t : Nat) : isNil (.tmp t) = false := Eq.trans rfl rfl
@[go_sem ↓] theorem isNil_int (k : IntKind) (n : Int) : isNil (.const (.int k n)) = false := Eq.trans rfl rfl
@[go_sem ↓] theorem isNil_bool (b : Bool) : isNil (.const (.bool b)) = false := Eq.trans rfl rfl
@[go_sem ↓] theorem isNil_str (s : ByteArray) : isNil (.const (.string s)) = false := Eq.trans rfl rfl
@[go_sem ↓] theorem isNil_nil : isNil (.const .nilIface) = true := Eq.trans rfl rfl
@[go_sem] theorem binV_false (ti : TI) (op : BinOp) (x y : D) : binV ti op x y false = binD ti op x y := Eq.trans rfl rfl
@[go_sem] theorem binV_eql (size : Nat) (ag : Bool) (z : List D) (x y : D) : binV ⟨.ifc, size, ag, z⟩ .eql x y true = (nilE x).map .bool := Eq.trans rfl rfl
@[go_sem] theorem binV_neq (size : Nat) (ag : Bool) (z : List D) (x y : D) : binV ⟨.ifc, size, ag, z⟩ .neq x y true = (nilE x).map fun b => .bool (!b) := Eq.trans rfl rfl
@[go_sem] theorem nilE_ifc (t : TypeId) (d : D) : nilE (.ifc t d) = some false := Eq.trans rfl rfl
@[go_sem] theorem nilE_nil : nilE (.raw .nilIface) = some true := Eq.trans rfl rfl
@[go_sem] theorem ofV_nilIface : ofV .nilIface = .raw .nilIface := Eq.trans rfl rfl
@[go_sem ↓] theorem step_makeInterface (t : Nat) (x : Operand) : stepD P C ⟨dst, .makeInterface t x, ty, pos, af, g⟩ σ bx K1 = bindD (mkIfc (tiOf P t) t (ev σ x)) fun v => K1 .n (put σ dst v) bx := Eq.trans rfl rfl
@[go_sem ↓] theorem step_typeAssert (t t' : Nat) (ok : Bool) (x : Operand) : stepD P C ⟨dst, .typeAssert x t' t ok, ty, pos, af, g⟩ σ bx K1 = bindD (tassD (tiOf P t) t ok (ev σ x)) fun v => K1 .n (put σ dst v) bx := Eq.trans rfl rfl
def TK.conc : TK → Bool
  | .none | .ifc => false
  | _ => true
@[go_sem] theorem conc_bool : TK.conc .bool = true := Eq.trans rfl rfl
@[go_sem] theorem conc_int (k : IntKind) : TK.conc (.int k) = true := Eq.trans rfl rfl
@[go_sem] theorem conc_str : TK.conc .str = true := Eq.trans rfl rfl
@[go_sem] theorem conc_slice (e z b : Nat) (ag : Bool) : TK.conc (.slice e z b ag) = true := Eq.trans rfl rfl
@[go_sem] theorem conc_struct (fs : List (Nat × Nat × Bool)) (eq : List Nat) : TK.conc (.struct fs eq) = true := Eq.trans rfl rfl
@[go_sem] theorem mkIfc_eq (k : TK) (size : Nat) (ag : Bool) (z : List D) (t : TypeId) (x : D) : mkIfc ⟨k, size, ag, z⟩ t x = if k.conc then some (.ifc t x) else none := by cases k <;> rfl
@[go_sem] theorem tassD_ifc (k : TK) (size : Nat) (ag : Bool) (z : List D) (t t' : TypeId) (ok : Bool) (v : D) : tassD ⟨k, size, ag, z⟩ t ok (.ifc t' v) = if k.conc then (if t' = t then some (if ok then .tup [v, .bool true] else v) else if ok && !z.isEmpty then some (.tup [.undef, .bool false]) else none) else none := by cases k <;> rfl
@[go_sem] theorem tassD_nil (k : TK) (size : Nat) (ag : Bool) (z : List D) (t : TypeId) (ok : Bool) : tassD ⟨k, size, ag, z⟩ t ok (.raw .nilIface) = if k.conc then (if ok && !z.isEmpty then some (.tup [.undef, .bool false]) else none) else none := by cases k <;> rfl
@[go_sem] theorem isEmpty_cons {α : Type} (x : α) (l : List α) : (x :: l).isEmpty = false := Eq.trans rfl rfl
@[go_sem ↓] theorem step_unOp (op : UnOp) (t : Nat) (x : Operand) : stepD P C ⟨dst, .unOp op t x, ty, pos, af, g⟩ σ bx K1 = bindD (unD op (ev σ x)) fun v => K1 .n (put σ dst v) bx := Eq.trans rfl rfl
@[go_sem ↓] theorem step_fieldAddr (t i : Nat) (x : Operand) : stepD P C ⟨dst, .fieldAddr t x i, ty, pos, af, g⟩ σ bx K1 = bindD (fieldAddrD (tiOf P t) (ev σ x) i) fun v => K1 .n (put σ dst v) bx := Eq.trans rfl rfl
@[go_sem ↓] theorem step_field (t i : Nat) (x : Operand) : stepD P C ⟨dst, .field t x i, ty, pos, af, g⟩ σ bx K1 = bindD (fieldD (tiOf P t) (ev σ x) i) fun v => K1 .n (put σ dst v) bx := Eq.trans rfl rfl
@[go_sem] theorem atInt_int (k : IntKind) (n : Int) (f : Int → Option D) : atInt (.int k n) f = f n := Eq.trans rfl rfl
@[go_sem ↓] theorem step_indexAddr (t : Nat) (x y : Operand) : stepD P C ⟨dst, .indexAddr t x y, ty, pos, af, g⟩ σ bx K1 = bindD (atInt (ev σ y) (indexAddrD (tiOf P t) (ev σ x))) fun v => K1 .n (put σ dst v) bx := Eq.trans rfl rfl
@[go_sem ↓] theorem step_index (t : Nat) (x y : Operand) : stepD P C ⟨dst, .index t x y, ty, pos, af, g⟩ σ bx K1 = bindD (atInt (ev σ y) (indexD (tiOf P t) (ev σ x))) fun v => K1 .n (put σ dst v) bx := Eq.trans rfl rfl
@[go_sem ↓] theorem step_load (t : Nat) (x : Operand) : stepD P C ⟨dst, .load t x, ty, pos, af, g⟩ σ bx K1 = bindD (loadD (tiOf P t) bx (ev σ x)) fun v => bindD (some (slotR (ev σ x))) fun c => K1 c (put σ dst v) bx := Eq.trans rfl rfl
@[go_sem] theorem atTup_tup (ds : List D) (i : Nat) : atTup (.tup ds) i = ds[i]? := Eq.trans rfl rfl
@[go_sem ↓] theorem step_extract (x : Operand) (i : Nat) : stepD P C ⟨dst, .extract x i, ty, pos, af, g⟩ σ bx K1 = bindD (atTup (ev σ x) i) fun v => K1 .n (put σ dst v) bx := Eq.trans rfl rfl
@[go_sem] theorem optV_some (a b : Option Int) (f : Option Int → Option Int → Option D) : optV (some a) (some b) f = f a b := Eq.trans rfl rfl
@[go_sem] theorem intO_int (k : IntKind) (n : Int) : intO (.int k n) = some (some n) := Eq.trans rfl rfl
@[go_sem] theorem optInt_none : optInt σ none = some none := Eq.trans rfl rfl
@[go_sem] theorem optInt_some (x : Operand) : optInt σ (some x) = intO (ev σ x) := Eq.trans rfl rfl
@[go_sem ↓] theorem step_slice (t : Nat) (x : Operand) (lo hi : Option Operand) : stepD P C ⟨dst, .slice t x lo hi none, ty, pos, af, g⟩ σ bx K1 = bindD (optV (optInt σ lo) (optInt σ hi) (sliceD (tiOf P t) (ev σ x))) fun v => K1 .n (put σ dst v) bx := Eq.trans rfl rfl
@[go_sem ↓] theorem step_build (t : Nat) (ps : List (Nat × Operand)) : stepD P C ⟨dst, .build t ps.toArray, ty, pos, af, g⟩ σ bx K1 = bindD (buildD (tiOf P t) (ps.map fun p => (p.1, ev σ p.2))) fun v => K1 .n (put σ dst v) bx := Eq.trans rfl rfl
@[go_sem ↓] theorem step_buildSlice (t n d : Nat) (ps : List (Nat × Operand)) : stepD P C ⟨some d, .buildSlice t n ps.toArray, ty, pos, af, g⟩ σ bx K1 = if litIn C.tab d = true then (bindD (litXD (tiOf P) (tiOf P t) n (ps.map fun p => (p.1, ev σ p.2))) fun r => K1 (.w (C.base + d)) (upd σ d (.osl (C.base + d) ((bx (C.base + d)).ep + 1) r.1 0 r.2.2.length)) (upd bx (C.base + d) ⟨(bx (C.base + d)).ep + 1, 1, r.1, r.2.1, r.2.2⟩)) else bindD (buildSliceD (tiOf P) (tiOf P t) n (ps.map fun p => (p.1, ev σ p.2))) fun v => K1 .n (put σ (some d) v) bx := Eq.trans rfl rfl
@[go_sem] theorem litIn_nil (d : Nat) : litIn [] d = false := Eq.trans rfl rfl
@[go_sem] theorem litIn_cons (k d : Nat) (l : List (Nat × Nat)) (r : List (Nat × List (Nat × Nat))) : litIn ((k, l) :: r) d = if k = 1000000 + d then true else litIn r d := Eq.trans rfl rfl
attribute [go_sem] Bool.false_eq_true
@[go_sem] theorem nilD_loc (t e i j : Nat) : nilD (.loc t e i j) = some (.loc t e i j) := Eq.trans rfl rfl
@[go_sem] theorem nilD_cref (d : D) (j : Nat) : nilD (.cref d j) = some (.cref d j) := Eq.trans rfl rfl
@[go_sem ↓] theorem step_nilCheck (x : Operand) : stepD P C ⟨dst, .nilCheck x, ty, pos, af, g⟩ σ bx K1 = bindD (nilD (ev σ x)) fun v => K1 .n (put σ dst v) bx := Eq.trans rfl rfl
@[go_sem ↓] theorem step_makeFunc (f : Fn) (caps : List Operand) : stepD P C ⟨dst, .makeFunc f #[] caps.toArray, ty, pos, af, g⟩ σ bx K1 = bindD (some (.fn f (caps.map (ev σ)))) fun v => K1 .n (put σ dst v) bx := Eq.trans rfl rfl
@[go_sem ↓] theorem step_convert (s d : Nat) (x : Operand) : stepD P C ⟨dst, .convert s d x, ty, pos, af, g⟩ σ bx K1 = bindD (convD (tiOf P) (tiOf P s) (tiOf P d) (ev σ x)) fun v => K1 .n (put σ dst v) bx := Eq.trans rfl rfl
@[go_sem ↓] theorem step_len (T : Nat) (x : Operand) : stepD P C ⟨dst, .call { callee := .builtin .len, args := #[x], argTypes := #[T] }, ty, pos, af, g⟩ σ bx K1 = bindD (biD .len [tiOf P T] [ev σ x]) fun v => K1 .n (put σ dst v) bx := Eq.trans rfl rfl
@[go_sem ↓] theorem step_min (ts : Array TypeId) (x : List Operand) : stepD P C ⟨dst, .call { callee := .builtin .min, args := x.toArray, argTypes := ts }, ty, pos, af, g⟩ σ bx K1 = bindD (minD (x.map (ev σ))) fun v => K1 .n (put σ dst v) bx := Eq.trans rfl rfl
@[go_sem ↓] theorem step_max (ts : Array TypeId) (x : List Operand) : stepD P C ⟨dst, .call { callee := .builtin .max, args := x.toArray, argTypes := ts }, ty, pos, af, g⟩ σ bx K1 = bindD (maxD (x.map (ev σ))) fun v => K1 .n (put σ dst v) bx := Eq.trans rfl rfl

/-! Values -/
variable {ti : TI}
@[go_sem] theorem binD_int (op : BinOp) (k : IntKind) (a b : Int) : binD ti op (.int k a) (.int k b) = intD op k a b := by simp [binD]
@[go_sem] theorem binD_str (op : BinOp) (a b : List UInt8) : binD ti op (.str a) (.str b) = strD op a b := by simp [binD]
@[go_sem] theorem intD_add (k : IntKind) (a b : Int) : intD .add k a b = some (.int k (k.wrap (a + b))) := Eq.trans rfl rfl
@[go_sem] theorem intD_sub (k : IntKind) (a b : Int) : intD .sub k a b = some (.int k (k.wrap (a - b))) := Eq.trans rfl rfl
@[go_sem] theorem intD_mul (k : IntKind) (a b : Int) : intD .mul k a b = some (.int k (k.wrap (a * b))) := Eq.trans rfl rfl
@[go_sem] theorem intD_quo (k : IntKind) (a b : Int) (h : b ≠ 0) : intD .quo k a b = some (.int k (k.wrap (a.tdiv b))) := by simp [intD, h]
@[go_sem] theorem intD_rem (k : IntKind) (a b : Int) (h : b ≠ 0) : intD .rem k a b = some (.int k (a.tmod b)) := by simp [intD, h]
@[go_sem] theorem intD_eql (k : IntKind) (a b : Int) : intD .eql k a b = some (.bool (decide (a = b))) := by simp [intD, cmpD]; rfl
@[go_sem] theorem intD_neq (k : IntKind) (a b : Int) : intD .neq k a b = some (.bool (!decide (a = b))) := by simp [intD, cmpD, bne]; rfl
@[go_sem] theorem intD_lss (k : IntKind) (a b : Int) : intD .lss k a b = some (.bool (decide (a < b))) := Eq.trans rfl rfl
@[go_sem] theorem intD_leq (k : IntKind) (a b : Int) : intD .leq k a b = some (.bool (decide (a ≤ b))) := Eq.trans rfl rfl
@[go_sem] theorem intD_gtr (k : IntKind) (a b : Int) : intD .gtr k a b = some (.bool (decide (b < a))) := Eq.trans rfl rfl
@[go_sem] theorem intD_geq (k : IntKind) (a b : Int) : intD .geq k a b = some (.bool (decide (b ≤ a))) := Eq.trans rfl rfl
@[go_sem] theorem strD_eql (a b : List UInt8) : strD .eql a b = some (.bool (decide (a = b))) := by by_cases h : a = b <;> simp [strD, h]
@[go_sem] theorem strD_neq (a b : List UInt8) : strD .neq a b = some (.bool (!decide (a = b))) := by by_cases h : a = b <;> simp [strD, h]
@[go_sem] theorem strD_add (a b : List UInt8) (h : a.length + b.length ≤ 9223372036854775807) : strD .add a b = some (.str (a ++ b)) := by simp [strD, h]
@[go_sem] theorem binD_agg_eql (a b : List D) : binD ti .eql (.agg a) (.agg b) = (eqD ti (.agg a) (.agg b)).map .bool := Eq.trans rfl rfl
@[go_sem] theorem binD_agg_neq (a b : List D) : binD ti .neq (.agg a) (.agg b) = (eqD ti (.agg a) (.agg b)).map fun x => .bool (!x) := Eq.trans rfl rfl
@[go_sem] theorem binD_bool_eql (size : Nat) (ag : Bool) (z : List D) (a b : Bool) : binD ⟨.bool, size, ag, z⟩ .eql (.bool a) (.bool b) = some (.bool (a == b)) := Eq.trans rfl rfl
@[go_sem] theorem binD_bool_neq (size : Nat) (ag : Bool) (z : List D) (a b : Bool) : binD ⟨.bool, size, ag, z⟩ .neq (.bool a) (.bool b) = some (.bool (!(a == b))) := Eq.trans rfl rfl
@[go_sem] theorem eqD_agg (fs : List (Nat × Nat × Bool)) (k : Nat) (ks : List Nat) (size : Nat) (ag : Bool) (z a b : List D) : eqD ⟨.struct fs (k :: ks), size, ag, z⟩ (.agg a) (.agg b) = if kindsOk (k :: ks) a then eqL a b else none := Eq.trans rfl rfl
@[go_sem] theorem kindsOk_nil : kindsOk [] [] = true := by simp [kindsOk]
@[go_sem] theorem kindsOk_1 (ks : List Nat) (b : Bool) (ds : List D) : kindsOk (1 :: ks) (.bool b :: ds) = kindsOk ks ds := by simp [kindsOk]
@[go_sem] theorem kindsOk_2 (ks : List Nat) (k : IntKind) (n : Int) (ds : List D) : kindsOk (2 :: ks) (.int k n :: ds) = kindsOk ks ds := by simp [kindsOk]
@[go_sem] theorem kindsOk_3 (ks : List Nat) (s : List UInt8) (ds : List D) : kindsOk (3 :: ks) (.str s :: ds) = kindsOk ks ds := by simp [kindsOk]
def andO (a : Bool) (x : Option Bool) : Option Bool := x.map fun b => a && b
@[go_sem] theorem andO_some (a b : Bool) : andO a (some b) = some (a && b) := Eq.trans rfl rfl
@[go_sem] theorem eqL_nil : eqL [] [] = some true := by simp [eqL]
@[go_sem] theorem eqL_int (k : IntKind) (m n : Int) (xs ys : List D) : eqL (.int k m :: xs) (.int k n :: ys) = andO (decide (m = n)) (eqL xs ys) := by
  simp only [eqL, eqC, if_true, andO]
  by_cases h : m = n
  · subst h; cases eqL xs ys <;> simp
  · have : (m == n) = false := by simp [h]
    simp only [this, h, decide_false]; cases eqL xs ys <;> simp
@[go_sem] theorem eqL_bool (m n : Bool) (xs ys : List D) : eqL (.bool m :: xs) (.bool n :: ys) = andO (decide (m = n)) (eqL xs ys) := by
  simp only [eqL, eqC, andO]
  by_cases h : m = n
  · subst h; cases eqL xs ys <;> simp
  · have : (m == n) = false := by simp [h]
    simp only [this, h, decide_false]; cases eqL xs ys <;> simp
@[go_sem] theorem eqL_str (m n : List UInt8) (xs ys : List D) : eqL (.str m :: xs) (.str n :: ys) = andO (decide (m = n)) (eqL xs ys) := by
  simp only [eqL, eqC, andO]
  by_cases h : m = n
  · subst h; cases eqL xs ys <;> simp
  · have : (m == n) = false := by simp [h]
    simp only [this, h, decide_false]; cases eqL xs ys <;> simp
@[go_sem] theorem unD_not (b : Bool) : unD .not (.bool b) = some (.bool (!b)) := Eq.trans rfl rfl
@[go_sem] theorem unD_neg (k : IntKind) (n : Int) : unD .neg (.int k n) = some (.int k (k.wrap (0 - n))) := Eq.trans rfl rfl
theorem wrap_i64 {n : Int} (h1 : -9223372036854775808 ≤ n) (h2 : n ≤ 9223372036854775807) : IntKind.i64.wrap n = n := IntWalk.i64_in n ⟨by omega, by omega⟩

@[go_sem] theorem shiftD_loc (t e i j o : Nat) : shiftD (.loc t e i j) o = some (.loc t e i (j + o)) := Eq.trans rfl rfl
@[go_sem] theorem shiftD_cref (d : D) (j o : Nat) : shiftD (.cref d j) o = some (.cref d (j + o)) := Eq.trans rfl rfl
def fldD (x : D) : Option (Nat × Nat × Bool) → Option D
  | some (off, sz, _) => if sz = 0 then none else shiftD x off
  | none => none
@[go_sem] theorem fldD_some (x : D) (off sz : Nat) (b : Bool) : fldD x (some (off, sz, b)) = if sz = 0 then none else shiftD x off := Eq.trans rfl rfl
@[go_sem] theorem fieldAddrD_struct (fs : List (Nat × Nat × Bool)) (eq : List Nat) (size : Nat) (ag : Bool) (z : List D) (x : D) (i : Nat) : fieldAddrD ⟨.struct fs eq, size, ag, z⟩ x i = fldD x fs[i]? := Eq.trans rfl rfl
def fldV (ds : List D) : Option (Nat × Nat × Bool) → Option D
  | some (off, sz, ag) => if sz = 0 then none else pickD (.agg ds) off ag sz
  | none => none
@[go_sem] theorem fldV_some (x : List D) (off sz : Nat) (b : Bool) : fldV x (some (off, sz, b)) = if sz = 0 then none else pickD (.agg x) off b sz := Eq.trans rfl rfl
@[go_sem] theorem fieldD_struct (fs : List (Nat × Nat × Bool)) (eq : List Nat) (size : Nat) (ag : Bool) (z : List D) (ds : List D) (i : Nat) : fieldD ⟨.struct fs eq, size, ag, z⟩ (.agg ds) i = fldV ds fs[i]? := Eq.trans rfl rfl
@[go_sem] theorem pickD_false (d : D) (j k : Nat) : pickD d j false k = d.cells[j]? := by simp [pickD]
@[go_sem] theorem pickD_true (d : D) (j k : Nat) : pickD d j true k = if j + k ≤ d.cells.length then some (.agg ((d.cells.drop j).take k)) else none := by simp [pickD]
@[go_sem] theorem cells_agg (ds : List D) : (D.agg ds).cells = ds := Eq.trans rfl rfl
@[go_sem] theorem cells_int (k : IntKind) (n : Int) : (D.int k n).cells = [.int k n] := Eq.trans rfl rfl
@[go_sem] theorem cells_bool (b : Bool) : (D.bool b).cells = [.bool b] := Eq.trans rfl rfl
@[go_sem] theorem cells_str (s : List UInt8) : (D.str s).cells = [.str s] := Eq.trans rfl rfl
@[go_sem] theorem cells_raw (x : Value) : (D.raw x).cells = [.raw x] := Eq.trans rfl rfl
@[go_sem] theorem cells_nilsl : D.nilsl.cells = [.nilsl] := Eq.trans rfl rfl
@[go_sem] theorem cells_sl (sz : Nat) (es : List D) : (D.sl sz es).cells = [.sl sz es] := Eq.trans rfl rfl
@[go_sem] theorem cells_osl (t e sz o n : Nat) : (D.osl t e sz o n).cells = [.osl t e sz o n] := Eq.trans rfl rfl
@[go_sem] theorem cells_loc (t e i j : Nat) : (D.loc t e i j).cells = [.loc t e i j] := Eq.trans rfl rfl
@[go_sem] theorem cells_cref (d : D) (j : Nat) : (D.cref d j).cells = [.cref d j] := Eq.trans rfl rfl
@[go_sem] theorem cells_fn (f : Fn) (ds : List D) : (D.fn f ds).cells = [.fn f ds] := Eq.trans rfl rfl
@[go_sem] theorem cells_ifc (t : TypeId) (d : D) : (D.ifc t d).cells = [.ifc t d] := Eq.trans rfl rfl
@[go_sem] theorem indexAddrD_sl (e esz b size : Nat) (ag ag' : Bool) (z : List D) (es : List D) (n : Int) (h : 0 ≤ n) (h2 : 0 < esz) : indexAddrD ⟨.slice e esz b ag, size, ag', z⟩ (.sl esz es) n = (es[n.toNat]?).map fun d => .cref d 0 := by
  simp [indexAddrD, h, h2]
@[go_sem] theorem indexAddrD_osl (e esz b size : Nat) (ag ag' : Bool) (z : List D) (t e' o len : Nat) (n : Int) (h : 0 ≤ n) (h' : n < len) (h2 : 0 < esz) : indexAddrD ⟨.slice e esz b ag, size, ag', z⟩ (.osl t e' esz o len) n = some (.loc t e' (o + n.toNat) 0) := by
  simp [indexAddrD, h, h', h2]
@[go_sem] theorem indexD_str (size : Nat) (ag : Bool) (z : List D) (s : List UInt8) (n : Int) (h : 0 ≤ n) : indexD ⟨.str, size, ag, z⟩ (.str s) n = (s[n.toNat]?).map fun b => .int .u8 (b.toNat : Int) := by simp [indexD, h]
@[go_sem] theorem loadD_cref (k : TK) (size : Nat) (ag : Bool) (z : List D) (d : D) (j : Nat) (h : 0 < size) : loadD ⟨k, size, ag, z⟩ bx (.cref d j) = pickD d j ag size := by simp [loadD, h]
def bxAt (b : Bx) (e i : Nat) (f : D → Option D) : Option D := if b.ep = e ∧ b.k ≠ 0 then (b.es[i]?).bind f else none
@[go_sem] theorem loadD_loc (k : TK) (size : Nat) (ag : Bool) (z : List D) (t e i j : Nat) (h : 0 < size) : loadD ⟨k, size, ag, z⟩ bx (.loc t e i j) = bxAt (bx t) e i fun d => pickD d j ag size := by
  simp [loadD, bxAt, h]
@[go_sem] theorem bxAt_same (e sz ty i : Nat) (es : List D) (f : D → Option D) : bxAt ⟨e, 1, sz, ty, es⟩ e i f = (es[i]?).bind f := by simp [bxAt]
@[go_sem] theorem bxAt_frz (e sz ty i : Nat) (es : List D) (f : D → Option D) : bxAt ⟨e, 2, sz, ty, es⟩ e i f = (es[i]?).bind f := by simp [bxAt]
@[go_sem] theorem storeD_loc (lo : Nat) (k : TK) (size : Nat) (ag : Bool) (z : List D) (t e i j : Nat) (v : D) (h : 0 < size) : storeD lo ⟨k, size, ag, z⟩ bx (.loc t e i j) v = if lo ≤ t then (if v.cells.length = size then (if v.cells.all D.one then bxSet bx t (bx t) e i j v.cells else none) else none) else none := by
  unfold storeD
  cases h2 : v.cells.all D.one <;> by_cases h1 : v.cells.length = size <;> by_cases h3 : lo ≤ t <;> simp_all
def bxSet1 (bx : Bxs) (t e sz ty i : Nat) (es : List D) (x : Option D) : Option Bxs := x.map fun d' => upd bx t ⟨e, 1, sz, ty, es.set i d'⟩
@[go_sem] theorem bxSet_same (t e sz ty i j : Nat) (es cs : List D) : bxSet bx t ⟨e, 1, sz, ty, es⟩ e i j cs = bxSet1 bx t e sz ty i es ((es[i]?).bind fun d0 => setD d0 j cs) := by
  simp only [bxSet, bxSet1]
  cases es[i]? <;> simp
@[go_sem] theorem bxSet1_some (t e sz ty i : Nat) (es : List D) (d' : D) : bxSet1 bx t e sz ty i es (some d') = some (upd bx t ⟨e, 1, sz, ty, es.set i d'⟩) := by simp [bxSet1]
@[go_sem] theorem setD_agg (ds cs : List D) (j : Nat) : setD (.agg ds) j cs = if j + cs.length ≤ ds.length then some (.agg (ds.take j ++ cs ++ ds.drop (j + cs.length))) else none := by
  simp [setD, D.cells]
@[go_sem] theorem setD_int (k : IntKind) (n : Int) (c : D) : setD (.int k n) 0 [c] = some c := by simp [setD, D.cells]
@[go_sem] theorem setD_bool (b : Bool) (c : D) : setD (.bool b) 0 [c] = some c := by simp [setD, D.cells]
@[go_sem] theorem setD_str (s : List UInt8) (c : D) : setD (.str s) 0 [c] = some c := by simp [setD, D.cells]
@[go_sem] theorem setD_raw (x : Value) (c : D) : setD (.raw x) 0 [c] = some c := by simp [setD, D.cells]
@[go_sem] theorem setD_nilsl (c : D) : setD .nilsl 0 [c] = some c := by simp [setD, D.cells]
@[go_sem] theorem setD_sl (sz : Nat) (es : List D) (c : D) : setD (.sl sz es) 0 [c] = some c := by simp [setD, D.cells]
@[go_sem] theorem setD_osl (t e sz o n : Nat) (c : D) : setD (.osl t e sz o n) 0 [c] = some c := by simp [setD, D.cells]
@[go_sem] theorem mkD_true (cs : List D) : mkD true cs = .agg cs := by simp [mkD]
@[go_sem] theorem mkD_false (c : D) (cs : List D) : mkD false (c :: cs) = c := by simp [mkD]
@[go_sem] theorem biD_len (ti : TI) (x : D) : biD .len [ti] [x] = (lenD ti.k x).map fun n : Nat => D.int .i64 (n : Int) := Eq.trans rfl rfl
@[go_sem] theorem lenD_str (s : List UInt8) : lenD .str (.str s) = some s.length := Eq.trans rfl rfl
@[go_sem] theorem lenD_sl (e z b : Nat) (ag : Bool) (sz : Nat) (es : List D) : lenD (.slice e z b ag) (.sl sz es) = some es.length := Eq.trans rfl rfl
@[go_sem] theorem lenD_nil (e z b : Nat) (ag : Bool) : lenD (.slice e z b ag) .nilsl = some 0 := Eq.trans rfl rfl
@[go_sem] theorem lenD_osl (e z b : Nat) (ag : Bool) (t e' sz o n : Nat) : lenD (.slice e z b ag) (.osl t e' sz o n) = some n := Eq.trans rfl rfl
@[go_sem] theorem lenD_arr (n z : Nat) (ag : Bool) (x : D) : lenD (.arr n z ag) x = some n := Eq.trans rfl rfl
@[go_sem] theorem minD_int (k : IntKind) (a b : Int) : minD [.int k a, .int k b] = some (.int k (min a b)) := by
  simp only [minD, if_true]
  congr 2
  split <;> omega
@[go_sem] theorem maxD_int (k : IntKind) (a b : Int) : maxD [.int k a, .int k b] = some (.int k (max a b)) := by
  simp only [maxD, if_true]
  congr 2
  split <;> omega
@[go_sem] theorem convD_int (T : TypeId → TI) (k k' : IntKind) (s s' : Nat) (g g' : Bool) (z z' : List D) (k0 : IntKind) (n : Int) : convD T ⟨.int k0, s, g, z⟩ ⟨.int k, s', g', z'⟩ (.int k' n) = some (.int k (k.wrap n)) := Eq.trans rfl rfl
@[go_sem] theorem convD_str (T : TypeId → TI) (s s' : Nat) (g g' : Bool) (z z' : List D) (x : List UInt8) : convD T ⟨.str, s, g, z⟩ ⟨.str, s', g', z'⟩ (.str x) = some (.str x) := Eq.trans rfl rfl
@[go_sem] theorem sliceD_sl (e esz b size : Nat) (ag ag' : Bool) (z : List D) (es : List D) (lo hi : Option Int) (hz : 0 < esz) : sliceD ⟨.slice e esz b ag, size, ag', z⟩ (.sl esz es) lo hi = (cutD es.length lo hi).map fun p => .sl esz ((es.drop p.1).take (p.2 - p.1)) := by simp [sliceD, hz]
@[go_sem] theorem sliceD_osl (e esz b size : Nat) (ag ag' : Bool) (z : List D) (t e' o n : Nat) (lo hi : Option Int) (hz : 0 < esz) : sliceD ⟨.slice e esz b ag, size, ag', z⟩ (.osl t e' esz o n) lo hi = (cutD n lo hi).map fun p => .osl t e' esz (o + p.1) (p.2 - p.1) := by simp [sliceD, hz]
@[go_sem] theorem sliceD_str (size : Nat) (ag : Bool) (z : List D) (s : List UInt8) (lo hi : Option Int) : sliceD ⟨.str, size, ag, z⟩ (.str s) lo hi = (cutD s.length lo hi).map fun p => .str ((s.drop p.1).take (p.2 - p.1)) := by simp [sliceD]
@[go_sem] theorem cutD_hi (len : Nat) (h : Int) (h0 : 0 ≤ h) (h1 : h ≤ len) : cutD len none (some h) = some (0, h.toNat) := by simp [cutD, h0, h1]
@[go_sem] theorem cutD_lo (len : Nat) (l : Int) (h0 : 0 ≤ l) (h1 : l ≤ len) : cutD len (some l) none = some (l.toNat, len) := by simp [cutD, h0, h1]
@[go_sem] theorem cutD_both (len : Nat) (l h : Int) (h0 : 0 ≤ l) (h1 : l ≤ h) (h2 : h ≤ len) : cutD len (some l) (some h) = some (l.toNat, h.toNat) := by simp [cutD, h0, h1, h2]
@[go_sem] theorem elemsD_nil (esz : Nat) : elemsD bx esz .nilsl = some [] := Eq.trans rfl rfl
@[go_sem] theorem elemsD_sl (esz : Nat) (es : List D) : elemsD bx esz (.sl esz es) = some es := by simp [elemsD]
@[go_sem] theorem buildD_eq (fs : List (Nat × Nat × Bool)) (eq : List Nat) (size : Nat) (ag : Bool) (z : List D) (ps : List (Nat × D)) (h : 0 < size) : buildD ⟨.struct fs eq, size, ag, z⟩ ps = if z.length = size then (if fs.all (fun f => decide (0 < f.2.1)) = true then (buildL fs z ps).map .agg else none) else none := by
  simp only [buildD, h, true_and, ite_and2]
@[go_sem] theorem buildD_arr (n esz : Nat) (eag : Bool) (size : Nat) (ag : Bool) (z : List D) (ps : List (Nat × D)) (h : 0 < size) (h2 : 0 < esz) : buildD ⟨.arr n esz eag, size, ag, z⟩ ps = if z.length = size then (buildL ((List.range n).map fun i => (i * esz, esz, eag)) z ps).map .agg else none := by
  simp only [buildD, h, h2, and_true]
def bldO (fs : List (Nat × Nat × Bool)) (cs : List D) (d : D) (ps : List (Nat × D)) : Option (Nat × Nat × Bool) → Option (List D)
  | some (off, sz, _) => if d.cells.length = sz then (if off + sz ≤ cs.length then (if d.cells.all D.one then buildL fs (cs.take off ++ d.cells ++ cs.drop (off + sz)) ps else none) else none) else none
  | none => none
@[go_sem] theorem buildL_nil (fs : List (Nat × Nat × Bool)) (cs : List D) : buildL fs cs [] = some cs := Eq.trans rfl rfl
@[go_sem] theorem buildL_cons (fs : List (Nat × Nat × Bool)) (cs : List D) (i : Nat) (d : D) (ps : List (Nat × D)) : buildL fs cs ((i, d) :: ps) = bldO fs cs d ps fs[i]? := by
  simp only [buildL, bldO]
  cases fs[i]? with
  | none => rfl
  | some x =>
    obtain ⟨off, sz, g⟩ := x
    simp only
    cases h2 : d.cells.all D.one <;> by_cases h1 : d.cells.length = sz <;> by_cases h3 : off + sz ≤ cs.length <;> simp_all
@[go_sem] theorem bldO_some (fs : List (Nat × Nat × Bool)) (cs : List D) (d : D) (ps : List (Nat × D)) (off sz : Nat) (g : Bool) : bldO fs cs d ps (some (off, sz, g)) = if d.cells.length = sz then (if off + sz ≤ cs.length then (if d.cells.all D.one then buildL fs (cs.take off ++ d.cells ++ cs.drop (off + sz)) ps else none) else none) else none := Eq.trans rfl rfl
@[go_sem] theorem buildSliceD_eq (T : TypeId → TI) (e esz b size : Nat) (ag ag' : Bool) (z : List D) (len : Nat) (ps : List (Nat × D)) (h3 : 0 < esz) (h4 : len * esz ≤ 65536) : buildSliceD T ⟨.slice e esz b ag, size, ag', z⟩ len ps = if ps.map (·.1) = List.range len then (if ps.all (fun p => p.2.cells.length == esz && p.2.cells.all D.one && p.2.pure) = true then (if (T e).zero.length = esz then some (.sl esz (ps.map (·.2))) else none) else none) else none := by
  simp only [buildSliceD, h3, h4, true_and, ite_and2]
@[go_sem] theorem litXD_eq (T : TypeId → TI) (e esz b size : Nat) (ag ag' : Bool) (z : List D) (len : Nat) (ps : List (Nat × D)) (h3 : 0 < esz) (h4 : len * esz ≤ 65536) : litXD T ⟨.slice e esz b ag, size, ag', z⟩ len ps = if ps.map (·.1) = List.range len then (if ps.all (fun p => p.2.cells.length == esz && p.2.cells.all D.one) = true then (if (T e).zero.length = esz then some (esz, e, ps.map (·.2)) else none) else none) else none := by
  simp only [litXD, h3, h4, true_and, ite_and2]
@[go_sem] theorem range_0 : List.range 0 = [] := Eq.trans rfl rfl
@[go_sem] theorem range_1 : List.range 1 = [0] := Eq.trans rfl rfl
@[go_sem] theorem range_2 : List.range 2 = [0, 1] := Eq.trans rfl rfl
@[go_sem] theorem range_3 : List.range 3 = [0, 1, 2] := Eq.trans rfl rfl
@[go_sem] theorem range_4 : List.range 4 = [0, 1, 2, 3] := Eq.trans rfl rfl
@[go_sem] theorem range_5 : List.range 5 = [0, 1, 2, 3, 4] := Eq.trans rfl rfl
attribute [go_sem] beq_self_eq_true
/-- x is a slice of the activation's own (or nil) that holds xs, its variable one of the slots ts -/
def OwnV (bx : Bxs) (ts : List Nat) (el esz : Nat) (x : D) (xs : List D) : Prop :=
  (x = .nilsl ∧ xs = []) ∨ ∃ t e, t ∈ ts ∧ x = .osl t e esz 0 xs.length ∧ bx t = ⟨e, 1, esz, el, xs⟩
theorem OwnV.nil (bx : Bxs) (ts : List Nat) (el esz : Nat) : OwnV bx ts el esz .nilsl [] := .inl ⟨rfl, rfl⟩
theorem OwnV.mk {bx : Bxs} {ts : List Nat} {el esz t e : Nat} {xs : List D} (ht : t ∈ ts) (h : bx t = ⟨e, 1, esz, el, xs⟩) : OwnV bx ts el esz (.osl t e esz 0 xs.length) xs := .inr ⟨t, e, ht, rfl, h⟩
theorem OwnV.of {bx bx' : Bxs} {ts : List Nat} {el esz : Nat} {x : D} {xs : List D} (h : OwnV bx ts el esz x xs) (hb : ∀ t, t ∈ ts → bx' t = bx t) : OwnV bx' ts el esz x xs := by
  rcases h with h | ⟨t, e, ht, hx, h⟩
  · exact .inl h
  · exact .inr ⟨t, e, ht, hx, by rw [hb t ht]; exact h⟩
theorem OwnV.len {bx : Bxs} {ts : List Nat} {el esz : Nat} {x : D} {xs : List D} (h : OwnV bx ts el esz x xs) (e b : Nat) (ag : Bool) : lenD (.slice e esz b ag) x = some xs.length := by
  rcases h with ⟨rfl, rfl⟩ | ⟨t, e', _, rfl, _⟩ <;> rfl
/-- append onto a slice of the activation's own -/
theorem append_own {lo : Nat} {T : TypeId → TI} {e esz b size d : Nat} {ag ag' : Bool} {z : List D} {x : D} {xs ys : List D} {ts : List Nat} {K2 : D × Bxs → Prop} (hx : OwnV bx ts e esz x xs) (hne : ys ≠ []) (hz : (T e).zero.length = esz)
    (h1 : (xs.length + ys.length) * b ≤ 140737488355328) (h2 : 0 < esz) (h3 : 0 < b) (hlo : ∀ t, t ∈ ts → lo ≤ t)
    (hk : ∀ (e' : Nat) (bx' : Bxs), bx' d = ⟨e', 1, esz, e, xs ++ ys⟩ → (∀ s, s ≠ d → s ∉ ts → bx' s = bx s) → K2 (.osl d e' esz 0 (xs ++ ys).length, bx')) :
    bindD (appendD lo T ⟨.slice e esz b ag, size, ag', z⟩ (some d) bx x ys) K2 := by
  rcases hx with ⟨rfl, rfl⟩ | ⟨t, e', ht, rfl, hb⟩
  · simp only [appendD, hne, if_false, hz, if_true, appX]
    rw [if_pos ⟨by simpa using h1, h2, h3⟩, bindD_some]
    have := hk ((bx d).ep + 1) (upd bx d ⟨(bx d).ep + 1, 1, esz, e, ys⟩) (by simp [upd]) (fun s hs _ => by simp [upd, hs])
    simpa using this
  · simp only [appendD, hne, if_false, hz, if_true, appX, appO, hb]
    rw [if_pos ⟨hlo t ht, trivial, trivial, trivial, trivial, trivial, trivial, Nat.le_refl _, h1, h2, h3⟩, bindD_some]
    have := hk ((bx d).ep + 1) (upd (upd bx t ⟨e', 0, esz, e, xs⟩) d ⟨(bx d).ep + 1, 1, esz, e, xs ++ ys⟩) (by simp [upd]) (fun s hs hst => by
      have : s ≠ t := by rintro rfl; exact hst ht
      simp [upd, hs, this])
    simpa using this
/-- and of nothing -/
theorem append_none {lo : Nat} {T : TypeId → TI} {e esz b size d : Nat} {ag ag' : Bool} {z : List D} {x : D} {xs : List D} {ts : List Nat} {K2 : D × Bxs → Prop} (hx : OwnV bx ts e esz x xs) (hk : K2 (x, bx)) :
    bindD (appendD lo T ⟨.slice e esz b ag, size, ag', z⟩ (some d) bx x []) K2 := by
  rcases hx with ⟨rfl, rfl⟩ | ⟨t, e', ht, rfl, hb⟩ <;> simpa [appendD, slO, bindD_some] using hk

end Go.V
