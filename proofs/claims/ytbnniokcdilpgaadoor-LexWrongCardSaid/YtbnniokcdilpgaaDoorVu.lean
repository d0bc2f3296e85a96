/-
  From a law's contract on data to its statement.
-/
import Derived.Test.YtbnniokcdilpgaaDoorVs
namespace Go.V
open Go.RowKit Go.WideShapes Go.ChangeShapes Go.ChangeAt

section
variable {H : Type} {enc : TypeId × Value → H} {P : Program} {w w' : World}

theorem trodAll_below {base : Nat} {sp : Nat → Bool} {held : Bool} (hb : Below w.heap.size w w') : ∀ {ts : List TypeId} {vs : List Value} {ds : List (DataW H)} {ps : List MemPlace}, DataW.TrodAll enc P w base sp held ts vs ds ps → DataW.TrodAll enc P w' base sp held ts vs ds ps
  | [], vs, ds, ps, h => by
    obtain ⟨rfl, rfl, rfl⟩ := trodAll_nil h
    rfl
  | t :: ts, vs, ds, ps, h => by
    obtain ⟨v, vs', d, ds', p, q, rfl, rfl, rfl, ⟨n, hn⟩, h2⟩ := trodAll_cons h
    exact trodAll_cons_mk ⟨n, DataW.trod_carry n _ _ _ hn (fun p hp => hb.same (DataW.trod_lt n _ _ _ hn p hp))⟩ (trodAll_below hb h2)

/-- The arguments, as data. -/
def AllHave : List Sh → List D → Prop
  | [], [] => True
  | s :: ss, d :: ds => s.has d ∧ AllHave ss ds
  | _, _ => False

theorem args_rep {b0 n : Nat} : ∀ {ts : List TypeId} {vs : List Value} {ds : List (DataW H)} {ps : List MemPlace} {ss : List Sh}, shsOf P n ts = some ss → (∀ (j : Nat) t v, ts[j]? = some t → vs[j]? = some v → Value.okWide P w .any b0 t v) →
    DataW.TrodAll enc P w 0 (fun _ => true) true ts vs ds ps → (∀ (j : Nat) t d, ts[j]? = some t → ds[j]? = some d → Light P t d) → ∃ xs, AllHave ss xs ∧ vs.length = xs.length ∧ ds.length = ts.length ∧ ∀ (i : Nat) x v, xs[i]? = some x → vs[i]? = some v → PRep w (fun b => b < w.heap.size) x v
  | [], vs, ds, ps, ss, hs, hok, h, _ => by
    obtain ⟨rfl, rfl, rfl⟩ := trodAll_nil h
    simp only [shsOf, Option.some.injEq] at hs
    subst hs
    exact ⟨[], trivial, rfl, rfl, fun i x v hx => by simp at hx⟩
  | t :: ts, vs, ds, ps, ss, hs, hok, h, hwt => by
    obtain ⟨v, vs', d, ds', p, q, rfl, rfl, rfl, h1, h2⟩ := trodAll_cons h
    simp only [shsOf] at hs
    split at hs
    · rename_i s ss' hs1 hs2
      injection hs with hs; subst hs
      obtain ⟨x, g1, g2⟩ := trod_val hs1 (hok 0 t v rfl rfl) h1 (hwt 0 t d rfl rfl)
      obtain ⟨xs, k1, k2, k3, k4⟩ := args_rep hs2 (fun j t v ht hv => hok (j + 1) t v (by simpa using ht) (by simpa using hv)) h2 (fun j t d ht hd => hwt (j + 1) t d (by simpa using ht) (by simpa using hd))
      refine ⟨x :: xs, ⟨g1, k1⟩, by simp [k2], by simp [k3], fun i y u hy hu => ?_⟩
      cases i with
      | zero => simp only [List.getElem?_cons_zero, Option.some.injEq] at hy hu; subst hy; subst hu; exact g2
      | succ i => exact k4 i y u (by simpa using hy) (by simpa using hu)
    · cases hs
end

/-- What is asked of a program so that arguments read again alike. -/
def Fine (P : Program) : Prop := laidOutB P = true ∧ mapsRowed P = true ∧ ∀ t e, t < P.types.size → P.underlying t = some (.slice e) → 0 < P.cellsOf e

theorem law_calls {H : Type} {enc : TypeId × Value → H} {P : Program} (hfine : Fine P) {f : FuncId} {fn : Func} {c : Code} {s : ChangeSpec} {apart fresh handsOn : Bool} {tb : TypeId} {n : Nat} {ss : List Sh} (hf : P.funcs[f]? = some fn) (hbody : fn.body = some c)
    (hname : (fn.name == "runtime.NumGoroutine") = false) (hts : ∀ t ∈ fn.params.toList, t < P.types.size) (hss : shsOf P n fn.params.toList = some ss) (hres : fn.resultTypes = #[tb]) (hbool : P.underlying tb = some .bool) (hvars : s.vars = [])
    (hfn : ∀ ds : List (DataW H), ds.length = fn.params.size → s.fn H ds = { results := [.lit (.bool true)], args := ds }) (hall : ∀ xs, AllHave ss xs → CallsTo P f xs (.bool true))
    (W : World) (hglo : PRep W (fun b => b < W.heap.size) .glo undef) (base : Nat) (args : Array Value) (ds gs : List (DataW H)) (before : List MemPlace)
    (hval : ∀ (j : Nat) t v, fn.params[j]? = some t → args[j]? = some v → Value.okWide P W .any base t v) (hW : DataW.Whole enc P fn.params.toList s.vars apart W args.toList ds gs before) (hwt : (DataW.weightsEach P (fn.params.toList ++ s.plain.varTypes P) (ds ++ gs)).all (· ≤ reachBytes) = true) :
    Calls P f args W fun e W' => ∃ v, e = .returned v ∧ s.post enc P fn apart fresh handsOn false W args v W' := by
  have hW' := hW
  obtain ⟨p, q, hA, hV, hp, _, _⟩ := hW
  rw [hvars] at hV
  obtain ⟨rfl, rfl⟩ := trodVars_none hV
  obtain ⟨xs, k1, k2, k3, k4⟩ := args_rep hss (fun j t v ht hv => hval j t v (by rw [← Array.getElem?_toList]; exact ht) (by rw [← Array.getElem?_toList]; exact hv)) hA (fun j t d ht hd k hk => by
    have h1 := List.all_eq_true.1 hwt k (weightsEach_mem (i := j) (t := t) (d := d) (by rw [List.getElem?_append_left (List.getElem?_eq_some_iff.1 ht).1]; exact ht) (by rw [List.append_nil]; exact hd) hk)
    simpa using h1)
  have key := hall xs k1 W (fun b => b < W.heap.size) args (fun b hb => hb) hglo (by simpa using k2) (fun i x v hx hv => k4 i x v hx (by rw [Array.getElem?_toList]; exact hv))
  have hrun := Go.MuLone.run_callFunc_enter hf hname hbody args W
  rcases key with ⟨_, key⟩ | ⟨v, w', h1, _⟩
  · refine Calls.mono key fun e W' ⟨v, he, hpost⟩ => ⟨v, he, ?_⟩
    obtain ⟨hrep, hb⟩ := hpost
    obtain rfl : v = .bool true := by cases hrep; rfl
    have hk : Kids P (· < P.types.size) := kids_rows hfine.1 hfine.2.1
    have hlen : ds.length = fn.params.size := by rw [k3]; simp
    have hargs : ∀ sp : Nat → Bool, (∀ p ∈ before, sp p.block = true) → DataW.TrodAll enc P W' 0 sp true fn.params.toList args.toList ds p := fun sp hsp => trodAll_below hb (hA.respare hk (fun t e => hfine.2.2 t e) hts (fun x hx => hsp x (by rw [hp]; simp [hx])))
    have hold : ∀ p ∈ before, (fun b => decide (b < W.heap.size)) p.block = true := fun p hp => by simpa using hW'.lt p hp
    refine ⟨ds, [], before, [], p, [], hW', ?_, ?_, ?_, World.keptBut_mono (fun x hx => ⟨hx, ?_⟩) (hb.frame (· ∈ before)), fun h => by cases h⟩
    · rw [List.append_nil, hfn ds hlen, hres]
      exact trodAll_mk1 (shut_bool hbool true)
    · rw [List.append_nil, hfn ds hlen]
      exact hargs _ hold
    · rw [List.append_nil, hfn ds hlen, hvars]
      rfl
    · rw [hp, List.append_nil] at hx
      exact .inr (.inl hx)
  · rw [hrun] at h1; cases h1

theorem fine_of {P : Program} (h1 : laidOutB P = true) (h2 : mapsRowed P = true) (h3 : ((List.range P.types.size).all fun t => match P.underlying t with | some (.slice e) => decide (0 < P.cellsOf e) | _ => true) = true) : Fine P := by
  refine ⟨h1, h2, fun t e ht hu => ?_⟩
  rw [List.all_eq_true] at h3
  have := h3 t (List.mem_range.2 ht)
  rw [hu] at this
  simpa using this
theorem params_lt {P : Program} {ts : List TypeId} (h : (ts.all fun t => decide (t < P.types.size)) = true) : ∀ t ∈ ts, t < P.types.size := by
  intro t ht
  rw [List.all_eq_true] at h
  simpa using h t ht

theorem list_of {α : Type} {es : List D} {f : α → D} (h : ∀ x ∈ es, ∃ a, x = f a) : ∃ l : List α, es = l.map f := by
  induction es with
  | nil => exact ⟨[], rfl⟩
  | cons x es ih =>
    obtain ⟨a, rfl⟩ := h x (by simp)
    obtain ⟨l, rfl⟩ := ih fun y hy => h y (by simp [hy])
    exact ⟨a :: l, rfl⟩
theorem has_int {d : D} (h : (Sh.int .i64).has d) : ∃ n, d = .int .i64 n := by
  obtain ⟨ys, rfl, h⟩ := h
  simp only [Sh.hasC] at h
  obtain ⟨n, rfl, _⟩ := h
  exact ⟨n, rfl⟩
theorem args_nil {xs : List D} (h : AllHave [] xs) : xs = [] := by
  cases xs with
  | nil => rfl
  | cons x xs => exact h.elim
theorem args_cons {s : Sh} {ss : List Sh} {xs : List D} (h : AllHave (s :: ss) xs) : ∃ a r, xs = a :: r ∧ s.has a ∧ AllHave ss r := by
  cases xs with
  | nil => exact h.elim
  | cons x xs => exact ⟨x, xs, rfl, h.1, h.2⟩

end Go.V
