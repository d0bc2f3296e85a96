/-
  How a value in memory represents a datum; how that is kept while the world grows.
-/
import Derived.Test.YtbnniokcdilpgaaDoorVb
namespace Go.V
open Go.RowKit

/-- Of an activation's own variable (slot, epoch): its block, how many elements have room in it, the cells of an element, the element's type. -/
structure Place where
  b : Nat
  cap : Nat
  sz : Nat
  ty : TypeId

/-- Where the variables lie; what lies in blocks that hold no cells. -/
structure Rho where
  at_ : Nat → Nat → Option Place
  hold : Nat → Option Obj

instance : CoeFun Rho (fun _ => Nat → Nat → Option Place) := ⟨Rho.at_⟩

def Obj.isC : Obj → Bool
  | .cells .. => true
  | _ => false

/-- A block of cells lies as it lay. -/
def SameC (w w' : World) (b : Nat) : Prop := ∀ o, w.heap[b]? = some o → Obj.isC o = true → w'.heap[b]? = some o

theorem SameC.of_eq {w w' : World} {b : Nat} (h : w'.heap[b]? = w.heap[b]?) : SameC w w' b := fun _ ho _ => h.trans ho

theorem SameC.cell {w w' : World} {b o : Nat} {v : Value} (h : SameC w w' b) (hc : w.cell? ⟨b, o, none⟩ = some v) : w'.cell? ⟨b, o, none⟩ = some v := by
  unfold World.cell? at hc ⊢
  split at hc
  · rename_i hb
    have := h _ hb rfl
    simp only at this hb ⊢
    rw [this]; exact hc
  · cases hc

/-- v represents d; all memory that it leads to lies in blocks of S. -/
inductive PRep (w : World) (S : Nat → Prop) : D → Value → Prop where
  | undef (v : Value) : PRep w S .undef v
  | any (ds : List D) (v : Value) : PRep w S (.any ds) v
  | glo (v : Value) (h : ∀ b d, glob b = some d → PRep w S (.cref d 0) (.pointer (some ⟨b, 0, none⟩))) (hc : ∀ b cs, globC b = some cs → S b ∧ ∃ ty sp, w.heap[b]? = some (.cells cs ty sp)) : PRep w S .glo v
  | int (k : IntKind) (n : Int) : PRep w S (.int k n) (.int k n)
  | bool (b : Bool) : PRep w S (.bool b) (.bool b)
  | str (l : List UInt8) : PRep w S (.str l) (.string ⟨l.toArray⟩)
  | raw (x : Value) : PRep w S (.raw x) x
  | nilsl : PRep w S .nilsl (.slice none 0 0)
  | agg {ds : List D} {vs : Array Value} (hl : vs.size = ds.length) (h : ∀ (i : Nat) d v, ds[i]? = some d → vs[i]? = some v → PRep w S d v) : PRep w S (.agg ds) (.agg vs)
  | tup {ds : List D} {vs : Array Value} (hl : vs.size = ds.length) (h : ∀ (i : Nat) d v, ds[i]? = some d → vs[i]? = some v → PRep w S d v) : PRep w S (.tup ds) (.tuple vs)
  | sl {sz : Nat} {es : List D} {A : Option Addr} {n cap b off : Nat} {us : Nat → Nat → Value} (hn : n = es.length) (hcap : n ≤ cap) (hmax : cap ≤ maxLen) (hA : es ≠ [] → A = some ⟨b, off, none⟩ ∧ S b)
      (hsz : ∀ (i : Nat) d, es[i]? = some d → d.cells.length = sz)
      (hc : ∀ (i : Nat) d (j : Nat) c, es[i]? = some d → d.cells[j]? = some c → w.cell? ⟨b, off + i * sz + j, none⟩ = some (us i j))
      (h1 : ∀ (i : Nat) d (j : Nat) c, es[i]? = some d → d.cells[j]? = some c → (us i j).oneCell' = true)
      (hr : ∀ (i : Nat) d (j : Nat) c, es[i]? = some d → d.cells[j]? = some c → PRep w S c (us i j)) : PRep w S (.sl sz es) (.slice A n cap)
  | cref {d : D} {j b off p : Nat} {us : Nat → Value} (hS : S b) (hp : p = off + j)
      (hc : ∀ (m : Nat) c, d.cells[m]? = some c → w.cell? ⟨b, off + m, none⟩ = some (us m))
      (h1 : ∀ (m : Nat) c, d.cells[m]? = some c → (us m).oneCell' = true)
      (hr : ∀ (m : Nat) c, d.cells[m]? = some c → PRep w S c (us m)) : PRep w S (.cref d j) (.pointer (some ⟨b, p, none⟩))
  | fn {f : Fn} {caps : List D} {vs : Array Value} (hl : vs.size = caps.length) (h : ∀ (i : Nat) d v, caps[i]? = some d → vs[i]? = some v → PRep w S d v) : PRep w S (.fn f caps) (.func f #[] vs)
  | ifc {t : TypeId} {d : D} {v : Value} (h : PRep w S d v) : PRep w S (.ifc t d) (.iface t v)

theorem PRep.monoC {w w' : World} {S S' : Nat → Prop} {d : D} {v : Value} (h : PRep w S d v) (hw : ∀ b, S b → SameC w w' b) (hS : ∀ b, S b → S' b) : PRep w' S' d v := by
  induction h with
  | undef v => exact .undef v
  | any ds v => exact .any ds v
  | glo v _ hc ih => exact .glo v ih fun b cs h => let ⟨h1, ty, sp, h2⟩ := hc b cs h; ⟨hS b h1, ty, sp, hw b h1 _ h2 rfl⟩
  | int k n => exact .int k n
  | bool b => exact .bool b
  | str l => exact .str l
  | raw x => exact .raw x
  | nilsl => exact .nilsl
  | agg hl _ ih => exact .agg hl ih
  | tup hl _ ih => exact .tup hl ih
  | @sl sz es A n cap b off us hn hcap hmax hA hsz hc h1 _ ih =>
    refine .sl (b := b) (off := off) (us := us) hn hcap hmax (fun hne => ⟨(hA hne).1, hS _ (hA hne).2⟩) hsz (fun i d j c hi hj => ?_) h1 ih
    have hne : es ≠ [] := by rintro rfl; simp at hi
    exact (hw b (hA hne).2).cell (hc i d j c hi hj)
  | @cref d j b off p us hb hp hc h1 _ ih =>
    refine .cref (us := us) (hS _ hb) hp (fun m c hm => ?_) h1 ih
    exact (hw b hb).cell (hc m c hm)
  | fn hl _ ih => exact .fn hl ih
  | ifc _ ih => exact .ifc ih

theorem PRep.mono {w w' : World} {S S' : Nat → Prop} {d : D} {v : Value} (h : PRep w S d v) (hw : ∀ b, S b → w'.heap[b]? = w.heap[b]?) (hS : ∀ b, S b → S' b) : PRep w' S' d v :=
  h.monoC (fun b hb => .of_eq (hw b hb)) hS

/-- The same where the datum may name the activation's own variables. -/
inductive Rep (w : World) (S : Nat → Prop) (ρ : Rho) : D → Value → Prop where
  | pure {d : D} {v : Value} (h : PRep w S d v) : Rep w S ρ d v
  | loc {t e i j q : Nat} {p : Place} (hp : ρ t e = some p) (hq : q = i * p.sz + j) : Rep w S ρ (.loc t e i j) (.pointer (some ⟨p.b, q, none⟩))
  | osl {t e sz o n off cap : Nat} {p : Place} (hp : ρ t e = some p) (hsz : p.sz = sz) (h0 : o = 0 → off = 0 ∧ cap = p.cap) (hoff : 0 < n → off = o * sz) (hn : n ≤ cap) (hcap : o + cap ≤ p.cap ∧ p.cap ≤ maxLen) :
      Rep w S ρ (.osl t e sz o n) (.slice (some ⟨p.b, off, none⟩) n cap)
  | agg {ds : List D} {vs : Array Value} (hl : vs.size = ds.length) (h : ∀ (i : Nat) d v, ds[i]? = some d → vs[i]? = some v → Rep w S ρ d v) : Rep w S ρ (.agg ds) (.agg vs)
  | tup {ds : List D} {vs : Array Value} (hl : vs.size = ds.length) (h : ∀ (i : Nat) d v, ds[i]? = some d → vs[i]? = some v → Rep w S ρ d v) : Rep w S ρ (.tup ds) (.tuple vs)
  | fn {f : Fn} {caps : List D} {vs : Array Value} (hl : vs.size = caps.length) (h : ∀ (i : Nat) d v, caps[i]? = some d → vs[i]? = some v → Rep w S ρ d v) : Rep w S ρ (.fn f caps) (.func f #[] vs)
  | ifc {t : TypeId} {d : D} {v : Value} (h : Rep w S ρ d v) : Rep w S ρ (.ifc t d) (.iface t v)

theorem Rep.monoC {w w' : World} {S S' : Nat → Prop} {ρ ρ' : Rho} {d : D} {v : Value} (h : Rep w S ρ d v) (hw : ∀ b, S b → SameC w w' b) (hS : ∀ b, S b → S' b) (hρ : ∀ t e p, ρ t e = some p → ρ' t e = some p) : Rep w' S' ρ' d v := by
  induction h with
  | pure h => exact .pure (h.monoC hw hS)
  | loc hp hq => exact .loc (hρ _ _ _ hp) hq
  | osl hp hsz h0 hoff hn hcap => exact .osl (hρ _ _ _ hp) hsz h0 hoff hn hcap
  | agg hl _ ih => exact .agg hl ih
  | tup hl _ ih => exact .tup hl ih
  | fn hl _ ih => exact .fn hl ih
  | ifc _ ih => exact .ifc ih

theorem Rep.mono {w w' : World} {S S' : Nat → Prop} {ρ ρ' : Rho} {d : D} {v : Value} (h : Rep w S ρ d v) (hw : ∀ b, S b → w'.heap[b]? = w.heap[b]?) (hS : ∀ b, S b → S' b) (hρ : ∀ t e p, ρ t e = some p → ρ' t e = some p) : Rep w' S' ρ' d v :=
  h.monoC (fun b hb => .of_eq (hw b hb)) hS hρ

section
variable {w : World} {S : Nat → Prop} {ρ : Rho} {d : D} {v : Value}

theorem Rep.one (h : Rep w S ρ d v) (ho : d.one = true) : v.oneCell' = true := by
  cases h with
  | pure h => cases h <;> first | rfl | (simp [D.one] at ho; done) | exact ho
  | agg => simp [D.one] at ho
  | tup => simp [D.one] at ho
  | _ => rfl

theorem cells_one {v : Value} (h : v.oneCell' = true) : v.cells = #[v] := by cases v <;> first | rfl | (simp [Value.oneCell'] at h)

theorem cells_single {d : D} (h : d.one = true) : d.cells = [d] := by cases d <;> first | rfl | (simp [D.one] at h)

/-- cell by cell -/
theorem Rep.cells (h : Rep w S ρ d v) (ho : d.cells.all D.one = true) : v.cells.size = d.cells.length ∧ ∀ (j : Nat) c, d.cells[j]? = some c → ∃ u, v.cells[j]? = some u ∧ Rep w S ρ c u ∧ u.oneCell' = true := by
  have agg : ∀ (ds : List D) (vs : Array Value), vs.size = ds.length → (∀ (i : Nat) d v, ds[i]? = some d → vs[i]? = some v → Rep w S ρ d v) → ds.all D.one = true →
      (Value.agg vs).cells.size = (D.agg ds).cells.length ∧ ∀ (j : Nat) c, (D.agg ds).cells[j]? = some c → ∃ u, (Value.agg vs).cells[j]? = some u ∧ Rep w S ρ c u ∧ u.oneCell' = true := by
    intro ds vs hl h ho
    refine ⟨hl, fun j c hj => ?_⟩
    have hj' : j < ds.length := (List.getElem?_eq_some_iff.1 hj).1
    have hv : vs[j]? = some vs[j] := Array.getElem?_eq_getElem (by omega)
    have hr := h j c _ hj hv
    exact ⟨_, hv, hr, hr.one (List.all_eq_true.1 ho _ (List.mem_of_getElem? hj))⟩
  have single : d.one = true → d.cells = [d] → v.cells.size = d.cells.length ∧ ∀ (j : Nat) c, d.cells[j]? = some c → ∃ u, v.cells[j]? = some u ∧ Rep w S ρ c u ∧ u.oneCell' = true := by
    intro h1 hd
    have hv := cells_one (h.one h1)
    rw [hd, hv]
    refine ⟨rfl, fun j c hj => ?_⟩
    cases j with
    | zero => simp at hj; subst hj; exact ⟨v, rfl, h, h.one h1⟩
    | succ j => simp at hj
  cases d with
  | agg ds =>
    cases h with
    | pure h => cases h with | agg hl h => exact agg ds _ hl (fun i d v hd hv => .pure (h i d v hd hv)) ho
    | agg hl h => exact agg ds _ hl h ho
  | _ => exact single (by simpa [D.cells] using ho) rfl

/-- nothing of the activation's own in it -/
theorem Rep.toP (h : Rep w S ρ d v) (hp : d.pure = true) : PRep w S d v := by
  have inL : ∀ (ds : List D), D.pureL ds = true → ∀ (i : Nat) d, ds[i]? = some d → d.pure = true := by
    intro ds
    induction ds with
    | nil => intro _ i d hd; simp at hd
    | cons x xs ih =>
      intro hp i d hd
      simp only [D.pureL, Bool.and_eq_true] at hp
      cases i with
      | zero => simp at hd; subst hd; exact hp.1
      | succ i => exact ih hp.2 i d (by simpa using hd)
  induction h with
  | pure h => exact h
  | loc => simp [D.pure] at hp
  | osl => simp [D.pure] at hp
  | agg hl _ ih => exact .agg hl fun i d v hd hv => ih i d v hd hv (inL _ (by simpa only [D.pure] using hp) i d hd)
  | tup hl _ ih => exact .tup hl fun i d v hd hv => ih i d v hd hv (inL _ (by simpa only [D.pure] using hp) i d hd)
  | fn hl _ ih => exact .fn hl fun i d v hd hv => ih i d v hd hv (inL _ (by simpa only [D.pure] using hp) i d hd)
  | ifc _ ih => exact .ifc (ih (by simpa only [D.pure] using hp))

theorem pure_mem : ∀ (ds : List D), D.pureL ds = true → ∀ d ∈ ds, d.pure = true
  | [], _, d, hd => by simp at hd
  | x :: xs, hp, d, hd => by
    simp only [D.pureL, Bool.and_eq_true] at hp
    rcases List.mem_cons.1 hd with rfl | hd
    · exact hp.1
    · exact pure_mem xs hp.2 d hd
theorem pure_cells {d : D} (h : d.pure = true) : ∀ c ∈ d.cells, c.pure = true := by
  intro c hc
  cases d with
  | agg ds => exact pure_mem ds (by simpa only [D.pure] using h) c hc
  | _ => simp only [D.cells, List.mem_singleton] at hc; subst hc; exact h

theorem rep_ofC (v : Value) : PRep w S (ofC v) v := by
  unfold ofC
  split
  · exact .int _ _
  · exact .bool _
  · rename_i s; exact .str s.data.toList
  · exact .nilsl
  · exact .raw _

theorem rep_ofV (v : Value) : PRep w S (ofV v) v := by
  unfold ofV
  split
  · rename_i cs
    refine .agg (by simp) fun i d u hd hu => ?_
    simp only [List.getElem?_map, Array.getElem?_toList, hu, Option.map_some, Option.some.injEq] at hd
    subst hd
    exact rep_ofC u
  · exact rep_ofC _

theorem Rep.weak {d d' : D} {v : Value} (hw : Weak d d') : PRep w S d v → PRep w S d' v := by
  induction hw generalizing v with
  | refl => exact id
  | nil sz => intro h; cases h; exact .sl (b := 0) (off := 0) (us := fun _ _ => undef) rfl (by simp) (by simp [maxLen]) (fun h => absurd rfl h) (by simp) (by simp) (by simp) (by simp)
  | tup hl _ ih =>
    intro h
    cases h with
    | tup hl' h =>
      refine .tup (hl'.trans hl) fun i x' v hx hv => ?_
      have hi : i < _ := (List.getElem?_eq_some_iff.1 hx).1
      exact ih i _ x' (List.getElem?_eq_getElem (hl ▸ hi)) hx (h i _ v (List.getElem?_eq_getElem (hl ▸ hi)) hv)
  | agg hl _ ih =>
    intro h
    cases h with
    | agg hl' h =>
      refine .agg (hl'.trans hl) fun i x' v hx hv => ?_
      have hi : i < _ := (List.getElem?_eq_some_iff.1 hx).1
      exact ih i _ x' (List.getElem?_eq_getElem (hl ▸ hi)) hx (h i _ v (List.getElem?_eq_getElem (hl ▸ hi)) hv)
end

/-- What an own variable's block holds. -/
structure Holds (w : World) (S : Nat → Prop) (ρ : Rho) (p : Place) (es : List D) : Prop where
  ex : ∃ cur, w.heap[p.b]? = some (.cells cur p.ty (0, 0)) ∧ cur.size = p.cap * p.sz ∧
    ∃ us : Nat → Nat → Value, ∀ (i : Nat) d (j : Nat) c, es[i]? = some d → d.cells[j]? = some c → cur[i * p.sz + j]? = some (us i j) ∧ Rep w S ρ c (us i j) ∧ (us i j).oneCell' = true
  len : es.length ≤ p.cap
  max : p.cap ≤ maxLen
  sz : ∀ (i : Nat) d, es[i]? = some d → d.cells.length = p.sz

theorem Holds.monoC {w w' : World} {S S' : Nat → Prop} {ρ ρ' : Rho} {p : Place} {es : List D} (h : Holds w S ρ p es) (hb : SameC w w' p.b) (hw : ∀ b, S b → SameC w w' b) (hS : ∀ b, S b → S' b)
    (hρ : ∀ t e p, ρ t e = some p → ρ' t e = some p) : Holds w' S' ρ' p es := by
  obtain ⟨⟨cur, hc, hs, us, hu⟩, hl, hm, hz⟩ := h
  exact ⟨⟨cur, hb _ hc rfl, hs, us, fun i d j c hi hj => ⟨(hu i d j c hi hj).1, (hu i d j c hi hj).2.1.monoC hw hS hρ, (hu i d j c hi hj).2.2⟩⟩, hl, hm, hz⟩

theorem Holds.mono {w w' : World} {S S' : Nat → Prop} {ρ ρ' : Rho} {p : Place} {es : List D} (h : Holds w S ρ p es) (hb : w'.heap[p.b]? = w.heap[p.b]?) (hw : ∀ b, S b → w'.heap[b]? = w.heap[b]?) (hS : ∀ b, S b → S' b)
    (hρ : ∀ t e p, ρ t e = some p → ρ' t e = some p) : Holds w' S' ρ' p es := h.monoC (.of_eq hb) (fun b hb => .of_eq (hw b hb)) hS hρ

theorem Holds.cell {w : World} {S : Nat → Prop} {ρ : Rho} {p : Place} {es : List D} (h : Holds w S ρ p es) {i : Nat} {d : D} {j : Nat} {c : D} (hi : es[i]? = some d) (hj : d.cells[j]? = some c) :
    ∃ u, w.cell? ⟨p.b, i * p.sz + j, none⟩ = some u ∧ Rep w S ρ c u ∧ u.oneCell' = true := by
  obtain ⟨⟨cur, hc, hs, us, hu⟩, hl, hm, hz⟩ := h
  obtain ⟨h1, h2, h3⟩ := hu i d j c hi hj
  exact ⟨us i j, by simp [World.cell?, hc, h1], h2, h3⟩

end Go.V
