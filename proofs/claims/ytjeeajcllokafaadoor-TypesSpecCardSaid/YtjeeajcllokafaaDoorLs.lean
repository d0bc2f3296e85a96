/-
  Lex: the contracts of the library's functions, on data.
-/
import Derived.Test.YtjeeajcllokafaaDoorVD
import Derived.Test.YtjeeajcllokafaaDoorVt
import Derived.Test.YtjeeajcllokafaaDoorSh
import Derived.Ground.NamesProg
import Derived.Shelf.Strings.Prefix
import Derived.Shelf.Strings.Fields
import Derived.Shelf.Small.Strs
import Derived.Shelf.Slices.Turned
import Derived.Shelf.Strconv.Itoa3
import Derived.Shelf.Strconv.AtoiAll
import Derived.Shelf.Strings.OnBuilder
namespace Go.Proofs
open Go.Shelf
end Go.Proofs

namespace Go.V.Lx
open Go.Proofs Go.RowKit
set_option linter.unusedSimpArgs false
set_option linter.unusedVariables false
set_option maxRecDepth 100000

theorem mixed : Tryd.prog.follows .mixedOrders = true := by kernel_rfl

/-- the arguments' values -/
theorem arg2 {w : World} {S : Nat → Prop} {vs : Array Value} {x y : D} (hl : vs.size = [x, y].length) (hv : ∀ (i : Nat) d v, [x, y][i]? = some d → vs[i]? = some v → PRep w S d v) : ∃ u v, vs = #[u, v] ∧ PRep w S x u ∧ PRep w S y v := by
  obtain ⟨l⟩ := vs
  match l, hl with
  | [u, v], _ => exact ⟨u, v, rfl, hv 0 x u rfl rfl, hv 1 y v rfl rfl⟩
theorem arg1 {w : World} {S : Nat → Prop} {vs : Array Value} {x : D} (hl : vs.size = [x].length) (hv : ∀ (i : Nat) d v, [x][i]? = some d → vs[i]? = some v → PRep w S d v) : ∃ u, vs = #[u] ∧ PRep w S x u := by
  obtain ⟨l⟩ := vs
  match l, hl with
  | [u], _ => exact ⟨u, rfl, hv 0 x u rfl rfl⟩
theorem inv_str {w : World} {S : Nat → Prop} {s : List UInt8} {v : Value} (h : PRep w S (.str s) v) : v = .string ⟨s.toArray⟩ := by cases h; rfl
theorem inv_int {w : World} {S : Nat → Prop} {k : IntKind} {n : Int} {v : Value} (h : PRep w S (.int k n) v) : v = .int k n := by cases h; rfl
theorem of_same {P : Program} {f : FuncId} {w : World} {S : Nat → Prop} {vs : Array Value} {d : D} {r : Value} (he : (callFunc f vs).run P w = .ok (.enter f vs) w) (hd : ∀ w' S', PRep w' S' d r) (h : Calls P f vs w fun e w' => e = .returned r ∧ Below w.heap.size w w') :
    ((callFunc f vs).run P w = .ok (.enter f vs) w ∧ Calls P f vs w (fun e w' => ∃ v, e = .returned v ∧ Post w S d v w')) ∨ (∃ v w', (callFunc f vs).run P w = .ok (.value v) w' ∧ Post w S d v w') :=
  .inl ⟨he, Calls.mono h fun e w' ⟨h1, h2⟩ => ⟨r, h1, hd _ _, h2⟩⟩
theorem same_below {w w' : World} (h : w' = w) : Below w.heap.size w w' := by rw [h]; exact Below.refl _ _

theorem indexByte_c (s : List UInt8) (c : UInt8) : CallsTo Tryd.prog 83 [.str s, .int .u8 (c.toNat : Int)] (.int .i64 (Lib.indexByte s c)) := by
  intro w S vs hS hg hl hv
  obtain ⟨u, v, rfl, hu, hv⟩ := arg2 hl hv
  rw [inv_str hu, inv_int hv]
  refine of_same (Go.MuLone.run_callFunc_enter (fn := Tryd.f83) rfl (by kernel_rfl) rfl _ w) (fun _ _ => .int _ _) (Calls.mono (Any.strings_IndexByte Tryd.lays137 _ _ w) fun e w' ⟨h1, h2⟩ => ⟨?_, same_below h2⟩)
  rw [h1]
  simp
theorem glo_at {w : World} {S : Nat → Prop} {v : Value} {b : Nat} {d : D} (h : PRep w S .glo v) (hg : glob b = some d) : PRep w S (.cref d 0) (.pointer (some ⟨b, 0, none⟩)) := by
  cases h with
  | glo _ h _ => exact h b d hg
theorem glo_cells {w : World} {S : Nat → Prop} {v : Value} {b : Nat} {cs : Array Value} (h : PRep w S .glo v) (hg : globC b = some cs) : ∃ ty sp, w.heap[b]? = some (.cells cs ty sp) := by
  cases h with
  | glo _ _ h => exact (h b cs hg).2
theorem drewN_below (w : World) (k : Nat) (os : Array Obj) : Below w.heap.size w (Sort.grow (w.drewN k) os) := by
  refine ⟨rfl, rfl, rfl, by simp [Sort.grow, World.drewN], fun j hj => ?_⟩
  simp only [Sort.grow, World.drewN]
  exact Array.getElem?_append_left hj
theorem fields_c (s : List UInt8) (hs : s.length < 4294967281) (ha : ∀ b ∈ s, b.toNat < 128) : CallsTo Tryd.prog 55 [.str s] (.sl 1 ((Lib.fields s).map D.str)) := by
  intro w S vs hS hg hl hv
  obtain ⟨u, rfl, hu⟩ := arg1 hl hv
  rw [inv_str hu]
  obtain ⟨ty, sp, hc⟩ := glo_cells (b := 0) hg rfl
  have hn : Tryd.prog.globalNamed "strings.asciiSpace" = some 0 := by kernel_rfl
  have htab : Lib.TabIs Tryd.prog w "strings.asciiSpace" .u8 Lib.asciiSpaceTab := by
    simp only [Lib.TabIs, World.var?, hn, Option.bind_some, hc]
  refine .inl ⟨Go.MuLone.run_callFunc_enter (fn := Tryd.f55) rfl (by kernel_rfl) rfl _ w, Calls.mono (Any.strings_Fields Tryd.lays157 (by kernel_rfl) hn ⟨s.toArray⟩ w (by show s.toArray.size < _; simpa using hs) (fun j b hb => ha b (List.mem_of_getElem? (by simpa using hb))) htab) ?_⟩
  rintro e w' ⟨h1, h2⟩
  refine ⟨_, h1, ?_, by rw [h2]; exact (Below.refl _ _).alloc (Nat.le_refl _) _⟩
  rw [h2]
  show PRep _ _ (.sl 1 ((Lib.fields s).map D.str)) (.slice _ (Lib.fields s).length (Lib.fields s).length)
  have hmax : (Lib.fields s).length ≤ maxLen := by
    have := Lib.fields_length s
    have h3 : ∀ (l : List UInt8) (b : Bool), Lib.cntF b l ≤ l.length := by
      intro l
      induction l with
      | nil => intro b; simp [Lib.cntF]
      | cons x l ih => intro b; simp only [Lib.cntF, List.length_cons]; have := ih (Lib.isSp x); split <;> omega
    have := h3 s true
    simp only [maxLen]
    omega
  refine .sl (b := w.heap.size) (off := 0) (us := fun i _ => .string ⟨((Lib.fields s)[i]?.getD []).toArray⟩) (by simp) (Nat.le_refl _) hmax (fun _ => ⟨rfl, .inr ⟨Nat.le_refl _, by simp⟩⟩) (fun i d hd => ?_) (fun i d j c hd hj => ?_) (fun i d j c hd hj => ?_) (fun i d j c hd hj => ?_)
  · rw [List.getElem?_map, Option.map_eq_some_iff] at hd
    obtain ⟨x, _, rfl⟩ := hd
    rfl
  · rw [List.getElem?_map, Option.map_eq_some_iff] at hd
    obtain ⟨x, hx, rfl⟩ := hd
    have hj0 : j = 0 := by
      cases j with
      | zero => rfl
      | succ j => simp [D.cells] at hj
    subst hj0
    have hlt := (List.getElem?_eq_some_iff.1 hx).1
    simp only [World.cell?, heap_alloc_new]
    simp [hx, hlt, List.getElem?_eq_getElem]
  · rfl
  · rw [List.getElem?_map, Option.map_eq_some_iff] at hd
    obtain ⟨x, hx, rfl⟩ := hd
    have hj0 : j = 0 := by
      cases j with
      | zero => rfl
      | succ j => simp [D.cells] at hj
    subst hj0
    simp only [D.cells, List.getElem?_cons_zero, Option.some.injEq] at hj
    subst hj
    simp only [hx, Option.getD_some]
    exact .str x
end Go.V.Lx
