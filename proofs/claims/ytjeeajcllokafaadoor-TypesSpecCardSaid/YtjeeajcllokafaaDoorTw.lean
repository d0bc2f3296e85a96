/-
  Types: what the laid variables of packages hold when a law is called; a world in which they do.
-/
import Derived.Test.YtjeeajcllokafaaDoorVD
import Derived.Test.YtjeeajcllokafaaDoorVt
import Derived.Test.YtjeeajcllokafaaDoorVE
import Derived.Test.YtjeeajcllokafaaDoorRows
import Derived.LaidHandle
import Derived.Stop.LaidErr
import Derived.Stop.Joined
import Derived.OpenShut
namespace Go.V.Ty
open Go.Proofs Go.RowKit
set_option linter.unusedSimpArgs false
set_option linter.unusedVariables false
set_option maxRecDepth 100000

abbrev laidL : List (String × DataW Unit) := Go.Proofs.YtjeeajcllokafaaDoor.Rows.typesSpecRow.laid
theorem g0 : Tryd.prog.globalNamed "strings.asciiSpace" = some 0 := by kernel_rfl
theorem g0t : (Tryd.prog.globals[0]?).map (·.type) = some 98 := by kernel_rfl
theorem cellsU : Tryd.prog.cellsOf 5 = 1 := by kernel_rfl

theorem tab_of_trod {H : Type} {enc : TypeId × Value → H} {P : Program} {w : World} {base : Nat} {sp : Nat → Bool} {held : Bool} {fuel n : Nat} {t e : TypeId} {k : IntKind} {cs : List Value} {zs : List Int} {p : List MemPlace}
    (ht : P.underlying t = some (.array n e)) (he : P.underlying e = some (.int k)) (hc : P.cellsOf e = 1) (hn : cs.length = n) (hz : zs.length = n)
    (h : DataW.trod enc P w base sp held fuel t cs = some (.agg (zs.map fun z => .lit (.int k z)), p)) : cs = zs.map (Value.int k) := by
  obtain ⟨xs, m, _, hx, _, hxl, hat⟩ := DataW.trod_array ht h
  injection hx with hx _
  injection hx with hx
  apply List.ext_getElem?
  intro i
  by_cases hi : i < n
  · have h1 := hat i hi
    rw [hc, Nat.mul_one] at h1
    have hx1 : xs[i]? = some xs[i] := List.getElem?_eq_getElem (by omega)
    rw [hx1] at h1
    obtain ⟨v, h2, h3, _⟩ := DataW.trod_int he h1
    have h4 := congrArg (·[i]?) hx
    simp only [List.getElem?_map, hx1, Option.map_some, h3] at h4
    have h5 : zs[i]? = some zs[i] := List.getElem?_eq_getElem (by omega)
    rw [h5] at h4
    simp only [Option.map_some, Option.some.injEq, DataW.lit.injEq, Lit.int.injEq, true_and] at h4
    have h6 : (cs.drop i)[0]? = some (.int k v) := by
      have := congrArg (·[0]?) h2
      simpa using this
    rw [List.getElem?_drop] at h6
    rw [List.getElem?_map, h5, Option.map_some, h4]
    simpa using h6
  · rw [List.getElem?_eq_none (by omega), List.getElem?_eq_none (by simp; omega)]

theorem laid_plain {W : World} (h : laidMetH Tryd.prog laidL W) : laidMet Tryd.prog laidL W := by
  unfold laidMetH at h
  have e : laidL.filter (fun x => x.2.handleName?.isSome) = [] := by kernel_rfl
  rw [e] at h
  exact h
theorem tab_laid : Go.Proofs.YtjeeajcllokafaaDoor.Rows.laid_strings_asciiSpace (H := Unit) = .agg (Lib.asciiSpaceTab.map fun z => .lit (.int .u8 z)) := by kernel_rfl
theorem tab_len : Lib.asciiSpaceTab.length = 256 := by kernel_rfl
theorem cells_of_var {W : World} {n : String} {g : Nat} {cs : Array Value} (hg : Tryd.prog.globalNamed n = some g) (h : W.var? Tryd.prog n = some cs) : g < W.heap.size ∧ ∃ ty sp, W.heap[g]? = some (.cells cs ty sp) := by
  unfold World.var? at h
  rw [hg] at h
  simp only [Option.bind_some] at h
  split at h
  · rename_i c t f hh
    injection h with h
    subst h
    refine ⟨?_, _, _, hh⟩
    apply Classical.byContradiction
    intro hn
    rw [Array.getElem?_eq_none (by omega)] at hh
    cases hh
  · cases h
theorem glo_of_laid {W : World} (hL : laidMetH Tryd.prog laidL W) : PRep W (fun b => b < W.heap.size) .glo undef := by
  have h3 := (laid_plain hL).tail
  obtain ⟨ps, ⟨g, t, cs, fuel, p, q, hg, ht, hvar, hd, _, _⟩, _⟩ := h3
  obtain rfl := Option.some.inj (g0.symm.trans hg)
  obtain rfl := Option.some.inj (g0t.symm.trans ht)
  rw [tab_laid] at hd
  have hlen : cs.toList.length = 256 := by
    obtain ⟨xs, m, _, _, hl, _⟩ := DataW.trod_array Tryd.underlying98 hd
    exact hl.trans (by kernel_rfl)
  have hcs := tab_of_trod Tryd.underlying98 Tryd.underlying5 cellsU hlen tab_len hd
  obtain ⟨hlt, ty, sp, hh⟩ := cells_of_var g0 hvar
  refine .glo _ (fun b d hb => by cases hb) (fun b cs' hb => ?_)
  unfold globC at hb
  split at hb
  · rename_i hb3
    subst hb3
    injection hb with hb
    subst hb
    refine ⟨hlt, ty, sp, ?_⟩
    rw [hh]
    congr 2
    rw [← Array.toArray_toList (xs := cs), hcs]
  · cases hb

noncomputable def low : Nat := (World.holding Tryd.prog default ⟨#[], #[], []⟩).heap.size
def litsOf : DataW Unit → Array Value
  | .agg l => (l.map fun | .lit (.int k n) => Value.int k n | _ => undef).toArray
  | _ => #[]
def putRow (cs : Array Value) : Obj → Obj
  | .cells _ t frozen => .cells cs t frozen
  | o => o
def whites : Array Value := #[.int .u16 9, .int .u16 13, .int .u16 1, .int .u16 32, .int .u16 133, .int .u16 101, .int .u16 160, .int .u16 5760, .int .u16 5600, .int .u16 8192, .int .u16 8202, .int .u16 1, .int .u16 8232, .int .u16 8233, .int .u16 1, .int .u16 8239, .int .u16 8287, .int .u16 48, .int .u16 12288, .int .u16 12288, .int .u16 1]
noncomputable def laidWorld (os : Os) : World :=
  let w0 := World.holding Tryd.prog os ⟨#[.cells whites 121, .cells #[.slice (some ⟨low, 0, none⟩) 7 7, .slice none 0 0, .int .i64 2] 118], #[], []⟩
  { w0 with heap := (w0.heap.modify 1 (putRow #[.pointer (some ⟨low + 1, 0, none⟩)])).modify 0 (putRow (litsOf Go.Proofs.YtjeeajcllokafaaDoor.Rows.laid_strings_asciiSpace)) }
theorem laid_met (os : Os) (args : Array Value) : laidMetH Tryd.prog laidL ((laidWorld os).forCall (fun _ _ => 0) ⟨#[], args, []⟩).memory :=
  laidMetH_of_parts (laidMet_of_run' 8 (by kernel_rfl) (by kernel_rfl)) (by kernel_rfl)
end Go.V.Ty
