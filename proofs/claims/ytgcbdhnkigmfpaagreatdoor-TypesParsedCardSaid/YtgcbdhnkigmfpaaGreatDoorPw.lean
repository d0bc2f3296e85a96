/-
  Types and Lex: what the laid variables of packages hold when a law is called; a world in which they do.
-/
import Derived.Test.YtgcbdhnkigmfpaaGreatDoorLs
import Derived.Test.YtgcbdhnkigmfpaaGreatDoorVE
import Derived.Test.YtgcbdhnkigmfpaaGreatDoorRows
import Derived.LaidHandle
import Derived.Stop.LaidErr
import Derived.Stop.Joined
import Derived.OpenShut
namespace Go.V.Ty
open Go.Proofs Go.RowKit
set_option linter.unusedSimpArgs false
set_option linter.unusedVariables false
set_option maxRecDepth 100000

abbrev laidL : List (String × DataW Unit) := Go.Proofs.YtgcbdhnkigmfpaaGreatDoor.Rows.typesParsedRow.laid
theorem g0 : Tryz.prog.globalNamed "strings.asciiSpace" = some 0 := by kernel_rfl
theorem g0t : (Tryz.prog.globals[0]?).map (·.type) = some 156 := by kernel_rfl
theorem g2 : Tryz.prog.globalNamed "internal/strconv.uint64pow10" = some 2 := by kernel_rfl
theorem g2t : (Tryz.prog.globals[2]?).map (·.type) = some 189 := by kernel_rfl
theorem g4 : Tryz.prog.globalNamed "strconv.ErrSyntax" = some 4 := by kernel_rfl
theorem g5 : Tryz.prog.globalNamed "strconv.ErrRange" = some 5 := by kernel_rfl
theorem g4t : (Tryz.prog.globals[4]?).map (·.type) = some 119 := by kernel_rfl
theorem g5t : (Tryz.prog.globals[5]?).map (·.type) = some 119 := by kernel_rfl
theorem cells8 : Tryz.prog.cellsOf 5 = 1 := by kernel_rfl
theorem star : "*" ++ "errors.errorString" = "*errors.errorString" := by decide
theorem rowE (u : TypeId) (h : Tryz.prog.typeName? 3 u = some "*errors.errorString") : u = 211 :=
  typeName_ptr_named (nm := "errors.errorString") (by rw [star]; kernel_rfl) (by kernel_rfl) (by decide) u (by rw [star]; exact h)
theorem cellsE : Tryz.prog.cellsOf 213 = 1 := by kernel_rfl
theorem cellsS : Tryz.prog.cellsOf 9 = 1 := by kernel_rfl
theorem cellsU : Tryz.prog.cellsOf 165 = 1 := by kernel_rfl

theorem tab_of_trod {H : Type} {enc : TypeId × Value → H} {P : Program} {w : World} {base : Nat} {sp : Nat → Bool} {held : Bool} {fuel n : Nat} {t e : TypeId} {k : IntKind} {cs : List Value} {zs : List Int} {p : List MemPlace}
    (ht : P.underlying t = some (.array n e)) (he : P.underlying e = some (.int k)) (hc : P.cellsOf e = 1) (hn : cs.length = n) (hz : zs.length = n)
    (h : DataW.trod enc P w base sp held fuel t cs = some (.agg (zs.map fun z => .lit (.int k z)), p)) : cs = zs.map (Value.int k) := by
  obtain ⟨xs, m, _, hx, _, hxl, hat⟩ := DataW.trod_array ht h
  injection hx with hx _
  injection hx with hx
  apply List.ext_getElem?
  intro i
  by_cases hi : i < n
  · have h1 := hat i hi
    rw [hc, Nat.mul_one] at h1
    have hx1 : xs[i]? = some xs[i] := List.getElem?_eq_getElem (by omega)
    rw [hx1] at h1
    obtain ⟨v, h2, h3, _⟩ := DataW.trod_int he h1
    have h4 := congrArg (·[i]?) hx
    simp only [List.getElem?_map, hx1, Option.map_some, h3] at h4
    have h5 : zs[i]? = some zs[i] := List.getElem?_eq_getElem (by omega)
    rw [h5] at h4
    simp only [Option.map_some, Option.some.injEq, DataW.lit.injEq, Lit.int.injEq, true_and] at h4
    have h6 : (cs.drop i)[0]? = some (.int k v) := by
      have := congrArg (·[0]?) h2
      simpa using this
    rw [List.getElem?_drop] at h6
    rw [List.getElem?_map, h5, Option.map_some, h4]
    simpa using h6
  · rw [List.getElem?_eq_none (by omega), List.getElem?_eq_none (by simp; omega)]

theorem laid_plain {W : World} (h : laidMetH Tryz.prog laidL W) : laidMet Tryz.prog laidL W := by
  unfold laidMetH at h
  have e : laidL.filter (fun x => x.2.handleName?.isSome) = [] := by kernel_rfl
  rw [e] at h
  exact h
theorem pow_lit : Lib.pow10Tab = [1, 10, 100, 1000, 10000, 100000, 1000000, 10000000, 100000000, 1000000000, 10000000000, 100000000000, 1000000000000, 10000000000000, 100000000000000, 1000000000000000, 10000000000000000, 100000000000000000, 1000000000000000000, 10000000000000000000] := by decide +kernel
theorem pow_laid : Go.Proofs.YtgcbdhnkigmfpaaGreatDoor.Rows.laid_internal_strconv_uint64pow10 (H := Unit) = .agg (Lib.pow10Tab.map fun z => .lit (.int .u64 z)) := by rw [pow_lit]; rfl
theorem tab_laid : Go.Proofs.YtgcbdhnkigmfpaaGreatDoor.Rows.laid_strings_asciiSpace (H := Unit) = .agg (Lib.asciiSpaceTab.map fun z => .lit (.int .u8 z)) := by kernel_rfl
theorem tab_len : Lib.asciiSpaceTab.length = 256 := by kernel_rfl
theorem cells_of_var {W : World} {n : String} {g : Nat} {cs : Array Value} (hg : Tryz.prog.globalNamed n = some g) (h : W.var? Tryz.prog n = some cs) : g < W.heap.size ∧ ∃ ty sp, W.heap[g]? = some (.cells cs ty sp) := by
  unfold World.var? at h
  rw [hg] at h
  simp only [Option.bind_some] at h
  split at h
  · rename_i c t f hh
    injection h with h
    subst h
    refine ⟨?_, _, _, hh⟩
    apply Classical.byContradiction
    intro hn
    rw [Array.getElem?_eq_none (by omega)] at hh
    cases hh
  · cases h
theorem err_glo {W : World} {n : String} {g : Nat} {a : Addr} (hg : Tryz.prog.globalNamed n = some g) (h : W.var? Tryz.prog n = some #[.iface 211 (.pointer (some a))]) : PRep W (fun b => b < W.heap.size) (.cref (.ifc 211 .undef) 0) (.pointer (some ⟨g, 0, none⟩)) := by
  obtain ⟨h1, ty, sp, h2⟩ := cells_of_var hg h
  refine .cref (off := 0) (us := fun _ => .iface 211 (.pointer (some a))) h1 rfl (fun m c hm => ?_) (fun m c hm => rfl) (fun m c hm => ?_)
  · have : m = 0 := by
      rcases m with _ | m
      · rfl
      · simp [D.cells] at hm
    subst this
    simpa using World.var?_cell hg h 0
  · rcases m with _ | m
    · simp [D.cells] at hm
      subst hm
      exact .ifc (.undef _)
    · simp [D.cells] at hm
theorem glo_of_laid {W : World} (hL : laidMetH Tryz.prog laidL W) : PRep W (fun b => b < W.heap.size) .glo undef := by
  have h3 := (laid_plain hL).tail.tail
  have h4 := h3.tail
  have h5 := h4.tail
  have h6 := h5.tail.tail
  obtain ⟨a1, s1, hv1, _⟩ := laid_sentinel h4 g5 g5t Tryz.underlying119 rowE Tryz.underlying211 Tryz.underlying213 rfl rfl Tryz.underlying9 cellsE cellsS
  obtain ⟨a2, s2, hv2, _⟩ := laid_sentinel h5 g4 g4t Tryz.underlying119 rowE Tryz.underlying211 Tryz.underlying213 rfl rfl Tryz.underlying9 cellsE cellsS
  obtain ⟨ps, ⟨g, t, cs, fuel, p, q, hg, ht, hvar, hd, _, _⟩, _⟩ := h3
  obtain rfl := Option.some.inj (g2.symm.trans hg)
  obtain rfl := Option.some.inj (g2t.symm.trans ht)
  rw [pow_laid] at hd
  have hlen : cs.toList.length = 20 := by
    obtain ⟨xs, m, _, _, hl, _⟩ := DataW.trod_array Tryz.underlying189 hd
    exact hl.trans (by kernel_rfl)
  have hcs := tab_of_trod Tryz.underlying189 Tryz.underlying165 cellsU hlen Lib.pow10Tab_length hd
  obtain ⟨hlt, ty, sp, hh⟩ := cells_of_var g2 hvar
  obtain ⟨ps', ⟨g', t', cs', fuel', p', q', hg', ht', hvar', hd', _, _⟩, _⟩ := h6
  obtain rfl := Option.some.inj (g0.symm.trans hg')
  obtain rfl := Option.some.inj (g0t.symm.trans ht')
  rw [tab_laid] at hd'
  have hlen' : cs'.toList.length = 256 := by
    obtain ⟨xs, m, _, _, hl, _⟩ := DataW.trod_array Tryz.underlying156 hd'
    exact hl.trans (by kernel_rfl)
  have hcs' := tab_of_trod Tryz.underlying156 Tryz.underlying5 cells8 hlen' tab_len hd'
  obtain ⟨hlt', ty', sp', hh'⟩ := cells_of_var g0 hvar'
  refine .glo _ (fun b d hb => ?_) (fun b c hb => ?_)
  · unfold glob at hb
    split at hb
    · rename_i e
      subst e
      injection hb with hb
      subst hb
      exact err_glo g4 hv2
    · split at hb
      · rename_i e
        subst e
        injection hb with hb
        subst hb
        exact err_glo g5 hv1
      · cases hb
  · unfold globC at hb
    split at hb
    · rename_i e
      subst e
      injection hb with hb
      subst hb
      refine ⟨hlt', ty', sp', ?_⟩
      rw [hh']
      congr 2
      rw [← Array.toArray_toList (xs := cs'), hcs']
    · split at hb
      · rename_i e
        subst e
        injection hb with hb
        subst hb
        refine ⟨hlt, ty, sp, ?_⟩
        rw [hh]
        congr 2
        rw [← Array.toArray_toList (xs := cs), hcs]
      · cases hb

abbrev rangeS : ByteArray := { data := #[118, 97, 108, 117, 101, 32, 111, 117, 116, 32, 111, 102, 32, 114, 97, 110, 103, 101] }
abbrev syntaxS : ByteArray := { data := #[105, 110, 118, 97, 108, 105, 100, 32, 115, 121, 110, 116, 97, 120] }
noncomputable def low : Nat := (World.holding Tryz.prog default ⟨#[], #[], []⟩).heap.size
def litsOf : DataW Unit → Array Value
  | .agg l => (l.map fun | .lit (.int k n) => Value.int k n | _ => undef).toArray
  | _ => #[]
def putRow (cs : Array Value) : Obj → Obj
  | .cells _ t frozen => .cells cs t frozen
  | o => o
def whites : Array Value := #[.int .u16 9, .int .u16 13, .int .u16 1, .int .u16 32, .int .u16 133, .int .u16 101, .int .u16 160, .int .u16 5760, .int .u16 5600, .int .u16 8192, .int .u16 8202, .int .u16 1, .int .u16 8232, .int .u16 8233, .int .u16 1, .int .u16 8239, .int .u16 8287, .int .u16 48, .int .u16 12288, .int .u16 12288, .int .u16 1]
noncomputable def laidWorld (os : Os) : World :=
  let w0 := World.holding Tryz.prog os ⟨#[.cells whites 204, .cells #[.slice (some ⟨low, 0, none⟩) 7 7, .slice none 0 0, .int .i64 2] 201, .cells #[.string rangeS] 213, .cells #[.string syntaxS] 213], #[], []⟩
  { w0 with heap := ((((((w0.heap.modify 1 (putRow #[.pointer (some ⟨low + 1, 0, none⟩)])).modify 0 (putRow (litsOf Go.Proofs.YtgcbdhnkigmfpaaGreatDoor.Rows.laid_strings_asciiSpace))).modify 4 (putRow #[.iface 211 (.pointer (some ⟨low + 3, 0, none⟩))])).modify 5 (putRow #[.iface 211 (.pointer (some ⟨low + 2, 0, none⟩))])).modify 2 (putRow (litsOf Go.Proofs.YtgcbdhnkigmfpaaGreatDoor.Rows.laid_internal_strconv_uint64pow10))).modify 6 (putRow (litsOf Go.Proofs.YtgcbdhnkigmfpaaGreatDoor.Rows.laid_math_bits_deBruijn32tab))).modify 7 (putRow (litsOf Go.Proofs.YtgcbdhnkigmfpaaGreatDoor.Rows.laid_math_bits_deBruijn64tab)) }
theorem laid_met (os : Os) (args : Array Value) : laidMetH Tryz.prog laidL ((laidWorld os).forCall (fun _ _ => 0) ⟨#[], args, []⟩).memory :=
  laidMetH_of_parts (laidMet_of_run' 8 (by kernel_rfl) (by kernel_rfl)) (by kernel_rfl)
end Go.V.Ty
