/-
  Lex: the contracts of the library's functions, on data.
-/
import Derived.Test.YtgcbdhnkigmfpaaGreatDoorVD
import Derived.Test.YtgcbdhnkigmfpaaGreatDoorVt
import Derived.Test.YtgcbdhnkigmfpaaGreatDoorSh
import Derived.Ground.NamesProg
import Derived.Shelf.Strings.Prefix
import Derived.Shelf.Strings.Fields
import Derived.Shelf.Small.Strs
import Derived.Shelf.Slices.Turned
import Derived.Shelf.Strconv.Itoa3
import Derived.Shelf.Strconv.AtoiAll
import Derived.Shelf.Strings.OnBuilder
namespace Go.Proofs
open Go.Shelf
theorem Tryz.u8_156 : Tryz.prog.underlying (Tryz.lays156_ren.t 5) = some (.int .u8) := by kernel_rfl
theorem Tryz.u8_size : V.sizeT Tryz.prog (Tryz.lays156_ren.t 5) = 1 := by kernel_rfl
theorem Tryz.u8_agg : V.aggT Tryz.prog (Tryz.lays156_ren.t 5) = false := by kernel_rfl
theorem Tryz.u8_zero : (Tryz.prog.info? (Tryz.lays156_ren.t 5)).bind (·.zero) = some (.int .u8 0) := by kernel_rfl
theorem Tryz.extra156 : Builder.Extra Tryz.prog Tryz.lays156_ren := {
  sizeBuilder := by kernel_rfl
  liesBuilder := by kernel_rfl
  t5 := Tryz.u8_156
  a5 := fun w => by rw [V.run_aggT Tryz.u8_156, Tryz.u8_agg]
  z5 := fun w => by rw [V.run_sizeT (by rw [Tryz.u8_size]; decide), Tryz.u8_size]
  v5 := fun w => (by
    have h := Tryz.u8_zero
    cases hi : Tryz.prog.info? (Tryz.lays156_ren.t 5) with
    | none => rw [hi] at h; cases h
    | some i =>
      rw [hi] at h
      simp only [Option.bind_some] at h
      simp [zeroValue, typeInfo, hi, h, go_sem])
  infoByte := by kernel_rfl
  cellsByte := by kernel_rfl
  sizeByte := by kernel_rfl
  neB5 := by decide }
end Go.Proofs

namespace Go.V.Lx
open Go.Proofs Go.RowKit
set_option linter.unusedSimpArgs false
set_option linter.unusedVariables false
set_option maxRecDepth 100000

theorem mixed : Tryz.prog.follows .mixedOrders = true := by kernel_rfl

/-- the arguments' values -/
theorem arg2 {w : World} {S : Nat → Prop} {vs : Array Value} {x y : D} (hl : vs.size = [x, y].length) (hv : ∀ (i : Nat) d v, [x, y][i]? = some d → vs[i]? = some v → PRep w S d v) : ∃ u v, vs = #[u, v] ∧ PRep w S x u ∧ PRep w S y v := by
  obtain ⟨l⟩ := vs
  match l, hl with
  | [u, v], _ => exact ⟨u, v, rfl, hv 0 x u rfl rfl, hv 1 y v rfl rfl⟩
theorem arg1 {w : World} {S : Nat → Prop} {vs : Array Value} {x : D} (hl : vs.size = [x].length) (hv : ∀ (i : Nat) d v, [x][i]? = some d → vs[i]? = some v → PRep w S d v) : ∃ u, vs = #[u] ∧ PRep w S x u := by
  obtain ⟨l⟩ := vs
  match l, hl with
  | [u], _ => exact ⟨u, rfl, hv 0 x u rfl rfl⟩
theorem inv_str {w : World} {S : Nat → Prop} {s : List UInt8} {v : Value} (h : PRep w S (.str s) v) : v = .string ⟨s.toArray⟩ := by cases h; rfl
theorem inv_int {w : World} {S : Nat → Prop} {k : IntKind} {n : Int} {v : Value} (h : PRep w S (.int k n) v) : v = .int k n := by cases h; rfl
theorem of_same {P : Program} {f : FuncId} {w : World} {S : Nat → Prop} {vs : Array Value} {d : D} {r : Value} (he : (callFunc f vs).run P w = .ok (.enter f vs) w) (hd : ∀ w' S', PRep w' S' d r) (h : Calls P f vs w fun e w' => e = .returned r ∧ Below w.heap.size w w') :
    ((callFunc f vs).run P w = .ok (.enter f vs) w ∧ Calls P f vs w (fun e w' => ∃ v, e = .returned v ∧ Post w S d v w')) ∨ (∃ v w', (callFunc f vs).run P w = .ok (.value v) w' ∧ Post w S d v w') :=
  .inl ⟨he, Calls.mono h fun e w' ⟨h1, h2⟩ => ⟨r, h1, hd _ _, h2⟩⟩
theorem same_below {w w' : World} (h : w' = w) : Below w.heap.size w w' := by rw [h]; exact Below.refl _ _

theorem hasPrefix_c (s p : List UInt8) : CallsTo Tryz.prog 84 [.str s, .str p] (.bool (Lib.hasPrefix s p)) := by
  intro w S vs hS hg hl hv
  obtain ⟨u, v, rfl, hu, hv⟩ := arg2 hl hv
  rw [inv_str hu, inv_str hv]
  exact of_same (Go.MuLone.run_callFunc_enter (fn := Tryz.f84) rfl (by kernel_rfl) rfl _ w) (fun _ _ => .bool _) (Calls.mono (Any.strings_HasPrefix Tryz.lays99 _ _ w) fun e w' ⟨h1, h2⟩ => ⟨h1, same_below h2⟩)
theorem indexByte_c (s : List UInt8) (c : UInt8) : CallsTo Tryz.prog 85 [.str s, .int .u8 (c.toNat : Int)] (.int .i64 (Lib.indexByte s c)) := by
  intro w S vs hS hg hl hv
  obtain ⟨u, v, rfl, hu, hv⟩ := arg2 hl hv
  rw [inv_str hu, inv_int hv]
  refine of_same (Go.MuLone.run_callFunc_enter (fn := Tryz.f85) rfl (by kernel_rfl) rfl _ w) (fun _ _ => .int _ _) (Calls.mono (Any.strings_IndexByte Tryz.lays137 _ _ w) fun e w' ⟨h1, h2⟩ => ⟨?_, same_below h2⟩)
  rw [h1]
  simp
theorem contains_c (l : List Int) (x : Int) (hl : l.length ≤ 9223372036854775807) : CallsTo Tryz.prog 115 [.sl 1 (l.map (D.int .i64)), .int .i64 x] (.bool (l.contains x)) := by
  intro w S vs hS hg hl hv
  obtain ⟨u, v, rfl, hu, hv⟩ := arg2 hl hv
  rw [inv_int hv]
  cases hu with
  | @sl _ _ A n cap b off us hn hcap hmax hA hsz hc h1 hr =>
    have he : ∀ v, (callFunc 115 v).run Tryz.prog w = .ok (.enter 115 v) w := fun v => Go.MuLone.run_callFunc_enter (fn := Tryz.f115) rfl (by kernel_rfl) rfl _ w
    by_cases hne : l = []
    · subst hne
      simp only [List.map_nil, List.length_nil] at hn
      subst hn
      exact of_same (he _) (fun _ _ => .bool _) (Calls.mono (Any.slices_Contains_int_empty Tryz.lays107 A cap x w) fun e w' ⟨h1, h2⟩ => ⟨h1, same_below h2⟩)
    · obtain ⟨rfl, _⟩ := hA (by simpa using hne)
      rw [List.length_map] at hn
      refine of_same (he _) (fun _ _ => .bool _) (Calls.mono (Any.slices_Contains_int Tryz.lays107 b off n cap l x w (by omega) (by omega) (fun j hj => ?_)) fun e w' ⟨h1, h2⟩ => ⟨?_, same_below h2⟩)
      · have hx : l[j]? = some l[j] := List.getElem?_eq_getElem hj
        have h0 := hc j (.int .i64 l[j]) 0 (.int .i64 l[j]) (by simp [hx]) rfl
        have h2 := inv_int (hr j (.int .i64 l[j]) 0 (.int .i64 l[j]) (by simp [hx]) rfl)
        rw [h2] at h0
        simpa [List.getD, hx] using h0
      · rw [h1, List.take_of_length_le (by omega)]

theorem glo_at {w : World} {S : Nat → Prop} {v : Value} {b : Nat} {d : D} (h : PRep w S .glo v) (hg : glob b = some d) : PRep w S (.cref d 0) (.pointer (some ⟨b, 0, none⟩)) := by
  cases h with
  | glo _ h _ => exact h b d hg
theorem glo_cells {w : World} {S : Nat → Prop} {v : Value} {b : Nat} {cs : Array Value} (h : PRep w S .glo v) (hg : globC b = some cs) : ∃ ty sp, w.heap[b]? = some (.cells cs ty sp) := by
  cases h with
  | glo _ _ h => exact (h b cs hg).2
theorem drewN_below (w : World) (k : Nat) (os : Array Obj) : Below w.heap.size w (Sort.grow (w.drewN k) os) := by
  refine ⟨rfl, rfl, rfl, by simp [Sort.grow, World.drewN], fun j hj => ?_⟩
  simp only [Sort.grow, World.drewN]
  exact Array.getElem?_append_left hj
theorem itoa_c (n : Int) (h0 : -9223372036854775808 ≤ n) (h1 : n ≤ 9223372036854775807) : CallsTo Tryz.prog 35 [.int .i64 n] (.str (Lib.itoa n)) := by
  intro w S vs hS hg hl hv
  obtain ⟨u, rfl, hu⟩ := arg1 hl hv
  rw [inv_int hu]
  obtain ⟨ty, sp, hc⟩ := glo_cells (b := 2) hg rfl
  have htab : Lib.TabIs Tryz.prog w "internal/strconv.uint64pow10" .u64 Lib.pow10Tab := by
    have hn : Tryz.prog.globalNamed "internal/strconv.uint64pow10" = some 2 := by kernel_rfl
    simp only [Lib.TabIs, World.var?, hn, Option.bind_some, hc]
  exact of_same (Go.MuLone.run_callFunc_enter (fn := Tryz.f35) rfl (by kernel_rfl) rfl _ w) (fun _ _ => .str _) (Calls.mono (Any.strconv_Itoa Tryz.lays171 n h0 h1 w htab) fun e w' ⟨h1, k, os, h2⟩ => ⟨h1, by rw [h2]; exact drewN_below w k os⟩)

def atoiD (s : List UInt8) : D := match Lib.atoiAll s with
  | .ok v => .tup [.int .i64 v, .raw .nilIface]
  | .range => .tup [.int .i64 (Lib.atoiSat s), .ifc (Tryz.lays172_ren.t 168) .undef]
  | _ => .tup [.int .i64 0, .ifc (Tryz.lays172_ren.t 168) .undef]
theorem tup2 {w : World} {S : Nat → Prop} {u v : Value} {x y : D} (h1 : PRep w S x u) (h2 : PRep w S y v) : PRep w S (.tup [x, y]) (.tuple #[u, v]) := by
  refine .tup rfl fun i d v hd hv => ?_
  rcases i with _ | _ | i
  · simp at hd hv; subst hd; subst hv; exact h1
  · simp at hd hv; subst hd; subst hv; exact h2
  · simp at hd
theorem err_at {w : World} {S : Nat → Prop} {v : Value} {b : Nat} (h : PRep w S .glo v) (hg : glob b = some (.ifc 211 .undef)) : ∃ ev, w.cell? ⟨b, 0, none⟩ = some ev ∧ (ev = .nilIface ∨ ∃ te pe, ev = .iface te pe) := by
  have h := glo_at h hg
  cases h with
  | @cref _ _ _ off _ us hS hp hc h1 hr =>
    obtain rfl : off = 0 := by omega
    have h2 := hc 0 (.ifc 211 .undef) rfl
    have h3 := hr 0 (.ifc 211 .undef) rfl
    refine ⟨_, h2, .inr ?_⟩
    generalize us 0 = u at h3
    cases h3 with
    | ifc h => exact ⟨_, _, rfl⟩
theorem atoi_c (s : List UInt8) (hs : s.length ≤ 281474976710656) : CallsTo Tryz.prog 83 [.str s] (atoiD s) := by
  intro w S vs hS hg hl hv
  obtain ⟨u, rfl, hu⟩ := arg1 hl hv
  rw [inv_str hu]
  have he := Go.MuLone.run_callFunc_enter (fn := Tryz.f83) (f := 83) (P := Tryz.prog) rfl (by kernel_rfl) rfl #[.string ⟨s.toArray⟩] w
  have hsz : (⟨s.toArray⟩ : ByteArray).size = s.length := by simp [ByteArray.size]
  unfold atoiD
  cases hr : Lib.atoiAll s with
  | ok v =>
    refine of_same he (fun _ _ => tup2 (.int _ _) (.raw _)) (Calls.mono (Any.strconv_Atoi_ok Tryz.lays172 ⟨s.toArray⟩ (by rw [hsz]; omega) v hr w) fun e w' ⟨h1, h2⟩ => ⟨h1, ?_⟩)
    rcases h2 with rfl | ⟨t, rfl⟩
    · exact Below.refl _ _
    · exact Lib.bytesWorld_below _ _ _
  | range =>
    obtain ⟨ev, h1, h2⟩ := err_at (b := 5) hg rfl
    refine .inl ⟨he, Calls.mono (Any.strconv_Atoi_range Tryz.lays172 ⟨s.toArray⟩ (by rw [hsz]; omega) hr ev w h1 h2) fun e w' ⟨N, h1, _, _, h2⟩ => ⟨_, h1, tup2 (.int _ _) (.ifc (.undef _)), h2⟩⟩
  | _ =>
    obtain ⟨ev, h1, h2⟩ := err_at (b := 4) hg rfl
    refine .inl ⟨he, Calls.mono (Any.strconv_Atoi_syntax Tryz.lays172 ⟨s.toArray⟩ (by rw [hsz]; omega) hr ev w h1 h2) fun e w' ⟨N, h1, _, _, h2⟩ => ⟨_, h1, tup2 (.int _ _) (.ifc (.undef _)), h2⟩⟩
theorem map_ba (xs : List (List UInt8)) : ((xs.map fun x => (⟨x.toArray⟩ : ByteArray)).map (·.data.toList)) = xs := by
  induction xs with
  | nil => rfl
  | cons x xs ih => simp only [List.map_cons, ih]
theorem join_c (xs : List (List UInt8)) (sep : List UInt8) (h1 : xs.length ≤ 140737488355328) (h2 : (Lib.join xs sep).length ≤ 140737488355328) : CallsTo Tryz.prog 36 [.sl 1 (xs.map D.str), .str sep] (.str (Lib.join xs sep)) := by
  intro w S vs hS hg hl hv
  obtain ⟨u, v, rfl, hu, hv⟩ := arg2 hl hv
  rw [inv_str hv]
  cases hu with
  | @sl _ _ A n cap b off us hn hcap hmax hA hsz hc h3 hr =>
    have he : ∀ v, (callFunc 36 v).run Tryz.prog w = .ok (.enter 36 v) w := fun v => Go.MuLone.run_callFunc_enter (fn := Tryz.f36) rfl (by kernel_rfl) rfl _ w
    by_cases hne : xs = []
    · subst hne
      simp only [List.map_nil, List.length_nil] at hn
      subst hn
      exact of_same (he _) (fun _ _ => .str _) (Calls.mono (Any.strings_Join_none Tryz.lays156 Tryz.extra156 A cap ⟨sep.toArray⟩ w) fun e w' ⟨h1, h2⟩ => ⟨h1, same_below h2⟩)
    · obtain ⟨rfl, hb⟩ := hA (by simpa using hne)
      rw [List.length_map] at hn
      have hmap := map_ba xs
      have := Any.strings_Join Tryz.lays156 Tryz.extra156 b off cap (xs.map fun x => (⟨x.toArray⟩ : ByteArray)) ⟨sep.toArray⟩ w (fun j x hx => by
        rw [List.getElem?_map, Option.map_eq_some_iff] at hx
        obtain ⟨y, hy, rfl⟩ := hx
        have h0 := hc j (.str y) 0 (.str y) (by simp [hy]) rfl
        have h2 := inv_str (hr j (.str y) 0 (.str y) (by simp [hy]) rfl)
        rw [h2] at h0
        simpa using h0) (hS b hb) (by simpa using h1) (by simp; omega) (by rw [hmap]; exact h2)
      rw [hmap, List.length_map, ← hn] at this
      exact of_same (he _) (fun _ _ => .str _) this
theorem fields_c (s : List UInt8) (hs : s.length < 4294967281) (ha : ∀ b ∈ s, b.toNat < 128) : CallsTo Tryz.prog 86 [.str s] (.sl 1 ((Lib.fields s).map D.str)) := by
  intro w S vs hS hg hl hv
  obtain ⟨u, rfl, hu⟩ := arg1 hl hv
  rw [inv_str hu]
  obtain ⟨ty, sp, hc⟩ := glo_cells (b := 0) hg rfl
  have hn : Tryz.prog.globalNamed "strings.asciiSpace" = some 0 := by kernel_rfl
  have htab : Lib.TabIs Tryz.prog w "strings.asciiSpace" .u8 Lib.asciiSpaceTab := by
    simp only [Lib.TabIs, World.var?, hn, Option.bind_some, hc]
  refine .inl ⟨Go.MuLone.run_callFunc_enter (fn := Tryz.f86) rfl (by kernel_rfl) rfl _ w, Calls.mono (Any.strings_Fields Tryz.lays157 (by kernel_rfl) hn ⟨s.toArray⟩ w (by show s.toArray.size < _; simpa using hs) (fun j b hb => ha b (List.mem_of_getElem? (by simpa using hb))) htab) ?_⟩
  rintro e w' ⟨h1, h2⟩
  refine ⟨_, h1, ?_, by rw [h2]; exact (Below.refl _ _).alloc (Nat.le_refl _) _⟩
  rw [h2]
  show PRep _ _ (.sl 1 ((Lib.fields s).map D.str)) (.slice _ (Lib.fields s).length (Lib.fields s).length)
  have hmax : (Lib.fields s).length ≤ maxLen := by
    have := Lib.fields_length s
    have h3 : ∀ (l : List UInt8) (b : Bool), Lib.cntF b l ≤ l.length := by
      intro l
      induction l with
      | nil => intro b; simp [Lib.cntF]
      | cons x l ih => intro b; simp only [Lib.cntF, List.length_cons]; have := ih (Lib.isSp x); split <;> omega
    have := h3 s true
    simp only [maxLen]
    omega
  refine .sl (b := w.heap.size) (off := 0) (us := fun i _ => .string ⟨((Lib.fields s)[i]?.getD []).toArray⟩) (by simp) (Nat.le_refl _) hmax (fun _ => ⟨rfl, .inr ⟨Nat.le_refl _, by simp⟩⟩) (fun i d hd => ?_) (fun i d j c hd hj => ?_) (fun i d j c hd hj => ?_) (fun i d j c hd hj => ?_)
  · rw [List.getElem?_map, Option.map_eq_some_iff] at hd
    obtain ⟨x, _, rfl⟩ := hd
    rfl
  · rw [List.getElem?_map, Option.map_eq_some_iff] at hd
    obtain ⟨x, hx, rfl⟩ := hd
    have hj0 : j = 0 := by
      cases j with
      | zero => rfl
      | succ j => simp [D.cells] at hj
    subst hj0
    have hlt := (List.getElem?_eq_some_iff.1 hx).1
    simp only [World.cell?, heap_alloc_new]
    simp [hx, hlt, List.getElem?_eq_getElem]
  · rfl
  · rw [List.getElem?_map, Option.map_eq_some_iff] at hd
    obtain ⟨x, hx, rfl⟩ := hd
    have hj0 : j = 0 := by
      cases j with
      | zero => rfl
      | succ j => simp [D.cells] at hj
    subst hj0
    simp only [D.cells, List.getElem?_cons_zero, Option.some.injEq] at hj
    subst hj
    simp only [hx, Option.getD_some]
    exact .str x
end Go.V.Lx
