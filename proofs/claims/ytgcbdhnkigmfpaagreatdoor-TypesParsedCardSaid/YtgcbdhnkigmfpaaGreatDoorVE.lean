/-
  The arguments of a statement, read as data.
  From a law's contract on data to its statement.
-/
import Derived.Test.YtgcbdhnkigmfpaaGreatDoorVC
import Derived.ChangeSame
import Derived.Below
import Derived.ReadAgain
import Derived.Deep.Slices
import Derived.ProofKit
import Derived.OpenShut
namespace Go.V
open Go.RowKit Go.WideShapes Go.ChangeShapes

/-- The shapes of arguments: plain data, to be read. -/
inductive Sh where
  | int (k : IntKind)
  | bool
  | str
  | slice (sz : Nat) (e : Sh)
  | agg (fs : List Sh)

mutual
def Sh.cnt : Sh → Nat
  | .agg fs => Sh.cntL fs
  | _ => 1
def Sh.cntL : List Sh → Nat
  | [] => 0
  | f :: fs => f.cnt + Sh.cntL fs
end

def shFs (P : Program) (sh : TypeId → Option Sh) : Nat → List Field → Option (List Sh)
  | _, [] => some []
  | o, f :: fs => match sh f.type with
    | some s => if f.offset = o ∧ P.cellsOf f.type = s.cnt then (shFs P sh (o + s.cnt) fs).map (s :: ·) else none
    | none => none

def shOf (P : Program) : Nat → TypeId → Option Sh
  | 0, _ => none
  | n + 1, t => match P.underlying t with
    | some .bool => some .bool
    | some (.int k) => some (.int k)
    | some .string => some .str
    | some (.slice e) => match shOf P n e with
      | some s => if P.cellsOf e = s.cnt ∧ 0 < s.cnt ∧ 0 < P.bytesOf e then some (.slice s.cnt s) else none
      | none => none
    | some (.struct fs) => match shFs P (shOf P n) 0 fs.toList with
      | some l => if P.cellsOf t = Sh.cntL l then some (.agg l) else none
      | none => none
    | _ => none

def shsOf (P : Program) (n : Nat) : List TypeId → Option (List Sh)
  | [] => some []
  | t :: ts => match shOf P n t, shsOf P n ts with
    | some s, some ss => some (s :: ss)
    | _, _ => none

def Sh.pack : Sh → List D → D
  | .agg _, ys => .agg ys
  | _, ys => ys.headD .undef

mutual
/-- A list of cells of the shape. -/
def Sh.hasC : Sh → List D → Prop
  | .int k, cs => ∃ n, cs = [.int k n] ∧ (Lit.int k n).wf = true
  | .bool, cs => ∃ b, cs = [.bool b]
  | .str, cs => ∃ s, cs = [.str s] ∧ s.length ≤ reachBytes
  | .slice sz e, cs => ∃ es, cs = [.sl sz es] ∧ es.length ≤ reachBytes ∧ ∀ x ∈ es, ∃ ys, x = e.pack ys ∧ e.hasC ys
  | .agg fs, cs => Sh.hasL fs cs
def Sh.hasL : List Sh → List D → Prop
  | [], cs => cs = []
  | f :: fs, cs => ∃ a b, cs = a ++ b ∧ f.hasC a ∧ Sh.hasL fs b
end

/-- A datum of the shape. -/
def Sh.has (s : Sh) (d : D) : Prop := ∃ ys, d = s.pack ys ∧ s.hasC ys

theorem Sh.pack_cells {s : Sh} {ys : List D} (h : s.hasC ys) : (s.pack ys).cells = ys := by
  cases s with
  | agg fs => rfl
  | int k => simp only [Sh.hasC] at h; obtain ⟨n, rfl, _⟩ := h; rfl
  | bool => simp only [Sh.hasC] at h; obtain ⟨n, rfl⟩ := h; rfl
  | str => simp only [Sh.hasC] at h; obtain ⟨n, rfl, _⟩ := h; rfl
  | slice sz e => simp only [Sh.hasC] at h; obtain ⟨n, rfl, _⟩ := h; rfl

section
variable {H : Type} {enc : TypeId × Value → H} {P : Program} {w : World} {base : Nat} {held : Bool}

/-- Cells that stand for data. -/
def CellsRep (w : World) (ds : List D) (cs : List Value) : Prop :=
  ds.length = cs.length ∧ ∀ (j : Nat) c, ds[j]? = some c → ∃ u, cs[j]? = some u ∧ PRep w (fun b => b < w.heap.size) c u ∧ u.oneCell' = true

theorem CellsRep.one {d : D} {u : Value} (h : PRep w (fun b => b < w.heap.size) d u) (h1 : u.oneCell' = true) : CellsRep w [d] [u] :=
  ⟨rfl, fun j c hj => by
    cases j with
    | zero => simp only [List.getElem?_cons_zero, Option.some.injEq] at hj; subst hj; exact ⟨u, rfl, h, h1⟩
    | succ j => simp at hj⟩

theorem CellsRep.append {ds es : List D} {cs us : List Value} (h : CellsRep w ds cs) (k : CellsRep w es us) : CellsRep w (ds ++ es) (cs ++ us) := by
  refine ⟨by simp [h.1, k.1], fun j c hj => ?_⟩
  by_cases hlt : j < ds.length
  · rw [List.getElem?_append_left hlt] at hj
    rw [List.getElem?_append_left (by rw [← h.1]; exact hlt)]
    exact h.2 j c hj
  · rw [List.getElem?_append_right (by omega)] at hj
    rw [List.getElem?_append_right (by rw [← h.1]; omega), ← h.1]
    exact k.2 _ c hj

/-- Its strings and slices are not greater than a machine's memory. -/
def Light (P : Program) (t : TypeId) (d : DataW H) : Prop := ∀ k ∈ d.weights P t, k ≤ reachBytes
theorem weightsAll_mem {e : TypeId} {k : Nat} : ∀ {l : List (DataW H)} {d : DataW H}, d ∈ l → k ∈ d.weights P e → k ∈ DataW.weightsAll P e l
  | x :: l, d, h, hk => by
    simp only [DataW.weightsAll, List.mem_append]
    rcases List.mem_cons.1 h with rfl | h
    · exact .inl hk
    · exact .inr (weightsAll_mem h hk)
theorem weightsEach_mem {k : Nat} : ∀ {ts : List TypeId} {ds : List (DataW H)} {i : Nat} {t : TypeId} {d : DataW H}, ts[i]? = some t → ds[i]? = some d → k ∈ d.weights P t → k ∈ DataW.weightsEach P ts ds
  | [], ds, i, t, d, h, _, _ => by simp at h
  | _ :: _, [], i, t, d, _, h, _ => by simp at h
  | t' :: ts, d' :: ds, 0, t, d, h1, h2, hk => by
    simp at h1 h2; subst h1; subst h2
    simp only [DataW.weightsEach, List.mem_append]
    exact .inl hk
  | t' :: ts, d' :: ds, i + 1, t, d, h1, h2, hk => by
    simp only [DataW.weightsEach, List.mem_append]
    exact .inr (weightsEach_mem (by simpa using h1) (by simpa using h2) hk)

theorem trod_cells : ∀ (n : Nat) (t : TypeId) (s : Sh) (fuel : Nat) (cs : List Value) (x : DataW H × List MemPlace), shOf P n t = some s → DataW.trod enc P w base (fun _ => true) held fuel t cs = some x → Light P t x.1 →
    ∃ ds, s.hasC ds ∧ CellsRep w ds cs ∧ cs.length = s.cnt
  | 0, _, _, _, _, _, h, _, _ => by simp [shOf] at h
  | n + 1, t, s, fuel, cs, x, h, ht, hwt => by
    simp only [shOf] at h
    split at h
    · rename_i hu
      injection h with h; subst h
      obtain ⟨b, rfl, _⟩ := DataW.trod_bool hu ht
      exact ⟨[.bool b], ⟨b, rfl⟩, .one (.bool b) rfl, rfl⟩
    · rename_i k hu
      injection h with h; subst h
      obtain ⟨i, rfl, _, hw⟩ := DataW.trod_int hu ht
      exact ⟨[.int k i], ⟨i, rfl, hw⟩, .one (.int k i) rfl, rfl⟩
    · rename_i hu
      injection h with h; subst h
      obtain ⟨b, rfl, rfl, hl⟩ := DataW.trod_string hu ht
      exact ⟨[.str b.data.toList], ⟨b.data.toList, rfl, hwt _ (by simp [DataW.weights])⟩, .one (.str b.data.toList) rfl, rfl⟩
    · rename_i e hu
      split at h
      · rename_i se hse
        split at h
        · rename_i hc
          obtain ⟨hce, hpos, hbpos⟩ := hc
          injection h with h; subst h
          rcases Go.Deep.open_slice hu ht with ⟨rfl, _⟩ | ⟨a, len, cap, m, nn, Dx, Pl, rfl, hb, hlc, hcm, hm, hx, hi⟩
          · exact ⟨[.sl se.cnt []], ⟨[], rfl, Nat.zero_le _, fun _ h => by cases h⟩, .one (.sl (b := 0) (off := 0) (us := fun _ _ => undef) rfl (Nat.le_refl _) (Nat.zero_le _) (fun h => absurd rfl h) (by simp) (by simp) (by simp) (by simp)) rfl, rfl⟩
          · simp only [if_true] at hm
            subst hm
            subst hx
            have hlen : len ≤ reachBytes := by
              have h1 := hwt ((len + (m - len)) * P.bytesOf e) (by simp [DataW.weights, hu])
              have h2 : (len + (m - len)) * 1 ≤ (len + (m - len)) * P.bytesOf e := Nat.mul_le_mul_left _ hbpos
              omega
            have hlt : ∀ i, i < len → Light P e (Dx i) := fun i hi k hk => hwt k (by
              simp only [DataW.weights, hu, List.mem_cons, List.mem_append]
              exact .inr (.inl (weightsAll_mem (List.mem_map.2 ⟨i, List.mem_range.2 hi, rfl⟩) hk)))
            have hel : ∀ i, i < len → ∃ ds cs', se.hasC ds ∧ CellsRep w ds cs' ∧ cs'.length = se.cnt ∧ ∀ j, j < se.cnt → w.cell? ((a.add (i * se.cnt)).add j) = cs'[j]? := by
              intro i hil
              obtain ⟨cs', hcs, htr⟩ := hi i (by omega)
              obtain ⟨ds, h1, h2, h3⟩ := trod_cells n e se _ _ _ hse htr (hlt i hil)
              rw [hce] at hcs
              obtain ⟨_, hcl, hat⟩ := World.cells?_some hcs
              exact ⟨ds, cs', h1, h2, h3, hat⟩
            have hpick : ∃ f : Nat → List D, ∀ i, i < len → ∃ cs', se.hasC (f i) ∧ CellsRep w (f i) cs' ∧ cs'.length = se.cnt ∧ ∀ j, j < se.cnt → w.cell? ((a.add (i * se.cnt)).add j) = cs'[j]? := by
              refine ⟨fun i => if hl : i < len then Classical.choose (hel i hl) else [], fun i hl => ?_⟩
              simp only [hl, dif_pos]
              exact Classical.choose_spec (hel i hl)
            obtain ⟨f, hf⟩ := hpick
            have hget : ∀ (i : Nat) d, ((List.range len).map fun i => se.pack (f i))[i]? = some d → i < len ∧ d = se.pack (f i) := by
              intro i d hd
              rw [List.getElem?_map, Option.map_eq_some_iff] at hd
              obtain ⟨k, hk, rfl⟩ := hd
              have hlt := (List.getElem?_eq_some_iff.1 hk).1
              rw [List.length_range] at hlt
              rw [List.getElem?_range hlt] at hk
              injection hk with hk; subst hk
              exact ⟨hlt, rfl⟩
            -- each cell that a datum has lies there
            have hcell : ∀ (i : Nat) d (j : Nat) c, ((List.range len).map fun i => se.pack (f i))[i]? = some d → d.cells[j]? = some c → ∃ u, w.cell? ⟨a.block, a.off + i * se.cnt + j, Option.none⟩ = some u ∧ a.spot = Option.none ∧ a.block < w.heap.size ∧ PRep w (fun b => b < w.heap.size) c u ∧ u.oneCell' = true := by
              intro i d j c hd hj
              obtain ⟨hil, rfl⟩ := hget i d hd
              obtain ⟨cs', h1, h2, h3, h4⟩ := hf i hil
              rw [Sh.pack_cells h1] at hj
              obtain ⟨u, hu, hp, hone⟩ := h2.2 j c hj
              have hjl : j < se.cnt := by have := (List.getElem?_eq_some_iff.1 hu).1; omega
              have hw := (h4 j hjl).trans hu
              have hsp : a.spot = Option.none := by
                obtain ⟨cs0, k1, k2, k3, k4⟩ := hf 0 (by omega)
                have k5 := k4 0 hpos
                rw [Nat.zero_mul] at k5
                have k6 : (a.add 0).add 0 = a := by simp [Addr.add]
                rw [k6, List.getElem?_eq_getElem (show 0 < cs0.length by omega)] at k5
                unfold World.cell? at k5
                split at k5
                · split at k5
                  · cases k5
                  · rename_i hs; simpa using hs
                · cases k5
              have hadd : (a.add (i * se.cnt)).add j = ⟨a.block, a.off + i * se.cnt + j, Option.none⟩ := by
                obtain ⟨b, o, sp⟩ := a
                simp only at hsp
                subst hsp
                rw [Addr.add_none, Addr.add_none]
              rw [hadd] at hw
              refine ⟨u, hw, hsp, ?_, hp, hone⟩
              unfold World.cell? at hw
              split at hw
              · rename_i hg
                exact (Array.getElem?_eq_some_iff.1 hg).1
              · cases hw
            have hus : ∀ (i : Nat) d (j : Nat) c, ((List.range len).map fun i => se.pack (f i))[i]? = some d → d.cells[j]? = some c → w.cell? ⟨a.block, a.off + i * se.cnt + j, Option.none⟩ = some ((w.cell? ⟨a.block, a.off + i * se.cnt + j, Option.none⟩).getD undef) ∧
                PRep w (fun b => b < w.heap.size) c ((w.cell? ⟨a.block, a.off + i * se.cnt + j, Option.none⟩).getD undef) ∧ ((w.cell? ⟨a.block, a.off + i * se.cnt + j, Option.none⟩).getD undef).oneCell' = true := by
              intro i d j c hd hj
              obtain ⟨u, h1, _, _, h2, h3⟩ := hcell i d j c hd hj
              rw [h1]; exact ⟨rfl, h2, h3⟩
            refine ⟨[.sl se.cnt ((List.range len).map fun i => se.pack (f i))], ⟨_, rfl, by simpa using hlen, fun y hy => ?_⟩, .one (.sl (b := a.block) (off := a.off) (us := fun i j => (w.cell? ⟨a.block, a.off + i * se.cnt + j, Option.none⟩).getD undef) (by simp) hlc hcm (fun hne => ?_) (fun i d hd => ?_) (fun i d j c hi hj => (hus i d j c hi hj).1) (fun i d j c hi hj => (hus i d j c hi hj).2.2) (fun i d j c hi hj => (hus i d j c hi hj).2.1)) rfl, rfl⟩
            · obtain ⟨i, hi, rfl⟩ := List.mem_map.1 hy
              obtain ⟨cs', h1, _⟩ := hf i (List.mem_range.1 hi)
              exact ⟨f i, rfl, h1⟩
            · have hl0 : 0 < len := by
                rcases Nat.eq_zero_or_pos len with h0 | h0
                · subst h0; simp at hne
                · exact h0
              have hd0 : ((List.range len).map fun i => se.pack (f i))[0]? = some (se.pack (f 0)) := by rw [List.getElem?_map, List.getElem?_range hl0]; rfl
              obtain ⟨cs', h1, h2, h3, _⟩ := hf 0 hl0
              have hlen : 0 < (se.pack (f 0)).cells.length := by rw [Sh.pack_cells h1, h2.1, h3]; exact hpos
              obtain ⟨u, _, hsp, hbl, _⟩ := hcell 0 _ 0 _ hd0 (List.getElem?_eq_getElem hlen)
              refine ⟨?_, hbl⟩
              obtain ⟨b, o, sp⟩ := a
              simp only at hsp
              subst hsp; rfl
            · obtain ⟨hil, rfl⟩ := hget i d hd
              obtain ⟨cs', h1, h2, h3, _⟩ := hf i hil
              rw [Sh.pack_cells h1, h2.1, h3]
        · cases h
      · cases h
    · rename_i fs hu
      split at h
      · rename_i l hl
        split at h
        · rename_i hc
          injection h with h; subst h
          obtain ⟨xs, m, _, hxx, hcl, hxl, hf⟩ := DataW.trod_struct hu ht
          subst hxx
          have hlt : ∀ (i : Nat) (f : Field) (x : DataW H × List MemPlace), fs[i]? = some f → xs[i]? = some x → Light P f.type x.1 := fun i f x h1 h2 k hk => hwt k (by
            simp only [DataW.weights, hu]
            exact weightsEach_mem (i := i) (by rw [List.getElem?_map, Array.getElem?_toList, h1]; rfl) (by rw [List.getElem?_map, h2]; rfl) hk)
          have key : ∀ (F : List Field) (o : Nat) (l : List Sh) (cs : List Value), shFs P (shOf P n) o F = some l → cs.length = Sh.cntL l → (∀ (i : Nat) (f : Field), F[i]? = some f → ∃ x, DataW.trod enc P w base (fun _ => true) held m f.type ((cs.drop (f.offset - o)).take (P.cellsOf f.type)) = some x ∧ Light P f.type x.1) →
              ∃ ds, Sh.hasL l ds ∧ CellsRep w ds cs := by
            intro F
            induction F with
            | nil =>
              intro o l cs hl hcs _
              simp only [shFs, Option.some.injEq] at hl
              subst hl
              simp only [Sh.cntL] at hcs
              obtain rfl := List.eq_nil_of_length_eq_zero hcs
              exact ⟨[], rfl, rfl, fun j c hj => by simp at hj⟩
            | cons f F ih =>
              intro o l cs hl hcs hf
              simp only [shFs] at hl
              split at hl
              · rename_i s hs
                split at hl
                · rename_i ho
                  rw [Option.map_eq_some_iff] at hl
                  obtain ⟨l', hl', rfl⟩ := hl
                  simp only [Sh.cntL] at hcs
                  obtain ⟨x, hx, hxl2⟩ := hf 0 f rfl
                  rw [ho.1, Nat.sub_self, List.drop_zero, ho.2] at hx
                  obtain ⟨a, h1, h2, h3⟩ := trod_cells n f.type s m _ _ hs hx hxl2
                  obtain ⟨b, k1, k2⟩ := ih (o + s.cnt) l' (cs.drop s.cnt) hl' (by simp; omega) (fun i g hg => by
                    obtain ⟨y, hy, hyl⟩ := hf (i + 1) g (by simpa using hg)
                    refine ⟨y, ?_, hyl⟩
                    have hoff : o + s.cnt ≤ g.offset := by
                      have : ∀ (F : List Field) (o : Nat) (l : List Sh), shFs P (shOf P n) o F = some l → ∀ g ∈ F, o ≤ g.offset := by
                        intro F
                        induction F with
                        | nil => intro o l _ g hg; cases hg
                        | cons f F ih2 =>
                          intro o l hl g hg
                          simp only [shFs] at hl
                          split at hl
                          · split at hl
                            · rename_i ho2
                              rw [Option.map_eq_some_iff] at hl
                              obtain ⟨l2, hl2, _⟩ := hl
                              rcases List.mem_cons.1 hg with rfl | hg
                              · omega
                              · have := ih2 _ _ hl2 g hg; omega
                            · cases hl
                          · cases hl
                      exact this F _ _ hl' g (List.mem_of_getElem? hg)
                    rw [List.drop_drop]
                    have : s.cnt + (g.offset - (o + s.cnt)) = g.offset - o := by omega
                    rw [this]; exact hy)
                  refine ⟨a ++ b, ⟨a, b, rfl, h1, k1⟩, ?_⟩
                  have := h2.append k2
                  rw [List.take_append_drop] at this
                  exact this
                · cases hl
              · cases hl
          obtain ⟨ds, h1, h2⟩ := key fs.toList 0 l cs hl (by rw [hcl, hc]) (fun i f hfi => by
            rw [Nat.sub_zero]
            have hi' : fs[i]? = some f := by rw [← Array.getElem?_toList]; exact hfi
            have hlt' : i < xs.length := by rw [hxl]; exact (Array.getElem?_eq_some_iff.1 hi').1
            exact ⟨xs[i], by rw [hf i f hi']; exact List.getElem?_eq_getElem hlt', hlt i f xs[i] hi' (List.getElem?_eq_getElem hlt')⟩)
          exact ⟨ds, h1, h2, by rw [hcl, hc]; simp [Sh.cnt]⟩
        · cases h
      · cases h
    · cases h

theorem trod_val {r : Reach} {b0 : Nat} {n : Nat} {t : TypeId} {s : Sh} {v : Value} {d : DataW H} {ps : List MemPlace} (hs : shOf P n t = some s) (hok : Value.okWide P w r b0 t v) (h : DataW.Trod enc P w base (fun _ => true) held t v d ps) (hwt : Light P t d) :
    ∃ x, s.has x ∧ PRep w (fun b => b < w.heap.size) x v := by
  obtain ⟨fuel, hf⟩ := h
  obtain ⟨ds, h1, h2, h3⟩ := trod_cells n t s fuel _ _ hs hf hwt
  refine ⟨s.pack ds, ⟨ds, rfl, h1⟩, ?_⟩
  cases n with
  | zero => simp [shOf] at hs
  | succ n =>
    simp only [shOf] at hs
    have single : ∀ y, ds = [y] → v.cells = #[v] → PRep w (fun b => b < w.heap.size) y v := by
      intro y hy hc
      subst hy
      obtain ⟨u, hu, hp, _⟩ := h2.2 0 y rfl
      rw [hc] at hu
      simp only [List.getElem?_cons_zero, Option.some.injEq] at hu
      subst hu; exact hp
    split at hs
    · rename_i hu
      injection hs with hs; subst hs
      obtain ⟨b, rfl⟩ := okWide_bool hu hok
      simp only [Sh.hasC] at h1
      obtain ⟨b', rfl⟩ := h1
      exact single _ rfl rfl
    · rename_i k hu
      injection hs with hs; subst hs
      obtain ⟨b, rfl⟩ := okWide_int hu hok
      simp only [Sh.hasC] at h1
      obtain ⟨b', rfl, _⟩ := h1
      exact single _ rfl rfl
    · rename_i hu
      injection hs with hs; subst hs
      obtain ⟨b, rfl⟩ := okWide_string hu hok
      simp only [Sh.hasC] at h1
      obtain ⟨b', rfl, _⟩ := h1
      exact single _ rfl rfl
    · rename_i e hu
      split at hs
      · split at hs
        · injection hs with hs; subst hs
          obtain ⟨a, l, c, rfl⟩ := okWide_slice hu hok
          simp only [Sh.hasC] at h1
          obtain ⟨b', rfl, _⟩ := h1
          exact single _ rfl rfl
        · cases hs
      · cases hs
    · rename_i fs hu
      split at hs
      · split at hs
        · injection hs with hs; subst hs
          obtain ⟨cs, rfl, hsz⟩ := okWide_struct hu hok
          refine .agg (by have := h2.1; simp only [Value.cells, Array.length_toList] at this; exact this.symm) fun i x u hx hu' => ?_
          obtain ⟨u', hu2, hp, _⟩ := h2.2 i x hx
          simp only [Value.cells, Array.getElem?_toList] at hu2
          rw [hu2] at hu'; injection hu' with hu'; subst hu'; exact hp
        · cases hs
      · cases hs
    · cases hs
end

end Go.V

namespace Go.V
open Go.RowKit Go.WideShapes Go.ChangeShapes Go.ChangeAt

section
variable {H : Type} {enc : TypeId × Value → H} {P : Program} {w w' : World}

theorem trodAll_below {base : Nat} {sp : Nat → Bool} {held : Bool} (hb : Below w.heap.size w w') : ∀ {ts : List TypeId} {vs : List Value} {ds : List (DataW H)} {ps : List MemPlace}, DataW.TrodAll enc P w base sp held ts vs ds ps → DataW.TrodAll enc P w' base sp held ts vs ds ps
  | [], vs, ds, ps, h => by
    obtain ⟨rfl, rfl, rfl⟩ := trodAll_nil h
    rfl
  | t :: ts, vs, ds, ps, h => by
    obtain ⟨v, vs', d, ds', p, q, rfl, rfl, rfl, ⟨n, hn⟩, h2⟩ := trodAll_cons h
    exact trodAll_cons_mk ⟨n, DataW.trod_carry n _ _ _ hn (fun p hp => hb.same (DataW.trod_lt n _ _ _ hn p hp))⟩ (trodAll_below hb h2)

/-- The arguments, as data. -/
def AllHave : List Sh → List D → Prop
  | [], [] => True
  | s :: ss, d :: ds => s.has d ∧ AllHave ss ds
  | _, _ => False

theorem args_rep {b0 n : Nat} : ∀ {ts : List TypeId} {vs : List Value} {ds : List (DataW H)} {ps : List MemPlace} {ss : List Sh}, shsOf P n ts = some ss → (∀ (j : Nat) t v, ts[j]? = some t → vs[j]? = some v → Value.okWide P w .any b0 t v) →
    DataW.TrodAll enc P w 0 (fun _ => true) true ts vs ds ps → (∀ (j : Nat) t d, ts[j]? = some t → ds[j]? = some d → Light P t d) → ∃ xs, AllHave ss xs ∧ vs.length = xs.length ∧ ds.length = ts.length ∧ ∀ (i : Nat) x v, xs[i]? = some x → vs[i]? = some v → PRep w (fun b => b < w.heap.size) x v
  | [], vs, ds, ps, ss, hs, hok, h, _ => by
    obtain ⟨rfl, rfl, rfl⟩ := trodAll_nil h
    simp only [shsOf, Option.some.injEq] at hs
    subst hs
    exact ⟨[], trivial, rfl, rfl, fun i x v hx => by simp at hx⟩
  | t :: ts, vs, ds, ps, ss, hs, hok, h, hwt => by
    obtain ⟨v, vs', d, ds', p, q, rfl, rfl, rfl, h1, h2⟩ := trodAll_cons h
    simp only [shsOf] at hs
    split at hs
    · rename_i s ss' hs1 hs2
      injection hs with hs; subst hs
      obtain ⟨x, g1, g2⟩ := trod_val hs1 (hok 0 t v rfl rfl) h1 (hwt 0 t d rfl rfl)
      obtain ⟨xs, k1, k2, k3, k4⟩ := args_rep hs2 (fun j t v ht hv => hok (j + 1) t v (by simpa using ht) (by simpa using hv)) h2 (fun j t d ht hd => hwt (j + 1) t d (by simpa using ht) (by simpa using hd))
      refine ⟨x :: xs, ⟨g1, k1⟩, by simp [k2], by simp [k3], fun i y u hy hu => ?_⟩
      cases i with
      | zero => simp only [List.getElem?_cons_zero, Option.some.injEq] at hy hu; subst hy; subst hu; exact g2
      | succ i => exact k4 i y u (by simpa using hy) (by simpa using hu)
    · cases hs
end

/-- What is asked of a program so that arguments read again alike. -/
def Fine (P : Program) : Prop := laidOutB P = true ∧ mapsRowed P = true ∧ ∀ t e, t < P.types.size → P.underlying t = some (.slice e) → 0 < P.cellsOf e

theorem law_calls {H : Type} {enc : TypeId × Value → H} {P : Program} (hfine : Fine P) {f : FuncId} {fn : Func} {c : Code} {s : ChangeSpec} {apart fresh handsOn : Bool} {tb : TypeId} {n : Nat} {ss : List Sh} (hf : P.funcs[f]? = some fn) (hbody : fn.body = some c)
    (hname : (fn.name == "runtime.NumGoroutine") = false) (hts : ∀ t ∈ fn.params.toList, t < P.types.size) (hss : shsOf P n fn.params.toList = some ss) (hres : fn.resultTypes = #[tb]) (hbool : P.underlying tb = some .bool) (hvars : s.vars = [])
    (hfn : ∀ ds : List (DataW H), ds.length = fn.params.size → s.fn H ds = { results := [.lit (.bool true)], args := ds }) (hall : ∀ xs, AllHave ss xs → CallsTo P f xs (.bool true))
    (W : World) (hglo : PRep W (fun b => b < W.heap.size) .glo undef) (base : Nat) (args : Array Value) (ds gs : List (DataW H)) (before : List MemPlace)
    (hval : ∀ (j : Nat) t v, fn.params[j]? = some t → args[j]? = some v → Value.okWide P W .any base t v) (hW : DataW.Whole enc P fn.params.toList s.vars apart W args.toList ds gs before) (hwt : (DataW.weightsEach P (fn.params.toList ++ s.plain.varTypes P) (ds ++ gs)).all (· ≤ reachBytes) = true) :
    Calls P f args W fun e W' => ∃ v, e = .returned v ∧ s.post enc P fn apart fresh handsOn false W args v W' := by
  have hW' := hW
  obtain ⟨p, q, hA, hV, hp, _, _⟩ := hW
  rw [hvars] at hV
  obtain ⟨rfl, rfl⟩ := trodVars_none hV
  obtain ⟨xs, k1, k2, k3, k4⟩ := args_rep hss (fun j t v ht hv => hval j t v (by rw [← Array.getElem?_toList]; exact ht) (by rw [← Array.getElem?_toList]; exact hv)) hA (fun j t d ht hd k hk => by
    have h1 := List.all_eq_true.1 hwt k (weightsEach_mem (i := j) (t := t) (d := d) (by rw [List.getElem?_append_left (List.getElem?_eq_some_iff.1 ht).1]; exact ht) (by rw [List.append_nil]; exact hd) hk)
    simpa using h1)
  have key := hall xs k1 W (fun b => b < W.heap.size) args (fun b hb => hb) hglo (by simpa using k2) (fun i x v hx hv => k4 i x v hx (by rw [Array.getElem?_toList]; exact hv))
  have hrun := Go.MuLone.run_callFunc_enter hf hname hbody args W
  rcases key with ⟨_, key⟩ | ⟨v, w', h1, _⟩
  · refine Calls.mono key fun e W' ⟨v, he, hpost⟩ => ⟨v, he, ?_⟩
    obtain ⟨hrep, hb⟩ := hpost
    obtain rfl : v = .bool true := by cases hrep; rfl
    have hk : Kids P (· < P.types.size) := kids_rows hfine.1 hfine.2.1
    have hlen : ds.length = fn.params.size := by rw [k3]; simp
    have hargs : ∀ sp : Nat → Bool, (∀ p ∈ before, sp p.block = true) → DataW.TrodAll enc P W' 0 sp true fn.params.toList args.toList ds p := fun sp hsp => trodAll_below hb (hA.respare hk (fun t e => hfine.2.2 t e) hts (fun x hx => hsp x (by rw [hp]; simp [hx])))
    have hold : ∀ p ∈ before, (fun b => decide (b < W.heap.size)) p.block = true := fun p hp => by simpa using hW'.lt p hp
    refine ⟨ds, [], before, [], p, [], hW', ?_, ?_, ?_, World.keptBut_mono (fun x hx => ⟨hx, ?_⟩) (hb.frame (· ∈ before)), fun h => by cases h⟩
    · rw [List.append_nil, hfn ds hlen, hres]
      exact trodAll_mk1 (shut_bool hbool true)
    · rw [List.append_nil, hfn ds hlen]
      exact hargs _ hold
    · rw [List.append_nil, hfn ds hlen, hvars]
      rfl
    · rw [hp, List.append_nil] at hx
      exact .inr (.inl hx)
  · rw [hrun] at h1; cases h1

theorem fine_of {P : Program} (h1 : laidOutB P = true) (h2 : mapsRowed P = true) (h3 : ((List.range P.types.size).all fun t => match P.underlying t with | some (.slice e) => decide (0 < P.cellsOf e) | _ => true) = true) : Fine P := by
  refine ⟨h1, h2, fun t e ht hu => ?_⟩
  rw [List.all_eq_true] at h3
  have := h3 t (List.mem_range.2 ht)
  rw [hu] at this
  simpa using this
theorem params_lt {P : Program} {ts : List TypeId} (h : (ts.all fun t => decide (t < P.types.size)) = true) : ∀ t ∈ ts, t < P.types.size := by
  intro t ht
  rw [List.all_eq_true] at h
  simpa using h t ht

theorem list_of {α : Type} {es : List D} {f : α → D} (h : ∀ x ∈ es, ∃ a, x = f a) : ∃ l : List α, es = l.map f := by
  induction es with
  | nil => exact ⟨[], rfl⟩
  | cons x es ih =>
    obtain ⟨a, rfl⟩ := h x (by simp)
    obtain ⟨l, rfl⟩ := ih fun y hy => h y (by simp [hy])
    exact ⟨a :: l, rfl⟩
theorem has_int {d : D} (h : (Sh.int .i64).has d) : ∃ n, d = .int .i64 n := by
  obtain ⟨ys, rfl, h⟩ := h
  simp only [Sh.hasC] at h
  obtain ⟨n, rfl, _⟩ := h
  exact ⟨n, rfl⟩
theorem args_nil {xs : List D} (h : AllHave [] xs) : xs = [] := by
  cases xs with
  | nil => rfl
  | cons x xs => exact h.elim
theorem args_cons {s : Sh} {ss : List Sh} {xs : List D} (h : AllHave (s :: ss) xs) : ∃ a r, xs = a :: r ∧ s.has a ∧ AllHave ss r := by
  cases xs with
  | nil => exact h.elim
  | cons x xs => exact ⟨x, xs, rfl, h.1, h.2⟩

end Go.V
