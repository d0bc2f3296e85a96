/-
  Lex: the text of tokens; equality apart from places.
-/
import Derived.Test.YtgcbdhnkigmfpaaGreatDoorLg
namespace Go.V.Lx
open Go.Proofs Go.RowKit
set_option linter.unusedSimpArgs false
set_option linter.unusedVariables false
set_option maxRecDepth 100000

def word (x : Tok) : List UInt8 := if x.k = 2 then Lib.itoa x.n else x.t
def textL (l : List Tok) : List UInt8 × Int := if l.all validB then (Lib.join (l.map word) [32], 0) else ([], 30)
def textD (r : List UInt8 × Int) : D := .tup [.str r.1, .int .i64 r.2]
/-- the words so far, and room -/
def wordsK (l : List Tok) (k : Nat) : List D := (l.take k).map (fun x => D.str (word x)) ++ List.replicate (l.length - k) (.str [])
theorem wordsK_get {l : List Tok} {k : Nat} (hk : k < l.length) : (wordsK l k)[k]? = some (.str []) := by
  unfold wordsK
  rw [List.getElem?_append_right (by simp; omega)]
  simp only [List.length_map, List.length_take]
  rw [List.getElem?_replicate, if_pos (by omega)]
theorem wordsK_set {l : List Tok} {k : Nat} {x : Tok} (hx : l[k]? = some x) : (wordsK l k).set k (.str (word x)) = wordsK l (k + 1) := by
  have hk := (List.getElem?_eq_some_iff.1 hx).1
  unfold wordsK
  rw [List.set_append_right _ _ (by simp; omega)]
  simp only [List.length_map, List.length_take]
  rw [show k - min k l.length = 0 by omega, show l.length - k = (l.length - (k + 1)) + 1 by omega, List.replicate_succ, List.set_cons_zero, List.take_add_one, hx]
  simp
theorem wordsK_len (l : List Tok) (k : Nat) (h : k ≤ l.length) : (wordsK l k).length = l.length := by
  unfold wordsK; simp; omega
theorem text_d (l : List Tok) (hl : l.length ≤ 1000000) (ht : ∀ x ∈ l, x.t.length ≤ 140737488355328) (hj : ∀ k, (l.take k).all validB = true → (Lib.join ((l.take k).map word) [32]).length ≤ 140737488355328) : fnD Tryz.prog (orac Tryz.prog) [] Tryz.f15 [toks l] (textD (textL l)) := by
  refine fn_intro _ [.tmp 2, .tmp 3] _ rfl rfl rfl (by kernel_rfl) ?_
  simp (maxSteps := 1000000) (disch := omega) only [go_sem, toks]
  rw [if_pos (by omega), if_pos (by omega), if_pos (by omega)]
  simp (maxSteps := 1000000) (disch := omega) only [go_sem, toks, List.length_replicate]
  refine cD_for l.length (fun k σ bx => σ 10 = toks l ∧ σ 11 = .int .i64 l.length ∧ σ 12 = .int .i64 k ∧ σ 4 = .osl 9 1 1 0 l.length ∧ (l.take k).all validB = true ∧
      bx 9 = ⟨1, 1, 1, 9, wordsK l k⟩)
    ⟨by simp [go_sem, toks], by simp [go_sem], by simp [go_sem], by simp [go_sem], by simp, by simp [go_sem, wordsK]⟩ ?_ ?_
  · rintro k σ bx hk ⟨h10, h11, h12, h4, hb, b9⟩
    obtain ⟨x, hx⟩ := get_lt hk
    have hxl : x.t.length ≤ 140737488355328 := ht x (List.mem_of_getElem? hx)
    have hvc := valid_c x hxl
    have hxd : x.d = .agg [.int .i64 x.k, .str x.t, .int .i64 x.n, .int .i64 x.a] := rfl
    rw [hxd] at hvc
    simp (maxSteps := 1000000) (disch := omega) only [go_sem, h10, h11, h12, h4, toks]
    refine condD_yes (by omega) ?_
    simp (maxSteps := 1000000) (disch := omega) only [go_sem, h10, h11, h12, h4, toks, hx, hxd]
    refine call_pure hvc (by simp [go_sem]) ?_
    simp (maxSteps := 1000000) (disch := omega) only [go_sem, h10, h11, h12, h4, toks, hx, hxd]
    refine condD_split (fun hval => ?_) (fun hval => ?_)
    · simp (maxSteps := 1000000) (disch := omega) only [go_sem, h10, h11, h12, h4, toks, hx, hxd]
      have hset := wordsK_set hx
      have hgl := wordsK_get hk
      have hall := take_all validB hx hb hval
      refine condD_dec (fun hk2 => ?_) (fun hk2 => ?_)
      · have hw : word x = Lib.itoa x.n := by unfold word; rw [if_pos hk2]
        have hn : 0 ≤ x.n ∧ x.n ≤ 1099511627776 := by
          have := hval
          unfold validB at this
          rw [if_neg (by omega), if_pos hk2] at this
          simp only [Bool.and_eq_true, decide_eq_true_eq] at this
          exact ⟨this.1.2, this.2⟩
        rw [hw] at hset
        simp (maxSteps := 1000000) (disch := omega) only [go_sem, h10, h11, h12, h4, toks, hx, hxd]
        refine call_pure (itoa_c x.n (by omega) (by omega)) (by simp [go_sem]) ?_
        simp (maxSteps := 1000000) (disch := omega) only [go_sem, h10, h11, h12, h4, toks, hx, hxd, b9, hgl, hset]
        rw [wrap_succ (by omega)]
        exact ⟨rfl, hall⟩
      · have hw : word x = x.t := by unfold word; rw [if_neg hk2]
        rw [hw] at hset
        simp (maxSteps := 1000000) (disch := omega) only [go_sem, h10, h11, h12, h4, toks, hx, hxd, b9, hgl, hset]
        rw [wrap_succ (by omega)]
        exact ⟨rfl, hall⟩
    · simp (maxSteps := 1000000) (disch := omega) only [go_sem, h10, h11, h12, h4, toks, hx, hxd]
      have : textL l = ([], 30) := by unfold textL; rw [if_neg (by rw [all_of validB hx hval]; simp)]
      rw [this]
      exact .refl _
  · rintro σ bx ⟨h10, h11, h12, h4, hb, b9⟩
    simp (maxSteps := 1000000) (disch := omega) only [go_sem, h10, h11, h12, h4, toks]
    refine condD_no (by omega) ?_
    simp (maxSteps := 1000000) (disch := omega) only [go_sem, h10, h11, h12, h4, toks]
    have hl2 := wordsK_len l l.length (Nat.le_refl _)
    have hw : wordsK l l.length = (l.map word).map D.str := by
      unfold wordsK
      simp
    have hpu : ∀ ws : List (List UInt8), D.pureL (ws.map D.str) = true := fun ws => by
      induction ws with
      | nil => rfl
      | cons x ws ih => simp only [List.map_cons, D.pureL, D.pure, ih, Bool.and_self]
    have hlw : l.length = ((l.map word).map D.str).length := by simp
    have ho : outD bx (.osl 9 1 1 0 l.length) = some (.sl 1 ((l.map word).map D.str)) := by
      rw [outD_osl, b9, hw, hlw]
      exact outB_all _ _ _ _ _ _ (by decide) rfl (hpu _)
    have hj := hj l.length hb
    rw [List.take_length] at hj
    refine call_frz (join_c (l.map word) [32] (by simp; omega) hj) (by simp only [outL_cons, outL_nil, ho, outD_str, consO_some]) rfl ?_
    have : textL l = (Lib.join (l.map word) [32], 0) := by
      unfold textL; rw [if_pos (by rw [List.take_length] at hb; exact hb)]
    rw [this]
    simp (maxSteps := 1000000) (disch := omega) only [go_sem, h10, h11, h12, h4, toks]
    exact .refl _
theorem text_c (l : List Tok) (hl : l.length ≤ 1000000) (ht : ∀ x ∈ l, x.t.length ≤ 140737488355328) (hj : ∀ k, (l.take k).all validB = true → (Lib.join ((l.take k).map word) [32]).length ≤ 140737488355328) : CallsTo Tryz.prog 15 [toks l] (textD (textL l)) := fn_calls mixed (text_d l hl ht hj) rfl (by kernel_rfl) rfl

def same1 (x y : Tok) : Bool := decide (x.k = y.k) && (x.t == y.t) && decide (x.n = y.n)
def sameL : List Tok → List Tok → Bool
  | [], [] => true
  | x :: a, y :: b => same1 x y && sameL a b
  | _, _ => false
end Go.V.Lx
