/-
  Lex: the reference's numbers, tokens and texts, on data.
-/
import Derived.Test.YtbnniokcdilpgaaDoorLi
namespace Go.V.Lx
open Go.Proofs Go.RowKit
set_option linter.unusedSimpArgs false
set_option linter.unusedVariables false
set_option maxRecDepth 20000

theorem wrap_u8 {n : Int} (h1 : 0 ≤ n) (h2 : n ≤ 255) : IntKind.u8.wrap n = n := IntWalk.u8_in n ⟨h1, h2⟩
theorem dv_nil : dv 0 [] = 0 := rfl
theorem dv_take {t : List UInt8} {k : Nat} {x : UInt8} (hx : t[k]? = some x) : dv 0 (t.take (k + 1)) = 10 * dv 0 (t.take k) + (x.toNat - 48) := by
  rw [List.take_add_one, hx, Option.toList_some, dv_snoc]
theorem byte_beq (c d : UInt8) : (c == d) = decide ((c.toNat : Int) = (d.toNat : Int)) := by
  rw [Bool.eq_iff_iff]
  simp only [beq_iff_eq, decide_eq_true_eq]
  exact ⟨fun h => by rw [h], fun h => UInt8.toNat_inj.1 (by omega)⟩
theorem dv_mono (t : List UInt8) (k : Nat) : dv 0 (t.take k) ≤ dv 0 t := by
  conv => rhs; rw [← List.take_append_drop k t]
  rw [dv_app]
  exact dv_ge _ _
def numD (t : List UInt8) : D := if dv 0 t ≤ 1099511627776 then .tup [.int .i64 (dv 0 t : Int), .bool (lead t)] else .tup [.int .i64 0, .bool false]
theorem number_rd (t : List UInt8) (hn : t ≠ []) (hf : figs t = true) (hl : t.length ≤ 65536) : fnD Tryd.prog (orac Tryd.prog) [] Tryd.f33 [.str t] (numD t) := by
  refine fn_intro _ [.tmp 2, .tmp 3] _ rfl rfl rfl (by kernel_rfl) ?_
  simp (maxSteps := 1000000) (disch := omega) only [go_sem, reduceIte, Nat.reduceEqDiff, Nat.reduceAdd, Nat.reduceLeDiff, Nat.reduceLT, Nat.reduceSub, Int.reduceLT, Int.reduceLE, Int.reduceEq, Int.reduceToNat, Option.map_some, List.length_map, List.getElem?_map, Int.toNat_natCast]
  refine cD_for t.length (fun k σ _ => σ 0 = .str t ∧ σ 4 = .int .i64 (dv 0 (t.take k) : Int) ∧ σ 5 = .int .i64 k ∧ dv 0 (t.take k) ≤ 1099511627776)
    ⟨by simp [go_sem, argsF], by simp [go_sem, dv_nil], by simp [go_sem], by simp [dv_nil]⟩ ?_ ?_
  · rintro k σ bx hk ⟨h0, h4, h5, hb⟩
    obtain ⟨x, hx⟩ := get_lt hk
    have hfx := (fg_iff x).1 (List.all_eq_true.1 hf x (List.mem_of_getElem? hx))
    have hd := dv_take hx
    generalize hv : dv 0 (t.take k) = v at *
    simp (maxSteps := 1000000) (disch := omega) only [go_sem, reduceIte, Nat.reduceEqDiff, Nat.reduceAdd, Nat.reduceLeDiff, Nat.reduceLT, Nat.reduceSub, Int.reduceLT, Int.reduceLE, Int.reduceEq, Int.reduceToNat, Option.map_some, List.length_map, List.getElem?_map, Int.toNat_natCast, h0, h4, h5]
    refine condD_yes (by omega) ?_
    simp (maxSteps := 1000000) (disch := omega) only [go_sem, reduceIte, Nat.reduceEqDiff, Nat.reduceAdd, Nat.reduceLeDiff, Nat.reduceLT, Nat.reduceSub, Int.reduceLT, Int.reduceLE, Int.reduceEq, Int.reduceToNat, Option.map_some, List.length_map, List.getElem?_map, Int.toNat_natCast, h0, h4, h5, hx]
    rw [wrap_u8 (n := (x.toNat : Int) - 48) (by omega) (by omega), wrap_i64 (n := (x.toNat : Int) - 48) (by omega) (by omega), wrap_i64 (n := 10 * (v : Int)) (by omega) (by omega), wrap_i64 (n := 10 * (v : Int) + _) (by omega) (by omega)]
    have e : 10 * (v : Int) + ((x.toNat : Int) - 48) = ((dv 0 (t.take (k + 1)) : Nat) : Int) := by rw [hd]; omega
    rw [e]
    refine condD_dec (fun hg => ?_) (fun hg => ?_)
    · simp (maxSteps := 1000000) (disch := omega) only [go_sem, reduceIte, Nat.reduceEqDiff, Nat.reduceAdd, Nat.reduceLeDiff, Nat.reduceLT, Nat.reduceSub, Int.reduceLT, Int.reduceLE, Int.reduceEq, Int.reduceToNat, Option.map_some, List.length_map, List.getElem?_map, Int.toNat_natCast, h0, h4, h5]
      have := dv_mono t (k + 1)
      exact weak_eq (by unfold numD; rw [if_neg (by omega)])
    · simp (maxSteps := 1000000) (disch := omega) only [go_sem, reduceIte, Nat.reduceEqDiff, Nat.reduceAdd, Nat.reduceLeDiff, Nat.reduceLT, Nat.reduceSub, Int.reduceLT, Int.reduceLE, Int.reduceEq, Int.reduceToNat, Option.map_some, List.length_map, List.getElem?_map, Int.toNat_natCast, h0, h4, h5]
      rw [wrap_succ (by omega)]
      exact ⟨rfl, by omega⟩
  · rintro σ bx ⟨h0, h4, h5, hb⟩
    rw [List.take_length] at h4 hb
    simp (maxSteps := 1000000) (disch := omega) only [go_sem, reduceIte, Nat.reduceEqDiff, Nat.reduceAdd, Nat.reduceLeDiff, Nat.reduceLT, Nat.reduceSub, Int.reduceLT, Int.reduceLE, Int.reduceEq, Int.reduceToNat, Option.map_some, List.length_map, List.getElem?_map, Int.toNat_natCast, h0, h4, h5]
    refine condD_no (by omega) ?_
    have e : numD t = .tup [.int .i64 (dv 0 t : Int), .bool (lead t)] := by unfold numD; rw [if_pos hb]
    rw [e]
    obtain ⟨c, r, rfl⟩ : ∃ c r, t = c :: r := by
      cases t with
      | nil => exact absurd rfl hn
      | cons c r => exact ⟨c, r, rfl⟩
    have hx : (c :: r)[0]? = some c := rfl
    have hh : (c :: r).head? = some c := rfl
    unfold lead
    rw [hh]
    generalize c :: r = z at *
    repeat' (first | with_reducible refine condD_dec (fun _ => ?_) (fun _ => ?_) | with_reducible refine condD_split (fun _ => ?_) (fun _ => ?_) | simp (maxSteps := 1000000) (disch := omega) only [go_sem, reduceIte, Nat.reduceEqDiff, Nat.reduceAdd, Nat.reduceLeDiff, Nat.reduceLT, Nat.reduceSub, Int.reduceLT, Int.reduceLE, Int.reduceEq, Int.reduceToNat, Option.map_some, List.length_map, List.getElem?_map, Int.toNat_natCast, *])
    all_goals
      refine weak_eq ?_
      simp_all [byte_beq]
      try omega
theorem number_rc (t : List UInt8) (hn : t ≠ []) (hf : figs t = true) (hl : t.length ≤ 65536) : CallsTo Tryd.prog 33 [.str t] (numD t) := fn_calls mixed (number_rd t hn hf hl) rfl (by kernel_rfl) rfl

/-! ### Digits -/
def digB (u : Nat) : List UInt8 := [UInt8.ofNat (48 + u % 10)]
def preB (u : Nat) : List UInt8 := if u < 10 then [] else Lib.decDigits (u / 10)
theorem dec_pre (u : Nat) : Lib.decDigits u = preB u ++ digB u := by
  unfold preB digB
  rw [Lib.decDigits]
  by_cases h : u < 10
  · rw [dif_pos h, if_pos h, Nat.mod_eq_of_lt h]; rfl
  · rw [dif_neg h, if_neg h]
theorem dec_len (u : Nat) : (Lib.decDigits u).length ≤ u + 1 := by
  induction u using Nat.strongRecOn with
  | _ u ih =>
    rw [Lib.decDigits]
    by_cases h : u < 10
    · rw [dif_pos h]; simp
    · rw [dif_neg h, List.length_append, List.length_cons, List.length_nil]
      have := ih (u / 10) (by omega)
      omega
theorem tmod10 (u : Nat) : Int.tmod (u : Int) 10 = ((u % 10 : Nat) : Int) := by rw [Int.tmod_eq_emod_of_nonneg (by omega)]; omega
theorem tdiv10 (u : Nat) : Int.tdiv (u : Int) 10 = ((u / 10 : Nat) : Int) := by rw [Int.tdiv_eq_ediv_of_nonneg (by omega)]; omega
theorem dig_at (u : Nat) : UInt8.ofNat (Int.toNat (IntKind.u8.wrap (IntKind.i64.wrap (48 + ((u % 10 : Nat) : Int))))) = UInt8.ofNat (48 + u % 10) := by
  rw [wrap_i64 (by omega) (by omega), wrap_u8 (by omega) (by omega)]
  congr 1
theorem dig_at' (u : Nat) : UInt8.ofNat (Int.toNat (IntKind.u8.wrap (48 + ((u % 10 : Nat) : Int)))) = UInt8.ofNat (48 + u % 10) := by
  rw [wrap_u8 (by omega) (by omega)]
  congr 1
theorem decimal_d (u : Nat) (hu : u ≤ 4611686018427387904) : fnD Tryd.prog (orac Tryd.prog) [] Tryd.f39 [.int .i64 (u : Int)] (.str (Lib.decDigits u)) := by
  refine fn_intro _ [.tmp 2] _ rfl rfl rfl (by kernel_rfl) ?_
  have hl := dec_len u
  simp (maxSteps := 1000000) (disch := omega) only [go_sem, reduceIte, Nat.reduceEqDiff, Nat.reduceAdd, Nat.reduceLeDiff, Nat.reduceLT, Nat.reduceSub, Int.reduceLT, Int.reduceLE, Int.reduceEq, Int.reduceToNat, Option.map_some, List.length_map, List.getElem?_map, Int.toNat_natCast, tmod10, dig_at]
  refine cD_loop (fun σ _ => ∃ (m : Nat) (s : List UInt8), m ≤ u ∧ σ 0 = .int .i64 (m : Int) ∧ σ 3 = .str s ∧ Lib.decDigits u = preB m ++ s) (fun σ _ => intN (σ 0))
    ⟨u, digB u, Nat.le_refl _, by simp [go_sem, argsF], by simp [go_sem, digB], dec_pre u⟩ ?_
  rintro σ bx ⟨m, s, hm, h0, h3, hd⟩
  have hsl := congrArg List.length hd
  rw [List.length_append] at hsl
  have e1 : [UInt8.ofNat (48 + m / 10 % 10)].length = 1 := rfl
  by_cases hm10 : m < 10
  · have : ¬ (10 : Int) ≤ (m : Int) := by omega
    simp (maxSteps := 1000000) (disch := omega) only [go_sem, reduceIte, Nat.reduceEqDiff, Nat.reduceAdd, Nat.reduceLeDiff, Nat.reduceLT, Nat.reduceSub, Int.reduceLT, Int.reduceLE, Int.reduceEq, Int.reduceToNat, Option.map_some, List.length_map, List.getElem?_map, Int.toNat_natCast, h0, h3, this]
    have : preB m = [] := by unfold preB; rw [if_pos hm10]
    rw [this, List.nil_append] at hd
    exact weak_eq (by rw [hd])
  · have h10 : (10 : Int) ≤ (m : Int) := by omega
    have hw : IntKind.i64.wrap (((m / 10 : Nat) : Int)) = ((m / 10 : Nat) : Int) := wrap_i64 (by omega) (by omega)
    have hpre : preB m = preB (m / 10) ++ digB (m / 10) := by
      conv => lhs; unfold preB
      rw [if_neg hm10, dec_pre]
    simp (maxSteps := 1000000) (disch := omega) only [go_sem, reduceIte, Nat.reduceEqDiff, Nat.reduceAdd, Nat.reduceLeDiff, Nat.reduceLT, Nat.reduceSub, Int.reduceLT, Int.reduceLE, Int.reduceEq, Int.reduceToNat, Option.map_some, List.length_map, List.getElem?_map, Int.toNat_natCast, h0, h3, h10, tdiv10, hw, tmod10, dig_at, List.cons_append, List.nil_append]
    refine ⟨⟨m / 10, _, by omega, rfl, rfl, ?_⟩, by simp only [intN]; omega⟩
    rw [hd, hpre, List.append_assoc]
    rfl
theorem decimal_c (u : Nat) (hu : u ≤ 4611686018427387904) : CallsTo Tryd.prog 39 [.int .i64 (u : Int)] (.str (Lib.decDigits u)) := fn_calls mixed (decimal_d u hu) rfl (by kernel_rfl) rfl
theorem spelled_d (x : Tok) (hx : validB x = true) : fnD Tryd.prog (orac Tryd.prog) [] Tryd.f22 [x.d] (.str (word x)) := by
  refine fn_intro _ [.tmp 2] _ rfl rfl rfl (by kernel_rfl) ?_
  have hxd : x.d = .agg [.int .i64 x.k, .str x.t, .int .i64 x.n, .int .i64 x.a] := rfl
  rw [hxd]
  by_cases hk : x.k = 2
  · have hw : word x = Lib.itoa x.n := by unfold word; rw [if_pos hk]
    have hn : 0 ≤ x.n ∧ x.n ≤ 1099511627776 := by
      have := hx
      unfold validB at this
      rw [if_neg (by omega), if_pos hk] at this
      simp only [Bool.and_eq_true, decide_eq_true_eq] at this
      exact ⟨this.1.2, this.2⟩
    obtain ⟨u, hu⟩ : ∃ u : Nat, x.n = u := ⟨x.n.toNat, by omega⟩
    rw [hw, hu, Lib.itoa_nonneg]
    have hl := dec_len u
    simp (maxSteps := 1000000) (disch := omega) only [go_sem, reduceIte, Nat.reduceEqDiff, Nat.reduceAdd, Nat.reduceLeDiff, Nat.reduceLT, Nat.reduceSub, Int.reduceLT, Int.reduceLE, Int.reduceEq, Int.reduceToNat, Option.map_some, List.length_map, List.getElem?_map, Int.toNat_natCast, hk]
    refine cD_loop (fun σ _ => ∃ (m : Nat) (s : List UInt8), m ≤ u ∧ σ 4 = .int .i64 (m : Int) ∧ σ 3 = .str s ∧ Lib.decDigits u = Lib.decDigits m ++ s) (fun σ _ => intN (σ 4))
      ⟨u, [], Nat.le_refl _, by simp [go_sem], by simp [go_sem], by simp⟩ ?_
    rintro σ bx ⟨m, s, hm, h4, h3, hd⟩
    have hsl := congrArg List.length hd
    rw [List.length_append] at hsl
    have e1 : [UInt8.ofNat (48 + m % 10)].length = 1 := rfl
    have hdp : 0 < (Lib.decDigits m).length := by
      obtain ⟨c, r, h⟩ := dec_cons m
      rw [h]; simp
    have hw : IntKind.i64.wrap (((m / 10 : Nat) : Int)) = ((m / 10 : Nat) : Int) := wrap_i64 (by omega) (by omega)
    simp (maxSteps := 1000000) (disch := omega) only [go_sem, reduceIte, Nat.reduceEqDiff, Nat.reduceAdd, Nat.reduceLeDiff, Nat.reduceLT, Nat.reduceSub, Int.reduceLT, Int.reduceLE, Int.reduceEq, Int.reduceToNat, Option.map_some, List.length_map, List.getElem?_map, Int.toNat_natCast, h4, h3, tmod10, dig_at, List.cons_append, List.nil_append, tdiv10, hw]
    refine condD_dec (fun h10 => ?_) (fun h10 => ?_)
    · simp (maxSteps := 1000000) (disch := omega) only [go_sem, reduceIte, Nat.reduceEqDiff, Nat.reduceAdd, Nat.reduceLeDiff, Nat.reduceLT, Nat.reduceSub, Int.reduceLT, Int.reduceLE, Int.reduceEq, Int.reduceToNat, Option.map_some, List.length_map, List.getElem?_map, Int.toNat_natCast, h4, h3]
      have : Lib.decDigits m = digB m := by
        rw [dec_pre]; unfold preB; rw [if_pos (by omega)]; rfl
      exact weak_eq (by rw [hd, this]; rfl)
    · simp (maxSteps := 1000000) (disch := omega) only [go_sem, reduceIte, Nat.reduceEqDiff, Nat.reduceAdd, Nat.reduceLeDiff, Nat.reduceLT, Nat.reduceSub, Int.reduceLT, Int.reduceLE, Int.reduceEq, Int.reduceToNat, Option.map_some, List.length_map, List.getElem?_map, Int.toNat_natCast, h4, h3, tdiv10, hw]
      refine ⟨⟨m / 10, _, by omega, rfl, rfl, ?_⟩, by simp only [intN]; omega⟩
      rw [hd, dec_pre m]
      have : preB m = Lib.decDigits (m / 10) := by unfold preB; rw [if_neg (by omega)]
      rw [this, List.append_assoc]
      rfl
  · have hw : word x = x.t := by unfold word; rw [if_neg hk]
    rw [hw]
    have hk' : ¬ x.k = 2 := hk
    repeat' (first | with_reducible refine condD_dec (fun _ => ?_) (fun _ => ?_) | with_reducible refine condD_split (fun _ => ?_) (fun _ => ?_) | simp (maxSteps := 1000000) (disch := omega) only [go_sem, reduceIte, Nat.reduceEqDiff, Nat.reduceAdd, Nat.reduceLeDiff, Nat.reduceLT, Nat.reduceSub, Int.reduceLT, Int.reduceLE, Int.reduceEq, Int.reduceToNat, Option.map_some, List.length_map, List.getElem?_map, Int.toNat_natCast, *])
    all_goals first
      | exact .refl _
      | exact absurd (by assumption) hk
theorem spelled_c (x : Tok) (hx : validB x = true) : CallsTo Tryd.prog 22 [x.d] (.str (word x)) := fn_calls mixed (spelled_d x hx) rfl (by kernel_rfl) rfl
end Go.V.Lx
