/-
  The document's answer on streams, walked: names, records, which streams may be.
-/
import Derived.Test.YtbemcehcipkliaaNi
namespace Go.Proofs.Ytbemcehcipkliaa.L
open Go
set_option linter.unusedSectionVars false
variable [Globs]
set_option linter.unusedVariables false
theorem cnt_nat2 (n : Nat) : cntM (n : Int) = ((n / 112 + (if 0 < n % 112 ∨ n = 0 then 1 else 0) : Nat) : Int) := by
  rw [cnt_nat]
  split <;> omega
set_option linter.unusedVariables false
set_option linter.unusedSimpArgs false
attribute [local irreducible] J Lq E OpP PRun is any agg tup ptr sl PRunW OpE
attribute [local irreducible] slt nameE lowerN cloT cntM recOk row tB checkM applyM
theorem ch_int (c : UInt8) : chOk c = ((decide ((97 : Int) ≤ (c.toNat : Int)) && decide ((c.toNat : Int) ≤ 122)) || (decide ((48 : Int) ≤ (c.toNat : Int)) && decide ((c.toNat : Int) ≤ 57)) || decide ((c.toNat : Int) = 45) || decide ((c.toNat : Int) = 46)) := by
  have := oddR_ch c
  unfold oddR at this
  have h2 := congrArg not this
  simp only [Bool.not_not] at h2
  exact h2.symm
theorem rncheck_fn (s : Str) (hl : s.length ≤ maxLen) : Fn Try.prog 36 [is (str s)] (is (.int .i64 (nameE s))) := by
  unfold maxLen at hl
  cases s with
  | nil =>
    rw [nameE_bad (by rfl)]
    refine Fn.mk' 50 Try.func36 rfl rfl rfl rfl fun w0 H0 => ?_
    repeat (first | ((first | (apply Lq.s; rfl) | apply PRun.s | (apply Lq.run; rfl; rfl; rfl; exact bsB) | (apply PRun.run; rfl; rfl; exact bsB)); first | (exact bsO)) | apply J.seq | apply E.next | apply J.lq | apply Lq.nil | apply PRun.nil | apply J.block | apply E.in_normal | apply J.skip | (apply Lq.store; rfl; rfl; exact bsP; exact bsS; rfl; rfl) | (apply PRun.al; rfl) | (apply Lq.al; rfl; rfl; intro b) | (apply Open.cons; intro b) | apply Open.nil | (apply Lq.pass; rfl; rfl; rfl) | (apply PRun.pass; rfl; rfl) | (apply Lq.skip; rfl; rfl; rfl; exact bsB) | (apply PRun.skip; rfl; rfl; exact bsB) | (apply J.drawN; exact mixed; kernel_rfl) | (apply J.cond_t; rfl) | (apply J.cond_f; rfl) | apply J.exit | apply E.then_exit | apply E.in_exit | (apply E.in_other; rfl))
    (refine J.ret ?_; (repeat (first | refine E.then_ret ?_ | refine E.in_ret ?_)))
    exact E.ret1 rfl rfl
  | cons c r =>
    have hll : (c :: r).length = r.length + 1 := rfl
    by_cases hl12 : 12 < r.length + 1
    · rw [nameE_bad (by unfold nameOk; rw [List.length_cons, decide_eq_false (show ¬ r.length + 1 ≤ 12 by omega)]; simp)]
      refine Fn.mk' 50 Try.func36 rfl rfl rfl rfl fun w0 H0 => ?_
      repeat (first | ((first | (apply Lq.s; rfl) | apply PRun.s | (apply Lq.run; rfl; rfl; rfl; exact bsB) | (apply PRun.run; rfl; rfl; exact bsB)); first | (exact bsO)) | apply J.seq | apply E.next | apply J.lq | apply Lq.nil | apply PRun.nil | apply J.block | apply E.in_normal | apply J.skip | (apply Lq.store; rfl; rfl; exact bsP; exact bsS; rfl; rfl) | (apply PRun.al; rfl) | (apply Lq.al; rfl; rfl; intro b) | (apply Open.cons; intro b) | apply Open.nil | (apply Lq.pass; rfl; rfl; rfl) | (apply PRun.pass; rfl; rfl) | (apply Lq.skip; rfl; rfl; rfl; exact bsB) | (apply PRun.skip; rfl; rfl; exact bsB) | (apply J.drawN; exact mixed; kernel_rfl) | (apply J.cond_t; rfl) | (apply J.cond_f; rfl) | apply J.exit | apply E.then_exit | apply E.in_exit | (apply E.in_other; rfl))
      (refine J.ret ?_; (repeat (first | refine E.then_ret ?_ | refine E.in_ret ?_)))
      exact E.ret1 rfl rfl
    by_cases hc : c.toNat = 46
    · rw [nameE_bad (by unfold nameOk; rw [List.head?_cons, UInt8.toNat_inj.1 (show c.toNat = (46 : UInt8).toNat from hc)]; simp)]
      refine Fn.mk' 50 Try.func36 rfl rfl rfl rfl fun w0 H0 => ?_
      repeat (first | ((first | (apply Lq.s; rfl) | apply PRun.s | (apply Lq.run; rfl; rfl; rfl; exact bsB) | (apply PRun.run; rfl; rfl; exact bsB)); first | (apply op_sidx (b := c); rfl; rfl; decide; rfl) | (exact bsO)) | apply J.seq | apply E.next | apply J.lq | apply Lq.nil | apply PRun.nil | apply J.block | apply E.in_normal | apply J.skip | (apply Lq.store; rfl; rfl; exact bsP; exact bsS; rfl; rfl) | (apply PRun.al; rfl) | (apply Lq.al; rfl; rfl; intro b) | (apply Open.cons; intro b) | apply Open.nil | (apply Lq.pass; rfl; rfl; rfl) | (apply PRun.pass; rfl; rfl) | (apply Lq.skip; rfl; rfl; rfl; exact bsB) | (apply PRun.skip; rfl; rfl; exact bsB) | (apply J.drawN; exact mixed; kernel_rfl) | (apply J.cond_t; rfl) | (apply J.cond_f; rfl) | apply J.exit | apply E.then_exit | apply E.in_exit | (apply E.in_other; rfl))
      (refine J.ret ?_; (repeat (first | refine E.then_ret ?_ | refine E.in_ret ?_)))
      exact E.ret1 rfl rfl
    have hn := nameOk_cons (c := c) (r := r) (by omega) hc
    refine Fn.mk' 50 Try.func36 rfl rfl rfl rfl fun w0 H0 => ?_
    repeat (first | ((first | (apply Lq.s; rfl) | apply PRun.s | (apply Lq.run; rfl; rfl; rfl; exact bsB) | (apply PRun.run; rfl; rfl; exact bsB)); first | (apply op_sidx (b := c); rfl; rfl; decide; rfl) | (exact bsO)) | apply J.seq | apply E.next | apply J.lq | apply Lq.nil | apply PRun.nil | apply J.block | apply E.in_normal | apply J.skip | (apply Lq.store; rfl; rfl; exact bsP; exact bsS; rfl; rfl) | (apply PRun.al; rfl) | (apply Lq.al; rfl; rfl; intro b) | (apply Open.cons; intro b) | apply Open.nil | (apply Lq.pass; rfl; rfl; rfl) | (apply PRun.pass; rfl; rfl) | (apply Lq.skip; rfl; rfl; rfl; exact bsB) | (apply PRun.skip; rfl; rfl; exact bsB) | (apply J.drawN; exact mixed; kernel_rfl) | (apply J.cond_t; rfl) | (apply J.cond_f; rfl) | apply J.exit | apply E.then_exit | apply E.in_exit | (apply E.in_other; rfl))
    clear hc
    generalize (c :: r) = s at *
    refine J.loop (fun i : Nat => i ≤ s.length ∧ ∀ (j : Nat) (a : UInt8), j < i → s[j]? = some a → chOk a = true) (fun i => [(0, is (str s)), (3, is (.int .i64 (i : Int)))]) (fun _ => []) (fun i => s.length - i) 0 ⟨Nat.zero_le _, fun j a hj => by omega⟩ (Sub.same (by repeat' (first | exact trivial | refine ⟨rfl, ?_⟩))) ?_
    rintro i ⟨hi, hp⟩
    by_cases hlt : i < s.length
    · obtain ⟨q, hq⟩ : ∃ q, s[i]? = some q := ⟨_, List.getElem?_eq_getElem hlt⟩
      have hci := ch_int q
      have again : chOk q = true → ∀ (j : Nat) (a : UInt8), j < i + 1 → s[j]? = some a → chOk a = true := fun ho j a hj ha => by
        rcases Nat.lt_or_eq_of_le (Nat.le_of_lt_succ hj) with h | rfl
        · exact hp j a h ha
        · rw [hq] at ha; injection ha with ha; subst ha; exact ho
      have bad : chOk q = false → nameE s = 130 := fun ho => nameE_bad (hn.trans (all_f i q hq ho))
      by_cases a : (97 : Int) ≤ (q.toNat : Int)
      · by_cases b : (q.toNat : Int) ≤ 122
        · skip
          have ho : chOk q = true := by rw [hci]; simp; omega
          repeat (first | ((first | (apply Lq.s; rfl) | apply PRun.s | (apply Lq.run; rfl; rfl; rfl; exact bsB) | (apply PRun.run; rfl; rfl; exact bsB)); first | (apply op_sidx (b := q); rfl; rfl; exact Int.natCast_nonneg _; (rw [Int.toNat_natCast]; exact hq)) | (exact bsO)) | apply J.seq | apply E.next | apply J.lq | apply Lq.nil | apply PRun.nil | apply J.block | apply E.in_normal | apply J.skip | (apply Lq.store; rfl; rfl; exact bsP; exact bsS; rfl; rfl) | (apply PRun.al; rfl) | (apply Lq.al; rfl; rfl; intro b) | (apply Open.cons; intro b) | apply Open.nil | (apply Lq.pass; rfl; rfl; rfl) | (apply PRun.pass; rfl; rfl) | (apply Lq.skip; rfl; rfl; rfl; exact bsB) | (apply PRun.skip; rfl; rfl; exact bsB) | (apply J.drawN; exact mixed; kernel_rfl) | (apply J.cond_t; rfl) | (apply J.cond_f; rfl) | apply J.exit | apply E.then_exit | apply E.in_exit | (apply E.in_other; rfl))
          exact E.again (i + 1) (by omega) ⟨by omega, again ho⟩ (Sub.same (by repeat' (first | exact trivial | refine ⟨rfl, ?_⟩)))
        · have c : (48 : Int) ≤ (q.toNat : Int) := by omega
          have d : ¬ (q.toNat : Int) ≤ 57 := by omega
          have ho : chOk q = false := by rw [hci]; simp; omega
          repeat (first | ((first | (apply Lq.s; rfl) | apply PRun.s | (apply Lq.run; rfl; rfl; rfl; exact bsB) | (apply PRun.run; rfl; rfl; exact bsB)); first | (apply op_sidx (b := q); rfl; rfl; exact Int.natCast_nonneg _; (rw [Int.toNat_natCast]; exact hq)) | (exact bsO)) | apply J.seq | apply E.next | apply J.lq | apply Lq.nil | apply PRun.nil | apply J.block | apply E.in_normal | apply J.skip | (apply Lq.store; rfl; rfl; exact bsP; exact bsS; rfl; rfl) | (apply PRun.al; rfl) | (apply Lq.al; rfl; rfl; intro b) | (apply Open.cons; intro b) | apply Open.nil | (apply Lq.pass; rfl; rfl; rfl) | (apply PRun.pass; rfl; rfl) | (apply Lq.skip; rfl; rfl; rfl; exact bsB) | (apply PRun.skip; rfl; rfl; exact bsB) | (apply J.drawN; exact mixed; kernel_rfl) | (apply J.cond_t; rfl) | (apply J.cond_f; rfl) | apply J.exit | apply E.then_exit | apply E.in_exit | (apply E.in_other; rfl))
          (refine J.ret ?_; (repeat (first | refine E.then_ret ?_ | refine E.in_ret ?_)))
          rw [bad ho]
          exact E.ret1 rfl rfl
      · by_cases c : (48 : Int) ≤ (q.toNat : Int)
        · by_cases d : (q.toNat : Int) ≤ 57
          · skip
            have ho : chOk q = true := by rw [hci]; simp; omega
            repeat (first | ((first | (apply Lq.s; rfl) | apply PRun.s | (apply Lq.run; rfl; rfl; rfl; exact bsB) | (apply PRun.run; rfl; rfl; exact bsB)); first | (apply op_sidx (b := q); rfl; rfl; exact Int.natCast_nonneg _; (rw [Int.toNat_natCast]; exact hq)) | (exact bsO)) | apply J.seq | apply E.next | apply J.lq | apply Lq.nil | apply PRun.nil | apply J.block | apply E.in_normal | apply J.skip | (apply Lq.store; rfl; rfl; exact bsP; exact bsS; rfl; rfl) | (apply PRun.al; rfl) | (apply Lq.al; rfl; rfl; intro b) | (apply Open.cons; intro b) | apply Open.nil | (apply Lq.pass; rfl; rfl; rfl) | (apply PRun.pass; rfl; rfl) | (apply Lq.skip; rfl; rfl; rfl; exact bsB) | (apply PRun.skip; rfl; rfl; exact bsB) | (apply J.drawN; exact mixed; kernel_rfl) | (apply J.cond_t; rfl) | (apply J.cond_f; rfl) | apply J.exit | apply E.then_exit | apply E.in_exit | (apply E.in_other; rfl))
            exact E.again (i + 1) (by omega) ⟨by omega, again ho⟩ (Sub.same (by repeat' (first | exact trivial | refine ⟨rfl, ?_⟩)))
          · skip
            have ho : chOk q = false := by rw [hci]; simp; omega
            repeat (first | ((first | (apply Lq.s; rfl) | apply PRun.s | (apply Lq.run; rfl; rfl; rfl; exact bsB) | (apply PRun.run; rfl; rfl; exact bsB)); first | (apply op_sidx (b := q); rfl; rfl; exact Int.natCast_nonneg _; (rw [Int.toNat_natCast]; exact hq)) | (exact bsO)) | apply J.seq | apply E.next | apply J.lq | apply Lq.nil | apply PRun.nil | apply J.block | apply E.in_normal | apply J.skip | (apply Lq.store; rfl; rfl; exact bsP; exact bsS; rfl; rfl) | (apply PRun.al; rfl) | (apply Lq.al; rfl; rfl; intro b) | (apply Open.cons; intro b) | apply Open.nil | (apply Lq.pass; rfl; rfl; rfl) | (apply PRun.pass; rfl; rfl) | (apply Lq.skip; rfl; rfl; rfl; exact bsB) | (apply PRun.skip; rfl; rfl; exact bsB) | (apply J.drawN; exact mixed; kernel_rfl) | (apply J.cond_t; rfl) | (apply J.cond_f; rfl) | apply J.exit | apply E.then_exit | apply E.in_exit | (apply E.in_other; rfl))
            (refine J.ret ?_; (repeat (first | refine E.then_ret ?_ | refine E.in_ret ?_)))
            rw [bad ho]
            exact E.ret1 rfl rfl
        · by_cases e : (q.toNat : Int) = 45
          · skip
            have ho : chOk q = true := by rw [hci]; simp; omega
            repeat (first | ((first | (apply Lq.s; rfl) | apply PRun.s | (apply Lq.run; rfl; rfl; rfl; exact bsB) | (apply PRun.run; rfl; rfl; exact bsB)); first | (apply op_sidx (b := q); rfl; rfl; exact Int.natCast_nonneg _; (rw [Int.toNat_natCast]; exact hq)) | (exact bsO)) | apply J.seq | apply E.next | apply J.lq | apply Lq.nil | apply PRun.nil | apply J.block | apply E.in_normal | apply J.skip | (apply Lq.store; rfl; rfl; exact bsP; exact bsS; rfl; rfl) | (apply PRun.al; rfl) | (apply Lq.al; rfl; rfl; intro b) | (apply Open.cons; intro b) | apply Open.nil | (apply Lq.pass; rfl; rfl; rfl) | (apply PRun.pass; rfl; rfl) | (apply Lq.skip; rfl; rfl; rfl; exact bsB) | (apply PRun.skip; rfl; rfl; exact bsB) | (apply J.drawN; exact mixed; kernel_rfl) | (apply J.cond_t; rfl) | (apply J.cond_f; rfl) | apply J.exit | apply E.then_exit | apply E.in_exit | (apply E.in_other; rfl))
            exact E.again (i + 1) (by omega) ⟨by omega, again ho⟩ (Sub.same (by repeat' (first | exact trivial | refine ⟨rfl, ?_⟩)))
          by_cases f : (q.toNat : Int) = 46
          · skip
            have ho : chOk q = true := by rw [hci]; simp; omega
            repeat (first | ((first | (apply Lq.s; rfl) | apply PRun.s | (apply Lq.run; rfl; rfl; rfl; exact bsB) | (apply PRun.run; rfl; rfl; exact bsB)); first | (apply op_sidx (b := q); rfl; rfl; exact Int.natCast_nonneg _; (rw [Int.toNat_natCast]; exact hq)) | (exact bsO)) | apply J.seq | apply E.next | apply J.lq | apply Lq.nil | apply PRun.nil | apply J.block | apply E.in_normal | apply J.skip | (apply Lq.store; rfl; rfl; exact bsP; exact bsS; rfl; rfl) | (apply PRun.al; rfl) | (apply Lq.al; rfl; rfl; intro b) | (apply Open.cons; intro b) | apply Open.nil | (apply Lq.pass; rfl; rfl; rfl) | (apply PRun.pass; rfl; rfl) | (apply Lq.skip; rfl; rfl; rfl; exact bsB) | (apply PRun.skip; rfl; rfl; exact bsB) | (apply J.drawN; exact mixed; kernel_rfl) | (apply J.cond_t; rfl) | (apply J.cond_f; rfl) | apply J.exit | apply E.then_exit | apply E.in_exit | (apply E.in_other; rfl))
            exact E.again (i + 1) (by omega) ⟨by omega, again ho⟩ (Sub.same (by repeat' (first | exact trivial | refine ⟨rfl, ?_⟩)))
          · skip
            have ho : chOk q = false := by rw [hci]; simp; omega
            repeat (first | ((first | (apply Lq.s; rfl) | apply PRun.s | (apply Lq.run; rfl; rfl; rfl; exact bsB) | (apply PRun.run; rfl; rfl; exact bsB)); first | (apply op_sidx (b := q); rfl; rfl; exact Int.natCast_nonneg _; (rw [Int.toNat_natCast]; exact hq)) | (exact bsO)) | apply J.seq | apply E.next | apply J.lq | apply Lq.nil | apply PRun.nil | apply J.block | apply E.in_normal | apply J.skip | (apply Lq.store; rfl; rfl; exact bsP; exact bsS; rfl; rfl) | (apply PRun.al; rfl) | (apply Lq.al; rfl; rfl; intro b) | (apply Open.cons; intro b) | apply Open.nil | (apply Lq.pass; rfl; rfl; rfl) | (apply PRun.pass; rfl; rfl) | (apply Lq.skip; rfl; rfl; rfl; exact bsB) | (apply PRun.skip; rfl; rfl; exact bsB) | (apply J.drawN; exact mixed; kernel_rfl) | (apply J.cond_t; rfl) | (apply J.cond_f; rfl) | apply J.exit | apply E.then_exit | apply E.in_exit | (apply E.in_other; rfl))
            (refine J.ret ?_; (repeat (first | refine E.then_ret ?_ | refine E.in_ret ?_)))
            rw [bad ho]
            exact E.ret1 rfl rfl
    · obtain rfl : i = s.length := by omega
      repeat (first | ((first | (apply Lq.s; rfl) | apply PRun.s | (apply Lq.run; rfl; rfl; rfl; exact bsB) | (apply PRun.run; rfl; rfl; exact bsB)); first | (exact bsO)) | apply J.seq | apply E.next | apply J.lq | apply Lq.nil | apply PRun.nil | apply J.block | apply E.in_normal | apply J.skip | (apply Lq.store; rfl; rfl; exact bsP; exact bsS; rfl; rfl) | (apply PRun.al; rfl) | (apply Lq.al; rfl; rfl; intro b) | (apply Open.cons; intro b) | apply Open.nil | (apply Lq.pass; rfl; rfl; rfl) | (apply PRun.pass; rfl; rfl) | (apply Lq.skip; rfl; rfl; rfl; exact bsB) | (apply PRun.skip; rfl; rfl; exact bsB) | (apply J.drawN; exact mixed; kernel_rfl) | (apply J.cond_t; rfl) | (apply J.cond_f; rfl) | apply J.exit | apply E.then_exit | apply E.in_exit | (apply E.in_other; rfl))
      (refine J.ret ?_; (repeat (first | refine E.then_ret ?_ | refine E.in_ret ?_)))
      rw [nameE_ok (hn.trans (all_at.2 fun j a ha => hp j a (List.getElem?_eq_some_iff.1 ha).1 ha))]
      exact E.ret1 rfl rfl
theorem rcount_fn (n : Nat) (hn : n ≤ 1000000) : Fn Try.prog 56 [is (.int .i64 (n : Int))] (is (.int .i64 (cntM (n : Int)))) := by
  rw [cnt_nat2]
  refine Fn.mk' 18 Try.func56 rfl rfl rfl rfl fun w0 H0 => ?_
  by_cases h1 : 0 < n % 112
  · rw [if_pos (.inl h1)]
    repeat (first | ((first | (apply Lq.s; rfl) | apply PRun.s | (apply Lq.run; rfl; rfl; rfl; exact bsB) | (apply PRun.run; rfl; rfl; exact bsB)); first | (apply op_quon (m := n) (n := 112); rfl; rfl; decide; omega) | (apply op_remn (m := n) (n := 112); rfl; rfl; decide) | (apply op_add (c := ((n / 112 + 1 : Nat) : Int)); rfl; rfl; (rw [show ((n / 112 : Nat) : Int) + 1 = ((n / 112 + 1 : Nat) : Int) by omega]; apply wrapi <;> omega)) | (exact bsO)) | apply J.seq | apply E.next | apply J.lq | apply Lq.nil | apply PRun.nil | apply J.block | apply E.in_normal | apply J.skip | (apply Lq.store; rfl; rfl; exact bsP; exact bsS; rfl; rfl) | (apply PRun.al; rfl) | (apply Lq.al; rfl; rfl; intro b) | (apply Open.cons; intro b) | apply Open.nil | (apply Lq.pass; rfl; rfl; rfl) | (apply PRun.pass; rfl; rfl) | (apply Lq.skip; rfl; rfl; rfl; exact bsB) | (apply PRun.skip; rfl; rfl; exact bsB) | (apply J.drawN; exact mixed; kernel_rfl) | (apply J.cond_t; rfl) | (apply J.cond_f; rfl) | apply J.exit | apply E.then_exit | apply E.in_exit | (apply E.in_other; rfl))
    (refine J.ret ?_; (repeat (first | refine E.then_ret ?_ | refine E.in_ret ?_)))
    exact E.ret1 rfl rfl
  by_cases h2 : n = 0
  · rw [if_pos (.inr h2)]
    repeat (first | ((first | (apply Lq.s; rfl) | apply PRun.s | (apply Lq.run; rfl; rfl; rfl; exact bsB) | (apply PRun.run; rfl; rfl; exact bsB)); first | (apply op_quon (m := n) (n := 112); rfl; rfl; decide; omega) | (apply op_remn (m := n) (n := 112); rfl; rfl; decide) | (apply op_add (c := ((n / 112 + 1 : Nat) : Int)); rfl; rfl; (rw [show ((n / 112 : Nat) : Int) + 1 = ((n / 112 + 1 : Nat) : Int) by omega]; apply wrapi <;> omega)) | (exact bsO)) | apply J.seq | apply E.next | apply J.lq | apply Lq.nil | apply PRun.nil | apply J.block | apply E.in_normal | apply J.skip | (apply Lq.store; rfl; rfl; exact bsP; exact bsS; rfl; rfl) | (apply PRun.al; rfl) | (apply Lq.al; rfl; rfl; intro b) | (apply Open.cons; intro b) | apply Open.nil | (apply Lq.pass; rfl; rfl; rfl) | (apply PRun.pass; rfl; rfl) | (apply Lq.skip; rfl; rfl; rfl; exact bsB) | (apply PRun.skip; rfl; rfl; exact bsB) | (apply J.drawN; exact mixed; kernel_rfl) | (apply J.cond_t; rfl) | (apply J.cond_f; rfl) | apply J.exit | apply E.then_exit | apply E.in_exit | (apply E.in_other; rfl))
    (refine J.ret ?_; (repeat (first | refine E.then_ret ?_ | refine E.in_ret ?_)))
    exact E.ret1 rfl rfl
  · rw [if_neg (by omega)]
    repeat (first | ((first | (apply Lq.s; rfl) | apply PRun.s | (apply Lq.run; rfl; rfl; rfl; exact bsB) | (apply PRun.run; rfl; rfl; exact bsB)); first | (apply op_quon (m := n) (n := 112); rfl; rfl; decide; omega) | (apply op_remn (m := n) (n := 112); rfl; rfl; decide) | (exact bsO)) | apply J.seq | apply E.next | apply J.lq | apply Lq.nil | apply PRun.nil | apply J.block | apply E.in_normal | apply J.skip | (apply Lq.store; rfl; rfl; exact bsP; exact bsS; rfl; rfl) | (apply PRun.al; rfl) | (apply Lq.al; rfl; rfl; intro b) | (apply Open.cons; intro b) | apply Open.nil | (apply Lq.pass; rfl; rfl; rfl) | (apply PRun.pass; rfl; rfl) | (apply Lq.skip; rfl; rfl; rfl; exact bsB) | (apply PRun.skip; rfl; rfl; exact bsB) | (apply J.drawN; exact mixed; kernel_rfl) | (apply J.cond_t; rfl) | (apply J.cond_f; rfl) | apply J.exit | apply E.then_exit | apply E.in_exit | (apply E.in_other; rfl))
    (refine J.ret ?_; (repeat (first | refine E.then_ret ?_ | refine E.in_ret ?_)))
    exact E.ret1 rfl rfl
theorem may_fn16 (r : Rec) : Fn Try.prog 45 [recT.val r] (is (.bool (recOk r))) := by
  refine Fn.mk' 42 Try.func45 rfl rfl rfl rfl fun w0 H0 => ?_
  by_cases h1 : 0 ≤ r.time
  case neg =>
    rw [recOk_f (by omega)]
    repeat (first | ((first | (apply Lq.s; rfl) | apply PRun.s | (apply Lq.run; rfl; rfl; rfl; exact bsB) | (apply PRun.run; rfl; rfl; exact bsB)); first | (apply op_box recT; rfl) | (apply op_faddr rec_time; rfl; decide) | (apply op_faddr rec_len; rfl; decide) | (apply op_faddr rec_run; rfl; decide) | (apply op_faddr run_start; rfl; decide) | (apply op_faddr run_count; rfl; decide) | (apply op_load (intT .i64); rfl) | (exact bsO)) | apply J.seq | apply E.next | apply J.lq | apply Lq.nil | apply PRun.nil | apply J.block | apply E.in_normal | apply J.skip | (apply Lq.store; rfl; rfl; exact bsP; exact bsS; rfl; rfl) | (apply PRun.al; rfl) | (apply Lq.al; rfl; rfl; intro b) | (apply Open.cons; intro b) | apply Open.nil | (apply Lq.pass; rfl; rfl; rfl) | (apply PRun.pass; rfl; rfl) | (apply Lq.skip; rfl; rfl; rfl; exact bsB) | (apply PRun.skip; rfl; rfl; exact bsB) | (apply J.drawN; exact mixed; kernel_rfl) | (apply J.cond_t; rfl) | (apply J.cond_f; rfl) | apply J.exit | apply E.then_exit | apply E.in_exit | (apply E.in_other; rfl))
    (refine J.ret ?_; (repeat (first | refine E.then_ret ?_ | refine E.in_ret ?_)))
    exact E.ret1 rfl rfl
  by_cases h2 : r.time ≤ 1073741824
  case neg =>
    rw [recOk_f (by omega)]
    repeat (first | ((first | (apply Lq.s; rfl) | apply PRun.s | (apply Lq.run; rfl; rfl; rfl; exact bsB) | (apply PRun.run; rfl; rfl; exact bsB)); first | (apply op_box recT; rfl) | (apply op_faddr rec_time; rfl; decide) | (apply op_faddr rec_len; rfl; decide) | (apply op_faddr rec_run; rfl; decide) | (apply op_faddr run_start; rfl; decide) | (apply op_faddr run_count; rfl; decide) | (apply op_load (intT .i64); rfl) | (exact bsO)) | apply J.seq | apply E.next | apply J.lq | apply Lq.nil | apply PRun.nil | apply J.block | apply E.in_normal | apply J.skip | (apply Lq.store; rfl; rfl; exact bsP; exact bsS; rfl; rfl) | (apply PRun.al; rfl) | (apply Lq.al; rfl; rfl; intro b) | (apply Open.cons; intro b) | apply Open.nil | (apply Lq.pass; rfl; rfl; rfl) | (apply PRun.pass; rfl; rfl) | (apply Lq.skip; rfl; rfl; rfl; exact bsB) | (apply PRun.skip; rfl; rfl; exact bsB) | (apply J.drawN; exact mixed; kernel_rfl) | (apply J.cond_t; rfl) | (apply J.cond_f; rfl) | apply J.exit | apply E.then_exit | apply E.in_exit | (apply E.in_other; rfl))
    (refine J.ret ?_; (repeat (first | refine E.then_ret ?_ | refine E.in_ret ?_)))
    exact E.ret1 rfl rfl
  by_cases h3 : 0 ≤ r.len
  case neg =>
    rw [recOk_f (by omega)]
    repeat (first | ((first | (apply Lq.s; rfl) | apply PRun.s | (apply Lq.run; rfl; rfl; rfl; exact bsB) | (apply PRun.run; rfl; rfl; exact bsB)); first | (apply op_box recT; rfl) | (apply op_faddr rec_time; rfl; decide) | (apply op_faddr rec_len; rfl; decide) | (apply op_faddr rec_run; rfl; decide) | (apply op_faddr run_start; rfl; decide) | (apply op_faddr run_count; rfl; decide) | (apply op_load (intT .i64); rfl) | (exact bsO)) | apply J.seq | apply E.next | apply J.lq | apply Lq.nil | apply PRun.nil | apply J.block | apply E.in_normal | apply J.skip | (apply Lq.store; rfl; rfl; exact bsP; exact bsS; rfl; rfl) | (apply PRun.al; rfl) | (apply Lq.al; rfl; rfl; intro b) | (apply Open.cons; intro b) | apply Open.nil | (apply Lq.pass; rfl; rfl; rfl) | (apply PRun.pass; rfl; rfl) | (apply Lq.skip; rfl; rfl; rfl; exact bsB) | (apply PRun.skip; rfl; rfl; exact bsB) | (apply J.drawN; exact mixed; kernel_rfl) | (apply J.cond_t; rfl) | (apply J.cond_f; rfl) | apply J.exit | apply E.then_exit | apply E.in_exit | (apply E.in_other; rfl))
    (refine J.ret ?_; (repeat (first | refine E.then_ret ?_ | refine E.in_ret ?_)))
    exact E.ret1 rfl rfl
  by_cases h4 : r.len ≤ 300
  case neg =>
    rw [recOk_f (by omega)]
    repeat (first | ((first | (apply Lq.s; rfl) | apply PRun.s | (apply Lq.run; rfl; rfl; rfl; exact bsB) | (apply PRun.run; rfl; rfl; exact bsB)); first | (apply op_box recT; rfl) | (apply op_faddr rec_time; rfl; decide) | (apply op_faddr rec_len; rfl; decide) | (apply op_faddr rec_run; rfl; decide) | (apply op_faddr run_start; rfl; decide) | (apply op_faddr run_count; rfl; decide) | (apply op_load (intT .i64); rfl) | (exact bsO)) | apply J.seq | apply E.next | apply J.lq | apply Lq.nil | apply PRun.nil | apply J.block | apply E.in_normal | apply J.skip | (apply Lq.store; rfl; rfl; exact bsP; exact bsS; rfl; rfl) | (apply PRun.al; rfl) | (apply Lq.al; rfl; rfl; intro b) | (apply Open.cons; intro b) | apply Open.nil | (apply Lq.pass; rfl; rfl; rfl) | (apply PRun.pass; rfl; rfl) | (apply Lq.skip; rfl; rfl; rfl; exact bsB) | (apply PRun.skip; rfl; rfl; exact bsB) | (apply J.drawN; exact mixed; kernel_rfl) | (apply J.cond_t; rfl) | (apply J.cond_f; rfl) | apply J.exit | apply E.then_exit | apply E.in_exit | (apply E.in_other; rfl))
    (refine J.ret ?_; (repeat (first | refine E.then_ret ?_ | refine E.in_ret ?_)))
    exact E.ret1 rfl rfl
  by_cases h5 : 0 ≤ r.run.start
  case neg =>
    rw [recOk_f (by omega)]
    repeat (first | ((first | (apply Lq.s; rfl) | apply PRun.s | (apply Lq.run; rfl; rfl; rfl; exact bsB) | (apply PRun.run; rfl; rfl; exact bsB)); first | (apply op_box recT; rfl) | (apply op_faddr rec_time; rfl; decide) | (apply op_faddr rec_len; rfl; decide) | (apply op_faddr rec_run; rfl; decide) | (apply op_faddr run_start; rfl; decide) | (apply op_faddr run_count; rfl; decide) | (apply op_load (intT .i64); rfl) | (exact bsO)) | apply J.seq | apply E.next | apply J.lq | apply Lq.nil | apply PRun.nil | apply J.block | apply E.in_normal | apply J.skip | (apply Lq.store; rfl; rfl; exact bsP; exact bsS; rfl; rfl) | (apply PRun.al; rfl) | (apply Lq.al; rfl; rfl; intro b) | (apply Open.cons; intro b) | apply Open.nil | (apply Lq.pass; rfl; rfl; rfl) | (apply PRun.pass; rfl; rfl) | (apply Lq.skip; rfl; rfl; rfl; exact bsB) | (apply PRun.skip; rfl; rfl; exact bsB) | (apply J.drawN; exact mixed; kernel_rfl) | (apply J.cond_t; rfl) | (apply J.cond_f; rfl) | apply J.exit | apply E.then_exit | apply E.in_exit | (apply E.in_other; rfl))
    (refine J.ret ?_; (repeat (first | refine E.then_ret ?_ | refine E.in_ret ?_)))
    exact E.ret1 rfl rfl
  by_cases h6 : r.run.start < 512
  case neg =>
    rw [recOk_f (by omega)]
    repeat (first | ((first | (apply Lq.s; rfl) | apply PRun.s | (apply Lq.run; rfl; rfl; rfl; exact bsB) | (apply PRun.run; rfl; rfl; exact bsB)); first | (apply op_box recT; rfl) | (apply op_faddr rec_time; rfl; decide) | (apply op_faddr rec_len; rfl; decide) | (apply op_faddr rec_run; rfl; decide) | (apply op_faddr run_start; rfl; decide) | (apply op_faddr run_count; rfl; decide) | (apply op_load (intT .i64); rfl) | (exact bsO)) | apply J.seq | apply E.next | apply J.lq | apply Lq.nil | apply PRun.nil | apply J.block | apply E.in_normal | apply J.skip | (apply Lq.store; rfl; rfl; exact bsP; exact bsS; rfl; rfl) | (apply PRun.al; rfl) | (apply Lq.al; rfl; rfl; intro b) | (apply Open.cons; intro b) | apply Open.nil | (apply Lq.pass; rfl; rfl; rfl) | (apply PRun.pass; rfl; rfl) | (apply Lq.skip; rfl; rfl; rfl; exact bsB) | (apply PRun.skip; rfl; rfl; exact bsB) | (apply J.drawN; exact mixed; kernel_rfl) | (apply J.cond_t; rfl) | (apply J.cond_f; rfl) | apply J.exit | apply E.then_exit | apply E.in_exit | (apply E.in_other; rfl))
    (refine J.ret ?_; (repeat (first | refine E.then_ret ?_ | refine E.in_ret ?_)))
    exact E.ret1 rfl rfl
  rw [recOk_t h1 h2 h3 h4 h5 h6]
  have hc : Fn Try.prog 56 [is (.int .i64 r.len)] (is (.int .i64 (cntM r.len))) := by
    have h := rcount_fn r.len.toNat (by omega)
    rw [show ((r.len.toNat : Nat) : Int) = r.len by omega] at h
    exact h
  repeat (first | ((first | (apply Lq.s; rfl) | apply PRun.s | (apply Lq.run; rfl; rfl; rfl; exact bsB) | (apply PRun.run; rfl; rfl; exact bsB)); first | (apply op_box recT; rfl) | (apply op_faddr rec_time; rfl; decide) | (apply op_faddr rec_len; rfl; decide) | (apply op_faddr rec_run; rfl; decide) | (apply op_faddr run_start; rfl; decide) | (apply op_faddr run_count; rfl; decide) | (apply op_load (intT .i64); rfl) | (apply op_call hc; exact bsD) | (exact bsO)) | apply J.seq | apply E.next | apply J.lq | apply Lq.nil | apply PRun.nil | apply J.block | apply E.in_normal | apply J.skip | (apply Lq.store; rfl; rfl; exact bsP; exact bsS; rfl; rfl) | (apply PRun.al; rfl) | (apply Lq.al; rfl; rfl; intro b) | (apply Open.cons; intro b) | apply Open.nil | (apply Lq.pass; rfl; rfl; rfl) | (apply PRun.pass; rfl; rfl) | (apply Lq.skip; rfl; rfl; rfl; exact bsB) | (apply PRun.skip; rfl; rfl; exact bsB) | (apply J.drawN; exact mixed; kernel_rfl) | (apply J.cond_t; rfl) | (apply J.cond_f; rfl) | apply J.exit | apply E.then_exit | apply E.in_exit | (apply E.in_other; rfl))
  (refine J.ret ?_; (repeat (first | refine E.then_ret ?_ | refine E.in_ret ?_)))
  exact E.ret1 rfl rfl
theorem rtime_fn (n : Int) : Fn Try.prog 63 [is (.int .i64 n)] (is (.bool (tB n))) := by
  refine Fn.mk' 9 Try.func63 rfl rfl rfl rfl fun w0 H0 => ?_
  repeat (first | ((first | (apply Lq.s; rfl) | apply PRun.s | (apply Lq.run; rfl; rfl; rfl; exact bsB) | (apply PRun.run; rfl; rfl; exact bsB)); first | (exact bsO)) | apply J.seq | apply E.next | apply J.lq | apply Lq.nil | apply PRun.nil | apply J.block | apply E.in_normal | apply J.skip | (apply Lq.store; rfl; rfl; exact bsP; exact bsS; rfl; rfl) | (apply PRun.al; rfl) | (apply Lq.al; rfl; rfl; intro b) | (apply Open.cons; intro b) | apply Open.nil | (apply Lq.pass; rfl; rfl; rfl) | (apply PRun.pass; rfl; rfl) | (apply Lq.skip; rfl; rfl; rfl; exact bsB) | (apply PRun.skip; rfl; rfl; exact bsB) | (apply J.drawN; exact mixed; kernel_rfl) | (apply J.cond_t; rfl) | (apply J.cond_f; rfl) | apply J.exit | apply E.then_exit | apply E.in_exit | (apply E.in_other; rfl))
  (first | refine Lq.split rfl rfl rfl (fun hb => ?_) (fun hb => ?_) | refine PRun.split rfl rfl rfl (fun hb => ?_) (fun hb => ?_))
  all_goals
    repeat (first | ((first | (apply Lq.s; rfl) | apply PRun.s | (apply Lq.run; rfl; rfl; rfl; exact bsB) | (apply PRun.run; rfl; rfl; exact bsB)); first | (exact bsO)) | apply J.seq | apply E.next | apply J.lq | apply Lq.nil | apply PRun.nil | apply J.block | apply E.in_normal | apply J.skip | (apply Lq.store; rfl; rfl; exact bsP; exact bsS; rfl; rfl) | (apply PRun.al; rfl) | (apply Lq.al; rfl; rfl; intro b) | (apply Open.cons; intro b) | apply Open.nil | (apply Lq.pass; rfl; rfl; rfl) | (apply PRun.pass; rfl; rfl) | (apply Lq.skip; rfl; rfl; rfl; exact bsB) | (apply PRun.skip; rfl; rfl; exact bsB) | (apply J.drawN; exact mixed; kernel_rfl) | (apply J.cond_t; rfl) | (apply J.cond_f; rfl) | apply J.exit | apply E.then_exit | apply E.in_exit | (apply E.in_other; rfl))
    (refine J.ret ?_; (repeat (first | refine E.then_ret ?_ | refine E.in_ret ?_)))
    refine E.ret1 rfl ?_
    unfold tB
    rw [hb]
    rfl
theorem rtime_t {n : Int} (h : tB n = true) : Fn Try.prog 63 [is (.int .i64 n)] (is (.bool true)) := (rtime_fn n).to (by rw [h])
theorem rtime_f {n : Int} (h : tB n = false) : Fn Try.prog 63 [is (.int .i64 n)] (is (.bool false)) := (rtime_fn n).to (by rw [h])
theorem rlonger_fn (o n : Int) : Fn Try.prog 50 [is (.int .i64 o), is (.int .i64 n)] (is (.int .i64 (errRetain o n))) := by
  refine Fn.mk' 16 Try.func50 rfl rfl rfl rfl fun w0 H0 => ?_
  cases h1 : tB o
  · repeat (first | ((first | (apply Lq.s; rfl) | apply PRun.s | (apply Lq.run; rfl; rfl; rfl; exact bsB) | (apply PRun.run; rfl; rfl; exact bsB)); first | (apply op_call (rtime_f h1); exact bsD) | (exact bsO)) | apply J.seq | apply E.next | apply J.lq | apply Lq.nil | apply PRun.nil | apply J.block | apply E.in_normal | apply J.skip | (apply Lq.store; rfl; rfl; exact bsP; exact bsS; rfl; rfl) | (apply PRun.al; rfl) | (apply Lq.al; rfl; rfl; intro b) | (apply Open.cons; intro b) | apply Open.nil | (apply Lq.pass; rfl; rfl; rfl) | (apply PRun.pass; rfl; rfl) | (apply Lq.skip; rfl; rfl; rfl; exact bsB) | (apply PRun.skip; rfl; rfl; exact bsB) | (apply J.drawN; exact mixed; kernel_rfl) | (apply J.cond_t; rfl) | (apply J.cond_f; rfl) | apply J.exit | apply E.then_exit | apply E.in_exit | (apply E.in_other; rfl))
    (refine J.ret ?_; (repeat (first | refine E.then_ret ?_ | refine E.in_ret ?_)))
    exact E.ret1 rfl (by unfold errRetain; rw [h1]; rfl)
  cases h2 : tB n
  · repeat (first | ((first | (apply Lq.s; rfl) | apply PRun.s | (apply Lq.run; rfl; rfl; rfl; exact bsB) | (apply PRun.run; rfl; rfl; exact bsB)); first | (apply op_call (rtime_t h1); exact bsD) | (apply op_call (rtime_f h2); exact bsD) | (exact bsO)) | apply J.seq | apply E.next | apply J.lq | apply Lq.nil | apply PRun.nil | apply J.block | apply E.in_normal | apply J.skip | (apply Lq.store; rfl; rfl; exact bsP; exact bsS; rfl; rfl) | (apply PRun.al; rfl) | (apply Lq.al; rfl; rfl; intro b) | (apply Open.cons; intro b) | apply Open.nil | (apply Lq.pass; rfl; rfl; rfl) | (apply PRun.pass; rfl; rfl) | (apply Lq.skip; rfl; rfl; rfl; exact bsB) | (apply PRun.skip; rfl; rfl; exact bsB) | (apply J.drawN; exact mixed; kernel_rfl) | (apply J.cond_t; rfl) | (apply J.cond_f; rfl) | apply J.exit | apply E.then_exit | apply E.in_exit | (apply E.in_other; rfl))
    (refine J.ret ?_; (repeat (first | refine E.then_ret ?_ | refine E.in_ret ?_)))
    exact E.ret1 rfl (by unfold errRetain; rw [h1, h2]; rfl)
  repeat (first | ((first | (apply Lq.s; rfl) | apply PRun.s | (apply Lq.run; rfl; rfl; rfl; exact bsB) | (apply PRun.run; rfl; rfl; exact bsB)); first | (apply op_call (rtime_t h1); exact bsD) | (apply op_call (rtime_t h2); exact bsD) | (exact bsO)) | apply J.seq | apply E.next | apply J.lq | apply Lq.nil | apply PRun.nil | apply J.block | apply E.in_normal | apply J.skip | (apply Lq.store; rfl; rfl; exact bsP; exact bsS; rfl; rfl) | (apply PRun.al; rfl) | (apply Lq.al; rfl; rfl; intro b) | (apply Open.cons; intro b) | apply Open.nil | (apply Lq.pass; rfl; rfl; rfl) | (apply PRun.pass; rfl; rfl) | (apply Lq.skip; rfl; rfl; rfl; exact bsB) | (apply PRun.skip; rfl; rfl; exact bsB) | (apply J.drawN; exact mixed; kernel_rfl) | (apply J.cond_t; rfl) | (apply J.cond_f; rfl) | apply J.exit | apply E.then_exit | apply E.in_exit | (apply E.in_other; rfl))
  (refine J.cond _ rfl (fun hb => ?_) (fun hb => ?_))
  · repeat (first | ((first | (apply Lq.s; rfl) | apply PRun.s | (apply Lq.run; rfl; rfl; rfl; exact bsB) | (apply PRun.run; rfl; rfl; exact bsB)); first | (exact bsO)) | apply J.seq | apply E.next | apply J.lq | apply Lq.nil | apply PRun.nil | apply J.block | apply E.in_normal | apply J.skip | (apply Lq.store; rfl; rfl; exact bsP; exact bsS; rfl; rfl) | (apply PRun.al; rfl) | (apply Lq.al; rfl; rfl; intro b) | (apply Open.cons; intro b) | apply Open.nil | (apply Lq.pass; rfl; rfl; rfl) | (apply PRun.pass; rfl; rfl) | (apply Lq.skip; rfl; rfl; rfl; exact bsB) | (apply PRun.skip; rfl; rfl; exact bsB) | (apply J.drawN; exact mixed; kernel_rfl) | (apply J.cond_t; rfl) | (apply J.cond_f; rfl) | apply J.exit | apply E.then_exit | apply E.in_exit | (apply E.in_other; rfl))
    (refine J.ret ?_; (repeat (first | refine E.then_ret ?_ | refine E.in_ret ?_)))
    exact E.ret1 rfl (by unfold errRetain; rw [h1, h2, if_pos (of_decide_eq_true hb)]; rfl)
  · repeat (first | ((first | (apply Lq.s; rfl) | apply PRun.s | (apply Lq.run; rfl; rfl; rfl; exact bsB) | (apply PRun.run; rfl; rfl; exact bsB)); first | (exact bsO)) | apply J.seq | apply E.next | apply J.lq | apply Lq.nil | apply PRun.nil | apply J.block | apply E.in_normal | apply J.skip | (apply Lq.store; rfl; rfl; exact bsP; exact bsS; rfl; rfl) | (apply PRun.al; rfl) | (apply Lq.al; rfl; rfl; intro b) | (apply Open.cons; intro b) | apply Open.nil | (apply Lq.pass; rfl; rfl; rfl) | (apply PRun.pass; rfl; rfl) | (apply Lq.skip; rfl; rfl; rfl; exact bsB) | (apply PRun.skip; rfl; rfl; exact bsB) | (apply J.drawN; exact mixed; kernel_rfl) | (apply J.cond_t; rfl) | (apply J.cond_f; rfl) | apply J.exit | apply E.then_exit | apply E.in_exit | (apply E.in_other; rfl))
    (refine J.ret ?_; (repeat (first | refine E.then_ret ?_ | refine E.in_ret ?_)))
    exact E.ret1 rfl (by unfold errRetain; rw [h1, h2, if_neg (of_decide_eq_false hb)]; rfl)

theorem in_fn (l : List Str) (x : Str) (hl : l.length ≤ 1000000) : Fn Try.prog 49 [sl strT.toTy l, is (str x)] (is (.int .i64 (idxM (fun y => decide (y = x)) l))) := by
  refine Fn.mk' 19 Try.func49 rfl rfl rfl rfl fun w0 H0 => ?_
  repeat (first | ((first | (apply Lq.s; rfl) | apply PRun.s | (apply Lq.run; rfl; rfl; rfl; exact bsB) | (apply PRun.run; rfl; rfl; exact bsB)); first | (exact bsO)) | apply J.seq | apply E.next | apply J.lq | apply Lq.nil | apply PRun.nil | apply J.block | apply E.in_normal | apply J.skip | (apply Lq.store; rfl; rfl; exact bsP; exact bsS; rfl; rfl) | (apply PRun.al; rfl) | (apply Lq.al; rfl; rfl; intro b) | (apply Open.cons; intro b) | apply Open.nil | (apply Lq.pass; rfl; rfl; rfl) | (apply PRun.pass; rfl; rfl) | (apply Lq.skip; rfl; rfl; rfl; exact bsB) | (apply PRun.skip; rfl; rfl; exact bsB) | (apply J.drawN; exact mixed; kernel_rfl) | (apply J.cond_t; rfl) | (apply J.cond_f; rfl) | apply J.exit | apply E.then_exit | apply E.in_exit | (apply E.in_other; rfl))
  refine J.loop (fun i : Nat => i ≤ l.length ∧ ∀ (j : Nat) (a : Str), j < i → l[j]? = some a → (fun y => decide (y = x)) a = false) (fun i => [(0, sl strT.toTy l), (1, is (str x)), (5, is (.int .i64 (i : Int)))]) (fun _ => []) (fun i => l.length - i) 0 ⟨Nat.zero_le _, fun j a hj => by omega⟩ (Sub.same (by repeat' (first | exact trivial | refine ⟨rfl, ?_⟩))) ?_
  rintro i ⟨hi, hp⟩
  by_cases hlt : i < l.length
  · obtain ⟨q, hq⟩ : ∃ q, l[i]? = some q := ⟨_, List.getElem?_eq_getElem hlt⟩
    cases ho : decide (q = x)
    · repeat (first | ((first | (apply Lq.s; rfl) | apply PRun.s | (apply Lq.run; rfl; rfl; rfl; exact bsB) | (apply PRun.run; rfl; rfl; exact bsB)); first | (apply op_iaddr strT.toTy (x := q); rfl; rfl; exact Int.natCast_nonneg _; (rw [Int.toNat_natCast]; exact hq)) | (apply op_load strT; rfl) | (apply op_seql (a := q) (b := x); rfl; rfl) | (exact bsO)) | apply J.seq | apply E.next | apply J.lq | apply Lq.nil | apply PRun.nil | apply J.block | apply E.in_normal | apply J.skip | (apply Lq.store; rfl; rfl; exact bsP; exact bsS; rfl; rfl) | (apply PRun.al; rfl) | (apply Lq.al; rfl; rfl; intro b) | (apply Open.cons; intro b) | apply Open.nil | (apply Lq.pass; rfl; rfl; rfl) | (apply PRun.pass; rfl; rfl) | (apply Lq.skip; rfl; rfl; rfl; exact bsB) | (apply PRun.skip; rfl; rfl; exact bsB) | (apply J.drawN; exact mixed; kernel_rfl) | (apply J.cond_t; rfl) | (apply J.cond_f; rfl) | apply J.exit | apply E.then_exit | apply E.in_exit | (apply E.in_other; rfl))
      rw [ho]
      repeat (first | ((first | (apply Lq.s; rfl) | apply PRun.s | (apply Lq.run; rfl; rfl; rfl; exact bsB) | (apply PRun.run; rfl; rfl; exact bsB)); first | (exact bsO)) | apply J.seq | apply E.next | apply J.lq | apply Lq.nil | apply PRun.nil | apply J.block | apply E.in_normal | apply J.skip | (apply Lq.store; rfl; rfl; exact bsP; exact bsS; rfl; rfl) | (apply PRun.al; rfl) | (apply Lq.al; rfl; rfl; intro b) | (apply Open.cons; intro b) | apply Open.nil | (apply Lq.pass; rfl; rfl; rfl) | (apply PRun.pass; rfl; rfl) | (apply Lq.skip; rfl; rfl; rfl; exact bsB) | (apply PRun.skip; rfl; rfl; exact bsB) | (apply J.drawN; exact mixed; kernel_rfl) | (apply J.cond_t; rfl) | (apply J.cond_f; rfl) | apply J.exit | apply E.then_exit | apply E.in_exit | (apply E.in_other; rfl))
      refine E.again (i + 1) (by omega) ⟨by omega, fun j b hj hb => ?_⟩ (Sub.same (by repeat' (first | exact trivial | refine ⟨rfl, ?_⟩)))
      rcases Nat.lt_or_eq_of_le (Nat.le_of_lt_succ hj) with h | rfl
      · exact hp j b h hb
      · rw [hq] at hb; injection hb with hb; subst hb; exact ho
    · repeat (first | ((first | (apply Lq.s; rfl) | apply PRun.s | (apply Lq.run; rfl; rfl; rfl; exact bsB) | (apply PRun.run; rfl; rfl; exact bsB)); first | (apply op_iaddr strT.toTy (x := q); rfl; rfl; exact Int.natCast_nonneg _; (rw [Int.toNat_natCast]; exact hq)) | (apply op_load strT; rfl) | (apply op_seql (a := q) (b := x); rfl; rfl) | (exact bsO)) | apply J.seq | apply E.next | apply J.lq | apply Lq.nil | apply PRun.nil | apply J.block | apply E.in_normal | apply J.skip | (apply Lq.store; rfl; rfl; exact bsP; exact bsS; rfl; rfl) | (apply PRun.al; rfl) | (apply Lq.al; rfl; rfl; intro b) | (apply Open.cons; intro b) | apply Open.nil | (apply Lq.pass; rfl; rfl; rfl) | (apply PRun.pass; rfl; rfl) | (apply Lq.skip; rfl; rfl; rfl; exact bsB) | (apply PRun.skip; rfl; rfl; exact bsB) | (apply J.drawN; exact mixed; kernel_rfl) | (apply J.cond_t; rfl) | (apply J.cond_f; rfl) | apply J.exit | apply E.then_exit | apply E.in_exit | (apply E.in_other; rfl))
      rw [ho]
      repeat (first | ((first | (apply Lq.s; rfl) | apply PRun.s | (apply Lq.run; rfl; rfl; rfl; exact bsB) | (apply PRun.run; rfl; rfl; exact bsB)); first | (exact bsO)) | apply J.seq | apply E.next | apply J.lq | apply Lq.nil | apply PRun.nil | apply J.block | apply E.in_normal | apply J.skip | (apply Lq.store; rfl; rfl; exact bsP; exact bsS; rfl; rfl) | (apply PRun.al; rfl) | (apply Lq.al; rfl; rfl; intro b) | (apply Open.cons; intro b) | apply Open.nil | (apply Lq.pass; rfl; rfl; rfl) | (apply PRun.pass; rfl; rfl) | (apply Lq.skip; rfl; rfl; rfl; exact bsB) | (apply PRun.skip; rfl; rfl; exact bsB) | (apply J.drawN; exact mixed; kernel_rfl) | (apply J.cond_t; rfl) | (apply J.cond_f; rfl) | apply J.exit | apply E.then_exit | apply E.in_exit | (apply E.in_other; rfl))
      (refine J.ret ?_; (repeat (first | refine E.then_ret ?_ | refine E.in_ret ?_)))
      rw [idxM_t hq ho hp]
      exact E.ret1 rfl rfl
  · obtain rfl : i = l.length := by omega
    repeat (first | ((first | (apply Lq.s; rfl) | apply PRun.s | (apply Lq.run; rfl; rfl; rfl; exact bsB) | (apply PRun.run; rfl; rfl; exact bsB)); first | (exact bsO)) | apply J.seq | apply E.next | apply J.lq | apply Lq.nil | apply PRun.nil | apply J.block | apply E.in_normal | apply J.skip | (apply Lq.store; rfl; rfl; exact bsP; exact bsS; rfl; rfl) | (apply PRun.al; rfl) | (apply Lq.al; rfl; rfl; intro b) | (apply Open.cons; intro b) | apply Open.nil | (apply Lq.pass; rfl; rfl; rfl) | (apply PRun.pass; rfl; rfl) | (apply Lq.skip; rfl; rfl; rfl; exact bsB) | (apply PRun.skip; rfl; rfl; exact bsB) | (apply J.drawN; exact mixed; kernel_rfl) | (apply J.cond_t; rfl) | (apply J.cond_f; rfl) | apply J.exit | apply E.then_exit | apply E.in_exit | (apply E.in_other; rfl))
    (refine J.ret ?_; (repeat (first | refine E.then_ret ?_ | refine E.in_ret ?_)))
    rw [idxM_f fun j b hb => hp j b (List.getElem?_eq_some_iff.1 hb).1 hb]
    exact E.ret1 rfl rfl
theorem checkM_hl {s : StreamS} (h : ¬ s.holds.length ≤ 4) : checkM s = false := checkM_holds (by unfold holdsOk; rw [decide_eq_false h]; simp)
theorem checkM_rl {s : StreamS} (h : ¬ s.recs.length ≤ 64) : checkM s = false := checkM_recs (by unfold recsOk; rw [decide_eq_false h]; simp)
set_option maxHeartbeats 1000000 in
theorem rcheck_fn (s : StreamS) (hx : StreamOk s) (hnm : ∀ x ∈ s.holds, x.length ≤ maxLen) : Fn Try.prog 32 [streamT.val s] (is (.bool (checkM s))) := by
  have hm := hx.2.2
  unfold maxLen at hm
  have hnq := rncheck_fn s.name hx.1
  cases h1 : nameOk s.name
  · rw [nameE_bad h1] at hnq
    rw [checkM_name h1]
    refine Fn.mk' 97 Try.func32 rfl rfl rfl rfl fun w0 H0 => ?_
    repeat (first | ((first | (apply Lq.s; rfl) | apply PRun.s | (apply Lq.run; rfl; rfl; rfl; exact bsB) | (apply PRun.run; rfl; rfl; exact bsB)); first | (apply op_box streamT; rfl) | (apply op_faddr stream_name; rfl; decide) | (apply op_faddr stream_retain; rfl; decide) | (apply op_faddr stream_holds; rfl; decide) | (apply op_faddr stream_recs; rfl; decide) | (apply op_load strT; rfl) | (apply op_load (intT .i64); rfl) | (apply op_load (slT strT); rfl) | (apply op_load (slT recT); rfl) | (apply op_load streamT; rfl) | (apply op_call hnq; exact bsD) | (exact bsO)) | apply J.seq | apply E.next | apply J.lq | apply Lq.nil | apply PRun.nil | apply J.block | apply E.in_normal | apply J.skip | (apply Lq.store; rfl; rfl; exact bsP; exact bsS; rfl; rfl) | (apply PRun.al; rfl) | (apply Lq.al; rfl; rfl; intro b) | (apply Open.cons; intro b) | apply Open.nil | (apply Lq.pass; rfl; rfl; rfl) | (apply PRun.pass; rfl; rfl) | (apply Lq.skip; rfl; rfl; rfl; exact bsB) | (apply PRun.skip; rfl; rfl; exact bsB) | (apply J.drawN; exact mixed; kernel_rfl) | (apply J.cond_t; rfl) | (apply J.cond_f; rfl) | apply J.exit | apply E.then_exit | apply E.in_exit | (apply E.in_other; rfl))
    (refine J.ret ?_; (repeat (first | refine E.then_ret ?_ | refine E.in_ret ?_)))
    exact E.ret1 rfl rfl
  rw [nameE_ok h1] at hnq
  by_cases h2 : 0 ≤ s.retain
  case neg =>
    rw [checkM_ret (by omega)]
    refine Fn.mk' 97 Try.func32 rfl rfl rfl rfl fun w0 H0 => ?_
    repeat (first | ((first | (apply Lq.s; rfl) | apply PRun.s | (apply Lq.run; rfl; rfl; rfl; exact bsB) | (apply PRun.run; rfl; rfl; exact bsB)); first | (apply op_box streamT; rfl) | (apply op_faddr stream_name; rfl; decide) | (apply op_faddr stream_retain; rfl; decide) | (apply op_faddr stream_holds; rfl; decide) | (apply op_faddr stream_recs; rfl; decide) | (apply op_load strT; rfl) | (apply op_load (intT .i64); rfl) | (apply op_load (slT strT); rfl) | (apply op_load (slT recT); rfl) | (apply op_load streamT; rfl) | (apply op_call hnq; exact bsD) | (exact bsO)) | apply J.seq | apply E.next | apply J.lq | apply Lq.nil | apply PRun.nil | apply J.block | apply E.in_normal | apply J.skip | (apply Lq.store; rfl; rfl; exact bsP; exact bsS; rfl; rfl) | (apply PRun.al; rfl) | (apply Lq.al; rfl; rfl; intro b) | (apply Open.cons; intro b) | apply Open.nil | (apply Lq.pass; rfl; rfl; rfl) | (apply PRun.pass; rfl; rfl) | (apply Lq.skip; rfl; rfl; rfl; exact bsB) | (apply PRun.skip; rfl; rfl; exact bsB) | (apply J.drawN; exact mixed; kernel_rfl) | (apply J.cond_t; rfl) | (apply J.cond_f; rfl) | apply J.exit | apply E.then_exit | apply E.in_exit | (apply E.in_other; rfl))
    (refine J.ret ?_; (repeat (first | refine E.then_ret ?_ | refine E.in_ret ?_)))
    exact E.ret1 rfl rfl
  by_cases h3 : s.retain ≤ 1073741824
  case neg =>
    rw [checkM_ret (by omega)]
    refine Fn.mk' 97 Try.func32 rfl rfl rfl rfl fun w0 H0 => ?_
    repeat (first | ((first | (apply Lq.s; rfl) | apply PRun.s | (apply Lq.run; rfl; rfl; rfl; exact bsB) | (apply PRun.run; rfl; rfl; exact bsB)); first | (apply op_box streamT; rfl) | (apply op_faddr stream_name; rfl; decide) | (apply op_faddr stream_retain; rfl; decide) | (apply op_faddr stream_holds; rfl; decide) | (apply op_faddr stream_recs; rfl; decide) | (apply op_load strT; rfl) | (apply op_load (intT .i64); rfl) | (apply op_load (slT strT); rfl) | (apply op_load (slT recT); rfl) | (apply op_load streamT; rfl) | (apply op_call hnq; exact bsD) | (exact bsO)) | apply J.seq | apply E.next | apply J.lq | apply Lq.nil | apply PRun.nil | apply J.block | apply E.in_normal | apply J.skip | (apply Lq.store; rfl; rfl; exact bsP; exact bsS; rfl; rfl) | (apply PRun.al; rfl) | (apply Lq.al; rfl; rfl; intro b) | (apply Open.cons; intro b) | apply Open.nil | (apply Lq.pass; rfl; rfl; rfl) | (apply PRun.pass; rfl; rfl) | (apply Lq.skip; rfl; rfl; rfl; exact bsB) | (apply PRun.skip; rfl; rfl; exact bsB) | (apply J.drawN; exact mixed; kernel_rfl) | (apply J.cond_t; rfl) | (apply J.cond_f; rfl) | apply J.exit | apply E.then_exit | apply E.in_exit | (apply E.in_other; rfl))
    (refine J.ret ?_; (repeat (first | refine E.then_ret ?_ | refine E.in_ret ?_)))
    exact E.ret1 rfl rfl
  by_cases h4 : s.holds.length ≤ 4
  case neg =>
    rw [checkM_hl h4]
    refine Fn.mk' 97 Try.func32 rfl rfl rfl rfl fun w0 H0 => ?_
    repeat (first | ((first | (apply Lq.s; rfl) | apply PRun.s | (apply Lq.run; rfl; rfl; rfl; exact bsB) | (apply PRun.run; rfl; rfl; exact bsB)); first | (apply op_box streamT; rfl) | (apply op_faddr stream_name; rfl; decide) | (apply op_faddr stream_retain; rfl; decide) | (apply op_faddr stream_holds; rfl; decide) | (apply op_faddr stream_recs; rfl; decide) | (apply op_load strT; rfl) | (apply op_load (intT .i64); rfl) | (apply op_load (slT strT); rfl) | (apply op_load (slT recT); rfl) | (apply op_load streamT; rfl) | (apply op_call hnq; exact bsD) | (apply op_len (xs := s.holds); rfl) | (exact bsO)) | apply J.seq | apply E.next | apply J.lq | apply Lq.nil | apply PRun.nil | apply J.block | apply E.in_normal | apply J.skip | (apply Lq.store; rfl; rfl; exact bsP; exact bsS; rfl; rfl) | (apply PRun.al; rfl) | (apply Lq.al; rfl; rfl; intro b) | (apply Open.cons; intro b) | apply Open.nil | (apply Lq.pass; rfl; rfl; rfl) | (apply PRun.pass; rfl; rfl) | (apply Lq.skip; rfl; rfl; rfl; exact bsB) | (apply PRun.skip; rfl; rfl; exact bsB) | (apply J.drawN; exact mixed; kernel_rfl) | (apply J.cond_t; rfl) | (apply J.cond_f; rfl) | apply J.exit | apply E.then_exit | apply E.in_exit | (apply E.in_other; rfl))
    (refine J.ret ?_; (repeat (first | refine E.then_ret ?_ | refine E.in_ret ?_)))
    exact E.ret1 rfl rfl
  by_cases h5 : s.recs.length ≤ 64
  case neg =>
    rw [checkM_rl h5]
    refine Fn.mk' 97 Try.func32 rfl rfl rfl rfl fun w0 H0 => ?_
    repeat (first | ((first | (apply Lq.s; rfl) | apply PRun.s | (apply Lq.run; rfl; rfl; rfl; exact bsB) | (apply PRun.run; rfl; rfl; exact bsB)); first | (apply op_box streamT; rfl) | (apply op_faddr stream_name; rfl; decide) | (apply op_faddr stream_retain; rfl; decide) | (apply op_faddr stream_holds; rfl; decide) | (apply op_faddr stream_recs; rfl; decide) | (apply op_load strT; rfl) | (apply op_load (intT .i64); rfl) | (apply op_load (slT strT); rfl) | (apply op_load (slT recT); rfl) | (apply op_load streamT; rfl) | (apply op_call hnq; exact bsD) | (apply op_len (xs := s.holds); rfl) | (apply op_len (xs := s.recs); rfl) | (exact bsO)) | apply J.seq | apply E.next | apply J.lq | apply Lq.nil | apply PRun.nil | apply J.block | apply E.in_normal | apply J.skip | (apply Lq.store; rfl; rfl; exact bsP; exact bsS; rfl; rfl) | (apply PRun.al; rfl) | (apply Lq.al; rfl; rfl; intro b) | (apply Open.cons; intro b) | apply Open.nil | (apply Lq.pass; rfl; rfl; rfl) | (apply PRun.pass; rfl; rfl) | (apply Lq.skip; rfl; rfl; rfl; exact bsB) | (apply PRun.skip; rfl; rfl; exact bsB) | (apply J.drawN; exact mixed; kernel_rfl) | (apply J.cond_t; rfl) | (apply J.cond_f; rfl) | apply J.exit | apply E.then_exit | apply E.in_exit | (apply E.in_other; rfl))
    (refine J.ret ?_; (repeat (first | refine E.then_ret ?_ | refine E.in_ret ?_)))
    exact E.ret1 rfl rfl
  refine Fn.mk' 97 Try.func32 rfl rfl rfl rfl fun w0 H0 => ?_
  repeat (first | ((first | (apply Lq.s; rfl) | apply PRun.s | (apply Lq.run; rfl; rfl; rfl; exact bsB) | (apply PRun.run; rfl; rfl; exact bsB)); first | (apply op_box streamT; rfl) | (apply op_faddr stream_name; rfl; decide) | (apply op_faddr stream_retain; rfl; decide) | (apply op_faddr stream_holds; rfl; decide) | (apply op_faddr stream_recs; rfl; decide) | (apply op_load strT; rfl) | (apply op_load (intT .i64); rfl) | (apply op_load (slT strT); rfl) | (apply op_load (slT recT); rfl) | (apply op_load streamT; rfl) | (apply op_call hnq; exact bsD) | (apply op_len (xs := s.holds); rfl) | (apply op_len (xs := s.recs); rfl) | (exact bsO)) | apply J.seq | apply E.next | apply J.lq | apply Lq.nil | apply PRun.nil | apply J.block | apply E.in_normal | apply J.skip | (apply Lq.store; rfl; rfl; exact bsP; exact bsS; rfl; rfl) | (apply PRun.al; rfl) | (apply Lq.al; rfl; rfl; intro b) | (apply Open.cons; intro b) | apply Open.nil | (apply Lq.pass; rfl; rfl; rfl) | (apply PRun.pass; rfl; rfl) | (apply Lq.skip; rfl; rfl; rfl; exact bsB) | (apply PRun.skip; rfl; rfl; exact bsB) | (apply J.drawN; exact mixed; kernel_rfl) | (apply J.cond_t; rfl) | (apply J.cond_f; rfl) | apply J.exit | apply E.then_exit | apply E.in_exit | (apply E.in_other; rfl))
  refine J.loop (fun i : Nat => i ≤ s.holds.length ∧ (∀ (j : Nat) (a : Str), j < i → s.holds[j]? = some a → nameOk a = true) ∧ ∀ (j : Nat) (a b : Str), j + 1 < i → s.holds[j]? = some a → s.holds[j + 1]? = some b → slt a b = true) (fun i => [(1, ptr (streamT.cells s)), (3, is (.int .i64 (i : Int)))]) (fun _ => []) (fun i => s.holds.length - i) 0 ⟨Nat.zero_le _, fun j a hj => by omega, fun j a b hj => by omega⟩ (Sub.same (by repeat' (first | exact trivial | refine ⟨rfl, ?_⟩))) ?_
  rintro i ⟨hi, hn, hp⟩
  by_cases hlt : i < s.holds.length
  · obtain ⟨q, hq⟩ : ∃ q, s.holds[i]? = some q := ⟨_, List.getElem?_eq_getElem hlt⟩
    have hnq := rncheck_fn q (hnm q (List.mem_of_getElem? hq))
    cases ho : nameOk q
    · rw [nameE_bad ho] at hnq
      repeat (first | ((first | (apply Lq.s; rfl) | apply PRun.s | (apply Lq.run; rfl; rfl; rfl; exact bsB) | (apply PRun.run; rfl; rfl; exact bsB)); first | (apply op_box streamT; rfl) | (apply op_faddr stream_name; rfl; decide) | (apply op_faddr stream_retain; rfl; decide) | (apply op_faddr stream_holds; rfl; decide) | (apply op_faddr stream_recs; rfl; decide) | (apply op_load strT; rfl) | (apply op_load (intT .i64); rfl) | (apply op_load (slT strT); rfl) | (apply op_load (slT recT); rfl) | (apply op_load streamT; rfl) | (apply op_len (xs := s.holds); rfl) | (apply op_iaddr strT.toTy (x := q); rfl; rfl; exact Int.natCast_nonneg _; (rw [Int.toNat_natCast]; exact hq)) | (apply op_call hnq; exact bsD) | (exact bsO)) | apply J.seq | apply E.next | apply J.lq | apply Lq.nil | apply PRun.nil | apply J.block | apply E.in_normal | apply J.skip | (apply Lq.store; rfl; rfl; exact bsP; exact bsS; rfl; rfl) | (apply PRun.al; rfl) | (apply Lq.al; rfl; rfl; intro b) | (apply Open.cons; intro b) | apply Open.nil | (apply Lq.pass; rfl; rfl; rfl) | (apply PRun.pass; rfl; rfl) | (apply Lq.skip; rfl; rfl; rfl; exact bsB) | (apply PRun.skip; rfl; rfl; exact bsB) | (apply J.drawN; exact mixed; kernel_rfl) | (apply J.cond_t; rfl) | (apply J.cond_f; rfl) | apply J.exit | apply E.then_exit | apply E.in_exit | (apply E.in_other; rfl))
      (refine J.ret ?_; (repeat (first | refine E.then_ret ?_ | refine E.in_ret ?_)))
      rw [checkM_holds (holdsOk_name i q hq ho)]
      exact E.ret1 rfl rfl
    rw [nameE_ok ho] at hnq
    have hn' : ∀ (j : Nat) (a : Str), j < i + 1 → s.holds[j]? = some a → nameOk a = true := fun j a hj ha => by
      rcases Nat.lt_or_eq_of_le (Nat.le_of_lt_succ hj) with h | rfl
      · exact hn j a h ha
      · rw [hq] at ha; injection ha with ha; subst ha; exact ho
    cases i with
    | zero =>
      repeat (first | ((first | (apply Lq.s; rfl) | apply PRun.s | (apply Lq.run; rfl; rfl; rfl; exact bsB) | (apply PRun.run; rfl; rfl; exact bsB)); first | (apply op_box streamT; rfl) | (apply op_faddr stream_name; rfl; decide) | (apply op_faddr stream_retain; rfl; decide) | (apply op_faddr stream_holds; rfl; decide) | (apply op_faddr stream_recs; rfl; decide) | (apply op_load strT; rfl) | (apply op_load (intT .i64); rfl) | (apply op_load (slT strT); rfl) | (apply op_load (slT recT); rfl) | (apply op_load streamT; rfl) | (apply op_len (xs := s.holds); rfl) | (apply op_iaddr strT.toTy (x := q); rfl; rfl; exact Int.natCast_nonneg _; (rw [Int.toNat_natCast]; exact hq)) | (apply op_call hnq; exact bsD) | (exact bsO)) | apply J.seq | apply E.next | apply J.lq | apply Lq.nil | apply PRun.nil | apply J.block | apply E.in_normal | apply J.skip | (apply Lq.store; rfl; rfl; exact bsP; exact bsS; rfl; rfl) | (apply PRun.al; rfl) | (apply Lq.al; rfl; rfl; intro b) | (apply Open.cons; intro b) | apply Open.nil | (apply Lq.pass; rfl; rfl; rfl) | (apply PRun.pass; rfl; rfl) | (apply Lq.skip; rfl; rfl; rfl; exact bsB) | (apply PRun.skip; rfl; rfl; exact bsB) | (apply J.drawN; exact mixed; kernel_rfl) | (apply J.cond_t; rfl) | (apply J.cond_f; rfl) | apply J.exit | apply E.then_exit | apply E.in_exit | (apply E.in_other; rfl))
      exact E.again 1 (by omega) ⟨by omega, hn', fun j a b hj => by omega⟩ (Sub.same (by repeat' (first | exact trivial | refine ⟨rfl, ?_⟩)))
    | succ k =>
      obtain ⟨a, ha⟩ : ∃ a, s.holds[k]? = some a := ⟨_, List.getElem?_eq_getElem (by omega)⟩
      cases hs : slt a q
      · repeat (first | ((first | (apply Lq.s; rfl) | apply PRun.s | (apply Lq.run; rfl; rfl; rfl; exact bsB) | (apply PRun.run; rfl; rfl; exact bsB)); first | (apply op_box streamT; rfl) | (apply op_faddr stream_name; rfl; decide) | (apply op_faddr stream_retain; rfl; decide) | (apply op_faddr stream_holds; rfl; decide) | (apply op_faddr stream_recs; rfl; decide) | (apply op_load strT; rfl) | (apply op_load (intT .i64); rfl) | (apply op_load (slT strT); rfl) | (apply op_load (slT recT); rfl) | (apply op_load streamT; rfl) | (apply op_len (xs := s.holds); rfl) | (apply op_sub (c := (k : Int)); rfl; rfl; (rw [show ((k + 1 : Nat) : Int) - 1 = (k : Int) by omega]; apply wrapi <;> omega)) | (apply op_iaddr strT.toTy (x := a); rfl; rfl; exact Int.natCast_nonneg _; (rw [Int.toNat_natCast]; exact ha)) | (apply op_iaddr strT.toTy (x := q); rfl; rfl; exact Int.natCast_nonneg _; (rw [Int.toNat_natCast]; exact hq)) | (apply op_call hnq; exact bsD) | (apply op_sgeq (a := a) (b := q); rfl; rfl) | (exact bsO)) | apply J.seq | apply E.next | apply J.lq | apply Lq.nil | apply PRun.nil | apply J.block | apply E.in_normal | apply J.skip | (apply Lq.store; rfl; rfl; exact bsP; exact bsS; rfl; rfl) | (apply PRun.al; rfl) | (apply Lq.al; rfl; rfl; intro b) | (apply Open.cons; intro b) | apply Open.nil | (apply Lq.pass; rfl; rfl; rfl) | (apply PRun.pass; rfl; rfl) | (apply Lq.skip; rfl; rfl; rfl; exact bsB) | (apply PRun.skip; rfl; rfl; exact bsB) | (apply J.drawN; exact mixed; kernel_rfl) | (apply J.cond_t; rfl) | (apply J.cond_f; rfl) | apply J.exit | apply E.then_exit | apply E.in_exit | (apply E.in_other; rfl))
        rw [hs]
        repeat (first | ((first | (apply Lq.s; rfl) | apply PRun.s | (apply Lq.run; rfl; rfl; rfl; exact bsB) | (apply PRun.run; rfl; rfl; exact bsB)); first | (exact bsO)) | apply J.seq | apply E.next | apply J.lq | apply Lq.nil | apply PRun.nil | apply J.block | apply E.in_normal | apply J.skip | (apply Lq.store; rfl; rfl; exact bsP; exact bsS; rfl; rfl) | (apply PRun.al; rfl) | (apply Lq.al; rfl; rfl; intro b) | (apply Open.cons; intro b) | apply Open.nil | (apply Lq.pass; rfl; rfl; rfl) | (apply PRun.pass; rfl; rfl) | (apply Lq.skip; rfl; rfl; rfl; exact bsB) | (apply PRun.skip; rfl; rfl; exact bsB) | (apply J.drawN; exact mixed; kernel_rfl) | (apply J.cond_t; rfl) | (apply J.cond_f; rfl) | apply J.exit | apply E.then_exit | apply E.in_exit | (apply E.in_other; rfl))
        (refine J.ret ?_; (repeat (first | refine E.then_ret ?_ | refine E.in_ret ?_)))
        rw [checkM_holds (holdsOk_asc k a q ha hq hs)]
        exact E.ret1 rfl rfl
      · repeat (first | ((first | (apply Lq.s; rfl) | apply PRun.s | (apply Lq.run; rfl; rfl; rfl; exact bsB) | (apply PRun.run; rfl; rfl; exact bsB)); first | (apply op_box streamT; rfl) | (apply op_faddr stream_name; rfl; decide) | (apply op_faddr stream_retain; rfl; decide) | (apply op_faddr stream_holds; rfl; decide) | (apply op_faddr stream_recs; rfl; decide) | (apply op_load strT; rfl) | (apply op_load (intT .i64); rfl) | (apply op_load (slT strT); rfl) | (apply op_load (slT recT); rfl) | (apply op_load streamT; rfl) | (apply op_len (xs := s.holds); rfl) | (apply op_sub (c := (k : Int)); rfl; rfl; (rw [show ((k + 1 : Nat) : Int) - 1 = (k : Int) by omega]; apply wrapi <;> omega)) | (apply op_iaddr strT.toTy (x := a); rfl; rfl; exact Int.natCast_nonneg _; (rw [Int.toNat_natCast]; exact ha)) | (apply op_iaddr strT.toTy (x := q); rfl; rfl; exact Int.natCast_nonneg _; (rw [Int.toNat_natCast]; exact hq)) | (apply op_call hnq; exact bsD) | (apply op_sgeq (a := a) (b := q); rfl; rfl) | (exact bsO)) | apply J.seq | apply E.next | apply J.lq | apply Lq.nil | apply PRun.nil | apply J.block | apply E.in_normal | apply J.skip | (apply Lq.store; rfl; rfl; exact bsP; exact bsS; rfl; rfl) | (apply PRun.al; rfl) | (apply Lq.al; rfl; rfl; intro b) | (apply Open.cons; intro b) | apply Open.nil | (apply Lq.pass; rfl; rfl; rfl) | (apply PRun.pass; rfl; rfl) | (apply Lq.skip; rfl; rfl; rfl; exact bsB) | (apply PRun.skip; rfl; rfl; exact bsB) | (apply J.drawN; exact mixed; kernel_rfl) | (apply J.cond_t; rfl) | (apply J.cond_f; rfl) | apply J.exit | apply E.then_exit | apply E.in_exit | (apply E.in_other; rfl))
        rw [hs]
        repeat (first | ((first | (apply Lq.s; rfl) | apply PRun.s | (apply Lq.run; rfl; rfl; rfl; exact bsB) | (apply PRun.run; rfl; rfl; exact bsB)); first | (exact bsO)) | apply J.seq | apply E.next | apply J.lq | apply Lq.nil | apply PRun.nil | apply J.block | apply E.in_normal | apply J.skip | (apply Lq.store; rfl; rfl; exact bsP; exact bsS; rfl; rfl) | (apply PRun.al; rfl) | (apply Lq.al; rfl; rfl; intro b) | (apply Open.cons; intro b) | apply Open.nil | (apply Lq.pass; rfl; rfl; rfl) | (apply PRun.pass; rfl; rfl) | (apply Lq.skip; rfl; rfl; rfl; exact bsB) | (apply PRun.skip; rfl; rfl; exact bsB) | (apply J.drawN; exact mixed; kernel_rfl) | (apply J.cond_t; rfl) | (apply J.cond_f; rfl) | apply J.exit | apply E.then_exit | apply E.in_exit | (apply E.in_other; rfl))
        refine E.again (k + 1 + 1) (by omega) ⟨by omega, hn', fun j x y hj hx hy => ?_⟩ (Sub.same (by repeat' (first | exact trivial | refine ⟨rfl, ?_⟩)))
        rcases Nat.lt_or_eq_of_le (Nat.le_of_lt_succ hj) with h | h
        · exact hp j x y h hx hy
        · obtain rfl : j = k := by omega
          rw [ha] at hx; injection hx with hx; subst hx
          rw [hq] at hy; injection hy with hy; subst hy
          exact hs
  obtain rfl : i = s.holds.length := by omega
  have h6 : holdsOk s.holds = true := by
    unfold holdsOk
    rw [all_at.2 fun j a ha => hn j a (List.getElem?_eq_some_iff.1 ha).1 ha, adj_iff.2 fun j a b ha hb => hp j a b (List.getElem?_eq_some_iff.1 hb).1 ha hb, decide_eq_true h4]
    rfl
  repeat (first | ((first | (apply Lq.s; rfl) | apply PRun.s | (apply Lq.run; rfl; rfl; rfl; exact bsB) | (apply PRun.run; rfl; rfl; exact bsB)); first | (apply op_box streamT; rfl) | (apply op_faddr stream_name; rfl; decide) | (apply op_faddr stream_retain; rfl; decide) | (apply op_faddr stream_holds; rfl; decide) | (apply op_faddr stream_recs; rfl; decide) | (apply op_load strT; rfl) | (apply op_load (intT .i64); rfl) | (apply op_load (slT strT); rfl) | (apply op_load (slT recT); rfl) | (apply op_load streamT; rfl) | (apply op_len (xs := s.holds); rfl) | (exact bsO)) | apply J.seq | apply E.next | apply J.lq | apply Lq.nil | apply PRun.nil | apply J.block | apply E.in_normal | apply J.skip | (apply Lq.store; rfl; rfl; exact bsP; exact bsS; rfl; rfl) | (apply PRun.al; rfl) | (apply Lq.al; rfl; rfl; intro b) | (apply Open.cons; intro b) | apply Open.nil | (apply Lq.pass; rfl; rfl; rfl) | (apply PRun.pass; rfl; rfl) | (apply Lq.skip; rfl; rfl; rfl; exact bsB) | (apply PRun.skip; rfl; rfl; exact bsB) | (apply J.drawN; exact mixed; kernel_rfl) | (apply J.cond_t; rfl) | (apply J.cond_f; rfl) | apply J.exit | apply E.then_exit | apply E.in_exit | (apply E.in_other; rfl))
  clear hn hp hlt hi
  refine J.loop (fun i : Nat => i ≤ s.recs.length ∧ (∀ (j : Nat) (a : Rec), j < i → s.recs[j]? = some a → recOk a = true) ∧ ∀ (j : Nat) (a b : Rec), j + 1 < i → s.recs[j]? = some a → s.recs[j + 1]? = some b → a.time ≤ b.time) (fun i => [(1, ptr (streamT.cells s)), (4, is (.int .i64 (i : Int)))]) (fun _ => []) (fun i => s.recs.length - i) 0 ⟨Nat.zero_le _, fun j a hj => by omega, fun j a b hj => by omega⟩ (Sub.same (by repeat' (first | exact trivial | refine ⟨rfl, ?_⟩))) ?_
  rintro i ⟨hi, hn, hp⟩
  by_cases hlt : i < s.recs.length
  · obtain ⟨q, hq⟩ : ∃ q, s.recs[i]? = some q := ⟨_, List.getElem?_eq_getElem hlt⟩
    have hrq := may_fn16 q
    cases ho : recOk q
    · rw [ho] at hrq
      repeat (first | ((first | (apply Lq.s; rfl) | apply PRun.s | (apply Lq.run; rfl; rfl; rfl; exact bsB) | (apply PRun.run; rfl; rfl; exact bsB)); first | (apply op_box streamT; rfl) | (apply op_faddr stream_name; rfl; decide) | (apply op_faddr stream_retain; rfl; decide) | (apply op_faddr stream_holds; rfl; decide) | (apply op_faddr stream_recs; rfl; decide) | (apply op_load strT; rfl) | (apply op_load (intT .i64); rfl) | (apply op_load (slT strT); rfl) | (apply op_load (slT recT); rfl) | (apply op_load streamT; rfl) | (apply op_len (xs := s.recs); rfl) | (apply op_load recT; rfl) | (apply op_iaddr recT.toTy (x := q); rfl; rfl; exact Int.natCast_nonneg _; (rw [Int.toNat_natCast]; exact hq)) | (apply op_call hrq; exact bsD) | (exact bsO)) | apply J.seq | apply E.next | apply J.lq | apply Lq.nil | apply PRun.nil | apply J.block | apply E.in_normal | apply J.skip | (apply Lq.store; rfl; rfl; exact bsP; exact bsS; rfl; rfl) | (apply PRun.al; rfl) | (apply Lq.al; rfl; rfl; intro b) | (apply Open.cons; intro b) | apply Open.nil | (apply Lq.pass; rfl; rfl; rfl) | (apply PRun.pass; rfl; rfl) | (apply Lq.skip; rfl; rfl; rfl; exact bsB) | (apply PRun.skip; rfl; rfl; exact bsB) | (apply J.drawN; exact mixed; kernel_rfl) | (apply J.cond_t; rfl) | (apply J.cond_f; rfl) | apply J.exit | apply E.then_exit | apply E.in_exit | (apply E.in_other; rfl))
      (refine J.ret ?_; (repeat (first | refine E.then_ret ?_ | refine E.in_ret ?_)))
      rw [checkM_recs (recsOk_rec i q hq ho)]
      exact E.ret1 rfl rfl
    rw [ho] at hrq
    have hn' : ∀ (j : Nat) (a : Rec), j < i + 1 → s.recs[j]? = some a → recOk a = true := fun j a hj ha => by
      rcases Nat.lt_or_eq_of_le (Nat.le_of_lt_succ hj) with h | rfl
      · exact hn j a h ha
      · rw [hq] at ha; injection ha with ha; subst ha; exact ho
    cases i with
    | zero =>
      repeat (first | ((first | (apply Lq.s; rfl) | apply PRun.s | (apply Lq.run; rfl; rfl; rfl; exact bsB) | (apply PRun.run; rfl; rfl; exact bsB)); first | (apply op_box streamT; rfl) | (apply op_faddr stream_name; rfl; decide) | (apply op_faddr stream_retain; rfl; decide) | (apply op_faddr stream_holds; rfl; decide) | (apply op_faddr stream_recs; rfl; decide) | (apply op_load strT; rfl) | (apply op_load (intT .i64); rfl) | (apply op_load (slT strT); rfl) | (apply op_load (slT recT); rfl) | (apply op_load streamT; rfl) | (apply op_len (xs := s.recs); rfl) | (apply op_load recT; rfl) | (apply op_iaddr recT.toTy (x := q); rfl; rfl; exact Int.natCast_nonneg _; (rw [Int.toNat_natCast]; exact hq)) | (apply op_call hrq; exact bsD) | (exact bsO)) | apply J.seq | apply E.next | apply J.lq | apply Lq.nil | apply PRun.nil | apply J.block | apply E.in_normal | apply J.skip | (apply Lq.store; rfl; rfl; exact bsP; exact bsS; rfl; rfl) | (apply PRun.al; rfl) | (apply Lq.al; rfl; rfl; intro b) | (apply Open.cons; intro b) | apply Open.nil | (apply Lq.pass; rfl; rfl; rfl) | (apply PRun.pass; rfl; rfl) | (apply Lq.skip; rfl; rfl; rfl; exact bsB) | (apply PRun.skip; rfl; rfl; exact bsB) | (apply J.drawN; exact mixed; kernel_rfl) | (apply J.cond_t; rfl) | (apply J.cond_f; rfl) | apply J.exit | apply E.then_exit | apply E.in_exit | (apply E.in_other; rfl))
      exact E.again 1 (by omega) ⟨by omega, hn', fun j a b hj => by omega⟩ (Sub.same (by repeat' (first | exact trivial | refine ⟨rfl, ?_⟩)))
    | succ k =>
      obtain ⟨a, ha⟩ : ∃ a, s.recs[k]? = some a := ⟨_, List.getElem?_eq_getElem (by omega)⟩
      by_cases hs : a.time ≤ q.time
      · repeat (first | ((first | (apply Lq.s; rfl) | apply PRun.s | (apply Lq.run; rfl; rfl; rfl; exact bsB) | (apply PRun.run; rfl; rfl; exact bsB)); first | (apply op_box streamT; rfl) | (apply op_faddr stream_name; rfl; decide) | (apply op_faddr stream_retain; rfl; decide) | (apply op_faddr stream_holds; rfl; decide) | (apply op_faddr stream_recs; rfl; decide) | (apply op_load strT; rfl) | (apply op_load (intT .i64); rfl) | (apply op_load (slT strT); rfl) | (apply op_load (slT recT); rfl) | (apply op_load streamT; rfl) | (apply op_len (xs := s.recs); rfl) | (apply op_load recT; rfl) | (apply op_sub (c := (k : Int)); rfl; rfl; (rw [show ((k + 1 : Nat) : Int) - 1 = (k : Int) by omega]; apply wrapi <;> omega)) | (apply op_iaddr recT.toTy (x := a); rfl; rfl; exact Int.natCast_nonneg _; (rw [Int.toNat_natCast]; exact ha)) | (apply op_iaddr recT.toTy (x := q); rfl; rfl; exact Int.natCast_nonneg _; (rw [Int.toNat_natCast]; exact hq)) | (apply op_faddr rec_time; rfl; decide) | (apply op_call hrq; exact bsD) | (exact bsO)) | apply J.seq | apply E.next | apply J.lq | apply Lq.nil | apply PRun.nil | apply J.block | apply E.in_normal | apply J.skip | (apply Lq.store; rfl; rfl; exact bsP; exact bsS; rfl; rfl) | (apply PRun.al; rfl) | (apply Lq.al; rfl; rfl; intro b) | (apply Open.cons; intro b) | apply Open.nil | (apply Lq.pass; rfl; rfl; rfl) | (apply PRun.pass; rfl; rfl) | (apply Lq.skip; rfl; rfl; rfl; exact bsB) | (apply PRun.skip; rfl; rfl; exact bsB) | (apply J.drawN; exact mixed; kernel_rfl) | (apply J.cond_t; rfl) | (apply J.cond_f; rfl) | apply J.exit | apply E.then_exit | apply E.in_exit | (apply E.in_other; rfl))
        refine E.again (k + 1 + 1) (by omega) ⟨by omega, hn', fun j x y hj hx hy => ?_⟩ (Sub.same (by repeat' (first | exact trivial | refine ⟨rfl, ?_⟩)))
        rcases Nat.lt_or_eq_of_le (Nat.le_of_lt_succ hj) with h | h
        · exact hp j x y h hx hy
        · obtain rfl : j = k := by omega
          rw [ha] at hx; injection hx with hx; subst hx
          rw [hq] at hy; injection hy with hy; subst hy
          exact hs
      · repeat (first | ((first | (apply Lq.s; rfl) | apply PRun.s | (apply Lq.run; rfl; rfl; rfl; exact bsB) | (apply PRun.run; rfl; rfl; exact bsB)); first | (apply op_box streamT; rfl) | (apply op_faddr stream_name; rfl; decide) | (apply op_faddr stream_retain; rfl; decide) | (apply op_faddr stream_holds; rfl; decide) | (apply op_faddr stream_recs; rfl; decide) | (apply op_load strT; rfl) | (apply op_load (intT .i64); rfl) | (apply op_load (slT strT); rfl) | (apply op_load (slT recT); rfl) | (apply op_load streamT; rfl) | (apply op_len (xs := s.recs); rfl) | (apply op_load recT; rfl) | (apply op_sub (c := (k : Int)); rfl; rfl; (rw [show ((k + 1 : Nat) : Int) - 1 = (k : Int) by omega]; apply wrapi <;> omega)) | (apply op_iaddr recT.toTy (x := a); rfl; rfl; exact Int.natCast_nonneg _; (rw [Int.toNat_natCast]; exact ha)) | (apply op_iaddr recT.toTy (x := q); rfl; rfl; exact Int.natCast_nonneg _; (rw [Int.toNat_natCast]; exact hq)) | (apply op_faddr rec_time; rfl; decide) | (apply op_call hrq; exact bsD) | (exact bsO)) | apply J.seq | apply E.next | apply J.lq | apply Lq.nil | apply PRun.nil | apply J.block | apply E.in_normal | apply J.skip | (apply Lq.store; rfl; rfl; exact bsP; exact bsS; rfl; rfl) | (apply PRun.al; rfl) | (apply Lq.al; rfl; rfl; intro b) | (apply Open.cons; intro b) | apply Open.nil | (apply Lq.pass; rfl; rfl; rfl) | (apply PRun.pass; rfl; rfl) | (apply Lq.skip; rfl; rfl; rfl; exact bsB) | (apply PRun.skip; rfl; rfl; exact bsB) | (apply J.drawN; exact mixed; kernel_rfl) | (apply J.cond_t; rfl) | (apply J.cond_f; rfl) | apply J.exit | apply E.then_exit | apply E.in_exit | (apply E.in_other; rfl))
        (refine J.ret ?_; (repeat (first | refine E.then_ret ?_ | refine E.in_ret ?_)))
        rw [checkM_recs (recsOk_asc k a q ha hq (by omega))]
        exact E.ret1 rfl rfl
  · obtain rfl : i = s.recs.length := by omega
    repeat (first | ((first | (apply Lq.s; rfl) | apply PRun.s | (apply Lq.run; rfl; rfl; rfl; exact bsB) | (apply PRun.run; rfl; rfl; exact bsB)); first | (apply op_box streamT; rfl) | (apply op_faddr stream_name; rfl; decide) | (apply op_faddr stream_retain; rfl; decide) | (apply op_faddr stream_holds; rfl; decide) | (apply op_faddr stream_recs; rfl; decide) | (apply op_load strT; rfl) | (apply op_load (intT .i64); rfl) | (apply op_load (slT strT); rfl) | (apply op_load (slT recT); rfl) | (apply op_load streamT; rfl) | (apply op_len (xs := s.recs); rfl) | (exact bsO)) | apply J.seq | apply E.next | apply J.lq | apply Lq.nil | apply PRun.nil | apply J.block | apply E.in_normal | apply J.skip | (apply Lq.store; rfl; rfl; exact bsP; exact bsS; rfl; rfl) | (apply PRun.al; rfl) | (apply Lq.al; rfl; rfl; intro b) | (apply Open.cons; intro b) | apply Open.nil | (apply Lq.pass; rfl; rfl; rfl) | (apply PRun.pass; rfl; rfl) | (apply Lq.skip; rfl; rfl; rfl; exact bsB) | (apply PRun.skip; rfl; rfl; exact bsB) | (apply J.drawN; exact mixed; kernel_rfl) | (apply J.cond_t; rfl) | (apply J.cond_f; rfl) | apply J.exit | apply E.then_exit | apply E.in_exit | (apply E.in_other; rfl))
    (refine J.ret ?_; (repeat (first | refine E.then_ret ?_ | refine E.in_ret ?_)))
    have e : recsOk s.recs = true := by
      unfold recsOk
      rw [all_at.2 fun j a ha => hn j a (List.getElem?_eq_some_iff.1 ha).1 ha, adj_iff.2 fun j a b ha hb => decide_eq_true (hp j a b (List.getElem?_eq_some_iff.1 hb).1 ha hb), decide_eq_true h5]
      rfl
    rw [checkM_t h1 ⟨h2, h3⟩ h6 e]
    exact E.ret1 rfl rfl
end Go.Proofs.Ytbemcehcipkliaa.L
