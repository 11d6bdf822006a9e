/-
  Which streams may be, walked; clones.
-/
import Derived.Test.YtbemcehcipkliaaNe
namespace Go.Proofs.Ytbemcehcipkliaa.L
open Go
set_option linter.unusedSectionVars false
variable [Globs]
set_option linter.unusedVariables false
theorem tdiv_nat (n : Nat) : (n : Int).tdiv 112 = ((n / 112 : Nat) : Int) := rfl
theorem cnt_nat (n : Nat) : cntM (n : Int) = ((max 1 (n / 112 + min 1 (n % 112)) : Nat) : Int) := by
  unfold cntM
  rw [if_neg (by omega)]
  omega
theorem recOk_f {r : Rec} (h : ¬ (0 ≤ r.time ∧ r.time ≤ 1073741824 ∧ 0 ≤ r.len ∧ r.len ≤ 300 ∧ 0 ≤ r.run.start ∧ r.run.start < 512)) : recOk r = false := by
  cases k : recOk r with
  | false => rfl
  | true =>
    unfold recOk tB at k
    simp only [Bool.and_eq_true, decide_eq_true_eq] at k
    exact absurd ⟨k.1.1.1.1.1.1, k.1.1.1.1.1.2, k.1.1.1.1.2, k.1.1.1.2, k.1.1.2, k.1.2⟩ h
theorem recOk_t {r : Rec} (h1 : 0 ≤ r.time) (h2 : r.time ≤ 1073741824) (h3 : 0 ≤ r.len) (h4 : r.len ≤ 300) (h5 : 0 ≤ r.run.start) (h6 : r.run.start < 512) : recOk r = decide (r.run.count = cntM r.len) := by
  unfold recOk tB
  rw [decide_eq_true h1, decide_eq_true h2, decide_eq_true h3, decide_eq_true h4, decide_eq_true h5, decide_eq_true h6]
  rfl
set_option linter.unusedVariables false
set_option linter.unusedSimpArgs false
attribute [local irreducible] J Lq E OpP PRun is any agg tup ptr sl PRunW OpE
attribute [local irreducible] slt nameE lowerN cloT cntM recOk
theorem count_fn (n : Nat) (hn : n ≤ 1000000) : Fn Try.prog 55 [is (.int .i64 (n : Int))] (is (.int .i64 (cntM (n : Int)))) := by
  rw [cnt_nat]
  refine Fn.mk' 12 Try.func55 rfl rfl rfl rfl fun w0 H0 => ?_
  repeat (first | ((first | (apply Lq.s; rfl) | apply PRun.s | (apply Lq.run; rfl; rfl; rfl; exact bsB) | (apply PRun.run; rfl; rfl; exact bsB)); first | (apply op_quon (m := n) (n := 112); rfl; rfl; decide; omega) | (apply op_remn (m := n) (n := 112); rfl; rfl; decide) | (apply op_min (c := ((min 1 (n % 112) : Nat) : Int)); rfl; rfl; (split <;> omega)) | (apply op_add (c := ((n / 112 + min 1 (n % 112) : Nat) : Int)); rfl; rfl; (rw [show ((n / 112 : Nat) : Int) + ((min 1 (n % 112) : Nat) : Int) = ((n / 112 + min 1 (n % 112) : Nat) : Int) by omega]; apply wrapi <;> omega)) | (apply op_max (c := ((max 1 (n / 112 + min 1 (n % 112)) : Nat) : Int)); rfl; rfl; (split <;> omega)) | (exact bsO)) | apply J.seq | apply E.next | apply J.lq | apply Lq.nil | apply PRun.nil | apply J.block | apply E.in_normal | apply J.skip | (apply Lq.store; rfl; rfl; exact bsP; exact bsS; rfl; rfl) | (apply PRun.al; rfl) | (apply Lq.al; rfl; rfl; intro b) | (apply Open.cons; intro b) | apply Open.nil | (apply Lq.pass; rfl; rfl; rfl) | (apply PRun.pass; rfl; rfl) | (apply Lq.skip; rfl; rfl; rfl; exact bsB) | (apply PRun.skip; rfl; rfl; exact bsB) | (apply J.drawN; exact mixed; kernel_rfl) | (apply J.cond_t; rfl) | (apply J.cond_f; rfl) | apply J.exit | apply E.then_exit | apply E.in_exit | (apply E.in_other; rfl))
  (refine J.ret ?_; (repeat (first | refine E.then_ret ?_ | refine E.in_ret ?_)))
  exact E.ret1 rfl rfl
theorem record_fn (r : Rec) : Fn Try.prog 44 [recT.val r] (is (.bool (recOk r))) := by
  refine Fn.mk' 42 Try.func44 rfl rfl rfl rfl fun w0 H0 => ?_
  by_cases h1 : 0 ≤ r.time
  case neg =>
    rw [recOk_f (by omega)]
    repeat (first | ((first | (apply Lq.s; rfl) | apply PRun.s | (apply Lq.run; rfl; rfl; rfl; exact bsB) | (apply PRun.run; rfl; rfl; exact bsB)); first | (apply op_box recT; rfl) | (apply op_faddr rec_time; rfl; decide) | (apply op_faddr rec_len; rfl; decide) | (apply op_faddr rec_run; rfl; decide) | (apply op_faddr run_start; rfl; decide) | (apply op_faddr run_count; rfl; decide) | (apply op_load (intT .i64); rfl) | (exact bsO)) | apply J.seq | apply E.next | apply J.lq | apply Lq.nil | apply PRun.nil | apply J.block | apply E.in_normal | apply J.skip | (apply Lq.store; rfl; rfl; exact bsP; exact bsS; rfl; rfl) | (apply PRun.al; rfl) | (apply Lq.al; rfl; rfl; intro b) | (apply Open.cons; intro b) | apply Open.nil | (apply Lq.pass; rfl; rfl; rfl) | (apply PRun.pass; rfl; rfl) | (apply Lq.skip; rfl; rfl; rfl; exact bsB) | (apply PRun.skip; rfl; rfl; exact bsB) | (apply J.drawN; exact mixed; kernel_rfl) | (apply J.cond_t; rfl) | (apply J.cond_f; rfl) | apply J.exit | apply E.then_exit | apply E.in_exit | (apply E.in_other; rfl))
    (refine J.ret ?_; (repeat (first | refine E.then_ret ?_ | refine E.in_ret ?_)))
    exact E.ret1 rfl rfl
  by_cases h2 : r.time ≤ 1073741824
  case neg =>
    rw [recOk_f (by omega)]
    repeat (first | ((first | (apply Lq.s; rfl) | apply PRun.s | (apply Lq.run; rfl; rfl; rfl; exact bsB) | (apply PRun.run; rfl; rfl; exact bsB)); first | (apply op_box recT; rfl) | (apply op_faddr rec_time; rfl; decide) | (apply op_faddr rec_len; rfl; decide) | (apply op_faddr rec_run; rfl; decide) | (apply op_faddr run_start; rfl; decide) | (apply op_faddr run_count; rfl; decide) | (apply op_load (intT .i64); rfl) | (exact bsO)) | apply J.seq | apply E.next | apply J.lq | apply Lq.nil | apply PRun.nil | apply J.block | apply E.in_normal | apply J.skip | (apply Lq.store; rfl; rfl; exact bsP; exact bsS; rfl; rfl) | (apply PRun.al; rfl) | (apply Lq.al; rfl; rfl; intro b) | (apply Open.cons; intro b) | apply Open.nil | (apply Lq.pass; rfl; rfl; rfl) | (apply PRun.pass; rfl; rfl) | (apply Lq.skip; rfl; rfl; rfl; exact bsB) | (apply PRun.skip; rfl; rfl; exact bsB) | (apply J.drawN; exact mixed; kernel_rfl) | (apply J.cond_t; rfl) | (apply J.cond_f; rfl) | apply J.exit | apply E.then_exit | apply E.in_exit | (apply E.in_other; rfl))
    (refine J.ret ?_; (repeat (first | refine E.then_ret ?_ | refine E.in_ret ?_)))
    exact E.ret1 rfl rfl
  by_cases h3 : 0 ≤ r.len
  case neg =>
    rw [recOk_f (by omega)]
    repeat (first | ((first | (apply Lq.s; rfl) | apply PRun.s | (apply Lq.run; rfl; rfl; rfl; exact bsB) | (apply PRun.run; rfl; rfl; exact bsB)); first | (apply op_box recT; rfl) | (apply op_faddr rec_time; rfl; decide) | (apply op_faddr rec_len; rfl; decide) | (apply op_faddr rec_run; rfl; decide) | (apply op_faddr run_start; rfl; decide) | (apply op_faddr run_count; rfl; decide) | (apply op_load (intT .i64); rfl) | (exact bsO)) | apply J.seq | apply E.next | apply J.lq | apply Lq.nil | apply PRun.nil | apply J.block | apply E.in_normal | apply J.skip | (apply Lq.store; rfl; rfl; exact bsP; exact bsS; rfl; rfl) | (apply PRun.al; rfl) | (apply Lq.al; rfl; rfl; intro b) | (apply Open.cons; intro b) | apply Open.nil | (apply Lq.pass; rfl; rfl; rfl) | (apply PRun.pass; rfl; rfl) | (apply Lq.skip; rfl; rfl; rfl; exact bsB) | (apply PRun.skip; rfl; rfl; exact bsB) | (apply J.drawN; exact mixed; kernel_rfl) | (apply J.cond_t; rfl) | (apply J.cond_f; rfl) | apply J.exit | apply E.then_exit | apply E.in_exit | (apply E.in_other; rfl))
    (refine J.ret ?_; (repeat (first | refine E.then_ret ?_ | refine E.in_ret ?_)))
    exact E.ret1 rfl rfl
  by_cases h4 : r.len ≤ 300
  case neg =>
    rw [recOk_f (by omega)]
    repeat (first | ((first | (apply Lq.s; rfl) | apply PRun.s | (apply Lq.run; rfl; rfl; rfl; exact bsB) | (apply PRun.run; rfl; rfl; exact bsB)); first | (apply op_box recT; rfl) | (apply op_faddr rec_time; rfl; decide) | (apply op_faddr rec_len; rfl; decide) | (apply op_faddr rec_run; rfl; decide) | (apply op_faddr run_start; rfl; decide) | (apply op_faddr run_count; rfl; decide) | (apply op_load (intT .i64); rfl) | (exact bsO)) | apply J.seq | apply E.next | apply J.lq | apply Lq.nil | apply PRun.nil | apply J.block | apply E.in_normal | apply J.skip | (apply Lq.store; rfl; rfl; exact bsP; exact bsS; rfl; rfl) | (apply PRun.al; rfl) | (apply Lq.al; rfl; rfl; intro b) | (apply Open.cons; intro b) | apply Open.nil | (apply Lq.pass; rfl; rfl; rfl) | (apply PRun.pass; rfl; rfl) | (apply Lq.skip; rfl; rfl; rfl; exact bsB) | (apply PRun.skip; rfl; rfl; exact bsB) | (apply J.drawN; exact mixed; kernel_rfl) | (apply J.cond_t; rfl) | (apply J.cond_f; rfl) | apply J.exit | apply E.then_exit | apply E.in_exit | (apply E.in_other; rfl))
    (refine J.ret ?_; (repeat (first | refine E.then_ret ?_ | refine E.in_ret ?_)))
    exact E.ret1 rfl rfl
  by_cases h5 : 0 ≤ r.run.start
  case neg =>
    rw [recOk_f (by omega)]
    repeat (first | ((first | (apply Lq.s; rfl) | apply PRun.s | (apply Lq.run; rfl; rfl; rfl; exact bsB) | (apply PRun.run; rfl; rfl; exact bsB)); first | (apply op_box recT; rfl) | (apply op_faddr rec_time; rfl; decide) | (apply op_faddr rec_len; rfl; decide) | (apply op_faddr rec_run; rfl; decide) | (apply op_faddr run_start; rfl; decide) | (apply op_faddr run_count; rfl; decide) | (apply op_load (intT .i64); rfl) | (exact bsO)) | apply J.seq | apply E.next | apply J.lq | apply Lq.nil | apply PRun.nil | apply J.block | apply E.in_normal | apply J.skip | (apply Lq.store; rfl; rfl; exact bsP; exact bsS; rfl; rfl) | (apply PRun.al; rfl) | (apply Lq.al; rfl; rfl; intro b) | (apply Open.cons; intro b) | apply Open.nil | (apply Lq.pass; rfl; rfl; rfl) | (apply PRun.pass; rfl; rfl) | (apply Lq.skip; rfl; rfl; rfl; exact bsB) | (apply PRun.skip; rfl; rfl; exact bsB) | (apply J.drawN; exact mixed; kernel_rfl) | (apply J.cond_t; rfl) | (apply J.cond_f; rfl) | apply J.exit | apply E.then_exit | apply E.in_exit | (apply E.in_other; rfl))
    (refine J.ret ?_; (repeat (first | refine E.then_ret ?_ | refine E.in_ret ?_)))
    exact E.ret1 rfl rfl
  by_cases h6 : r.run.start < 512
  case neg =>
    rw [recOk_f (by omega)]
    repeat (first | ((first | (apply Lq.s; rfl) | apply PRun.s | (apply Lq.run; rfl; rfl; rfl; exact bsB) | (apply PRun.run; rfl; rfl; exact bsB)); first | (apply op_box recT; rfl) | (apply op_faddr rec_time; rfl; decide) | (apply op_faddr rec_len; rfl; decide) | (apply op_faddr rec_run; rfl; decide) | (apply op_faddr run_start; rfl; decide) | (apply op_faddr run_count; rfl; decide) | (apply op_load (intT .i64); rfl) | (exact bsO)) | apply J.seq | apply E.next | apply J.lq | apply Lq.nil | apply PRun.nil | apply J.block | apply E.in_normal | apply J.skip | (apply Lq.store; rfl; rfl; exact bsP; exact bsS; rfl; rfl) | (apply PRun.al; rfl) | (apply Lq.al; rfl; rfl; intro b) | (apply Open.cons; intro b) | apply Open.nil | (apply Lq.pass; rfl; rfl; rfl) | (apply PRun.pass; rfl; rfl) | (apply Lq.skip; rfl; rfl; rfl; exact bsB) | (apply PRun.skip; rfl; rfl; exact bsB) | (apply J.drawN; exact mixed; kernel_rfl) | (apply J.cond_t; rfl) | (apply J.cond_f; rfl) | apply J.exit | apply E.then_exit | apply E.in_exit | (apply E.in_other; rfl))
    (refine J.ret ?_; (repeat (first | refine E.then_ret ?_ | refine E.in_ret ?_)))
    exact E.ret1 rfl rfl
  rw [recOk_t h1 h2 h3 h4 h5 h6]
  have hc : Fn Try.prog 55 [is (.int .i64 r.len)] (is (.int .i64 (cntM r.len))) := by
    have h := count_fn r.len.toNat (by omega)
    rw [show ((r.len.toNat : Nat) : Int) = r.len by omega] at h
    exact h
  repeat (first | ((first | (apply Lq.s; rfl) | apply PRun.s | (apply Lq.run; rfl; rfl; rfl; exact bsB) | (apply PRun.run; rfl; rfl; exact bsB)); first | (apply op_box recT; rfl) | (apply op_faddr rec_time; rfl; decide) | (apply op_faddr rec_len; rfl; decide) | (apply op_faddr rec_run; rfl; decide) | (apply op_faddr run_start; rfl; decide) | (apply op_faddr run_count; rfl; decide) | (apply op_load (intT .i64); rfl) | (apply op_call hc; exact bsD) | (exact bsO)) | apply J.seq | apply E.next | apply J.lq | apply Lq.nil | apply PRun.nil | apply J.block | apply E.in_normal | apply J.skip | (apply Lq.store; rfl; rfl; exact bsP; exact bsS; rfl; rfl) | (apply PRun.al; rfl) | (apply Lq.al; rfl; rfl; intro b) | (apply Open.cons; intro b) | apply Open.nil | (apply Lq.pass; rfl; rfl; rfl) | (apply PRun.pass; rfl; rfl) | (apply Lq.skip; rfl; rfl; rfl; exact bsB) | (apply PRun.skip; rfl; rfl; exact bsB) | (apply J.drawN; exact mixed; kernel_rfl) | (apply J.cond_t; rfl) | (apply J.cond_f; rfl) | apply J.exit | apply E.then_exit | apply E.in_exit | (apply E.in_other; rfl))
  (refine J.ret ?_; (repeat (first | refine E.then_ret ?_ | refine E.in_ret ?_)))
  exact E.ret1 rfl rfl
theorem holdsOk_name {l : List Str} (i : Nat) (a : Str) (ha : l[i]? = some a) (h : nameOk a = false) : holdsOk l = false := by
  unfold holdsOk
  rw [all_f i a ha h]; rfl
theorem holdsOk_asc {l : List Str} (i : Nat) (a b : Str) (ha : l[i]? = some a) (hb : l[i + 1]? = some b) (h : slt a b = false) : holdsOk l = false := by
  unfold holdsOk
  rw [adj_f i a b ha hb h]; simp
theorem holds_fn (l : List Str) (hl : l.length ≤ 1000000) : Fn Try.prog 43 [sl strT.toTy l] (is (.bool (holdsOk l))) := by
  refine Fn.mk' 32 Try.func43 rfl rfl rfl rfl fun w0 H0 => ?_
  repeat (first | ((first | (apply Lq.s; rfl) | apply PRun.s | (apply Lq.run; rfl; rfl; rfl; exact bsB) | (apply PRun.run; rfl; rfl; exact bsB)); first | (exact bsO)) | apply J.seq | apply E.next | apply J.lq | apply Lq.nil | apply PRun.nil | apply J.block | apply E.in_normal | apply J.skip | (apply Lq.store; rfl; rfl; exact bsP; exact bsS; rfl; rfl) | (apply PRun.al; rfl) | (apply Lq.al; rfl; rfl; intro b) | (apply Open.cons; intro b) | apply Open.nil | (apply Lq.pass; rfl; rfl; rfl) | (apply PRun.pass; rfl; rfl) | (apply Lq.skip; rfl; rfl; rfl; exact bsB) | (apply PRun.skip; rfl; rfl; exact bsB) | (apply J.drawN; exact mixed; kernel_rfl) | (apply J.cond_t; rfl) | (apply J.cond_f; rfl) | apply J.exit | apply E.then_exit | apply E.in_exit | (apply E.in_other; rfl))
  refine J.loop (fun i : Nat => i ≤ l.length ∧ (∀ (j : Nat) (a : Str), j < i → l[j]? = some a → nameOk a = true) ∧ ∀ (j : Nat) (a b : Str), j + 1 < i → l[j]? = some a → l[j + 1]? = some b → slt a b = true) (fun i => [(0, sl strT.toTy l), (5, sl strT.toTy l), (6, is (.int .i64 (l.length : Int))), (7, is (.int .i64 (i : Int)))]) (fun _ => []) (fun i => l.length - i) 0 ⟨Nat.zero_le _, fun j a hj => by omega, fun j a b hj => by omega⟩ (Sub.same (by repeat' (first | exact trivial | refine ⟨rfl, ?_⟩))) ?_
  rintro i ⟨hi, hn, hp⟩
  by_cases hlt : i < l.length
  · obtain ⟨q, hq⟩ : ∃ q, l[i]? = some q := ⟨_, List.getElem?_eq_getElem hlt⟩
    have hnq := ncheck_fn q
    cases ho : nameOk q
    · rw [nameE_bad ho] at hnq
      repeat (first | ((first | (apply Lq.s; rfl) | apply PRun.s | (apply Lq.run; rfl; rfl; rfl; exact bsB) | (apply PRun.run; rfl; rfl; exact bsB)); first | (apply op_iaddr strT.toTy (x := q); rfl; rfl; exact Int.natCast_nonneg _; (rw [Int.toNat_natCast]; exact hq)) | (apply op_load strT; rfl) | (apply op_call hnq; exact bsD) | (exact bsO)) | apply J.seq | apply E.next | apply J.lq | apply Lq.nil | apply PRun.nil | apply J.block | apply E.in_normal | apply J.skip | (apply Lq.store; rfl; rfl; exact bsP; exact bsS; rfl; rfl) | (apply PRun.al; rfl) | (apply Lq.al; rfl; rfl; intro b) | (apply Open.cons; intro b) | apply Open.nil | (apply Lq.pass; rfl; rfl; rfl) | (apply PRun.pass; rfl; rfl) | (apply Lq.skip; rfl; rfl; rfl; exact bsB) | (apply PRun.skip; rfl; rfl; exact bsB) | (apply J.drawN; exact mixed; kernel_rfl) | (apply J.cond_t; rfl) | (apply J.cond_f; rfl) | apply J.exit | apply E.then_exit | apply E.in_exit | (apply E.in_other; rfl))
      (refine J.ret ?_; (repeat (first | refine E.then_ret ?_ | refine E.in_ret ?_)))
      rw [holdsOk_name i q hq ho]
      exact E.ret1 rfl rfl
    rw [nameE_ok ho] at hnq
    have hn' : ∀ (j : Nat) (a : Str), j < i + 1 → l[j]? = some a → nameOk a = true := fun j a hj ha => by
      rcases Nat.lt_or_eq_of_le (Nat.le_of_lt_succ hj) with h | rfl
      · exact hn j a h ha
      · rw [hq] at ha; injection ha with ha; subst ha; exact ho
    cases i with
    | zero =>
      repeat (first | ((first | (apply Lq.s; rfl) | apply PRun.s | (apply Lq.run; rfl; rfl; rfl; exact bsB) | (apply PRun.run; rfl; rfl; exact bsB)); first | (apply op_iaddr strT.toTy (x := q); rfl; rfl; exact Int.natCast_nonneg _; (rw [Int.toNat_natCast]; exact hq)) | (apply op_load strT; rfl) | (apply op_call hnq; exact bsD) | (exact bsO)) | apply J.seq | apply E.next | apply J.lq | apply Lq.nil | apply PRun.nil | apply J.block | apply E.in_normal | apply J.skip | (apply Lq.store; rfl; rfl; exact bsP; exact bsS; rfl; rfl) | (apply PRun.al; rfl) | (apply Lq.al; rfl; rfl; intro b) | (apply Open.cons; intro b) | apply Open.nil | (apply Lq.pass; rfl; rfl; rfl) | (apply PRun.pass; rfl; rfl) | (apply Lq.skip; rfl; rfl; rfl; exact bsB) | (apply PRun.skip; rfl; rfl; exact bsB) | (apply J.drawN; exact mixed; kernel_rfl) | (apply J.cond_t; rfl) | (apply J.cond_f; rfl) | apply J.exit | apply E.then_exit | apply E.in_exit | (apply E.in_other; rfl))
      exact E.again 1 (by omega) ⟨by omega, hn', fun j a b hj => by omega⟩ (Sub.same (by repeat' (first | exact trivial | refine ⟨rfl, ?_⟩)))
    | succ k =>
      obtain ⟨a, ha⟩ : ∃ a, l[k]? = some a := ⟨_, List.getElem?_eq_getElem (by omega)⟩
      cases hs : slt a q
      · repeat (first | ((first | (apply Lq.s; rfl) | apply PRun.s | (apply Lq.run; rfl; rfl; rfl; exact bsB) | (apply PRun.run; rfl; rfl; exact bsB)); first | (apply op_sub (c := (k : Int)); rfl; rfl; (rw [show ((k + 1 : Nat) : Int) - 1 = (k : Int) by omega]; apply wrapi <;> omega)) | (apply op_iaddr strT.toTy (x := a); rfl; rfl; exact Int.natCast_nonneg _; (rw [Int.toNat_natCast]; exact ha)) | (apply op_iaddr strT.toTy (x := q); rfl; rfl; exact Int.natCast_nonneg _; (rw [Int.toNat_natCast]; exact hq)) | (apply op_load strT; rfl) | (apply op_call hnq; exact bsD) | (apply op_sleq (a := q) (b := a); rfl; rfl) | (exact bsO)) | apply J.seq | apply E.next | apply J.lq | apply Lq.nil | apply PRun.nil | apply J.block | apply E.in_normal | apply J.skip | (apply Lq.store; rfl; rfl; exact bsP; exact bsS; rfl; rfl) | (apply PRun.al; rfl) | (apply Lq.al; rfl; rfl; intro b) | (apply Open.cons; intro b) | apply Open.nil | (apply Lq.pass; rfl; rfl; rfl) | (apply PRun.pass; rfl; rfl) | (apply Lq.skip; rfl; rfl; rfl; exact bsB) | (apply PRun.skip; rfl; rfl; exact bsB) | (apply J.drawN; exact mixed; kernel_rfl) | (apply J.cond_t; rfl) | (apply J.cond_f; rfl) | apply J.exit | apply E.then_exit | apply E.in_exit | (apply E.in_other; rfl))
        rw [hs]
        repeat (first | ((first | (apply Lq.s; rfl) | apply PRun.s | (apply Lq.run; rfl; rfl; rfl; exact bsB) | (apply PRun.run; rfl; rfl; exact bsB)); first | (exact bsO)) | apply J.seq | apply E.next | apply J.lq | apply Lq.nil | apply PRun.nil | apply J.block | apply E.in_normal | apply J.skip | (apply Lq.store; rfl; rfl; exact bsP; exact bsS; rfl; rfl) | (apply PRun.al; rfl) | (apply Lq.al; rfl; rfl; intro b) | (apply Open.cons; intro b) | apply Open.nil | (apply Lq.pass; rfl; rfl; rfl) | (apply PRun.pass; rfl; rfl) | (apply Lq.skip; rfl; rfl; rfl; exact bsB) | (apply PRun.skip; rfl; rfl; exact bsB) | (apply J.drawN; exact mixed; kernel_rfl) | (apply J.cond_t; rfl) | (apply J.cond_f; rfl) | apply J.exit | apply E.then_exit | apply E.in_exit | (apply E.in_other; rfl))
        (refine J.ret ?_; (repeat (first | refine E.then_ret ?_ | refine E.in_ret ?_)))
        rw [holdsOk_asc k a q ha hq hs]
        exact E.ret1 rfl rfl
      · repeat (first | ((first | (apply Lq.s; rfl) | apply PRun.s | (apply Lq.run; rfl; rfl; rfl; exact bsB) | (apply PRun.run; rfl; rfl; exact bsB)); first | (apply op_sub (c := (k : Int)); rfl; rfl; (rw [show ((k + 1 : Nat) : Int) - 1 = (k : Int) by omega]; apply wrapi <;> omega)) | (apply op_iaddr strT.toTy (x := a); rfl; rfl; exact Int.natCast_nonneg _; (rw [Int.toNat_natCast]; exact ha)) | (apply op_iaddr strT.toTy (x := q); rfl; rfl; exact Int.natCast_nonneg _; (rw [Int.toNat_natCast]; exact hq)) | (apply op_load strT; rfl) | (apply op_call hnq; exact bsD) | (apply op_sleq (a := q) (b := a); rfl; rfl) | (exact bsO)) | apply J.seq | apply E.next | apply J.lq | apply Lq.nil | apply PRun.nil | apply J.block | apply E.in_normal | apply J.skip | (apply Lq.store; rfl; rfl; exact bsP; exact bsS; rfl; rfl) | (apply PRun.al; rfl) | (apply Lq.al; rfl; rfl; intro b) | (apply Open.cons; intro b) | apply Open.nil | (apply Lq.pass; rfl; rfl; rfl) | (apply PRun.pass; rfl; rfl) | (apply Lq.skip; rfl; rfl; rfl; exact bsB) | (apply PRun.skip; rfl; rfl; exact bsB) | (apply J.drawN; exact mixed; kernel_rfl) | (apply J.cond_t; rfl) | (apply J.cond_f; rfl) | apply J.exit | apply E.then_exit | apply E.in_exit | (apply E.in_other; rfl))
        rw [hs]
        repeat (first | ((first | (apply Lq.s; rfl) | apply PRun.s | (apply Lq.run; rfl; rfl; rfl; exact bsB) | (apply PRun.run; rfl; rfl; exact bsB)); first | (exact bsO)) | apply J.seq | apply E.next | apply J.lq | apply Lq.nil | apply PRun.nil | apply J.block | apply E.in_normal | apply J.skip | (apply Lq.store; rfl; rfl; exact bsP; exact bsS; rfl; rfl) | (apply PRun.al; rfl) | (apply Lq.al; rfl; rfl; intro b) | (apply Open.cons; intro b) | apply Open.nil | (apply Lq.pass; rfl; rfl; rfl) | (apply PRun.pass; rfl; rfl) | (apply Lq.skip; rfl; rfl; rfl; exact bsB) | (apply PRun.skip; rfl; rfl; exact bsB) | (apply J.drawN; exact mixed; kernel_rfl) | (apply J.cond_t; rfl) | (apply J.cond_f; rfl) | apply J.exit | apply E.then_exit | apply E.in_exit | (apply E.in_other; rfl))
        refine E.again (k + 1 + 1) (by omega) ⟨by omega, hn', fun j x y hj hx hy => ?_⟩ (Sub.same (by repeat' (first | exact trivial | refine ⟨rfl, ?_⟩)))
        rcases Nat.lt_or_eq_of_le (Nat.le_of_lt_succ hj) with h | h
        · exact hp j x y h hx hy
        · obtain rfl : j = k := by omega
          rw [ha] at hx; injection hx with hx; subst hx
          rw [hq] at hy; injection hy with hy; subst hy
          exact hs
  · obtain rfl : i = l.length := by omega
    repeat (first | ((first | (apply Lq.s; rfl) | apply PRun.s | (apply Lq.run; rfl; rfl; rfl; exact bsB) | (apply PRun.run; rfl; rfl; exact bsB)); first | (exact bsO)) | apply J.seq | apply E.next | apply J.lq | apply Lq.nil | apply PRun.nil | apply J.block | apply E.in_normal | apply J.skip | (apply Lq.store; rfl; rfl; exact bsP; exact bsS; rfl; rfl) | (apply PRun.al; rfl) | (apply Lq.al; rfl; rfl; intro b) | (apply Open.cons; intro b) | apply Open.nil | (apply Lq.pass; rfl; rfl; rfl) | (apply PRun.pass; rfl; rfl) | (apply Lq.skip; rfl; rfl; rfl; exact bsB) | (apply PRun.skip; rfl; rfl; exact bsB) | (apply J.drawN; exact mixed; kernel_rfl) | (apply J.cond_t; rfl) | (apply J.cond_f; rfl) | apply J.exit | apply E.then_exit | apply E.in_exit | (apply E.in_other; rfl))
    (refine J.ret ?_; (repeat (first | refine E.then_ret ?_ | refine E.in_ret ?_)))
    have e : holdsOk l = decide (l.length ≤ 4) := by
      unfold holdsOk
      rw [all_at.2 fun j a ha => hn j a (List.getElem?_eq_some_iff.1 ha).1 ha, adj_iff.2 fun j a b ha hb => hp j a b (List.getElem?_eq_some_iff.1 hb).1 ha hb]
      rfl
    rw [e]
    refine E.ret1 rfl ?_
    rw [show decide (l.length ≤ 4) = decide ((l.length : Int) ≤ 4) from decide_eq_decide.2 (by omega)]
    rfl
def leT (a b : Rec) : Bool := decide (a.time ≤ b.time)
theorem recsOk_rec {l : List Rec} (i : Nat) (a : Rec) (ha : l[i]? = some a) (h : recOk a = false) : recsOk l = false := by
  unfold recsOk
  rw [all_f i a ha h]; rfl
theorem recsOk_asc {l : List Rec} (i : Nat) (a b : Rec) (ha : l[i]? = some a) (hb : l[i + 1]? = some b) (h : b.time < a.time) : recsOk l = false := by
  unfold recsOk
  rw [adj_f i a b ha hb (decide_eq_false (by omega))]; simp
theorem checkM_name {s : StreamS} (h : nameOk s.name = false) : checkM s = false := by unfold checkM; rw [h]; rfl
theorem checkM_ret {s : StreamS} (h : ¬ (0 ≤ s.retain ∧ s.retain ≤ 1073741824)) : checkM s = false := by
  unfold checkM tB
  have : (decide (0 ≤ s.retain) && decide (s.retain ≤ 1073741824)) = false := by
    rw [Bool.and_eq_false_iff, decide_eq_false_iff_not, decide_eq_false_iff_not]; omega
  rw [this]; simp
theorem checkM_holds {s : StreamS} (h : holdsOk s.holds = false) : checkM s = false := by unfold checkM; rw [h]; simp
theorem checkM_recs {s : StreamS} (h : recsOk s.recs = false) : checkM s = false := by unfold checkM; rw [h]; simp
theorem checkM_t {s : StreamS} (h1 : nameOk s.name = true) (h2 : 0 ≤ s.retain ∧ s.retain ≤ 1073741824) (h3 : holdsOk s.holds = true) (h4 : recsOk s.recs = true) : checkM s = true := by
  unfold checkM tB
  rw [h1, h3, h4, decide_eq_true h2.1, decide_eq_true h2.2]; rfl
theorem scheck_fn (s : StreamS) (hh : s.holds.length ≤ 1000000) (hr : s.recs.length ≤ 1000000) : Fn Try.prog 31 [streamT.val s] (is (.bool (checkM s))) := by
  have hnq := ncheck_fn s.name
  have hhf := holds_fn s.holds hh
  cases h1 : nameOk s.name
  · rw [nameE_bad h1] at hnq
    rw [checkM_name h1]
    refine Fn.mk' 59 Try.func31 rfl rfl rfl rfl fun w0 H0 => ?_
    repeat (first | ((first | (apply Lq.s; rfl) | apply PRun.s | (apply Lq.run; rfl; rfl; rfl; exact bsB) | (apply PRun.run; rfl; rfl; exact bsB)); first | (apply op_box streamT; rfl) | (apply op_faddr stream_name; rfl; decide) | (apply op_faddr stream_retain; rfl; decide) | (apply op_faddr stream_holds; rfl; decide) | (apply op_faddr stream_recs; rfl; decide) | (apply op_load strT; rfl) | (apply op_load (intT .i64); rfl) | (apply op_load (slT strT); rfl) | (apply op_load (slT recT); rfl) | (apply op_load streamT; rfl) | (apply op_call hnq; exact bsD) | (exact bsO)) | apply J.seq | apply E.next | apply J.lq | apply Lq.nil | apply PRun.nil | apply J.block | apply E.in_normal | apply J.skip | (apply Lq.store; rfl; rfl; exact bsP; exact bsS; rfl; rfl) | (apply PRun.al; rfl) | (apply Lq.al; rfl; rfl; intro b) | (apply Open.cons; intro b) | apply Open.nil | (apply Lq.pass; rfl; rfl; rfl) | (apply PRun.pass; rfl; rfl) | (apply Lq.skip; rfl; rfl; rfl; exact bsB) | (apply PRun.skip; rfl; rfl; exact bsB) | (apply J.drawN; exact mixed; kernel_rfl) | (apply J.cond_t; rfl) | (apply J.cond_f; rfl) | apply J.exit | apply E.then_exit | apply E.in_exit | (apply E.in_other; rfl))
    (refine J.ret ?_; (repeat (first | refine E.then_ret ?_ | refine E.in_ret ?_)))
    exact E.ret1 rfl rfl
  rw [nameE_ok h1] at hnq
  by_cases h2 : 0 ≤ s.retain
  case neg =>
    rw [checkM_ret (by omega)]
    refine Fn.mk' 59 Try.func31 rfl rfl rfl rfl fun w0 H0 => ?_
    repeat (first | ((first | (apply Lq.s; rfl) | apply PRun.s | (apply Lq.run; rfl; rfl; rfl; exact bsB) | (apply PRun.run; rfl; rfl; exact bsB)); first | (apply op_box streamT; rfl) | (apply op_faddr stream_name; rfl; decide) | (apply op_faddr stream_retain; rfl; decide) | (apply op_faddr stream_holds; rfl; decide) | (apply op_faddr stream_recs; rfl; decide) | (apply op_load strT; rfl) | (apply op_load (intT .i64); rfl) | (apply op_load (slT strT); rfl) | (apply op_load (slT recT); rfl) | (apply op_load streamT; rfl) | (apply op_call hnq; exact bsD) | (exact bsO)) | apply J.seq | apply E.next | apply J.lq | apply Lq.nil | apply PRun.nil | apply J.block | apply E.in_normal | apply J.skip | (apply Lq.store; rfl; rfl; exact bsP; exact bsS; rfl; rfl) | (apply PRun.al; rfl) | (apply Lq.al; rfl; rfl; intro b) | (apply Open.cons; intro b) | apply Open.nil | (apply Lq.pass; rfl; rfl; rfl) | (apply PRun.pass; rfl; rfl) | (apply Lq.skip; rfl; rfl; rfl; exact bsB) | (apply PRun.skip; rfl; rfl; exact bsB) | (apply J.drawN; exact mixed; kernel_rfl) | (apply J.cond_t; rfl) | (apply J.cond_f; rfl) | apply J.exit | apply E.then_exit | apply E.in_exit | (apply E.in_other; rfl))
    (refine J.ret ?_; (repeat (first | refine E.then_ret ?_ | refine E.in_ret ?_)))
    exact E.ret1 rfl rfl
  by_cases h3 : s.retain ≤ 1073741824
  case neg =>
    rw [checkM_ret (by omega)]
    refine Fn.mk' 59 Try.func31 rfl rfl rfl rfl fun w0 H0 => ?_
    repeat (first | ((first | (apply Lq.s; rfl) | apply PRun.s | (apply Lq.run; rfl; rfl; rfl; exact bsB) | (apply PRun.run; rfl; rfl; exact bsB)); first | (apply op_box streamT; rfl) | (apply op_faddr stream_name; rfl; decide) | (apply op_faddr stream_retain; rfl; decide) | (apply op_faddr stream_holds; rfl; decide) | (apply op_faddr stream_recs; rfl; decide) | (apply op_load strT; rfl) | (apply op_load (intT .i64); rfl) | (apply op_load (slT strT); rfl) | (apply op_load (slT recT); rfl) | (apply op_load streamT; rfl) | (apply op_call hnq; exact bsD) | (exact bsO)) | apply J.seq | apply E.next | apply J.lq | apply Lq.nil | apply PRun.nil | apply J.block | apply E.in_normal | apply J.skip | (apply Lq.store; rfl; rfl; exact bsP; exact bsS; rfl; rfl) | (apply PRun.al; rfl) | (apply Lq.al; rfl; rfl; intro b) | (apply Open.cons; intro b) | apply Open.nil | (apply Lq.pass; rfl; rfl; rfl) | (apply PRun.pass; rfl; rfl) | (apply Lq.skip; rfl; rfl; rfl; exact bsB) | (apply PRun.skip; rfl; rfl; exact bsB) | (apply J.drawN; exact mixed; kernel_rfl) | (apply J.cond_t; rfl) | (apply J.cond_f; rfl) | apply J.exit | apply E.then_exit | apply E.in_exit | (apply E.in_other; rfl))
    (refine J.ret ?_; (repeat (first | refine E.then_ret ?_ | refine E.in_ret ?_)))
    exact E.ret1 rfl rfl
  cases h4 : holdsOk s.holds
  · rw [h4] at hhf
    rw [checkM_holds h4]
    refine Fn.mk' 59 Try.func31 rfl rfl rfl rfl fun w0 H0 => ?_
    repeat (first | ((first | (apply Lq.s; rfl) | apply PRun.s | (apply Lq.run; rfl; rfl; rfl; exact bsB) | (apply PRun.run; rfl; rfl; exact bsB)); first | (apply op_box streamT; rfl) | (apply op_faddr stream_name; rfl; decide) | (apply op_faddr stream_retain; rfl; decide) | (apply op_faddr stream_holds; rfl; decide) | (apply op_faddr stream_recs; rfl; decide) | (apply op_load strT; rfl) | (apply op_load (intT .i64); rfl) | (apply op_load (slT strT); rfl) | (apply op_load (slT recT); rfl) | (apply op_load streamT; rfl) | (apply op_call hnq; exact bsD) | (apply op_call hhf; exact bsD) | (exact bsO)) | apply J.seq | apply E.next | apply J.lq | apply Lq.nil | apply PRun.nil | apply J.block | apply E.in_normal | apply J.skip | (apply Lq.store; rfl; rfl; exact bsP; exact bsS; rfl; rfl) | (apply PRun.al; rfl) | (apply Lq.al; rfl; rfl; intro b) | (apply Open.cons; intro b) | apply Open.nil | (apply Lq.pass; rfl; rfl; rfl) | (apply PRun.pass; rfl; rfl) | (apply Lq.skip; rfl; rfl; rfl; exact bsB) | (apply PRun.skip; rfl; rfl; exact bsB) | (apply J.drawN; exact mixed; kernel_rfl) | (apply J.cond_t; rfl) | (apply J.cond_f; rfl) | apply J.exit | apply E.then_exit | apply E.in_exit | (apply E.in_other; rfl))
    (refine J.ret ?_; (repeat (first | refine E.then_ret ?_ | refine E.in_ret ?_)))
    exact E.ret1 rfl rfl
  rw [h4] at hhf
  by_cases h5 : s.recs.length ≤ 64
  case neg =>
    rw [checkM_recs (by unfold recsOk; rw [decide_eq_false h5]; simp)]
    refine Fn.mk' 59 Try.func31 rfl rfl rfl rfl fun w0 H0 => ?_
    repeat (first | ((first | (apply Lq.s; rfl) | apply PRun.s | (apply Lq.run; rfl; rfl; rfl; exact bsB) | (apply PRun.run; rfl; rfl; exact bsB)); first | (apply op_box streamT; rfl) | (apply op_faddr stream_name; rfl; decide) | (apply op_faddr stream_retain; rfl; decide) | (apply op_faddr stream_holds; rfl; decide) | (apply op_faddr stream_recs; rfl; decide) | (apply op_load strT; rfl) | (apply op_load (intT .i64); rfl) | (apply op_load (slT strT); rfl) | (apply op_load (slT recT); rfl) | (apply op_load streamT; rfl) | (apply op_call hnq; exact bsD) | (apply op_call hhf; exact bsD) | (apply op_len (xs := s.recs); rfl) | (exact bsO)) | apply J.seq | apply E.next | apply J.lq | apply Lq.nil | apply PRun.nil | apply J.block | apply E.in_normal | apply J.skip | (apply Lq.store; rfl; rfl; exact bsP; exact bsS; rfl; rfl) | (apply PRun.al; rfl) | (apply Lq.al; rfl; rfl; intro b) | (apply Open.cons; intro b) | apply Open.nil | (apply Lq.pass; rfl; rfl; rfl) | (apply PRun.pass; rfl; rfl) | (apply Lq.skip; rfl; rfl; rfl; exact bsB) | (apply PRun.skip; rfl; rfl; exact bsB) | (apply J.drawN; exact mixed; kernel_rfl) | (apply J.cond_t; rfl) | (apply J.cond_f; rfl) | apply J.exit | apply E.then_exit | apply E.in_exit | (apply E.in_other; rfl))
    (refine J.ret ?_; (repeat (first | refine E.then_ret ?_ | refine E.in_ret ?_)))
    exact E.ret1 rfl rfl
  refine Fn.mk' 59 Try.func31 rfl rfl rfl rfl fun w0 H0 => ?_
  repeat (first | ((first | (apply Lq.s; rfl) | apply PRun.s | (apply Lq.run; rfl; rfl; rfl; exact bsB) | (apply PRun.run; rfl; rfl; exact bsB)); first | (apply op_box streamT; rfl) | (apply op_faddr stream_name; rfl; decide) | (apply op_faddr stream_retain; rfl; decide) | (apply op_faddr stream_holds; rfl; decide) | (apply op_faddr stream_recs; rfl; decide) | (apply op_load strT; rfl) | (apply op_load (intT .i64); rfl) | (apply op_load (slT strT); rfl) | (apply op_load (slT recT); rfl) | (apply op_load streamT; rfl) | (apply op_call hnq; exact bsD) | (apply op_call hhf; exact bsD) | (apply op_len (xs := s.recs); rfl) | (exact bsO)) | apply J.seq | apply E.next | apply J.lq | apply Lq.nil | apply PRun.nil | apply J.block | apply E.in_normal | apply J.skip | (apply Lq.store; rfl; rfl; exact bsP; exact bsS; rfl; rfl) | (apply PRun.al; rfl) | (apply Lq.al; rfl; rfl; intro b) | (apply Open.cons; intro b) | apply Open.nil | (apply Lq.pass; rfl; rfl; rfl) | (apply PRun.pass; rfl; rfl) | (apply Lq.skip; rfl; rfl; rfl; exact bsB) | (apply PRun.skip; rfl; rfl; exact bsB) | (apply J.drawN; exact mixed; kernel_rfl) | (apply J.cond_t; rfl) | (apply J.cond_f; rfl) | apply J.exit | apply E.then_exit | apply E.in_exit | (apply E.in_other; rfl))
  refine J.loop (fun i : Nat => i ≤ s.recs.length ∧ (∀ (j : Nat) (a : Rec), j < i → s.recs[j]? = some a → recOk a = true) ∧ ∀ (j : Nat) (a b : Rec), j + 1 < i → s.recs[j]? = some a → s.recs[j + 1]? = some b → a.time ≤ b.time) (fun i => [(1, ptr (streamT.cells s)), (32, sl recT.toTy s.recs), (33, is (.int .i64 (s.recs.length : Int))), (34, is (.int .i64 (i : Int)))]) (fun _ => []) (fun i => s.recs.length - i) 0 ⟨Nat.zero_le _, fun j a hj => by omega, fun j a b hj => by omega⟩ (Sub.same (by repeat' (first | exact trivial | refine ⟨rfl, ?_⟩))) ?_
  rintro i ⟨hi, hn, hp⟩
  by_cases hlt : i < s.recs.length
  · obtain ⟨q, hq⟩ : ∃ q, s.recs[i]? = some q := ⟨_, List.getElem?_eq_getElem hlt⟩
    have hrq := record_fn q
    cases ho : recOk q
    · rw [ho] at hrq
      repeat (first | ((first | (apply Lq.s; rfl) | apply PRun.s | (apply Lq.run; rfl; rfl; rfl; exact bsB) | (apply PRun.run; rfl; rfl; exact bsB)); first | (apply op_iaddr recT.toTy (x := q); rfl; rfl; exact Int.natCast_nonneg _; (rw [Int.toNat_natCast]; exact hq)) | (apply op_load recT; rfl) | (exact bsO)) | apply J.seq | apply E.next | apply J.lq | apply Lq.nil | apply PRun.nil | apply J.block | apply E.in_normal | apply J.skip | (apply Lq.store; rfl; rfl; exact bsP; exact bsS; rfl; rfl) | (apply PRun.al; rfl) | (apply Lq.al; rfl; rfl; intro b) | (apply Open.cons; intro b) | apply Open.nil | (apply Lq.pass; rfl; rfl; rfl) | (apply PRun.pass; rfl; rfl) | (apply Lq.skip; rfl; rfl; rfl; exact bsB) | (apply PRun.skip; rfl; rfl; exact bsB) | (apply J.drawN; exact mixed; kernel_rfl) | (apply J.cond_t; rfl) | (apply J.cond_f; rfl) | apply J.exit | apply E.then_exit | apply E.in_exit | (apply E.in_other; rfl))
      revert b
      intro b4
      (apply Lq.storeE (φs' := recT.cells q); rfl; rfl; exact List.Perm.refl _; exact Seg.val _ _; exact recT.len _; exact Nat.le_refl 37; exact splice_all (by rw [recT.len]; rfl)); refine Lq.frzB 4 rfl (List.Perm.refl _) ?_
      repeat (first | ((first | (apply Lq.s; rfl) | apply PRun.s | (apply Lq.run; rfl; rfl; rfl; exact bsB) | (apply PRun.run; rfl; rfl; exact bsB)); first | (apply op_box streamT; rfl) | (apply op_faddr stream_name; rfl; decide) | (apply op_faddr stream_retain; rfl; decide) | (apply op_faddr stream_holds; rfl; decide) | (apply op_faddr stream_recs; rfl; decide) | (apply op_load strT; rfl) | (apply op_load (intT .i64); rfl) | (apply op_load (slT strT); rfl) | (apply op_load (slT recT); rfl) | (apply op_load streamT; rfl) | (apply op_load recT; rfl) | (apply op_call hrq; exact bsD) | (exact bsO)) | apply J.seq | apply E.next | apply J.lq | apply Lq.nil | apply PRun.nil | apply J.block | apply E.in_normal | apply J.skip | (apply Lq.store; rfl; rfl; exact bsP; exact bsS; rfl; rfl) | (apply PRun.al; rfl) | (apply Lq.al; rfl; rfl; intro b) | (apply Open.cons; intro b) | apply Open.nil | (apply Lq.pass; rfl; rfl; rfl) | (apply PRun.pass; rfl; rfl) | (apply Lq.skip; rfl; rfl; rfl; exact bsB) | (apply PRun.skip; rfl; rfl; exact bsB) | (apply J.drawN; exact mixed; kernel_rfl) | (apply J.cond_t; rfl) | (apply J.cond_f; rfl) | apply J.exit | apply E.then_exit | apply E.in_exit | (apply E.in_other; rfl))
      (refine J.ret ?_; (repeat (first | refine E.then_ret ?_ | refine E.in_ret ?_)))
      rw [checkM_recs (recsOk_rec i q hq ho)]
      exact E.ret1 rfl rfl
    rw [ho] at hrq
    have hn' : ∀ (j : Nat) (a : Rec), j < i + 1 → s.recs[j]? = some a → recOk a = true := fun j a hj ha => by
      rcases Nat.lt_or_eq_of_le (Nat.le_of_lt_succ hj) with h | rfl
      · exact hn j a h ha
      · rw [hq] at ha; injection ha with ha; subst ha; exact ho
    cases i with
    | zero =>
      repeat (first | ((first | (apply Lq.s; rfl) | apply PRun.s | (apply Lq.run; rfl; rfl; rfl; exact bsB) | (apply PRun.run; rfl; rfl; exact bsB)); first | (apply op_iaddr recT.toTy (x := q); rfl; rfl; exact Int.natCast_nonneg _; (rw [Int.toNat_natCast]; exact hq)) | (apply op_load recT; rfl) | (exact bsO)) | apply J.seq | apply E.next | apply J.lq | apply Lq.nil | apply PRun.nil | apply J.block | apply E.in_normal | apply J.skip | (apply Lq.store; rfl; rfl; exact bsP; exact bsS; rfl; rfl) | (apply PRun.al; rfl) | (apply Lq.al; rfl; rfl; intro b) | (apply Open.cons; intro b) | apply Open.nil | (apply Lq.pass; rfl; rfl; rfl) | (apply PRun.pass; rfl; rfl) | (apply Lq.skip; rfl; rfl; rfl; exact bsB) | (apply PRun.skip; rfl; rfl; exact bsB) | (apply J.drawN; exact mixed; kernel_rfl) | (apply J.cond_t; rfl) | (apply J.cond_f; rfl) | apply J.exit | apply E.then_exit | apply E.in_exit | (apply E.in_other; rfl))
      revert b
      intro b4
      (apply Lq.storeE (φs' := recT.cells q); rfl; rfl; exact List.Perm.refl _; exact Seg.val _ _; exact recT.len _; exact Nat.le_refl 37; exact splice_all (by rw [recT.len]; rfl)); refine Lq.frzB 4 rfl (List.Perm.refl _) ?_
      repeat (first | ((first | (apply Lq.s; rfl) | apply PRun.s | (apply Lq.run; rfl; rfl; rfl; exact bsB) | (apply PRun.run; rfl; rfl; exact bsB)); first | (apply op_box streamT; rfl) | (apply op_faddr stream_name; rfl; decide) | (apply op_faddr stream_retain; rfl; decide) | (apply op_faddr stream_holds; rfl; decide) | (apply op_faddr stream_recs; rfl; decide) | (apply op_load strT; rfl) | (apply op_load (intT .i64); rfl) | (apply op_load (slT strT); rfl) | (apply op_load (slT recT); rfl) | (apply op_load streamT; rfl) | (apply op_load recT; rfl) | (apply op_call hrq; exact bsD) | (exact bsO)) | apply J.seq | apply E.next | apply J.lq | apply Lq.nil | apply PRun.nil | apply J.block | apply E.in_normal | apply J.skip | (apply Lq.store; rfl; rfl; exact bsP; exact bsS; rfl; rfl) | (apply PRun.al; rfl) | (apply Lq.al; rfl; rfl; intro b) | (apply Open.cons; intro b) | apply Open.nil | (apply Lq.pass; rfl; rfl; rfl) | (apply PRun.pass; rfl; rfl) | (apply Lq.skip; rfl; rfl; rfl; exact bsB) | (apply PRun.skip; rfl; rfl; exact bsB) | (apply J.drawN; exact mixed; kernel_rfl) | (apply J.cond_t; rfl) | (apply J.cond_f; rfl) | apply J.exit | apply E.then_exit | apply E.in_exit | (apply E.in_other; rfl))
      exact E.again 1 (by omega) ⟨by omega, hn', fun j a b hj => by omega⟩ (Sub.same (by repeat' (first | exact trivial | refine ⟨rfl, ?_⟩)))
    | succ k =>
      obtain ⟨a, ha⟩ : ∃ a, s.recs[k]? = some a := ⟨_, List.getElem?_eq_getElem (by omega)⟩
      by_cases hs : a.time ≤ q.time
      · repeat (first | ((first | (apply Lq.s; rfl) | apply PRun.s | (apply Lq.run; rfl; rfl; rfl; exact bsB) | (apply PRun.run; rfl; rfl; exact bsB)); first | (apply op_iaddr recT.toTy (x := q); rfl; rfl; exact Int.natCast_nonneg _; (rw [Int.toNat_natCast]; exact hq)) | (apply op_load recT; rfl) | (exact bsO)) | apply J.seq | apply E.next | apply J.lq | apply Lq.nil | apply PRun.nil | apply J.block | apply E.in_normal | apply J.skip | (apply Lq.store; rfl; rfl; exact bsP; exact bsS; rfl; rfl) | (apply PRun.al; rfl) | (apply Lq.al; rfl; rfl; intro b) | (apply Open.cons; intro b) | apply Open.nil | (apply Lq.pass; rfl; rfl; rfl) | (apply PRun.pass; rfl; rfl) | (apply Lq.skip; rfl; rfl; rfl; exact bsB) | (apply PRun.skip; rfl; rfl; exact bsB) | (apply J.drawN; exact mixed; kernel_rfl) | (apply J.cond_t; rfl) | (apply J.cond_f; rfl) | apply J.exit | apply E.then_exit | apply E.in_exit | (apply E.in_other; rfl))
        revert b
        intro b4
        (apply Lq.storeE (φs' := recT.cells q); rfl; rfl; exact List.Perm.refl _; exact Seg.val _ _; exact recT.len _; exact Nat.le_refl 37; exact splice_all (by rw [recT.len]; rfl)); refine Lq.frzB 4 rfl (List.Perm.refl _) ?_
        repeat (first | ((first | (apply Lq.s; rfl) | apply PRun.s | (apply Lq.run; rfl; rfl; rfl; exact bsB) | (apply PRun.run; rfl; rfl; exact bsB)); first | (apply op_box streamT; rfl) | (apply op_faddr stream_name; rfl; decide) | (apply op_faddr stream_retain; rfl; decide) | (apply op_faddr stream_holds; rfl; decide) | (apply op_faddr stream_recs; rfl; decide) | (apply op_load strT; rfl) | (apply op_load (intT .i64); rfl) | (apply op_load (slT strT); rfl) | (apply op_load (slT recT); rfl) | (apply op_load streamT; rfl) | (apply op_load recT; rfl) | (apply op_call hrq; exact bsD) | (apply op_sub (c := (k : Int)); rfl; rfl; (rw [show ((k + 1 : Nat) : Int) - 1 = (k : Int) by omega]; apply wrapi <;> omega)) | (apply op_iaddr recT.toTy (x := a); rfl; rfl; exact Int.natCast_nonneg _; (rw [Int.toNat_natCast]; exact ha)) | (apply op_faddr rec_time; rfl; decide) | (apply op_load (intT .i64); rfl) | (exact bsO)) | apply J.seq | apply E.next | apply J.lq | apply Lq.nil | apply PRun.nil | apply J.block | apply E.in_normal | apply J.skip | (apply Lq.store; rfl; rfl; exact bsP; exact bsS; rfl; rfl) | (apply PRun.al; rfl) | (apply Lq.al; rfl; rfl; intro b) | (apply Open.cons; intro b) | apply Open.nil | (apply Lq.pass; rfl; rfl; rfl) | (apply PRun.pass; rfl; rfl) | (apply Lq.skip; rfl; rfl; rfl; exact bsB) | (apply PRun.skip; rfl; rfl; exact bsB) | (apply J.drawN; exact mixed; kernel_rfl) | (apply J.cond_t; rfl) | (apply J.cond_f; rfl) | apply J.exit | apply E.then_exit | apply E.in_exit | (apply E.in_other; rfl))
        refine E.again (k + 1 + 1) (by omega) ⟨by omega, hn', fun j x y hj hx hy => ?_⟩ (Sub.same (by repeat' (first | exact trivial | refine ⟨rfl, ?_⟩)))
        rcases Nat.lt_or_eq_of_le (Nat.le_of_lt_succ hj) with h | h
        · exact hp j x y h hx hy
        · obtain rfl : j = k := by omega
          rw [ha] at hx; injection hx with hx; subst hx
          rw [hq] at hy; injection hy with hy; subst hy
          exact hs
      · repeat (first | ((first | (apply Lq.s; rfl) | apply PRun.s | (apply Lq.run; rfl; rfl; rfl; exact bsB) | (apply PRun.run; rfl; rfl; exact bsB)); first | (apply op_iaddr recT.toTy (x := q); rfl; rfl; exact Int.natCast_nonneg _; (rw [Int.toNat_natCast]; exact hq)) | (apply op_load recT; rfl) | (exact bsO)) | apply J.seq | apply E.next | apply J.lq | apply Lq.nil | apply PRun.nil | apply J.block | apply E.in_normal | apply J.skip | (apply Lq.store; rfl; rfl; exact bsP; exact bsS; rfl; rfl) | (apply PRun.al; rfl) | (apply Lq.al; rfl; rfl; intro b) | (apply Open.cons; intro b) | apply Open.nil | (apply Lq.pass; rfl; rfl; rfl) | (apply PRun.pass; rfl; rfl) | (apply Lq.skip; rfl; rfl; rfl; exact bsB) | (apply PRun.skip; rfl; rfl; exact bsB) | (apply J.drawN; exact mixed; kernel_rfl) | (apply J.cond_t; rfl) | (apply J.cond_f; rfl) | apply J.exit | apply E.then_exit | apply E.in_exit | (apply E.in_other; rfl))
        revert b
        intro b4
        (apply Lq.storeE (φs' := recT.cells q); rfl; rfl; exact List.Perm.refl _; exact Seg.val _ _; exact recT.len _; exact Nat.le_refl 37; exact splice_all (by rw [recT.len]; rfl)); refine Lq.frzB 4 rfl (List.Perm.refl _) ?_
        repeat (first | ((first | (apply Lq.s; rfl) | apply PRun.s | (apply Lq.run; rfl; rfl; rfl; exact bsB) | (apply PRun.run; rfl; rfl; exact bsB)); first | (apply op_box streamT; rfl) | (apply op_faddr stream_name; rfl; decide) | (apply op_faddr stream_retain; rfl; decide) | (apply op_faddr stream_holds; rfl; decide) | (apply op_faddr stream_recs; rfl; decide) | (apply op_load strT; rfl) | (apply op_load (intT .i64); rfl) | (apply op_load (slT strT); rfl) | (apply op_load (slT recT); rfl) | (apply op_load streamT; rfl) | (apply op_load recT; rfl) | (apply op_call hrq; exact bsD) | (apply op_sub (c := (k : Int)); rfl; rfl; (rw [show ((k + 1 : Nat) : Int) - 1 = (k : Int) by omega]; apply wrapi <;> omega)) | (apply op_iaddr recT.toTy (x := a); rfl; rfl; exact Int.natCast_nonneg _; (rw [Int.toNat_natCast]; exact ha)) | (apply op_faddr rec_time; rfl; decide) | (apply op_load (intT .i64); rfl) | (exact bsO)) | apply J.seq | apply E.next | apply J.lq | apply Lq.nil | apply PRun.nil | apply J.block | apply E.in_normal | apply J.skip | (apply Lq.store; rfl; rfl; exact bsP; exact bsS; rfl; rfl) | (apply PRun.al; rfl) | (apply Lq.al; rfl; rfl; intro b) | (apply Open.cons; intro b) | apply Open.nil | (apply Lq.pass; rfl; rfl; rfl) | (apply PRun.pass; rfl; rfl) | (apply Lq.skip; rfl; rfl; rfl; exact bsB) | (apply PRun.skip; rfl; rfl; exact bsB) | (apply J.drawN; exact mixed; kernel_rfl) | (apply J.cond_t; rfl) | (apply J.cond_f; rfl) | apply J.exit | apply E.then_exit | apply E.in_exit | (apply E.in_other; rfl))
        (refine J.ret ?_; (repeat (first | refine E.then_ret ?_ | refine E.in_ret ?_)))
        rw [checkM_recs (recsOk_asc k a q ha hq (by omega))]
        exact E.ret1 rfl rfl
  · obtain rfl : i = s.recs.length := by omega
    repeat (first | ((first | (apply Lq.s; rfl) | apply PRun.s | (apply Lq.run; rfl; rfl; rfl; exact bsB) | (apply PRun.run; rfl; rfl; exact bsB)); first | (exact bsO)) | apply J.seq | apply E.next | apply J.lq | apply Lq.nil | apply PRun.nil | apply J.block | apply E.in_normal | apply J.skip | (apply Lq.store; rfl; rfl; exact bsP; exact bsS; rfl; rfl) | (apply PRun.al; rfl) | (apply Lq.al; rfl; rfl; intro b) | (apply Open.cons; intro b) | apply Open.nil | (apply Lq.pass; rfl; rfl; rfl) | (apply PRun.pass; rfl; rfl) | (apply Lq.skip; rfl; rfl; rfl; exact bsB) | (apply PRun.skip; rfl; rfl; exact bsB) | (apply J.drawN; exact mixed; kernel_rfl) | (apply J.cond_t; rfl) | (apply J.cond_f; rfl) | apply J.exit | apply E.then_exit | apply E.in_exit | (apply E.in_other; rfl))
    (refine J.ret ?_; (repeat (first | refine E.then_ret ?_ | refine E.in_ret ?_)))
    have e : recsOk s.recs = true := by
      unfold recsOk
      rw [all_at.2 fun j a ha => hn j a (List.getElem?_eq_some_iff.1 ha).1 ha, adj_iff.2 fun j a b ha hb => decide_eq_true (hp j a b (List.getElem?_eq_some_iff.1 hb).1 ha hb), decide_eq_true h5]
      rfl
    rw [checkM_t h1 ⟨h2, h3⟩ h4 e]
    exact E.ret1 rfl rfl
theorem sclone_fn (l : List Str) (hl : l.length ≤ 1000000) : Fn Try.prog 57 [sl strT.toTy l] (sl strT.toTy l) := by
  refine Fn.mk' 8 Try.func57 rfl rfl rfl rfl fun w0 H0 => ?_
  repeat (first | ((first | (apply Lq.s; rfl) | apply PRun.s | (apply Lq.run; rfl; rfl; rfl; exact bsB) | (apply PRun.run; rfl; rfl; exact bsB)); first | (exact bsO)) | apply J.seq | apply E.next | apply J.lq | apply Lq.nil | apply PRun.nil | apply J.block | apply E.in_normal | apply J.skip | (apply Lq.store; rfl; rfl; exact bsP; exact bsS; rfl; rfl) | (apply PRun.al; rfl) | (apply Lq.al; rfl; rfl; intro b) | (apply Open.cons; intro b) | apply Open.nil | (apply Lq.pass; rfl; rfl; rfl) | (apply PRun.pass; rfl; rfl) | (apply Lq.skip; rfl; rfl; rfl; exact bsB) | (apply PRun.skip; rfl; rfl; exact bsB) | (apply J.drawN; exact mixed; kernel_rfl) | (apply J.cond_t; rfl) | (apply J.cond_f; rfl) | apply J.exit | apply E.then_exit | apply E.in_exit | (apply E.in_other; rfl))
  refine Lq.slOpen 3 rfl fun A c hA => ?_
  cases A with
  | none =>
    obtain rfl := hA rfl
    repeat (first | ((first | (apply Lq.s; rfl) | apply PRun.s | (apply Lq.run; rfl; rfl; rfl; exact bsB) | (apply PRun.run; rfl; rfl; exact bsB)); first | (apply op_slnil; rfl; rfl) | (exact bsO)) | apply J.seq | apply E.next | apply J.lq | apply Lq.nil | apply PRun.nil | apply J.block | apply E.in_normal | apply J.skip | (apply Lq.store; rfl; rfl; exact bsP; exact bsS; rfl; rfl) | (apply PRun.al; rfl) | (apply Lq.al; rfl; rfl; intro b) | (apply Open.cons; intro b) | apply Open.nil | (apply Lq.pass; rfl; rfl; rfl) | (apply PRun.pass; rfl; rfl) | (apply Lq.skip; rfl; rfl; rfl; exact bsB) | (apply PRun.skip; rfl; rfl; exact bsB) | (apply J.drawN; exact mixed; kernel_rfl) | (apply J.cond_t; rfl) | (apply J.cond_f; rfl) | apply J.exit | apply E.then_exit | apply E.in_exit | (apply E.in_other; rfl))
    (refine J.ret ?_; (repeat (first | refine E.then_ret ?_ | refine E.in_ret ?_)))
    exact E.conv 2 rfl sl_nil (E.ret1 rfl rfl)
  | some A =>
    (apply Lq.s; rfl; (apply op_slnil; rfl; rfl))
    (repeat (first | apply J.seq | apply E.next | apply J.lq | apply Lq.nil | apply J.block | apply E.in_normal | apply J.skip | (apply J.cond_t; rfl) | (apply J.cond_f; rfl)))
    (apply Lq.bsl (T := strT) (xs := []); rfl; (repeat (first | exact PO.nil _ | (apply PO.cons; rfl))); rfl; rfl; rfl)
    intro A1 c1
    repeat (first | ((first | (apply Lq.s; rfl) | apply PRun.s | (apply Lq.run; rfl; rfl; rfl; exact bsB) | (apply PRun.run; rfl; rfl; exact bsB)); first | (exact bsO)) | apply J.seq | apply E.next | apply J.lq | apply Lq.nil | apply PRun.nil | apply J.block | apply E.in_normal | apply J.skip | (apply Lq.store; rfl; rfl; exact bsP; exact bsS; rfl; rfl) | (apply PRun.al; rfl) | (apply Lq.al; rfl; rfl; intro b) | (apply Open.cons; intro b) | apply Open.nil | (apply Lq.pass; rfl; rfl; rfl) | (apply PRun.pass; rfl; rfl) | (apply Lq.skip; rfl; rfl; rfl; exact bsB) | (apply PRun.skip; rfl; rfl; exact bsB) | (apply J.drawN; exact mixed; kernel_rfl) | (apply J.cond_t; rfl) | (apply J.cond_f; rfl) | apply J.exit | apply E.then_exit | apply E.in_exit | (apply E.in_other; rfl))
    (apply Lq.append (T := strT) (xs := []) (ys := l); rfl; exact List.Perm.refl _; (apply From.sl; rfl); rfl; rfl; rfl; (show 0 + _ ≤ maxLen; unfold maxLen; omega); (show (0 + _) * 16 ≤ _; omega))
    intro A2 c2
    rw [List.nil_append]
    repeat (first | ((first | (apply Lq.s; rfl) | apply PRun.s | (apply Lq.run; rfl; rfl; rfl; exact bsB) | (apply PRun.run; rfl; rfl; exact bsB)); first | (exact bsO)) | apply J.seq | apply E.next | apply J.lq | apply Lq.nil | apply PRun.nil | apply J.block | apply E.in_normal | apply J.skip | (apply Lq.store; rfl; rfl; exact bsP; exact bsS; rfl; rfl) | (apply PRun.al; rfl) | (apply Lq.al; rfl; rfl; intro b) | (apply Open.cons; intro b) | apply Open.nil | (apply Lq.pass; rfl; rfl; rfl) | (apply PRun.pass; rfl; rfl) | (apply Lq.skip; rfl; rfl; rfl; exact bsB) | (apply PRun.skip; rfl; rfl; exact bsB) | (apply J.drawN; exact mixed; kernel_rfl) | (apply J.cond_t; rfl) | (apply J.cond_f; rfl) | apply J.exit | apply E.then_exit | apply E.in_exit | (apply E.in_other; rfl))
    (refine J.ret ?_; (repeat (first | refine E.then_ret ?_ | refine E.in_ret ?_)))
    refine E.freeze 2 rfl (List.Perm.refl _) ?_
    exact E.ret1 rfl rfl
theorem rclone_fnR (l : List Rec) (hl : l.length ≤ 1000000) : FnR Try.prog 58 [sl recT.toTy l] [] (fun ψ Δ => ∃ A c, ψ = is (.slice A l.length c) ∧ Δ = [row (.slice A l.length c) 51 recT.toTy l]) := by
  refine FnR.mk' 8 Try.func58 rfl rfl rfl rfl fun w0 H0 => ?_
  refine J.nilrow 51 recT.toTy ?_
  repeat (first | ((first | (apply Lq.s; rfl) | apply PRun.s | (apply Lq.run; rfl; rfl; rfl; exact bsB) | (apply PRun.run; rfl; rfl; exact bsB)); first | (exact bsO)) | apply J.seq | apply E.next | apply J.lq | apply Lq.nil | apply PRun.nil | apply J.block | apply E.in_normal | apply J.skip | (apply Lq.store; rfl; rfl; exact bsP; exact bsS; rfl; rfl) | (apply PRun.al; rfl) | (apply Lq.al; rfl; rfl; intro b) | (apply Open.cons; intro b) | apply Open.nil | (apply Lq.pass; rfl; rfl; rfl) | (apply PRun.pass; rfl; rfl) | (apply Lq.skip; rfl; rfl; rfl; exact bsB) | (apply PRun.skip; rfl; rfl; exact bsB) | (apply J.drawN; exact mixed; kernel_rfl) | (apply J.cond_t; rfl) | (apply J.cond_f; rfl) | apply J.exit | apply E.then_exit | apply E.in_exit | (apply E.in_other; rfl))
  refine Lq.slOpen 3 rfl fun A c hA => ?_
  cases A with
  | none =>
    obtain rfl := hA rfl
    repeat (first | ((first | (apply Lq.s; rfl) | apply PRun.s | (apply Lq.run; rfl; rfl; rfl; exact bsB) | (apply PRun.run; rfl; rfl; exact bsB)); first | (apply op_slnil; rfl; rfl) | (exact bsO)) | apply J.seq | apply E.next | apply J.lq | apply Lq.nil | apply PRun.nil | apply J.block | apply E.in_normal | apply J.skip | (apply Lq.store; rfl; rfl; exact bsP; exact bsS; rfl; rfl) | (apply PRun.al; rfl) | (apply Lq.al; rfl; rfl; intro b) | (apply Open.cons; intro b) | apply Open.nil | (apply Lq.pass; rfl; rfl; rfl) | (apply PRun.pass; rfl; rfl) | (apply Lq.skip; rfl; rfl; rfl; exact bsB) | (apply PRun.skip; rfl; rfl; exact bsB) | (apply J.drawN; exact mixed; kernel_rfl) | (apply J.cond_t; rfl) | (apply J.cond_f; rfl) | apply J.exit | apply E.then_exit | apply E.in_exit | (apply E.in_other; rfl))
    (refine J.ret ?_; (repeat (first | refine E.then_ret ?_ | refine E.in_ret ?_)))
    exact E.retR1 (Δ' := [row (.slice none 0 0) 51 recT.toTy []]) (G := []) rfl rfl ⟨none, 0, rfl, rfl⟩ (List.Perm.refl _)
  | some A =>
    (apply Lq.s; rfl; (apply op_slnil; rfl; rfl))
    (repeat (first | apply J.seq | apply E.next | apply J.lq | apply Lq.nil | apply J.block | apply E.in_normal | apply J.skip | (apply J.cond_t; rfl) | (apply J.cond_f; rfl)))
    (apply Lq.bsl (T := recT) (xs := []); rfl; (repeat (first | exact PO.nil _ | (apply PO.cons; rfl))); rfl; rfl; rfl)
    intro A1 c1
    repeat (first | ((first | (apply Lq.s; rfl) | apply PRun.s | (apply Lq.run; rfl; rfl; rfl; exact bsB) | (apply PRun.run; rfl; rfl; exact bsB)); first | (exact bsO)) | apply J.seq | apply E.next | apply J.lq | apply Lq.nil | apply PRun.nil | apply J.block | apply E.in_normal | apply J.skip | (apply Lq.store; rfl; rfl; exact bsP; exact bsS; rfl; rfl) | (apply PRun.al; rfl) | (apply Lq.al; rfl; rfl; intro b) | (apply Open.cons; intro b) | apply Open.nil | (apply Lq.pass; rfl; rfl; rfl) | (apply PRun.pass; rfl; rfl) | (apply Lq.skip; rfl; rfl; rfl; exact bsB) | (apply PRun.skip; rfl; rfl; exact bsB) | (apply J.drawN; exact mixed; kernel_rfl) | (apply J.cond_t; rfl) | (apply J.cond_f; rfl) | apply J.exit | apply E.then_exit | apply E.in_exit | (apply E.in_other; rfl))
    (apply Lq.append (T := recT) (xs := []) (ys := l); rfl; exact List.Perm.refl _; (apply From.sl; rfl); rfl; rfl; rfl; (show 0 + _ ≤ maxLen; unfold maxLen; omega); (show (0 + _) * 72 ≤ _; omega))
    intro A2 c2
    rw [List.nil_append]
    repeat (first | ((first | (apply Lq.s; rfl) | apply PRun.s | (apply Lq.run; rfl; rfl; rfl; exact bsB) | (apply PRun.run; rfl; rfl; exact bsB)); first | (exact bsO)) | apply J.seq | apply E.next | apply J.lq | apply Lq.nil | apply PRun.nil | apply J.block | apply E.in_normal | apply J.skip | (apply Lq.store; rfl; rfl; exact bsP; exact bsS; rfl; rfl) | (apply PRun.al; rfl) | (apply Lq.al; rfl; rfl; intro b) | (apply Open.cons; intro b) | apply Open.nil | (apply Lq.pass; rfl; rfl; rfl) | (apply PRun.pass; rfl; rfl) | (apply Lq.skip; rfl; rfl; rfl; exact bsB) | (apply PRun.skip; rfl; rfl; exact bsB) | (apply J.drawN; exact mixed; kernel_rfl) | (apply J.cond_t; rfl) | (apply J.cond_f; rfl) | apply J.exit | apply E.then_exit | apply E.in_exit | (apply E.in_other; rfl))
    (refine J.ret ?_; (repeat (first | refine E.then_ret ?_ | refine E.in_ret ?_)))
    exact E.retR1 (G := [_]) rfl rfl ⟨A2, c2, rfl, rfl⟩ (List.Perm.refl _)
end Go.Proofs.Ytbemcehcipkliaa.L
