/-
  The laws of streams, walked: StreamsNew.
-/
import Derived.Test.YtafbkgijahinkaaNp
import Derived.Test.YtafbkgijahinkaaNm
namespace Go.Proofs.Ytafbkgijahinkaa.L
open Go
set_option linter.unusedSectionVars false
variable [Globs]
set_option linter.unusedVariables false
theorem check_new {x : Str} (hn : nameOk x = true) : checkM { zeroS with name := x } = true := checkM_iff.2 ⟨hn, rfl, ⟨rfl, rfl, Nat.zero_le _⟩, rfl, rfl, Nat.zero_le _⟩
set_option linter.unusedVariables false
set_option linter.unusedSimpArgs false
attribute [local irreducible] J Lq E OpP PRun is any agg tup ptr sl PRunW OpE
attribute [local irreducible] slt nameE lowerN cloT cntM recOk row tB checkM applyM errM resM lvs liveN beyondM longB newM
set_option maxHeartbeats 4000000 in
theorem streamsNew (x : Str) (hx : x.length ≤ maxLen) : Fn Try.prog 7 [is (str x)] (is (.bool true)) := by
  have hlf := long_fn x
  cases hl : longB x
  case true =>
    rw [hl] at hlf
    refine Fn.mk' 72 Try.func7 rfl rfl rfl rfl fun w0 H0 => ?_
    repeat (first | ((first | (apply Lq.s; rfl) | apply PRun.s | (apply Lq.run; rfl; rfl; rfl; exact bsB) | (apply PRun.run; rfl; rfl; exact bsB)); first | (apply op_box entryT; rfl) | (apply op_faddr entry_kind; rfl; decide) | (apply op_faddr entry_n; rfl; decide) | (apply op_faddr entry_len; rfl; decide) | (apply op_faddr entry_name; rfl; decide) | (apply op_load entryT; rfl) | (apply op_call lives16_fn; exact bsD) | (apply op_call hlf; exact bsD) | (exact bsO)) | apply J.seq | apply E.next | apply J.lq | apply Lq.nil | apply PRun.nil | apply J.block | apply E.in_normal | apply J.skip | (apply Lq.store; rfl; rfl; exact bsP; exact bsS; rfl; rfl) | (apply PRun.al; rfl) | (apply Lq.al; rfl; rfl; intro b) | (apply Open.cons; intro b) | apply Open.nil | (apply Lq.pass; rfl; rfl; rfl) | (apply PRun.pass; rfl; rfl) | (apply Lq.skip; rfl; rfl; rfl; exact bsB) | (apply PRun.skip; rfl; rfl; exact bsB) | (apply J.drawN; exact mixed; kernel_rfl) | (apply J.cond_t; rfl) | (apply J.cond_f; rfl) | apply J.exit | apply E.then_exit | apply E.in_exit | (apply E.in_other; rfl))
    (refine J.ret ?_; (repeat (first | refine E.then_ret ?_ | refine E.in_ret ?_)))
    exact E.ret1 rfl rfl
  rw [hl] at hlf
  have hnf := new_fn x
  have hcf := ncheck_fn x
  cases hn : nameOk x
  · have hz : newM x = zeroS := by unfold newM; rw [hn]; rfl
    rw [hz, nameE_bad hn] at hnf
    rw [nameE_bad hn] at hcf
    have hsf := sameStream_fn zeroS zeroS (by decide) (by decide)
    rw [decide_eq_true (show zeroS = zeroS from rfl)] at hsf
    refine Fn.mk' 72 Try.func7 rfl rfl rfl rfl fun w0 H0 => ?_
    repeat (first | ((first | (apply Lq.s; rfl) | apply PRun.s | (apply Lq.run; rfl; rfl; rfl; exact bsB) | (apply PRun.run; rfl; rfl; exact bsB)); first | (apply op_box entryT; rfl) | (apply op_faddr entry_kind; rfl; decide) | (apply op_faddr entry_n; rfl; decide) | (apply op_faddr entry_len; rfl; decide) | (apply op_faddr entry_name; rfl; decide) | (apply op_load entryT; rfl) | (apply op_call lives16_fn; exact bsD) | (apply op_call hlf; exact bsD) | (apply op_call hnf; exact bsD) | (apply op_call hcf; exact bsD) | (apply op_oload streamT (x := zeroS); rfl; exact bsM; rfl) | (apply op_zeroS; rfl; rfl) | (apply op_call hsf; exact bsD) | (exact bsO)) | apply J.seq | apply E.next | apply J.lq | apply Lq.nil | apply PRun.nil | apply J.block | apply E.in_normal | apply J.skip | (apply Lq.store; rfl; rfl; exact bsP; exact bsS; rfl; rfl) | (apply PRun.al; rfl) | (apply Lq.al; rfl; rfl; intro b) | (apply Open.cons; intro b) | apply Open.nil | (apply Lq.pass; rfl; rfl; rfl) | (apply PRun.pass; rfl; rfl) | (apply Lq.skip; rfl; rfl; rfl; exact bsB) | (apply PRun.skip; rfl; rfl; exact bsB) | (apply J.drawN; exact mixed; kernel_rfl) | (apply J.cond_t; rfl) | (apply J.cond_f; rfl) | apply J.exit | apply E.then_exit | apply E.in_exit | (apply E.in_other; rfl))
    (refine J.ret ?_; (repeat (first | refine E.then_ret ?_ | refine E.in_ret ?_)))
    exact E.ret1 rfl rfl
  · have hz : newM x = { zeroS with name := x } := by unfold newM; rw [hn]; rfl
    rw [hz, nameE_ok hn] at hnf
    rw [nameE_ok hn] at hcf
    have hk : checkM { zeroS with name := x } = true := check_new hn
    have hck := scheck_fn { zeroS with name := x } (Nat.zero_le _) (Nat.zero_le _)
    rw [hk] at hck
    have hst := stat_fn { zeroS with name := x } (Nat.zero_le _) (Nat.zero_le _)
    have hm : statM { zeroS with name := x } = ⟨x, 0, [], 0, 0⟩ := by unfold statM liveN; rfl
    rw [hm] at hst
    have hhf := hashes_fn { zeroS with name := x } (Nat.zero_le _)
    have hlv : lvs { zeroS with name := x } = [] := by unfold lvs; rfl
    rw [hlv] at hhf
    have hdx : decide (x = x) = true := decide_eq_true rfl
    refine Fn.mk' 72 Try.func7 rfl rfl rfl rfl fun w0 H0 => ?_
    repeat (first | ((first | (apply Lq.s; rfl) | apply PRun.s | (apply Lq.run; rfl; rfl; rfl; exact bsB) | (apply PRun.run; rfl; rfl; exact bsB)); first | (apply op_box entryT; rfl) | (apply op_faddr entry_kind; rfl; decide) | (apply op_faddr entry_n; rfl; decide) | (apply op_faddr entry_len; rfl; decide) | (apply op_faddr entry_name; rfl; decide) | (apply op_load entryT; rfl) | (apply op_call lives16_fn; exact bsD) | (apply op_call hlf; exact bsD) | (apply op_call hnf; exact bsD) | (apply op_call hcf; exact bsD) | (apply op_oload streamT (x := { zeroS with name := x }); rfl; exact bsM; rfl) | (apply op_call hst; exact bsD) | (apply op_call hck; exact bsD) | (apply op_call hhf; exact bsD) | (apply op_oload strT (x := x); rfl; exact bsM; rfl) | (apply op_oload (intT .i64) (x := 0); rfl; exact bsM; rfl) | (apply op_oload (slT strT) (x := []); rfl; exact bsM; rfl) | (apply op_seql (a := x) (b := x); rfl; rfl) | (apply op_len (xs := ([] : List Str)); rfl) | (apply op_len (xs := ([] : List Hash)); rfl) | (exact bsO)) | apply J.seq | apply E.next | apply J.lq | apply Lq.nil | apply PRun.nil | apply J.block | apply E.in_normal | apply J.skip | (apply Lq.store; rfl; rfl; exact bsP; exact bsS; rfl; rfl) | (apply PRun.al; rfl) | (apply Lq.al; rfl; rfl; intro b) | (apply Open.cons; intro b) | apply Open.nil | (apply Lq.pass; rfl; rfl; rfl) | (apply PRun.pass; rfl; rfl) | (apply Lq.skip; rfl; rfl; rfl; exact bsB) | (apply PRun.skip; rfl; rfl; exact bsB) | (apply J.drawN; exact mixed; kernel_rfl) | (apply J.cond_t; rfl) | (apply J.cond_f; rfl) | apply J.exit | apply E.then_exit | apply E.in_exit | (apply E.in_other; rfl))
    (refine J.ret ?_; (repeat (first | refine E.then_ret ?_ | refine E.in_ret ?_)))
    exact E.ret1 rfl rfl
end Go.Proofs.Ytafbkgijahinkaa.L
