/-
  The laws of states, walked: StatesParts.
-/
import Derived.Test.YtbemcehcipkliaaOi
namespace Go.Proofs.Ytbemcehcipkliaa.L
open Go
set_option linter.unusedSectionVars false
variable [Globs]
set_option linter.unusedVariables false
theorem beyondE_len {l : List EntryS} {n : Int} (h : beyondE l n = false) : (l.length : Int) ≤ n := by
  unfold beyondE at h
  rw [Bool.or_eq_false_iff, decide_eq_false_iff_not] at h
  omega
set_option linter.unusedVariables false
set_option linter.unusedSimpArgs false
attribute [local irreducible] J Lq E OpP PRun is any agg tup ptr sl PRunW OpE
attribute [local irreducible] slt nameE lowerN cloT cntM recOk row tB checkM applyM errM resM beyondM longB newM lastT checkS applyS findI foldS allS all2B rr runsM grownM longerS beyondT beyondE
set_option maxHeartbeats 4000000 in
theorem statesParts (t : StateS) (l : List EntryS) (x : UInt8) (hx : StateOk t) (hx2 : l.length ≤ maxLen ∧ ∀ e ∈ l, EntryOk e) (hx3 : True) : Fn Try.prog 5 [stateT.val t, sl entryT.toTy l, is (.int .u8 (x.toNat : Int))] (is (.bool true)) := by
  have hlm := hx2.1
  have hu : x.toNat < 256 := x.toBitVec.isLt
  have hbf := beyond17_fn t hx
  have hbe := beyondE_fn l 60 hlm
  cases hb : beyondT t
  case true =>
    rw [hb] at hbf
    refine Fn.mk' 84 Try.func5 rfl rfl rfl rfl fun w0 H0 => ?_
    repeat (first | ((first | (apply Lq.s; rfl) | apply PRun.s | (apply Lq.run; rfl; rfl; rfl; exact bsB) | (apply PRun.run; rfl; rfl; exact bsB)); first | (apply op_box stateT; rfl) | (apply op_faddr state_clock; rfl; decide) | (apply op_load (intT .i64); rfl) | (apply op_load stateT; rfl) | (apply op_len (xs := l); rfl) | (apply op_call lives17_fn; exact bsD) | (apply op_call hbf; exact bsD) | (apply op_call hbe; exact bsD) | (exact bsO)) | apply J.seq | apply E.next | apply J.lq | apply Lq.nil | apply PRun.nil | apply J.block | apply E.in_normal | apply J.skip | (apply Lq.store; rfl; rfl; exact bsP; exact bsS; rfl; rfl) | (apply PRun.al; rfl) | (apply Lq.al; rfl; rfl; intro b) | (apply Open.cons; intro b) | apply Open.nil | (apply Lq.pass; rfl; rfl; rfl) | (apply PRun.pass; rfl; rfl) | (apply Lq.skip; rfl; rfl; rfl; exact bsB) | (apply PRun.skip; rfl; rfl; exact bsB) | (apply J.drawN; exact mixed; kernel_rfl) | (apply J.cond_t; rfl) | (apply J.cond_f; rfl) | apply J.exit | apply E.then_exit | apply E.in_exit | (apply E.in_other; rfl))
    (refine J.ret ?_; (repeat (first | refine E.then_ret ?_ | refine E.in_ret ?_)))
    exact E.ret1 rfl rfl
  rw [hb] at hbf
  cases hbl : beyondE l 60
  case true =>
    rw [hbl] at hbe
    refine Fn.mk' 84 Try.func5 rfl rfl rfl rfl fun w0 H0 => ?_
    repeat (first | ((first | (apply Lq.s; rfl) | apply PRun.s | (apply Lq.run; rfl; rfl; rfl; exact bsB) | (apply PRun.run; rfl; rfl; exact bsB)); first | (apply op_box stateT; rfl) | (apply op_faddr state_clock; rfl; decide) | (apply op_load (intT .i64); rfl) | (apply op_load stateT; rfl) | (apply op_len (xs := l); rfl) | (apply op_call lives17_fn; exact bsD) | (apply op_call hbf; exact bsD) | (apply op_call hbe; exact bsD) | (exact bsO)) | apply J.seq | apply E.next | apply J.lq | apply Lq.nil | apply PRun.nil | apply J.block | apply E.in_normal | apply J.skip | (apply Lq.store; rfl; rfl; exact bsP; exact bsS; rfl; rfl) | (apply PRun.al; rfl) | (apply Lq.al; rfl; rfl; intro b) | (apply Open.cons; intro b) | apply Open.nil | (apply Lq.pass; rfl; rfl; rfl) | (apply PRun.pass; rfl; rfl) | (apply Lq.skip; rfl; rfl; rfl; exact bsB) | (apply PRun.skip; rfl; rfl; exact bsB) | (apply J.drawN; exact mixed; kernel_rfl) | (apply J.cond_t; rfl) | (apply J.cond_f; rfl) | apply J.exit | apply E.then_exit | apply E.in_exit | (apply E.in_other; rfl))
    (refine J.ret ?_; (repeat (first | refine E.then_ret ?_ | refine E.in_ret ?_)))
    exact E.ret1 rfl rfl
  rw [hbl] at hbe
  have hl := beyondE_len hbl
  have hg := goodB hx hb
  have haf := all17_fn t l t.clock hg (by omega)
  have hk : x.toNat % (l.length + 1) ≤ l.length := Nat.le_of_lt_succ (Nat.mod_lt _ (Nat.succ_pos _))
  refine Fn.mk' 84 Try.func5 rfl rfl rfl rfl fun w0 H0 => ?_
  repeat (first | ((first | (apply Lq.s; rfl) | apply PRun.s | (apply Lq.run; rfl; rfl; rfl; exact bsB) | (apply PRun.run; rfl; rfl; exact bsB)); first | (apply op_box stateT; rfl) | (apply op_faddr state_clock; rfl; decide) | (apply op_load (intT .i64); rfl) | (apply op_load stateT; rfl) | (apply op_len (xs := l); rfl) | (apply op_call lives17_fn; exact bsD) | (apply op_call hbf; exact bsD) | (apply op_call hbe; exact bsD) | (apply op_conv (c := (x.toNat : Int)); rfl; (apply wrapi <;> omega)) | (apply op_add (c := ((l.length + 1 : Nat) : Int)); rfl; rfl; (rw [show (l.length : Int) + 1 = ((l.length + 1 : Nat) : Int) by omega]; apply wrapi <;> omega)) | (apply op_remn (m := x.toNat) (n := l.length + 1); rfl; rfl; exact Nat.succ_ne_zero _) | (exact bsO)) | apply J.seq | apply E.next | apply J.lq | apply Lq.nil | apply PRun.nil | apply J.block | apply E.in_normal | apply J.skip | (apply Lq.store; rfl; rfl; exact bsP; exact bsS; rfl; rfl) | (apply PRun.al; rfl) | (apply Lq.al; rfl; rfl; intro b) | (apply Open.cons; intro b) | apply Open.nil | (apply Lq.pass; rfl; rfl; rfl) | (apply PRun.pass; rfl; rfl) | (apply Lq.skip; rfl; rfl; rfl; exact bsB) | (apply PRun.skip; rfl; rfl; exact bsB) | (apply J.cond_t; rfl) | (apply J.cond_f; rfl) | apply J.exit | apply E.then_exit | apply E.in_exit | (apply E.in_other; rfl))
  revert hk
  generalize x.toNat % (l.length + 1) = k
  intro hk
  have hpf := all17_fn t (l.take k) t.clock hg (by rw [List.length_take]; omega)
  by_cases h0 : (allS t (l.take k) t.clock).2 = 0
  case neg =>
    rw [allS_part1 k h0] at haf
    have hpe := allS_err h0
    rw [hpe] at hpf
    generalize (allS t (l.take k) t.clock).2 = z at *
    have hsf := sameState_fn zeroT zeroT goodZ goodZ
    rw [decide_eq_true (show zeroT = zeroT from rfl)] at hsf
    repeat (first | ((first | (apply Lq.s; rfl) | apply PRun.s | (apply Lq.run; rfl; rfl; rfl; exact bsB) | (apply PRun.run; rfl; rfl; exact bsB)); first | (apply op_box stateT; rfl) | (apply op_faddr state_clock; rfl; decide) | (apply op_load (intT .i64); rfl) | (apply op_load stateT; rfl) | (apply op_len (xs := l); rfl) | (apply op_call lives17_fn; exact bsD) | (apply op_call hbf; exact bsD) | (apply op_call hbe; exact bsD) | (apply op_call haf; exact bsD) | (exact bsO)) | apply J.seq | apply E.next | apply J.lq | apply Lq.nil | apply PRun.nil | apply J.block | apply E.in_normal | apply J.skip | (apply Lq.store; rfl; rfl; exact bsP; exact bsS; rfl; rfl) | (apply PRun.al; rfl) | (apply Lq.al; rfl; rfl; intro b) | (apply Open.cons; intro b) | apply Open.nil | (apply Lq.pass; rfl; rfl; rfl) | (apply PRun.pass; rfl; rfl) | (apply Lq.skip; rfl; rfl; rfl; exact bsB) | (apply PRun.skip; rfl; rfl; exact bsB) | (apply J.cond_t; rfl) | (apply J.cond_f; rfl) | apply J.exit | apply E.then_exit | apply E.in_exit | (apply E.in_other; rfl))
    revert b
    intro b8
    refine J.res1 (r' := own b8 24 (stateT.cells zeroT)) (by exact bsP) (fun H w h => ⟨h, rfl⟩) ?_
    refine J.frzB 8 rfl (List.Perm.refl _) ?_
    refine J.drawW 12 [(none, none), (none, none), (none, none), (none, none), (none, none), (none, none), (none, none), (none, none), (none, none), (none, none), (none, some 10), (some 10, some 10)] mixed (by kernel_rfl) ?_
    repeat (first | ((first | apply PRunW.s | (apply PRunW.run; rfl; rfl; exact bsB) | (apply Lq.s; rfl) | apply PRun.s | (apply Lq.run; rfl; rfl; rfl; exact bsB) | (apply PRun.run; rfl; rfl; exact bsB)); first | (apply op_box stateT; rfl) | (apply op_faddr state_clock; rfl; decide) | (apply op_load (intT .i64); rfl) | (apply op_load stateT; rfl) | (apply op_len (xs := l); rfl) | (apply op_call lives17_fn; exact bsD) | (apply op_call hbf; exact bsD) | (apply op_call hbe; exact bsD) | (apply op_ksl_hi (hi := k); rfl; rfl; exact hk) | (apply op_call hpf; exact bsD) | (exact bsO)) | apply J.seq | apply E.next | apply J.lq | apply Lq.nil | apply PRun.nil | apply J.block | apply E.in_normal | apply J.skip | (apply Lq.store; rfl; rfl; exact bsP; exact bsS; rfl; rfl) | (apply PRun.al; rfl) | (apply Lq.al; rfl; rfl; intro b) | (apply Open.cons; intro b) | apply Open.nil | (apply Lq.pass; rfl; rfl; rfl) | (apply PRun.pass; rfl; rfl) | (apply Lq.skip; rfl; rfl; rfl; exact bsB) | (apply PRun.skip; rfl; rfl; exact bsB) | (apply J.cond_t; rfl) | (apply J.cond_f; rfl) | apply J.exit | apply E.then_exit | apply E.in_exit | (apply E.in_other; rfl) | apply PRunW.nil | (apply PRunW.al; rfl) | (apply PRunW.pass; rfl; rfl) | (apply PRunW.skip; rfl; rfl; exact bsB) | (apply Open.pv; intro b) | apply Open.av | (apply Open.rv; intro A c))
    (apply PRunW.st (φs' := stateT.cells zeroT); rfl; rfl; exact Seg.val stateT _; rfl; exact Nat.le_refl 2; rfl)
    repeat (first | ((first | apply PRunW.s | (apply PRunW.run; rfl; rfl; exact bsB) | (apply Lq.s; rfl) | apply PRun.s | (apply Lq.run; rfl; rfl; rfl; exact bsB) | (apply PRun.run; rfl; rfl; exact bsB)); first | (apply op_box stateT; rfl) | (apply op_faddr state_clock; rfl; decide) | (apply op_load (intT .i64); rfl) | (apply op_load stateT; rfl) | (apply op_len (xs := l); rfl) | (apply op_call lives17_fn; exact bsD) | (apply op_call hbf; exact bsD) | (apply op_call hbe; exact bsD) | (apply op_oload stateT (x := zeroT); rfl; exact bsM; rfl) | (apply op_zeroT; rfl; rfl) | (apply op_call hsf; exact bsD) | (exact bsO)) | apply J.seq | apply E.next | apply J.lq | apply Lq.nil | apply PRun.nil | apply J.block | apply E.in_normal | apply J.skip | (apply Lq.store; rfl; rfl; exact bsP; exact bsS; rfl; rfl) | (apply PRun.al; rfl) | (apply Lq.al; rfl; rfl; intro b) | (apply Open.cons; intro b) | apply Open.nil | (apply Lq.pass; rfl; rfl; rfl) | (apply PRun.pass; rfl; rfl) | (apply Lq.skip; rfl; rfl; rfl; exact bsB) | (apply PRun.skip; rfl; rfl; exact bsB) | (apply J.cond_t; rfl) | (apply J.cond_f; rfl) | apply J.exit | apply E.then_exit | apply E.in_exit | (apply E.in_other; rfl) | apply PRunW.nil | (apply PRunW.al; rfl) | (apply PRunW.pass; rfl; rfl) | (apply PRunW.skip; rfl; rfl; exact bsB) | (apply Open.pv; intro b) | apply Open.av | (apply Open.rv; intro A c))
    (refine J.ret ?_; (repeat (first | refine E.then_ret ?_ | refine E.in_ret ?_)))
    exact E.ret1 rfl rfl
  haveI : TSz Try.prog 43 entryT.toTy.sz := (inferInstance : TSz Try.prog 43 39)
  have hgq := allS_good t l t.clock
  have hgb := allS_good t (l.take k) t.clock
  have hqf := all17_fn _ (l.drop k) (allS t (l.take k) t.clock).1.clock hgb (by rw [List.length_drop]; omega)
  rw [allS_part2 k h0] at hqf
  rw [h0] at hpf
  clear h0
  generalize (allS t (l.take k) t.clock).1 = tb at *
  have hsf := sameState_fn _ _ hgq hgq
  rw [decide_eq_true rfl] at hsf
  generalize (allS t l t.clock).1 = q at *
  generalize (allS t l t.clock).2 = z at *
  repeat (first | ((first | (apply Lq.s; rfl) | apply PRun.s | (apply Lq.run; rfl; rfl; rfl; exact bsB) | (apply PRun.run; rfl; rfl; exact bsB)); first | (apply op_box stateT; rfl) | (apply op_faddr state_clock; rfl; decide) | (apply op_load (intT .i64); rfl) | (apply op_load stateT; rfl) | (apply op_len (xs := l); rfl) | (apply op_call lives17_fn; exact bsD) | (apply op_call hbf; exact bsD) | (apply op_call hbe; exact bsD) | (apply op_call haf; exact bsD) | (exact bsO)) | apply J.seq | apply E.next | apply J.lq | apply Lq.nil | apply PRun.nil | apply J.block | apply E.in_normal | apply J.skip | (apply Lq.store; rfl; rfl; exact bsP; exact bsS; rfl; rfl) | (apply PRun.al; rfl) | (apply Lq.al; rfl; rfl; intro b) | (apply Open.cons; intro b) | apply Open.nil | (apply Lq.pass; rfl; rfl; rfl) | (apply PRun.pass; rfl; rfl) | (apply Lq.skip; rfl; rfl; rfl; exact bsB) | (apply PRun.skip; rfl; rfl; exact bsB) | (apply J.cond_t; rfl) | (apply J.cond_f; rfl) | apply J.exit | apply E.then_exit | apply E.in_exit | (apply E.in_other; rfl))
  revert b
  intro b8
  refine J.res1 (r' := own b8 24 (stateT.cells q)) (by exact bsP) (fun H w h => ⟨h, rfl⟩) ?_
  refine J.frzB 8 rfl (List.Perm.refl _) ?_
  refine J.drawW 12 [(none, none), (none, none), (none, none), (none, none), (none, none), (none, none), (none, none), (none, none), (none, none), (none, none), (none, some 10), (some 10, some 10)] mixed (by kernel_rfl) ?_
  repeat (first | ((first | apply PRunW.s | (apply PRunW.run; rfl; rfl; exact bsB) | (apply Lq.s; rfl) | apply PRun.s | (apply Lq.run; rfl; rfl; rfl; exact bsB) | (apply PRun.run; rfl; rfl; exact bsB)); first | (apply op_box stateT; rfl) | (apply op_faddr state_clock; rfl; decide) | (apply op_load (intT .i64); rfl) | (apply op_load stateT; rfl) | (apply op_len (xs := l); rfl) | (apply op_call lives17_fn; exact bsD) | (apply op_call hbf; exact bsD) | (apply op_call hbe; exact bsD) | (apply op_ksl_hi (hi := k); rfl; rfl; exact hk) | (apply op_call hpf; exact bsD) | (exact bsO)) | apply J.seq | apply E.next | apply J.lq | apply Lq.nil | apply PRun.nil | apply J.block | apply E.in_normal | apply J.skip | (apply Lq.store; rfl; rfl; exact bsP; exact bsS; rfl; rfl) | (apply PRun.al; rfl) | (apply Lq.al; rfl; rfl; intro b) | (apply Open.cons; intro b) | apply Open.nil | (apply Lq.pass; rfl; rfl; rfl) | (apply PRun.pass; rfl; rfl) | (apply Lq.skip; rfl; rfl; rfl; exact bsB) | (apply PRun.skip; rfl; rfl; exact bsB) | (apply J.cond_t; rfl) | (apply J.cond_f; rfl) | apply J.exit | apply E.then_exit | apply E.in_exit | (apply E.in_other; rfl) | apply PRunW.nil | (apply PRunW.al; rfl) | (apply PRunW.pass; rfl; rfl) | (apply PRunW.skip; rfl; rfl; exact bsB) | (apply Open.pv; intro b) | apply Open.av | (apply Open.rv; intro A c))
  (apply PRunW.st (φs' := stateT.cells tb); rfl; rfl; exact Seg.val stateT _; rfl; exact Nat.le_refl 2; rfl)
  repeat (first | ((first | apply PRunW.s | (apply PRunW.run; rfl; rfl; exact bsB) | (apply Lq.s; rfl) | apply PRun.s | (apply Lq.run; rfl; rfl; rfl; exact bsB) | (apply PRun.run; rfl; rfl; exact bsB)); first | (apply op_box stateT; rfl) | (apply op_faddr state_clock; rfl; decide) | (apply op_load (intT .i64); rfl) | (apply op_load stateT; rfl) | (apply op_len (xs := l); rfl) | (apply op_call lives17_fn; exact bsD) | (apply op_call hbf; exact bsD) | (apply op_call hbe; exact bsD) | (exact bsO)) | apply J.seq | apply E.next | apply J.lq | apply Lq.nil | apply PRun.nil | apply J.block | apply E.in_normal | apply J.skip | (apply Lq.store; rfl; rfl; exact bsP; exact bsS; rfl; rfl) | (apply PRun.al; rfl) | (apply Lq.al; rfl; rfl; intro b) | (apply Open.cons; intro b) | apply Open.nil | (apply Lq.pass; rfl; rfl; rfl) | (apply PRun.pass; rfl; rfl) | (apply Lq.skip; rfl; rfl; rfl; exact bsB) | (apply PRun.skip; rfl; rfl; exact bsB) | (apply J.cond_t; rfl) | (apply J.cond_f; rfl) | apply J.exit | apply E.then_exit | apply E.in_exit | (apply E.in_other; rfl) | apply PRunW.nil | (apply PRunW.al; rfl) | (apply PRunW.pass; rfl; rfl) | (apply PRunW.skip; rfl; rfl; exact bsB) | (apply Open.pv; intro b) | apply Open.av | (apply Open.rv; intro A c))
  revert b
  intro b10
  refine J.frzB 10 rfl (List.Perm.refl _) ?_
  refine J.drawW 12 [(none, none), (none, none), (none, none), (none, none), (none, none), (none, none), (none, none), (none, none), (none, none), (none, none), (none, some 12), (some 12, some 12)] mixed (by kernel_rfl) ?_
  repeat (first | ((first | apply PRunW.s | (apply PRunW.run; rfl; rfl; exact bsB) | (apply Lq.s; rfl) | apply PRun.s | (apply Lq.run; rfl; rfl; rfl; exact bsB) | (apply PRun.run; rfl; rfl; exact bsB)); first | (apply op_box stateT; rfl) | (apply op_faddr state_clock; rfl; decide) | (apply op_load (intT .i64); rfl) | (apply op_load stateT; rfl) | (apply op_len (xs := l); rfl) | (apply op_call lives17_fn; exact bsD) | (apply op_call hbf; exact bsD) | (apply op_call hbe; exact bsD) | (apply op_ksl_lo (lo := k); rfl; rfl; exact hk) | (apply op_call hqf; exact bsD) | (exact bsO)) | apply J.seq | apply E.next | apply J.lq | apply Lq.nil | apply PRun.nil | apply J.block | apply E.in_normal | apply J.skip | (apply Lq.store; rfl; rfl; exact bsP; exact bsS; rfl; rfl) | (apply PRun.al; rfl) | (apply Lq.al; rfl; rfl; intro b) | (apply Open.cons; intro b) | apply Open.nil | (apply Lq.pass; rfl; rfl; rfl) | (apply PRun.pass; rfl; rfl) | (apply Lq.skip; rfl; rfl; rfl; exact bsB) | (apply PRun.skip; rfl; rfl; exact bsB) | (apply J.cond_t; rfl) | (apply J.cond_f; rfl) | apply J.exit | apply E.then_exit | apply E.in_exit | (apply E.in_other; rfl) | apply PRunW.nil | (apply PRunW.al; rfl) | (apply PRunW.pass; rfl; rfl) | (apply PRunW.skip; rfl; rfl; exact bsB) | (apply Open.pv; intro b) | apply Open.av | (apply Open.rv; intro A c))
  (apply PRunW.st (φs' := stateT.cells q); rfl; rfl; exact Seg.val stateT _; rfl; exact Nat.le_refl 2; rfl)
  repeat (first | ((first | apply PRunW.s | (apply PRunW.run; rfl; rfl; exact bsB) | (apply Lq.s; rfl) | apply PRun.s | (apply Lq.run; rfl; rfl; rfl; exact bsB) | (apply PRun.run; rfl; rfl; exact bsB)); first | (apply op_box stateT; rfl) | (apply op_faddr state_clock; rfl; decide) | (apply op_load (intT .i64); rfl) | (apply op_load stateT; rfl) | (apply op_len (xs := l); rfl) | (apply op_call lives17_fn; exact bsD) | (apply op_call hbf; exact bsD) | (apply op_call hbe; exact bsD) | (apply op_oload stateT (x := q); rfl; exact bsM; rfl) | (apply op_call hsf; exact bsD) | (exact bsO)) | apply J.seq | apply E.next | apply J.lq | apply Lq.nil | apply PRun.nil | apply J.block | apply E.in_normal | apply J.skip | (apply Lq.store; rfl; rfl; exact bsP; exact bsS; rfl; rfl) | (apply PRun.al; rfl) | (apply Lq.al; rfl; rfl; intro b) | (apply Open.cons; intro b) | apply Open.nil | (apply Lq.pass; rfl; rfl; rfl) | (apply PRun.pass; rfl; rfl) | (apply Lq.skip; rfl; rfl; rfl; exact bsB) | (apply PRun.skip; rfl; rfl; exact bsB) | (apply J.cond_t; rfl) | (apply J.cond_f; rfl) | apply J.exit | apply E.then_exit | apply E.in_exit | (apply E.in_other; rfl) | apply PRunW.nil | (apply PRunW.al; rfl) | (apply PRunW.pass; rfl; rfl) | (apply PRunW.skip; rfl; rfl; exact bsB) | (apply Open.pv; intro b) | apply Open.av | (apply Open.rv; intro A c))
  (refine J.ret ?_; (repeat (first | refine E.then_ret ?_ | refine E.in_ret ?_)))
  exact E.ret1 rfl rfl
end Go.Proofs.Ytbemcehcipkliaa.L
