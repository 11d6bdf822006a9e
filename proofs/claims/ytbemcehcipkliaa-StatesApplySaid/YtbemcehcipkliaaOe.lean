/-
  A state behind all entries, walked.
-/
import Derived.Test.YtbemcehcipkliaaOd
namespace Go.Proofs.Ytbemcehcipkliaa.L
open Go
set_option linter.unusedSectionVars false
variable [Globs]
set_option linter.unusedVariables false
theorem fold_step {l : List EntryS} {i : Nat} {e : EntryS} {t : StateS} (h : l[i]? = some e) (h0 : (applyS t e).2 = 0) : foldS t (l.drop i) = foldS (applyS t e).1 (l.drop (i + 1)) := by
  obtain ⟨hi, rfl⟩ := List.getElem?_eq_some_iff.1 h
  rw [List.drop_eq_getElem_cons hi]
  show (if (applyS t l[i]).2 = 0 then _ else _) = _
  rw [if_pos h0]
theorem fold_stop {l : List EntryS} {i : Nat} {e : EntryS} {t : StateS} (h : l[i]? = some e) (h0 : (applyS t e).2 ≠ 0) : foldS t (l.drop i) = (zeroT, (applyS t e).2) := by
  obtain ⟨hi, rfl⟩ := List.getElem?_eq_some_iff.1 h
  rw [List.drop_eq_getElem_cons hi]
  show (if (applyS t l[i]).2 = 0 then _ else _) = _
  rw [if_neg h0]
theorem allS_f {t : StateS} {l : List EntryS} {c : Int} (h : ¬ (checkS t = true ∧ t.clock ≤ c ∧ c ≤ 1073741824)) : allS t l c = (zeroT, 2) := by unfold allS; rw [if_neg h]
set_option linter.unusedVariables false
set_option linter.unusedSimpArgs false
attribute [local irreducible] J Lq E OpP PRun is any agg tup ptr sl PRunW OpE
attribute [local irreducible] slt nameE lowerN cloT cntM recOk row tB checkM applyM errM resM beyondM longB newM lastT checkS applyS findI foldS allS
set_option maxHeartbeats 1000000 in
theorem all17_fn (t : StateS) (l : List EntryS) (c : Int) (hg : GoodT t) (hl : l.length ≤ 1000000) : Fn Try.prog 13 [stateT.val t, sl entryT.toTy l, is (.int .i64 c)] (tup [stateT.val (allS t l c).1, is (.int .i64 (allS t l c).2)]) := by
  have hck := scheck17_fn t hg
  refine Fn.mk' 47 Try.func13 rfl rfl rfl rfl fun w0 H0 => ?_
  apply J.seq
  apply J.lq
  refine Lq.box rfl rfl (Seg.val stateT t) ?_
  intro B
  cases hc : checkS t
  · rw [hc] at hck
    rw [allS_f fun h => by rw [h.1] at hc; cases hc]
    repeat (first | ((first | (apply Lq.s; rfl) | apply PRun.s | (apply Lq.run; rfl; rfl; rfl; exact bsB) | (apply PRun.run; rfl; rfl; exact bsB)); first | (apply op_faddr state_clock; rfl; decide) | (apply op_faddr state_streams; rfl; decide) | (apply op_load (intT .i64); rfl) | (apply op_load (slT streamT); rfl) | (apply op_load stateT; rfl) | (apply op_load streamT; rfl) | (apply op_len (xs := t.streams); rfl) | (apply op_oload stateT (x := t); rfl; exact bsM; rfl) | (apply op_oload (intT .i64) (x := t.clock); rfl; exact bsM; rfl) | (apply op_oload (slT streamT) (x := t.streams); rfl; exact bsM; rfl) | (apply op_call hck; exact bsD) | (apply op_zeroT; rfl; rfl) | (exact bsO)) | apply J.seq | apply E.next | apply J.lq | apply Lq.nil | apply PRun.nil | apply J.block | apply E.in_normal | apply J.skip | (apply Lq.store; rfl; rfl; exact bsP; exact bsS; rfl; rfl) | (apply PRun.al; rfl) | (apply Lq.al; rfl; rfl; intro b) | (apply Open.cons; intro b) | apply Open.nil | (apply Lq.pass; rfl; rfl; rfl) | (apply PRun.pass; rfl; rfl) | (apply Lq.skip; rfl; rfl; rfl; exact bsB) | (apply PRun.skip; rfl; rfl; exact bsB) | (apply J.drawN; exact mixed; kernel_rfl) | (apply J.cond_t; rfl) | (apply J.cond_f; rfl) | apply J.exit | apply E.then_exit | apply E.in_exit | (apply E.in_other; rfl))
    (refine J.ret ?_; (repeat (first | refine E.then_ret ?_ | refine E.in_ret ?_)))
    exact E.retct stateT (x := zeroT) rfl rfl rfl (by exact bsM) rfl rfl
  rw [hc] at hck
  by_cases h1 : c < t.clock
  · rw [allS_f fun h => by omega]
    repeat (first | ((first | (apply Lq.s; rfl) | apply PRun.s | (apply Lq.run; rfl; rfl; rfl; exact bsB) | (apply PRun.run; rfl; rfl; exact bsB)); first | (apply op_faddr state_clock; rfl; decide) | (apply op_faddr state_streams; rfl; decide) | (apply op_load (intT .i64); rfl) | (apply op_load (slT streamT); rfl) | (apply op_load stateT; rfl) | (apply op_load streamT; rfl) | (apply op_len (xs := t.streams); rfl) | (apply op_oload stateT (x := t); rfl; exact bsM; rfl) | (apply op_oload (intT .i64) (x := t.clock); rfl; exact bsM; rfl) | (apply op_oload (slT streamT) (x := t.streams); rfl; exact bsM; rfl) | (apply op_call hck; exact bsD) | (apply op_zeroT; rfl; rfl) | (exact bsO)) | apply J.seq | apply E.next | apply J.lq | apply Lq.nil | apply PRun.nil | apply J.block | apply E.in_normal | apply J.skip | (apply Lq.store; rfl; rfl; exact bsP; exact bsS; rfl; rfl) | (apply PRun.al; rfl) | (apply Lq.al; rfl; rfl; intro b) | (apply Open.cons; intro b) | apply Open.nil | (apply Lq.pass; rfl; rfl; rfl) | (apply PRun.pass; rfl; rfl) | (apply Lq.skip; rfl; rfl; rfl; exact bsB) | (apply PRun.skip; rfl; rfl; exact bsB) | (apply J.drawN; exact mixed; kernel_rfl) | (apply J.cond_t; rfl) | (apply J.cond_f; rfl) | apply J.exit | apply E.then_exit | apply E.in_exit | (apply E.in_other; rfl))
    (refine J.ret ?_; (repeat (first | refine E.then_ret ?_ | refine E.in_ret ?_)))
    exact E.retct stateT (x := zeroT) rfl rfl rfl (by exact bsM) rfl rfl
  by_cases h2 : 1073741824 < c
  · rw [allS_f fun h => by omega]
    repeat (first | ((first | (apply Lq.s; rfl) | apply PRun.s | (apply Lq.run; rfl; rfl; rfl; exact bsB) | (apply PRun.run; rfl; rfl; exact bsB)); first | (apply op_faddr state_clock; rfl; decide) | (apply op_faddr state_streams; rfl; decide) | (apply op_load (intT .i64); rfl) | (apply op_load (slT streamT); rfl) | (apply op_load stateT; rfl) | (apply op_load streamT; rfl) | (apply op_len (xs := t.streams); rfl) | (apply op_oload stateT (x := t); rfl; exact bsM; rfl) | (apply op_oload (intT .i64) (x := t.clock); rfl; exact bsM; rfl) | (apply op_oload (slT streamT) (x := t.streams); rfl; exact bsM; rfl) | (apply op_call hck; exact bsD) | (apply op_zeroT; rfl; rfl) | (exact bsO)) | apply J.seq | apply E.next | apply J.lq | apply Lq.nil | apply PRun.nil | apply J.block | apply E.in_normal | apply J.skip | (apply Lq.store; rfl; rfl; exact bsP; exact bsS; rfl; rfl) | (apply PRun.al; rfl) | (apply Lq.al; rfl; rfl; intro b) | (apply Open.cons; intro b) | apply Open.nil | (apply Lq.pass; rfl; rfl; rfl) | (apply PRun.pass; rfl; rfl) | (apply Lq.skip; rfl; rfl; rfl; exact bsB) | (apply PRun.skip; rfl; rfl; exact bsB) | (apply J.drawN; exact mixed; kernel_rfl) | (apply J.cond_t; rfl) | (apply J.cond_f; rfl) | apply J.exit | apply E.then_exit | apply E.in_exit | (apply E.in_other; rfl))
    (refine J.ret ?_; (repeat (first | refine E.then_ret ?_ | refine E.in_ret ?_)))
    exact E.retct stateT (x := zeroT) rfl rfl rfl (by exact bsM) rfl rfl
  rw [show allS t l c = foldS { t with clock := c } l by unfold allS; rw [if_pos ⟨hc, by omega, by omega⟩]]
  have hc0 := checkS_clock (c := c) hc (by omega) (by omega)
  repeat (first | ((first | (apply Lq.s; rfl) | apply PRun.s | (apply Lq.run; rfl; rfl; rfl; exact bsB) | (apply PRun.run; rfl; rfl; exact bsB)); first | (apply op_faddr state_clock; rfl; decide) | (apply op_faddr state_streams; rfl; decide) | (apply op_load (intT .i64); rfl) | (apply op_load (slT streamT); rfl) | (apply op_load stateT; rfl) | (apply op_load streamT; rfl) | (apply op_len (xs := t.streams); rfl) | (apply op_oload stateT (x := t); rfl; exact bsM; rfl) | (apply op_oload (intT .i64) (x := t.clock); rfl; exact bsM; rfl) | (apply op_oload (slT streamT) (x := t.streams); rfl; exact bsM; rfl) | (apply op_call hck; exact bsD) | (apply op_len (xs := l); rfl) | (exact bsO)) | apply J.seq | apply E.next | apply J.lq | apply Lq.nil | apply PRun.nil | apply J.block | apply E.in_normal | apply J.skip | (apply Lq.store; rfl; rfl; exact bsP; exact bsS; rfl; rfl) | (apply PRun.al; rfl) | (apply Lq.al; rfl; rfl; intro b) | (apply Open.cons; intro b) | apply Open.nil | (apply Lq.pass; rfl; rfl; rfl) | (apply PRun.pass; rfl; rfl) | (apply Lq.skip; rfl; rfl; rfl; exact bsB) | (apply PRun.skip; rfl; rfl; exact bsB) | (apply J.drawN; exact mixed; kernel_rfl) | (apply J.cond_t; rfl) | (apply J.cond_f; rfl) | apply J.exit | apply E.then_exit | apply E.in_exit | (apply E.in_other; rfl))
  revert b
  intro b6
  refine J.loop (fun p : Nat × StateS => p.1 ≤ l.length ∧ checkS p.2 = true ∧ foldS { t with clock := c } l = foldS p.2 (l.drop p.1)) (fun p => [(3, is (.pointer (some ⟨B, 0, none⟩))), (6, is (.pointer (some ⟨b6, 0, none⟩))), (28, sl entryT.toTy l), (29, is (.int .i64 (l.length : Int))), (30, is (.int .i64 (p.1 : Int)))]) (fun p => [own B 24 (stateT.cells p.2), own b6 24 [is (.int .i64 0), is (.slice none 0 0)]]) (fun p => l.length - p.1) (0, { t with clock := c }) ⟨Nat.zero_le _, hc0, by rw [List.drop_zero]⟩ ⟨(by repeat' (first | exact trivial | refine ⟨rfl, ?_⟩)), [], bsP⟩ ?_
  rintro ⟨i, cur⟩ ⟨hi, hcc, hf⟩
  dsimp only at hi hcc hf ⊢
  rw [hf]
  by_cases hlt : i < l.length
  case neg =>
    rw [show foldS cur (l.drop i) = (cur, 0) by rw [List.drop_eq_nil_of_le (by omega)]; unfold foldS; rfl]
    repeat (first | ((first | (apply Lq.s; rfl) | apply PRun.s | (apply Lq.run; rfl; rfl; rfl; exact bsB) | (apply PRun.run; rfl; rfl; exact bsB)); first | (apply op_oload stateT (x := cur); rfl; exact bsM; rfl) | (exact bsO)) | apply J.seq | apply E.next | apply J.lq | apply Lq.nil | apply PRun.nil | apply J.block | apply E.in_normal | apply J.skip | (apply Lq.store; rfl; rfl; exact bsP; exact bsS; rfl; rfl) | (apply PRun.al; rfl) | (apply Lq.al; rfl; rfl; intro b) | (apply Open.cons; intro b) | apply Open.nil | (apply Lq.pass; rfl; rfl; rfl) | (apply PRun.pass; rfl; rfl) | (apply Lq.skip; rfl; rfl; rfl; exact bsB) | (apply PRun.skip; rfl; rfl; exact bsB) | (apply J.drawN; exact mixed; kernel_rfl) | (apply J.cond_t; rfl) | (apply J.cond_f; rfl) | apply J.exit | apply E.then_exit | apply E.in_exit | (apply E.in_other; rfl))
    (refine J.ret ?_; (repeat (first | refine E.then_ret ?_ | refine E.in_ret ?_)))
    exact E.retct stateT (x := cur) rfl rfl rfl (by exact bsM) rfl rfl
  obtain ⟨e, he⟩ : ∃ e, l[i]? = some e := ⟨_, List.getElem?_eq_getElem hlt⟩
  have haf := sapply17_fn cur e (goodS hcc)
  repeat (first | ((first | (apply Lq.s; rfl) | apply PRun.s | (apply Lq.run; rfl; rfl; rfl; exact bsB) | (apply PRun.run; rfl; rfl; exact bsB)); first | (exact bsO)) | apply J.seq | apply E.next | apply J.lq | apply Lq.nil | apply PRun.nil | apply J.block | apply E.in_normal | apply J.skip | (apply Lq.store; rfl; rfl; exact bsP; exact bsS; rfl; rfl) | (apply PRun.al; rfl) | (apply Lq.al; rfl; rfl; intro b) | (apply Open.cons; intro b) | apply Open.nil | (apply Lq.pass; rfl; rfl; rfl) | (apply PRun.pass; rfl; rfl) | (apply Lq.skip; rfl; rfl; rfl; exact bsB) | (apply PRun.skip; rfl; rfl; exact bsB) | (apply J.drawN; exact mixed; kernel_rfl) | (apply J.cond_t; rfl) | (apply J.cond_f; rfl) | apply J.exit | apply E.then_exit | apply E.in_exit | (apply E.in_other; rfl))
  (apply Lq.s; rfl; (apply op_iaddr entryT.toTy (x := e); rfl; rfl; exact Int.natCast_nonneg _; (rw [Int.toNat_natCast]; exact he)))
  (apply Lq.s; rfl; (apply op_load entryT; rfl))
  (apply Lq.al; rfl; rfl; intro b9)
  (apply Lq.storeE (φs' := entryT.cells e); rfl; rfl; exact List.Perm.refl _; exact Seg.val _ _; exact entryT.len _; exact Nat.le_refl 39; exact splice_all (by rw [entryT.len]; rfl))
  refine Lq.frzB 9 rfl (List.Perm.refl _) ?_
  by_cases h0 : (applyS cur e).2 = 0
  · have hst := fold_step he h0
    have hch := applyS_check h0
    rw [h0] at haf
    generalize (applyS cur e).1 = q at *
    repeat (first | ((first | (apply Lq.s; rfl) | apply PRun.s | (apply Lq.run; rfl; rfl; rfl; exact bsB) | (apply PRun.run; rfl; rfl; exact bsB)); first | (apply op_oload stateT (x := cur); rfl; exact bsM; rfl) | (apply op_load entryT; rfl) | (apply op_call haf; exact bsD) | (apply op_oload stateT (x := q); rfl; exact bsM; rfl) | (apply op_add (c := ((i + 1 : Nat) : Int)); rfl; rfl; (rw [show (i : Int) + 1 = ((i + 1 : Nat) : Int) by omega]; apply wrapi <;> omega)) | (exact bsO)) | apply J.seq | apply E.next | apply J.lq | apply Lq.nil | apply PRun.nil | apply J.block | apply E.in_normal | apply J.skip | (apply Lq.store; rfl; rfl; exact bsP; exact bsS; rfl; rfl) | (apply PRun.al; rfl) | (apply Lq.al; rfl; rfl; intro b) | (apply Open.cons; intro b) | apply Open.nil | (apply Lq.pass; rfl; rfl; rfl) | (apply PRun.pass; rfl; rfl) | (apply Lq.skip; rfl; rfl; rfl; exact bsB) | (apply PRun.skip; rfl; rfl; exact bsB) | (apply J.drawN; exact mixed; kernel_rfl) | (apply J.cond_t; rfl) | (apply J.cond_f; rfl) | apply J.exit | apply E.then_exit | apply E.in_exit | (apply E.in_other; rfl))
    exact E.again (i + 1, q) (by dsimp only; omega) ⟨by dsimp only; omega, hch, hst⟩ ⟨(by repeat' (first | exact trivial | refine ⟨rfl, ?_⟩)), [_], List.Perm.cons _ (List.Perm.swap _ _ _)⟩
  · rw [fold_stop he h0]
    rw [applyS_err h0] at haf
    generalize (applyS cur e).2 = z at *
    repeat (first | ((first | (apply Lq.s; rfl) | apply PRun.s | (apply Lq.run; rfl; rfl; rfl; exact bsB) | (apply PRun.run; rfl; rfl; exact bsB)); first | (apply op_oload stateT (x := cur); rfl; exact bsM; rfl) | (apply op_load entryT; rfl) | (apply op_call haf; exact bsD) | (apply op_zeroT; rfl; rfl) | (exact bsO)) | apply J.seq | apply E.next | apply J.lq | apply Lq.nil | apply PRun.nil | apply J.block | apply E.in_normal | apply J.skip | (apply Lq.store; rfl; rfl; exact bsP; exact bsS; rfl; rfl) | (apply PRun.al; rfl) | (apply Lq.al; rfl; rfl; intro b) | (apply Open.cons; intro b) | apply Open.nil | (apply Lq.pass; rfl; rfl; rfl) | (apply PRun.pass; rfl; rfl) | (apply Lq.skip; rfl; rfl; rfl; exact bsB) | (apply PRun.skip; rfl; rfl; exact bsB) | (apply J.drawN; exact mixed; kernel_rfl) | (apply J.cond_t; rfl) | (apply J.cond_f; rfl) | apply J.exit | apply E.then_exit | apply E.in_exit | (apply E.in_other; rfl))
    (refine J.ret ?_; (repeat (first | refine E.then_ret ?_ | refine E.in_ret ?_)))
    exact E.retct stateT (x := zeroT) rfl rfl rfl (by exact bsM) rfl rfl
end Go.Proofs.Ytbemcehcipkliaa.L
