/-
  Roots and proofs of streams, walked; the chapter's stream; the law ProofsEnds.
-/
import Derived.Test.YtafbkgijahinkaaDoorUo
import Derived.Test.YtafbkgijahinkaaDoorNk
import Derived.Test.YtafbkgijahinkaaDoorWk
import Derived.Test.YtafbkgijahinkaaDoorWf
namespace Go.Proofs.YtafbkgijahinkaaDoor.L
open Go
set_option linter.unusedSectionVars false
variable [Globs] [Has_sha_table] [Has_sha_begin]
set_option linter.unusedVariables false
theorem frV_out {fb many : Nat} {hs : List Hash} {Δ : List Res} (h : frV fb hs many Δ) : ∃ A c, Δ = frL fb hs many A c := h
set_option linter.unusedVariables false
set_option linter.unusedSimpArgs false
attribute [local irreducible] J Lq E OpP PRun is any agg tup ptr sl PRunW OpE
attribute [local irreducible] up2 mroot nodeH leafH emptyH shaH ownAt row someL leafOf splitZ split rv join2 edge rootE frV inc cpart lvs
theorem first_bad (s : StreamS) (n : Int) (hl : s.recs.length ≤ 90000) (h : n < 0 ∨ (s.recs.length : Int) < n) : Fn Tryd.prog 19 [streamT.val s, is (.int .i64 n)] (tup [is (.slice none 0 0), is (.int .i64 161)]) := by
  by_cases h0 : n < 0
  · refine Fn.mk' 19 Tryd.func19 rfl rfl rfl rfl fun w0 H0 => ?_
    repeat (first | ((first | (apply Lq.s; rfl) | apply PRun.s | (apply Lq.run; rfl; rfl; rfl; exact bsB) | (apply PRun.run; rfl; rfl; exact bsB)); first | (apply op_box streamT; rfl) | (apply op_faddr stream_recs; rfl; decide) | (apply op_load (slT recT); rfl) | (apply op_load streamT; rfl) | (apply op_len (xs := s.recs); rfl) | (exact bsO)) | apply J.seq | apply E.next | apply J.lq | apply Lq.nil | apply PRun.nil | apply J.block | apply E.in_normal | apply J.skip | (apply Lq.store; rfl; rfl; exact bsP; exact bsS; rfl; rfl) | (apply PRun.al; rfl) | (apply Lq.al; rfl; rfl; intro b) | (apply Open.cons; intro b) | apply Open.nil | (apply Lq.pass; rfl; rfl; rfl) | (apply PRun.pass; rfl; rfl) | (apply Lq.skip; rfl; rfl; rfl; exact bsB) | (apply PRun.skip; rfl; rfl; exact bsB) | (apply J.cond_t; rfl) | (apply J.cond_f; rfl) | apply J.exit | apply E.then_exit | apply E.in_exit | (apply E.in_other; rfl))
    (refine J.ret ?_; (repeat (first | refine E.then_ret ?_ | refine E.in_ret ?_)))
    exact E.ret2 rfl rfl rfl
  · have h1 : (s.recs.length : Int) < n := by omega
    refine Fn.mk' 19 Tryd.func19 rfl rfl rfl rfl fun w0 H0 => ?_
    repeat (first | ((first | (apply Lq.s; rfl) | apply PRun.s | (apply Lq.run; rfl; rfl; rfl; exact bsB) | (apply PRun.run; rfl; rfl; exact bsB)); first | (apply op_box streamT; rfl) | (apply op_faddr stream_recs; rfl; decide) | (apply op_load (slT recT); rfl) | (apply op_load streamT; rfl) | (apply op_len (xs := s.recs); rfl) | (exact bsO)) | apply J.seq | apply E.next | apply J.lq | apply Lq.nil | apply PRun.nil | apply J.block | apply E.in_normal | apply J.skip | (apply Lq.store; rfl; rfl; exact bsP; exact bsS; rfl; rfl) | (apply PRun.al; rfl) | (apply Lq.al; rfl; rfl; intro b) | (apply Open.cons; intro b) | apply Open.nil | (apply Lq.pass; rfl; rfl; rfl) | (apply PRun.pass; rfl; rfl) | (apply Lq.skip; rfl; rfl; rfl; exact bsB) | (apply PRun.skip; rfl; rfl; exact bsB) | (apply J.cond_t; rfl) | (apply J.cond_f; rfl) | apply J.exit | apply E.then_exit | apply E.in_exit | (apply E.in_other; rfl))
    (refine J.ret ?_; (repeat (first | refine E.then_ret ?_ | refine E.in_ret ?_)))
    exact E.ret2 rfl rfl rfl
theorem first_ok (s : StreamS) (n : Nat) (hl : s.recs.length ≤ 90000) (h : n ≤ s.recs.length) : Fn Tryd.prog 19 [streamT.val s, is (.int .i64 (n : Int))] (tup [sl hashT.toTy ((lvs s).take n), is (.int .i64 0)]) := by
  have hll := lvs_len s
  have hf := hashes_fn s hl
  refine Fn.mk' 19 Tryd.func19 rfl rfl rfl rfl fun w0 H0 => ?_
  repeat (first | ((first | (apply Lq.s; rfl) | apply PRun.s | (apply Lq.run; rfl; rfl; rfl; exact bsB) | (apply PRun.run; rfl; rfl; exact bsB)); first | (apply op_box streamT; rfl) | (apply op_faddr stream_recs; rfl; decide) | (apply op_load (slT recT); rfl) | (apply op_load streamT; rfl) | (apply op_len (xs := s.recs); rfl) | (apply op_call hf; exact bsD) | (apply op_ksl_hi (T := hashT.toTy) (hi := n); rfl; rfl; omega) | (exact bsO)) | apply J.seq | apply E.next | apply J.lq | apply Lq.nil | apply PRun.nil | apply J.block | apply E.in_normal | apply J.skip | (apply Lq.store; rfl; rfl; exact bsP; exact bsS; rfl; rfl) | (apply PRun.al; rfl) | (apply Lq.al; rfl; rfl; intro b) | (apply Open.cons; intro b) | apply Open.nil | (apply Lq.pass; rfl; rfl; rfl) | (apply PRun.pass; rfl; rfl) | (apply Lq.skip; rfl; rfl; rfl; exact bsB) | (apply PRun.skip; rfl; rfl; exact bsB) | (apply J.cond_t; rfl) | (apply J.cond_f; rfl) | apply J.exit | apply E.then_exit | apply E.in_exit | (apply E.in_other; rfl))
  (refine J.ret ?_; (repeat (first | refine E.then_ret ?_ | refine E.in_ret ?_)))
  exact E.ret2 rfl rfl rfl
theorem proot_bad (s : StreamS) (n : Int) (hl : s.recs.length ≤ 90000) (h : n < 0 ∨ (s.recs.length : Int) < n) : Fn Tryd.prog 7 [streamT.val s, is (.int .i64 n)] (tup [hashT.val zeroH, is (.int .i64 161)]) := by
  have hf := first_bad s n hl h
  refine Fn.mk' 21 Tryd.func7 rfl rfl rfl rfl fun w0 H0 => ?_
  repeat (first | ((first | (apply Lq.s; rfl) | apply PRun.s | (apply Lq.run; rfl; rfl; rfl; exact bsB) | (apply PRun.run; rfl; rfl; exact bsB)); first | (apply op_box streamT; rfl) | (apply op_faddr stream_recs; rfl; decide) | (apply op_load (slT recT); rfl) | (apply op_load streamT; rfl) | (apply op_len (xs := s.recs); rfl) | (apply op_call hf; exact bsD) | (apply op_buildT hashT zeroH; rfl; rfl; (repeat (first | exact BP.nil _ | (apply BP.cons; rfl; rfl; exact bsS; rfl; rfl))); rfl) | (exact bsO)) | apply J.seq | apply E.next | apply J.lq | apply Lq.nil | apply PRun.nil | apply J.block | apply E.in_normal | apply J.skip | (apply Lq.store; rfl; rfl; exact bsP; exact bsS; rfl; rfl) | (apply PRun.al; rfl) | (apply Lq.al; rfl; rfl; intro b) | (apply Open.cons; intro b) | apply Open.nil | (apply Lq.pass; rfl; rfl; rfl) | (apply PRun.pass; rfl; rfl) | (apply Lq.skip; rfl; rfl; rfl; exact bsB) | (apply PRun.skip; rfl; rfl; exact bsB) | (apply J.cond_t; rfl) | (apply J.cond_f; rfl) | apply J.exit | apply E.then_exit | apply E.in_exit | (apply E.in_other; rfl))
  (refine J.ret ?_; (repeat (first | refine E.then_ret ?_ | refine E.in_ret ?_)))
  exact E.retct hashT (x := zeroH) rfl rfl rfl List.mem_cons_self rfl rfl
theorem proot_ok (s : StreamS) (n : Nat) (hl : s.recs.length ≤ 70000) (h : n ≤ s.recs.length) : Fn Tryd.prog 7 [streamT.val s, is (.int .i64 (n : Int))] (tup [hashT.val (mroot ((lvs s).take n)), is (.int .i64 0)]) := by
  have hll := lvs_len s
  have hf := first_ok s n (by omega) h
  have htl : ((lvs s).take n).length = n := by rw [List.length_take]; omega
  generalize (lvs s).take n = l at *
  have hre := rootE_edge l.length l (Nat.le_refl _)
  have hel : (edge l).length ≤ 90000 := by
    rw [edge_len]
    have := pop_le l.length
    omega
  refine Fn.mk' 21 Tryd.func7 rfl rfl rfl rfl fun w0 H0 => ?_
  repeat (first | ((first | (apply Lq.s; rfl) | apply PRun.s | (apply Lq.run; rfl; rfl; rfl; exact bsB) | (apply PRun.run; rfl; rfl; exact bsB)); first | (apply op_box streamT; rfl) | (apply op_faddr stream_recs; rfl; decide) | (apply op_load (slT recT); rfl) | (apply op_load streamT; rfl) | (apply op_len (xs := s.recs); rfl) | (apply op_call hf; exact bsD) | (exact bsO)) | apply J.seq | apply E.next | apply J.lq | apply Lq.nil | apply PRun.nil | apply J.block | apply E.in_normal | apply J.skip | (apply Lq.store; rfl; rfl; exact bsP; exact bsS; rfl; rfl) | (apply PRun.al; rfl) | (apply Lq.al; rfl; rfl; intro b) | (apply Open.cons; intro b) | apply Open.nil | (apply Lq.pass; rfl; rfl; rfl) | (apply PRun.pass; rfl; rfl) | (apply Lq.skip; rfl; rfl; rfl; exact bsB) | (apply PRun.skip; rfl; rfl; exact bsB) | (apply J.cond_t; rfl) | (apply J.cond_f; rfl) | apply J.exit | apply E.then_exit | apply E.in_exit | (apply E.in_other; rfl))
  revert b
  intro b4
  refine Lq.callS (Δ0 := []) (Δf := [_]) (fof_fnR l (by omega)) rfl bsD (List.Perm.refl _) ?_
  rintro _ D1 ⟨fb, rfl, hV⟩
  obtain ⟨fA, fc, rfl⟩ := frV_out hV
  refine Lq.callS (Δ0 := frL fb (edge l) l.length fA fc) (Δf := [_]) (froot_fnR fb l.length (edge l) fA fc hel) rfl bsD (List.Perm.refl _) ?_
  rintro _ _ ⟨rfl, rfl⟩
  rw [hre]
  (apply Lq.storeE (φs' := hashT.cells (mroot l)); rfl; rfl; exact List.perm_append_comm (l₂ := [_]); exact Seg.val _ _; exact hashT.len _; exact Nat.le_refl 32; exact splice_all (by rw [hashT.len]; rfl))
  repeat (first | ((first | (apply Lq.s; rfl) | apply PRun.s | (apply Lq.run; rfl; rfl; rfl; exact bsB) | (apply PRun.run; rfl; rfl; exact bsB)); first | (exact bsO)) | apply J.seq | apply E.next | apply J.lq | apply Lq.nil | apply PRun.nil | apply J.block | apply E.in_normal | apply J.skip | (apply Lq.store; rfl; rfl; exact bsP; exact bsS; rfl; rfl) | (apply PRun.al; rfl) | (apply Lq.al; rfl; rfl; intro b) | (apply Open.cons; intro b) | apply Open.nil | (apply Lq.pass; rfl; rfl; rfl) | (apply PRun.pass; rfl; rfl) | (apply Lq.skip; rfl; rfl; rfl; exact bsB) | (apply PRun.skip; rfl; rfl; exact bsB) | (apply J.cond_t; rfl) | (apply J.cond_f; rfl) | apply J.exit | apply E.then_exit | apply E.in_exit | (apply E.in_other; rfl))
  (refine J.ret ?_; (repeat (first | refine E.then_ret ?_ | refine E.in_ret ?_)))
  exact E.retct hashT (x := mroot l) rfl rfl rfl List.mem_cons_self (take_hash _) rfl
end Go.Proofs.YtafbkgijahinkaaDoor.L
