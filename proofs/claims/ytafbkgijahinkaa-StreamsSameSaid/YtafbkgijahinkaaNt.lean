/-
  The laws of streams, walked: StreamsSame.
-/
import Derived.Test.YtafbkgijahinkaaNp
import Derived.Test.YtafbkgijahinkaaNm
namespace Go.Proofs.Ytafbkgijahinkaa.L
open Go
set_option linter.unusedSectionVars false
variable [Globs]
set_option linter.unusedVariables false
def xorM (m : Int) : Int := IntKind.i64.wrap ((BitVec.ofInt IntKind.i64.bits m ^^^ BitVec.ofInt IntKind.i64.bits 1).toNat : Int)
set_option linter.unusedVariables false
set_option linter.unusedSimpArgs false
attribute [local irreducible] J Lq E OpP PRun is any agg tup ptr sl PRunW OpE
attribute [local irreducible] slt nameE lowerN cloT cntM recOk row tB checkM applyM errM resM lvs liveN beyondM longB newM
attribute [local irreducible] xorM
set_option maxHeartbeats 4000000 in
theorem streamsSame (s z : StreamS) (hx : StreamOkF s) (hx2 : StreamOkF z) : Fn Try.prog 6 [streamT.val s, streamT.val z] (is (.bool true)) := by
  have hbf := beyond_fn s hx.1
  cases hb : beyondM s
  case true =>
    rw [hb] at hbf
    refine Fn.mk' 49 Try.func6 rfl rfl rfl rfl fun w0 H0 => ?_
    repeat (first | ((first | (apply Lq.s; rfl) | apply PRun.s | (apply Lq.run; rfl; rfl; rfl; exact bsB) | (apply PRun.run; rfl; rfl; exact bsB)); first | (apply op_box streamT; rfl) | (apply op_faddr stream_name; rfl; decide) | (apply op_faddr stream_retain; rfl; decide) | (apply op_faddr stream_holds; rfl; decide) | (apply op_faddr stream_recs; rfl; decide) | (apply op_load strT; rfl) | (apply op_load (intT .i64); rfl) | (apply op_load (slT strT); rfl) | (apply op_load (slT recT); rfl) | (apply op_load streamT; rfl) | (apply op_len (xs := s.recs); rfl) | (apply op_len (xs := s.holds); rfl) | (apply op_box entryT; rfl) | (apply op_faddr entry_kind; rfl; decide) | (apply op_faddr entry_n; rfl; decide) | (apply op_faddr entry_len; rfl; decide) | (apply op_faddr entry_name; rfl; decide) | (apply op_load entryT; rfl) | (apply op_call lives16_fn; exact bsD) | (apply op_call hbf; exact bsD) | (exact bsO)) | apply J.seq | apply E.next | apply J.lq | apply Lq.nil | apply PRun.nil | apply J.block | apply E.in_normal | apply J.skip | (apply Lq.store; rfl; rfl; exact bsP; exact bsS; rfl; rfl) | (apply PRun.al; rfl) | (apply Lq.al; rfl; rfl; intro b) | (apply Open.cons; intro b) | apply Open.nil | (apply Lq.pass; rfl; rfl; rfl) | (apply PRun.pass; rfl; rfl) | (apply Lq.skip; rfl; rfl; rfl; exact bsB) | (apply PRun.skip; rfl; rfl; exact bsB) | (apply J.drawN; exact mixed; kernel_rfl) | (apply J.cond_t; rfl) | (apply J.cond_f; rfl) | apply J.exit | apply E.then_exit | apply E.in_exit | (apply E.in_other; rfl))
    (refine J.ret ?_; (repeat (first | refine E.then_ret ?_ | refine E.in_ret ?_)))
    exact E.ret1 rfl rfl
  rw [hb] at hbf
  obtain ⟨b1, b2, _, _⟩ := beyondM_f hb
  have hzf := beyond_fn z hx2.1
  cases hbz : beyondM z
  case true =>
    rw [hbz] at hzf
    refine Fn.mk' 49 Try.func6 rfl rfl rfl rfl fun w0 H0 => ?_
    repeat (first | ((first | (apply Lq.s; rfl) | apply PRun.s | (apply Lq.run; rfl; rfl; rfl; exact bsB) | (apply PRun.run; rfl; rfl; exact bsB)); first | (apply op_box streamT; rfl) | (apply op_faddr stream_name; rfl; decide) | (apply op_faddr stream_retain; rfl; decide) | (apply op_faddr stream_holds; rfl; decide) | (apply op_faddr stream_recs; rfl; decide) | (apply op_load strT; rfl) | (apply op_load (intT .i64); rfl) | (apply op_load (slT strT); rfl) | (apply op_load (slT recT); rfl) | (apply op_load streamT; rfl) | (apply op_len (xs := s.recs); rfl) | (apply op_len (xs := s.holds); rfl) | (apply op_box entryT; rfl) | (apply op_faddr entry_kind; rfl; decide) | (apply op_faddr entry_n; rfl; decide) | (apply op_faddr entry_len; rfl; decide) | (apply op_faddr entry_name; rfl; decide) | (apply op_load entryT; rfl) | (apply op_call lives16_fn; exact bsD) | (apply op_call hbf; exact bsD) | (apply op_call hzf; exact bsD) | (exact bsO)) | apply J.seq | apply E.next | apply J.lq | apply Lq.nil | apply PRun.nil | apply J.block | apply E.in_normal | apply J.skip | (apply Lq.store; rfl; rfl; exact bsP; exact bsS; rfl; rfl) | (apply PRun.al; rfl) | (apply Lq.al; rfl; rfl; intro b) | (apply Open.cons; intro b) | apply Open.nil | (apply Lq.pass; rfl; rfl; rfl) | (apply PRun.pass; rfl; rfl) | (apply Lq.skip; rfl; rfl; rfl; exact bsB) | (apply PRun.skip; rfl; rfl; exact bsB) | (apply J.drawN; exact mixed; kernel_rfl) | (apply J.cond_t; rfl) | (apply J.cond_f; rfl) | apply J.exit | apply E.then_exit | apply E.in_exit | (apply E.in_other; rfl))
    (refine J.ret ?_; (repeat (first | refine E.then_ret ?_ | refine E.in_ret ?_)))
    exact E.ret1 rfl rfl
  rw [hbz] at hzf
  obtain ⟨z1, z2, _, _⟩ := beyondM_f hbz
  have f1 := same_fn s z ⟨by omega, by omega⟩ ⟨by omega, by omega⟩
  have f2 := sameStream_fn s z ⟨by omega, by omega⟩ ⟨by omega, by omega⟩
  have f3 := same_fn s { s with retain := xorM s.retain } ⟨by omega, by omega⟩ ⟨by show s.recs.length ≤ _; omega, by show s.holds.length ≤ _; omega⟩
  have f4 := same_fn s { s with recs := s.recs ++ [zeroRec] } ⟨by omega, by omega⟩ ⟨by show (s.recs ++ [zeroRec]).length ≤ _; rw [List.length_append]; show _ + 1 ≤ _; omega, by show s.holds.length ≤ _; omega⟩
  rw [stream_ne (.inr (.inl fun h => by unfold xorM at h; exact xor_ne s.retain h.symm))] at f3
  rw [stream_ne (.inr (.inr (.inr fun h => by have := congrArg List.length h; rw [List.length_append] at this; simp at this)))] at f4
  generalize decide (s = z) = v at *
  refine Fn.mk' 49 Try.func6 rfl rfl rfl rfl fun w0 H0 => ?_
  repeat (first | ((first | (apply Lq.s; rfl) | apply PRun.s | (apply Lq.run; rfl; rfl; rfl; exact bsB) | (apply PRun.run; rfl; rfl; exact bsB)); first | (apply op_box streamT; rfl) | (apply op_faddr stream_name; rfl; decide) | (apply op_faddr stream_retain; rfl; decide) | (apply op_faddr stream_holds; rfl; decide) | (apply op_faddr stream_recs; rfl; decide) | (apply op_load strT; rfl) | (apply op_load (intT .i64); rfl) | (apply op_load (slT strT); rfl) | (apply op_load (slT recT); rfl) | (apply op_load streamT; rfl) | (apply op_len (xs := s.recs); rfl) | (apply op_len (xs := s.holds); rfl) | (apply op_box entryT; rfl) | (apply op_faddr entry_kind; rfl; decide) | (apply op_faddr entry_n; rfl; decide) | (apply op_faddr entry_len; rfl; decide) | (apply op_faddr entry_name; rfl; decide) | (apply op_load entryT; rfl) | (apply op_call lives16_fn; exact bsD) | (apply op_call hbf; exact bsD) | (apply op_call hzf; exact bsD) | (apply op_oload (intT .i64) (x := s.retain); rfl; exact bsM; rfl) | (apply op_xorI (c := xorM s.retain); rfl; rfl; (unfold xorM; rfl)) | (exact bsO)) | apply J.seq | apply E.next | apply J.lq | apply Lq.nil | apply PRun.nil | apply J.block | apply E.in_normal | apply J.skip | (apply Lq.store; rfl; rfl; exact bsP; exact bsS; rfl; rfl) | (apply PRun.al; rfl) | (apply Lq.al; rfl; rfl; intro b) | (apply Open.cons; intro b) | apply Open.nil | (apply Lq.pass; rfl; rfl; rfl) | (apply PRun.pass; rfl; rfl) | (apply Lq.skip; rfl; rfl; rfl; exact bsB) | (apply PRun.skip; rfl; rfl; exact bsB) | (apply J.cond_t; rfl) | (apply J.cond_f; rfl) | apply J.exit | apply E.then_exit | apply E.in_exit | (apply E.in_other; rfl))
  refine Lq.nilrow 38 recT.toTy ?_
  (apply Lq.append (T := recT) (xs := []) (ys := s.recs); rfl; exact bsP; (apply From.sl; rfl); rfl; rfl; rfl; (show 0 + _ ≤ maxLen; unfold maxLen; omega); (show (0 + _) * 72 ≤ _; omega))
  intro A1 c1
  rw [List.nil_append]
  repeat (first | ((first | (apply Lq.s; rfl) | apply PRun.s | (apply Lq.run; rfl; rfl; rfl; exact bsB) | (apply PRun.run; rfl; rfl; exact bsB)); first | (apply op_buildT recT zeroRec; rfl; rfl; (repeat (first | exact BP.nil _ | (apply BP.cons; rfl; rfl; exact bsS; rfl; rfl))); rfl) | (apply op_bslice recT (xs := [zeroRec]); (repeat (first | exact PO.nil _ | (apply PO.cons; rfl))); rfl; rfl; rfl) | (exact bsO)) | apply J.seq | apply E.next | apply J.lq | apply Lq.nil | apply PRun.nil | apply J.block | apply E.in_normal | apply J.skip | (apply Lq.store; rfl; rfl; exact bsP; exact bsS; rfl; rfl) | (apply PRun.al; rfl) | (apply Lq.al; rfl; rfl; intro b) | (apply Open.cons; intro b) | apply Open.nil | (apply Lq.pass; rfl; rfl; rfl) | (apply PRun.pass; rfl; rfl) | (apply Lq.skip; rfl; rfl; rfl; exact bsB) | (apply PRun.skip; rfl; rfl; exact bsB) | (apply J.cond_t; rfl) | (apply J.cond_f; rfl) | apply J.exit | apply E.then_exit | apply E.in_exit | (apply E.in_other; rfl))
  (apply Lq.append (T := recT) (xs := s.recs) (ys := [zeroRec]); rfl; exact bsP; (apply From.sl; rfl); rfl; rfl; rfl; (show _ + 1 ≤ maxLen; unfold maxLen; omega); (show (_ + 1) * 72 ≤ _; omega))
  intro A2 c2
  refine Lq.freeze 25 rfl (bsP) ?_
  repeat (first | ((first | (apply Lq.s; rfl) | apply PRun.s | (apply Lq.run; rfl; rfl; rfl; exact bsB) | (apply PRun.run; rfl; rfl; exact bsB)); first | (exact bsO)) | apply J.seq | apply E.next | apply J.lq | apply Lq.nil | apply PRun.nil | apply J.block | apply E.in_normal | apply J.skip | (apply Lq.store; rfl; rfl; exact bsP; exact bsS; rfl; rfl) | (apply PRun.al; rfl) | (apply Lq.al; rfl; rfl; intro b) | (apply Open.cons; intro b) | apply Open.nil | (apply Lq.pass; rfl; rfl; rfl) | (apply PRun.pass; rfl; rfl) | (apply Lq.skip; rfl; rfl; rfl; exact bsB) | (apply PRun.skip; rfl; rfl; exact bsB) | (apply J.cond_t; rfl) | (apply J.cond_f; rfl) | apply J.exit | apply E.then_exit | apply E.in_exit | (apply E.in_other; rfl))
  revert b
  intro b6
  revert b
  intro b5
  refine J.res1 (r' := own b6 25 (streamT.cells { s with recs := s.recs ++ [zeroRec] })) (by exact bsP) (fun H w h => ⟨h, rfl⟩) ?_
  refine J.frzB 6 rfl (List.Perm.refl _) ?_
  refine J.res1 (r' := own b5 25 (streamT.cells { s with retain := xorM s.retain })) (by exact bsP) (fun H w h => ⟨h, rfl⟩) ?_
  refine J.frzB 5 rfl (List.Perm.refl _) ?_
  refine J.drawW 23 [(none, none), (none, none), (none, none), (none, none), (none, none), (none, none), (none, none), (none, none), (none, none), (none, none), (none, none), (none, none), (none, none), (none, none), (none, none), (none, none), (none, none), (none, none), (none, none), (none, none), (none, none), (none, none), (none, none)] mixed (by kernel_rfl) ?_
  repeat (first | ((first | apply PRunW.s | (apply PRunW.run; rfl; rfl; exact bsB) | (apply Lq.s; rfl) | apply PRun.s | (apply Lq.run; rfl; rfl; rfl; exact bsB) | (apply PRun.run; rfl; rfl; exact bsB)); first | (apply op_box streamT; rfl) | (apply op_faddr stream_name; rfl; decide) | (apply op_faddr stream_retain; rfl; decide) | (apply op_faddr stream_holds; rfl; decide) | (apply op_faddr stream_recs; rfl; decide) | (apply op_load strT; rfl) | (apply op_load (intT .i64); rfl) | (apply op_load (slT strT); rfl) | (apply op_load (slT recT); rfl) | (apply op_load streamT; rfl) | (apply op_len (xs := s.recs); rfl) | (apply op_len (xs := s.holds); rfl) | (apply op_box entryT; rfl) | (apply op_faddr entry_kind; rfl; decide) | (apply op_faddr entry_n; rfl; decide) | (apply op_faddr entry_len; rfl; decide) | (apply op_faddr entry_name; rfl; decide) | (apply op_load entryT; rfl) | (apply op_call lives16_fn; exact bsD) | (apply op_call f1; exact bsD) | (apply op_call f2; exact bsD) | (apply op_call f3; exact bsD) | (apply op_call f4; exact bsD) | (exact bsO)) | apply J.seq | apply E.next | apply J.lq | apply Lq.nil | apply PRun.nil | apply J.block | apply E.in_normal | apply J.skip | (apply Lq.store; rfl; rfl; exact bsP; exact bsS; rfl; rfl) | (apply PRun.al; rfl) | (apply Lq.al; rfl; rfl; intro b) | (apply Open.cons; intro b) | apply Open.nil | (apply Lq.pass; rfl; rfl; rfl) | (apply PRun.pass; rfl; rfl) | (apply Lq.skip; rfl; rfl; rfl; exact bsB) | (apply PRun.skip; rfl; rfl; exact bsB) | (apply J.cond_t; rfl) | (apply J.cond_f; rfl) | apply J.exit | apply E.then_exit | apply E.in_exit | (apply E.in_other; rfl) | apply PRunW.nil | (apply PRunW.al; rfl) | (apply PRunW.pass; rfl; rfl) | (apply PRunW.skip; rfl; rfl; exact bsB) | (apply Open.pv; intro b) | apply Open.av | (apply Open.rv; intro A c))
  rw [show (v == v) = true by cases v <;> rfl]
  repeat (first | ((first | apply PRunW.s | (apply PRunW.run; rfl; rfl; exact bsB) | (apply Lq.s; rfl) | apply PRun.s | (apply Lq.run; rfl; rfl; rfl; exact bsB) | (apply PRun.run; rfl; rfl; exact bsB)); first | (apply op_box streamT; rfl) | (apply op_faddr stream_name; rfl; decide) | (apply op_faddr stream_retain; rfl; decide) | (apply op_faddr stream_holds; rfl; decide) | (apply op_faddr stream_recs; rfl; decide) | (apply op_load strT; rfl) | (apply op_load (intT .i64); rfl) | (apply op_load (slT strT); rfl) | (apply op_load (slT recT); rfl) | (apply op_load streamT; rfl) | (apply op_len (xs := s.recs); rfl) | (apply op_len (xs := s.holds); rfl) | (apply op_box entryT; rfl) | (apply op_faddr entry_kind; rfl; decide) | (apply op_faddr entry_n; rfl; decide) | (apply op_faddr entry_len; rfl; decide) | (apply op_faddr entry_name; rfl; decide) | (apply op_load entryT; rfl) | (apply op_call lives16_fn; exact bsD) | (apply op_call f1; exact bsD) | (apply op_call f2; exact bsD) | (apply op_call f3; exact bsD) | (apply op_call f4; exact bsD) | (exact bsO)) | apply J.seq | apply E.next | apply J.lq | apply Lq.nil | apply PRun.nil | apply J.block | apply E.in_normal | apply J.skip | (apply Lq.store; rfl; rfl; exact bsP; exact bsS; rfl; rfl) | (apply PRun.al; rfl) | (apply Lq.al; rfl; rfl; intro b) | (apply Open.cons; intro b) | apply Open.nil | (apply Lq.pass; rfl; rfl; rfl) | (apply PRun.pass; rfl; rfl) | (apply Lq.skip; rfl; rfl; rfl; exact bsB) | (apply PRun.skip; rfl; rfl; exact bsB) | (apply J.cond_t; rfl) | (apply J.cond_f; rfl) | apply J.exit | apply E.then_exit | apply E.in_exit | (apply E.in_other; rfl) | apply PRunW.nil | (apply PRunW.al; rfl) | (apply PRunW.pass; rfl; rfl) | (apply PRunW.skip; rfl; rfl; exact bsB) | (apply Open.pv; intro b) | apply Open.av | (apply Open.rv; intro A c))
  (refine J.ret ?_; (repeat (first | refine E.then_ret ?_ | refine E.in_ret ?_)))
  exact E.ret1 rfl rfl
end Go.Proofs.Ytafbkgijahinkaa.L
