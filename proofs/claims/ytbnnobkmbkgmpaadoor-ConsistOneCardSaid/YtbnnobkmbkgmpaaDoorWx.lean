/-
  ConsistOne: the proof from a tree of one leaf is the proof that the first leaf is in.
-/
import Derived.Test.YtbnnobkmbkgmpaaDoorWh
import Derived.Test.YtbnnobkmbkgmpaaDoorWl
namespace Go.Proofs.YtbnnobkmbkgmpaaDoor.L
open Go
set_option linter.unusedSectionVars false
variable [Globs] [Has_sha_table] [Has_sha_begin]
set_option linter.unusedVariables false
theorem cpart_inc : ∀ (n : Nat) (l : List Hash), l.length = n → 1 ≤ n → cpart l 1 true = inc l 0 := by
  intro n
  induction n using Nat.strongRecOn with
  | _ n ih =>
    intro l hl h1
    by_cases h2 : n = 1
    · rw [inc_one (by omega), cpart_all (Nat.le_refl 1) (by omega) true, if_pos rfl]
    · have hs := split_lt (n := l.length) (by omega)
      rw [inc_left (by omega) (by omega), cpart_left (Nat.le_refl 1) (by omega) hs.1 true, ih (split l.length) (by omega) (l.take (split l.length)) (by rw [List.length_take]; omega) hs.1]
set_option linter.unusedVariables false
set_option linter.unusedSimpArgs false
attribute [local irreducible] J Lq E OpP PRun is any agg tup ptr sl PRunW OpE
attribute [local irreducible] up2 mroot nodeH leafH emptyH shaH ownAt row someL leafOf splitZ split rv ways pairT cpart leadsR okC chkC inc okI chkI

set_option maxRecDepth 100000 in
set_option maxHeartbeats 2000000 in
theorem consistOne (many : UInt8) (s : Nat) (_h0 : True) (hs : s < 4294967296) : Fn Tryd.prog 9 [is (.int .u8 (many.toNat : Int)), is (.int .u32 (s : Int))] (is (.bool true)) := by
  have hmany := many.toNat_lt
  obtain ⟨n, hn⟩ : ∃ n, n = 2 + many.toNat % 31 := ⟨_, rfl⟩
  have hlen := someL_len n s
  have hsome := some_fn n s (by omega) hs
  generalize someL n s = l at *
  obtain ⟨x, hx⟩ : ∃ x, l[0]? = some x := ⟨_, List.getElem?_eq_getElem (by omega)⟩
  have hx1 : mroot (l.take 1) = x := by
    cases l with
    | nil => cases hx
    | cons y l => injection hx with hx; subst hx; exact mroot_one y
  have r1 := root_fn l (by omega)
  have hP := cpart_inc n l hlen (by omega)
  have p1 : Fn Tryd.prog 10 [sl hashT.toTy l, is (.int .i64 1)] (tup [sl hashT.toTy (inc l 0), is (.int .i64 0)]) := (cprove_fn l 1 (by omega) (by omega) (by omega)).to (by rw [hP])
  have p2 : Fn Tryd.prog 18 [sl hashT.toTy l, is (.int .i64 0)] (tup [sl hashT.toTy (inc l 0), is (.int .i64 0)]) := (iprove_fnR l 0 (by omega) (by omega)).frz2
  have hil := inc_len n l 0 hlen (by omega)
  have hwl := way_le 7 0 (n - 1) (by omega)
  have c1 : Fn Tryd.prog 14 [is (.int .i64 1), is (.int .i64 (n : Int)), hashT.val x, hashT.val (mroot l), sl hashT.toTy (inc l 0)] (is (.int .i64 0)) := check_part (l := l) (m := 1) (n := n) (u := x) (v := mroot l) (by omega) hlen (by omega) (by omega) hx1.symm rfl hP.symm
  have c2 : Fn Tryd.prog 19 [hashT.val x, is (.int .i64 0), is (.int .i64 (n : Int)), sl hashT.toTy (inc l 0), hashT.val (mroot l)] (is (.int .i64 0)) := (icheck_fn x 0 (n : Int) (inc l 0) (mroot l) (by omega) (by omega)).to (by
    rw [show (0 : Int) = ((0 : Nat) : Int) from rfl, chkI_ok (by omega), okI_inc hlen hx, if_pos (decide_eq_true rfl)]
    rfl)
  have hsame := same_fn (inc l 0) (by omega)
  generalize inc l 0 = p at *
  generalize mroot l = r at *
  refine Fn.mk' 64 Tryd.func9 rfl rfl rfl rfl fun w0 H0 => ?_
  repeat (first | ((first | (apply Lq.s; rfl) | apply PRun.s | (apply Lq.run; rfl; rfl; rfl; exact bsB) | (apply PRun.run; rfl; rfl; exact bsB)); first | (apply op_conv (c := (many.toNat : Int)); rfl; (apply wrapi <;> omega)) | (apply op_remn (m := many.toNat) (n := 31); rfl; rfl; decide) | (apply op_add (c := (n : Int)); rfl; rfl; (rw [show (2 : Int) + ((many.toNat % 31 : Nat) : Int) = (n : Int) by omega]; apply wrapi <;> omega)) | (apply op_call hsome; exact bsD) | (apply op_call p1; exact bsD) | (apply op_call p2; exact bsD) | (exact bsO)) | apply J.seq | apply E.next | apply J.lq | apply Lq.nil | apply PRun.nil | apply J.block | apply E.in_normal | apply J.skip | (apply Lq.store; rfl; rfl; exact bsP; exact bsS; rfl; rfl) | (apply PRun.al; rfl) | (apply Lq.al; rfl; rfl; intro b) | (apply Open.cons; intro b) | apply Open.nil | (apply Lq.pass; rfl; rfl; rfl) | (apply PRun.pass; rfl; rfl) | (apply Lq.skip; rfl; rfl; rfl; exact bsB) | (apply PRun.skip; rfl; rfl; exact bsB) | (apply J.cond_t; rfl) | (apply J.cond_f; rfl) | apply J.exit | apply E.then_exit | apply E.in_exit | (apply E.in_other; rfl))
  refine J.drawW 37 [(none, none), (none, none), (none, none), (none, none), (none, none), (none, none), (none, none), (none, none), (none, none), (none, none), (none, none), (none, none), (none, none), (none, none), (none, none), (none, none), (none, none), (none, none), (none, none), (none, none), (none, none), (none, none), (none, none), (none, none), (none, none), (none, none), (none, none), (none, none), (none, none), (none, none), (none, none), (none, none), (none, none), (none, none), (none, none), (none, none), (none, none)] mixed (by kernel_rfl) ?_
  repeat (first | ((first | apply PRunW.s | (apply PRunW.run; rfl; rfl; exact bsB) | (apply Lq.s; rfl) | apply PRun.s | (apply Lq.run; rfl; rfl; rfl; exact bsB) | (apply PRun.run; rfl; rfl; exact bsB)); first | (apply op_iaddr hashT.toTy (x := x); rfl; rfl; decide; exact hx) | (apply op_load hashT; rfl) | (apply op_call hsame; exact bsD) | (apply op_call r1; exact bsD) | (apply op_call c1; exact bsD) | (apply op_call c2; exact bsD) | (apply op_call does12_fn; exact bsD) | (exact bsO)) | apply J.seq | apply E.next | apply J.lq | apply Lq.nil | apply PRun.nil | apply J.block | apply E.in_normal | apply J.skip | (apply Lq.store; rfl; rfl; exact bsP; exact bsS; rfl; rfl) | (apply PRun.al; rfl) | (apply Lq.al; rfl; rfl; intro b) | (apply Open.cons; intro b) | apply Open.nil | (apply Lq.pass; rfl; rfl; rfl) | (apply PRun.pass; rfl; rfl) | (apply Lq.skip; rfl; rfl; rfl; exact bsB) | (apply PRun.skip; rfl; rfl; exact bsB) | (apply J.cond_t; rfl) | (apply J.cond_f; rfl) | apply J.exit | apply E.then_exit | apply E.in_exit | (apply E.in_other; rfl) | apply PRunW.nil | (apply PRunW.al; rfl) | (apply PRunW.pass; rfl; rfl) | (apply PRunW.skip; rfl; rfl; exact bsB) | (apply Open.pv; intro b) | apply Open.av | (apply Open.rv; intro A c))
  (refine J.ret ?_; (repeat (first | refine E.then_ret ?_ | refine E.in_ret ?_)))
  exact E.ret1 rfl rfl
end Go.Proofs.YtbnnobkmbkgmpaaDoor.L
