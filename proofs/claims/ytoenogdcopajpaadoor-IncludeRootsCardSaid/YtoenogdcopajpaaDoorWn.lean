/-
  The examples of layer 11, and the laws IncludeProve, IncludeCheck, IncludeWhole, IncludeAll, IncludeLength, walked.
-/
import Derived.Test.YtoenogdcopajpaaDoorWm
import Derived.Test.YtoenogdcopajpaaDoorWz
import Derived.Test.YtoenogdcopajpaaDoorRr
namespace Go.Proofs.YtoenogdcopajpaaDoor.L
open Go Go.RowKit
set_option linter.unusedSectionVars false
variable [Globs] [Has_sha_table] [Has_sha_begin]
set_option linter.unusedVariables false
theorem iprove_fn (l : List Hash) (i : Nat) (hl : l.length ≤ 90000) (hi : i < l.length) : Fn Tryd.prog 10 [sl hashT.toTy l, is (.int .i64 (i : Int))] (tup [sl hashT.toTy (inc l i), is (.int .i64 0)]) := (iprove_fnR l i hl hi).frz2
theorem inc3_0 (x y z : Hash) : inc [x, y, z] 0 = [y, z] := by
  rw [inc_left (l := [x, y, z]) (show 2 ≤ 3 by decide) (show 0 < split 3 by rw [split3]; decide), show List.length [x, y, z] = 3 from rfl, split3]
  show inc [x, y] 0 ++ [mroot [z]] = _
  rw [inc_left (l := [x, y]) (show 2 ≤ 2 by decide) (show 0 < split 2 by rw [split2]; decide), show [x, y].length = 2 from rfl, split2]
  show (inc [x] 0 ++ [mroot [y]]) ++ [mroot [z]] = _
  rw [inc_one (l := [x]) (Nat.le_refl 1), mroot_one, mroot_one]
  rfl
theorem inc3_2 (x y z : Hash) : inc [x, y, z] 2 = [nodeH x y] := by
  rw [inc_right (l := [x, y, z]) (show 2 ≤ 3 by decide) (show split 3 ≤ 2 by rw [split3]; decide), show List.length [x, y, z] = 3 from rfl, split3]
  show inc [z] 0 ++ [mroot [x, y]] = _
  rw [inc_one (l := [z]) (Nat.le_refl 1), mroot2]
  rfl
theorem okI_01 (x r : Hash) (pr : List Hash) : okI 0 1 x pr r = (decide (pr.length = 0) && decide (x = r)) := by
  unfold okI
  rw [show 1 - 1 = 0 from rfl, way_zero]
  rfl
theorem okI_02 (x r : Hash) : okI 0 2 x [] r = false := by
  unfold okI
  rw [show 2 - 1 = 1 from rfl, way_lt rfl (by decide) (by decide), way_zero]
  rfl
/-- A check of a proof that was given. -/
theorem icheck_inc {l : List Hash} {i n : Nat} {x r : Hash} {p : List Hash} (hl : l.length ≤ 70000) (hn : l.length = n) (hx : l[i]? = some x) (hr : r = mroot l) (hp : p = inc l i) : Fn Tryd.prog 14 [hashT.val x, is (.int .i64 (i : Int)), is (.int .i64 (n : Int)), sl hashT.toTy p, hashT.val r] (is (.int .i64 0)) := by
  subst hp
  have hi := (List.getElem?_eq_some_iff.1 hx).1
  have hlen := inc_le n l i hn
  refine (icheck_fn x (i : Int) (n : Int) (inc l i) r (by omega) (by omega)).to ?_
  rw [chkI_ok (by omega), okI_inc hn hx, if_pos (decide_eq_true hr.symm)]
theorem icheck110 {i n : Nat} {x r : Hash} {p : List Hash} (hi : i < n) (hn : n ≤ 100000) (hl : p.length ≤ 80000) (h : okI i n x p r = false) : Fn Tryd.prog 14 [hashT.val x, is (.int .i64 (i : Int)), is (.int .i64 (n : Int)), sl hashT.toTy p, hashT.val r] (is (.int .i64 110)) :=
  (icheck_fn x (i : Int) (n : Int) p r (by omega) hl).to (by rw [chkI_ok hi, if_neg (by rw [h]; decide)])
structure ClaimI where
  leaf : Hash
  root : Hash
  i : Int
  n : Int
  pr : List Hash
def claimT : Td ClaimI where
  sz := 67
  cells r := hashT.cells r.leaf ++ hashT.cells r.root ++ [is (.int .i64 r.i), is (.int .i64 r.n)] ++ [sl hashT.toTy r.pr]
  len r := by simp [hashT.len]; rfl
  ag := true
  one h := by cases h
  sc x H v h _ := by cases h
  pos := by decide
theorem claim_leaf : Fld claimT.toTy hashT.toTy ClaimI.leaf 0 := ⟨fun s => ⟨[], hashT.cells s.root ++ [is (.int .i64 s.i), is (.int .i64 s.n)] ++ [sl hashT.toTy s.pr], by simp [claimT], rfl⟩⟩
theorem claim_root : Fld claimT.toTy hashT.toTy ClaimI.root 32 := ⟨fun s => ⟨hashT.cells s.leaf, [is (.int .i64 s.i), is (.int .i64 s.n)] ++ [sl hashT.toTy s.pr], by simp [claimT], hashT.len _⟩⟩
theorem claim_i : Fld claimT.toTy (intT .i64).toTy ClaimI.i 64 := ⟨fun s => ⟨hashT.cells s.leaf ++ hashT.cells s.root, [is (.int .i64 s.n)] ++ [sl hashT.toTy s.pr], by simp [claimT, intT], by simp [hashT.len]; rfl⟩⟩
theorem claim_n : Fld claimT.toTy (intT .i64).toTy ClaimI.n 65 := ⟨fun s => ⟨hashT.cells s.leaf ++ hashT.cells s.root ++ [is (.int .i64 s.i)], [sl hashT.toTy s.pr], by simp [claimT, intT], by simp [hashT.len]; rfl⟩⟩
theorem claim_pr : Fld claimT.toTy (slT hashT).toTy ClaimI.pr 66 := ⟨fun s => ⟨hashT.cells s.leaf ++ hashT.cells s.root ++ [is (.int .i64 s.i), is (.int .i64 s.n)], [], by simp [claimT, slT], by simp [hashT.len]; rfl⟩⟩
theorem Rd.Claim {P : Program} {t ti th ts te : Nat} [TFld P t 0 0 th] [TFld P t 1 32 th] [TFld P t 2 64 ti] [TFld P t 3 65 ti] [TFld P t 4 66 ts] [TSz P t 67] [TSz P ti 1] [TInt P ti .i64] [TArr P th 32 te] [TSz P th 32] [TSz P te 1] [TInt P te .u8] [TSl P ts th] [TSz P ts 1] : Rd P t claimT fun r => I64 r.i ∧ I64 r.n ∧ r.pr.length ≤ maxLen := ⟨fun {H} enc W fuel cs d ps h => by
  have hl := Rd.lenOf (n := 67) (i := 0) (off := 0) (ft := th) h
  haveI : TSz P th (32 * u8T.sz) := (inferInstance : TSz P th 32)
  haveI : TSz P te u8T.sz := (inferInstance : TSz P te 1)
  haveI : TSz P th hashT.sz := (inferInstance : TSz P th 32)
  haveI : TSz P ts (slT hashT).sz := (inferInstance : TSz P ts 1)
  obtain ⟨c, hc, h2⟩ := Rd.fld (n := 67) (i := 0) (off := 0) (ft := th) (T := hashT) Rd.hash h
  obtain ⟨r, hr, h3⟩ := Rd.fld (n := 67) (i := 1) (off := 32) (ft := th) (T := hashT) Rd.hash h
  obtain ⟨a, ha, h0⟩ := Rd.fld (n := 67) (i := 2) (off := 64) (ft := ti) (T := intT .i64) Rd.i64 h
  obtain ⟨b, hb, h1⟩ := Rd.fld (n := 67) (i := 3) (off := 65) (ft := ti) (T := intT .i64) Rd.i64 h
  obtain ⟨s, hs, h4⟩ := Rd.fld (n := 67) (i := 4) (off := 66) (ft := ts) (T := slT hashT) (Rd.slice Rd.hash) h
  have e : claimT.cells ⟨c, r, a, b, s⟩ = hashT.cells c ++ (hashT.cells r ++ ((intT .i64).cells a ++ ((intT .i64).cells b ++ ((slT hashT).cells s ++ [])))) := by
    simp [claimT, intT, slT]
  refine ⟨⟨c, r, a, b, s⟩, ⟨ha, hb, hs.1⟩, ?_⟩
  rw [e]
  exact fld_step (off := 0) (sz := 32) h2 (fld_step (off := 32) (sz := 32) h3 (fld_step (off := 64) (sz := 1) h0 (fld_step (off := 65) (sz := 1) h1 (fld_step (off := 66) (sz := 1) h4 (fld_end hl)))))⟩
theorem pow_le {a : Nat} (h : a ≤ 6) : 2 ^ a ≤ 64 := Nat.pow_le_pow_right (by decide) h
set_option linter.unusedVariables false
set_option linter.unusedSimpArgs false
attribute [local irreducible] J Lq E OpP PRun is any agg tup ptr sl PRunW OpE
attribute [local irreducible] up2 mroot nodeH leafH emptyH shaH ownAt row someL leafOf splitZ split rv ways inc okI leadsI chkI slw
set_option maxRecDepth 100000 in
set_option maxHeartbeats 2000000 in
theorem does11_fn : Fn Tryd.prog 13 [] (is (.bool true)) := by
  have hS : someL 3 4 = [leafOf 4 0, leafOf 4 1, leafOf 4 2] := by unfold someL; rfl
  generalize leafOf 4 0 = q0 at hS
  generalize leafOf 4 1 = q1 at hS
  generalize leafOf 4 2 = q2 at hS
  have p0 := (iprove_fn [q0, q1, q2] 0 (show 3 ≤ 90000 by decide) (show 0 < 3 by decide)).to (by rw [inc3_0])
  have p2 := (iprove_fn [q0, q1, q2] 2 (show 3 ≤ 90000 by decide) (show 2 < 3 by decide)).to (by rw [inc3_2])
  have p3 := iprove_bad [q0, q1, q2] 3 (show 3 ≤ 100000 by decide) (.inr (show (3 : Int) ≤ 3 by decide))
  have hroot := root_fn [q0, q1, q2] (show 3 ≤ 100000 by decide)
  have f1 := icheck_inc (l := [q0, q1, q2]) (i := 0) (n := 3) (x := q0) (show 3 ≤ 70000 by decide) rfl rfl rfl (inc3_0 q0 q1 q2).symm
  have c2 : chkI q0 0 1 [] q0 = 0 := by rw [show chkI q0 0 1 [] q0 = _ from chkI_ok (i := 0) (n := 1) (by decide) q0 [] q0, okI_01]; simp
  have c3 : chkI q0 0 2 [] q0 = 110 := by rw [show chkI q0 0 2 [] q0 = _ from chkI_ok (i := 0) (n := 2) (by decide) q0 [] q0, okI_02]; rfl
  have c4 : chkI q0 1 1 [] q0 = 2 := chkI_bad (by decide) _ _ _
  have f2 := ((icheck_fn q0 0 1 [] q0 (by decide) (show 0 ≤ 80000 by decide)).to (by rw [c2])).weak (weakAt sl_of_nil [_, _, _] [_])
  have f3 := ((icheck_fn q0 0 2 [] q0 (by decide) (show 0 ≤ 80000 by decide)).to (by rw [c3])).weak (weakAt sl_of_nil [_, _, _] [_])
  have f4 := ((icheck_fn q0 1 1 [] q0 (by decide) (show 0 ≤ 80000 by decide)).to (by rw [c4])).weak (weakAt sl_of_nil [_, _, _] [_])
  generalize mroot [q0, q1, q2] = r at *
  refine Fn.mk' 97 Tryd.func13 rfl rfl rfl rfl fun w0 H0 => ?_
  repeat (first | ((first | (apply Lq.s; rfl) | apply PRun.s | (apply Lq.run; rfl; rfl; rfl; exact bsB) | (apply PRun.run; rfl; rfl; exact bsB)); first | (apply op_call ((some_fn 3 4 (by decide) (by decide)).to (show _ = sl hashT.toTy [q0, q1, q2] by rw [hS])); exact bsD) | (apply op_call p0; exact bsD) | (apply op_call p2; exact bsD) | (apply op_call p3; exact bsD) | (apply op_call hroot; exact bsD) | (apply op_iaddr hashT.toTy (x := q0); rfl; rfl; decide; rfl) | (apply op_iaddr hashT.toTy (x := q1); rfl; rfl; decide; rfl) | (apply op_iaddr hashT.toTy (x := q2); rfl; rfl; decide; rfl) | (apply op_load hashT; rfl) | (apply op_bslice hashT (xs := [q1, q2]); (repeat (first | exact PO.nil _ | (apply PO.cons; rfl))); rfl; rfl; rfl) | (apply op_call (same_fn [q1, q2] (show 2 ≤ 1000000 by decide)); exact bsD) | (apply op_call (nodeH_fn q0 q1); exact bsD) | (apply op_bslice hashT (xs := [nodeH q0 q1]); (repeat (first | exact PO.nil _ | (apply PO.cons; rfl))); rfl; rfl; rfl) | (apply op_call (same_fn [nodeH q0 q1] (show 1 ≤ 1000000 by decide)); exact bsD) | (apply op_call f1; exact bsD) | (apply op_call f2; exact bsD) | (apply op_call f3; exact bsD) | (apply op_call f4; exact bsD) | (exact bsO)) | apply J.seq | apply E.next | apply J.lq | apply Lq.nil | apply PRun.nil | apply J.block | apply E.in_normal | apply J.skip | (apply Lq.store; rfl; rfl; exact bsP; exact bsS; rfl; rfl) | (apply PRun.al; rfl) | (apply Lq.al; rfl; rfl; intro b) | (apply Open.cons; intro b) | apply Open.nil | (apply Lq.pass; rfl; rfl; rfl) | (apply PRun.pass; rfl; rfl) | (apply Lq.skip; rfl; rfl; rfl; exact bsB) | (apply PRun.skip; rfl; rfl; exact bsB) | (apply J.drawN; exact mixed; kernel_rfl) | (apply J.cond_t; rfl) | (apply J.cond_f; rfl) | apply J.exit | apply E.then_exit | apply E.in_exit | (apply E.in_other; rfl))
  (refine J.ret ?_; (repeat (first | refine E.then_ret ?_ | refine E.in_ret ?_)))
  exact E.ret1 rfl rfl
set_option maxHeartbeats 2000000 in
theorem includeCheck [Has_ref02_k] (x : ClaimI) (hx : I64 x.i ∧ I64 x.n ∧ x.pr.length ≤ maxLen) : Fn Tryd.prog 4 [claimT.val x] (is (.bool true)) := by
  obtain ⟨h1, h2, h3⟩ := hx
  obtain ⟨h4, h5⟩ := h2
  by_cases hbig : 100 < x.pr.length
  · refine Fn.mk' 33 Tryd.func4 rfl rfl rfl rfl fun w0 H0 => ?_
    repeat (first | ((first | (apply Lq.s; rfl) | apply PRun.s | (apply Lq.run; rfl; rfl; rfl; exact bsB) | (apply PRun.run; rfl; rfl; exact bsB)); first | (apply op_box claimT; rfl) | (apply op_faddr claim_leaf; rfl; decide) | (apply op_faddr claim_root; rfl; decide) | (apply op_faddr claim_i; rfl; decide) | (apply op_faddr claim_n; rfl; decide) | (apply op_faddr claim_pr; rfl; decide) | (apply op_load (slT hashT); rfl) | (apply op_load hashT; rfl) | (apply op_len (xs := x.pr); rfl) | (exact bsO)) | apply J.seq | apply E.next | apply J.lq | apply Lq.nil | apply PRun.nil | apply J.block | apply E.in_normal | apply J.skip | (apply Lq.store; rfl; rfl; exact bsP; exact bsS; rfl; rfl) | (apply PRun.al; rfl) | (apply Lq.al; rfl; rfl; intro b) | (apply Open.cons; intro b) | apply Open.nil | (apply Lq.pass; rfl; rfl; rfl) | (apply PRun.pass; rfl; rfl) | (apply Lq.skip; rfl; rfl; rfl; exact bsB) | (apply PRun.skip; rfl; rfl; exact bsB) | (apply J.drawN; exact mixed; kernel_rfl) | (apply J.cond_t; rfl) | (apply J.cond_f; rfl) | apply J.exit | apply E.then_exit | apply E.in_exit | (apply E.in_other; rfl))
    (refine J.ret ?_; (repeat (first | refine E.then_ret ?_ | refine E.in_ret ?_)))
    exact E.ret1 rfl rfl
  · have k1 := icheck_fn x.leaf x.i x.n x.pr x.root h5 (by omega)
    have k2 := irefcheck_fn x.leaf x.i x.n x.pr x.root h5 (by omega)
    refine Fn.mk' 33 Tryd.func4 rfl rfl rfl rfl fun w0 H0 => ?_
    repeat (first | ((first | (apply Lq.s; rfl) | apply PRun.s | (apply Lq.run; rfl; rfl; rfl; exact bsB) | (apply PRun.run; rfl; rfl; exact bsB)); first | (apply op_box claimT; rfl) | (apply op_faddr claim_leaf; rfl; decide) | (apply op_faddr claim_root; rfl; decide) | (apply op_faddr claim_i; rfl; decide) | (apply op_faddr claim_n; rfl; decide) | (apply op_faddr claim_pr; rfl; decide) | (apply op_load (slT hashT); rfl) | (apply op_load hashT; rfl) | (apply op_len (xs := x.pr); rfl) | (apply op_call k1; exact bsD) | (apply op_call k2; exact bsD) | (apply op_eql_t; rfl; rfl; rfl) | (apply op_call does11_fn; exact bsD) | (exact bsO)) | apply J.seq | apply E.next | apply J.lq | apply Lq.nil | apply PRun.nil | apply J.block | apply E.in_normal | apply J.skip | (apply Lq.store; rfl; rfl; exact bsP; exact bsS; rfl; rfl) | (apply PRun.al; rfl) | (apply Lq.al; rfl; rfl; intro b) | (apply Open.cons; intro b) | apply Open.nil | (apply Lq.pass; rfl; rfl; rfl) | (apply PRun.pass; rfl; rfl) | (apply Lq.skip; rfl; rfl; rfl; exact bsB) | (apply PRun.skip; rfl; rfl; exact bsB) | (apply J.drawN; exact mixed; kernel_rfl) | (apply J.cond_t; rfl) | (apply J.cond_f; rfl) | apply J.exit | apply E.then_exit | apply E.in_exit | (apply E.in_other; rfl))
    (refine J.ret ?_; (repeat (first | refine E.then_ret ?_ | refine E.in_ret ?_)))
    exact E.ret1 rfl rfl
set_option maxHeartbeats 2000000 in
theorem includeWhole (h o : Hash) (_h0 : True) (_h1 : True) : Fn Tryd.prog 9 [hashT.val h, hashT.val o] (is (.bool true)) := by
  have p0 := (iprove_fn [h] 0 (show 1 ≤ 90000 by decide) (show 0 < 1 by decide)).to (by rw [inc_one (l := [h]) (Nat.le_refl 1)])
  have p1 := iprove_bad [h] 1 (show 1 ≤ 100000 by decide) (.inr (show (1 : Int) ≤ 1 by decide))
  have p2 := (iprove_bad [] 0 (show 0 ≤ 100000 by decide) (.inr (show (0 : Int) ≤ 0 by decide))).weak (weakAt sl_of_nil [] [_])
  have hp0 : ([] : List Hash).length = 0 := rfl
  have ck : ∀ (x r : Hash) (pr : List Hash), chkI x 0 1 pr r = if (decide (pr.length = 0) && decide (x = r)) = true then 0 else 110 := fun x r pr => by
    rw [show chkI x 0 1 pr r = _ from chkI_ok (i := 0) (n := 1) (by decide) x pr r, okI_01]
  have f1 := ((icheck_fn h 0 1 [] h (by decide) (show 0 ≤ 80000 by decide)).to (show _ = is (.int .i64 0) by rw [ck]; simp)).weak (weakAt sl_of_nil [_, _, _] [_])
  have f3 := (icheck_fn h 0 1 [o] h (by decide) (show 1 ≤ 80000 by decide)).to (show _ = is (.int .i64 110) by rw [ck]; simp)
  by_cases ho : h = o
  · subst ho
    refine Fn.mk' 69 Tryd.func9 rfl rfl rfl rfl fun w0 H0 => ?_
    repeat (first | ((first | (apply Lq.s; rfl) | apply PRun.s | (apply Lq.run; rfl; rfl; rfl; exact bsB) | (apply PRun.run; rfl; rfl; exact bsB)); first | (apply op_box hashT; rfl) | (apply op_load hashT; rfl) | (apply op_bslice hashT (xs := [h]); (repeat (first | exact PO.nil _ | (apply PO.cons; rfl))); rfl; rfl; rfl) | (apply op_call p0; exact bsD) | (apply op_call p1; exact bsD) | (apply op_call p2; exact bsD) | (apply op_len (xs := ([] : List Hash)); rfl) | (apply op_call f1; exact bsD) | (apply op_call f3; exact bsD) | (apply op_eqA_t (T := hashT) (m := 2) (eqd_arr eqd_u8) rfl rfl; rfl; rfl; rfl) | (apply op_call does11_fn; exact bsD) | (exact bsO)) | apply J.seq | apply E.next | apply J.lq | apply Lq.nil | apply PRun.nil | apply J.block | apply E.in_normal | apply J.skip | (apply Lq.store; rfl; rfl; exact bsP; exact bsS; rfl; rfl) | (apply PRun.al; rfl) | (apply Lq.al; rfl; rfl; intro b) | (apply Open.cons; intro b) | apply Open.nil | (apply Lq.pass; rfl; rfl; rfl) | (apply PRun.pass; rfl; rfl) | (apply Lq.skip; rfl; rfl; rfl; exact bsB) | (apply PRun.skip; rfl; rfl; exact bsB) | (apply J.drawN; exact mixed; kernel_rfl) | (apply J.cond_t; rfl) | (apply J.cond_f; rfl) | apply J.exit | apply E.then_exit | apply E.in_exit | (apply E.in_other; rfl))
    (refine J.ret ?_; (repeat (first | refine E.then_ret ?_ | refine E.in_ret ?_)))
    exact E.ret1 rfl rfl
  · have f2 := ((icheck_fn h 0 1 [] o (by decide) (show 0 ≤ 80000 by decide)).to (show _ = is (.int .i64 110) by rw [ck, decide_eq_false ho]; simp)).weak (weakAt sl_of_nil [_, _, _] [_])
    refine Fn.mk' 69 Tryd.func9 rfl rfl rfl rfl fun w0 H0 => ?_
    repeat (first | ((first | (apply Lq.s; rfl) | apply PRun.s | (apply Lq.run; rfl; rfl; rfl; exact bsB) | (apply PRun.run; rfl; rfl; exact bsB)); first | (apply op_box hashT; rfl) | (apply op_load hashT; rfl) | (apply op_bslice hashT (xs := [h]); (repeat (first | exact PO.nil _ | (apply PO.cons; rfl))); rfl; rfl; rfl) | (apply op_bslice hashT (xs := [o]); (repeat (first | exact PO.nil _ | (apply PO.cons; rfl))); rfl; rfl; rfl) | (apply op_call p0; exact bsD) | (apply op_call p1; exact bsD) | (apply op_call p2; exact bsD) | (apply op_len (xs := ([] : List Hash)); rfl) | (apply op_call f1; exact bsD) | (apply op_call f2; exact bsD) | (apply op_call f3; exact bsD) | (apply op_eqA_f (T := hashT) (m := 2) (eqd_arr eqd_u8) rfl rfl; rfl; rfl; exact ho) | (apply op_call does11_fn; exact bsD) | (exact bsO)) | apply J.seq | apply E.next | apply J.lq | apply Lq.nil | apply PRun.nil | apply J.block | apply E.in_normal | apply J.skip | (apply Lq.store; rfl; rfl; exact bsP; exact bsS; rfl; rfl) | (apply PRun.al; rfl) | (apply Lq.al; rfl; rfl; intro b) | (apply Open.cons; intro b) | apply Open.nil | (apply Lq.pass; rfl; rfl; rfl) | (apply PRun.pass; rfl; rfl) | (apply Lq.skip; rfl; rfl; rfl; exact bsB) | (apply PRun.skip; rfl; rfl; exact bsB) | (apply J.drawN; exact mixed; kernel_rfl) | (apply J.cond_t; rfl) | (apply J.cond_f; rfl) | apply J.exit | apply E.then_exit | apply E.in_exit | (apply E.in_other; rfl))
    (refine J.ret ?_; (repeat (first | refine E.then_ret ?_ | refine E.in_ret ?_)))
    exact E.ret1 rfl rfl
set_option maxHeartbeats 4000000 in
theorem includeAll (many : UInt8) (s : Nat) (_h0 : True) (hs : s < 4294967296) : Fn Tryd.prog 5 [is (.int .u8 (many.toNat : Int)), is (.int .u32 (s : Int))] (is (.bool true)) := by
  have h0 := many.toNat_lt
  obtain ⟨n, hn⟩ : ∃ n, n = 1 + many.toNat % 40 := ⟨_, rfl⟩
  have hlen := someL_len n s
  have hsome := some_fn n s (by omega) hs
  generalize someL n s = l at *
  have r2 := root_fn l (by omega)
  obtain ⟨B1, hB1⟩ : ∃ B1, B1 = mroot l := ⟨_, rfl⟩
  rw [← hB1] at r2
  refine Fn.mk' 52 Tryd.func5 rfl rfl rfl rfl fun w0 H0 => ?_
  repeat (first | ((first | (apply Lq.s; rfl) | apply PRun.s | (apply Lq.run; rfl; rfl; rfl; exact bsB) | (apply PRun.run; rfl; rfl; exact bsB)); first | (apply op_conv (c := (many.toNat : Int)); rfl; (apply wrapi <;> omega)) | (apply op_remn (m := many.toNat) (n := 40); rfl; rfl; decide) | (apply op_add (c := (n : Int)); rfl; rfl; (rw [show (1 : Int) + ((many.toNat % 40 : Nat) : Int) = (n : Int) by omega]; apply wrapi <;> omega)) | (apply op_call (d := some 17) hsome; exact bsD) | (apply op_call r2; exact bsD) | (exact bsO)) | apply J.seq | apply E.next | apply J.lq | apply Lq.nil | apply PRun.nil | apply J.block | apply E.in_normal | apply J.skip | (apply Lq.store; rfl; rfl; exact bsP; exact bsS; rfl; rfl) | (apply PRun.al; rfl) | (apply Lq.al; rfl; rfl; intro b) | (apply Open.cons; intro b) | apply Open.nil | (apply Lq.pass; rfl; rfl; rfl) | (apply PRun.pass; rfl; rfl) | (apply Lq.skip; rfl; rfl; rfl; exact bsB) | (apply PRun.skip; rfl; rfl; exact bsB) | (apply J.cond_t; rfl) | (apply J.cond_f; rfl) | apply J.exit | apply E.then_exit | apply E.in_exit | (apply E.in_other; rfl))
  (apply Lq.storeE (φs' := hashT.cells B1); rfl; rfl; exact List.Perm.refl _; exact Seg.val _ _; exact hashT.len _; exact Nat.le_refl 32; exact splice_all (by rw [hashT.len]; rfl))
  revert b
  intro b9
  repeat (first | ((first | (apply Lq.s; rfl) | apply PRun.s | (apply Lq.run; rfl; rfl; rfl; exact bsB) | (apply PRun.run; rfl; rfl; exact bsB)); first | (exact bsO)) | apply J.seq | apply E.next | apply J.lq | apply Lq.nil | apply PRun.nil | apply J.block | apply E.in_normal | apply J.skip | (apply Lq.store; rfl; rfl; exact bsP; exact bsS; rfl; rfl) | (apply PRun.al; rfl) | (apply Lq.al; rfl; rfl; intro b) | (apply Open.cons; intro b) | apply Open.nil | (apply Lq.pass; rfl; rfl; rfl) | (apply PRun.pass; rfl; rfl) | (apply Lq.skip; rfl; rfl; rfl; exact bsB) | (apply PRun.skip; rfl; rfl; exact bsB) | (apply J.cond_t; rfl) | (apply J.cond_f; rfl) | apply J.exit | apply E.then_exit | apply E.in_exit | (apply E.in_other; rfl))
  refine J.loop (fun i : Nat => i ≤ n) (fun i => [(5, is (.int .i64 (n : Int))), (6, sl hashT.toTy l), (7, is (.pointer (some ⟨b9, 0, none⟩))), (8, is (.int .i64 (i : Int)))]) (fun _ => [own b9 23 (hashT.cells B1)]) (fun i => n - i) 0 (Nat.zero_le _) (Sub.same (by repeat' (first | exact trivial | refine ⟨rfl, ?_⟩))) ?_
  rintro i hi
  by_cases hlt : i < n
  · obtain ⟨x, hx⟩ : ∃ x, l[i]? = some x := ⟨_, List.getElem?_eq_getElem (by omega)⟩
    have p1 := iprove_fn l i (by omega) (by omega)
    have c1 := icheck_inc (l := l) (i := i) (n := n) (x := x) (r := B1) (by omega) hlen hx hB1 rfl
    have hpl : (inc l i).length ≤ 6 := by rw [inc_len n l i hlen hlt]; exact way_le 6 i (n - 1) (by omega)
    generalize inc l i = P at *
    have hp2 := pow_le hpl
    have hsh : IntKind.i64.wrap ((1 * 2 ^ P.length : Nat) : Int) = ((2 ^ P.length : Nat) : Int) := wrap_pow (by omega)
    have hsh2 : ∀ (Γ : Env) (Δ : List Res) (d : Option Nat) (ty : Nat) (pos : String) (af : Array Edge) (g : Option (Nat × Bool)) (x y : Operand) (t yt : Nat), opd Γ x = some (is (.int .i64 1)) → opd Γ y = some (is (.int .i64 (P.length : Int))) → OpP Tryd.prog Γ Δ ⟨d, .binOp .shl t x y yt, ty, pos, af, g⟩ (is (.int .i64 ((2 ^ P.length : Nat) : Int))) := fun Γ Δ d ty pos af g x y t yt h1 h2 => op_shln (m := 1) h1 h2 (by show _ ≤ 64; omega) hsh
    generalize 2 ^ P.length = z at *
    repeat (first | ((first | (apply Lq.s; rfl) | apply PRun.s | (apply Lq.run; rfl; rfl; rfl; exact bsB) | (apply PRun.run; rfl; rfl; exact bsB)); first | (apply op_call p1; exact bsD) | (apply op_len (xs := P); rfl) | (apply hsh2; rfl; rfl) | (apply op_iaddr hashT.toTy (x := x); rfl; rfl; exact Int.natCast_nonneg _; (rw [Int.toNat_natCast]; exact hx)) | (apply op_load hashT; rfl) | (apply op_oload hashT (x := B1); rfl; exact bsM; exact at_hash B1) | (apply op_call c1; exact bsD) | (exact bsO)) | apply J.seq | apply E.next | apply J.lq | apply Lq.nil | apply PRun.nil | apply J.block | apply E.in_normal | apply J.skip | (apply Lq.store; rfl; rfl; exact bsP; exact bsS; rfl; rfl) | (apply PRun.al; rfl) | (apply Lq.al; rfl; rfl; intro b) | (apply Open.cons; intro b) | apply Open.nil | (apply Lq.pass; rfl; rfl; rfl) | (apply PRun.pass; rfl; rfl) | (apply Lq.skip; rfl; rfl; rfl; exact bsB) | (apply PRun.skip; rfl; rfl; exact bsB) | (apply J.drawN; exact mixed; kernel_rfl) | (apply J.cond_t; rfl) | (apply J.cond_f; rfl) | apply J.exit | apply E.then_exit | apply E.in_exit | (apply E.in_other; rfl))
    exact E.again (i + 1) (by omega) (by omega) (Sub.same (by repeat' (first | exact trivial | refine ⟨rfl, ?_⟩)))
  · obtain rfl : i = n := by omega
    repeat (first | ((first | (apply Lq.s; rfl) | apply PRun.s | (apply Lq.run; rfl; rfl; rfl; exact bsB) | (apply PRun.run; rfl; rfl; exact bsB)); first | (apply op_call does11_fn; exact bsD) | (exact bsO)) | apply J.seq | apply E.next | apply J.lq | apply Lq.nil | apply PRun.nil | apply J.block | apply E.in_normal | apply J.skip | (apply Lq.store; rfl; rfl; exact bsP; exact bsS; rfl; rfl) | (apply PRun.al; rfl) | (apply Lq.al; rfl; rfl; intro b) | (apply Open.cons; intro b) | apply Open.nil | (apply Lq.pass; rfl; rfl; rfl) | (apply PRun.pass; rfl; rfl) | (apply Lq.skip; rfl; rfl; rfl; exact bsB) | (apply PRun.skip; rfl; rfl; exact bsB) | (apply J.drawN; exact mixed; kernel_rfl) | (apply J.cond_t; rfl) | (apply J.cond_f; rfl) | apply J.exit | apply E.then_exit | apply E.in_exit | (apply E.in_other; rfl))
    (refine J.ret ?_; (repeat (first | refine E.then_ret ?_ | refine E.in_ret ?_)))
    exact E.ret1 rfl rfl
set_option maxHeartbeats 4000000 in
theorem includeLength (x : Arr UInt8 2) (s : Nat) (_h0 : ∀ y ∈ x.1, True) (hs : s < 4294967296) : Fn Tryd.prog 8 [(arrT 2 u8T (by decide)).val x, is (.int .u32 (s : Int))] (is (.bool true)) := by
  obtain ⟨xs, hxs⟩ := x
  match xs, hxs with
  | [n0, n1], hxs =>
  have h0 := n0.toNat_lt
  have h1 := n1.toNat_lt
  obtain ⟨n, hn⟩ : ∃ n, n = 1 + n0.toNat % 64 := ⟨_, rfl⟩
  have hi : n1.toNat % n < n := Nat.mod_lt _ (by omega)
  obtain ⟨i, hi2⟩ : ∃ i, i = n1.toNat % n := ⟨_, rfl⟩
  rw [← hi2] at hi
  have hlen := someL_len n s
  have hsome := some_fn n s (by omega) hs
  generalize someL n s = l at *
  have p1 := iprove_fn l i (by omega) (by omega)
  have hpl := inc_len n l i hlen hi
  have hspn := splitN_fn n (by omega)
  have hlast : 1 < n → split n = n - 1 → i = n - 1 → inc l i = [mroot (l.take (n - 1))] := fun k1 k2 k3 => by
    rw [inc_right (by omega) (by rw [hlen]; omega), hlen, k2, inc_one (by rw [List.length_drop]; omega)]
    rfl
  have hr := root_fn (l.take (n - 1)) (by rw [List.length_take]; omega)
  generalize mroot (l.take (n - 1)) = r at *
  generalize inc l i = P at *
  have hwl : (way i (n - 1)).length ≤ 6 := way_le 6 i (n - 1) (by omega)
  refine Fn.mk' 99 Tryd.func8 rfl rfl rfl rfl fun w0 H0 => ?_
  repeat (first | ((first | (apply Lq.s; rfl) | apply PRun.s | (apply Lq.run; rfl; rfl; rfl; exact bsB) | (apply PRun.run; rfl; rfl; exact bsB)); first | (apply op_box (arrT 2 u8T (by decide)); rfl) | (apply op_paddr u8T.toTy (xs := [n0, n1]) (x := n0); rfl; rfl; decide; decide; rfl) | (apply op_paddr u8T.toTy (xs := [n0, n1]) (x := n1); rfl; rfl; decide; decide; rfl) | (apply op_load u8T; rfl) | (apply op_conv (c := (n0.toNat : Int)); rfl; (apply wrapi <;> omega)) | (apply op_conv (c := (n1.toNat : Int)); rfl; (apply wrapi <;> omega)) | (apply op_remn (m := n0.toNat) (n := 64); rfl; rfl; decide) | (apply op_remn (m := n1.toNat) (n := n); rfl; rfl; omega) | (apply op_add (c := (n : Int)); rfl; rfl; (rw [show (1 : Int) + ((n0.toNat % 64 : Nat) : Int) = (n : Int) by omega]; apply wrapi <;> omega)) | (apply op_call (d := some 26) hsome; exact bsD) | (apply op_call (p1.weak (show ∀ H vs, All2 (fun (φ : Pr) v => φ.h H v) [sl hashT.toTy l, is (.int .i64 ((n1.toNat % n : Nat) : Int))] vs → _ by rw [← hi2]; exact fun _ _ h => h)); exact bsD) | (exact bsO)) | apply J.seq | apply E.next | apply J.lq | apply Lq.nil | apply PRun.nil | apply J.block | apply E.in_normal | apply J.skip | (apply Lq.store; rfl; rfl; exact bsP; exact bsS; rfl; rfl) | (apply PRun.al; rfl) | (apply Lq.al; rfl; rfl; intro b) | (apply Open.cons; intro b) | apply Open.nil | (apply Lq.pass; rfl; rfl; rfl) | (apply PRun.pass; rfl; rfl) | (apply Lq.skip; rfl; rfl; rfl; exact bsB) | (apply PRun.skip; rfl; rfl; exact bsB) | (apply J.drawN; exact mixed; kernel_rfl) | (apply J.cond_t; rfl) | (apply J.cond_f; rfl) | apply J.exit | apply E.then_exit | apply E.in_exit | (apply E.in_other; rfl))
  rw [← hi2]
  refine J.loop (fun p : Nat × Nat × Nat => p.2.1 < p.1 ∧ p.1 ≤ n ∧ p.2.2 + (way p.2.1 (p.1 - 1)).length = (way i (n - 1)).length)
    (fun p => [(5, is (.int .i64 (n : Int))), (6, is (.int .i64 (i : Int))), (7, sl hashT.toTy l), (8, sl hashT.toTy P), (9, is (.int .i64 0)), (10, is (.int .i64 (p.2.2 : Int))), (11, is (.int .i64 (p.1 : Int))), (12, is (.int .i64 (p.2.1 : Int)))]) (fun _ => []) (fun p => p.1) (n, i, 0) ⟨hi, Nat.le_refl _, by dsimp only; omega⟩ (Sub.same (by repeat' (first | exact trivial | refine ⟨rfl, ?_⟩))) ?_
  rintro ⟨c, k, q⟩ ⟨hkc, hcn, hq⟩
  dsimp only at hkc hcn hq ⊢
  by_cases hc1 : 1 < c
  · obtain ⟨s1, s2, s3⟩ := split_lt (n := c) hc1
    have hsp := splitN_fn c (by omega)
    by_cases hks : k < split c
    · rw [wayI_left hc1 hks, List.length_append] at hq
      have hq : q + ((way k (split c - 1)).length + 1) = (way i (n - 1)).length := hq
      generalize split c = m at *
      repeat (first | ((first | (apply Lq.s; rfl) | apply PRun.s | (apply Lq.run; rfl; rfl; rfl; exact bsB) | (apply PRun.run; rfl; rfl; exact bsB)); first | (apply op_call hsp; exact bsD) | (exact bsO)) | apply J.seq | apply E.next | apply J.lq | apply Lq.nil | apply PRun.nil | apply J.block | apply E.in_normal | apply J.skip | (apply Lq.store; rfl; rfl; exact bsP; exact bsS; rfl; rfl) | (apply PRun.al; rfl) | (apply Lq.al; rfl; rfl; intro b) | (apply Open.cons; intro b) | apply Open.nil | (apply Lq.pass; rfl; rfl; rfl) | (apply PRun.pass; rfl; rfl) | (apply Lq.skip; rfl; rfl; rfl; exact bsB) | (apply PRun.skip; rfl; rfl; exact bsB) | (apply J.drawN; exact mixed; kernel_rfl) | (apply J.cond_t; rfl) | (apply J.cond_f; rfl) | apply J.exit | apply E.then_exit | apply E.in_exit | (apply E.in_other; rfl))
      exact E.again (m, k, q + 1) (by dsimp only; omega) ⟨hks, by dsimp only; omega, by dsimp only; omega⟩ (Sub.same (by repeat' (first | exact trivial | refine ⟨rfl, ?_⟩)))
    · rw [wayI_right hc1 hkc (by omega), List.length_append] at hq
      have hq : q + ((way (k - split c) (c - split c - 1)).length + 1) = (way i (n - 1)).length := hq
      generalize split c = m at *
      repeat (first | ((first | (apply Lq.s; rfl) | apply PRun.s | (apply Lq.run; rfl; rfl; rfl; exact bsB) | (apply PRun.run; rfl; rfl; exact bsB)); first | (apply op_call hsp; exact bsD) | (apply op_sub (c := ((c - m : Nat) : Int)); rfl; rfl; (rw [show (c : Int) - (m : Int) = ((c - m : Nat) : Int) by omega]; apply wrapi <;> omega)) | (apply op_sub (c := ((k - m : Nat) : Int)); rfl; rfl; (rw [show (k : Int) - (m : Int) = ((k - m : Nat) : Int) by omega]; apply wrapi <;> omega)) | (exact bsO)) | apply J.seq | apply E.next | apply J.lq | apply Lq.nil | apply PRun.nil | apply J.block | apply E.in_normal | apply J.skip | (apply Lq.store; rfl; rfl; exact bsP; exact bsS; rfl; rfl) | (apply PRun.al; rfl) | (apply Lq.al; rfl; rfl; intro b) | (apply Open.cons; intro b) | apply Open.nil | (apply Lq.pass; rfl; rfl; rfl) | (apply PRun.pass; rfl; rfl) | (apply Lq.skip; rfl; rfl; rfl; exact bsB) | (apply PRun.skip; rfl; rfl; exact bsB) | (apply J.drawN; exact mixed; kernel_rfl) | (apply J.cond_t; rfl) | (apply J.cond_f; rfl) | apply J.exit | apply E.then_exit | apply E.in_exit | (apply E.in_other; rfl))
      exact E.again (c - m, k - m, q + 1) (by dsimp only; omega) ⟨by dsimp only; omega, by dsimp only; omega, by dsimp only; omega⟩ (Sub.same (by repeat' (first | exact trivial | refine ⟨rfl, ?_⟩)))
  · rw [show c - 1 = 0 by omega, way_zero] at hq
    have hq : q + 0 = (way i (n - 1)).length := hq
    by_cases hn1 : 1 < n
    · by_cases hs1 : split n = n - 1
      · rw [hs1] at hspn
        by_cases hin : i = n - 1
        · have hP := hlast hn1 hs1 hin
          subst hP
          have hp1 : [r].length = 1 := rfl
          repeat (first | ((first | (apply Lq.s; rfl) | apply PRun.s | (apply Lq.run; rfl; rfl; rfl; exact bsB) | (apply PRun.run; rfl; rfl; exact bsB)); first | (apply op_call hspn; exact bsD) | (apply op_call hr; exact bsD) | (apply op_len (xs := [r]); rfl) | (apply op_sub (c := ((n - 1 : Nat) : Int)); rfl; rfl; (rw [show (n : Int) - 1 = ((n - 1 : Nat) : Int) by omega]; apply wrapi <;> omega)) | (apply op_iaddr hashT.toTy (x := r); rfl; rfl; decide; rfl) | (apply op_load hashT; rfl) | (apply op_ksl_hi (T := hashT.toTy) (hi := n - 1); rfl; rfl; omega) | (apply op_eqA_t (T := hashT) (m := 2) (eqd_arr eqd_u8) rfl rfl; rfl; rfl; rfl) | (apply op_call does11_fn; exact bsD) | (exact bsO)) | apply J.seq | apply E.next | apply J.lq | apply Lq.nil | apply PRun.nil | apply J.block | apply E.in_normal | apply J.skip | (apply Lq.store; rfl; rfl; exact bsP; exact bsS; rfl; rfl) | (apply PRun.al; rfl) | (apply Lq.al; rfl; rfl; intro b) | (apply Open.cons; intro b) | apply Open.nil | (apply Lq.pass; rfl; rfl; rfl) | (apply PRun.pass; rfl; rfl) | (apply Lq.skip; rfl; rfl; rfl; exact bsB) | (apply PRun.skip; rfl; rfl; exact bsB) | (apply J.drawN; exact mixed; kernel_rfl) | (apply J.cond_t; rfl) | (apply J.cond_f; rfl) | apply J.exit | apply E.then_exit | apply E.in_exit | (apply E.in_other; rfl))
          (refine J.ret ?_; (repeat (first | refine E.then_ret ?_ | refine E.in_ret ?_)))
          exact E.ret1 rfl rfl
        · repeat (first | ((first | (apply Lq.s; rfl) | apply PRun.s | (apply Lq.run; rfl; rfl; rfl; exact bsB) | (apply PRun.run; rfl; rfl; exact bsB)); first | (apply op_call hspn; exact bsD) | (apply op_len (xs := P); rfl) | (apply op_sub (c := ((n - 1 : Nat) : Int)); rfl; rfl; (rw [show (n : Int) - 1 = ((n - 1 : Nat) : Int) by omega]; apply wrapi <;> omega)) | (apply op_call does11_fn; exact bsD) | (exact bsO)) | apply J.seq | apply E.next | apply J.lq | apply Lq.nil | apply PRun.nil | apply J.block | apply E.in_normal | apply J.skip | (apply Lq.store; rfl; rfl; exact bsP; exact bsS; rfl; rfl) | (apply PRun.al; rfl) | (apply Lq.al; rfl; rfl; intro b) | (apply Open.cons; intro b) | apply Open.nil | (apply Lq.pass; rfl; rfl; rfl) | (apply PRun.pass; rfl; rfl) | (apply Lq.skip; rfl; rfl; rfl; exact bsB) | (apply PRun.skip; rfl; rfl; exact bsB) | (apply J.drawN; exact mixed; kernel_rfl) | (apply J.cond_t; rfl) | (apply J.cond_f; rfl) | apply J.exit | apply E.then_exit | apply E.in_exit | (apply E.in_other; rfl))
          (refine J.ret ?_; (repeat (first | refine E.then_ret ?_ | refine E.in_ret ?_)))
          exact E.ret1 rfl rfl
      · generalize split n = m at *
        repeat (first | ((first | (apply Lq.s; rfl) | apply PRun.s | (apply Lq.run; rfl; rfl; rfl; exact bsB) | (apply PRun.run; rfl; rfl; exact bsB)); first | (apply op_call hspn; exact bsD) | (apply op_len (xs := P); rfl) | (apply op_sub (c := ((n - 1 : Nat) : Int)); rfl; rfl; (rw [show (n : Int) - 1 = ((n - 1 : Nat) : Int) by omega]; apply wrapi <;> omega)) | (apply op_call does11_fn; exact bsD) | (exact bsO)) | apply J.seq | apply E.next | apply J.lq | apply Lq.nil | apply PRun.nil | apply J.block | apply E.in_normal | apply J.skip | (apply Lq.store; rfl; rfl; exact bsP; exact bsS; rfl; rfl) | (apply PRun.al; rfl) | (apply Lq.al; rfl; rfl; intro b) | (apply Open.cons; intro b) | apply Open.nil | (apply Lq.pass; rfl; rfl; rfl) | (apply PRun.pass; rfl; rfl) | (apply Lq.skip; rfl; rfl; rfl; exact bsB) | (apply PRun.skip; rfl; rfl; exact bsB) | (apply J.drawN; exact mixed; kernel_rfl) | (apply J.cond_t; rfl) | (apply J.cond_f; rfl) | apply J.exit | apply E.then_exit | apply E.in_exit | (apply E.in_other; rfl))
        (refine J.ret ?_; (repeat (first | refine E.then_ret ?_ | refine E.in_ret ?_)))
        exact E.ret1 rfl rfl
    · repeat (first | ((first | (apply Lq.s; rfl) | apply PRun.s | (apply Lq.run; rfl; rfl; rfl; exact bsB) | (apply PRun.run; rfl; rfl; exact bsB)); first | (apply op_len (xs := P); rfl) | (apply op_call does11_fn; exact bsD) | (exact bsO)) | apply J.seq | apply E.next | apply J.lq | apply Lq.nil | apply PRun.nil | apply J.block | apply E.in_normal | apply J.skip | (apply Lq.store; rfl; rfl; exact bsP; exact bsS; rfl; rfl) | (apply PRun.al; rfl) | (apply Lq.al; rfl; rfl; intro b) | (apply Open.cons; intro b) | apply Open.nil | (apply Lq.pass; rfl; rfl; rfl) | (apply PRun.pass; rfl; rfl) | (apply Lq.skip; rfl; rfl; rfl; exact bsB) | (apply PRun.skip; rfl; rfl; exact bsB) | (apply J.drawN; exact mixed; kernel_rfl) | (apply J.cond_t; rfl) | (apply J.cond_f; rfl) | apply J.exit | apply E.then_exit | apply E.in_exit | (apply E.in_other; rfl))
      (refine J.ret ?_; (repeat (first | refine E.then_ret ?_ | refine E.in_ret ?_)))
      exact E.ret1 rfl rfl
end Go.Proofs.YtoenogdcopajpaaDoor.L
