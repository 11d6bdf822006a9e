/-
  The examples of layer 12, and the law ConsistCheck.
-/
import Derived.Test.YtbnnobkmbkgmpaaDoorWf
import Derived.Test.YtbnnobkmbkgmpaaDoorRr
namespace Go.Proofs.YtbnnobkmbkgmpaaDoor.L
open Go Go.RowKit
set_option linter.unusedSectionVars false
variable [Globs] [Has_sha_table] [Has_sha_begin]
set_option linter.unusedVariables false
theorem cpart1 (x y z : Hash) : cpart [x, y, z] 1 true = [y, z] := by
  rw [cpart_left (by decide) (show 1 < 3 by decide) (show 1 ≤ split 3 by rw [split3]; decide), show List.length [x, y, z] = 3 from rfl, split3]
  show cpart [x, y] 1 true ++ [mroot [z]] = _
  rw [cpart_left (by decide) (show 1 < 2 by decide) (show 1 ≤ split 2 by rw [split2]; decide), show [x, y].length = 2 from rfl, split2]
  show (cpart [x] 1 true ++ [mroot [y]]) ++ [mroot [z]] = _
  rw [cpart_all (l := [x]) (m := 1) (by decide) rfl true, mroot_one, mroot_one]
  rfl
theorem cpart2 (x y z : Hash) : cpart [x, y, z] 2 true = [z] := by
  rw [cpart_left (by decide) (show 2 < 3 by decide) (show 2 ≤ split 3 by rw [split3]; decide), show List.length [x, y, z] = 3 from rfl, split3]
  show cpart [x, y] 2 true ++ [mroot [z]] = _
  rw [cpart_all (l := [x, y]) (m := 2) (by decide) rfl true, mroot_one]
  rfl
theorem cpart3 (x y z : Hash) : cpart [x, y, z] 3 true = [] := by
  rw [cpart_all (l := [x, y, z]) (m := 3) (by decide) rfl true]
  rfl
theorem nodeH_val (p q : Hash) : (nodeH p q).1 = sha ([1] ++ p.1 ++ q.1) := rfl
theorem some3c (s : Nat) : someL 3 s = [leafOf s 0, leafOf s 1, leafOf s 2] := by unfold someL; rfl
theorem ab_ne : nodeH (nodeH (leafOf 5 0) (leafOf 5 1)) (leafOf 5 2) ≠ nodeH (leafOf 5 0) (leafOf 5 1) := hash_ne (by rw [nodeH_val, nodeH_val, leafOf_val, leafOf_val, leafOf_val]; decide +kernel)

theorem okC_part {l : List Hash} {m n : Nat} {u v : Hash} (hn : l.length = n) (h1 : 1 ≤ m) (hm : m ≤ n) (hu : u = mroot (l.take m)) : okC m n u v (cpart l m true) = decide (mroot l = v) := by
  rw [okC_all h1 hm, leads_cpart n l m true u hn h1 hm (fun _ => hu)]
  dsimp only
  rw [Bool.true_and, decide_eq_decide, tup3_eq]
  exact ⟨fun h => h.2, fun h => ⟨hu.symm, h⟩⟩
structure ClaimS where
  m : Int
  n : Int
  a : Hash
  z : Hash
  pr : List Hash
def claimT : Td ClaimS where
  sz := 67
  cells r := [is (.int .i64 r.m), is (.int .i64 r.n)] ++ hashT.cells r.a ++ hashT.cells r.z ++ [sl hashT.toTy r.pr]
  len r := by simp [hashT.len]; rfl
  ag := true
  one h := by cases h
  sc x H v h _ := by cases h
  pos := by decide
theorem claim_m : Fld claimT.toTy (intT .i64).toTy ClaimS.m 0 := ⟨fun s => ⟨[], _, rfl, rfl⟩⟩
theorem claim_n : Fld claimT.toTy (intT .i64).toTy ClaimS.n 1 := ⟨fun s => ⟨[is (.int .i64 s.m)], _, rfl, rfl⟩⟩
theorem claim_a : Fld claimT.toTy hashT.toTy ClaimS.a 2 := ⟨fun s => ⟨[is (.int .i64 s.m), is (.int .i64 s.n)], hashT.cells s.z ++ [sl hashT.toTy s.pr], by simp [claimT], rfl⟩⟩
theorem claim_z : Fld claimT.toTy hashT.toTy ClaimS.z 34 := ⟨fun s => ⟨[is (.int .i64 s.m), is (.int .i64 s.n)] ++ hashT.cells s.a, [sl hashT.toTy s.pr], by simp [claimT], by simp [hashT.len]; rfl⟩⟩
theorem claim_pr : Fld claimT.toTy (slT hashT).toTy ClaimS.pr 66 := ⟨fun s => ⟨[is (.int .i64 s.m), is (.int .i64 s.n)] ++ hashT.cells s.a ++ hashT.cells s.z, [], by simp [claimT, slT], by simp [hashT.len]; rfl⟩⟩
theorem Rd.Claim {P : Program} {t ti th ts te : Nat} [TFld P t 0 0 ti] [TFld P t 1 1 ti] [TFld P t 2 2 th] [TFld P t 3 34 th] [TFld P t 4 66 ts] [TSz P t 67] [TSz P ti 1] [TInt P ti .i64] [TArr P th 32 te] [TSz P th 32] [TSz P te 1] [TInt P te .u8] [TSl P ts th] [TSz P ts 1] : Rd P t claimT fun r => I64 r.m ∧ I64 r.n ∧ r.pr.length ≤ maxLen := ⟨fun {H} enc W fuel cs d ps h => by
  have hl := Rd.lenOf (n := 67) (i := 0) (off := 0) (ft := ti) h
  obtain ⟨a, ha, h0⟩ := Rd.fld (n := 67) (i := 0) (off := 0) (ft := ti) (T := intT .i64) Rd.i64 h
  obtain ⟨b, hb, h1⟩ := Rd.fld (n := 67) (i := 1) (off := 1) (ft := ti) (T := intT .i64) Rd.i64 h
  haveI : TSz P th (32 * u8T.sz) := (inferInstance : TSz P th 32)
  haveI : TSz P te u8T.sz := (inferInstance : TSz P te 1)
  haveI : TSz P th hashT.sz := (inferInstance : TSz P th 32)
  haveI : TSz P ts (slT hashT).sz := (inferInstance : TSz P ts 1)
  obtain ⟨c, hc, h2⟩ := Rd.fld (n := 67) (i := 2) (off := 2) (ft := th) (T := hashT) Rd.hash h
  obtain ⟨r, hr, h3⟩ := Rd.fld (n := 67) (i := 3) (off := 34) (ft := th) (T := hashT) Rd.hash h
  obtain ⟨s, hs, h4⟩ := Rd.fld (n := 67) (i := 4) (off := 66) (ft := ts) (T := slT hashT) (Rd.slice Rd.hash) h
  have e : claimT.cells ⟨a, b, c, r, s⟩ = (intT .i64).cells a ++ ((intT .i64).cells b ++ (hashT.cells c ++ (hashT.cells r ++ ((slT hashT).cells s ++ [])))) := by
    simp [claimT, intT, slT]
  refine ⟨⟨a, b, c, r, s⟩, ⟨ha, hb, hs.1⟩, ?_⟩
  rw [e]
  exact fld_step (off := 0) (sz := 1) h0 (fld_step (off := 1) (sz := 1) h1 (fld_step (off := 2) (sz := 32) h2 (fld_step (off := 34) (sz := 32) h3 (fld_step (off := 66) (sz := 1) h4 (fld_end hl)))))⟩
set_option linter.unusedVariables false
set_option linter.unusedSimpArgs false
attribute [local irreducible] J Lq E OpP PRun is any agg tup ptr sl PRunW OpE
attribute [local irreducible] up2 mroot nodeH leafH emptyH shaH ownAt row someL leafOf splitZ split rv ways pairT cpart leadsR okC chkC
set_option maxHeartbeats 2000000 in
theorem does12_fn : Fn Tryd.prog 13 [] (is (.bool true)) := by
  have hne := ab_ne
  have hS := some3c 5
  generalize leafOf 5 0 = q0 at hS hne
  generalize leafOf 5 1 = q1 at hS hne
  generalize leafOf 5 2 = q2 at hS hne
  have p1 := (cprove_fn [q0, q1, q2] 1 (show 3 ≤ 90000 by decide) (by decide) (show 1 ≤ 3 by decide)).to (by rw [cpart1])
  have p2 := (cprove_fn [q0, q1, q2] 2 (show 3 ≤ 90000 by decide) (by decide) (show 2 ≤ 3 by decide)).to (by rw [cpart2])
  have p3 := (cprove_fn [q0, q1, q2] 3 (show 3 ≤ 90000 by decide) (by decide) (show 3 ≤ 3 by decide)).to (by rw [cpart3])
  have p0 := cprove_bad [q0, q1, q2] 0 (show 3 ≤ 100000 by decide) (.inl (by decide))
  have hroot := (root_fn [q0, q1, q2] (show 3 ≤ 100000 by decide)).to (by rw [mroot3])
  have hm2 : mroot ([q0, q1, q2].take 2) = nodeH q0 q1 := mroot2 q0 q1
  have hm3 := mroot3 q0 q1 q2
  generalize hab : nodeH q0 q1 = ab at *
  generalize hr : nodeH ab q2 = r at *
  have k1 : okC 2 3 ab r [q2] = true := by
    rw [← cpart2 q0 q1 q2, okC_part (n := 3) rfl (by decide) (by decide) hm2.symm]
    exact decide_eq_true hm3
  have k4 : okC 2 3 ab ab [q2] = false := by
    rw [← cpart2 q0 q1 q2, okC_part (n := 3) rfl (by decide) (by decide) hm2.symm]
    exact decide_eq_false (by rw [hm3]; exact hne)
  have k2 : okC 3 3 r r [] = true := by unfold okC; simp
  have c1 : chkC 2 3 ab r [q2] = 0 := by rw [show chkC 2 3 ab r [q2] = _ from chkC_ok (m := 2) (n := 3) (by decide) (by decide) ab r [q2], if_pos k1]
  have c4 : chkC 2 3 ab ab [q2] = 110 := by rw [show chkC 2 3 ab ab [q2] = _ from chkC_ok (m := 2) (n := 3) (by decide) (by decide) ab ab [q2], if_neg (by rw [k4]; decide)]
  have c2 : chkC 3 3 r r [] = 0 := by rw [show chkC 3 3 r r [] = _ from chkC_ok (m := 3) (n := 3) (by decide) (by decide) r r [], if_pos k2]
  have c3 : chkC 3 2 r ab [] = 2 := chkC_bad (by decide) _ _ _
  have f1 := (check_fn 2 3 ab r [q2] (by decide) (show 1 ≤ 80000 by decide)).to (by rw [c1])
  have f4 := (check_fn 2 3 ab ab [q2] (by decide) (show 1 ≤ 80000 by decide)).to (by rw [c4])
  have f2 := ((check_fn 3 3 r r [] (by decide) (show 0 ≤ 80000 by decide)).to (by rw [c2])).weak (weakLast sl_of_nil [_, _, _, _])
  have f3 := ((check_fn 3 2 r ab [] (by decide) (show 0 ≤ 80000 by decide)).to (by rw [c3])).weak (weakLast sl_of_nil [_, _, _, _])
  refine Fn.mk' 99 Tryd.func13 rfl rfl rfl rfl fun w0 H0 => ?_
  repeat (first | ((first | (apply Lq.s; rfl) | apply PRun.s | (apply Lq.run; rfl; rfl; rfl; exact bsB) | (apply PRun.run; rfl; rfl; exact bsB)); first | (apply op_call ((some_fn 3 5 (by decide) (by decide)).to (show _ = sl hashT.toTy [q0, q1, q2] by rw [hS])); exact bsD) | (apply op_call p1; exact bsD) | (apply op_call p2; exact bsD) | (apply op_call p3; exact bsD) | (apply op_call p0; exact bsD) | (exact bsO)) | apply J.seq | apply E.next | apply J.lq | apply Lq.nil | apply PRun.nil | apply J.block | apply E.in_normal | apply J.skip | (apply Lq.store; rfl; rfl; exact bsP; exact bsS; rfl; rfl) | (apply PRun.al; rfl) | (apply Lq.al; rfl; rfl; intro b) | (apply Open.cons; intro b) | apply Open.nil | (apply Lq.pass; rfl; rfl; rfl) | (apply PRun.pass; rfl; rfl) | (apply Lq.skip; rfl; rfl; rfl; exact bsB) | (apply PRun.skip; rfl; rfl; exact bsB) | (apply J.cond_t; rfl) | (apply J.cond_f; rfl) | apply J.exit | apply E.then_exit | apply E.in_exit | (apply E.in_other; rfl))
  refine J.drawW 11 [(none, none), (none, none), (none, none), (none, none), (none, none), (none, none), (none, none), (none, none), (none, none), (none, some 10), (none, some 11)] mixed (by kernel_rfl) ?_
  repeat (first | ((first | apply PRunW.s | (apply PRunW.run; rfl; rfl; exact bsB) | (apply Lq.s; rfl) | apply PRun.s | (apply Lq.run; rfl; rfl; rfl; exact bsB) | (apply PRun.run; rfl; rfl; exact bsB)); first | (apply op_call hroot; exact bsD) | (apply op_iaddr hashT.toTy (x := q0); rfl; rfl; decide; rfl) | (apply op_iaddr hashT.toTy (x := q1); rfl; rfl; decide; rfl) | (apply op_load hashT; rfl) | (apply op_call ((nodeH_fn q0 q1).to (by rw [hab])); exact bsD) | (exact bsO)) | apply J.seq | apply E.next | apply J.lq | apply Lq.nil | apply PRun.nil | apply J.block | apply E.in_normal | apply J.skip | (apply Lq.store; rfl; rfl; exact bsP; exact bsS; rfl; rfl) | (apply PRun.al; rfl) | (apply Lq.al; rfl; rfl; intro b) | (apply Open.cons; intro b) | apply Open.nil | (apply Lq.pass; rfl; rfl; rfl) | (apply PRun.pass; rfl; rfl) | (apply Lq.skip; rfl; rfl; rfl; exact bsB) | (apply PRun.skip; rfl; rfl; exact bsB) | (apply J.cond_t; rfl) | (apply J.cond_f; rfl) | apply J.exit | apply E.then_exit | apply E.in_exit | (apply E.in_other; rfl) | apply PRunW.nil | (apply PRunW.al; rfl) | (apply PRunW.pass; rfl; rfl) | (apply PRunW.skip; rfl; rfl; exact bsB) | (apply Open.pv; intro b) | apply Open.av | (apply Open.rv; intro A c))
  rename_i b1
  revert b
  intro b0
  (apply Lq.storeE (φs' := hashT.cells r); rfl; rfl; exact List.Perm.refl _; exact Seg.val _ _; exact hashT.len _; exact Nat.le_refl 32; exact splice_all (by rw [hashT.len]; rfl))
  (apply Lq.storeE (φs' := hashT.cells ab); rfl; rfl; exact List.Perm.swap _ _ _; exact Seg.val _ _; exact hashT.len _; exact Nat.le_refl 32; exact splice_all (by rw [hashT.len]; rfl))
  repeat (first | ((first | (apply Lq.s; rfl) | apply PRun.s | (apply Lq.run; rfl; rfl; rfl; exact bsB) | (apply PRun.run; rfl; rfl; exact bsB)); first | (apply op_ksl_lo (T := hashT.toTy) (lo := 1); rfl; rfl; (show 1 ≤ 3; decide)) | (apply op_ksl_lo (T := hashT.toTy) (lo := 2); rfl; rfl; (show 2 ≤ 3; decide)) | (apply op_call (same_fn [q1, q2] (show 2 ≤ 1000000 by decide)); exact bsD) | (apply op_call (same_fn [q2] (show 1 ≤ 1000000 by decide)); exact bsD) | (apply op_oload hashT (x := r); rfl; exact bsM; exact at_hash r) | (apply op_oload hashT (x := ab); rfl; exact bsM; exact at_hash ab) | (apply op_call f1; exact bsD) | (apply op_call f2; exact bsD) | (apply op_call f3; exact bsD) | (apply op_call f4; exact bsD) | (exact bsO)) | apply J.seq | apply E.next | apply J.lq | apply Lq.nil | apply PRun.nil | apply J.block | apply E.in_normal | apply J.skip | (apply Lq.store; rfl; rfl; exact bsP; exact bsS; rfl; rfl) | (apply PRun.al; rfl) | (apply Lq.al; rfl; rfl; intro b) | (apply Open.cons; intro b) | apply Open.nil | (apply Lq.pass; rfl; rfl; rfl) | (apply PRun.pass; rfl; rfl) | (apply Lq.skip; rfl; rfl; rfl; exact bsB) | (apply PRun.skip; rfl; rfl; exact bsB) | (apply J.cond_t; rfl) | (apply J.cond_f; rfl) | apply J.exit | apply E.then_exit | apply E.in_exit | (apply E.in_other; rfl))
  (refine J.ret ?_; (repeat (first | refine E.then_ret ?_ | refine E.in_ret ?_)))
  exact E.ret1 rfl rfl
set_option maxHeartbeats 2000000 in
theorem consistCheck [Has_ref02_k] (x : ClaimS) (hx : I64 x.m ∧ I64 x.n ∧ x.pr.length ≤ maxLen) : Fn Tryd.prog 4 [claimT.val x] (is (.bool true)) := by
  obtain ⟨h1, h2, h3⟩ := hx
  obtain ⟨h4, h5⟩ := h2
  by_cases hbig : 150 < x.pr.length
  · refine Fn.mk' 33 Tryd.func4 rfl rfl rfl rfl fun w0 H0 => ?_
    repeat (first | ((first | (apply Lq.s; rfl) | apply PRun.s | (apply Lq.run; rfl; rfl; rfl; exact bsB) | (apply PRun.run; rfl; rfl; exact bsB)); first | (apply op_box claimT; rfl) | (apply op_faddr claim_pr; rfl; decide) | (apply op_load (slT hashT); rfl) | (apply op_len (xs := x.pr); rfl) | (exact bsO)) | apply J.seq | apply E.next | apply J.lq | apply Lq.nil | apply PRun.nil | apply J.block | apply E.in_normal | apply J.skip | (apply Lq.store; rfl; rfl; exact bsP; exact bsS; rfl; rfl) | (apply PRun.al; rfl) | (apply Lq.al; rfl; rfl; intro b) | (apply Open.cons; intro b) | apply Open.nil | (apply Lq.pass; rfl; rfl; rfl) | (apply PRun.pass; rfl; rfl) | (apply Lq.skip; rfl; rfl; rfl; exact bsB) | (apply PRun.skip; rfl; rfl; exact bsB) | (apply J.drawN; exact mixed; kernel_rfl) | (apply J.cond_t; rfl) | (apply J.cond_f; rfl) | apply J.exit | apply E.then_exit | apply E.in_exit | (apply E.in_other; rfl))
    (refine J.ret ?_; (repeat (first | refine E.then_ret ?_ | refine E.in_ret ?_)))
    exact E.ret1 rfl rfl
  · have k1 := check_fn x.m x.n x.a x.z x.pr h5 (by omega)
    have k2 := refcheck_fn x.m x.n x.a x.z x.pr h5 (by omega)
    refine Fn.mk' 33 Tryd.func4 rfl rfl rfl rfl fun w0 H0 => ?_
    repeat (first | ((first | (apply Lq.s; rfl) | apply PRun.s | (apply Lq.run; rfl; rfl; rfl; exact bsB) | (apply PRun.run; rfl; rfl; exact bsB)); first | (apply op_box claimT; rfl) | (apply op_faddr claim_m; rfl; decide) | (apply op_faddr claim_n; rfl; decide) | (apply op_faddr claim_a; rfl; decide) | (apply op_faddr claim_z; rfl; decide) | (apply op_faddr claim_pr; rfl; decide) | (apply op_load (slT hashT); rfl) | (apply op_load hashT; rfl) | (apply op_len (xs := x.pr); rfl) | (exact bsO)) | apply J.seq | apply E.next | apply J.lq | apply Lq.nil | apply PRun.nil | apply J.block | apply E.in_normal | apply J.skip | (apply Lq.store; rfl; rfl; exact bsP; exact bsS; rfl; rfl) | (apply PRun.al; rfl) | (apply Lq.al; rfl; rfl; intro b) | (apply Open.cons; intro b) | apply Open.nil | (apply Lq.pass; rfl; rfl; rfl) | (apply PRun.pass; rfl; rfl) | (apply Lq.skip; rfl; rfl; rfl; exact bsB) | (apply PRun.skip; rfl; rfl; exact bsB) | (apply J.cond_t; rfl) | (apply J.cond_f; rfl) | apply J.exit | apply E.then_exit | apply E.in_exit | (apply E.in_other; rfl))
    refine J.drawW 22 [(none, none), (none, none), (none, none), (none, none), (none, none), (none, none), (none, none), (none, none), (none, none), (none, none), (none, none), (none, none), (none, none), (none, none), (none, none), (none, none), (none, none), (none, none), (none, none), (none, none), (none, none), (none, none)] mixed (by kernel_rfl) ?_
    repeat (first | ((first | apply PRunW.s | (apply PRunW.run; rfl; rfl; exact bsB) | (apply Lq.s; rfl) | apply PRun.s | (apply Lq.run; rfl; rfl; rfl; exact bsB) | (apply PRun.run; rfl; rfl; exact bsB)); first | (apply op_box claimT; rfl) | (apply op_faddr claim_m; rfl; decide) | (apply op_faddr claim_n; rfl; decide) | (apply op_faddr claim_a; rfl; decide) | (apply op_faddr claim_z; rfl; decide) | (apply op_faddr claim_pr; rfl; decide) | (apply op_load (slT hashT); rfl) | (apply op_load hashT; rfl) | (apply op_len (xs := x.pr); rfl) | (apply op_call k1; exact bsD) | (apply op_call k2; exact bsD) | (apply op_eql_t; rfl; rfl; rfl) | (apply op_call does12_fn; exact bsD) | (exact bsO)) | apply J.seq | apply E.next | apply J.lq | apply Lq.nil | apply PRun.nil | apply J.block | apply E.in_normal | apply J.skip | (apply Lq.store; rfl; rfl; exact bsP; exact bsS; rfl; rfl) | (apply PRun.al; rfl) | (apply Lq.al; rfl; rfl; intro b) | (apply Open.cons; intro b) | apply Open.nil | (apply Lq.pass; rfl; rfl; rfl) | (apply PRun.pass; rfl; rfl) | (apply Lq.skip; rfl; rfl; rfl; exact bsB) | (apply PRun.skip; rfl; rfl; exact bsB) | (apply J.cond_t; rfl) | (apply J.cond_f; rfl) | apply J.exit | apply E.then_exit | apply E.in_exit | (apply E.in_other; rfl) | apply PRunW.nil | (apply PRunW.al; rfl) | (apply PRunW.pass; rfl; rfl) | (apply PRunW.skip; rfl; rfl; exact bsB) | (apply Open.pv; intro b) | apply Open.av | (apply Open.rv; intro A c))
    (refine J.ret ?_; (repeat (first | refine E.then_ret ?_ | refine E.in_ret ?_)))
    exact E.ret1 rfl rfl
end Go.Proofs.YtbnnobkmbkgmpaaDoor.L
