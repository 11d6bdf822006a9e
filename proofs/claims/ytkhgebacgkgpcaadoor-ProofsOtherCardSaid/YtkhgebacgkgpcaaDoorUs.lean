/-
  The law ProofsCheck.
-/
import Derived.Test.YtkhgebacgkgpcaaDoorUq
import Derived.Test.YtkhgebacgkgpcaaDoorWl
namespace Go.Proofs.YtkhgebacgkgpcaaDoor.L
open Go
set_option linter.unusedSectionVars false
variable [Globs] [Has_sha_table] [Has_sha_begin]
set_option linter.unusedVariables false
section
variable {P : Program} {Γ : Env} {Δ : List Res} {d : Option Nat} {ty t yt : Nat} {pos : String} {af : Array Edge} {g : Option (Nat × Bool)} {x y : Operand}
theorem op_xor8 {a c v : Int} (h1 : opd Γ x = some (is (.int .u8 a))) (h2 : opd Γ y = some (is (.int .u8 c))) (hv : IntKind.u8.wrap ((BitVec.ofInt 8 a ^^^ BitVec.ofInt 8 c).toNat : Int) = v) : OpP P Γ Δ ⟨d, .binOp .xor t x y yt, ty, pos, af, g⟩ (is (.int .u8 v)) :=
  op_int h1 h2 fun w => by
    simp only [binOp, ne_eq, not_true_eq_false, if_false, Op.intBits]
    show Result.ok (Value.int .u8 (IntKind.u8.wrap ((BitVec.ofInt 8 a ^^^ BitVec.ofInt 8 c).toNat : Int))) w = _
    rw [hv]
end
theorem xor1_nat : ∀ n < 256, IntKind.u8.wrap ((BitVec.ofInt 8 ((n : Nat) : Int) ^^^ BitVec.ofInt 8 1).toNat : Int) = ((n ^^^ 1 : Nat) : Int) ∧ n ^^^ 1 ≠ n := by decide +kernel
theorem xor1_is (a : UInt8) : IntKind.u8.wrap ((BitVec.ofInt 8 (a.toNat : Int) ^^^ BitVec.ofInt 8 1).toNat : Int) = ((a ^^^ 1).toNat : Int) := by
  rw [(xor1_nat a.toNat a.toNat_lt).1, UInt8.toNat_xor]; rfl
theorem xor1_ne (a : UInt8) : a ^^^ 1 ≠ a := fun h => (xor1_nat a.toNat a.toNat_lt).2 (by have := congrArg UInt8.toNat h; rwa [UInt8.toNat_xor] at this)
def setH (h : Hash) (j : Nat) (v : UInt8) : Hash := ⟨h.1.set j v, by rw [List.length_set]; exact h.2⟩
theorem setH_ne {h : Hash} {j : Nat} {u v : UInt8} (hu : h.1[j]? = some u) (hne : v ≠ u) : setH h j v ≠ h := fun e => by
  have h1 : (setH h j v).1[j]? = some v := by
    show (h.1.set j v)[j]? = some v
    rw [List.getElem?_set_self (List.getElem?_eq_some_iff.1 hu).1]
  rw [e, hu] at h1
  injection h1 with h1
  exact hne h1.symm
theorem at_u8 {h : Hash} {j : Nat} {u : UInt8} (hu : h.1[j]? = some u) : ((hashT.cells h).drop (0 + j * 1)).take 1 = u8T.cells u := by
  have := at_row u8T.toTy (pre := []) (post := []) (xs := h.1) (o := 0) (k := j) (v := u) rfl hu
  rw [List.append_nil] at this
  exact this
theorem st_u8 {h : Hash} {j : Nat} (hj : j < 32) (v : UInt8) : splice (hashT.cells h) (0 + j * 1) [is (.int .u8 (v.toNat : Int))] = hashT.cells (setH h j v) := by
  have := set_row u8T.toTy (pre := []) (post := []) (xs := h.1) (o := 0) (k := j) (v := v) rfl (by rw [h.2]; exact hj)
  rw [List.append_nil, List.append_nil] at this
  exact this
theorem okC_prt {l : List Hash} {m n : Nat} {u v : Hash} (hn : l.length = n) (h1 : 1 ≤ m) (hm : m ≤ n) (hu : u = mroot (l.take m)) : okC m n u v (cpart l m true) = decide (mroot l = v) := by
  rw [okC_all h1 hm, leads_cpart n l m true u hn h1 hm (fun _ => hu)]
  dsimp only
  rw [Bool.true_and, decide_eq_decide, tup3_eq]
  exact ⟨fun h => h.2, fun h => ⟨hu.symm, h⟩⟩
theorem okI_one (x r : Hash) (pr : List Hash) : okI 0 1 x pr r = (decide (pr.length = 0) && decide (x = r)) := by
  unfold okI
  rw [show 1 - 1 = 0 from rfl, way_zero]
  rfl
set_option linter.unusedVariables false
set_option linter.unusedSimpArgs false
attribute [local irreducible] J Lq E OpP PRun is any agg tup ptr sl PRunW OpE
attribute [local irreducible] up2 mroot nodeH leafH emptyH shaH ownAt row someL leafOf splitZ split rv join2 edge rootE frV inc cpart lvs okI okC chkI chkC setH
set_option maxRecDepth 100000 in
set_option maxHeartbeats 4000000 in
theorem proofsCheck (s : StreamS) (x : Arr UInt8 3) (hx : StreamOk s) (_h0 : ∀ y ∈ x.1, True) : Fn Tryd.prog 5 [streamT.val s, (arrT 3 u8T (by decide)).val x] (is (.bool true)) := by
  obtain ⟨xs, hxs⟩ := x
  match xs, hxs with
  | [n0, n1, n2], hxs =>
  have b0 := n0.toNat_lt
  have b1 := n1.toNat_lt
  have b2 := n2.toNat_lt
  have hm := hx.2.2.2
  unfold maxLen at hm
  by_cases hbig : 80 < s.recs.length
  · refine Fn.mk' 153 Tryd.func5 rfl rfl rfl rfl fun w0 H0 => ?_
    repeat (first | ((first | (apply Lq.s; rfl) | apply PRun.s | (apply Lq.run; rfl; rfl; rfl; exact bsB) | (apply PRun.run; rfl; rfl; exact bsB)); first | (apply op_box streamT; rfl) | (apply op_faddr stream_recs; rfl; decide) | (apply op_load (slT recT); rfl) | (apply op_load streamT; rfl) | (apply op_len (xs := s.recs); rfl) | (apply op_box (arrT 3 u8T (by decide)); rfl) | (apply op_call lives_fn; exact bsD) | (exact bsO)) | apply J.seq | apply E.next | apply J.lq | apply Lq.nil | apply PRun.nil | apply J.block | apply E.in_normal | apply J.skip | (apply Lq.store; rfl; rfl; exact bsP; exact bsS; rfl; rfl) | (apply PRun.al; rfl) | (apply Lq.al; rfl; rfl; intro b) | (apply Open.cons; intro b) | apply Open.nil | (apply Lq.pass; rfl; rfl; rfl) | (apply PRun.pass; rfl; rfl) | (apply Lq.skip; rfl; rfl; rfl; exact bsB) | (apply PRun.skip; rfl; rfl; exact bsB) | (apply J.cond_t; rfl) | (apply J.cond_f; rfl) | apply J.exit | apply E.then_exit | apply E.in_exit | (apply E.in_other; rfl))
    (refine J.ret ?_; (repeat (first | refine E.then_ret ?_ | refine E.in_ret ?_)))
    exact E.ret1 rfl rfl
  by_cases hz : s.recs.length = 0
  · refine Fn.mk' 153 Tryd.func5 rfl rfl rfl rfl fun w0 H0 => ?_
    repeat (first | ((first | (apply Lq.s; rfl) | apply PRun.s | (apply Lq.run; rfl; rfl; rfl; exact bsB) | (apply PRun.run; rfl; rfl; exact bsB)); first | (apply op_box streamT; rfl) | (apply op_faddr stream_recs; rfl; decide) | (apply op_load (slT recT); rfl) | (apply op_load streamT; rfl) | (apply op_len (xs := s.recs); rfl) | (apply op_box (arrT 3 u8T (by decide)); rfl) | (apply op_call lives_fn; exact bsD) | (exact bsO)) | apply J.seq | apply E.next | apply J.lq | apply Lq.nil | apply PRun.nil | apply J.block | apply E.in_normal | apply J.skip | (apply Lq.store; rfl; rfl; exact bsP; exact bsS; rfl; rfl) | (apply PRun.al; rfl) | (apply Lq.al; rfl; rfl; intro b) | (apply Open.cons; intro b) | apply Open.nil | (apply Lq.pass; rfl; rfl; rfl) | (apply PRun.pass; rfl; rfl) | (apply Lq.skip; rfl; rfl; rfl; exact bsB) | (apply PRun.skip; rfl; rfl; exact bsB) | (apply J.cond_t; rfl) | (apply J.cond_f; rfl) | apply J.exit | apply E.then_exit | apply E.in_exit | (apply E.in_other; rfl))
    (refine J.ret ?_; (repeat (first | refine E.then_ret ?_ | refine E.in_ret ?_)))
    exact E.ret1 rfl rfl
  have hll := lvs_len s
  obtain ⟨n, hn⟩ : ∃ n, n = 1 + n0.toNat % s.recs.length := ⟨_, rfl⟩
  have m0 : n0.toNat % s.recs.length < s.recs.length := Nat.mod_lt _ (by omega)
  obtain ⟨i, hi⟩ : ∃ i, i = n1.toNat % n := ⟨_, rfl⟩
  have m1 : n1.toNat % n < n := Nat.mod_lt _ (by omega)
  obtain ⟨m, hmm⟩ : ∃ m, m = 1 + n2.toNat % n := ⟨_, rfl⟩
  have m2 : n2.toNat % n < n := Nat.mod_lt _ (by omega)
  obtain ⟨r, hr⟩ : ∃ r, s.recs[i]? = some r := ⟨_, List.getElem?_eq_getElem (by omega)⟩
  have R1 := proot_ok s n (by omega) (by omega)
  have R2 := proot_ok s m (by omega) (by omega)
  have I1 := pinc_ok s i n (by omega) (by omega) (by omega)
  have C1 := pcon_ok s m n (by omega) (by omega) (by omega) (by omega)
  have htl : ((lvs s).take n).length = n := by rw [List.length_take]; omega
  have htt : ((lvs s).take n).take m = (lvs s).take m := by rw [List.take_take, Nat.min_eq_left (by omega)]
  have hat : ((lvs s).take n)[i]? = some r.hash := by rw [List.getElem?_take, if_pos (by omega)]; exact lvs_at hr
  rw [← htt] at R2
  generalize (lvs s).take n = L at *
  obtain ⟨leaf, hleaf⟩ : ∃ leaf, leaf = r.hash := ⟨_, rfl⟩
  rw [← hleaf] at hat
  obtain ⟨u0, hu0⟩ : ∃ u, leaf.1[0]? = some u := ⟨_, List.getElem?_eq_getElem (by rw [leaf.2]; decide)⟩
  have hil := inc_len n L i htl (by omega)
  have hwl := way_le 7 i (n - 1) (by omega)
  have hcl := cpart_len n L m true htl (by omega) (by omega)
  have kI := fun v => okI_inc (r := v) htl hat
  have kC := fun v => okC_prt (v := v) htl (by omega) (show m ≤ n by omega) (rfl : mroot (L.take m) = mroot (L.take m))
  have kO : ∀ o, o ≠ leaf → okI i n o (inc L i) (mroot L) = true → 1 < n := fun o ho hk => by
    by_cases h1 : n = 1
    · have hi0 : i = 0 := by omega
      subst h1; subst hi0
      rw [okI_one] at hk
      have hL : L = [leaf] := by
        match L, htl, hat with
        | [a], _, hat => injection hat with hat; rw [hat]
      rw [hL, mroot_one] at hk
      rw [decide_eq_false ho, Bool.and_false] at hk
      cases hk
    · omega
  generalize inc L i = p at *
  generalize cpart L m true = q at *
  generalize mroot (L.take m) = old at *
  generalize mroot L = root at *
  obtain ⟨u1, hu1⟩ : ∃ u, root.1[31]? = some u := ⟨_, List.getElem?_eq_getElem (by rw [root.2]; decide)⟩
  have hw := setH_ne hu1 (xor1_ne u1)
  have ho := setH_ne hu0 (xor1_ne u0)
  have c1 := (icheck_fn leaf (i : Int) (n : Int) p root (by omega) (by omega)).to (by rw [chkI_ok (by omega), kI root, if_pos (decide_eq_true rfl)])
  have c2 := (icheck_fn leaf (i : Int) (n : Int) p (setH root 31 (u1 ^^^ 1)) (by omega) (by omega)).to (by rw [chkI_ok (by omega), kI _, if_neg (by rw [decide_eq_false (Ne.symm hw)]; decide)])
  have c3 := (check_fn (m : Int) (n : Int) old root q (by omega) (by omega)).to (by rw [chkC_ok (by omega) (by omega), kC root, if_pos (decide_eq_true rfl)])
  have c4 := (check_fn (m : Int) (n : Int) old (setH root 31 (u1 ^^^ 1)) q (by omega) (by omega)).to (by rw [chkC_ok (by omega) (by omega), kC _, if_neg (by rw [decide_eq_false (Ne.symm hw)]; decide)])
  obtain ⟨c, c5, hc⟩ : ∃ c : Int, Fn Tryd.prog 16 [hashT.val (setH leaf 0 (u0 ^^^ 1)), is (.int .i64 (i : Int)), is (.int .i64 (n : Int)), sl hashT.toTy p, hashT.val root] (is (.int .i64 c)) ∧ (c = 110 ∨ 1 < n) := by
    refine ⟨_, icheck_fn (setH leaf 0 (u0 ^^^ 1)) (i : Int) (n : Int) p root (by omega) (by omega), ?_⟩
    rw [chkI_ok (by omega)]
    by_cases hk : okI i n (setH leaf 0 (u0 ^^^ 1)) p root = true
    · exact .inr (kO _ ho hk)
    · rw [if_neg hk]; exact .inl rfl
  clear kO kI kC
  refine Fn.mk' 153 Tryd.func5 rfl rfl rfl rfl fun w0 H0 => ?_
  repeat (first | ((first | (apply Lq.s; rfl) | apply PRun.s | (apply Lq.run; rfl; rfl; rfl; exact bsB) | (apply PRun.run; rfl; rfl; exact bsB)); first | (apply op_box streamT; rfl) | (apply op_faddr stream_recs; rfl; decide) | (apply op_load (slT recT); rfl) | (apply op_load streamT; rfl) | (apply op_len (xs := s.recs); rfl) | (apply op_box (arrT 3 u8T (by decide)); rfl) | (apply op_paddr u8T.toTy (xs := [n0, n1, n2]) (x := n0); rfl; rfl; decide; decide; rfl) | (apply op_paddr u8T.toTy (xs := [n0, n1, n2]) (x := n1); rfl; rfl; decide; decide; rfl) | (apply op_paddr u8T.toTy (xs := [n0, n1, n2]) (x := n2); rfl; rfl; decide; decide; rfl) | (apply op_load u8T; rfl) | (apply op_conv (c := (n0.toNat : Int)); rfl; (apply wrapi <;> omega)) | (apply op_conv (c := (n1.toNat : Int)); rfl; (apply wrapi <;> omega)) | (apply op_conv (c := (n2.toNat : Int)); rfl; (apply wrapi <;> omega)) | (apply op_remn (m := n0.toNat) (n := s.recs.length); rfl; rfl; omega) | (apply op_remn (m := n1.toNat) (n := n); rfl; rfl; omega) | (apply op_remn (m := n2.toNat) (n := n); rfl; rfl; omega) | (apply op_add (c := (n : Int)); rfl; rfl; (rw [show (1 : Int) + ((n0.toNat % s.recs.length : Nat) : Int) = (n : Int) by omega]; apply wrapi <;> omega)) | (apply op_add (c := (m : Int)); rfl; rfl; (rw [show (1 : Int) + ((n2.toNat % n : Nat) : Int) = (m : Int) by omega]; apply wrapi <;> omega)) | (apply op_call R1; exact bsD) | (exact bsO)) | apply J.seq | apply E.next | apply J.lq | apply Lq.nil | apply PRun.nil | apply J.block | apply E.in_normal | apply J.skip | (apply Lq.store; rfl; rfl; exact bsP; exact bsS; rfl; rfl) | (apply PRun.al; rfl) | (apply Lq.al; rfl; rfl; intro b) | (apply Open.cons; intro b) | apply Open.nil | (apply Lq.pass; rfl; rfl; rfl) | (apply PRun.pass; rfl; rfl) | (apply Lq.skip; rfl; rfl; rfl; exact bsB) | (apply PRun.skip; rfl; rfl; exact bsB) | (apply J.cond_t; rfl) | (apply J.cond_f; rfl) | apply J.exit | apply E.then_exit | apply E.in_exit | (apply E.in_other; rfl))
  (apply Lq.storeE (φs' := hashT.cells root); rfl; rfl; exact List.Perm.refl _; exact Seg.val _ _; exact hashT.len _; exact Nat.le_refl 32; exact splice_all (by rw [hashT.len]; rfl))
  rw [← hi]
  repeat (first | ((first | (apply Lq.s; rfl) | apply PRun.s | (apply Lq.run; rfl; rfl; rfl; exact bsB) | (apply PRun.run; rfl; rfl; exact bsB)); first | (apply op_box streamT; rfl) | (apply op_faddr stream_recs; rfl; decide) | (apply op_load (slT recT); rfl) | (apply op_load streamT; rfl) | (apply op_len (xs := s.recs); rfl) | (apply op_call R2; exact bsD) | (exact bsO)) | apply J.seq | apply E.next | apply J.lq | apply Lq.nil | apply PRun.nil | apply J.block | apply E.in_normal | apply J.skip | (apply Lq.store; rfl; rfl; exact bsP; exact bsS; rfl; rfl) | (apply PRun.al; rfl) | (apply Lq.al; rfl; rfl; intro b) | (apply Open.cons; intro b) | apply Open.nil | (apply Lq.pass; rfl; rfl; rfl) | (apply PRun.pass; rfl; rfl) | (apply Lq.skip; rfl; rfl; rfl; exact bsB) | (apply PRun.skip; rfl; rfl; exact bsB) | (apply J.cond_t; rfl) | (apply J.cond_f; rfl) | apply J.exit | apply E.then_exit | apply E.in_exit | (apply E.in_other; rfl))
  (apply Lq.storeE (φs' := hashT.cells old); rfl; rfl; exact List.Perm.refl _; exact Seg.val _ _; exact hashT.len _; exact Nat.le_refl 32; exact splice_all (by rw [hashT.len]; rfl))
  repeat (first | ((first | (apply Lq.s; rfl) | apply PRun.s | (apply Lq.run; rfl; rfl; rfl; exact bsB) | (apply PRun.run; rfl; rfl; exact bsB)); first | (apply op_box streamT; rfl) | (apply op_faddr stream_recs; rfl; decide) | (apply op_load (slT recT); rfl) | (apply op_load streamT; rfl) | (apply op_len (xs := s.recs); rfl) | (apply op_call I1; exact bsD) | (apply op_call C1; exact bsD) | (apply op_iaddr recT.toTy (x := r); rfl; rfl; exact Int.natCast_nonneg _; (rw [Int.toNat_natCast]; exact hr)) | (apply op_faddr rec_hash; rfl; decide) | (apply op_load hashT; rfl) | (exact bsO)) | apply J.seq | apply E.next | apply J.lq | apply Lq.nil | apply PRun.nil | apply J.block | apply E.in_normal | apply J.skip | (apply Lq.store; rfl; rfl; exact bsP; exact bsS; rfl; rfl) | (apply PRun.al; rfl) | (apply Lq.al; rfl; rfl; intro b) | (apply Open.cons; intro b) | apply Open.nil | (apply Lq.pass; rfl; rfl; rfl) | (apply PRun.pass; rfl; rfl) | (apply Lq.skip; rfl; rfl; rfl; exact bsB) | (apply PRun.skip; rfl; rfl; exact bsB) | (apply J.cond_t; rfl) | (apply J.cond_f; rfl) | apply J.exit | apply E.then_exit | apply E.in_exit | (apply E.in_other; rfl))
  rw [← hleaf]
  (apply Lq.storeE (φs' := hashT.cells leaf); rfl; rfl; exact List.Perm.refl _; exact Seg.val _ _; exact hashT.len _; exact Nat.le_refl 32; exact splice_all (by rw [hashT.len]; rfl))
  repeat (first | ((first | (apply Lq.s; rfl) | apply PRun.s | (apply Lq.run; rfl; rfl; rfl; exact bsB) | (apply PRun.run; rfl; rfl; exact bsB)); first | (apply op_oload hashT (x := root); rfl; exact bsM; exact at_hash root) | (apply op_oload hashT (x := old); rfl; exact bsM; exact at_hash old) | (apply op_oload hashT (x := leaf); rfl; exact bsM; exact at_hash leaf) | (apply op_oload hashT (x := setH leaf 0 (u0 ^^^ 1)); rfl; exact bsM; exact at_hash (setH leaf 0 (u0 ^^^ 1))) | (apply op_oload hashT (x := setH root 31 (u1 ^^^ 1)); rfl; exact bsM; exact at_hash (setH root 31 (u1 ^^^ 1))) | (exact bsO)) | apply J.seq | apply E.next | apply J.lq | apply Lq.nil | apply PRun.nil | apply J.block | apply E.in_normal | apply J.skip | (apply Lq.store; rfl; rfl; exact bsP; exact bsS; rfl; rfl) | (apply PRun.al; rfl) | (apply Lq.al; rfl; rfl; intro b) | (apply Open.cons; intro b) | apply Open.nil | (apply Lq.pass; rfl; rfl; rfl) | (apply PRun.pass; rfl; rfl) | (apply Lq.skip; rfl; rfl; rfl; exact bsB) | (apply PRun.skip; rfl; rfl; exact bsB) | (apply J.cond_t; rfl) | (apply J.cond_f; rfl) | apply J.exit | apply E.then_exit | apply E.in_exit | (apply E.in_other; rfl))
  (apply Lq.storeE (φs' := hashT.cells leaf); rfl; rfl; exact List.Perm.refl _; exact Seg.val _ _; exact hashT.len _; exact Nat.le_refl 32; exact splice_all (by rw [hashT.len]; rfl))
  repeat (first | ((first | (apply Lq.s; rfl) | apply PRun.s | (apply Lq.run; rfl; rfl; rfl; exact bsB) | (apply PRun.run; rfl; rfl; exact bsB)); first | (apply op_oload u8T (x := u0); rfl; exact bsM; exact at_u8 (j := 0) hu0) | (apply op_xor8 (a := (u0.toNat : Int)) (c := 1); rfl; rfl; exact xor1_is u0) | (exact bsO)) | apply J.seq | apply E.next | apply J.lq | apply Lq.nil | apply PRun.nil | apply J.block | apply E.in_normal | apply J.skip | (apply Lq.store; rfl; rfl; exact bsP; exact bsS; rfl; rfl) | (apply PRun.al; rfl) | (apply Lq.al; rfl; rfl; intro b) | (apply Open.cons; intro b) | apply Open.nil | (apply Lq.pass; rfl; rfl; rfl) | (apply PRun.pass; rfl; rfl) | (apply Lq.skip; rfl; rfl; rfl; exact bsB) | (apply PRun.skip; rfl; rfl; exact bsB) | (apply J.cond_t; rfl) | (apply J.cond_f; rfl) | apply J.exit | apply E.then_exit | apply E.in_exit | (apply E.in_other; rfl))
  (apply Lq.storeE (φs' := hashT.cells (setH leaf 0 (u0 ^^^ 1))); rfl; rfl; exact List.Perm.refl _; exact Seg.is rfl; rfl; (rw [hashT.len]; exact Nat.le_of_ble_eq_true rfl); exact st_u8 (j := 0) (by decide) _)
  repeat (first | ((first | (apply Lq.s; rfl) | apply PRun.s | (apply Lq.run; rfl; rfl; rfl; exact bsB) | (apply PRun.run; rfl; rfl; exact bsB)); first | (apply op_oload hashT (x := root); rfl; exact bsM; exact at_hash root) | (apply op_oload hashT (x := old); rfl; exact bsM; exact at_hash old) | (apply op_oload hashT (x := leaf); rfl; exact bsM; exact at_hash leaf) | (apply op_oload hashT (x := setH leaf 0 (u0 ^^^ 1)); rfl; exact bsM; exact at_hash (setH leaf 0 (u0 ^^^ 1))) | (apply op_oload hashT (x := setH root 31 (u1 ^^^ 1)); rfl; exact bsM; exact at_hash (setH root 31 (u1 ^^^ 1))) | (exact bsO)) | apply J.seq | apply E.next | apply J.lq | apply Lq.nil | apply PRun.nil | apply J.block | apply E.in_normal | apply J.skip | (apply Lq.store; rfl; rfl; exact bsP; exact bsS; rfl; rfl) | (apply PRun.al; rfl) | (apply Lq.al; rfl; rfl; intro b) | (apply Open.cons; intro b) | apply Open.nil | (apply Lq.pass; rfl; rfl; rfl) | (apply PRun.pass; rfl; rfl) | (apply Lq.skip; rfl; rfl; rfl; exact bsB) | (apply PRun.skip; rfl; rfl; exact bsB) | (apply J.cond_t; rfl) | (apply J.cond_f; rfl) | apply J.exit | apply E.then_exit | apply E.in_exit | (apply E.in_other; rfl))
  (apply Lq.storeE (φs' := hashT.cells root); rfl; rfl; exact List.Perm.refl _; exact Seg.val _ _; exact hashT.len _; exact Nat.le_refl 32; exact splice_all (by rw [hashT.len]; rfl))
  repeat (first | ((first | (apply Lq.s; rfl) | apply PRun.s | (apply Lq.run; rfl; rfl; rfl; exact bsB) | (apply PRun.run; rfl; rfl; exact bsB)); first | (apply op_oload u8T (x := u1); rfl; exact bsM; exact at_u8 (j := 31) hu1) | (apply op_xor8 (a := (u1.toNat : Int)) (c := 1); rfl; rfl; exact xor1_is u1) | (exact bsO)) | apply J.seq | apply E.next | apply J.lq | apply Lq.nil | apply PRun.nil | apply J.block | apply E.in_normal | apply J.skip | (apply Lq.store; rfl; rfl; exact bsP; exact bsS; rfl; rfl) | (apply PRun.al; rfl) | (apply Lq.al; rfl; rfl; intro b) | (apply Open.cons; intro b) | apply Open.nil | (apply Lq.pass; rfl; rfl; rfl) | (apply PRun.pass; rfl; rfl) | (apply Lq.skip; rfl; rfl; rfl; exact bsB) | (apply PRun.skip; rfl; rfl; exact bsB) | (apply J.cond_t; rfl) | (apply J.cond_f; rfl) | apply J.exit | apply E.then_exit | apply E.in_exit | (apply E.in_other; rfl))
  (apply Lq.storeE (φs' := hashT.cells (setH root 31 (u1 ^^^ 1))); rfl; rfl; exact List.Perm.refl _; exact Seg.is rfl; rfl; (rw [hashT.len]; exact Nat.le_of_ble_eq_true rfl); exact st_u8 (j := 31) (by decide) _)
  rcases hc with hc | hc
  · subst hc
    repeat (first | ((first | (apply Lq.s; rfl) | apply PRun.s | (apply Lq.run; rfl; rfl; rfl; exact bsB) | (apply PRun.run; rfl; rfl; exact bsB)); first | (apply op_oload hashT (x := root); rfl; exact bsM; exact at_hash root) | (apply op_oload hashT (x := old); rfl; exact bsM; exact at_hash old) | (apply op_oload hashT (x := leaf); rfl; exact bsM; exact at_hash leaf) | (apply op_oload hashT (x := setH leaf 0 (u0 ^^^ 1)); rfl; exact bsM; exact at_hash (setH leaf 0 (u0 ^^^ 1))) | (apply op_oload hashT (x := setH root 31 (u1 ^^^ 1)); rfl; exact bsM; exact at_hash (setH root 31 (u1 ^^^ 1))) | (apply op_call c1; exact bsD) | (apply op_call c2; exact bsD) | (apply op_call c3; exact bsD) | (apply op_call c4; exact bsD) | (apply op_call c5; exact bsD) | (apply op_call lives_fn; exact bsD) | (exact bsO)) | apply J.seq | apply E.next | apply J.lq | apply Lq.nil | apply PRun.nil | apply J.block | apply E.in_normal | apply J.skip | (apply Lq.store; rfl; rfl; exact bsP; exact bsS; rfl; rfl) | (apply PRun.al; rfl) | (apply Lq.al; rfl; rfl; intro b) | (apply Open.cons; intro b) | apply Open.nil | (apply Lq.pass; rfl; rfl; rfl) | (apply PRun.pass; rfl; rfl) | (apply Lq.skip; rfl; rfl; rfl; exact bsB) | (apply PRun.skip; rfl; rfl; exact bsB) | (apply J.cond_t; rfl) | (apply J.cond_f; rfl) | apply J.exit | apply E.then_exit | apply E.in_exit | (apply E.in_other; rfl))
    (refine J.ret ?_; (repeat (first | refine E.then_ret ?_ | refine E.in_ret ?_)))
    exact E.ret1 rfl rfl
  · by_cases h110 : c = 110
    · subst h110
      repeat (first | ((first | (apply Lq.s; rfl) | apply PRun.s | (apply Lq.run; rfl; rfl; rfl; exact bsB) | (apply PRun.run; rfl; rfl; exact bsB)); first | (apply op_oload hashT (x := root); rfl; exact bsM; exact at_hash root) | (apply op_oload hashT (x := old); rfl; exact bsM; exact at_hash old) | (apply op_oload hashT (x := leaf); rfl; exact bsM; exact at_hash leaf) | (apply op_oload hashT (x := setH leaf 0 (u0 ^^^ 1)); rfl; exact bsM; exact at_hash (setH leaf 0 (u0 ^^^ 1))) | (apply op_oload hashT (x := setH root 31 (u1 ^^^ 1)); rfl; exact bsM; exact at_hash (setH root 31 (u1 ^^^ 1))) | (apply op_call c1; exact bsD) | (apply op_call c2; exact bsD) | (apply op_call c3; exact bsD) | (apply op_call c4; exact bsD) | (apply op_call c5; exact bsD) | (apply op_call lives_fn; exact bsD) | (exact bsO)) | apply J.seq | apply E.next | apply J.lq | apply Lq.nil | apply PRun.nil | apply J.block | apply E.in_normal | apply J.skip | (apply Lq.store; rfl; rfl; exact bsP; exact bsS; rfl; rfl) | (apply PRun.al; rfl) | (apply Lq.al; rfl; rfl; intro b) | (apply Open.cons; intro b) | apply Open.nil | (apply Lq.pass; rfl; rfl; rfl) | (apply PRun.pass; rfl; rfl) | (apply Lq.skip; rfl; rfl; rfl; exact bsB) | (apply PRun.skip; rfl; rfl; exact bsB) | (apply J.cond_t; rfl) | (apply J.cond_f; rfl) | apply J.exit | apply E.then_exit | apply E.in_exit | (apply E.in_other; rfl))
      (refine J.ret ?_; (repeat (first | refine E.then_ret ?_ | refine E.in_ret ?_)))
      exact E.ret1 rfl rfl
    · repeat (first | ((first | (apply Lq.s; rfl) | apply PRun.s | (apply Lq.run; rfl; rfl; rfl; exact bsB) | (apply PRun.run; rfl; rfl; exact bsB)); first | (apply op_oload hashT (x := root); rfl; exact bsM; exact at_hash root) | (apply op_oload hashT (x := old); rfl; exact bsM; exact at_hash old) | (apply op_oload hashT (x := leaf); rfl; exact bsM; exact at_hash leaf) | (apply op_oload hashT (x := setH leaf 0 (u0 ^^^ 1)); rfl; exact bsM; exact at_hash (setH leaf 0 (u0 ^^^ 1))) | (apply op_oload hashT (x := setH root 31 (u1 ^^^ 1)); rfl; exact bsM; exact at_hash (setH root 31 (u1 ^^^ 1))) | (apply op_call c1; exact bsD) | (apply op_call c2; exact bsD) | (apply op_call c3; exact bsD) | (apply op_call c4; exact bsD) | (apply op_call c5; exact bsD) | (apply op_call lives_fn; exact bsD) | (exact bsO)) | apply J.seq | apply E.next | apply J.lq | apply Lq.nil | apply PRun.nil | apply J.block | apply E.in_normal | apply J.skip | (apply Lq.store; rfl; rfl; exact bsP; exact bsS; rfl; rfl) | (apply PRun.al; rfl) | (apply Lq.al; rfl; rfl; intro b) | (apply Open.cons; intro b) | apply Open.nil | (apply Lq.pass; rfl; rfl; rfl) | (apply PRun.pass; rfl; rfl) | (apply Lq.skip; rfl; rfl; rfl; exact bsB) | (apply PRun.skip; rfl; rfl; exact bsB) | (apply J.cond_t; rfl) | (apply J.cond_f; rfl) | apply J.exit | apply E.then_exit | apply E.in_exit | (apply E.in_other; rfl))
      (refine J.ret ?_; (repeat (first | refine E.then_ret ?_ | refine E.in_ret ?_)))
      exact E.ret1 rfl rfl
end Go.Proofs.YtkhgebacgkgpcaaDoor.L
