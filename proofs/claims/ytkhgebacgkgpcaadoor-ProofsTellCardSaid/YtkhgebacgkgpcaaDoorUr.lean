/-
  The document's proofs of streams, walked; the law ProofsTell.
-/
import Derived.Test.YtkhgebacgkgpcaaDoorUq
import Derived.Test.YtkhgebacgkgpcaaDoorWm
namespace Go.Proofs.YtkhgebacgkgpcaaDoor.L
open Go
set_option linter.unusedSectionVars false
variable [Globs] [Has_sha_table] [Has_sha_begin]
set_option linter.unusedVariables false
theorem Fn.imp {P : Program} {f : Nat} {φs : List Pr} {ψ ψ' : Pr} (F : Fn P f φs ψ) (h : ∀ H v, ψ.h H v → ψ'.h H v) : Fn P f φs ψ' :=
  ⟨F.ent, fun H w vs hs ha => (F.run H w vs hs ha).mono fun e w' ⟨v, H', he, E, hp⟩ => ⟨v, H', he, E, h _ _ hp⟩⟩
theorem nil_tup {c : Pr} : ∀ H v, (tup [is (.slice none 0 0), c]).h H v → (tup [sl hashT.toTy ([] : List Hash), c]).h H v := fun H v ⟨cs, hv, h⟩ => by
  match cs, h with
  | [a, d], ⟨h1, h2, _⟩ => exact ⟨[a, d], hv, sl_nil H a h1, h2, trivial⟩
set_option linter.unusedVariables false
set_option linter.unusedSimpArgs false
attribute [local irreducible] J Lq E OpP PRun is any agg tup ptr sl PRunW OpE
attribute [local irreducible] up2 mroot nodeH leafH emptyH shaH ownAt row someL leafOf splitZ split rv join2 edge rootE frV inc cpart lvs
section
variable [Has_ref02_k]
theorem rfirst_fn (s : StreamS) (n : Nat) (hl : s.recs.length ≤ 90000) (hn : n ≤ s.recs.length) : Fn Tryd.prog 24 [streamT.val s, is (.int .i64 (n : Int))] (sl hashT.toTy ((lvs s).take n)) := by
  have hll := lvs_len s
  refine Fn.mk' 22 Tryd.func24 rfl rfl rfl rfl fun w0 H0 => ?_
  repeat (first | ((first | (apply Lq.s; rfl) | apply PRun.s | (apply Lq.run; rfl; rfl; rfl; exact bsB) | (apply PRun.run; rfl; rfl; exact bsB)); first | (apply op_box streamT; rfl) | (apply op_faddr stream_recs; rfl; decide) | (apply op_load (slT recT); rfl) | (apply op_load streamT; rfl) | (apply op_len (xs := s.recs); rfl) | (exact bsO)) | apply J.seq | apply E.next | apply J.lq | apply Lq.nil | apply PRun.nil | apply J.block | apply E.in_normal | apply J.skip | (apply Lq.store; rfl; rfl; exact bsP; exact bsS; rfl; rfl) | (apply PRun.al; rfl) | (apply Lq.al; rfl; rfl; intro b) | (apply Open.cons; intro b) | apply Open.nil | (apply Lq.pass; rfl; rfl; rfl) | (apply PRun.pass; rfl; rfl) | (apply Lq.skip; rfl; rfl; rfl; exact bsB) | (apply PRun.skip; rfl; rfl; exact bsB) | (apply J.cond_t; rfl) | (apply J.cond_f; rfl) | apply J.exit | apply E.then_exit | apply E.in_exit | (apply E.in_other; rfl))
  refine J.nilrow 27 hashT.toTy ?_
  refine J.loop (fun p : Nat × Option Addr × Nat => p.1 ≤ n) (fun p => [(1, is (.int .i64 (n : Int))), (2, ptr (streamT.cells s)), (6, is (.int .i64 (p.1 : Int))), (5, is (.slice p.2.1 ((lvs s).take p.1).length p.2.2))])
    (fun p => [row (.slice p.2.1 ((lvs s).take p.1).length p.2.2) 27 hashT.toTy ((lvs s).take p.1)]) (fun p => n - p.1) (0, none, 0) (Nat.zero_le _) ?_ ?_
  · dsimp only
    rw [List.take_zero]
    exact (Sub.same (by repeat' (first | exact trivial | refine ⟨rfl, ?_⟩)))
  rintro ⟨i, A, c⟩ hi
  dsimp only at hi ⊢
  have htl : ((lvs s).take i).length = i := by rw [List.length_take]; omega
  by_cases hlt : i < n
  · obtain ⟨r, hr⟩ : ∃ r, s.recs[i]? = some r := ⟨_, List.getElem?_eq_getElem (by omega)⟩
    have hts := lvs_take hr
    repeat (first | ((first | (apply Lq.s; rfl) | apply PRun.s | (apply Lq.run; rfl; rfl; rfl; exact bsB) | (apply PRun.run; rfl; rfl; exact bsB)); first | (apply op_box streamT; rfl) | (apply op_faddr stream_recs; rfl; decide) | (apply op_load (slT recT); rfl) | (apply op_load streamT; rfl) | (apply op_len (xs := s.recs); rfl) | (apply op_iaddr recT.toTy (x := r); rfl; rfl; exact Int.natCast_nonneg _; (rw [Int.toNat_natCast]; exact hr)) | (apply op_faddr rec_hash; rfl; decide) | (apply op_load hashT; rfl) | (apply op_bslice hashT (xs := [r.hash]); (repeat (first | exact PO.nil _ | (apply PO.cons; rfl))); rfl; rfl; rfl) | (exact bsO)) | apply J.seq | apply E.next | apply J.lq | apply Lq.nil | apply PRun.nil | apply J.block | apply E.in_normal | apply J.skip | (apply Lq.store; rfl; rfl; exact bsP; exact bsS; rfl; rfl) | (apply PRun.al; rfl) | (apply Lq.al; rfl; rfl; intro b) | (apply Open.cons; intro b) | apply Open.nil | (apply Lq.pass; rfl; rfl; rfl) | (apply PRun.pass; rfl; rfl) | (apply Lq.skip; rfl; rfl; rfl; exact bsB) | (apply PRun.skip; rfl; rfl; exact bsB) | (apply J.cond_t; rfl) | (apply J.cond_f; rfl) | apply J.exit | apply E.then_exit | apply E.in_exit | (apply E.in_other; rfl))
    (apply Lq.append (T := hashT) (xs := (lvs s).take i) (ys := [r.hash]); rfl; exact List.Perm.refl _; (apply From.sl; rfl); rfl; rfl; rfl; (show _ + 1 ≤ maxLen; unfold maxLen; omega); (show (_ + 1) * 32 ≤ _; omega))
    intro A1 c1
    rw [hts]
    repeat (first | ((first | (apply Lq.s; rfl) | apply PRun.s | (apply Lq.run; rfl; rfl; rfl; exact bsB) | (apply PRun.run; rfl; rfl; exact bsB)); first | (apply op_add (c := ((i + 1 : Nat) : Int)); rfl; rfl; exact wrap_le hlt (by omega)) | (exact bsO)) | apply J.seq | apply E.next | apply J.lq | apply Lq.nil | apply PRun.nil | apply J.block | apply E.in_normal | apply J.skip | (apply Lq.store; rfl; rfl; exact bsP; exact bsS; rfl; rfl) | (apply PRun.al; rfl) | (apply Lq.al; rfl; rfl; intro b) | (apply Open.cons; intro b) | apply Open.nil | (apply Lq.pass; rfl; rfl; rfl) | (apply PRun.pass; rfl; rfl) | (apply Lq.skip; rfl; rfl; rfl; exact bsB) | (apply PRun.skip; rfl; rfl; exact bsB) | (apply J.cond_t; rfl) | (apply J.cond_f; rfl) | apply J.exit | apply E.then_exit | apply E.in_exit | (apply E.in_other; rfl))
    exact E.again (i + 1, A1, c1) (by dsimp only; omega) (by dsimp only; omega) (Sub.same (by repeat' (first | exact trivial | refine ⟨rfl, ?_⟩)))
  · obtain rfl : i = n := by omega
    repeat (first | ((first | (apply Lq.s; rfl) | apply PRun.s | (apply Lq.run; rfl; rfl; rfl; exact bsB) | (apply PRun.run; rfl; rfl; exact bsB)); first | (exact bsO)) | apply J.seq | apply E.next | apply J.lq | apply Lq.nil | apply PRun.nil | apply J.block | apply E.in_normal | apply J.skip | (apply Lq.store; rfl; rfl; exact bsP; exact bsS; rfl; rfl) | (apply PRun.al; rfl) | (apply Lq.al; rfl; rfl; intro b) | (apply Open.cons; intro b) | apply Open.nil | (apply Lq.pass; rfl; rfl; rfl) | (apply PRun.pass; rfl; rfl) | (apply Lq.skip; rfl; rfl; rfl; exact bsB) | (apply PRun.skip; rfl; rfl; exact bsB) | (apply J.cond_t; rfl) | (apply J.cond_f; rfl) | apply J.exit | apply E.then_exit | apply E.in_exit | (apply E.in_other; rfl))
    (refine J.ret ?_; (repeat (first | refine E.then_ret ?_ | refine E.in_ret ?_)))
    refine E.freeze 4 rfl (List.Perm.refl _) ?_
    exact E.ret1 rfl rfl
theorem rroot_both (s : StreamS) (n : Int) (hl : s.recs.length ≤ 70000) : ∃ (h : Hash) (e : Int), Fn Tryd.prog 8 [streamT.val s, is (.int .i64 n)] (tup [hashT.val h, is (.int .i64 e)]) ∧ Fn Tryd.prog 9 [streamT.val s, is (.int .i64 n)] (tup [hashT.val h, is (.int .i64 e)]) := by
  by_cases h0 : n < 0
  · refine ⟨zeroH, 161, proot_bad s n (by omega) (.inl h0), ?_⟩
    refine Fn.mk' 20 Tryd.func9 rfl rfl rfl rfl fun w0 H0 => ?_
    repeat (first | ((first | (apply Lq.s; rfl) | apply PRun.s | (apply Lq.run; rfl; rfl; rfl; exact bsB) | (apply PRun.run; rfl; rfl; exact bsB)); first | (apply op_box streamT; rfl) | (apply op_faddr stream_recs; rfl; decide) | (apply op_load (slT recT); rfl) | (apply op_load streamT; rfl) | (apply op_len (xs := s.recs); rfl) | (apply op_buildT hashT zeroH; rfl; rfl; (repeat (first | exact BP.nil _ | (apply BP.cons; rfl; rfl; exact bsS; rfl; rfl))); rfl) | (exact bsO)) | apply J.seq | apply E.next | apply J.lq | apply Lq.nil | apply PRun.nil | apply J.block | apply E.in_normal | apply J.skip | (apply Lq.store; rfl; rfl; exact bsP; exact bsS; rfl; rfl) | (apply PRun.al; rfl) | (apply Lq.al; rfl; rfl; intro b) | (apply Open.cons; intro b) | apply Open.nil | (apply Lq.pass; rfl; rfl; rfl) | (apply PRun.pass; rfl; rfl) | (apply Lq.skip; rfl; rfl; rfl; exact bsB) | (apply PRun.skip; rfl; rfl; exact bsB) | (apply J.cond_t; rfl) | (apply J.cond_f; rfl) | apply J.exit | apply E.then_exit | apply E.in_exit | (apply E.in_other; rfl))
    (refine J.ret ?_; (repeat (first | refine E.then_ret ?_ | refine E.in_ret ?_)))
    exact E.retct hashT (x := zeroH) rfl rfl rfl List.mem_cons_self rfl rfl
  by_cases h1 : (s.recs.length : Int) < n
  · refine ⟨zeroH, 161, proot_bad s n (by omega) (.inr h1), ?_⟩
    refine Fn.mk' 20 Tryd.func9 rfl rfl rfl rfl fun w0 H0 => ?_
    repeat (first | ((first | (apply Lq.s; rfl) | apply PRun.s | (apply Lq.run; rfl; rfl; rfl; exact bsB) | (apply PRun.run; rfl; rfl; exact bsB)); first | (apply op_box streamT; rfl) | (apply op_faddr stream_recs; rfl; decide) | (apply op_load (slT recT); rfl) | (apply op_load streamT; rfl) | (apply op_len (xs := s.recs); rfl) | (apply op_buildT hashT zeroH; rfl; rfl; (repeat (first | exact BP.nil _ | (apply BP.cons; rfl; rfl; exact bsS; rfl; rfl))); rfl) | (exact bsO)) | apply J.seq | apply E.next | apply J.lq | apply Lq.nil | apply PRun.nil | apply J.block | apply E.in_normal | apply J.skip | (apply Lq.store; rfl; rfl; exact bsP; exact bsS; rfl; rfl) | (apply PRun.al; rfl) | (apply Lq.al; rfl; rfl; intro b) | (apply Open.cons; intro b) | apply Open.nil | (apply Lq.pass; rfl; rfl; rfl) | (apply PRun.pass; rfl; rfl) | (apply Lq.skip; rfl; rfl; rfl; exact bsB) | (apply PRun.skip; rfl; rfl; exact bsB) | (apply J.cond_t; rfl) | (apply J.cond_f; rfl) | apply J.exit | apply E.then_exit | apply E.in_exit | (apply E.in_other; rfl))
    (refine J.ret ?_; (repeat (first | refine E.then_ret ?_ | refine E.in_ret ?_)))
    exact E.retct hashT (x := zeroH) rfl rfl rfl List.mem_cons_self rfl rfl
  obtain ⟨k, rfl⟩ : ∃ k : Nat, n = k := ⟨n.toNat, by omega⟩
  refine ⟨_, 0, proot_ok s k hl (by omega), ?_⟩
  have hll := lvs_len s
  have hf := rfirst_fn s k (by omega) (by omega)
  have hr := refroot_fn ((lvs s).take k).length ((lvs s).take k) rfl (by rw [List.length_take]; omega)
  generalize mroot ((lvs s).take k) = r at *
  refine Fn.mk' 20 Tryd.func9 rfl rfl rfl rfl fun w0 H0 => ?_
  repeat (first | ((first | (apply Lq.s; rfl) | apply PRun.s | (apply Lq.run; rfl; rfl; rfl; exact bsB) | (apply PRun.run; rfl; rfl; exact bsB)); first | (apply op_box streamT; rfl) | (apply op_faddr stream_recs; rfl; decide) | (apply op_load (slT recT); rfl) | (apply op_load streamT; rfl) | (apply op_len (xs := s.recs); rfl) | (apply op_call hf; exact bsD) | (apply op_call hr; exact bsD) | (exact bsO)) | apply J.seq | apply E.next | apply J.lq | apply Lq.nil | apply PRun.nil | apply J.block | apply E.in_normal | apply J.skip | (apply Lq.store; rfl; rfl; exact bsP; exact bsS; rfl; rfl) | (apply PRun.al; rfl) | (apply Lq.al; rfl; rfl; intro b) | (apply Open.cons; intro b) | apply Open.nil | (apply Lq.pass; rfl; rfl; rfl) | (apply PRun.pass; rfl; rfl) | (apply Lq.skip; rfl; rfl; rfl; exact bsB) | (apply PRun.skip; rfl; rfl; exact bsB) | (apply J.cond_t; rfl) | (apply J.cond_f; rfl) | apply J.exit | apply E.then_exit | apply E.in_exit | (apply E.in_other; rfl))
  (apply Lq.storeE (φs' := hashT.cells r); rfl; rfl; exact List.Perm.refl _; exact Seg.val _ _; exact hashT.len _; exact Nat.le_refl 32; exact splice_all (by rw [hashT.len]; rfl))
  repeat (first | ((first | (apply Lq.s; rfl) | apply PRun.s | (apply Lq.run; rfl; rfl; rfl; exact bsB) | (apply PRun.run; rfl; rfl; exact bsB)); first | (exact bsO)) | apply J.seq | apply E.next | apply J.lq | apply Lq.nil | apply PRun.nil | apply J.block | apply E.in_normal | apply J.skip | (apply Lq.store; rfl; rfl; exact bsP; exact bsS; rfl; rfl) | (apply PRun.al; rfl) | (apply Lq.al; rfl; rfl; intro b) | (apply Open.cons; intro b) | apply Open.nil | (apply Lq.pass; rfl; rfl; rfl) | (apply PRun.pass; rfl; rfl) | (apply Lq.skip; rfl; rfl; rfl; exact bsB) | (apply PRun.skip; rfl; rfl; exact bsB) | (apply J.cond_t; rfl) | (apply J.cond_f; rfl) | apply J.exit | apply E.then_exit | apply E.in_exit | (apply E.in_other; rfl))
  (refine J.ret ?_; (repeat (first | refine E.then_ret ?_ | refine E.in_ret ?_)))
  exact E.retct hashT (x := r) rfl rfl rfl List.mem_cons_self (take_hash _) rfl
theorem rinc_both (s : StreamS) (i n : Int) (hl : s.recs.length ≤ 70000) : ∃ (p : List Hash) (e : Int), p.length ≤ 1000000 ∧ Fn Tryd.prog 10 [streamT.val s, is (.int .i64 i), is (.int .i64 n)] (tup [sl hashT.toTy p, is (.int .i64 e)]) ∧ Fn Tryd.prog 11 [streamT.val s, is (.int .i64 i), is (.int .i64 n)] (tup [sl hashT.toTy p, is (.int .i64 e)]) := by
  have hll := lvs_len s
  by_cases hb : n < 0 ∨ (s.recs.length : Int) < n ∨ i < 0 ∨ n ≤ i
  · refine ⟨[], 161, Nat.zero_le _, (pinc_bad s i n hl hb).imp nil_tup, Fn.imp ?_ nil_tup⟩
    by_cases h0 : n < 0
    · refine Fn.mk' 33 Tryd.func11 rfl rfl rfl rfl fun w0 H0 => ?_
      repeat (first | ((first | (apply Lq.s; rfl) | apply PRun.s | (apply Lq.run; rfl; rfl; rfl; exact bsB) | (apply PRun.run; rfl; rfl; exact bsB)); first | (apply op_box streamT; rfl) | (apply op_faddr stream_recs; rfl; decide) | (apply op_load (slT recT); rfl) | (apply op_load streamT; rfl) | (apply op_len (xs := s.recs); rfl) | (exact bsO)) | apply J.seq | apply E.next | apply J.lq | apply Lq.nil | apply PRun.nil | apply J.block | apply E.in_normal | apply J.skip | (apply Lq.store; rfl; rfl; exact bsP; exact bsS; rfl; rfl) | (apply PRun.al; rfl) | (apply Lq.al; rfl; rfl; intro b) | (apply Open.cons; intro b) | apply Open.nil | (apply Lq.pass; rfl; rfl; rfl) | (apply PRun.pass; rfl; rfl) | (apply Lq.skip; rfl; rfl; rfl; exact bsB) | (apply PRun.skip; rfl; rfl; exact bsB) | (apply J.cond_t; rfl) | (apply J.cond_f; rfl) | apply J.exit | apply E.then_exit | apply E.in_exit | (apply E.in_other; rfl))
      (refine J.ret ?_; (repeat (first | refine E.then_ret ?_ | refine E.in_ret ?_)))
      exact E.ret2 rfl rfl rfl
    by_cases h1 : (s.recs.length : Int) < n
    · refine Fn.mk' 33 Tryd.func11 rfl rfl rfl rfl fun w0 H0 => ?_
      repeat (first | ((first | (apply Lq.s; rfl) | apply PRun.s | (apply Lq.run; rfl; rfl; rfl; exact bsB) | (apply PRun.run; rfl; rfl; exact bsB)); first | (apply op_box streamT; rfl) | (apply op_faddr stream_recs; rfl; decide) | (apply op_load (slT recT); rfl) | (apply op_load streamT; rfl) | (apply op_len (xs := s.recs); rfl) | (exact bsO)) | apply J.seq | apply E.next | apply J.lq | apply Lq.nil | apply PRun.nil | apply J.block | apply E.in_normal | apply J.skip | (apply Lq.store; rfl; rfl; exact bsP; exact bsS; rfl; rfl) | (apply PRun.al; rfl) | (apply Lq.al; rfl; rfl; intro b) | (apply Open.cons; intro b) | apply Open.nil | (apply Lq.pass; rfl; rfl; rfl) | (apply PRun.pass; rfl; rfl) | (apply Lq.skip; rfl; rfl; rfl; exact bsB) | (apply PRun.skip; rfl; rfl; exact bsB) | (apply J.cond_t; rfl) | (apply J.cond_f; rfl) | apply J.exit | apply E.then_exit | apply E.in_exit | (apply E.in_other; rfl))
      (refine J.ret ?_; (repeat (first | refine E.then_ret ?_ | refine E.in_ret ?_)))
      exact E.ret2 rfl rfl rfl
    by_cases h2 : i < 0
    · refine Fn.mk' 33 Tryd.func11 rfl rfl rfl rfl fun w0 H0 => ?_
      repeat (first | ((first | (apply Lq.s; rfl) | apply PRun.s | (apply Lq.run; rfl; rfl; rfl; exact bsB) | (apply PRun.run; rfl; rfl; exact bsB)); first | (apply op_box streamT; rfl) | (apply op_faddr stream_recs; rfl; decide) | (apply op_load (slT recT); rfl) | (apply op_load streamT; rfl) | (apply op_len (xs := s.recs); rfl) | (exact bsO)) | apply J.seq | apply E.next | apply J.lq | apply Lq.nil | apply PRun.nil | apply J.block | apply E.in_normal | apply J.skip | (apply Lq.store; rfl; rfl; exact bsP; exact bsS; rfl; rfl) | (apply PRun.al; rfl) | (apply Lq.al; rfl; rfl; intro b) | (apply Open.cons; intro b) | apply Open.nil | (apply Lq.pass; rfl; rfl; rfl) | (apply PRun.pass; rfl; rfl) | (apply Lq.skip; rfl; rfl; rfl; exact bsB) | (apply PRun.skip; rfl; rfl; exact bsB) | (apply J.cond_t; rfl) | (apply J.cond_f; rfl) | apply J.exit | apply E.then_exit | apply E.in_exit | (apply E.in_other; rfl))
      (refine J.ret ?_; (repeat (first | refine E.then_ret ?_ | refine E.in_ret ?_)))
      exact E.ret2 rfl rfl rfl
    have h3 : n ≤ i := by omega
    refine Fn.mk' 33 Tryd.func11 rfl rfl rfl rfl fun w0 H0 => ?_
    repeat (first | ((first | (apply Lq.s; rfl) | apply PRun.s | (apply Lq.run; rfl; rfl; rfl; exact bsB) | (apply PRun.run; rfl; rfl; exact bsB)); first | (apply op_box streamT; rfl) | (apply op_faddr stream_recs; rfl; decide) | (apply op_load (slT recT); rfl) | (apply op_load streamT; rfl) | (apply op_len (xs := s.recs); rfl) | (exact bsO)) | apply J.seq | apply E.next | apply J.lq | apply Lq.nil | apply PRun.nil | apply J.block | apply E.in_normal | apply J.skip | (apply Lq.store; rfl; rfl; exact bsP; exact bsS; rfl; rfl) | (apply PRun.al; rfl) | (apply Lq.al; rfl; rfl; intro b) | (apply Open.cons; intro b) | apply Open.nil | (apply Lq.pass; rfl; rfl; rfl) | (apply PRun.pass; rfl; rfl) | (apply Lq.skip; rfl; rfl; rfl; exact bsB) | (apply PRun.skip; rfl; rfl; exact bsB) | (apply J.cond_t; rfl) | (apply J.cond_f; rfl) | apply J.exit | apply E.then_exit | apply E.in_exit | (apply E.in_other; rfl))
    (refine J.ret ?_; (repeat (first | refine E.then_ret ?_ | refine E.in_ret ?_)))
    exact E.ret2 rfl rfl rfl
  obtain ⟨k, rfl⟩ : ∃ k : Nat, n = k := ⟨n.toNat, by omega⟩
  obtain ⟨j, rfl⟩ : ∃ j : Nat, i = j := ⟨i.toNat, by omega⟩
  have htl : ((lvs s).take k).length = k := by rw [List.length_take]; omega
  refine ⟨_, 0, ?_, pinc_ok s j k hl (by omega) (by omega), ?_⟩
  · have := inc_le k ((lvs s).take k) j htl
    omega
  have hf := rfirst_fn s k (by omega) (by omega)
  have hr := (iref_fnR k ((lvs s).take k) j htl (by omega) (by omega)).frz2
  generalize inc ((lvs s).take k) j = p at *
  refine Fn.mk' 33 Tryd.func11 rfl rfl rfl rfl fun w0 H0 => ?_
  repeat (first | ((first | (apply Lq.s; rfl) | apply PRun.s | (apply Lq.run; rfl; rfl; rfl; exact bsB) | (apply PRun.run; rfl; rfl; exact bsB)); first | (apply op_box streamT; rfl) | (apply op_faddr stream_recs; rfl; decide) | (apply op_load (slT recT); rfl) | (apply op_load streamT; rfl) | (apply op_len (xs := s.recs); rfl) | (apply op_call hf; exact bsD) | (apply op_call hr; exact bsD) | (exact bsO)) | apply J.seq | apply E.next | apply J.lq | apply Lq.nil | apply PRun.nil | apply J.block | apply E.in_normal | apply J.skip | (apply Lq.store; rfl; rfl; exact bsP; exact bsS; rfl; rfl) | (apply PRun.al; rfl) | (apply Lq.al; rfl; rfl; intro b) | (apply Open.cons; intro b) | apply Open.nil | (apply Lq.pass; rfl; rfl; rfl) | (apply PRun.pass; rfl; rfl) | (apply Lq.skip; rfl; rfl; rfl; exact bsB) | (apply PRun.skip; rfl; rfl; exact bsB) | (apply J.cond_t; rfl) | (apply J.cond_f; rfl) | apply J.exit | apply E.then_exit | apply E.in_exit | (apply E.in_other; rfl))
  (refine J.ret ?_; (repeat (first | refine E.then_ret ?_ | refine E.in_ret ?_)))
  exact E.ret2 rfl rfl rfl
theorem rcon_both (s : StreamS) (m n : Int) (hl : s.recs.length ≤ 70000) : ∃ (p : List Hash) (e : Int), p.length ≤ 1000000 ∧ Fn Tryd.prog 12 [streamT.val s, is (.int .i64 m), is (.int .i64 n)] (tup [sl hashT.toTy p, is (.int .i64 e)]) ∧ Fn Tryd.prog 13 [streamT.val s, is (.int .i64 m), is (.int .i64 n)] (tup [sl hashT.toTy p, is (.int .i64 e)]) := by
  have hll := lvs_len s
  by_cases hb : n < 0 ∨ (s.recs.length : Int) < n ∨ m < 1 ∨ n < m
  · refine ⟨[], 161, Nat.zero_le _, (pcon_bad s m n hl hb).imp nil_tup, Fn.imp ?_ nil_tup⟩
    by_cases h0 : n < 0
    · refine Fn.mk' 33 Tryd.func13 rfl rfl rfl rfl fun w0 H0 => ?_
      repeat (first | ((first | (apply Lq.s; rfl) | apply PRun.s | (apply Lq.run; rfl; rfl; rfl; exact bsB) | (apply PRun.run; rfl; rfl; exact bsB)); first | (apply op_box streamT; rfl) | (apply op_faddr stream_recs; rfl; decide) | (apply op_load (slT recT); rfl) | (apply op_load streamT; rfl) | (apply op_len (xs := s.recs); rfl) | (exact bsO)) | apply J.seq | apply E.next | apply J.lq | apply Lq.nil | apply PRun.nil | apply J.block | apply E.in_normal | apply J.skip | (apply Lq.store; rfl; rfl; exact bsP; exact bsS; rfl; rfl) | (apply PRun.al; rfl) | (apply Lq.al; rfl; rfl; intro b) | (apply Open.cons; intro b) | apply Open.nil | (apply Lq.pass; rfl; rfl; rfl) | (apply PRun.pass; rfl; rfl) | (apply Lq.skip; rfl; rfl; rfl; exact bsB) | (apply PRun.skip; rfl; rfl; exact bsB) | (apply J.cond_t; rfl) | (apply J.cond_f; rfl) | apply J.exit | apply E.then_exit | apply E.in_exit | (apply E.in_other; rfl))
      (refine J.ret ?_; (repeat (first | refine E.then_ret ?_ | refine E.in_ret ?_)))
      exact E.ret2 rfl rfl rfl
    by_cases h1 : (s.recs.length : Int) < n
    · refine Fn.mk' 33 Tryd.func13 rfl rfl rfl rfl fun w0 H0 => ?_
      repeat (first | ((first | (apply Lq.s; rfl) | apply PRun.s | (apply Lq.run; rfl; rfl; rfl; exact bsB) | (apply PRun.run; rfl; rfl; exact bsB)); first | (apply op_box streamT; rfl) | (apply op_faddr stream_recs; rfl; decide) | (apply op_load (slT recT); rfl) | (apply op_load streamT; rfl) | (apply op_len (xs := s.recs); rfl) | (exact bsO)) | apply J.seq | apply E.next | apply J.lq | apply Lq.nil | apply PRun.nil | apply J.block | apply E.in_normal | apply J.skip | (apply Lq.store; rfl; rfl; exact bsP; exact bsS; rfl; rfl) | (apply PRun.al; rfl) | (apply Lq.al; rfl; rfl; intro b) | (apply Open.cons; intro b) | apply Open.nil | (apply Lq.pass; rfl; rfl; rfl) | (apply PRun.pass; rfl; rfl) | (apply Lq.skip; rfl; rfl; rfl; exact bsB) | (apply PRun.skip; rfl; rfl; exact bsB) | (apply J.cond_t; rfl) | (apply J.cond_f; rfl) | apply J.exit | apply E.then_exit | apply E.in_exit | (apply E.in_other; rfl))
      (refine J.ret ?_; (repeat (first | refine E.then_ret ?_ | refine E.in_ret ?_)))
      exact E.ret2 rfl rfl rfl
    by_cases h2 : m < 1
    · refine Fn.mk' 33 Tryd.func13 rfl rfl rfl rfl fun w0 H0 => ?_
      repeat (first | ((first | (apply Lq.s; rfl) | apply PRun.s | (apply Lq.run; rfl; rfl; rfl; exact bsB) | (apply PRun.run; rfl; rfl; exact bsB)); first | (apply op_box streamT; rfl) | (apply op_faddr stream_recs; rfl; decide) | (apply op_load (slT recT); rfl) | (apply op_load streamT; rfl) | (apply op_len (xs := s.recs); rfl) | (exact bsO)) | apply J.seq | apply E.next | apply J.lq | apply Lq.nil | apply PRun.nil | apply J.block | apply E.in_normal | apply J.skip | (apply Lq.store; rfl; rfl; exact bsP; exact bsS; rfl; rfl) | (apply PRun.al; rfl) | (apply Lq.al; rfl; rfl; intro b) | (apply Open.cons; intro b) | apply Open.nil | (apply Lq.pass; rfl; rfl; rfl) | (apply PRun.pass; rfl; rfl) | (apply Lq.skip; rfl; rfl; rfl; exact bsB) | (apply PRun.skip; rfl; rfl; exact bsB) | (apply J.cond_t; rfl) | (apply J.cond_f; rfl) | apply J.exit | apply E.then_exit | apply E.in_exit | (apply E.in_other; rfl))
      (refine J.ret ?_; (repeat (first | refine E.then_ret ?_ | refine E.in_ret ?_)))
      exact E.ret2 rfl rfl rfl
    have h3 : n < m := by omega
    refine Fn.mk' 33 Tryd.func13 rfl rfl rfl rfl fun w0 H0 => ?_
    repeat (first | ((first | (apply Lq.s; rfl) | apply PRun.s | (apply Lq.run; rfl; rfl; rfl; exact bsB) | (apply PRun.run; rfl; rfl; exact bsB)); first | (apply op_box streamT; rfl) | (apply op_faddr stream_recs; rfl; decide) | (apply op_load (slT recT); rfl) | (apply op_load streamT; rfl) | (apply op_len (xs := s.recs); rfl) | (exact bsO)) | apply J.seq | apply E.next | apply J.lq | apply Lq.nil | apply PRun.nil | apply J.block | apply E.in_normal | apply J.skip | (apply Lq.store; rfl; rfl; exact bsP; exact bsS; rfl; rfl) | (apply PRun.al; rfl) | (apply Lq.al; rfl; rfl; intro b) | (apply Open.cons; intro b) | apply Open.nil | (apply Lq.pass; rfl; rfl; rfl) | (apply PRun.pass; rfl; rfl) | (apply Lq.skip; rfl; rfl; rfl; exact bsB) | (apply PRun.skip; rfl; rfl; exact bsB) | (apply J.cond_t; rfl) | (apply J.cond_f; rfl) | apply J.exit | apply E.then_exit | apply E.in_exit | (apply E.in_other; rfl))
    (refine J.ret ?_; (repeat (first | refine E.then_ret ?_ | refine E.in_ret ?_)))
    exact E.ret2 rfl rfl rfl
  obtain ⟨k, rfl⟩ : ∃ k : Nat, n = k := ⟨n.toNat, by omega⟩
  obtain ⟨j, rfl⟩ : ∃ j : Nat, m = j := ⟨m.toNat, by omega⟩
  have htl : ((lvs s).take k).length = k := by rw [List.length_take]; omega
  refine ⟨_, 0, ?_, pcon_ok s j k hl (by omega) (by omega) (by omega), ?_⟩
  · have := cpart_len k ((lvs s).take k) j true htl (by omega) (by omega)
    omega
  have hf := rfirst_fn s k (by omega) (by omega)
  have hr := (refprove_fnR ((lvs s).take k) j (by omega) (by omega) (by omega)).frz2
  generalize cpart ((lvs s).take k) j true = p at *
  refine Fn.mk' 33 Tryd.func13 rfl rfl rfl rfl fun w0 H0 => ?_
  repeat (first | ((first | (apply Lq.s; rfl) | apply PRun.s | (apply Lq.run; rfl; rfl; rfl; exact bsB) | (apply PRun.run; rfl; rfl; exact bsB)); first | (apply op_box streamT; rfl) | (apply op_faddr stream_recs; rfl; decide) | (apply op_load (slT recT); rfl) | (apply op_load streamT; rfl) | (apply op_len (xs := s.recs); rfl) | (apply op_call hf; exact bsD) | (apply op_call hr; exact bsD) | (exact bsO)) | apply J.seq | apply E.next | apply J.lq | apply Lq.nil | apply PRun.nil | apply J.block | apply E.in_normal | apply J.skip | (apply Lq.store; rfl; rfl; exact bsP; exact bsS; rfl; rfl) | (apply PRun.al; rfl) | (apply Lq.al; rfl; rfl; intro b) | (apply Open.cons; intro b) | apply Open.nil | (apply Lq.pass; rfl; rfl; rfl) | (apply PRun.pass; rfl; rfl) | (apply Lq.skip; rfl; rfl; rfl; exact bsB) | (apply PRun.skip; rfl; rfl; exact bsB) | (apply J.cond_t; rfl) | (apply J.cond_f; rfl) | apply J.exit | apply E.then_exit | apply E.in_exit | (apply E.in_other; rfl))
  (refine J.ret ?_; (repeat (first | refine E.then_ret ?_ | refine E.in_ret ?_)))
  exact E.ret2 rfl rfl rfl
set_option maxRecDepth 100000 in
set_option maxHeartbeats 2000000 in
theorem proofsTell (s : StreamS) (i n : Int) (hx : StreamOk s) (hi : -9223372036854775808 ≤ i ∧ i ≤ 9223372036854775807) (hn : -9223372036854775808 ≤ n ∧ n ≤ 9223372036854775807) : Fn Tryd.prog 3 [streamT.val s, is (.int .i64 i), is (.int .i64 n)] (is (.bool true)) := by
  by_cases hbig : 80 < s.recs.length
  · have hm := hx.2.2.2
    unfold maxLen at hm
    refine Fn.mk' 95 Tryd.func3 rfl rfl rfl rfl fun w0 H0 => ?_
    repeat (first | ((first | (apply Lq.s; rfl) | apply PRun.s | (apply Lq.run; rfl; rfl; rfl; exact bsB) | (apply PRun.run; rfl; rfl; exact bsB)); first | (apply op_box streamT; rfl) | (apply op_faddr stream_recs; rfl; decide) | (apply op_load (slT recT); rfl) | (apply op_load streamT; rfl) | (apply op_len (xs := s.recs); rfl) | (apply op_call lives_fn; exact bsD) | (exact bsO)) | apply J.seq | apply E.next | apply J.lq | apply Lq.nil | apply PRun.nil | apply J.block | apply E.in_normal | apply J.skip | (apply Lq.store; rfl; rfl; exact bsP; exact bsS; rfl; rfl) | (apply PRun.al; rfl) | (apply Lq.al; rfl; rfl; intro b) | (apply Open.cons; intro b) | apply Open.nil | (apply Lq.pass; rfl; rfl; rfl) | (apply PRun.pass; rfl; rfl) | (apply Lq.skip; rfl; rfl; rfl; exact bsB) | (apply PRun.skip; rfl; rfl; exact bsB) | (apply J.cond_t; rfl) | (apply J.cond_f; rfl) | apply J.exit | apply E.then_exit | apply E.in_exit | (apply E.in_other; rfl))
    (refine J.ret ?_; (repeat (first | refine E.then_ret ?_ | refine E.in_ret ?_)))
    exact E.ret1 rfl rfl
  have hl : s.recs.length ≤ 80 := by omega
  obtain ⟨a, e, A1, A2⟩ := rroot_both s n (by omega)
  obtain ⟨p, g, hp, B1, B2⟩ := rinc_both s i n (by omega)
  obtain ⟨q, j, hq, C1, C2⟩ := rcon_both s i n (by omega)
  have P1 := same25_fn p hp
  have P2 := same25_fn q hq
  refine Fn.mk' 95 Tryd.func3 rfl rfl rfl rfl fun w0 H0 => ?_
  repeat (first | ((first | (apply Lq.s; rfl) | apply PRun.s | (apply Lq.run; rfl; rfl; rfl; exact bsB) | (apply PRun.run; rfl; rfl; exact bsB)); first | (apply op_box streamT; rfl) | (apply op_faddr stream_recs; rfl; decide) | (apply op_load (slT recT); rfl) | (apply op_load streamT; rfl) | (apply op_len (xs := s.recs); rfl) | (apply op_call A1; exact bsD) | (exact bsO)) | apply J.seq | apply E.next | apply J.lq | apply Lq.nil | apply PRun.nil | apply J.block | apply E.in_normal | apply J.skip | (apply Lq.store; rfl; rfl; exact bsP; exact bsS; rfl; rfl) | (apply PRun.al; rfl) | (apply Lq.al; rfl; rfl; intro b) | (apply Open.cons; intro b) | apply Open.nil | (apply Lq.pass; rfl; rfl; rfl) | (apply PRun.pass; rfl; rfl) | (apply Lq.skip; rfl; rfl; rfl; exact bsB) | (apply PRun.skip; rfl; rfl; exact bsB) | (apply J.cond_t; rfl) | (apply J.cond_f; rfl) | apply J.exit | apply E.then_exit | apply E.in_exit | (apply E.in_other; rfl))
  (apply Lq.storeE (φs' := hashT.cells a); rfl; rfl; exact List.Perm.refl _; exact Seg.val _ _; exact hashT.len _; exact Nat.le_refl 32; exact splice_all (by rw [hashT.len]; rfl))
  repeat (first | ((first | (apply Lq.s; rfl) | apply PRun.s | (apply Lq.run; rfl; rfl; rfl; exact bsB) | (apply PRun.run; rfl; rfl; exact bsB)); first | (apply op_box streamT; rfl) | (apply op_faddr stream_recs; rfl; decide) | (apply op_load (slT recT); rfl) | (apply op_load streamT; rfl) | (apply op_len (xs := s.recs); rfl) | (apply op_call A2; exact bsD) | (exact bsO)) | apply J.seq | apply E.next | apply J.lq | apply Lq.nil | apply PRun.nil | apply J.block | apply E.in_normal | apply J.skip | (apply Lq.store; rfl; rfl; exact bsP; exact bsS; rfl; rfl) | (apply PRun.al; rfl) | (apply Lq.al; rfl; rfl; intro b) | (apply Open.cons; intro b) | apply Open.nil | (apply Lq.pass; rfl; rfl; rfl) | (apply PRun.pass; rfl; rfl) | (apply Lq.skip; rfl; rfl; rfl; exact bsB) | (apply PRun.skip; rfl; rfl; exact bsB) | (apply J.cond_t; rfl) | (apply J.cond_f; rfl) | apply J.exit | apply E.then_exit | apply E.in_exit | (apply E.in_other; rfl))
  (apply Lq.storeE (φs' := hashT.cells a); rfl; rfl; exact List.Perm.refl _; exact Seg.val _ _; exact hashT.len _; exact Nat.le_refl 32; exact splice_all (by rw [hashT.len]; rfl))
  repeat (first | ((first | (apply Lq.s; rfl) | apply PRun.s | (apply Lq.run; rfl; rfl; rfl; exact bsB) | (apply PRun.run; rfl; rfl; exact bsB)); first | (apply op_box streamT; rfl) | (apply op_faddr stream_recs; rfl; decide) | (apply op_load (slT recT); rfl) | (apply op_load streamT; rfl) | (apply op_len (xs := s.recs); rfl) | (apply op_call B1; exact bsD) | (apply op_call B2; exact bsD) | (apply op_call C1; exact bsD) | (apply op_call C2; exact bsD) | (apply op_oload hashT (x := a); rfl; exact bsM; exact at_hash a) | (apply op_eqA_t (T := hashT) (m := 2) (eqd_arr eqd_u8) rfl rfl; rfl; rfl; rfl) | (apply op_call P1; exact bsD) | (apply op_call P2; exact bsD) | (apply op_call lives_fn; exact bsD) | (exact bsO)) | apply J.seq | apply E.next | apply J.lq | apply Lq.nil | apply PRun.nil | apply J.block | apply E.in_normal | apply J.skip | (apply Lq.store; rfl; rfl; exact bsP; exact bsS; rfl; rfl) | (apply PRun.al; rfl) | (apply Lq.al; rfl; rfl; intro b) | (apply Open.cons; intro b) | apply Open.nil | (apply Lq.pass; rfl; rfl; rfl) | (apply PRun.pass; rfl; rfl) | (apply Lq.skip; rfl; rfl; rfl; exact bsB) | (apply PRun.skip; rfl; rfl; exact bsB) | (apply J.cond_t; rfl) | (apply J.cond_f; rfl) | apply J.exit | apply E.then_exit | apply E.in_exit | (apply E.in_other; rfl))
  (refine J.ret ?_; (repeat (first | refine E.then_ret ?_ | refine E.in_ret ?_)))
  exact E.ret1 rfl rfl
end
end Go.Proofs.YtkhgebacgkgpcaaDoor.L
