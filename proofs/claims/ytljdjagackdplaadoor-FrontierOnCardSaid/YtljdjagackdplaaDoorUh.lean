/-
  The edge's root, walked; edges that are loaded.
-/
import Derived.Test.YtljdjagackdplaaDoorUg
namespace Go.Proofs.YtljdjagackdplaaDoor.L
open Go
set_option linter.unusedSectionVars false
variable [Globs] [Has_sha_table] [Has_sha_begin]
set_option linter.unusedVariables false
set_option linter.unusedVariables false
set_option linter.unusedSimpArgs false
attribute [local irreducible] J Lq E OpP PRun is any agg tup ptr sl PRunW OpE
attribute [local irreducible] up2 mroot nodeH leafH emptyH shaH ownAt row someL leafOf splitZ split rv join2 edge rootE o1 o2 o3
theorem backward_fnR (l : List Hash) : FnR Tryd.prog 46 [sl hashT.toTy l] [] (fun ψ Δ => ∃ b1, ψ = is (.func (.func 56) #[] [.pointer (some ⟨b1, 0, none⟩)].toArray) ∧ Δ = [own b1 22 [sl hashT.toTy l]]) := by
  refine FnR.mk' 4 Tryd.func46 rfl rfl rfl rfl fun w0 H0 => ?_
  refine J.seq ?_
  refine J.lq ?_
  refine Lq.box rfl rfl Seg.sl ?_
  intro b1
  repeat (first | ((first | (apply Lq.s; rfl) | apply PRun.s | (apply Lq.run; rfl; rfl; rfl; exact bsB) | (apply PRun.run; rfl; rfl; exact bsB)); first | (apply op_makeFunc (vs := [_]); exact bsD) | (exact bsO)) | apply J.seq | apply E.next | apply J.lq | apply Lq.nil | apply PRun.nil | apply J.block | apply E.in_normal | apply J.skip | (apply Lq.store; rfl; rfl; exact bsP; exact bsS; rfl; rfl) | (apply PRun.al; rfl) | (apply Lq.al; rfl; rfl; intro b) | (apply Open.cons; intro b) | apply Open.nil | (apply Lq.pass; rfl; rfl; rfl) | (apply PRun.pass; rfl; rfl) | (apply Lq.skip; rfl; rfl; rfl; exact bsB) | (apply PRun.skip; rfl; rfl; exact bsB) | (apply J.cond_t; rfl) | (apply J.cond_f; rfl) | apply J.exit | apply E.then_exit | apply E.in_exit | (apply E.in_other; rfl))
  (refine J.ret ?_; (repeat (first | refine E.then_ret ?_ | refine E.in_ret ?_)))
  exact E.retR1 (G := []) rfl rfl ⟨b1, rfl, rfl⟩ (List.Perm.refl _)
theorem drop_one {α : Type} {l : List α} {k : Nat} {x : α} (h : l[k]? = some x) : (l.drop k).reverse = (l.drop (k + 1)).reverse ++ [x] := by
  obtain ⟨hl, hh⟩ := List.getElem?_eq_some_iff.1 h
  rw [List.drop_eq_getElem_cons hl, hh, List.reverse_cons]
set_option maxHeartbeats 1000000 in
theorem back1_fnR (V : Hash → List Res → Prop) (lp : Nat) (r : Loop) (H1 : IH) (b1 : Nat) (l : List Hash) (acc0 : Hash) (Δ0 : List Res) (hl : l.length ≤ 90000) (hV : V acc0 Δ0)
    (Y : ∀ (i : Nat) (x acc : Hash) Δc, V acc Δc → YR Tryd.prog lp [is (.int .i64 (i : Int)), hashT.val x] (loopL lp r H1 Δc) (fun Δ' => ∃ Δd, V (nodeH x acc) Δd ∧ Δ' = loopL lp r H1 Δd)) :
    FnR Tryd.prog 56 [is (.func (.yield lp) #[] #[]), is (.pointer (some ⟨b1, 0, none⟩))] (own b1 22 [sl hashT.toTy l] :: loopL lp r H1 Δ0)
      (fun _ Δ' => ∃ Δc, V (l.reverse.foldl (fun acc h => nodeH h acc) acc0) Δc ∧ Δ' = loopL lp r H1 Δc) := by
  refine FnR.mk' 19 Tryd.func56 rfl rfl rfl rfl fun w0 H0 => ?_
  generalize hw : l.reverse.foldl (fun acc h => nodeH h acc) acc0 = want
  repeat (first | ((first | (apply Lq.s; rfl) | apply PRun.s | (apply Lq.run; rfl; rfl; rfl; exact bsB) | (apply PRun.run; rfl; rfl; exact bsB)); first | (apply op_oload (slT hashT); rfl; exact bsM; rfl) | (apply op_sub (c := (l.length : Int) - 1); rfl; rfl; (apply wrapi <;> omega)) | (exact bsO)) | apply J.seq | apply E.next | apply J.lq | apply Lq.nil | apply PRun.nil | apply J.block | apply E.in_normal | apply J.skip | (apply Lq.store; rfl; rfl; exact bsP; exact bsS; rfl; rfl) | (apply PRun.al; rfl) | (apply Lq.al; rfl; rfl; intro b) | (apply Open.cons; intro b) | apply Open.nil | (apply Lq.pass; rfl; rfl; rfl) | (apply PRun.pass; rfl; rfl) | (apply Lq.skip; rfl; rfl; rfl; exact bsB) | (apply PRun.skip; rfl; rfl; exact bsB) | (apply J.drawN; exact mixed; kernel_rfl) | (apply J.cond_t; rfl) | (apply J.cond_f; rfl) | apply J.exit | apply E.then_exit | apply E.in_exit | (apply E.in_other; rfl))
  refine J.loop (fun p : Nat × Hash × List Res => p.1 ≤ l.length ∧ p.2.1 = (l.drop p.1).reverse.foldl (fun acc h => nodeH h acc) acc0 ∧ V p.2.1 p.2.2)
    (fun p => [(0, is (.func (.yield lp) #[] #[])), (1, is (.pointer (some ⟨b1, 0, none⟩))), (3, is (.int .i64 ((p.1 : Int) - 1)))])
    (fun p => own b1 22 [sl hashT.toTy l] :: loopL lp r H1 p.2.2) (fun p => p.1) (l.length, acc0, Δ0) ⟨Nat.le_refl _, by dsimp only; rw [List.drop_length]; rfl, hV⟩ (Sub.same (by repeat' (first | exact trivial | refine ⟨rfl, ?_⟩))) ?_
  rintro ⟨k, acc, Δc⟩ ⟨hk, hacc, hVc⟩
  dsimp only at hk hacc hVc ⊢
  cases k with
  | zero =>
    rw [List.drop_zero, hw] at hacc
    subst hacc
    repeat (first | ((first | (apply Lq.s; rfl) | apply PRun.s | (apply Lq.run; rfl; rfl; rfl; exact bsB) | (apply PRun.run; rfl; rfl; exact bsB)); first | (exact bsO)) | apply J.seq | apply E.next | apply J.lq | apply Lq.nil | apply PRun.nil | apply J.block | apply E.in_normal | apply J.skip | (apply Lq.store; rfl; rfl; exact bsP; exact bsS; rfl; rfl) | (apply PRun.al; rfl) | (apply Lq.al; rfl; rfl; intro b) | (apply Open.cons; intro b) | apply Open.nil | (apply Lq.pass; rfl; rfl; rfl) | (apply PRun.pass; rfl; rfl) | (apply Lq.skip; rfl; rfl; rfl; exact bsB) | (apply PRun.skip; rfl; rfl; exact bsB) | (apply J.drawN; exact mixed; kernel_rfl) | (apply J.cond_t; rfl) | (apply J.cond_f; rfl) | apply J.exit | apply E.then_exit | apply E.in_exit | (apply E.in_other; rfl))
    exact E.retR0 (G := [_]) .normal (.inr rfl) rfl (fun _ => any_h) ⟨Δc, hVc, rfl⟩ (List.perm_append_comm (l₁ := [_]))
  | succ i =>
    obtain ⟨x, hx⟩ : ∃ x, l[i]? = some x := ⟨_, List.getElem?_eq_getElem (by omega)⟩
    rw [show ((i + 1 : Nat) : Int) - 1 = (i : Int) by omega]
    have Y1 := Y i x acc Δc hVc
    repeat (first | ((first | (apply Lq.s; rfl) | apply PRun.s | (apply Lq.run; rfl; rfl; rfl; exact bsB) | (apply PRun.run; rfl; rfl; exact bsB)); first | (apply op_oload (slT hashT); rfl; exact bsM; rfl) | (apply op_iaddr hashT.toTy (x := x); rfl; rfl; exact Int.natCast_nonneg _; (rw [Int.toNat_natCast]; exact hx)) | (apply op_load hashT; rfl) | (exact bsO)) | apply J.seq | apply E.next | apply J.lq | apply Lq.nil | apply PRun.nil | apply J.block | apply E.in_normal | apply J.skip | (apply Lq.store; rfl; rfl; exact bsP; exact bsS; rfl; rfl) | (apply PRun.al; rfl) | (apply Lq.al; rfl; rfl; intro b) | (apply Open.cons; intro b) | apply Open.nil | (apply Lq.pass; rfl; rfl; rfl) | (apply PRun.pass; rfl; rfl) | (apply Lq.skip; rfl; rfl; rfl; exact bsB) | (apply PRun.skip; rfl; rfl; exact bsB) | (apply J.drawN; exact mixed; kernel_rfl) | (apply J.cond_t; rfl) | (apply J.cond_f; rfl) | apply J.exit | apply E.then_exit | apply E.in_exit | (apply E.in_other; rfl))
    refine Lq.callY Y1 rfl rfl bsD (List.perm_append_comm (l₁ := [_])) ?_
    rintro _ ⟨Δd, hVd, rfl⟩
    refine Lq.perm (List.perm_append_comm (l₂ := [_])) ?_
    repeat (first | ((first | (apply Lq.s; rfl) | apply PRun.s | (apply Lq.run; rfl; rfl; rfl; exact bsB) | (apply PRun.run; rfl; rfl; exact bsB)); first | (apply op_sub (c := (i : Int) - 1); rfl; rfl; (apply wrapi <;> omega)) | (exact bsO)) | apply J.seq | apply E.next | apply J.lq | apply Lq.nil | apply PRun.nil | apply J.block | apply E.in_normal | apply J.skip | (apply Lq.store; rfl; rfl; exact bsP; exact bsS; rfl; rfl) | (apply PRun.al; rfl) | (apply Lq.al; rfl; rfl; intro b) | (apply Open.cons; intro b) | apply Open.nil | (apply Lq.pass; rfl; rfl; rfl) | (apply PRun.pass; rfl; rfl) | (apply Lq.skip; rfl; rfl; rfl; exact bsB) | (apply PRun.skip; rfl; rfl; exact bsB) | (apply J.drawN; exact mixed; kernel_rfl) | (apply J.cond_t; rfl) | (apply J.cond_f; rfl) | apply J.exit | apply E.then_exit | apply E.in_exit | (apply E.in_other; rfl))
    exact E.again (i, nodeH x acc, Δd) (by dsimp only; omega) ⟨by dsimp only; omega, by dsimp only; rw [drop_one hx, List.foldl_append, ← hacc]; rfl, hVd⟩ (Sub.same (by repeat' (first | exact trivial | refine ⟨rfl, ?_⟩)))
set_option maxHeartbeats 2000000 in
theorem froot_fnR (fb many : Nat) (hs : List Hash) (fA : Option Addr) (fc : Nat) (hl : hs.length ≤ 90000) : FnR Tryd.prog 29 [is (.pointer (some ⟨fb, 0, none⟩))] (frL fb hs many fA fc) (fun ψ Δ => ψ = hashT.val (rootE hs) ∧ Δ = frL fb hs many fA fc) := by
  have ha := all_fnR fb many hs fA fc hl
  refine FnR.mkM 36 Tryd.func29 rfl rfl rfl rfl fun w0 H0 => ?_
  repeat (first | ((first | (apply Lq.s; rfl) | apply PRun.s | (apply Lq.run; rfl; rfl; rfl; exact bsB) | (apply PRun.run; rfl; rfl; exact bsB)); first | (apply op_peq; rfl; rfl) | (apply op_ofaddr; rfl; decide) | (exact bsO)) | apply J.seq | apply E.next | apply J.lq | apply Lq.nil | apply PRun.nil | apply J.block | apply E.in_normal | apply J.skip | (apply Lq.store; rfl; rfl; exact bsP; exact bsS; rfl; rfl) | (apply PRun.al; rfl) | (apply Lq.al; rfl; rfl; intro b) | (apply Open.cons; intro b) | apply Open.nil | (apply Lq.pass; rfl; rfl; rfl) | (apply PRun.pass; rfl; rfl) | (apply Lq.skip; rfl; rfl; rfl; exact bsB) | (apply PRun.skip; rfl; rfl; exact bsB) | (apply J.cond_t; rfl) | (apply J.cond_f; rfl) | apply J.exit | apply E.then_exit | apply E.in_exit | (apply E.in_other; rfl))
  revert b
  intro b2
  refine Lq.callS (Δf := [_]) ha rfl bsD (List.perm_append_comm (l₁ := [_])) ?_
  rintro _ _ ⟨A2, c2, rfl, rfl⟩
  refine Lq.freeze 13 rfl (List.Perm.refl _) ?_
  refine Lq.perm (List.perm_append_comm (l₂ := [_])) ?_
  rcases List.eq_nil_or_concat hs with rfl | ⟨init, x, rfl⟩
  · have hp0 : ([] : List Hash).length = 0 := rfl
    repeat (first | ((first | (apply Lq.s; rfl) | apply PRun.s | (apply Lq.run; rfl; rfl; rfl; exact bsB) | (apply PRun.run; rfl; rfl; exact bsB)); first | (apply op_len (xs := ([] : List Hash)); rfl) | (apply op_call emptyH_fn; exact bsD) | (exact bsO)) | apply J.seq | apply E.next | apply J.lq | apply Lq.nil | apply PRun.nil | apply J.block | apply E.in_normal | apply J.skip | (apply Lq.store; rfl; rfl; exact bsP; exact bsS; rfl; rfl) | (apply PRun.al; rfl) | (apply Lq.al; rfl; rfl; intro b) | (apply Open.cons; intro b) | apply Open.nil | (apply Lq.pass; rfl; rfl; rfl) | (apply PRun.pass; rfl; rfl) | (apply Lq.skip; rfl; rfl; rfl; exact bsB) | (apply PRun.skip; rfl; rfl; exact bsB) | (apply J.cond_t; rfl) | (apply J.cond_f; rfl) | apply J.exit | apply E.then_exit | apply E.in_exit | (apply E.in_other; rfl))
    refine Lq.storeE (φs' := hashT.cells emptyH) rfl rfl (List.Perm.refl _) (Seg.val hashT _) (hashT.len _) (Nat.le_refl 32) (splice_all (by rw [hashT.len]; rfl)) ?_
    repeat (first | ((first | (apply Lq.s; rfl) | apply PRun.s | (apply Lq.run; rfl; rfl; rfl; exact bsB) | (apply PRun.run; rfl; rfl; exact bsB)); first | (exact bsO)) | apply J.seq | apply E.next | apply J.lq | apply Lq.nil | apply PRun.nil | apply J.block | apply E.in_normal | apply J.skip | (apply Lq.store; rfl; rfl; exact bsP; exact bsS; rfl; rfl) | (apply PRun.al; rfl) | (apply Lq.al; rfl; rfl; intro b) | (apply Open.cons; intro b) | apply Open.nil | (apply Lq.pass; rfl; rfl; rfl) | (apply PRun.pass; rfl; rfl) | (apply Lq.skip; rfl; rfl; rfl; exact bsB) | (apply PRun.skip; rfl; rfl; exact bsB) | (apply J.cond_t; rfl) | (apply J.cond_f; rfl) | apply J.exit | apply E.then_exit | apply E.in_exit | (apply E.in_other; rfl))
    (refine J.ret ?_; (repeat (first | refine E.then_ret ?_ | refine E.in_ret ?_)))
    refine E.markNo ?_
    exact E.retRc hashT (x := emptyH) (G := [_]) rfl rfl List.mem_cons_self (take_hash _) ⟨by rw [rootE_nil], rfl⟩ (List.perm_append_comm (l₁ := [_]))
  · rw [List.concat_eq_append] at *
    have hll : (init ++ [x]).length = init.length + 1 := by rw [List.length_append]; rfl
    have hat : (init ++ [x])[init.length]? = some x := by rw [List.getElem?_append_right (Nat.le_refl _), Nat.sub_self]; rfl
    have htk : (init ++ [x]).take init.length = init := List.take_left' rfl
    have hr := rootE_snoc init x
    generalize rootE (init ++ [x]) = rt at hr ⊢
    generalize hq : init ++ [x] = hs at *
    repeat (first | ((first | (apply Lq.s; rfl) | apply PRun.s | (apply Lq.run; rfl; rfl; rfl; exact bsB) | (apply PRun.run; rfl; rfl; exact bsB)); first | (apply op_len (xs := hs); rfl) | (apply op_sub (c := (init.length : Int)); rfl; rfl; (rw [show (hs.length : Int) - 1 = (init.length : Int) by omega]; apply wrapi <;> omega)) | (apply op_iaddr hashT.toTy (x := x); rfl; rfl; exact Int.natCast_nonneg _; (rw [Int.toNat_natCast]; exact hat)) | (apply op_load hashT; rfl) | (exact bsO)) | apply J.seq | apply E.next | apply J.lq | apply Lq.nil | apply PRun.nil | apply J.block | apply E.in_normal | apply J.skip | (apply Lq.store; rfl; rfl; exact bsP; exact bsS; rfl; rfl) | (apply PRun.al; rfl) | (apply Lq.al; rfl; rfl; intro b) | (apply Open.cons; intro b) | apply Open.nil | (apply Lq.pass; rfl; rfl; rfl) | (apply PRun.pass; rfl; rfl) | (apply Lq.skip; rfl; rfl; rfl; exact bsB) | (apply PRun.skip; rfl; rfl; exact bsB) | (apply J.cond_t; rfl) | (apply J.cond_f; rfl) | apply J.exit | apply E.then_exit | apply E.in_exit | (apply E.in_other; rfl))
    revert b
    intro b4
    refine Lq.storeE (φs' := hashT.cells x) rfl rfl (List.Perm.refl _) (Seg.val hashT _) (hashT.len _) (Nat.le_refl 32) (splice_all (by rw [hashT.len]; rfl)) ?_
    repeat (first | ((first | (apply Lq.s; rfl) | apply PRun.s | (apply Lq.run; rfl; rfl; rfl; exact bsB) | (apply PRun.run; rfl; rfl; exact bsB)); first | (apply op_len (xs := hs); rfl) | (apply op_sub (c := (init.length : Int)); rfl; rfl; (rw [show (hs.length : Int) - 1 = (init.length : Int) by omega]; apply wrapi <;> omega)) | (apply op_ksl_hi' (T := hashT.toTy) (ys := init) (hi := init.length); rfl; rfl; omega; exact htk) | (exact bsO)) | apply J.seq | apply E.next | apply J.lq | apply Lq.nil | apply PRun.nil | apply J.block | apply E.in_normal | apply J.skip | (apply Lq.store; rfl; rfl; exact bsP; exact bsS; rfl; rfl) | (apply PRun.al; rfl) | (apply Lq.al; rfl; rfl; intro b) | (apply Open.cons; intro b) | apply Open.nil | (apply Lq.pass; rfl; rfl; rfl) | (apply PRun.pass; rfl; rfl) | (apply Lq.skip; rfl; rfl; rfl; exact bsB) | (apply PRun.skip; rfl; rfl; exact bsB) | (apply J.cond_t; rfl) | (apply J.cond_f; rfl) | apply J.exit | apply E.then_exit | apply E.in_exit | (apply E.in_other; rfl))
    refine Lq.callS (Δ0 := []) (Δf := own b4 23 (hashT.cells x) :: own b2 23 (hashT.cells zeroH) :: frL fb hs many fA fc) (backward_fnR init) rfl bsD (List.Perm.refl _) ?_
    rintro _ _ ⟨b1, rfl, rfl⟩
    repeat (first | ((first | (apply Lq.s; rfl) | apply PRun.s | (apply Lq.run; rfl; rfl; rfl; exact bsB) | (apply PRun.run; rfl; rfl; exact bsB)); first | (exact bsO)) | apply J.seq | apply E.next | apply J.lq | apply Lq.nil | apply PRun.nil | apply J.block | apply E.in_normal | apply J.skip | (apply Lq.store; rfl; rfl; exact bsP; exact bsS; rfl; rfl) | (apply PRun.al; rfl) | (apply Lq.al; rfl; rfl; intro b) | (apply Open.cons; intro b) | apply Open.nil | (apply Lq.pass; rfl; rfl; rfl) | (apply PRun.pass; rfl; rfl) | (apply Lq.skip; rfl; rfl; rfl; exact bsB) | (apply PRun.skip; rfl; rfl; exact bsB) | (apply J.cond_t; rfl) | (apply J.cond_f; rfl) | apply J.exit | apply E.then_exit | apply E.in_exit | (apply E.in_other; rfl))
    refine J.rangeF (lb := [_]) (Δ1 := [_]) (Δ0 := [own b4 23 (hashT.cells x)]) (Δf := own b2 23 (hashT.cells zeroH) :: frL fb hs many fA fc) (V := fun Δc => Δc = [own b4 23 (hashT.cells rt)]) rfl rfl rfl (List.Perm.refl _) ?_ ?_
    · intro fn lp D tm H1 htm hsnap
      rw [hr]
      refine back1_fnR (fun acc Δc => Δc = [own b4 23 (hashT.cells acc)]) lp _ H1 b1 init x _ (by omega) rfl ?_
      rintro i y acc _ rfl
      refine YR.ofM (fun _ : Nat => True) (fun b6 => [(6, is (.pointer (some ⟨b6, 0, none⟩))), (4, is (.pointer (some ⟨b4, 0, none⟩)))]) (fun b6 => [own b6 23 (hashT.cells y), own b4 23 (hashT.cells acc)]) htm (blt rfl) (blt rfl) hsnap ?_ ?_
      · intro w0 H0 X
        repeat (first | ((first | (apply Lq.s; rfl) | apply PRun.s | (apply Lq.run; rfl; rfl; rfl; exact bsB) | (apply PRun.run; rfl; rfl; exact bsB)); first | (exact bsO)) | apply J.seq | apply E.next | apply J.lq | apply Lq.nil | apply PRun.nil | apply J.block | apply E.in_normal | apply J.skip | (apply Lq.store; rfl; rfl; exact bsP; exact bsS; rfl; rfl) | (apply PRun.al; rfl) | (apply Lq.al; rfl; rfl; intro b) | (apply Open.cons; intro b) | apply Open.nil | (apply Lq.pass; rfl; rfl; rfl) | (apply PRun.pass; rfl; rfl) | (apply Lq.skip; rfl; rfl; rfl; exact bsB) | (apply PRun.skip; rfl; rfl; exact bsB) | (apply J.cond_t; rfl) | (apply J.cond_f; rfl) | apply J.exit | apply E.then_exit | apply E.in_exit | (apply E.in_other; rfl))
        refine Lq.storeE (φs' := hashT.cells y) rfl rfl (List.Perm.refl _) (Seg.val hashT _) (hashT.len _) (Nat.le_refl 32) (splice_all (by rw [hashT.len]; rfl)) ?_
        refine Lq.nil ?_
        exact E.mid b trivial (Sub.same (by repeat' (first | exact trivial | refine ⟨rfl, ?_⟩)))
      · intro b6 _ w0 H0 X
        repeat (first | ((first | (apply Lq.s; rfl) | apply PRun.s | (apply Lq.run; rfl; rfl; rfl; exact bsB) | (apply PRun.run; rfl; rfl; exact bsB)); first | (apply op_oload hashT (x := y); rfl; exact bsM; exact at_hash y) | (apply op_oload hashT (x := acc); rfl; exact bsM; exact at_hash acc) | (apply op_call (nodeH_fn y acc); exact bsD) | (exact bsO)) | apply J.seq | apply E.next | apply J.lq | apply Lq.nil | apply PRun.nil | apply J.block | apply E.in_normal | apply J.skip | (apply Lq.store; rfl; rfl; exact bsP; exact bsS; rfl; rfl) | (apply PRun.al; rfl) | (apply Lq.al; rfl; rfl; intro b) | (apply Open.cons; intro b) | apply Open.nil | (apply Lq.pass; rfl; rfl; rfl) | (apply PRun.pass; rfl; rfl) | (apply Lq.skip; rfl; rfl; rfl; exact bsB) | (apply PRun.skip; rfl; rfl; exact bsB) | (apply J.cond_t; rfl) | (apply J.cond_f; rfl) | apply J.exit | apply E.then_exit | apply E.in_exit | (apply E.in_other; rfl))
        refine Lq.storeE (φs' := hashT.cells (nodeH y acc)) rfl rfl (List.Perm.swap _ _ _) (Seg.val hashT _) (hashT.len _) (Nat.le_of_eq (hashT.len _).symm) (splice_all (by rw [hashT.len, hashT.len])) ?_
        repeat (first | ((first | (apply Lq.s; rfl) | apply PRun.s | (apply Lq.run; rfl; rfl; rfl; exact bsB) | (apply PRun.run; rfl; rfl; exact bsB)); first | (exact bsO)) | apply J.seq | apply E.next | apply J.lq | apply Lq.nil | apply PRun.nil | apply J.block | apply E.in_normal | apply J.skip | (apply Lq.store; rfl; rfl; exact bsP; exact bsS; rfl; rfl) | (apply PRun.al; rfl) | (apply Lq.al; rfl; rfl; intro b) | (apply Open.cons; intro b) | apply Open.nil | (apply Lq.pass; rfl; rfl; rfl) | (apply PRun.pass; rfl; rfl) | (apply Lq.skip; rfl; rfl; rfl; exact bsB) | (apply PRun.skip; rfl; rfl; exact bsB) | (apply J.cond_t; rfl) | (apply J.cond_f; rfl) | apply J.exit | apply E.then_exit | apply E.in_exit | (apply E.in_other; rfl))
        exact E.mid [own b4 23 (hashT.cells (nodeH y acc))] rfl ⟨trivial, [_], List.Perm.refl _⟩
    · rintro D _ rfl
      repeat (first | ((first | (apply Lq.s; rfl) | apply PRun.s | (apply Lq.run; rfl; rfl; rfl; exact bsB) | (apply PRun.run; rfl; rfl; exact bsB)); first | (apply op_oload hashT (x := rt); rfl; exact bsM; exact at_hash rt) | (exact bsO)) | apply J.seq | apply E.next | apply J.lq | apply Lq.nil | apply PRun.nil | apply J.block | apply E.in_normal | apply J.skip | (apply Lq.store; rfl; rfl; exact bsP; exact bsS; rfl; rfl) | (apply PRun.al; rfl) | (apply Lq.al; rfl; rfl; intro b) | (apply Open.cons; intro b) | apply Open.nil | (apply Lq.pass; rfl; rfl; rfl) | (apply PRun.pass; rfl; rfl) | (apply Lq.skip; rfl; rfl; rfl; exact bsB) | (apply PRun.skip; rfl; rfl; exact bsB) | (apply J.cond_t; rfl) | (apply J.cond_f; rfl) | apply J.exit | apply E.then_exit | apply E.in_exit | (apply E.in_other; rfl))
      refine Lq.storeE (φs' := hashT.cells rt) rfl rfl (List.perm_middle (l₁ := [_, _])) (Seg.val hashT _) (hashT.len _) (Nat.le_of_eq (hashT.len _).symm) (splice_all (by rw [hashT.len, hashT.len])) ?_
      repeat (first | ((first | (apply Lq.s; rfl) | apply PRun.s | (apply Lq.run; rfl; rfl; rfl; exact bsB) | (apply PRun.run; rfl; rfl; exact bsB)); first | (exact bsO)) | apply J.seq | apply E.next | apply J.lq | apply Lq.nil | apply PRun.nil | apply J.block | apply E.in_normal | apply J.skip | (apply Lq.store; rfl; rfl; exact bsP; exact bsS; rfl; rfl) | (apply PRun.al; rfl) | (apply Lq.al; rfl; rfl; intro b) | (apply Open.cons; intro b) | apply Open.nil | (apply Lq.pass; rfl; rfl; rfl) | (apply PRun.pass; rfl; rfl) | (apply Lq.skip; rfl; rfl; rfl; exact bsB) | (apply PRun.skip; rfl; rfl; exact bsB) | (apply J.cond_t; rfl) | (apply J.cond_f; rfl) | apply J.exit | apply E.then_exit | apply E.in_exit | (apply E.in_other; rfl))
      (refine J.ret ?_; (repeat (first | refine E.then_ret ?_ | refine E.in_ret ?_)))
      refine E.mark (List.Perm.swap _ _ _) ?_
      exact E.retRc hashT (x := rt) (G := [_, _]) rfl rfl List.mem_cons_self (take_hash _) ⟨rfl, rfl⟩ (List.perm_append_comm (l₁ := [_, _]))
theorem fload_bad (n : Int) (k : Nat) (hk : k ≤ 100000) (h0 : -9223372036854775808 ≤ n ∧ n ≤ 9223372036854775807) (h : n < 0 ∨ pop n.toNat ≠ k) : Fn Tryd.prog 23 [is (.int .i64 n), anySl k] (tup [is (.pointer none), is (.int .i64 2)]) := by
  by_cases h1 : n < 0
  · refine Fn.mk' 22 Tryd.func23 rfl rfl rfl rfl fun w0 H0 => ?_
    repeat (first | ((first | (apply Lq.s; rfl) | apply PRun.s | (apply Lq.run; rfl; rfl; rfl; exact bsB) | (apply PRun.run; rfl; rfl; exact bsB)); first | (exact bsO)) | apply J.seq | apply E.next | apply J.lq | apply Lq.nil | apply PRun.nil | apply J.block | apply E.in_normal | apply J.skip | (apply Lq.store; rfl; rfl; exact bsP; exact bsS; rfl; rfl) | (apply PRun.al; rfl) | (apply Lq.al; rfl; rfl; intro b) | (apply Open.cons; intro b) | apply Open.nil | (apply Lq.pass; rfl; rfl; rfl) | (apply PRun.pass; rfl; rfl) | (apply Lq.skip; rfl; rfl; rfl; exact bsB) | (apply PRun.skip; rfl; rfl; exact bsB) | (apply J.drawN; exact mixed; kernel_rfl) | (apply J.cond_t; rfl) | (apply J.cond_f; rfl) | apply J.exit | apply E.then_exit | apply E.in_exit | (apply E.in_other; rfl))
    (refine J.ret ?_; (repeat (first | refine E.then_ret ?_ | refine E.in_ret ?_)))
    exact E.ret2 rfl rfl rfl
  · obtain ⟨m, rfl⟩ : ∃ m : Nat, n = m := ⟨n.toNat, by omega⟩
    rw [Int.toNat_natCast] at h
    have ho := ones_fn m (by omega)
    have hne : pop m ≠ k := by
      rcases h with h | h
      · omega
      · exact h
    generalize pop m = r at *
    refine Fn.mk' 22 Tryd.func23 rfl rfl rfl rfl fun w0 H0 => ?_
    repeat (first | ((first | (apply Lq.s; rfl) | apply PRun.s | (apply Lq.run; rfl; rfl; rfl; exact bsB) | (apply PRun.run; rfl; rfl; exact bsB)); first | (apply op_conv (c := (m : Int)); rfl; exact wrapu' (by omega)) | (apply op_call ho; exact bsD) | (apply op_anylen; rfl) | (exact bsO)) | apply J.seq | apply E.next | apply J.lq | apply Lq.nil | apply PRun.nil | apply J.block | apply E.in_normal | apply J.skip | (apply Lq.store; rfl; rfl; exact bsP; exact bsS; rfl; rfl) | (apply PRun.al; rfl) | (apply Lq.al; rfl; rfl; intro b) | (apply Open.cons; intro b) | apply Open.nil | (apply Lq.pass; rfl; rfl; rfl) | (apply PRun.pass; rfl; rfl) | (apply Lq.skip; rfl; rfl; rfl; exact bsB) | (apply PRun.skip; rfl; rfl; exact bsB) | (apply J.drawN; exact mixed; kernel_rfl) | (apply J.cond_t; rfl) | (apply J.cond_f; rfl) | apply J.exit | apply E.then_exit | apply E.in_exit | (apply E.in_other; rfl))
    (refine J.ret ?_; (repeat (first | refine E.then_ret ?_ | refine E.in_ret ?_)))
    exact E.ret2 rfl rfl rfl
theorem fload_fnR (n : Nat) (hs : List Hash) (hl : hs.length ≤ 90000) (hn : n ≤ 9223372036854775807) (hp : hs.length = pop n) (fA : Option Addr) (fc e : Nat) : FnR Tryd.prog 23 [is (.int .i64 (n : Int)), is (.slice fA hs.length fc)] [row (.slice fA hs.length fc) e hashT.toTy hs]
    (fun ψ Δ => ∃ fb A' c', ψ = tup [is (.pointer (some ⟨fb, 0, none⟩)), is (.int .i64 0)] ∧ Δ = frL fb hs n A' c' ++ [row (.slice fA hs.length fc) e hashT.toTy hs]) := by
  have ho := ones_fn n (by omega)
  rw [← hp] at ho
  refine FnR.mk' 22 Tryd.func23 rfl rfl rfl rfl fun w0 H0 => ?_
  repeat (first | ((first | (apply Lq.s; rfl) | apply PRun.s | (apply Lq.run; rfl; rfl; rfl; exact bsB) | (apply PRun.run; rfl; rfl; exact bsB)); first | (apply op_conv (c := (n : Int)); rfl; exact wrapu' (by omega)) | (apply op_call ho; exact bsD) | (apply op_slen; rfl) | (exact bsO)) | apply J.seq | apply E.next | apply J.lq | apply Lq.nil | apply PRun.nil | apply J.block | apply E.in_normal | apply J.skip | (apply Lq.store; rfl; rfl; exact bsP; exact bsS; rfl; rfl) | (apply PRun.al; rfl) | (apply Lq.al; rfl; rfl; intro b) | (apply Open.cons; intro b) | apply Open.nil | (apply Lq.pass; rfl; rfl; rfl) | (apply PRun.pass; rfl; rfl) | (apply Lq.skip; rfl; rfl; rfl; exact bsB) | (apply PRun.skip; rfl; rfl; exact bsB) | (apply J.drawN; exact mixed; kernel_rfl) | (apply J.cond_t; rfl) | (apply J.cond_f; rfl) | apply J.exit | apply E.then_exit | apply E.in_exit | (apply E.in_other; rfl))
  refine Lq.callS (Δf := []) (clone_fnR hs (by omega) fA fc e) rfl bsD (List.Perm.refl _) ?_
  rintro _ _ ⟨A2, c2, rfl, rfl⟩
  repeat (first | ((first | (apply Lq.s; rfl) | apply PRun.s | (apply Lq.run; rfl; rfl; rfl; exact bsB) | (apply PRun.run; rfl; rfl; exact bsB)); first | (exact bsO)) | apply J.seq | apply E.next | apply J.lq | apply Lq.nil | apply PRun.nil | apply J.block | apply E.in_normal | apply J.skip | (apply Lq.store; rfl; rfl; exact bsP; exact bsS; rfl; rfl) | (apply PRun.al; rfl) | (apply Lq.al; rfl; rfl; intro b) | (apply Open.cons; intro b) | apply Open.nil | (apply Lq.pass; rfl; rfl; rfl) | (apply PRun.pass; rfl; rfl) | (apply Lq.skip; rfl; rfl; rfl; exact bsB) | (apply PRun.skip; rfl; rfl; exact bsB) | (apply J.drawN; exact mixed; kernel_rfl) | (apply J.cond_t; rfl) | (apply J.cond_f; rfl) | apply J.exit | apply E.then_exit | apply E.in_exit | (apply E.in_other; rfl))
  refine Lq.box rfl rfl Seg.agg ?_
  intro fb
  repeat (first | ((first | (apply Lq.s; rfl) | apply PRun.s | (apply Lq.run; rfl; rfl; rfl; exact bsB) | (apply PRun.run; rfl; rfl; exact bsB)); first | (exact bsO)) | apply J.seq | apply E.next | apply J.lq | apply Lq.nil | apply PRun.nil | apply J.block | apply E.in_normal | apply J.skip | (apply Lq.store; rfl; rfl; exact bsP; exact bsS; rfl; rfl) | (apply PRun.al; rfl) | (apply Lq.al; rfl; rfl; intro b) | (apply Open.cons; intro b) | apply Open.nil | (apply Lq.pass; rfl; rfl; rfl) | (apply PRun.pass; rfl; rfl) | (apply Lq.skip; rfl; rfl; rfl; exact bsB) | (apply PRun.skip; rfl; rfl; exact bsB) | (apply J.drawN; exact mixed; kernel_rfl) | (apply J.cond_t; rfl) | (apply J.cond_f; rfl) | apply J.exit | apply E.then_exit | apply E.in_exit | (apply E.in_other; rfl))
  (refine J.ret ?_; (repeat (first | refine E.then_ret ?_ | refine E.in_ret ?_)))
  exact E.retR2 (Δ' := frL fb hs n A2 c2 ++ [row (.slice fA hs.length fc) e hashT.toTy hs]) (G := []) rfl rfl rfl ⟨fb, A2, c2, rfl, rfl⟩ (List.Perm.refl _)
end Go.Proofs.YtljdjagackdplaaDoor.L
