/-
  include.Prove, walked: the parts that a place is not in, told one by one.
-/
import Derived.Test.YtafbkgijahinkaaDoorWa
import Derived.Test.YtafbkgijahinkaaDoorTi
import Derived.Test.YtafbkgijahinkaaDoorLv
namespace Go.Proofs.YtafbkgijahinkaaDoor.L
open Go
set_option linter.unusedSectionVars false
variable [Globs] [Has_sha_table] [Has_sha_begin]
set_option linter.unusedVariables false
set_option linter.unusedSimpArgs false
attribute [local irreducible] J Lq E OpP PRun is any agg tup ptr sl PRunW OpE
attribute [local irreducible] up2 mroot nodeH leafH emptyH shaH ownAt row someL leafOf splitZ split rv ways inc
theorem away_fnR (l : List Hash) (i : Nat) : FnR Tryd.prog 39 [sl hashT.toTy l, is (.int .i64 (i : Int))] [] (fun ψ Δ => ∃ b1 b2, ψ = is (.func (.func 54) #[] [.pointer (some ⟨b1, 0, none⟩), .pointer (some ⟨b2, 0, none⟩)].toArray) ∧ Δ = [own b2 3 [is (.int .i64 (i : Int))], own b1 39 [sl hashT.toTy l]]) := by
  refine FnR.mk' 6 Tryd.func39 rfl rfl rfl rfl fun w0 H0 => ?_
  refine J.seq ?_
  refine J.lq ?_
  refine Lq.box rfl rfl Seg.sl ?_
  intro b1
  refine Lq.box rfl rfl (Seg.is rfl) ?_
  intro b2
  repeat (first | ((first | (apply Lq.s; rfl) | apply PRun.s | (apply Lq.run; rfl; rfl; rfl; exact bsB) | (apply PRun.run; rfl; rfl; exact bsB)); first | (apply op_makeFunc (vs := [_, _]); exact bsD) | (exact bsO)) | apply J.seq | apply E.next | apply J.lq | apply Lq.nil | apply PRun.nil | apply J.block | apply E.in_normal | apply J.skip | (apply Lq.store; rfl; rfl; exact bsP; exact bsS; rfl; rfl) | (apply PRun.al; rfl) | (apply Lq.al; rfl; rfl; intro b) | (apply Open.cons; intro b) | apply Open.nil | (apply Lq.pass; rfl; rfl; rfl) | (apply PRun.pass; rfl; rfl) | (apply Lq.skip; rfl; rfl; rfl; exact bsB) | (apply PRun.skip; rfl; rfl; exact bsB) | (apply J.cond_t; rfl) | (apply J.cond_f; rfl) | apply J.exit | apply E.then_exit | apply E.in_exit | (apply E.in_other; rfl))
  (refine J.ret ?_; (repeat (first | refine E.then_ret ?_ | refine E.in_ret ?_)))
  exact E.retR1 (G := []) rfl rfl ⟨b1, b2, rfl, rfl⟩ (List.Perm.refl _)
set_option maxHeartbeats 1000000 in
theorem away1_fnR (V : List Hash → List Res → Prop) (lp : Nat) (r : Loop) (H1 : IH) (b1 b2 : Nat) (l : List Hash) (i : Nat) (Δ0 : List Res) (hl : l.length ≤ 90000) (hi : i < l.length) (hV : V [] Δ0)
    (Y : ∀ out part Δc, out.length ≤ 90000 → part.length ≤ 90000 → V out Δc → YR Tryd.prog lp [sl hashT.toTy part] (loopL lp r H1 Δc) (fun Δ' => ∃ Δd, V (out ++ [mroot part]) Δd ∧ Δ' = loopL lp r H1 Δd)) :
    FnR Tryd.prog 54 [is (.func (.yield lp) #[] #[]), is (.pointer (some ⟨b1, 0, none⟩)), is (.pointer (some ⟨b2, 0, none⟩))] (own b2 3 [is (.int .i64 (i : Int))] :: own b1 39 [sl hashT.toTy l] :: loopL lp r H1 Δ0)
      (fun _ Δ' => ∃ Δc, (∃ out, out.reverse = inc l i ∧ out.length ≤ l.length ∧ V out Δc) ∧ Δ' = loopL lp r H1 Δc) := by
  refine FnR.mk' 32 Tryd.func54 rfl rfl rfl rfl fun w0 H0 => ?_
  generalize hw : inc l i = want
  refine J.block ?_
  refine J.loop (fun p : List Hash × Nat × List Hash × List Res => p.2.1 < p.1.length ∧ p.1.length + p.2.2.1.length ≤ l.length ∧ want = inc p.1 p.2.1 ++ p.2.2.1.reverse ∧ V p.2.2.1 p.2.2.2)
    (fun p => [(0, is (.func (.yield lp) #[] #[])), (1, is (.pointer (some ⟨b1, 0, none⟩))), (2, is (.pointer (some ⟨b2, 0, none⟩)))])
    (fun p => own b1 39 [sl hashT.toTy p.1] :: own b2 3 [is (.int .i64 (p.2.1 : Int))] :: loopL lp r H1 p.2.2.2) (fun p => p.1.length) (l, i, [], Δ0) ⟨hi, by simp, by simp [hw], hV⟩ ⟨(by repeat' (first | exact trivial | refine ⟨rfl, ?_⟩)), [], by rw [List.append_nil]; exact List.Perm.swap _ _ _⟩ ?_
  rintro ⟨x, k, out, Δc⟩ ⟨hk, hlen, hwant, hVc⟩
  dsimp only at hk hlen hwant hVc ⊢
  by_cases h1 : 1 < x.length
  · have hsp := splitN_fn x.length (by omega)
    obtain ⟨s1, s2, s3⟩ := split_lt (n := x.length) (by omega)
    have l1 : (x.take (split x.length)).length = split x.length := by rw [List.length_take]; omega
    have l2 : (x.drop (split x.length)).length = x.length - split x.length := List.length_drop
    by_cases hks : k < split x.length
    · have hc := inc_left (by omega) hks
      generalize split x.length = s at *
      have Y1 := Y out (x.drop s) Δc (by omega) (by omega) hVc
      generalize mroot (x.drop s) = q at *
      repeat (first | ((first | (apply Lq.s; rfl) | apply PRun.s | (apply Lq.run; rfl; rfl; rfl; exact bsB) | (apply PRun.run; rfl; rfl; exact bsB)); first | (apply op_oload (slT hashT); rfl; exact bsM; rfl) | (apply op_call hsp; exact bsD) | (apply op_ksl_hi (T := hashT.toTy) (hi := s); rfl; rfl; omega) | (apply op_ksl_lo (T := hashT.toTy) (lo := s); rfl; rfl; omega) | (exact bsO)) | apply J.seq | apply E.next | apply J.lq | apply Lq.nil | apply PRun.nil | apply J.block | apply E.in_normal | apply J.skip | (apply Lq.store; rfl; rfl; exact bsP; exact bsS; rfl; rfl) | (apply PRun.al; rfl) | (apply Lq.al; rfl; rfl; intro b) | (apply Open.cons; intro b) | apply Open.nil | (apply Lq.pass; rfl; rfl; rfl) | (apply PRun.pass; rfl; rfl) | (apply Lq.skip; rfl; rfl; rfl; exact bsB) | (apply PRun.skip; rfl; rfl; exact bsB) | (apply J.drawN; exact mixed; kernel_rfl) | (apply J.cond_t; rfl) | (apply J.cond_f; rfl) | apply J.exit | apply E.then_exit | apply E.in_exit | (apply E.in_other; rfl))
      refine Lq.callY Y1 rfl rfl bsD (List.perm_append_comm (l₁ := [_, _])) ?_
      rintro _ ⟨Δd, hVd, rfl⟩
      refine Lq.perm (List.perm_append_comm (l₂ := [_, _])) ?_
      repeat (first | ((first | (apply Lq.s; rfl) | apply PRun.s | (apply Lq.run; rfl; rfl; rfl; exact bsB) | (apply PRun.run; rfl; rfl; exact bsB)); first | (exact bsO)) | apply J.seq | apply E.next | apply J.lq | apply Lq.nil | apply PRun.nil | apply J.block | apply E.in_normal | apply J.skip | (apply Lq.store; rfl; rfl; exact bsP; exact bsS; rfl; rfl) | (apply PRun.al; rfl) | (apply Lq.al; rfl; rfl; intro b) | (apply Open.cons; intro b) | apply Open.nil | (apply Lq.pass; rfl; rfl; rfl) | (apply PRun.pass; rfl; rfl) | (apply Lq.skip; rfl; rfl; rfl; exact bsB) | (apply PRun.skip; rfl; rfl; exact bsB) | (apply J.drawN; exact mixed; kernel_rfl) | (apply J.cond_t; rfl) | (apply J.cond_f; rfl) | apply J.exit | apply E.then_exit | apply E.in_exit | (apply E.in_other; rfl))
      exact E.again (x.take s, k, out ++ [q], Δd) (by dsimp only; omega) ⟨by dsimp only; omega, by dsimp only; rw [List.length_append]; show _ + (_ + 1) ≤ _; omega, by dsimp only; rw [hwant, hc, List.reverse_append]; simp, hVd⟩ (Sub.same (by repeat' (first | exact trivial | refine ⟨rfl, ?_⟩)))
    · have hc := inc_right (l := x) (i := k) (by omega) (by omega)
      generalize split x.length = s at *
      have Y1 := Y out (x.take s) Δc (by omega) (by omega) hVc
      generalize mroot (x.take s) = q at *
      repeat (first | ((first | (apply Lq.s; rfl) | apply PRun.s | (apply Lq.run; rfl; rfl; rfl; exact bsB) | (apply PRun.run; rfl; rfl; exact bsB)); first | (apply op_oload (slT hashT); rfl; exact bsM; rfl) | (apply op_call hsp; exact bsD) | (exact bsO)) | apply J.seq | apply E.next | apply J.lq | apply Lq.nil | apply PRun.nil | apply J.block | apply E.in_normal | apply J.skip | (apply Lq.store; rfl; rfl; exact bsP; exact bsS; rfl; rfl) | (apply PRun.al; rfl) | (apply Lq.al; rfl; rfl; intro b) | (apply Open.cons; intro b) | apply Open.nil | (apply Lq.pass; rfl; rfl; rfl) | (apply PRun.pass; rfl; rfl) | (apply Lq.skip; rfl; rfl; rfl; exact bsB) | (apply PRun.skip; rfl; rfl; exact bsB) | (apply J.cond_t; rfl) | (apply J.cond_f; rfl) | apply J.exit | apply E.then_exit | apply E.in_exit | (apply E.in_other; rfl))
      refine J.drawN mixed (by kernel_rfl) ?_
      repeat (first | ((first | (apply Lq.s; rfl) | apply PRun.s | (apply Lq.run; rfl; rfl; rfl; exact bsB) | (apply PRun.run; rfl; rfl; exact bsB)); first | (apply op_oload (slT hashT); rfl; exact bsM; rfl) | (apply op_ksl_hi (T := hashT.toTy) (hi := s); rfl; rfl; omega) | (apply op_ksl_lo (T := hashT.toTy) (lo := s); rfl; rfl; omega) | (exact bsO)) | apply J.seq | apply E.next | apply J.lq | apply Lq.nil | apply PRun.nil | apply J.block | apply E.in_normal | apply J.skip | (apply Lq.store; rfl; rfl; exact bsP; exact bsS; rfl; rfl) | (apply PRun.al; rfl) | (apply Lq.al; rfl; rfl; intro b) | (apply Open.cons; intro b) | apply Open.nil | (apply Lq.pass; rfl; rfl; rfl) | (apply PRun.pass; rfl; rfl) | (apply Lq.skip; rfl; rfl; rfl; exact bsB) | (apply PRun.skip; rfl; rfl; exact bsB) | (apply J.cond_t; rfl) | (apply J.cond_f; rfl) | apply J.exit | apply E.then_exit | apply E.in_exit | (apply E.in_other; rfl))
      refine J.drawW1 8 [(none, none), (none, none), (some 2, some 2), (none, none), (none, none), (none, none), (none, none), (some 2, some 2)] 2 (itemA b2 3 [is (.int .i64 (k : Int))]) rfl (by rw [itemA_self]; exact List.Perm.swap _ _ _) mixed (by kernel_rfl) ?_
      repeat (first | ((first | apply PRunW.s | (apply PRunW.run; rfl; rfl; exact bsB) | (apply Lq.s; rfl) | apply PRun.s | (apply Lq.run; rfl; rfl; rfl; exact bsB) | (apply PRun.run; rfl; rfl; exact bsB)); first | (exact bsO)) | apply J.seq | apply E.next | apply J.lq | apply Lq.nil | apply PRun.nil | apply J.block | apply E.in_normal | apply J.skip | (apply Lq.store; rfl; rfl; exact bsP; exact bsS; rfl; rfl) | (apply PRun.al; rfl) | (apply Lq.al; rfl; rfl; intro b) | (apply Open.cons; intro b) | apply Open.nil | (apply Lq.pass; rfl; rfl; rfl) | (apply PRun.pass; rfl; rfl) | (apply Lq.skip; rfl; rfl; rfl; exact bsB) | (apply PRun.skip; rfl; rfl; exact bsB) | (apply J.cond_t; rfl) | (apply J.cond_f; rfl) | apply J.exit | apply E.then_exit | apply E.in_exit | (apply E.in_other; rfl) | apply PRunW.nil | (apply PRunW.al; rfl) | (apply PRunW.pass; rfl; rfl) | (apply PRunW.skip; rfl; rfl; exact bsB) | (apply Open.pv; intro b) | apply Open.av | (apply Open.rv; intro A c))
      refine PRunW.ldG (intT .i64) (v := (k : Int)) (by decide) itemA_fst rfl rfl rfl ?_
      repeat (first | ((first | apply PRunW.s | (apply PRunW.run; rfl; rfl; exact bsB) | (apply Lq.s; rfl) | apply PRun.s | (apply Lq.run; rfl; rfl; rfl; exact bsB) | (apply PRun.run; rfl; rfl; exact bsB)); first | (apply op_sub (c := ((k - s : Nat) : Int)); rfl; rfl; (rw [show (k : Int) - (s : Int) = ((k - s : Nat) : Int) by omega]; apply wrapi <;> omega)) | (exact bsO)) | apply J.seq | apply E.next | apply J.lq | apply Lq.nil | apply PRun.nil | apply J.block | apply E.in_normal | apply J.skip | (apply Lq.store; rfl; rfl; exact bsP; exact bsS; rfl; rfl) | (apply PRun.al; rfl) | (apply Lq.al; rfl; rfl; intro b) | (apply Open.cons; intro b) | apply Open.nil | (apply Lq.pass; rfl; rfl; rfl) | (apply PRun.pass; rfl; rfl) | (apply Lq.skip; rfl; rfl; rfl; exact bsB) | (apply PRun.skip; rfl; rfl; exact bsB) | (apply J.cond_t; rfl) | (apply J.cond_f; rfl) | apply J.exit | apply E.then_exit | apply E.in_exit | (apply E.in_other; rfl) | apply PRunW.nil | (apply PRunW.al; rfl) | (apply PRunW.pass; rfl; rfl) | (apply PRunW.skip; rfl; rfl; exact bsB) | (apply Open.pv; intro b) | apply Open.av | (apply Open.rv; intro A c))
      refine PRunW.stA (φs' := [is (.int .i64 ((k - s : Nat) : Int))]) rfl rfl rfl (Seg.is rfl) rfl (Nat.le_refl _) rfl ?_
      refine PRunW.nil (Open.av (Open.nil ?_))
      repeat (first | ((first | (apply Lq.s; rfl) | apply PRun.s | (apply Lq.run; rfl; rfl; rfl; exact bsB) | (apply PRun.run; rfl; rfl; exact bsB)); first | (exact bsO)) | apply J.seq | apply E.next | apply J.lq | apply Lq.nil | apply PRun.nil | apply J.block | apply E.in_normal | apply J.skip | (apply Lq.store; rfl; rfl; exact bsP; exact bsS; rfl; rfl) | (apply PRun.al; rfl) | (apply Lq.al; rfl; rfl; intro b) | (apply Open.cons; intro b) | apply Open.nil | (apply Lq.pass; rfl; rfl; rfl) | (apply PRun.pass; rfl; rfl) | (apply Lq.skip; rfl; rfl; rfl; exact bsB) | (apply PRun.skip; rfl; rfl; exact bsB) | (apply J.cond_t; rfl) | (apply J.cond_f; rfl) | apply J.exit | apply E.then_exit | apply E.in_exit | (apply E.in_other; rfl))
      refine Lq.callY Y1 rfl rfl bsD (List.perm_append_comm (l₁ := [_, _])) ?_
      rintro _ ⟨Δd, hVd, rfl⟩
      refine Lq.perm ((List.perm_append_comm (l₂ := [_, _])).trans (List.Perm.swap _ _ _)) ?_
      repeat (first | ((first | (apply Lq.s; rfl) | apply PRun.s | (apply Lq.run; rfl; rfl; rfl; exact bsB) | (apply PRun.run; rfl; rfl; exact bsB)); first | (exact bsO)) | apply J.seq | apply E.next | apply J.lq | apply Lq.nil | apply PRun.nil | apply J.block | apply E.in_normal | apply J.skip | (apply Lq.store; rfl; rfl; exact bsP; exact bsS; rfl; rfl) | (apply PRun.al; rfl) | (apply Lq.al; rfl; rfl; intro b) | (apply Open.cons; intro b) | apply Open.nil | (apply Lq.pass; rfl; rfl; rfl) | (apply PRun.pass; rfl; rfl) | (apply Lq.skip; rfl; rfl; rfl; exact bsB) | (apply PRun.skip; rfl; rfl; exact bsB) | (apply J.drawN; exact mixed; kernel_rfl) | (apply J.cond_t; rfl) | (apply J.cond_f; rfl) | apply J.exit | apply E.then_exit | apply E.in_exit | (apply E.in_other; rfl))
      exact E.again (x.drop s, k - s, out ++ [q], Δd) (by dsimp only; omega) ⟨by dsimp only; omega, by dsimp only; rw [List.length_append]; show _ + (_ + 1) ≤ _; omega, by dsimp only; rw [hwant, hc, List.reverse_append]; simp, hVd⟩ (Sub.same (by repeat' (first | exact trivial | refine ⟨rfl, ?_⟩)))
  · rw [inc_one (by omega), List.nil_append] at hwant
    repeat (first | ((first | (apply Lq.s; rfl) | apply PRun.s | (apply Lq.run; rfl; rfl; rfl; exact bsB) | (apply PRun.run; rfl; rfl; exact bsB)); first | (apply op_oload (slT hashT); rfl; exact bsM; rfl) | (exact bsO)) | apply J.seq | apply E.next | apply J.lq | apply Lq.nil | apply PRun.nil | apply J.block | apply E.in_normal | apply J.skip | (apply Lq.store; rfl; rfl; exact bsP; exact bsS; rfl; rfl) | (apply PRun.al; rfl) | (apply Lq.al; rfl; rfl; intro b) | (apply Open.cons; intro b) | apply Open.nil | (apply Lq.pass; rfl; rfl; rfl) | (apply PRun.pass; rfl; rfl) | (apply Lq.skip; rfl; rfl; rfl; exact bsB) | (apply PRun.skip; rfl; rfl; exact bsB) | (apply J.drawN; exact mixed; kernel_rfl) | (apply J.cond_t; rfl) | (apply J.cond_f; rfl) | apply J.exit | apply E.then_exit | apply E.in_exit | (apply E.in_other; rfl))
    exact E.retR0 (G := [_, _]) .normal (.inr rfl) rfl (fun _ => any_h) ⟨Δc, ⟨out, hwant.symm, by omega, hVc⟩, rfl⟩ (List.perm_append_comm (l₁ := [_, _]))
theorem iprove_bad (l : List Hash) (i : Int) (hl : l.length ≤ 100000) (hi : i < 0 ∨ (l.length : Int) ≤ i) : Fn Tryd.prog 22 [sl hashT.toTy l, is (.int .i64 i)] (tup [is (.slice none 0 0), is (.int .i64 2)]) := by
  by_cases h1 : i < 0
  · refine Fn.mk' 28 Tryd.func22 rfl rfl rfl rfl fun w0 H0 => ?_
    repeat (first | ((first | (apply Lq.s; rfl) | apply PRun.s | (apply Lq.run; rfl; rfl; rfl; exact bsB) | (apply PRun.run; rfl; rfl; exact bsB)); first | (exact bsO)) | apply J.seq | apply E.next | apply J.lq | apply Lq.nil | apply PRun.nil | apply J.block | apply E.in_normal | apply J.skip | (apply Lq.store; rfl; rfl; exact bsP; exact bsS; rfl; rfl) | (apply PRun.al; rfl) | (apply Lq.al; rfl; rfl; intro b) | (apply Open.cons; intro b) | apply Open.nil | (apply Lq.pass; rfl; rfl; rfl) | (apply PRun.pass; rfl; rfl) | (apply Lq.skip; rfl; rfl; rfl; exact bsB) | (apply PRun.skip; rfl; rfl; exact bsB) | (apply J.drawN; exact mixed; kernel_rfl) | (apply J.cond_t; rfl) | (apply J.cond_f; rfl) | apply J.exit | apply E.then_exit | apply E.in_exit | (apply E.in_other; rfl))
    (refine J.ret ?_; (repeat (first | refine E.then_ret ?_ | refine E.in_ret ?_)))
    exact E.ret2 rfl rfl rfl
  · have h2 : (l.length : Int) ≤ i := by omega
    refine Fn.mk' 28 Tryd.func22 rfl rfl rfl rfl fun w0 H0 => ?_
    repeat (first | ((first | (apply Lq.s; rfl) | apply PRun.s | (apply Lq.run; rfl; rfl; rfl; exact bsB) | (apply PRun.run; rfl; rfl; exact bsB)); first | (exact bsO)) | apply J.seq | apply E.next | apply J.lq | apply Lq.nil | apply PRun.nil | apply J.block | apply E.in_normal | apply J.skip | (apply Lq.store; rfl; rfl; exact bsP; exact bsS; rfl; rfl) | (apply PRun.al; rfl) | (apply Lq.al; rfl; rfl; intro b) | (apply Open.cons; intro b) | apply Open.nil | (apply Lq.pass; rfl; rfl; rfl) | (apply PRun.pass; rfl; rfl) | (apply Lq.skip; rfl; rfl; rfl; exact bsB) | (apply PRun.skip; rfl; rfl; exact bsB) | (apply J.drawN; exact mixed; kernel_rfl) | (apply J.cond_t; rfl) | (apply J.cond_f; rfl) | apply J.exit | apply E.then_exit | apply E.in_exit | (apply E.in_other; rfl))
    (refine J.ret ?_; (repeat (first | refine E.then_ret ?_ | refine E.in_ret ?_)))
    exact E.ret2 rfl rfl rfl
set_option maxHeartbeats 1000000 in
theorem iprove_fnR (l : List Hash) (i : Nat) (hl : l.length ≤ 90000) (hi : i < l.length) : FnR Tryd.prog 22 [sl hashT.toTy l, is (.int .i64 (i : Int))] [] (fun ψ Δ => ∃ A c, ψ = tup [is (.slice A (inc l i).length c), is (.int .i64 0)] ∧ Δ = [row (.slice A (inc l i).length c) 32 hashT.toTy (inc l i)]) := by
  refine FnR.mkM 28 Tryd.func22 rfl rfl rfl rfl fun w0 H0 => ?_
  repeat (first | ((first | (apply Lq.s; rfl) | apply PRun.s | (apply Lq.run; rfl; rfl; rfl; exact bsB) | (apply PRun.run; rfl; rfl; exact bsB)); first | (exact bsO)) | apply J.seq | apply E.next | apply J.lq | apply Lq.nil | apply PRun.nil | apply J.block | apply E.in_normal | apply J.skip | (apply Lq.store; rfl; rfl; exact bsP; exact bsS; rfl; rfl) | (apply PRun.al; rfl) | (apply Lq.al; rfl; rfl; intro b) | (apply Open.cons; intro b) | apply Open.nil | (apply Lq.pass; rfl; rfl; rfl) | (apply PRun.pass; rfl; rfl) | (apply Lq.skip; rfl; rfl; rfl; exact bsB) | (apply PRun.skip; rfl; rfl; exact bsB) | (apply J.drawN; exact mixed; kernel_rfl) | (apply J.cond_t; rfl) | (apply J.cond_f; rfl) | apply J.exit | apply E.then_exit | apply E.in_exit | (apply E.in_other; rfl))
  revert b
  intro b6
  refine Lq.callS (Δ0 := []) (Δf := [own b6 39 [is (.slice none 0 0)]]) (away_fnR l i) rfl bsD (List.Perm.refl _) ?_
  rintro _ _ ⟨b1, b2, rfl, rfl⟩
  repeat (first | ((first | (apply Lq.s; rfl) | apply PRun.s | (apply Lq.run; rfl; rfl; rfl; exact bsB) | (apply PRun.run; rfl; rfl; exact bsB)); first | (exact bsO)) | apply J.seq | apply E.next | apply J.lq | apply Lq.nil | apply PRun.nil | apply J.block | apply E.in_normal | apply J.skip | (apply Lq.store; rfl; rfl; exact bsP; exact bsS; rfl; rfl) | (apply PRun.al; rfl) | (apply Lq.al; rfl; rfl; intro b) | (apply Open.cons; intro b) | apply Open.nil | (apply Lq.pass; rfl; rfl; rfl) | (apply PRun.pass; rfl; rfl) | (apply Lq.skip; rfl; rfl; rfl; exact bsB) | (apply PRun.skip; rfl; rfl; exact bsB) | (apply J.drawN; exact mixed; kernel_rfl) | (apply J.cond_t; rfl) | (apply J.cond_f; rfl) | apply J.exit | apply E.then_exit | apply E.in_exit | (apply E.in_other; rfl))
  refine J.nilrow 32 hashT.toTy ?_
  refine J.rangeF (lb := [_, _]) (Δ1 := [_, _]) (Δ0 := [_, _]) (Δf := []) (V := fun Δc => ∃ out, out.reverse = inc l i ∧ out.length ≤ l.length ∧ ∃ A c, Δc = [row (.slice A out.length c) 32 hashT.toTy out, own b6 39 [is (.slice A out.length c)]]) rfl rfl rfl (List.perm_middle (l₁ := [_, _])).symm ?_ ?_
  · intro fn lp D tm H1 htm hsnap
    refine away1_fnR (fun out Δc => ∃ A c, Δc = [row (.slice A out.length c) 32 hashT.toTy out, own b6 39 [is (.slice A out.length c)]]) lp _ H1 b1 b2 l i _ hl hi ⟨none, 0, rfl⟩ ?_
    rintro out part _ ho hp ⟨A, c, rfl⟩
    have hroot := root_fn part (by omega)
    generalize mroot part = q at *
    refine YR.of (Γ1 := [(7, sl hashT.toTy part), (6, is (.pointer (some ⟨b6, 0, none⟩)))]) htm (blt rfl) hsnap ?_ ?_
    · intro w0 H0 X
      repeat (first | ((first | (apply Lq.s; rfl) | apply PRun.s | (apply Lq.run; rfl; rfl; rfl; exact bsB) | (apply PRun.run; rfl; rfl; exact bsB)); first | (exact bsO)) | apply J.seq | apply E.next | apply J.lq | apply Lq.nil | apply PRun.nil | apply J.block | apply E.in_normal | apply J.skip | (apply Lq.store; rfl; rfl; exact bsP; exact bsS; rfl; rfl) | (apply PRun.al; rfl) | (apply Lq.al; rfl; rfl; intro b) | (apply Open.cons; intro b) | apply Open.nil | (apply Lq.pass; rfl; rfl; rfl) | (apply PRun.pass; rfl; rfl) | (apply Lq.skip; rfl; rfl; rfl; exact bsB) | (apply PRun.skip; rfl; rfl; exact bsB) | (apply J.drawN; exact mixed; kernel_rfl) | (apply J.cond_t; rfl) | (apply J.cond_f; rfl) | apply J.exit | apply E.then_exit | apply E.in_exit | (apply E.in_other; rfl))
      exact E.mid () trivial (Sub.same (by repeat' (first | exact trivial | refine ⟨rfl, ?_⟩)))
    · intro w0 H0 X
      repeat (first | ((first | (apply Lq.s; rfl) | apply PRun.s | (apply Lq.run; rfl; rfl; rfl; exact bsB) | (apply PRun.run; rfl; rfl; exact bsB)); first | (apply op_ocell; rfl; exact bsM; rfl) | (apply op_call hroot; exact bsD) | (apply op_bslice hashT (xs := [q]); (repeat (first | exact PO.nil _ | (apply PO.cons; rfl))); rfl; rfl; rfl) | (exact bsO)) | apply J.seq | apply E.next | apply J.lq | apply Lq.nil | apply PRun.nil | apply J.block | apply E.in_normal | apply J.skip | (apply Lq.store; rfl; rfl; exact bsP; exact bsS; rfl; rfl) | (apply PRun.al; rfl) | (apply Lq.al; rfl; rfl; intro b) | (apply Open.cons; intro b) | apply Open.nil | (apply Lq.pass; rfl; rfl; rfl) | (apply PRun.pass; rfl; rfl) | (apply Lq.skip; rfl; rfl; rfl; exact bsB) | (apply PRun.skip; rfl; rfl; exact bsB) | (apply J.drawN; exact mixed; kernel_rfl) | (apply J.cond_t; rfl) | (apply J.cond_f; rfl) | apply J.exit | apply E.then_exit | apply E.in_exit | (apply E.in_other; rfl))
      (apply Lq.append (T := hashT) (xs := out) (ys := [q]); rfl; exact List.Perm.refl _; (apply From.sl; rfl); rfl; rfl; rfl; (show _ + 1 ≤ maxLen; unfold maxLen; omega); (show (_ + 1) * 32 ≤ _; omega))
      intro A1 c1
      repeat (first | ((first | (apply Lq.s; rfl) | apply PRun.s | (apply Lq.run; rfl; rfl; rfl; exact bsB) | (apply PRun.run; rfl; rfl; exact bsB)); first | (exact bsO)) | apply J.seq | apply E.next | apply J.lq | apply Lq.nil | apply PRun.nil | apply J.block | apply E.in_normal | apply J.skip | (apply Lq.store; rfl; rfl; exact bsP; exact bsS; rfl; rfl) | (apply PRun.al; rfl) | (apply Lq.al; rfl; rfl; intro b) | (apply Open.cons; intro b) | apply Open.nil | (apply Lq.pass; rfl; rfl; rfl) | (apply PRun.pass; rfl; rfl) | (apply Lq.skip; rfl; rfl; rfl; exact bsB) | (apply PRun.skip; rfl; rfl; exact bsB) | (apply J.drawN; exact mixed; kernel_rfl) | (apply J.cond_t; rfl) | (apply J.cond_f; rfl) | apply J.exit | apply E.then_exit | apply E.in_exit | (apply E.in_other; rfl))
      exact E.mid [row (.slice A1 (out ++ [q]).length c1) 32 hashT.toTy (out ++ [q]), own b6 39 [is (.slice A1 (out ++ [q]).length c1)]] ⟨A1, c1, rfl⟩ ⟨trivial, [], List.Perm.swap _ _ _⟩
  · rintro D _ ⟨out, hout, hol, A, c, rfl⟩
    repeat (first | ((first | (apply Lq.s; rfl) | apply PRun.s | (apply Lq.run; rfl; rfl; rfl; exact bsB) | (apply PRun.run; rfl; rfl; exact bsB)); first | (apply op_ocell; rfl; exact bsM; rfl) | (exact bsO)) | apply J.seq | apply E.next | apply J.lq | apply Lq.nil | apply PRun.nil | apply J.block | apply E.in_normal | apply J.skip | (apply Lq.store; rfl; rfl; exact bsP; exact bsS; rfl; rfl) | (apply PRun.al; rfl) | (apply Lq.al; rfl; rfl; intro b) | (apply Open.cons; intro b) | apply Open.nil | (apply Lq.pass; rfl; rfl; rfl) | (apply PRun.pass; rfl; rfl) | (apply Lq.skip; rfl; rfl; rfl; exact bsB) | (apply PRun.skip; rfl; rfl; exact bsB) | (apply J.drawN; exact mixed; kernel_rfl) | (apply J.cond_t; rfl) | (apply J.cond_f; rfl) | apply J.exit | apply E.then_exit | apply E.in_exit | (apply E.in_other; rfl))
    refine Lq.callS (Δf := [_, _]) (reverse_fnR out (by omega) A c 32) rfl bsD (List.Perm.swap _ _ _) ?_
    rintro _ _ ⟨rfl, rfl⟩
    rw [hout]
    have hrl : (inc l i).length = out.length := by rw [← hout, List.length_reverse]
    repeat (first | ((first | (apply Lq.s; rfl) | apply PRun.s | (apply Lq.run; rfl; rfl; rfl; exact bsB) | (apply PRun.run; rfl; rfl; exact bsB)); first | (apply op_ocell; rfl; exact bsM; rfl) | (exact bsO)) | apply J.seq | apply E.next | apply J.lq | apply Lq.nil | apply PRun.nil | apply J.block | apply E.in_normal | apply J.skip | (apply Lq.store; rfl; rfl; exact bsP; exact bsS; rfl; rfl) | (apply PRun.al; rfl) | (apply Lq.al; rfl; rfl; intro b) | (apply Open.cons; intro b) | apply Open.nil | (apply Lq.pass; rfl; rfl; rfl) | (apply PRun.pass; rfl; rfl) | (apply Lq.skip; rfl; rfl; rfl; exact bsB) | (apply PRun.skip; rfl; rfl; exact bsB) | (apply J.drawN; exact mixed; kernel_rfl) | (apply J.cond_t; rfl) | (apply J.cond_f; rfl) | apply J.exit | apply E.then_exit | apply E.in_exit | (apply E.in_other; rfl))
    (refine J.ret ?_; (repeat (first | refine E.then_ret ?_ | refine E.in_ret ?_)))
    refine E.mark (List.Perm.swap _ _ _) ?_
    refine E.retR2 (G := [own b6 39 [is (.slice A out.length c)]]) rfl rfl rfl ⟨A, c, ?_, rfl⟩ ?_
    · rw [hrl]
    · rw [hrl]; exact List.Perm.refl _
end Go.Proofs.YtafbkgijahinkaaDoor.L
