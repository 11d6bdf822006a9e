/-
  A leaf that the document's edge takes, where it is owned.
-/
import Derived.Test.YtljdjagackdplaaDoorUz
namespace Go.Proofs.YtljdjagackdplaaDoor.L
open Go
set_option linter.unusedSectionVars false
variable [Globs] [Has_sha_table] [Has_sha_begin]
set_option linter.unusedVariables false
theorem nums_app (ss ts : List Nat) : nums (ss ++ ts) = nums ss ++ nums ts := by unfold nums; rw [List.map_append]
theorem nums_two (a b : Nat) : nums [a, b] = [(a : Int), (b : Int)] := rfl
theorem split1s {α : Type} {l : List α} (h : l ≠ []) : ∃ xs p, l = xs ++ [p] := by
  rcases List.eq_nil_or_concat l with rfl | ⟨r, b, rfl⟩
  · exact absurd rfl h
  · exact ⟨r, b, List.concat_eq_append ..⟩
section
variable {P : Program} {Γ : Env} {Δ : List Res} {d : Option Nat} {ty : Nat} {pos : String} {af : Array Edge} {g : Option (Nat × Bool)} {x : Operand} {t : Nat}
theorem op_slenE {A : Option Addr} {n m c e : Nat} (h : opd Γ x = some (is (.slice A n c))) (hm : n = m) [ht : TSl P t e] : OpP P Γ Δ ⟨d, .call ⟨.builtin .len, #[x], #[t]⟩, ty, pos, af, g⟩ (is (.int .i64 (m : Int))) := by subst hm; exact op_slen h
end
set_option linter.unusedVariables false
set_option linter.unusedSimpArgs false
attribute [local irreducible] J Lq E OpP PRun is any agg tup ptr sl PRunW OpE PRunV OpV star
attribute [local irreducible] up2 mroot nodeH leafH emptyH shaH ownAt row someL leafOf splitZ split rv join2 edge rootE o1 o2 o3 frV fre nums szs
theorem rappend_max [Has_ref02_k] (fb : Nat) (ss : List Nat) (hs : List Hash) (A1 : Option Addr) (c1 : Nat) (A2 : Option Addr) (c2 : Nat) (h : Hash) (hl : ss.length ≤ 100000) (hsum : ss.sum = 9223372036854775807) : FnR Tryd.prog 26 [is (.pointer (some ⟨fb, 0, none⟩)), hashT.val h] (rfL fb ss hs A1 c1 A2 c2) (fun ψ Δ => ψ = is (.int .i64 3) ∧ Δ = rfL fb ss hs A1 c1 A2 c2) := by
  have hlen := rlen_fnR fb ss hs A1 c1 A2 c2 hl (Nat.le_of_eq hsum)
  rw [hsum] at hlen
  refine FnR.mk' 113 Tryd.func26 rfl rfl rfl rfl fun w0 H0 => ?_
  repeat (first | ((first | (apply Lq.s; rfl) | apply PRun.s | (apply Lq.run; rfl; rfl; rfl; exact bsB) | (apply PRun.run; rfl; rfl; exact bsB)); first | (apply op_box hashT; rfl) | (exact bsO)) | apply J.seq | apply E.next | apply J.lq | apply Lq.nil | apply PRun.nil | apply J.block | apply E.in_normal | apply J.skip | (apply Lq.store; rfl; rfl; exact bsP; exact bsS; rfl; rfl) | (apply PRun.al; rfl) | (apply Lq.al; rfl; rfl; intro b) | (apply Open.cons; intro b) | apply Open.nil | (apply Lq.pass; rfl; rfl; rfl) | (apply PRun.pass; rfl; rfl) | (apply Lq.skip; rfl; rfl; rfl; exact bsB) | (apply PRun.skip; rfl; rfl; exact bsB) | (apply J.cond_t; rfl) | (apply J.cond_f; rfl) | apply J.exit | apply E.then_exit | apply E.in_exit | (apply E.in_other; rfl))
  refine Lq.callS (Δf := []) hlen rfl bsD (by rw [List.append_nil]) ?_
  rintro _ _ ⟨rfl, rfl⟩
  rw [List.append_nil]
  repeat (first | ((first | (apply Lq.s; rfl) | apply PRun.s | (apply Lq.run; rfl; rfl; rfl; exact bsB) | (apply PRun.run; rfl; rfl; exact bsB)); first | (exact bsO)) | apply J.seq | apply E.next | apply J.lq | apply Lq.nil | apply PRun.nil | apply J.block | apply E.in_normal | apply J.skip | (apply Lq.store; rfl; rfl; exact bsP; exact bsS; rfl; rfl) | (apply PRun.al; rfl) | (apply Lq.al; rfl; rfl; intro b) | (apply Open.cons; intro b) | apply Open.nil | (apply Lq.pass; rfl; rfl; rfl) | (apply PRun.pass; rfl; rfl) | (apply Lq.skip; rfl; rfl; rfl; exact bsB) | (apply PRun.skip; rfl; rfl; exact bsB) | (apply J.cond_t; rfl) | (apply J.cond_f; rfl) | apply J.exit | apply E.then_exit | apply E.in_exit | (apply E.in_other; rfl))
  (refine J.ret ?_; (repeat (first | refine E.then_ret ?_ | refine E.in_ret ?_)))
  exact E.retR1 (G := []) rfl rfl ⟨rfl, rfl⟩ (by rw [List.append_nil])
set_option maxHeartbeats 4000000 in
theorem rappend_fnR [Has_ref02_k] (fb n : Nat) (hs : List Hash) (A1 : Option Addr) (c1 : Nat) (A2 : Option Addr) (c2 : Nat) (h : Hash) (hl : hs.length ≤ 80000) (hp : hs.length = pop n) (hn : n < 9223372036854775807) :
    FnR Tryd.prog 26 [is (.pointer (some ⟨fb, 0, none⟩)), hashT.val h] (rfL fb (szs n) hs A1 c1 A2 c2) (fun ψ Δ => ψ = is (.int .i64 0) ∧ ∃ A1 c1 A2 c2, Δ = rfL fb (szs (n + 1)) (joins n (hs ++ [h])) A1 c1 A2 c2) := by
  have hsl := szs_len n
  have hlen := rlen_fnR fb (szs n) hs A1 c1 A2 c2 (by omega) (by rw [szs_sum]; omega)
  rw [szs_sum] at hlen
  have hnl := nums_len (szs n)
  have hz := msz_zero n
  have hlast : szs (n + 1) = (asc (n + 1) 0).reverse := by unfold szs; rfl
  have h0 : (asc n 0).length = pop n := asc_len n n 0 (Nat.le_refl _)
  refine FnR.mk' 113 Tryd.func26 rfl rfl rfl rfl fun w0 H0 => ?_
  generalize hw : joins n (hs ++ [h]) = want
  repeat (first | ((first | (apply Lq.s; rfl) | apply PRun.s | (apply Lq.run; rfl; rfl; rfl; exact bsB) | (apply PRun.run; rfl; rfl; exact bsB)); first | (apply op_box hashT; rfl) | (exact bsO)) | apply J.seq | apply E.next | apply J.lq | apply Lq.nil | apply PRun.nil | apply J.block | apply E.in_normal | apply J.skip | (apply Lq.store; rfl; rfl; exact bsP; exact bsS; rfl; rfl) | (apply PRun.al; rfl) | (apply Lq.al; rfl; rfl; intro b) | (apply Open.cons; intro b) | apply Open.nil | (apply Lq.pass; rfl; rfl; rfl) | (apply PRun.pass; rfl; rfl) | (apply Lq.skip; rfl; rfl; rfl; exact bsB) | (apply PRun.skip; rfl; rfl; exact bsB) | (apply J.cond_t; rfl) | (apply J.cond_f; rfl) | apply J.exit | apply E.then_exit | apply E.in_exit | (apply E.in_other; rfl))
  refine Lq.callS (Δf := []) hlen rfl bsD (by rw [List.append_nil]) ?_
  rintro _ _ ⟨rfl, rfl⟩
  rw [List.append_nil]
  unfold rfL
  repeat (first | ((first | (apply Lq.s; rfl) | apply PRun.s | (apply Lq.run; rfl; rfl; rfl; exact bsB) | (apply PRun.run; rfl; rfl; exact bsB)); first | (apply op_ocell; rfl; exact bsM; rfl) | (apply op_slen; rfl) | (apply op_bslice (intT .i64) (xs := [((1 : Nat) : Int)]); (repeat (first | exact PO.nil _ | (apply PO.cons; rfl))); rfl; rfl; rfl) | (exact bsO)) | apply J.seq | apply E.next | apply J.lq | apply Lq.nil | apply PRun.nil | apply J.block | apply E.in_normal | apply J.skip | (apply Lq.store; rfl; rfl; exact bsP; exact bsS; rfl; rfl) | (apply PRun.al; rfl) | (apply Lq.al; rfl; rfl; intro b) | (apply Open.cons; intro b) | apply Open.nil | (apply Lq.pass; rfl; rfl; rfl) | (apply PRun.pass; rfl; rfl) | (apply Lq.skip; rfl; rfl; rfl; exact bsB) | (apply PRun.skip; rfl; rfl; exact bsB) | (apply J.cond_t; rfl) | (apply J.cond_f; rfl) | apply J.exit | apply E.then_exit | apply E.in_exit | (apply E.in_other; rfl))
  (apply Lq.append (T := intT .i64) (xs := nums (szs n)) (ys := [((1 : Nat) : Int)]); rfl; exact List.Perm.swap _ _ _; (apply From.sl; rfl); rfl; rfl; rfl; (show _ + 1 ≤ maxLen; unfold maxLen; omega); (show (_ + 1) * 8 ≤ _; omega))
  intro A3 c3
  rw [nums_snoc, ← hz]
  repeat (first | ((first | (apply Lq.s; rfl) | apply PRun.s | (apply Lq.run; rfl; rfl; rfl; exact bsB) | (apply PRun.run; rfl; rfl; exact bsB)); first | (apply op_ocell; rfl; exact bsM; rfl) | (apply op_slen; rfl) | (exact bsO)) | apply J.seq | apply E.next | apply J.lq | apply Lq.nil | apply PRun.nil | apply J.block | apply E.in_normal | apply J.skip | (apply Lq.store; rfl; rfl; exact bsP; exact bsS; rfl; rfl) | (apply PRun.al; rfl) | (apply Lq.al; rfl; rfl; intro b) | (apply Open.cons; intro b) | apply Open.nil | (apply Lq.pass; rfl; rfl; rfl) | (apply PRun.pass; rfl; rfl) | (apply Lq.skip; rfl; rfl; rfl; exact bsB) | (apply PRun.skip; rfl; rfl; exact bsB) | (apply J.cond_t; rfl) | (apply J.cond_f; rfl) | apply J.exit | apply E.then_exit | apply E.in_exit | (apply E.in_other; rfl))
  refine J.drawW2 10 [(none, none), (none, none), (none, none), (none, none), (some 0, some 0), (none, none), (none, none), (some 4, some 27), (none, none), (none, none)] 0 4
    (itemA fb 50 [is (.slice A3 (nums ((asc n 0).reverse ++ [1])).length c3), is (.slice A2 hs.length c2)]) (itemK (row (.slice A2 hs.length c2) 23 hashT.toTy hs)) (by decide) rfl rfl (by rw [itemA_self]; exact List.Perm.cons _ (List.Perm.swap _ _ _)) mixed (by kernel_rfl) ?_
  repeat (first | ((first | apply PRunW.s | (apply PRunW.run; rfl; rfl; exact bsB) | (apply Lq.s; rfl) | apply PRun.s | (apply Lq.run; rfl; rfl; rfl; exact bsB) | (apply PRun.run; rfl; rfl; exact bsB)); first | (exact bsO)) | apply J.seq | apply E.next | apply J.lq | apply Lq.nil | apply PRun.nil | apply J.block | apply E.in_normal | apply J.skip | (apply Lq.store; rfl; rfl; exact bsP; exact bsS; rfl; rfl) | (apply PRun.al; rfl) | (apply Lq.al; rfl; rfl; intro b) | (apply Open.cons; intro b) | apply Open.nil | (apply Lq.pass; rfl; rfl; rfl) | (apply PRun.pass; rfl; rfl) | (apply Lq.skip; rfl; rfl; rfl; exact bsB) | (apply PRun.skip; rfl; rfl; exact bsB) | (apply J.cond_t; rfl) | (apply J.cond_f; rfl) | apply J.exit | apply E.then_exit | apply E.in_exit | (apply E.in_other; rfl) | apply PRunW.nil | (apply PRunW.al; rfl) | (apply PRunW.pass; rfl; rfl) | (apply PRunW.skip; rfl; rfl; exact bsB) | (apply Open.pv; intro b) | apply Open.av | (apply Open.rv; intro A c))
  refine PRunW.ldC (by decide) itemA_fst rfl rfl rfl ?_
  repeat (first | ((first | apply PRunW.s | (apply PRunW.run; rfl; rfl; exact bsB) | (apply Lq.s; rfl) | apply PRun.s | (apply Lq.run; rfl; rfl; rfl; exact bsB) | (apply PRun.run; rfl; rfl; exact bsB)); first | (apply op_load hashT; rfl) | (apply op_bslice hashT (xs := [h]); (repeat (first | exact PO.nil _ | (apply PO.cons; rfl))); rfl; rfl; rfl) | (exact bsO)) | apply J.seq | apply E.next | apply J.lq | apply Lq.nil | apply PRun.nil | apply J.block | apply E.in_normal | apply J.skip | (apply Lq.store; rfl; rfl; exact bsP; exact bsS; rfl; rfl) | (apply PRun.al; rfl) | (apply Lq.al; rfl; rfl; intro b) | (apply Open.cons; intro b) | apply Open.nil | (apply Lq.pass; rfl; rfl; rfl) | (apply PRun.pass; rfl; rfl) | (apply Lq.skip; rfl; rfl; rfl; exact bsB) | (apply PRun.skip; rfl; rfl; exact bsB) | (apply J.cond_t; rfl) | (apply J.cond_f; rfl) | apply J.exit | apply E.then_exit | apply E.in_exit | (apply E.in_other; rfl) | apply PRunW.nil | (apply PRunW.al; rfl) | (apply PRunW.pass; rfl; rfl) | (apply PRunW.skip; rfl; rfl; exact bsB) | (apply Open.pv; intro b) | apply Open.av | (apply Open.rv; intro A c))
  (apply PRunW.apK (T := hashT) (xs := hs) (ys := [h]); rfl; rfl; rfl; exact (fun H w k => ⟨k, rfl⟩); (apply From.sl; rfl); rfl; rfl; (show _ + 1 ≤ maxLen; unfold maxLen; omega); (show (_ + 1) * 32 ≤ _; omega))
  refine PRunW.s (op_nilCheck rfl) ?_
  refine PRunW.s (op_ofaddr rfl (by decide)) ?_
  refine PRunW.nil (Open.rv fun A4 c4 => Open.av (Open.nil ?_))
  refine Lq.storeE (φs' := [is (.slice A3 (nums ((asc n 0).reverse ++ [1])).length c3), is (.slice A4 (hs ++ [h]).length c4)]) rfl rfl (List.Perm.refl _) (Seg.is rfl) rfl (Nat.le_of_ble_eq_true rfl) rfl ?_
  repeat (first | ((first | (apply Lq.s; rfl) | apply PRun.s | (apply Lq.run; rfl; rfl; rfl; exact bsB) | (apply PRun.run; rfl; rfl; exact bsB)); first | (apply op_ocell; rfl; exact bsM; rfl) | (apply op_slen; rfl) | (exact bsO)) | apply J.seq | apply E.next | apply J.lq | apply Lq.nil | apply PRun.nil | apply J.block | apply E.in_normal | apply J.skip | (apply Lq.store; rfl; rfl; exact bsP; exact bsS; rfl; rfl) | (apply PRun.al; rfl) | (apply Lq.al; rfl; rfl; intro b) | (apply Open.cons; intro b) | apply Open.nil | (apply Lq.pass; rfl; rfl; rfl) | (apply PRun.pass; rfl; rfl) | (apply Lq.skip; rfl; rfl; rfl; exact bsB) | (apply PRun.skip; rfl; rfl; exact bsB) | (apply J.cond_t; rfl) | (apply J.cond_f; rfl) | apply J.exit | apply E.then_exit | apply E.in_exit | (apply E.in_other; rfl))
  have hk0 : (nums ((asc n 0).reverse ++ [1])).length = pop n + 1 := by rw [nums_len, List.length_append, List.length_reverse, h0]; rfl
  have hpn := pop_le n
  refine J.loop (fun p : Nat × Nat × List Hash × Option Addr × Nat × Option Addr × Nat => (p.1 + 1) * 2 ^ p.2.1 = n + 1 ∧ p.2.2.1.length = pop p.1 + 1 ∧ p.2.2.1.length ≤ hs.length + 1 ∧ joins p.1 p.2.2.1 = want ∧ (asc (p.1 + 1) p.2.1).reverse = szs (n + 1))
    (fun p => [(0, is (.pointer (some ⟨fb, 0, none⟩))), (5, is (.int .i64 ((pop p.1 + 1 : Nat) : Int)))]) (fun p => rfL fb ((asc p.1 p.2.1).reverse ++ [2 ^ p.2.1]) p.2.2.1 p.2.2.2.1 p.2.2.2.2.1 p.2.2.2.2.2.1 p.2.2.2.2.2.2) (fun p => p.1) (n, 0, hs ++ [h], A3, c3, A4, c4)
    ⟨by dsimp only; omega, by rw [List.length_append, hp]; rfl, by rw [List.length_append]; exact Nat.le_refl _, hw, hlast.symm⟩ (by
      dsimp only
      unfold rfL
      rw [show 2 ^ 0 = 1 from rfl, ← hk0]
      exact ⟨(by repeat' (first | exact trivial | refine ⟨rfl, ?_⟩)), [], List.Perm.trans (List.Perm.cons _ (List.Perm.swap _ _ _)) (List.Perm.refl _)⟩) ?_
  rintro ⟨m, i, ys, A5, c5, A6, c6⟩ ⟨hsz, hyl, hyb, hj, hfin⟩
  dsimp only at hsz hyl hyb hj hfin ⊢
  have hal : (asc m i).length = pop m := asc_len m m i (Nat.le_refl _)
  have hpow : 1 ≤ 2 ^ i := Nat.one_le_two_pow
  have hms : ((asc m i).reverse ++ [2 ^ i]).length = pop m + 1 := by rw [List.length_append, List.length_reverse, hal]; rfl
  have hml : (nums ((asc m i).reverse ++ [2 ^ i])).length = pop m + 1 := by rw [nums_len, hms]
  have hpm : pop m ≤ pop n := by rw [← hp]; omega
  have hple := pop_le n
  unfold rfL
  refine J.open (List.Perm.swap _ _ _) (by intro h; rw [h] at hml; simp at hml) ?_
  intro rb ro cap pre post hR
  obtain ⟨hv, hpre, hle, hcap, hroom, _⟩ := hR
  injection hv with hA _ hc
  subst hA; subst hc
  have hlast2 : ((asc m i).reverse ++ [2 ^ i])[pop m]? = some (2 ^ i) := by rw [List.getElem?_append_right (by rw [List.length_reverse, hal]; exact Nat.le_refl _), List.length_reverse, hal, Nat.sub_self]; rfl
  have hx1 := nums_at hlast2
  rcases Nat.mod_two_eq_zero_or_one m with h2 | h2
  · rw [joins_even h2] at hj
    subst hj
    have hend := msz_end h2 i
    rw [hfin] at hend
    by_cases hp0 : pop m = 0
    · rw [hp0] at *
      repeat (first | ((first | (apply Lq.s; rfl) | apply PRun.s | (apply Lq.run; rfl; rfl; rfl; exact bsB) | (apply PRun.run; rfl; rfl; exact bsB)); first | (exact bsO)) | apply J.seq | apply E.next | apply J.lq | apply Lq.nil | apply PRun.nil | apply J.block | apply E.in_normal | apply J.skip | (apply Lq.store; rfl; rfl; exact bsP; exact bsS; rfl; rfl) | (apply PRun.al; rfl) | (apply Lq.al; rfl; rfl; intro b) | (apply Open.cons; intro b) | apply Open.nil | (apply Lq.pass; rfl; rfl; rfl) | (apply PRun.pass; rfl; rfl) | (apply Lq.skip; rfl; rfl; rfl; exact bsB) | (apply PRun.skip; rfl; rfl; exact bsB) | (apply J.cond_t; rfl) | (apply J.cond_f; rfl) | apply J.exit | apply E.then_exit | apply E.in_exit | (apply E.in_other; rfl))
      refine J.drawW 21 [(none, none), (none, none), (none, none), (none, none), (none, none), (none, none), (none, none), (none, none), (none, none), (none, none), (none, none), (none, none), (none, none), (none, none), (none, none), (none, none), (none, none), (none, none), (none, none), (none, none), (none, none)] mixed (by kernel_rfl) ?_
      repeat (first | ((first | apply PRunW.s | (apply PRunW.run; rfl; rfl; exact bsB) | (apply Lq.s; rfl) | apply PRun.s | (apply Lq.run; rfl; rfl; rfl; exact bsB) | (apply PRun.run; rfl; rfl; exact bsB)); first | (exact bsO)) | apply J.seq | apply E.next | apply J.lq | apply Lq.nil | apply PRun.nil | apply J.block | apply E.in_normal | apply J.skip | (apply Lq.store; rfl; rfl; exact bsP; exact bsS; rfl; rfl) | (apply PRun.al; rfl) | (apply Lq.al; rfl; rfl; intro b) | (apply Open.cons; intro b) | apply Open.nil | (apply Lq.pass; rfl; rfl; rfl) | (apply PRun.pass; rfl; rfl) | (apply Lq.skip; rfl; rfl; rfl; exact bsB) | (apply PRun.skip; rfl; rfl; exact bsB) | (apply J.cond_t; rfl) | (apply J.cond_f; rfl) | apply J.exit | apply E.then_exit | apply E.in_exit | (apply E.in_other; rfl) | apply PRunW.nil | (apply PRunW.al; rfl) | (apply PRunW.pass; rfl; rfl) | (apply PRunW.skip; rfl; rfl; exact bsB) | (apply Open.pv; intro b) | apply Open.av | (apply Open.rv; intro A c))
      repeat (first | ((first | (apply Lq.s; rfl) | apply PRun.s | (apply Lq.run; rfl; rfl; rfl; exact bsB) | (apply PRun.run; rfl; rfl; exact bsB)); first | (exact bsO)) | apply J.seq | apply E.next | apply J.lq | apply Lq.nil | apply PRun.nil | apply J.block | apply E.in_normal | apply J.skip | (apply Lq.store; rfl; rfl; exact bsP; exact bsS; rfl; rfl) | (apply PRun.al; rfl) | (apply Lq.al; rfl; rfl; intro b) | (apply Open.cons; intro b) | apply Open.nil | (apply Lq.pass; rfl; rfl; rfl) | (apply PRun.pass; rfl; rfl) | (apply Lq.skip; rfl; rfl; rfl; exact bsB) | (apply PRun.skip; rfl; rfl; exact bsB) | (apply J.cond_t; rfl) | (apply J.cond_f; rfl) | apply J.exit | apply E.then_exit | apply E.in_exit | (apply E.in_other; rfl))
      (refine J.ret ?_; (repeat (first | refine E.then_ret ?_ | refine E.in_ret ?_)))
      refine E.close (intT .i64).toTy (nums ((asc m i).reverse ++ [2 ^ i])) (b := rb) (o := ro) (cap := c5) (List.Perm.refl _) ?_ hle hcap (take_rowT (intT .i64).toTy hpre) ?_
      · simp only [List.length_append, flat_len] at hroom ⊢
        exact hroom
      refine E.retR1 (Δ' := [_, _, _]) (G := []) rfl rfl ⟨rfl, (some ⟨rb, ro, none⟩), c5, A6, c6, ?_⟩ (List.Perm.swap _ _ _)
      rw [hend]
    · obtain ⟨s, hs2⟩ : ∃ s, ((asc m i).reverse ++ [2 ^ i])[pop m - 1]? = some s := ⟨_, List.getElem?_eq_getElem (by omega)⟩
      have hsm : s ∈ (asc m i).reverse := by
        rw [List.getElem?_append_left (by rw [List.length_reverse, hal]; omega)] at hs2
        exact List.mem_of_getElem? hs2
      have hne := msz_last h2 hsm
      have hx2 := nums_at hs2
      generalize hq : 2 ^ i = q at *
      generalize hpp : pop m = r at *
      generalize hss : (asc m i).reverse ++ [q] = ss at *
      repeat (first | ((first | (apply Lq.s; rfl) | apply PRun.s | (apply Lq.run; rfl; rfl; rfl; exact bsB) | (apply PRun.run; rfl; rfl; exact bsB)); first | (exact bsO)) | apply J.seq | apply E.next | apply J.lq | apply Lq.nil | apply PRun.nil | apply J.block | apply E.in_normal | apply J.skip | (apply Lq.store; rfl; rfl; exact bsP; exact bsS; rfl; rfl) | (apply PRun.al; rfl) | (apply Lq.al; rfl; rfl; intro b) | (apply Open.cons; intro b) | apply Open.nil | (apply Lq.pass; rfl; rfl; rfl) | (apply PRun.pass; rfl; rfl) | (apply Lq.skip; rfl; rfl; rfl; exact bsB) | (apply PRun.skip; rfl; rfl; exact bsB) | (apply J.cond_t; rfl) | (apply J.cond_f; rfl) | apply J.exit | apply E.then_exit | apply E.in_exit | (apply E.in_other; rfl))
      refine J.drawW 21 [(none, none), (none, none), (none, none), (none, none), (none, none), (none, none), (none, none), (none, none), (none, none), (none, none), (none, none), (none, none), (none, none), (none, none), (none, none), (none, none), (none, none), (none, none), (none, none), (none, none), (none, none)] mixed (by kernel_rfl) ?_
      repeat (first | ((first | apply PRunW.s | (apply PRunW.run; rfl; rfl; exact bsB) | (apply Lq.s; rfl) | apply PRun.s | (apply Lq.run; rfl; rfl; rfl; exact bsB) | (apply PRun.run; rfl; rfl; exact bsB)); first | (apply op_ocell; rfl; exact bsM; rfl) | (apply op_slen; rfl) | (apply op_sub (c := (r : Int)); rfl; rfl; (rw [show ((r + 1 : Nat) : Int) - 1 = (r : Int) by omega]; apply wrapi <;> omega)) | (apply op_sub (c := ((r - 1 : Nat) : Int)); rfl; rfl; (rw [show ((r + 1 : Nat) : Int) - 2 = ((r - 1 : Nat) : Int) by omega]; apply wrapi <;> omega)) | (apply op_siaddr; rfl; rfl; omega; omega) | (apply op_oload (intT .i64) (x := (q : Int)); rfl; exact bsM; exact at_row (intT .i64).toTy hpre (by rw [Int.toNat_natCast]; exact hx1)) | (apply op_oload (intT .i64) (x := (s : Int)); rfl; exact bsM; exact at_row (intT .i64).toTy hpre (by rw [Int.toNat_natCast]; exact hx2)) | (exact bsO)) | apply J.seq | apply E.next | apply J.lq | apply Lq.nil | apply PRun.nil | apply J.block | apply E.in_normal | apply J.skip | (apply Lq.store; rfl; rfl; exact bsP; exact bsS; rfl; rfl) | (apply PRun.al; rfl) | (apply Lq.al; rfl; rfl; intro b) | (apply Open.cons; intro b) | apply Open.nil | (apply Lq.pass; rfl; rfl; rfl) | (apply PRun.pass; rfl; rfl) | (apply Lq.skip; rfl; rfl; rfl; exact bsB) | (apply PRun.skip; rfl; rfl; exact bsB) | (apply J.cond_t; rfl) | (apply J.cond_f; rfl) | apply J.exit | apply E.then_exit | apply E.in_exit | (apply E.in_other; rfl) | apply PRunW.nil | (apply PRunW.al; rfl) | (apply PRunW.pass; rfl; rfl) | (apply PRunW.skip; rfl; rfl; exact bsB) | (apply Open.pv; intro b) | apply Open.av | (apply Open.rv; intro A c))
      repeat (first | ((first | (apply Lq.s; rfl) | apply PRun.s | (apply Lq.run; rfl; rfl; rfl; exact bsB) | (apply PRun.run; rfl; rfl; exact bsB)); first | (exact bsO)) | apply J.seq | apply E.next | apply J.lq | apply Lq.nil | apply PRun.nil | apply J.block | apply E.in_normal | apply J.skip | (apply Lq.store; rfl; rfl; exact bsP; exact bsS; rfl; rfl) | (apply PRun.al; rfl) | (apply Lq.al; rfl; rfl; intro b) | (apply Open.cons; intro b) | apply Open.nil | (apply Lq.pass; rfl; rfl; rfl) | (apply PRun.pass; rfl; rfl) | (apply Lq.skip; rfl; rfl; rfl; exact bsB) | (apply PRun.skip; rfl; rfl; exact bsB) | (apply J.cond_t; rfl) | (apply J.cond_f; rfl) | apply J.exit | apply E.then_exit | apply E.in_exit | (apply E.in_other; rfl))
      (refine J.ret ?_; (repeat (first | refine E.then_ret ?_ | refine E.in_ret ?_)))
      refine E.close (intT .i64).toTy (nums ss) (b := rb) (o := ro) (cap := c5) (List.Perm.refl _) ?_ hle hcap (take_rowT (intT .i64).toTy hpre) ?_
      · simp only [List.length_append, flat_len] at hroom ⊢
        exact hroom
      refine E.retR1 (Δ' := [_, _, _]) (G := []) rfl rfl ⟨rfl, (some ⟨rb, ro, none⟩), c5, A6, c6, ?_⟩ (List.Perm.swap _ _ _)
      rw [hend]
  · have hpp := pop_s m
    rw [h2] at hpp
    rw [joins_odd h2] at hj
    have hodd := msz_odd h2 i
    have hnext := msz_next h2 i
    obtain ⟨xs, p, q, rfl⟩ := split2s (hs := ys) (by omega)
    have hlen2 : (xs ++ [p, q]).length = xs.length + 2 := by rw [List.length_append]; rfl
    rw [join2_of] at hj
    have hal2 : (asc (m / 2) (i + 1)).length = pop (m / 2) := asc_len (m / 2) (m / 2) (i + 1) (Nat.le_refl _)
    have hps : 2 ^ (i + 1) = 2 * 2 ^ i := by rw [Nat.pow_succ]; omega
    have hbig : 2 * 2 ^ i ≤ n + 1 := by
      rw [← hsz]
      exact Nat.mul_le_mul_right _ (by omega)
    have hsz2 : (m / 2 + 1) * 2 ^ (i + 1) = n + 1 := by
      rw [hps, ← Nat.mul_assoc, ← hsz]
      congr 1
      omega
    have hfin2 : (asc (m / 2 + 1) (i + 1)).reverse = szs (n + 1) := by rw [← hnext]; exact hfin
    have hp1 : (xs ++ [p, q])[xs.length]? = some p := by rw [List.getElem?_append_right (Nat.le_refl _), Nat.sub_self]; rfl
    have hq1 : (xs ++ [p, q])[xs.length + 1]? = some q := by rw [List.getElem?_append_right (by omega), Nat.add_sub_cancel_left]; rfl
    have hxl : xs.length = pop (m / 2) := by omega
    rw [hodd] at hml hroom hle hms ⊢
    rw [hodd] at hx1
    have hx1 : (nums ((asc (m / 2) (i + 1)).reverse ++ [2 ^ i, 2 ^ i]))[pop (m / 2) + 1]? = some ((2 ^ i : Nat) : Int) := by
      refine nums_at ?_
      rw [List.getElem?_append_right (by rw [List.length_reverse, hal2]; omega), List.length_reverse, hal2, Nat.add_sub_cancel_left]; rfl
    have hx2 : (nums ((asc (m / 2) (i + 1)).reverse ++ [2 ^ i, 2 ^ i]))[pop (m / 2)]? = some ((2 ^ i : Nat) : Int) := by
      refine nums_at ?_
      rw [List.getElem?_append_right (by rw [List.length_reverse, hal2]; exact Nat.le_refl _), List.length_reverse, hal2, Nat.sub_self]; rfl
    have hr2 : (asc (m / 2) (i + 1)).reverse.length = pop (m / 2) := by rw [List.length_reverse, hal2]
    have hpm2 : pop m = pop (m / 2) + 1 := by omega
    rw [hpm2] at hml hms ⊢
    have hN : (nums (asc (m / 2) (i + 1)).reverse).length = pop (m / 2) := by rw [nums_len, hr2]
    have hN7 : ∀ a : Int, (nums (asc (m / 2) (i + 1)).reverse ++ [a]).length = pop (m / 2) + 1 := fun a => by rw [List.length_append, hN]; rfl
    have hxb : pop (m / 2) ≤ 80000 := by omega
    clear hal hlast2 hodd hnext hfin hsz hal2 hr2 hms hpp hpm hpm2 hyl
    rw [nums_app, nums_two] at hml hroom hle hx1 hx2 ⊢
    generalize hss : (asc (m / 2) (i + 1)).reverse = ss0 at *
    generalize hr : pop (m / 2) = r at *
    generalize hzz : 2 ^ i = z at *
    repeat (first | ((first | (apply Lq.s; rfl) | apply PRun.s | (apply Lq.run; rfl; rfl; rfl; exact bsB) | (apply PRun.run; rfl; rfl; exact bsB)); first | (exact bsO)) | apply J.seq | apply E.next | apply J.lq | apply Lq.nil | apply PRun.nil | apply J.block | apply E.in_normal | apply J.skip | (apply Lq.store; rfl; rfl; exact bsP; exact bsS; rfl; rfl) | (apply PRun.al; rfl) | (apply Lq.al; rfl; rfl; intro b) | (apply Open.cons; intro b) | apply Open.nil | (apply Lq.pass; rfl; rfl; rfl) | (apply PRun.pass; rfl; rfl) | (apply Lq.skip; rfl; rfl; rfl; exact bsB) | (apply PRun.skip; rfl; rfl; exact bsB) | (apply J.cond_t; rfl) | (apply J.cond_f; rfl) | apply J.exit | apply E.then_exit | apply E.in_exit | (apply E.in_other; rfl))
    refine J.drawW 21 [(none, none), (none, none), (none, none), (none, none), (none, none), (none, none), (none, none), (none, none), (none, none), (none, none), (none, none), (none, none), (none, none), (none, none), (none, none), (none, none), (none, none), (none, none), (none, none), (none, none), (none, none)] mixed (by kernel_rfl) ?_
    repeat (first | ((first | apply PRunW.s | (apply PRunW.run; rfl; rfl; exact bsB) | (apply Lq.s; rfl) | apply PRun.s | (apply Lq.run; rfl; rfl; rfl; exact bsB) | (apply PRun.run; rfl; rfl; exact bsB)); first | (apply op_ocell; rfl; exact bsM; rfl) | (apply op_slen; rfl) | (apply op_sub (c := ((r + 1 : Nat) : Int)); rfl; rfl; (rw [show ((r + 1 + 1 : Nat) : Int) - 1 = ((r + 1 : Nat) : Int) by omega]; apply wrapi <;> omega)) | (apply op_sub (c := (r : Int)); rfl; rfl; (rw [show ((r + 1 + 1 : Nat) : Int) - 2 = (r : Int) by omega]; apply wrapi <;> omega)) | (apply op_siaddr; rfl; rfl; omega; omega) | (apply op_oload (intT .i64) (x := (z : Int)); rfl; exact bsM; exact at_row (intT .i64).toTy hpre (by rw [Int.toNat_natCast]; exact hx1)) | (apply op_oload (intT .i64) (x := (z : Int)); rfl; exact bsM; exact at_row (intT .i64).toTy hpre (by rw [Int.toNat_natCast]; exact hx2)) | (exact bsO)) | apply J.seq | apply E.next | apply J.lq | apply Lq.nil | apply PRun.nil | apply J.block | apply E.in_normal | apply J.skip | (apply Lq.store; rfl; rfl; exact bsP; exact bsS; rfl; rfl) | (apply PRun.al; rfl) | (apply Lq.al; rfl; rfl; intro b) | (apply Open.cons; intro b) | apply Open.nil | (apply Lq.pass; rfl; rfl; rfl) | (apply PRun.pass; rfl; rfl) | (apply Lq.skip; rfl; rfl; rfl; exact bsB) | (apply PRun.skip; rfl; rfl; exact bsB) | (apply J.cond_t; rfl) | (apply J.cond_f; rfl) | apply J.exit | apply E.then_exit | apply E.in_exit | (apply E.in_other; rfl) | apply PRunW.nil | (apply PRunW.al; rfl) | (apply PRunW.pass; rfl; rfl) | (apply PRunW.skip; rfl; rfl; exact bsB) | (apply Open.pv; intro b) | apply Open.av | (apply Open.rv; intro A c))
    repeat (first | ((first | (apply Lq.s; rfl) | apply PRun.s | (apply Lq.run; rfl; rfl; rfl; exact bsB) | (apply PRun.run; rfl; rfl; exact bsB)); first | (exact bsO)) | apply J.seq | apply E.next | apply J.lq | apply Lq.nil | apply PRun.nil | apply J.block | apply E.in_normal | apply J.skip | (apply Lq.store; rfl; rfl; exact bsP; exact bsS; rfl; rfl) | (apply PRun.al; rfl) | (apply Lq.al; rfl; rfl; intro b) | (apply Open.cons; intro b) | apply Open.nil | (apply Lq.pass; rfl; rfl; rfl) | (apply PRun.pass; rfl; rfl) | (apply Lq.skip; rfl; rfl; rfl; exact bsB) | (apply PRun.skip; rfl; rfl; exact bsB) | (apply J.cond_t; rfl) | (apply J.cond_f; rfl) | apply J.exit | apply E.then_exit | apply E.in_exit | (apply E.in_other; rfl))
    refine J.open (Δ' := [_, _]) (List.perm_append_comm (l₁ := [_, _]) (l₂ := [_])) (by intro h; rw [h] at hlen2; simp at hlen2) ?_
    intro rb2 ro2 cap2 pre2 post2 hR2
    obtain ⟨hv2, hpre2, hle2, hcap2, hroom2, _⟩ := hR2
    injection hv2 with hA2 _ hc2
    subst hA2; subst hc2
    refine J.drawW 18 [(none, none), (none, none), (none, none), (none, none), (none, none), (none, none), (none, none), (none, none), (none, none), (none, none), (none, none), (none, none), (none, none), (none, none), (none, none), (none, none), (none, none), (none, some 6)] mixed (by kernel_rfl) ?_
    repeat (first | ((first | apply PRunW.s | (apply PRunW.run; rfl; rfl; exact bsB) | (apply Lq.s; rfl) | apply PRun.s | (apply Lq.run; rfl; rfl; rfl; exact bsB) | (apply PRun.run; rfl; rfl; exact bsB)); first | (apply op_ocell; rfl; exact bsM; rfl) | (apply op_slen; rfl) | (apply op_sub (c := ((xs.length + 1 : Nat) : Int)); rfl; rfl; (rw [show ((r + 1 + 1 : Nat) : Int) - 1 = ((xs.length + 1 : Nat) : Int) by omega]; apply wrapi <;> omega)) | (apply op_sub (c := (xs.length : Int)); rfl; rfl; (rw [show ((r + 1 + 1 : Nat) : Int) - 2 = (xs.length : Int) by omega]; apply wrapi <;> omega)) | (apply op_siaddr; rfl; rfl; omega; omega) | (apply op_oload hashT (x := p); rfl; exact bsM; exact at_row hashT.toTy hpre2 (by rw [Int.toNat_natCast]; exact hp1)) | (apply op_oload hashT (x := q); rfl; exact bsM; exact at_row hashT.toTy hpre2 (by rw [Int.toNat_natCast]; exact hq1)) | (apply op_call (refnodeH_fn p q); exact bsD) | (exact bsO)) | apply J.seq | apply E.next | apply J.lq | apply Lq.nil | apply PRun.nil | apply J.block | apply E.in_normal | apply J.skip | (apply Lq.store; rfl; rfl; exact bsP; exact bsS; rfl; rfl) | (apply PRun.al; rfl) | (apply Lq.al; rfl; rfl; intro b) | (apply Open.cons; intro b) | apply Open.nil | (apply Lq.pass; rfl; rfl; rfl) | (apply PRun.pass; rfl; rfl) | (apply Lq.skip; rfl; rfl; rfl; exact bsB) | (apply PRun.skip; rfl; rfl; exact bsB) | (apply J.cond_t; rfl) | (apply J.cond_f; rfl) | apply J.exit | apply E.then_exit | apply E.in_exit | (apply E.in_other; rfl) | apply PRunW.nil | (apply PRunW.al; rfl) | (apply PRunW.pass; rfl; rfl) | (apply PRunW.skip; rfl; rfl; exact bsB) | (apply Open.pv; intro b) | apply Open.av | (apply Open.rv; intro A c))
    (apply Lq.storeE (φs' := hashT.cells (nodeH p q)); rfl; rfl; exact List.Perm.refl _; exact Seg.val _ _; exact hashT.len _; exact Nat.le_refl 32; exact splice_all (by rw [hashT.len]; rfl))
    refine Lq.frzB 6 rfl (List.Perm.refl _) ?_
    repeat (first | ((first | (apply Lq.s; rfl) | apply PRun.s | (apply Lq.run; rfl; rfl; rfl; exact bsB) | (apply PRun.run; rfl; rfl; exact bsB)); first | (apply op_ocell; rfl; exact bsM; rfl) | (apply op_slen; rfl) | (apply op_sub (c := ((r + 1 : Nat) : Int)); rfl; rfl; (rw [show ((r + 1 + 1 : Nat) : Int) - 1 = ((r + 1 : Nat) : Int) by omega]; apply wrapi <;> omega)) | (apply op_sub (c := ((nums ss0).length : Int)); rfl; rfl; (rw [show ((r + 1 + 1 : Nat) : Int) - 2 = ((nums ss0).length : Int) by omega]; apply wrapi <;> omega)) | (apply op_siaddr; rfl; rfl; omega; omega) | (apply op_oload (intT .i64) (x := (z : Int)); rfl; exact bsM; exact at_row (intT .i64).toTy hpre (by rw [Int.toNat_natCast]; exact hx1)) | (apply op_mul (c := ((2 * z : Nat) : Int)); rfl; rfl; (rw [show (2 : Int) * (z : Int) = ((2 * z : Nat) : Int) by omega]; apply wrapi <;> omega)) | (apply op_sl_hi (hi := (nums ss0).length); rfl; rfl; omega) | (apply op_bslice (intT .i64) (xs := [((2 * z : Nat) : Int)]); (repeat (first | exact PO.nil _ | (apply PO.cons; rfl))); rfl; rfl; rfl) | (exact bsO)) | apply J.seq | apply E.next | apply J.lq | apply Lq.nil | apply PRun.nil | apply J.block | apply E.in_normal | apply J.skip | (apply Lq.store; rfl; rfl; exact bsP; exact bsS; rfl; rfl) | (apply PRun.al; rfl) | (apply Lq.al; rfl; rfl; intro b) | (apply Open.cons; intro b) | apply Open.nil | (apply Lq.pass; rfl; rfl; rfl) | (apply PRun.pass; rfl; rfl) | (apply Lq.skip; rfl; rfl; rfl; exact bsB) | (apply PRun.skip; rfl; rfl; exact bsB) | (apply J.cond_t; rfl) | (apply J.cond_f; rfl) | apply J.exit | apply E.then_exit | apply E.in_exit | (apply E.in_other; rfl))
    refine Lq.res1 (Δ' := [_, _]) (List.Perm.swap _ _ _) (row_conv (T := (intT .i64).toTy) (xs := nums ss0) (ys := [(z : Int), (z : Int)]) hpre hle hcap hroom) ?_
    (apply Lq.append (T := intT .i64) (xs := nums ss0) (ys := [((2 * z : Nat) : Int)]); rfl; exact List.Perm.refl _; (apply From.sl; rfl); rfl; rfl; rfl; (show _ + 1 ≤ maxLen; unfold maxLen; omega); (show (_ + 1) * 8 ≤ _; omega))
    intro A7 c7
    repeat (first | ((first | (apply Lq.s; rfl) | apply PRun.s | (apply Lq.run; rfl; rfl; rfl; exact bsB) | (apply PRun.run; rfl; rfl; exact bsB)); first | (exact bsO)) | apply J.seq | apply E.next | apply J.lq | apply Lq.nil | apply PRun.nil | apply J.block | apply E.in_normal | apply J.skip | (apply Lq.store; rfl; rfl; exact bsP; exact bsS; rfl; rfl) | (apply PRun.al; rfl) | (apply Lq.al; rfl; rfl; intro b) | (apply Open.cons; intro b) | apply Open.nil | (apply Lq.pass; rfl; rfl; rfl) | (apply PRun.pass; rfl; rfl) | (apply Lq.skip; rfl; rfl; rfl; exact bsB) | (apply PRun.skip; rfl; rfl; exact bsB) | (apply J.cond_t; rfl) | (apply J.cond_f; rfl) | apply J.exit | apply E.then_exit | apply E.in_exit | (apply E.in_other; rfl))
    refine J.drawW2 11 [(none, none), (none, none), (none, none), (none, none), (some 0, some 0), (none, none), (none, none), (none, none), (none, none), (none, none), (some 5, some 110)] 0 5
      (itemA fb 50 [is (.slice A7 (nums ss0 ++ [((2 * z : Nat) : Int)]).length c7), is (.slice (some ⟨rb2, ro2, none⟩) (xs ++ [p, q]).length c6)]) (itemK (own rb2 23 (pre2 ++ flat hashT.toTy (xs ++ [p, q]) ++ post2))) (by decide) rfl rfl (by rw [itemA_self]; exact List.Perm.cons _ (List.Perm.swap _ _ _)) mixed (by kernel_rfl) ?_
    repeat (first | ((first | apply PRunW.s | (apply PRunW.run; rfl; rfl; exact bsB) | (apply Lq.s; rfl) | apply PRun.s | (apply Lq.run; rfl; rfl; rfl; exact bsB) | (apply PRun.run; rfl; rfl; exact bsB)); first | (exact bsO)) | apply J.seq | apply E.next | apply J.lq | apply Lq.nil | apply PRun.nil | apply J.block | apply E.in_normal | apply J.skip | (apply Lq.store; rfl; rfl; exact bsP; exact bsS; rfl; rfl) | (apply PRun.al; rfl) | (apply Lq.al; rfl; rfl; intro b) | (apply Open.cons; intro b) | apply Open.nil | (apply Lq.pass; rfl; rfl; rfl) | (apply PRun.pass; rfl; rfl) | (apply Lq.skip; rfl; rfl; rfl; exact bsB) | (apply PRun.skip; rfl; rfl; exact bsB) | (apply J.cond_t; rfl) | (apply J.cond_f; rfl) | apply J.exit | apply E.then_exit | apply E.in_exit | (apply E.in_other; rfl) | apply PRunW.nil | (apply PRunW.al; rfl) | (apply PRunW.pass; rfl; rfl) | (apply PRunW.skip; rfl; rfl; exact bsB) | (apply Open.pv; intro b) | apply Open.av | (apply Open.rv; intro A c))
    refine PRunW.ldC (by decide) itemA_fst rfl rfl rfl ?_
    repeat (first | ((first | apply PRunW.s | (apply PRunW.run; rfl; rfl; exact bsB) | (apply Lq.s; rfl) | apply PRun.s | (apply Lq.run; rfl; rfl; rfl; exact bsB) | (apply PRun.run; rfl; rfl; exact bsB)); first | (apply op_sub (c := (xs.length : Int)); rfl; rfl; (rw [show ((r + 1 + 1 : Nat) : Int) - 2 = (xs.length : Int) by omega]; apply wrapi <;> omega)) | (apply op_sl_hi (hi := xs.length); rfl; rfl; omega) | (apply op_load hashT; rfl) | (apply op_bslice hashT (xs := [nodeH p q]); (repeat (first | exact PO.nil _ | (apply PO.cons; rfl))); rfl; rfl; rfl) | (exact bsO)) | apply J.seq | apply E.next | apply J.lq | apply Lq.nil | apply PRun.nil | apply J.block | apply E.in_normal | apply J.skip | (apply Lq.store; rfl; rfl; exact bsP; exact bsS; rfl; rfl) | (apply PRun.al; rfl) | (apply Lq.al; rfl; rfl; intro b) | (apply Open.cons; intro b) | apply Open.nil | (apply Lq.pass; rfl; rfl; rfl) | (apply PRun.pass; rfl; rfl) | (apply Lq.skip; rfl; rfl; rfl; exact bsB) | (apply PRun.skip; rfl; rfl; exact bsB) | (apply J.cond_t; rfl) | (apply J.cond_f; rfl) | apply J.exit | apply E.then_exit | apply E.in_exit | (apply E.in_other; rfl) | apply PRunW.nil | (apply PRunW.al; rfl) | (apply PRunW.pass; rfl; rfl) | (apply PRunW.skip; rfl; rfl; exact bsB) | (apply Open.pv; intro b) | apply Open.av | (apply Open.rv; intro A c))
    (apply PRunW.apK (T := hashT) (xs := xs) (ys := [nodeH p q]); rfl; rfl; rfl; exact row_conv (T := hashT.toTy) (xs := xs) (ys := [p, q]) hpre2 hle2 hcap2 hroom2; (apply From.sl; rfl); rfl; rfl; (show _ + 1 ≤ maxLen; unfold maxLen; omega); (show (_ + 1) * 32 ≤ _; omega))
    refine PRunW.nil (Open.rv fun A8 c8 => Open.av (Open.nil ?_))
    repeat (first | ((first | (apply Lq.s; rfl) | apply PRun.s | (apply Lq.run; rfl; rfl; rfl; exact bsB) | (apply PRun.run; rfl; rfl; exact bsB)); first | (apply op_slenE (m := r + 1); rfl; exact hN7 _) | (apply op_ocell; rfl; exact bsM; rfl) | (apply op_slen; rfl) | (exact bsO)) | apply J.seq | apply E.next | apply J.lq | apply Lq.nil | apply PRun.nil | apply J.block | apply E.in_normal | apply J.skip | (apply Lq.store; rfl; rfl; exact bsP; exact bsS; rfl; rfl) | (apply PRun.al; rfl) | (apply Lq.al; rfl; rfl; intro b) | (apply Open.cons; intro b) | apply Open.nil | (apply Lq.pass; rfl; rfl; rfl) | (apply PRun.pass; rfl; rfl) | (apply Lq.skip; rfl; rfl; rfl; exact bsB) | (apply PRun.skip; rfl; rfl; exact bsB) | (apply J.cond_t; rfl) | (apply J.cond_f; rfl) | apply J.exit | apply E.then_exit | apply E.in_exit | (apply E.in_other; rfl))
    exact E.again (m / 2, i + 1, xs ++ [nodeH p q], A7, c7, A8, c8) (by dsimp only; omega) ⟨hsz2, by dsimp only; rw [List.length_append, hr]; show xs.length + 1 = _; omega, by dsimp only; rw [List.length_append]; show xs.length + 1 ≤ _; omega, hj, by dsimp only; rw [hss] at *; exact hfin2⟩ (by
      dsimp only
      rw [hr, hss, hps, ← nums_snoc]
      exact ⟨(by repeat' (first | exact trivial | refine ⟨rfl, ?_⟩)), [], List.Perm.cons _ (List.Perm.swap _ _ _)⟩)
end Go.Proofs.YtljdjagackdplaaDoor.L
