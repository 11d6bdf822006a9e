/-
  The pairs on a proof's way, walked.
-/
import Derived.Test.YtoenogdcopajpaaDoorWn
import Derived.Test.YtoenogdcopajpaaDoorLs
namespace Go.Proofs.YtoenogdcopajpaaDoor.L
open Go
set_option linter.unusedSectionVars false
variable [Globs] [Has_sha_table] [Has_sha_begin]
set_option linter.unusedVariables false
def prA (c : Hash × Hash) : Arr Hash 2 := ⟨[c.1, c.2], rfl⟩
def pairsA (x : Hash) (ds : List (Bool × Hash)) : List (Arr Hash 2) := (pairsL x ds).map prA
theorem pairsA_len (x : Hash) (ds : List (Bool × Hash)) : (pairsA x ds).length = ds.length := by unfold pairsA; rw [List.length_map, pairsL_len]
theorem pairsA_left (x : Hash) (ds : List (Bool × Hash)) (h : Hash) : pairsA x (ds ++ [(false, h)]) = pairsA x ds ++ [⟨[foldI x ds, h], rfl⟩] := by
  unfold pairsA
  rw [pairsL_snoc, List.map_append]
  rfl
theorem pairsA_right (x : Hash) (ds : List (Bool × Hash)) (h : Hash) : pairsA x (ds ++ [(true, h)]) = pairsA x ds ++ [⟨[h, foldI x ds], rfl⟩] := by
  unfold pairsA
  rw [pairsL_snoc, List.map_append]
  rfl
theorem pairsA_nil {x : Hash} {ds : List (Bool × Hash)} (h : pairsA x ds = []) : foldI x ds = x := by
  have := pairsA_len x ds
  rw [h] at this
  rw [List.eq_nil_of_length_eq_zero this.symm]
  rfl
theorem pairsA_last {x : Hash} {ds : List (Bool × Hash)} (h : pairsA x ds ≠ []) : ∃ a c, (pairsA x ds)[(pairsA x ds).length - 1]? = some ⟨[a, c], rfl⟩ ∧ nodeH a c = foldI x ds := by
  rcases List.eq_nil_or_concat ds with rfl | ⟨r, d, rfl⟩
  · exact absurd rfl h
  · rw [List.concat_eq_append]
    obtain ⟨d, g⟩ := d
    cases d
    · rw [pairsA_left, foldI_one]
      exact ⟨_, _, by simp, rfl⟩
    · rw [pairsA_right, foldI_one]
      exact ⟨_, _, by simp, rfl⟩
theorem sub_seg {φs seg : List Pr} {o n i m : Nat} (h : (φs.drop o).take n = seg) (hle : i + m ≤ n) : (φs.drop (o + i)).take m = (seg.drop i).take m := by
  subst h
  rw [List.drop_take, List.take_take, List.drop_drop, Nat.min_eq_left (by omega)]
theorem at_pairs0 {pre post : List Pr} {xs : List (Arr Hash 2)} {k o : Nat} {a c : Hash} (hpre : pre.length = o) (h : xs[k]? = some ⟨[a, c], rfl⟩) : ((pre ++ flat pairT.toTy xs ++ post).drop (o + k * 64 + (0 : Int).toNat * 32)).take 32 = hashT.cells a := by
  have h1 : ((pre ++ flat pairT.toTy xs ++ post).drop (o + k * 64)).take 64 = pairT.cells ⟨[a, c], rfl⟩ := at_row (post := post) pairT.toTy hpre h
  rw [sub_seg (i := (0 : Int).toNat * 32) (m := 32) h1 (by decide)]
  show (((hashT.cells a ++ (hashT.cells c ++ [])).drop 0).take 32) = _
  rw [List.drop_zero]
  exact List.take_left' (hashT.len a)
theorem at_pairs1 {pre post : List Pr} {xs : List (Arr Hash 2)} {k o : Nat} {a c : Hash} (hpre : pre.length = o) (h : xs[k]? = some ⟨[a, c], rfl⟩) : ((pre ++ flat pairT.toTy xs ++ post).drop (o + k * 64 + (1 : Int).toNat * 32)).take 32 = hashT.cells c := by
  have h1 : ((pre ++ flat pairT.toTy xs ++ post).drop (o + k * 64)).take 64 = pairT.cells ⟨[a, c], rfl⟩ := at_row (post := post) pairT.toTy hpre h
  rw [sub_seg (i := (1 : Int).toNat * 32) (m := 32) h1 (by decide)]
  show (((hashT.cells a ++ (hashT.cells c ++ [])).drop 32).take 32) = _
  rw [List.drop_left' (show (hashT.cells a).length = 32 from hashT.len a)]
  exact List.take_left' (hashT.len c)
set_option linter.unusedVariables false
set_option linter.unusedSimpArgs false
attribute [local irreducible] J Lq E OpP PRun is any agg tup ptr sl PRunW OpE
attribute [local irreducible] up2 mroot nodeH leafH emptyH shaH ownAt row someL leafOf splitZ split rv ways inc okI leadsI chkI slw pairsA foldI
set_option maxRecDepth 100000 in
set_option maxHeartbeats 4000000 in
theorem pairs_fnR : ∀ (k : Nat) (pr : List Hash) (i n : Nat) (x : Hash), pr.length = k → k ≤ 1000 → i < n → n < 2 ^ 63 → k = (way i (n - 1)).length → FnR Tryd.prog 18 [hashT.val x, is (.int .i64 (i : Int)), is (.int .i64 (n : Int)), sl hashT.toTy pr] []
    (fun ψ Δ => ∃ A c, ψ = tup [is (.slice A (pairsA x ((way i (n - 1)).zip pr)).length c), is (.bool true)] ∧ Δ = [row (.slice A (pairsA x ((way i (n - 1)).zip pr)).length c) 42 pairT.toTy (pairsA x ((way i (n - 1)).zip pr))]) := by
  intro k
  induction k with
  | zero =>
    intro pr i n x hpr hk hi hn hw
    obtain rfl := List.eq_nil_of_length_eq_zero hpr
    have hp : ([] : List Hash).length = 0 := rfl
    have h1 : n = 1 := by
      by_cases h : n - 1 = 0
      · omega
      · have := way_pos (n - 1) i (n - 1) (Nat.le_refl _) h
        omega
    subst h1
    rw [List.zip_nil_right, show pairsA x [] = [] by unfold pairsA; rfl]
    refine FnR.mk' 128 Tryd.func18 rfl rfl rfl rfl fun w0 H0 => ?_
    refine J.nilrow 42 pairT.toTy ?_
    repeat (first | ((first | (apply Lq.s; rfl) | apply PRun.s | (apply Lq.run; rfl; rfl; rfl; exact bsB) | (apply PRun.run; rfl; rfl; exact bsB)); first | (apply op_box hashT; rfl) | (exact bsO)) | apply J.seq | apply E.next | apply J.lq | apply Lq.nil | apply PRun.nil | apply J.block | apply E.in_normal | apply J.skip | (apply Lq.store; rfl; rfl; exact bsP; exact bsS; rfl; rfl) | (apply PRun.al; rfl) | (apply Lq.al; rfl; rfl; intro b) | (apply Open.cons; intro b) | apply Open.nil | (apply Lq.pass; rfl; rfl; rfl) | (apply PRun.pass; rfl; rfl) | (apply Lq.skip; rfl; rfl; rfl; exact bsB) | (apply PRun.skip; rfl; rfl; exact bsB) | (apply J.cond_t; rfl) | (apply J.cond_f; rfl) | apply J.exit | apply E.then_exit | apply E.in_exit | (apply E.in_other; rfl))
    (refine J.ret ?_; (repeat (first | refine E.then_ret ?_ | refine E.in_ret ?_)))
    exact E.retR2 (G := []) rfl rfl rfl ⟨none, 0, rfl, rfl⟩ (List.Perm.refl _)
  | succ k ih =>
    intro pr i n x hpr hk hi hn hw
    have hn' : n < 9223372036854775808 := hn
    have hne : pr ≠ [] := by intro h; rw [h] at hpr; cases hpr
    obtain ⟨p, h, rfl⟩ : ∃ p h, pr = p ++ [h] := ⟨_, _, (List.dropLast_concat_getLast hne).symm⟩
    have hpl : (p ++ [h]).length = p.length + 1 := by rw [List.length_append]; rfl
    have hat : (p ++ [h])[p.length]? = some h := by rw [List.getElem?_append_right (Nat.le_refl _), Nat.sub_self]; rfl
    have htk : (p ++ [h]).take p.length = p := List.take_left' rfl
    have h1 : n ≠ 1 := by
      intro h
      subst h
      rw [show 1 - 1 = 0 from rfl, way_zero] at hw
      cases hw
    have hsp := splitN_fn n (by omega)
    obtain ⟨s1, s2, s3⟩ := split_lt (n := n) (by omega)
    by_cases hks : i < split n
    · have hwl : k = (way i (split n - 1)).length := by rw [wayI_left (by omega) hks, List.length_append] at hw; exact Nat.succ.inj hw
      have hrec := ih p i (split n) x (by omega) (by omega) hks (by omega) hwl
      have hpp : pairsA x ((way i (n - 1)).zip (p ++ [h])) = pairsA x ((way i (split n - 1)).zip p) ++ [⟨[foldI x ((way i (split n - 1)).zip p), h], rfl⟩] := by
        rw [wayI_left (by omega) hks, List.zip_append (by omega)]
        exact pairsA_left _ _ _
      have hll : (pairsA x ((way i (split n - 1)).zip p)).length ≤ p.length := by rw [pairsA_len, List.length_zip]; omega
      have hemp := pairsA_nil (x := x) (ds := (way i (split n - 1)).zip p)
      have hlast := pairsA_last (x := x) (ds := (way i (split n - 1)).zip p)
      rw [hpp]
      generalize foldI x ((way i (split n - 1)).zip p) = y at *
      generalize pairsA x ((way i (split n - 1)).zip p) = L at *
      generalize split n = s at *
      generalize hq : p ++ [h] = q at *
      clear hpp ih
      refine FnR.mk' 128 Tryd.func18 rfl rfl rfl rfl fun w0 H0 => ?_
      repeat (first | ((first | (apply Lq.s; rfl) | apply PRun.s | (apply Lq.run; rfl; rfl; rfl; exact bsB) | (apply PRun.run; rfl; rfl; exact bsB)); first | (apply op_box hashT; rfl) | (apply op_load hashT; rfl) | (apply op_call hsp; exact bsD) | (apply op_sub (c := (p.length : Int)); rfl; rfl; (rw [show (q.length : Int) - 1 = (p.length : Int) by omega]; apply wrapi <;> omega)) | (apply op_ksl_hi' (T := hashT.toTy) (ys := p) (hi := p.length); rfl; rfl; omega; exact htk) | (apply op_iaddr hashT.toTy (x := h); rfl; rfl; exact Int.natCast_nonneg _; (rw [Int.toNat_natCast]; exact hat)) | (exact bsO)) | apply J.seq | apply E.next | apply J.lq | apply Lq.nil | apply PRun.nil | apply J.block | apply E.in_normal | apply J.skip | (apply Lq.store; rfl; rfl; exact bsP; exact bsS; rfl; rfl) | (apply PRun.al; rfl) | (apply Lq.al; rfl; rfl; intro b) | (apply Open.cons; intro b) | apply Open.nil | (apply Lq.pass; rfl; rfl; rfl) | (apply PRun.pass; rfl; rfl) | (apply Lq.skip; rfl; rfl; rfl; exact bsB) | (apply PRun.skip; rfl; rfl; exact bsB) | (apply J.cond_t; rfl) | (apply J.cond_f; rfl) | apply J.exit | apply E.then_exit | apply E.in_exit | (apply E.in_other; rfl))
      refine Lq.storeE (φs' := hashT.cells h) rfl rfl (List.Perm.refl _) (Seg.val hashT _) (hashT.len _) (Nat.le_refl 32) (splice_all (by rw [hashT.len]; rfl)) ?_
      revert b
      intro b11
      repeat (first | ((first | (apply Lq.s; rfl) | apply PRun.s | (apply Lq.run; rfl; rfl; rfl; exact bsB) | (apply PRun.run; rfl; rfl; exact bsB)); first | (apply op_load hashT; rfl) | (exact bsO)) | apply J.seq | apply E.next | apply J.lq | apply Lq.nil | apply PRun.nil | apply J.block | apply E.in_normal | apply J.skip | (apply Lq.store; rfl; rfl; exact bsP; exact bsS; rfl; rfl) | (apply PRun.al; rfl) | (apply Lq.al; rfl; rfl; intro b) | (apply Open.cons; intro b) | apply Open.nil | (apply Lq.pass; rfl; rfl; rfl) | (apply PRun.pass; rfl; rfl) | (apply Lq.skip; rfl; rfl; rfl; exact bsB) | (apply PRun.skip; rfl; rfl; exact bsB) | (apply J.cond_t; rfl) | (apply J.cond_f; rfl) | apply J.exit | apply E.then_exit | apply E.in_exit | (apply E.in_other; rfl))
      refine Lq.storeE (φs' := hashT.cells x) rfl rfl (List.Perm.refl _) (Seg.val hashT _) (hashT.len _) (Nat.le_refl 32) (splice_all (by rw [hashT.len]; rfl)) ?_
      revert b
      intro b12
      repeat (first | ((first | (apply Lq.s; rfl) | apply PRun.s | (apply Lq.run; rfl; rfl; rfl; exact bsB) | (apply PRun.run; rfl; rfl; exact bsB)); first | (exact bsO)) | apply J.seq | apply E.next | apply J.lq | apply Lq.nil | apply PRun.nil | apply J.block | apply E.in_normal | apply J.skip | (apply Lq.store; rfl; rfl; exact bsP; exact bsS; rfl; rfl) | (apply PRun.al; rfl) | (apply Lq.al; rfl; rfl; intro b) | (apply Open.cons; intro b) | apply Open.nil | (apply Lq.pass; rfl; rfl; rfl) | (apply PRun.pass; rfl; rfl) | (apply Lq.skip; rfl; rfl; rfl; exact bsB) | (apply PRun.skip; rfl; rfl; exact bsB) | (apply J.cond_t; rfl) | (apply J.cond_f; rfl) | apply J.exit | apply E.then_exit | apply E.in_exit | (apply E.in_other; rfl))
      refine J.drawW 14 [(none, none), (none, none), (none, none), (none, none), (none, none), (none, none), (none, none), (none, none), (none, some 59), (some 59, some 50), (some 50, some 60), (none, none), (some 60, some 13), (none, none)] mixed (by kernel_rfl) ?_
      repeat (first | ((first | apply PRunW.s | (apply PRunW.run; rfl; rfl; exact bsB) | (apply Lq.s; rfl) | apply PRun.s | (apply Lq.run; rfl; rfl; rfl; exact bsB) | (apply PRun.run; rfl; rfl; exact bsB)); first | (apply op_load hashT; rfl) | (apply op_sub (c := (p.length : Int)); rfl; rfl; (rw [show (q.length : Int) - 1 = (p.length : Int) by omega]; apply wrapi <;> omega)) | (apply op_ksl_hi' (T := hashT.toTy) (ys := p) (hi := p.length); rfl; rfl; omega; exact htk) | (apply op_iaddr hashT.toTy (x := h); rfl; rfl; exact Int.natCast_nonneg _; (rw [Int.toNat_natCast]; exact hat)) | (exact bsO)) | apply J.seq | apply E.next | apply J.lq | apply Lq.nil | apply PRun.nil | apply J.block | apply E.in_normal | apply J.skip | (apply Lq.store; rfl; rfl; exact bsP; exact bsS; rfl; rfl) | (apply PRun.al; rfl) | (apply Lq.al; rfl; rfl; intro b) | (apply Open.cons; intro b) | apply Open.nil | (apply Lq.pass; rfl; rfl; rfl) | (apply PRun.pass; rfl; rfl) | (apply Lq.skip; rfl; rfl; rfl; exact bsB) | (apply PRun.skip; rfl; rfl; exact bsB) | (apply J.cond_t; rfl) | (apply J.cond_f; rfl) | apply J.exit | apply E.then_exit | apply E.in_exit | (apply E.in_other; rfl) | apply PRunW.nil | (apply PRunW.al; rfl) | (apply PRunW.pass; rfl; rfl) | (apply PRunW.skip; rfl; rfl; exact bsB) | (apply Open.pv; intro b) | apply Open.av | (apply Open.rv; intro A c))
      refine PRunW.callT hrec bsD ?_
      refine PRunW.mv rfl rfl rfl ?_
      refine PRunW.ex0 rfl rfl rfl rfl ?_
      refine PRunW.s (op_extract rfl rfl) ?_
      refine PRunW.asg rfl rfl rfl ?_
      refine PRunW.s (op_assign rfl) ?_
      refine PRunW.nil (Open.rv fun A c => Open.nil ?_)
      by_cases hLe : L = []
      · obtain rfl := hemp hLe
        subst hLe
        have hp0 : ([] : List (Arr Hash 2)).length = 0 := rfl
        repeat (first | ((first | (apply Lq.s; rfl) | apply PRun.s | (apply Lq.run; rfl; rfl; rfl; exact bsB) | (apply PRun.run; rfl; rfl; exact bsB)); first | (apply op_slen; rfl) | (apply op_oload hashT (x := h); rfl; exact bsM; exact at_hash h) | (apply op_oload hashT (x := y); rfl; exact bsM; exact at_hash y) | (apply op_pairH; rfl; rfl; rfl; rfl; rfl; rfl) | (apply op_bslice pairT (xs := [⟨[y, h], rfl⟩]); (repeat (first | exact PO.nil _ | (apply PO.cons; rfl))); rfl; rfl; rfl) | (exact bsO)) | apply J.seq | apply E.next | apply J.lq | apply Lq.nil | apply PRun.nil | apply J.block | apply E.in_normal | apply J.skip | (apply Lq.store; rfl; rfl; exact bsP; exact bsS; rfl; rfl) | (apply PRun.al; rfl) | (apply Lq.al; rfl; rfl; intro b) | (apply Open.cons; intro b) | apply Open.nil | (apply Lq.pass; rfl; rfl; rfl) | (apply PRun.pass; rfl; rfl) | (apply Lq.skip; rfl; rfl; rfl; exact bsB) | (apply PRun.skip; rfl; rfl; exact bsB) | (apply J.cond_t; rfl) | (apply J.cond_f; rfl) | apply J.exit | apply E.then_exit | apply E.in_exit | (apply E.in_other; rfl))
        (apply Lq.append (T := pairT) (xs := []) (ys := [⟨[y, h], rfl⟩]); rfl; exact List.Perm.refl _; (apply From.sl; rfl); rfl; rfl; rfl; (show 0 + 1 ≤ maxLen; unfold maxLen; omega); (show (0 + 1) * 64 ≤ _; omega))
        intro A1 c1
        repeat (first | ((first | (apply Lq.s; rfl) | apply PRun.s | (apply Lq.run; rfl; rfl; rfl; exact bsB) | (apply PRun.run; rfl; rfl; exact bsB)); first | (exact bsO)) | apply J.seq | apply E.next | apply J.lq | apply Lq.nil | apply PRun.nil | apply J.block | apply E.in_normal | apply J.skip | (apply Lq.store; rfl; rfl; exact bsP; exact bsS; rfl; rfl) | (apply PRun.al; rfl) | (apply Lq.al; rfl; rfl; intro b) | (apply Open.cons; intro b) | apply Open.nil | (apply Lq.pass; rfl; rfl; rfl) | (apply PRun.pass; rfl; rfl) | (apply Lq.skip; rfl; rfl; rfl; exact bsB) | (apply PRun.skip; rfl; rfl; exact bsB) | (apply J.cond_t; rfl) | (apply J.cond_f; rfl) | apply J.exit | apply E.then_exit | apply E.in_exit | (apply E.in_other; rfl))
        (refine J.ret ?_; (repeat (first | refine E.then_ret ?_ | refine E.in_ret ?_)))
        exact E.retR2 (G := [_, _]) rfl rfl rfl ⟨A1, c1, rfl, rfl⟩ (List.Perm.refl _)
      · obtain ⟨a, c2, hac, hnode⟩ := hlast hLe
        have hL0 : 0 < L.length := List.length_pos_iff.2 hLe
        refine Lq.open (List.Perm.refl _) hLe ?_
        intro rb ro cap pre post hR
        obtain ⟨hv, hpre, hle, hcap, hroom, _⟩ := hR
        injection hv with hA _ hc
        subst hA; subst hc
        repeat (first | ((first | (apply Lq.s; rfl) | apply PRun.s | (apply Lq.run; rfl; rfl; rfl; exact bsB) | (apply PRun.run; rfl; rfl; exact bsB)); first | (apply op_slen; rfl) | (exact bsO)) | apply J.seq | apply E.next | apply J.lq | apply Lq.nil | apply PRun.nil | apply J.block | apply E.in_normal | apply J.skip | (apply Lq.store; rfl; rfl; exact bsP; exact bsS; rfl; rfl) | (apply PRun.al; rfl) | (apply Lq.al; rfl; rfl; intro b) | (apply Open.cons; intro b) | apply Open.nil | (apply Lq.pass; rfl; rfl; rfl) | (apply PRun.pass; rfl; rfl) | (apply Lq.skip; rfl; rfl; rfl; exact bsB) | (apply PRun.skip; rfl; rfl; exact bsB) | (apply J.cond_t; rfl) | (apply J.cond_f; rfl) | apply J.exit | apply E.then_exit | apply E.in_exit | (apply E.in_other; rfl))
        refine J.drawN mixed (by kernel_rfl) ?_
        repeat (first | ((first | (apply Lq.s; rfl) | apply PRun.s | (apply Lq.run; rfl; rfl; rfl; exact bsB) | (apply PRun.run; rfl; rfl; exact bsB)); first | (apply op_slen; rfl) | (apply op_sub (c := ((L.length - 1 : Nat) : Int)); rfl; rfl; (rw [show (L.length : Int) - 1 = ((L.length - 1 : Nat) : Int) by omega]; apply wrapi <;> omega)) | (apply op_siaddr; rfl; rfl; exact Int.natCast_nonneg _; omega) | (apply op_oload hashT (x := a); rfl; exact bsM; (rw [Int.toNat_natCast]; exact at_pairs0 hpre hac)) | (apply op_oload hashT (x := c2); rfl; exact bsM; (rw [Int.toNat_natCast]; exact at_pairs1 hpre hac)) | (apply op_call (nodeH_fn a c2); exact bsD) | (exact bsO)) | apply J.seq | apply E.next | apply J.lq | apply Lq.nil | apply PRun.nil | apply J.block | apply E.in_normal | apply J.skip | (apply Lq.store; rfl; rfl; exact bsP; exact bsS; rfl; rfl) | (apply PRun.al; rfl) | (apply Lq.al; rfl; rfl; intro b) | (apply Open.cons; intro b) | apply Open.nil | (apply Lq.pass; rfl; rfl; rfl) | (apply PRun.pass; rfl; rfl) | (apply Lq.skip; rfl; rfl; rfl; exact bsB) | (apply PRun.skip; rfl; rfl; exact bsB) | (apply J.cond_t; rfl) | (apply J.cond_f; rfl) | apply J.exit | apply E.then_exit | apply E.in_exit | (apply E.in_other; rfl))
        rw [hnode]
        refine Lq.storeE (φs' := hashT.cells y) rfl rfl (List.Perm.swap _ _ _) (Seg.val hashT _) (hashT.len _) (Nat.le_of_eq (hashT.len _).symm) (splice_all (by rw [hashT.len, hashT.len])) ?_
        refine Lq.nil ?_
        refine E.close pairT.toTy L (b := rb) (o := ro) (cap := c) (List.Perm.swap _ _ _) ?_ hle hcap (take_rowT pairT.toTy hpre) ?_
        · simp only [List.length_append, flat_len] at hroom ⊢
          exact hroom
        repeat (first | ((first | (apply Lq.s; rfl) | apply PRun.s | (apply Lq.run; rfl; rfl; rfl; exact bsB) | (apply PRun.run; rfl; rfl; exact bsB)); first | (apply op_oload hashT (x := h); rfl; exact bsM; exact at_hash h) | (apply op_oload hashT (x := y); rfl; exact bsM; exact at_hash y) | (apply op_pairH; rfl; rfl; rfl; rfl; rfl; rfl) | (apply op_bslice pairT (xs := [⟨[y, h], rfl⟩]); (repeat (first | exact PO.nil _ | (apply PO.cons; rfl))); rfl; rfl; rfl) | (exact bsO)) | apply J.seq | apply E.next | apply J.lq | apply Lq.nil | apply PRun.nil | apply J.block | apply E.in_normal | apply J.skip | (apply Lq.store; rfl; rfl; exact bsP; exact bsS; rfl; rfl) | (apply PRun.al; rfl) | (apply Lq.al; rfl; rfl; intro b) | (apply Open.cons; intro b) | apply Open.nil | (apply Lq.pass; rfl; rfl; rfl) | (apply PRun.pass; rfl; rfl) | (apply Lq.skip; rfl; rfl; rfl; exact bsB) | (apply PRun.skip; rfl; rfl; exact bsB) | (apply J.cond_t; rfl) | (apply J.cond_f; rfl) | apply J.exit | apply E.then_exit | apply E.in_exit | (apply E.in_other; rfl))
        (apply Lq.append (T := pairT) (xs := L) (ys := [⟨[y, h], rfl⟩]); rfl; exact List.Perm.refl _; (apply From.sl; rfl); rfl; rfl; rfl; (show _ + 1 ≤ maxLen; unfold maxLen; omega); (show (_ + 1) * 64 ≤ _; omega))
        intro A1 c1
        repeat (first | ((first | (apply Lq.s; rfl) | apply PRun.s | (apply Lq.run; rfl; rfl; rfl; exact bsB) | (apply PRun.run; rfl; rfl; exact bsB)); first | (exact bsO)) | apply J.seq | apply E.next | apply J.lq | apply Lq.nil | apply PRun.nil | apply J.block | apply E.in_normal | apply J.skip | (apply Lq.store; rfl; rfl; exact bsP; exact bsS; rfl; rfl) | (apply PRun.al; rfl) | (apply Lq.al; rfl; rfl; intro b) | (apply Open.cons; intro b) | apply Open.nil | (apply Lq.pass; rfl; rfl; rfl) | (apply PRun.pass; rfl; rfl) | (apply Lq.skip; rfl; rfl; rfl; exact bsB) | (apply PRun.skip; rfl; rfl; exact bsB) | (apply J.cond_t; rfl) | (apply J.cond_f; rfl) | apply J.exit | apply E.then_exit | apply E.in_exit | (apply E.in_other; rfl))
        (refine J.ret ?_; (repeat (first | refine E.then_ret ?_ | refine E.in_ret ?_)))
        exact E.retR2 (G := [_, _]) rfl rfl rfl ⟨A1, c1, rfl, rfl⟩ (List.Perm.refl _)
    · have hwl : k = (way (i - split n) (n - split n - 1)).length := by rw [wayI_right (by omega) hi (by omega), List.length_append] at hw; exact Nat.succ.inj hw
      have hrec := ih p (i - split n) (n - split n) x (by omega) (by omega) (by omega) (by omega) hwl
      have hpp : pairsA x ((way i (n - 1)).zip (p ++ [h])) = pairsA x ((way (i - split n) (n - split n - 1)).zip p) ++ [⟨[h, foldI x ((way (i - split n) (n - split n - 1)).zip p)], rfl⟩] := by
        rw [wayI_right (by omega) hi (by omega), List.zip_append (by omega)]
        exact pairsA_right _ _ _
      have hll : (pairsA x ((way (i - split n) (n - split n - 1)).zip p)).length ≤ p.length := by rw [pairsA_len, List.length_zip]; omega
      have hemp := pairsA_nil (x := x) (ds := (way (i - split n) (n - split n - 1)).zip p)
      have hlast := pairsA_last (x := x) (ds := (way (i - split n) (n - split n - 1)).zip p)
      rw [hpp]
      generalize foldI x ((way (i - split n) (n - split n - 1)).zip p) = y at *
      generalize pairsA x ((way (i - split n) (n - split n - 1)).zip p) = L at *
      generalize split n = s at *
      generalize hq : p ++ [h] = q at *
      clear hpp ih
      refine FnR.mk' 128 Tryd.func18 rfl rfl rfl rfl fun w0 H0 => ?_
      repeat (first | ((first | (apply Lq.s; rfl) | apply PRun.s | (apply Lq.run; rfl; rfl; rfl; exact bsB) | (apply PRun.run; rfl; rfl; exact bsB)); first | (apply op_box hashT; rfl) | (apply op_load hashT; rfl) | (apply op_call hsp; exact bsD) | (apply op_sub (c := (p.length : Int)); rfl; rfl; (rw [show (q.length : Int) - 1 = (p.length : Int) by omega]; apply wrapi <;> omega)) | (apply op_ksl_hi' (T := hashT.toTy) (ys := p) (hi := p.length); rfl; rfl; omega; exact htk) | (apply op_iaddr hashT.toTy (x := h); rfl; rfl; exact Int.natCast_nonneg _; (rw [Int.toNat_natCast]; exact hat)) | (exact bsO)) | apply J.seq | apply E.next | apply J.lq | apply Lq.nil | apply PRun.nil | apply J.block | apply E.in_normal | apply J.skip | (apply Lq.store; rfl; rfl; exact bsP; exact bsS; rfl; rfl) | (apply PRun.al; rfl) | (apply Lq.al; rfl; rfl; intro b) | (apply Open.cons; intro b) | apply Open.nil | (apply Lq.pass; rfl; rfl; rfl) | (apply PRun.pass; rfl; rfl) | (apply Lq.skip; rfl; rfl; rfl; exact bsB) | (apply PRun.skip; rfl; rfl; exact bsB) | (apply J.cond_t; rfl) | (apply J.cond_f; rfl) | apply J.exit | apply E.then_exit | apply E.in_exit | (apply E.in_other; rfl))
      refine Lq.storeE (φs' := hashT.cells h) rfl rfl (List.Perm.refl _) (Seg.val hashT _) (hashT.len _) (Nat.le_refl 32) (splice_all (by rw [hashT.len]; rfl)) ?_
      revert b
      intro b11
      repeat (first | ((first | (apply Lq.s; rfl) | apply PRun.s | (apply Lq.run; rfl; rfl; rfl; exact bsB) | (apply PRun.run; rfl; rfl; exact bsB)); first | (apply op_load hashT; rfl) | (exact bsO)) | apply J.seq | apply E.next | apply J.lq | apply Lq.nil | apply PRun.nil | apply J.block | apply E.in_normal | apply J.skip | (apply Lq.store; rfl; rfl; exact bsP; exact bsS; rfl; rfl) | (apply PRun.al; rfl) | (apply Lq.al; rfl; rfl; intro b) | (apply Open.cons; intro b) | apply Open.nil | (apply Lq.pass; rfl; rfl; rfl) | (apply PRun.pass; rfl; rfl) | (apply Lq.skip; rfl; rfl; rfl; exact bsB) | (apply PRun.skip; rfl; rfl; exact bsB) | (apply J.cond_t; rfl) | (apply J.cond_f; rfl) | apply J.exit | apply E.then_exit | apply E.in_exit | (apply E.in_other; rfl))
      refine Lq.storeE (φs' := hashT.cells x) rfl rfl (List.Perm.refl _) (Seg.val hashT _) (hashT.len _) (Nat.le_refl 32) (splice_all (by rw [hashT.len]; rfl)) ?_
      revert b
      intro b12
      repeat (first | ((first | (apply Lq.s; rfl) | apply PRun.s | (apply Lq.run; rfl; rfl; rfl; exact bsB) | (apply PRun.run; rfl; rfl; exact bsB)); first | (exact bsO)) | apply J.seq | apply E.next | apply J.lq | apply Lq.nil | apply PRun.nil | apply J.block | apply E.in_normal | apply J.skip | (apply Lq.store; rfl; rfl; exact bsP; exact bsS; rfl; rfl) | (apply PRun.al; rfl) | (apply Lq.al; rfl; rfl; intro b) | (apply Open.cons; intro b) | apply Open.nil | (apply Lq.pass; rfl; rfl; rfl) | (apply PRun.pass; rfl; rfl) | (apply Lq.skip; rfl; rfl; rfl; exact bsB) | (apply PRun.skip; rfl; rfl; exact bsB) | (apply J.cond_t; rfl) | (apply J.cond_f; rfl) | apply J.exit | apply E.then_exit | apply E.in_exit | (apply E.in_other; rfl))
      refine J.drawW 18 [(none, none), (none, none), (none, none), (none, none), (none, none), (none, none), (none, none), (none, none), (none, none), (none, none), (none, none), (none, none), (none, some 100), (some 100, some 87), (some 87, some 101), (none, none), (some 101, some 15), (none, none)] mixed (by kernel_rfl) ?_
      repeat (first | ((first | apply PRunW.s | (apply PRunW.run; rfl; rfl; exact bsB) | (apply Lq.s; rfl) | apply PRun.s | (apply Lq.run; rfl; rfl; rfl; exact bsB) | (apply PRun.run; rfl; rfl; exact bsB)); first | (apply op_load hashT; rfl) | (apply op_sub (c := ((i - s : Nat) : Int)); rfl; rfl; (rw [show (i : Int) - (s : Int) = ((i - s : Nat) : Int) by omega]; apply wrapi <;> omega)) | (apply op_sub (c := ((n - s : Nat) : Int)); rfl; rfl; (rw [show (n : Int) - (s : Int) = ((n - s : Nat) : Int) by omega]; apply wrapi <;> omega)) | (apply op_sub (c := (p.length : Int)); rfl; rfl; (rw [show (q.length : Int) - 1 = (p.length : Int) by omega]; apply wrapi <;> omega)) | (apply op_ksl_hi' (T := hashT.toTy) (ys := p) (hi := p.length); rfl; rfl; omega; exact htk) | (apply op_iaddr hashT.toTy (x := h); rfl; rfl; exact Int.natCast_nonneg _; (rw [Int.toNat_natCast]; exact hat)) | (exact bsO)) | apply J.seq | apply E.next | apply J.lq | apply Lq.nil | apply PRun.nil | apply J.block | apply E.in_normal | apply J.skip | (apply Lq.store; rfl; rfl; exact bsP; exact bsS; rfl; rfl) | (apply PRun.al; rfl) | (apply Lq.al; rfl; rfl; intro b) | (apply Open.cons; intro b) | apply Open.nil | (apply Lq.pass; rfl; rfl; rfl) | (apply PRun.pass; rfl; rfl) | (apply Lq.skip; rfl; rfl; rfl; exact bsB) | (apply PRun.skip; rfl; rfl; exact bsB) | (apply J.cond_t; rfl) | (apply J.cond_f; rfl) | apply J.exit | apply E.then_exit | apply E.in_exit | (apply E.in_other; rfl) | apply PRunW.nil | (apply PRunW.al; rfl) | (apply PRunW.pass; rfl; rfl) | (apply PRunW.skip; rfl; rfl; exact bsB) | (apply Open.pv; intro b) | apply Open.av | (apply Open.rv; intro A c))
      refine PRunW.callT hrec bsD ?_
      refine PRunW.mv rfl rfl rfl ?_
      refine PRunW.ex0 rfl rfl rfl rfl ?_
      refine PRunW.s (op_extract rfl rfl) ?_
      refine PRunW.asg rfl rfl rfl ?_
      refine PRunW.s (op_assign rfl) ?_
      refine PRunW.nil (Open.rv fun A c => Open.nil ?_)
      by_cases hLe : L = []
      · obtain rfl := hemp hLe
        subst hLe
        have hp0 : ([] : List (Arr Hash 2)).length = 0 := rfl
        repeat (first | ((first | (apply Lq.s; rfl) | apply PRun.s | (apply Lq.run; rfl; rfl; rfl; exact bsB) | (apply PRun.run; rfl; rfl; exact bsB)); first | (apply op_slen; rfl) | (apply op_oload hashT (x := h); rfl; exact bsM; exact at_hash h) | (apply op_oload hashT (x := y); rfl; exact bsM; exact at_hash y) | (apply op_pairH; rfl; rfl; rfl; rfl; rfl; rfl) | (apply op_bslice pairT (xs := [⟨[h, y], rfl⟩]); (repeat (first | exact PO.nil _ | (apply PO.cons; rfl))); rfl; rfl; rfl) | (exact bsO)) | apply J.seq | apply E.next | apply J.lq | apply Lq.nil | apply PRun.nil | apply J.block | apply E.in_normal | apply J.skip | (apply Lq.store; rfl; rfl; exact bsP; exact bsS; rfl; rfl) | (apply PRun.al; rfl) | (apply Lq.al; rfl; rfl; intro b) | (apply Open.cons; intro b) | apply Open.nil | (apply Lq.pass; rfl; rfl; rfl) | (apply PRun.pass; rfl; rfl) | (apply Lq.skip; rfl; rfl; rfl; exact bsB) | (apply PRun.skip; rfl; rfl; exact bsB) | (apply J.cond_t; rfl) | (apply J.cond_f; rfl) | apply J.exit | apply E.then_exit | apply E.in_exit | (apply E.in_other; rfl))
        (apply Lq.append (T := pairT) (xs := []) (ys := [⟨[h, y], rfl⟩]); rfl; exact List.Perm.refl _; (apply From.sl; rfl); rfl; rfl; rfl; (show 0 + 1 ≤ maxLen; unfold maxLen; omega); (show (0 + 1) * 64 ≤ _; omega))
        intro A1 c1
        repeat (first | ((first | (apply Lq.s; rfl) | apply PRun.s | (apply Lq.run; rfl; rfl; rfl; exact bsB) | (apply PRun.run; rfl; rfl; exact bsB)); first | (exact bsO)) | apply J.seq | apply E.next | apply J.lq | apply Lq.nil | apply PRun.nil | apply J.block | apply E.in_normal | apply J.skip | (apply Lq.store; rfl; rfl; exact bsP; exact bsS; rfl; rfl) | (apply PRun.al; rfl) | (apply Lq.al; rfl; rfl; intro b) | (apply Open.cons; intro b) | apply Open.nil | (apply Lq.pass; rfl; rfl; rfl) | (apply PRun.pass; rfl; rfl) | (apply Lq.skip; rfl; rfl; rfl; exact bsB) | (apply PRun.skip; rfl; rfl; exact bsB) | (apply J.cond_t; rfl) | (apply J.cond_f; rfl) | apply J.exit | apply E.then_exit | apply E.in_exit | (apply E.in_other; rfl))
        (refine J.ret ?_; (repeat (first | refine E.then_ret ?_ | refine E.in_ret ?_)))
        exact E.retR2 (G := [_, _]) rfl rfl rfl ⟨A1, c1, rfl, rfl⟩ (List.Perm.refl _)
      · obtain ⟨a, c2, hac, hnode⟩ := hlast hLe
        have hL0 : 0 < L.length := List.length_pos_iff.2 hLe
        refine Lq.open (List.Perm.refl _) hLe ?_
        intro rb ro cap pre post hR
        obtain ⟨hv, hpre, hle, hcap, hroom, _⟩ := hR
        injection hv with hA _ hc
        subst hA; subst hc
        repeat (first | ((first | (apply Lq.s; rfl) | apply PRun.s | (apply Lq.run; rfl; rfl; rfl; exact bsB) | (apply PRun.run; rfl; rfl; exact bsB)); first | (apply op_slen; rfl) | (exact bsO)) | apply J.seq | apply E.next | apply J.lq | apply Lq.nil | apply PRun.nil | apply J.block | apply E.in_normal | apply J.skip | (apply Lq.store; rfl; rfl; exact bsP; exact bsS; rfl; rfl) | (apply PRun.al; rfl) | (apply Lq.al; rfl; rfl; intro b) | (apply Open.cons; intro b) | apply Open.nil | (apply Lq.pass; rfl; rfl; rfl) | (apply PRun.pass; rfl; rfl) | (apply Lq.skip; rfl; rfl; rfl; exact bsB) | (apply PRun.skip; rfl; rfl; exact bsB) | (apply J.cond_t; rfl) | (apply J.cond_f; rfl) | apply J.exit | apply E.then_exit | apply E.in_exit | (apply E.in_other; rfl))
        refine J.drawN mixed (by kernel_rfl) ?_
        repeat (first | ((first | (apply Lq.s; rfl) | apply PRun.s | (apply Lq.run; rfl; rfl; rfl; exact bsB) | (apply PRun.run; rfl; rfl; exact bsB)); first | (apply op_slen; rfl) | (apply op_sub (c := ((L.length - 1 : Nat) : Int)); rfl; rfl; (rw [show (L.length : Int) - 1 = ((L.length - 1 : Nat) : Int) by omega]; apply wrapi <;> omega)) | (apply op_siaddr; rfl; rfl; exact Int.natCast_nonneg _; omega) | (apply op_oload hashT (x := a); rfl; exact bsM; (rw [Int.toNat_natCast]; exact at_pairs0 hpre hac)) | (apply op_oload hashT (x := c2); rfl; exact bsM; (rw [Int.toNat_natCast]; exact at_pairs1 hpre hac)) | (apply op_call (nodeH_fn a c2); exact bsD) | (exact bsO)) | apply J.seq | apply E.next | apply J.lq | apply Lq.nil | apply PRun.nil | apply J.block | apply E.in_normal | apply J.skip | (apply Lq.store; rfl; rfl; exact bsP; exact bsS; rfl; rfl) | (apply PRun.al; rfl) | (apply Lq.al; rfl; rfl; intro b) | (apply Open.cons; intro b) | apply Open.nil | (apply Lq.pass; rfl; rfl; rfl) | (apply PRun.pass; rfl; rfl) | (apply Lq.skip; rfl; rfl; rfl; exact bsB) | (apply PRun.skip; rfl; rfl; exact bsB) | (apply J.cond_t; rfl) | (apply J.cond_f; rfl) | apply J.exit | apply E.then_exit | apply E.in_exit | (apply E.in_other; rfl))
        rw [hnode]
        refine Lq.storeE (φs' := hashT.cells y) rfl rfl (List.Perm.swap _ _ _) (Seg.val hashT _) (hashT.len _) (Nat.le_of_eq (hashT.len _).symm) (splice_all (by rw [hashT.len, hashT.len])) ?_
        refine Lq.nil ?_
        refine E.close pairT.toTy L (b := rb) (o := ro) (cap := c) (List.Perm.swap _ _ _) ?_ hle hcap (take_rowT pairT.toTy hpre) ?_
        · simp only [List.length_append, flat_len] at hroom ⊢
          exact hroom
        repeat (first | ((first | (apply Lq.s; rfl) | apply PRun.s | (apply Lq.run; rfl; rfl; rfl; exact bsB) | (apply PRun.run; rfl; rfl; exact bsB)); first | (apply op_oload hashT (x := h); rfl; exact bsM; exact at_hash h) | (apply op_oload hashT (x := y); rfl; exact bsM; exact at_hash y) | (apply op_pairH; rfl; rfl; rfl; rfl; rfl; rfl) | (apply op_bslice pairT (xs := [⟨[h, y], rfl⟩]); (repeat (first | exact PO.nil _ | (apply PO.cons; rfl))); rfl; rfl; rfl) | (exact bsO)) | apply J.seq | apply E.next | apply J.lq | apply Lq.nil | apply PRun.nil | apply J.block | apply E.in_normal | apply J.skip | (apply Lq.store; rfl; rfl; exact bsP; exact bsS; rfl; rfl) | (apply PRun.al; rfl) | (apply Lq.al; rfl; rfl; intro b) | (apply Open.cons; intro b) | apply Open.nil | (apply Lq.pass; rfl; rfl; rfl) | (apply PRun.pass; rfl; rfl) | (apply Lq.skip; rfl; rfl; rfl; exact bsB) | (apply PRun.skip; rfl; rfl; exact bsB) | (apply J.cond_t; rfl) | (apply J.cond_f; rfl) | apply J.exit | apply E.then_exit | apply E.in_exit | (apply E.in_other; rfl))
        (apply Lq.append (T := pairT) (xs := L) (ys := [⟨[h, y], rfl⟩]); rfl; exact List.Perm.refl _; (apply From.sl; rfl); rfl; rfl; rfl; (show _ + 1 ≤ maxLen; unfold maxLen; omega); (show (_ + 1) * 64 ≤ _; omega))
        intro A1 c1
        repeat (first | ((first | (apply Lq.s; rfl) | apply PRun.s | (apply Lq.run; rfl; rfl; rfl; exact bsB) | (apply PRun.run; rfl; rfl; exact bsB)); first | (exact bsO)) | apply J.seq | apply E.next | apply J.lq | apply Lq.nil | apply PRun.nil | apply J.block | apply E.in_normal | apply J.skip | (apply Lq.store; rfl; rfl; exact bsP; exact bsS; rfl; rfl) | (apply PRun.al; rfl) | (apply Lq.al; rfl; rfl; intro b) | (apply Open.cons; intro b) | apply Open.nil | (apply Lq.pass; rfl; rfl; rfl) | (apply PRun.pass; rfl; rfl) | (apply Lq.skip; rfl; rfl; rfl; exact bsB) | (apply PRun.skip; rfl; rfl; exact bsB) | (apply J.cond_t; rfl) | (apply J.cond_f; rfl) | apply J.exit | apply E.then_exit | apply E.in_exit | (apply E.in_other; rfl))
        (refine J.ret ?_; (repeat (first | refine E.then_ret ?_ | refine E.in_ret ?_)))
        exact E.retR2 (G := [_, _]) rfl rfl rfl ⟨A1, c1, rfl, rfl⟩ (List.Perm.refl _)
theorem pairs_fn (pr : List Hash) (i n : Nat) (x : Hash) (hk : pr.length ≤ 1000) (hi : i < n) (hn : n < 2 ^ 63) (hw : pr.length = (way i (n - 1)).length) : Fn Tryd.prog 18 [hashT.val x, is (.int .i64 (i : Int)), is (.int .i64 (n : Int)), sl hashT.toTy pr] (tup [sl pairT.toTy (pairsA x ((way i (n - 1)).zip pr)), is (.bool true)]) := (pairs_fnR pr.length pr i n x rfl hk hi hn hw).frz2
end Go.Proofs.YtoenogdcopajpaaDoor.L
