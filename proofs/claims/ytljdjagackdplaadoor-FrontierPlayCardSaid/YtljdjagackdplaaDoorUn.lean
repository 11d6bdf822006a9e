/-
  The document's edges: what is told of them, walked.
-/
import Derived.Test.YtljdjagackdplaaDoorUl
namespace Go.Proofs.YtljdjagackdplaaDoor.L
open Go
set_option linter.unusedSectionVars false
variable [Globs] [Has_sha_table] [Has_sha_begin]
set_option linter.unusedVariables false
def nums (ss : List Nat) : List Int := ss.map fun n : Nat => (n : Int)
theorem nums_len (ss : List Nat) : (nums ss).length = ss.length := by unfold nums; rw [List.length_map]
theorem nums_at {ss : List Nat} {i s : Nat} (h : ss[i]? = some s) : (nums ss)[i]? = some (s : Int) := by unfold nums; rw [List.getElem?_map, h]; rfl
structure RefF where
  sizes : List Nat
  hashes : List Hash
def refT : Td RefF where
  sz := 2
  cells r := [sl (intT .i64).toTy (nums r.sizes), sl hashT.toTy r.hashes]
  len _ := rfl
  ag := true
  one h := by cases h
  sc x H v h _ := by cases h
  pos := by decide
theorem ref_sizes : Fld refT.toTy (slT (intT .i64)).toTy (fun r => nums r.sizes) 0 := ⟨fun s => ⟨[], _, rfl, rfl⟩⟩
theorem ref_hashes : Fld refT.toTy (slT hashT).toTy RefF.hashes 1 := ⟨fun s => ⟨[sl (intT .i64).toTy (nums s.sizes)], [], rfl, rfl⟩⟩
theorem sum_take {ss : List Nat} {i s : Nat} (h : ss[i]? = some s) : (ss.take (i + 1)).sum = (ss.take i).sum + s := by
  rw [List.take_add_one, h]
  simp
theorem sum_le (ss : List Nat) (i : Nat) : (ss.take i).sum ≤ ss.sum := by
  have h : ss.sum = (ss.take i).sum + (ss.drop i).sum := by
    rw [← List.sum_append, List.take_append_drop]
  omega
theorem op_nilP {P : Program} {Γ : Env} {Δ : List Res} {d : Option Nat} {ty : Nat} {pos : String} {af : Array Edge} {g : Option (Nat × Bool)} {x : Operand} {φs : List Pr} (h : opd Γ x = some (ptr φs)) : OpP P Γ Δ ⟨d, .nilCheck x, ty, pos, af, g⟩ (ptr φs) :=
  OpP.same fun H A w hx hs => by
    obtain ⟨b, o, hv, hc⟩ := hx x (by simp [Op.operands]) _ h
    refine ⟨.pointer (some ⟨b, o, none⟩), ?_, b, o, rfl, hc⟩
    simp only [execOp, hv]
    rfl
set_option linter.unusedVariables false
set_option linter.unusedSimpArgs false
attribute [local irreducible] J Lq E OpP PRun is any agg tup ptr sl PRunW OpE PRunV OpV star
attribute [local irreducible] up2 mroot nodeH leafH emptyH shaH ownAt row someL leafOf splitZ split rv join2 edge rootE o1 o2 o3 frV fre nums
theorem rones_fn (n : Nat) (hn : n ≤ 9223372036854775807) : Fn Tryd.prog 43 [is (.int .i64 (n : Int))] (is (.int .i64 ((pop n : Nat) : Int))) := by
  have hpn := pop_le n
  refine Fn.mk' 13 Tryd.func43 rfl rfl rfl rfl fun w0 H0 => ?_
  repeat (first | ((first | (apply Lq.s; rfl) | apply PRun.s | (apply Lq.run; rfl; rfl; rfl; exact bsB) | (apply PRun.run; rfl; rfl; exact bsB)); first | (exact bsO)) | apply J.seq | apply E.next | apply J.lq | apply Lq.nil | apply PRun.nil | apply J.block | apply E.in_normal | apply J.skip | (apply Lq.store; rfl; rfl; exact bsP; exact bsS; rfl; rfl) | (apply PRun.al; rfl) | (apply Lq.al; rfl; rfl; intro b) | (apply Open.cons; intro b) | apply Open.nil | (apply Lq.pass; rfl; rfl; rfl) | (apply PRun.pass; rfl; rfl) | (apply Lq.skip; rfl; rfl; rfl; exact bsB) | (apply PRun.skip; rfl; rfl; exact bsB) | (apply J.drawN; exact mixed; kernel_rfl) | (apply J.cond_t; rfl) | (apply J.cond_f; rfl) | apply J.exit | apply E.then_exit | apply E.in_exit | (apply E.in_other; rfl))
  refine J.loop (fun p : Nat × Nat => p.1 ≤ n ∧ p.2 + pop p.1 = pop n) (fun p => [(0, is (.int .i64 (p.1 : Int))), (3, is (.int .i64 (p.2 : Int)))]) (fun _ => []) (fun p => p.1) (n, 0) ⟨Nat.le_refl _, Nat.zero_add _⟩ (Sub.same (by repeat' (first | exact trivial | refine ⟨rfl, ?_⟩))) ?_
  rintro ⟨m, k⟩ ⟨hm, hk⟩
  dsimp only at hm hk ⊢
  have hps := pop_s m
  by_cases h0 : m = 0
  · subst h0
    rw [pop_0, Nat.add_zero] at hk
    subst hk
    repeat (first | ((first | (apply Lq.s; rfl) | apply PRun.s | (apply Lq.run; rfl; rfl; rfl; exact bsB) | (apply PRun.run; rfl; rfl; exact bsB)); first | (exact bsO)) | apply J.seq | apply E.next | apply J.lq | apply Lq.nil | apply PRun.nil | apply J.block | apply E.in_normal | apply J.skip | (apply Lq.store; rfl; rfl; exact bsP; exact bsS; rfl; rfl) | (apply PRun.al; rfl) | (apply Lq.al; rfl; rfl; intro b) | (apply Open.cons; intro b) | apply Open.nil | (apply Lq.pass; rfl; rfl; rfl) | (apply PRun.pass; rfl; rfl) | (apply Lq.skip; rfl; rfl; rfl; exact bsB) | (apply PRun.skip; rfl; rfl; exact bsB) | (apply J.drawN; exact mixed; kernel_rfl) | (apply J.cond_t; rfl) | (apply J.cond_f; rfl) | apply J.exit | apply E.then_exit | apply E.in_exit | (apply E.in_other; rfl))
    (refine J.ret ?_; (repeat (first | refine E.then_ret ?_ | refine E.in_ret ?_)))
    exact E.ret1 rfl rfl
  · generalize pop n = want at *
    generalize hh : pop (m / 2) = z at *
    generalize pop m = y at *
    repeat (first | ((first | (apply Lq.s; rfl) | apply PRun.s | (apply Lq.run; rfl; rfl; rfl; exact bsB) | (apply PRun.run; rfl; rfl; exact bsB)); first | (apply op_remn (m := m) (n := 2); rfl; rfl; decide) | (apply op_quon (m := m) (n := 2); rfl; rfl; decide; omega) | (apply op_add (c := ((k + m % 2 : Nat) : Int)); rfl; rfl; (rw [show (k : Int) + ((m % 2 : Nat) : Int) = ((k + m % 2 : Nat) : Int) by omega]; apply wrapi <;> omega)) | (exact bsO)) | apply J.seq | apply E.next | apply J.lq | apply Lq.nil | apply PRun.nil | apply J.block | apply E.in_normal | apply J.skip | (apply Lq.store; rfl; rfl; exact bsP; exact bsS; rfl; rfl) | (apply PRun.al; rfl) | (apply Lq.al; rfl; rfl; intro b) | (apply Open.cons; intro b) | apply Open.nil | (apply Lq.pass; rfl; rfl; rfl) | (apply PRun.pass; rfl; rfl) | (apply Lq.skip; rfl; rfl; rfl; exact bsB) | (apply PRun.skip; rfl; rfl; exact bsB) | (apply J.drawN; exact mixed; kernel_rfl) | (apply J.cond_t; rfl) | (apply J.cond_f; rfl) | apply J.exit | apply E.then_exit | apply E.in_exit | (apply E.in_other; rfl))
    exact E.again (m / 2, k + m % 2) (by dsimp only; omega) ⟨by dsimp only; omega, by dsimp only; omega⟩ (Sub.same (by repeat' (first | exact trivial | refine ⟨rfl, ?_⟩)))
theorem rlen_fn (r : RefF) (hl : r.sizes.length ≤ 100000) (hsum : r.sizes.sum ≤ 9223372036854775807) : Fn Tryd.prog 28 [ptr (refT.cells r)] (is (.int .i64 ((r.sizes.sum : Nat) : Int))) := by
  have hnl := nums_len r.sizes
  refine Fn.mk' 24 Tryd.func28 rfl rfl rfl rfl fun w0 H0 => ?_
  repeat (first | ((first | (apply Lq.s; rfl) | apply PRun.s | (apply Lq.run; rfl; rfl; rfl; exact bsB) | (apply PRun.run; rfl; rfl; exact bsB)); first | (exact bsO)) | apply J.seq | apply E.next | apply J.lq | apply Lq.nil | apply PRun.nil | apply J.block | apply E.in_normal | apply J.skip | (apply Lq.store; rfl; rfl; exact bsP; exact bsS; rfl; rfl) | (apply PRun.al; rfl) | (apply Lq.al; rfl; rfl; intro b) | (apply Open.cons; intro b) | apply Open.nil | (apply Lq.pass; rfl; rfl; rfl) | (apply PRun.pass; rfl; rfl) | (apply Lq.skip; rfl; rfl; rfl; exact bsB) | (apply PRun.skip; rfl; rfl; exact bsB) | (apply J.drawN; exact mixed; kernel_rfl) | (apply J.cond_t; rfl) | (apply J.cond_f; rfl) | apply J.exit | apply E.then_exit | apply E.in_exit | (apply E.in_other; rfl))
  refine J.loop (fun i : Nat => i ≤ r.sizes.length) (fun i => [(0, ptr (refT.cells r)), (3, is (.int .i64 (((r.sizes.take i).sum : Nat) : Int))), (4, is (.int .i64 (i : Int)))]) (fun _ => []) (fun i => r.sizes.length - i) 0 (Nat.zero_le _) (Sub.same (by repeat' (first | exact trivial | refine ⟨rfl, ?_⟩))) ?_
  intro i hi
  dsimp only at hi ⊢
  by_cases hlt : i < r.sizes.length
  · obtain ⟨s, hs⟩ : ∃ s, r.sizes[i]? = some s := ⟨_, List.getElem?_eq_getElem hlt⟩
    have hx := nums_at hs
    have h1 := sum_take hs
    have h2 := sum_le r.sizes (i + 1)
    generalize hz : (r.sizes.take (i + 1)).sum = z at *
    generalize (r.sizes.take i).sum = y at *
    repeat (first | ((first | (apply Lq.s; rfl) | apply PRun.s | (apply Lq.run; rfl; rfl; rfl; exact bsB) | (apply PRun.run; rfl; rfl; exact bsB)); first | (apply op_nilP; rfl) | (apply op_faddr ref_sizes; rfl; decide) | (apply op_faddr ref_hashes; rfl; decide) | (apply op_load (slT (intT .i64)); rfl) | (apply op_load (slT hashT); rfl) | (apply op_len (xs := nums r.sizes); rfl) | (apply op_iaddr (intT .i64).toTy (x := (s : Int)); rfl; rfl; exact Int.natCast_nonneg _; (rw [Int.toNat_natCast]; exact hx)) | (apply op_add (c := (z : Int)); rfl; rfl; (rw [show (y : Int) + (s : Int) = (z : Int) by omega]; apply wrapi <;> omega)) | (apply op_add (c := ((i + 1 : Nat) : Int)); rfl; rfl; (rw [show (i : Int) + 1 = ((i + 1 : Nat) : Int) by omega]; apply wrapi <;> omega)) | (exact bsO)) | apply J.seq | apply E.next | apply J.lq | apply Lq.nil | apply PRun.nil | apply J.block | apply E.in_normal | apply J.skip | (apply Lq.store; rfl; rfl; exact bsP; exact bsS; rfl; rfl) | (apply PRun.al; rfl) | (apply Lq.al; rfl; rfl; intro b) | (apply Open.cons; intro b) | apply Open.nil | (apply Lq.pass; rfl; rfl; rfl) | (apply PRun.pass; rfl; rfl) | (apply Lq.skip; rfl; rfl; rfl; exact bsB) | (apply PRun.skip; rfl; rfl; exact bsB) | (apply J.drawN; exact mixed; kernel_rfl) | (apply J.cond_t; rfl) | (apply J.cond_f; rfl) | apply J.exit | apply E.then_exit | apply E.in_exit | (apply E.in_other; rfl))
    exact E.again (i + 1) (by omega) (by omega) (by rw [hz]; exact (Sub.same (by repeat' (first | exact trivial | refine ⟨rfl, ?_⟩))))
  · obtain rfl : i = r.sizes.length := by omega
    rw [List.take_length]
    repeat (first | ((first | (apply Lq.s; rfl) | apply PRun.s | (apply Lq.run; rfl; rfl; rfl; exact bsB) | (apply PRun.run; rfl; rfl; exact bsB)); first | (apply op_nilP; rfl) | (apply op_faddr ref_sizes; rfl; decide) | (apply op_faddr ref_hashes; rfl; decide) | (apply op_load (slT (intT .i64)); rfl) | (apply op_load (slT hashT); rfl) | (apply op_len (xs := nums r.sizes); rfl) | (exact bsO)) | apply J.seq | apply E.next | apply J.lq | apply Lq.nil | apply PRun.nil | apply J.block | apply E.in_normal | apply J.skip | (apply Lq.store; rfl; rfl; exact bsP; exact bsS; rfl; rfl) | (apply PRun.al; rfl) | (apply Lq.al; rfl; rfl; intro b) | (apply Open.cons; intro b) | apply Open.nil | (apply Lq.pass; rfl; rfl; rfl) | (apply PRun.pass; rfl; rfl) | (apply Lq.skip; rfl; rfl; rfl; exact bsB) | (apply PRun.skip; rfl; rfl; exact bsB) | (apply J.drawN; exact mixed; kernel_rfl) | (apply J.cond_t; rfl) | (apply J.cond_f; rfl) | apply J.exit | apply E.then_exit | apply E.in_exit | (apply E.in_other; rfl))
    (refine J.ret ?_; (repeat (first | refine E.then_ret ?_ | refine E.in_ret ?_)))
    exact E.ret1 rfl rfl
set_option maxHeartbeats 1000000 in
theorem rrootE_fn [Has_ref02_k] (r : RefF) (hl : r.hashes.length ≤ 90000) : Fn Tryd.prog 30 [ptr (refT.cells r)] (hashT.val (rootE r.hashes)) := by
  obtain ⟨ss, hs⟩ := r
  dsimp only at hl ⊢
  rcases List.eq_nil_or_concat hs with rfl | ⟨init, x, rfl⟩
  · have hp0 : ([] : List Hash).length = 0 := rfl
    refine Fn.mk' 38 Tryd.func30 rfl rfl rfl rfl fun w0 H0 => ?_
    repeat (first | ((first | (apply Lq.s; rfl) | apply PRun.s | (apply Lq.run; rfl; rfl; rfl; exact bsB) | (apply PRun.run; rfl; rfl; exact bsB)); first | (apply op_nilP; rfl) | (apply op_faddr ref_sizes; rfl; decide) | (apply op_faddr ref_hashes; rfl; decide) | (apply op_load (slT (intT .i64)); rfl) | (apply op_load (slT hashT); rfl) | (apply op_len (xs := ([] : List Hash)); rfl) | (apply op_call refemptyH_fn; exact bsD) | (exact bsO)) | apply J.seq | apply E.next | apply J.lq | apply Lq.nil | apply PRun.nil | apply J.block | apply E.in_normal | apply J.skip | (apply Lq.store; rfl; rfl; exact bsP; exact bsS; rfl; rfl) | (apply PRun.al; rfl) | (apply Lq.al; rfl; rfl; intro b) | (apply Open.cons; intro b) | apply Open.nil | (apply Lq.pass; rfl; rfl; rfl) | (apply PRun.pass; rfl; rfl) | (apply Lq.skip; rfl; rfl; rfl; exact bsB) | (apply PRun.skip; rfl; rfl; exact bsB) | (apply J.cond_t; rfl) | (apply J.cond_f; rfl) | apply J.exit | apply E.then_exit | apply E.in_exit | (apply E.in_other; rfl))
    (apply Lq.storeE (φs' := hashT.cells emptyH); rfl; rfl; exact List.Perm.refl _; exact Seg.val _ _; exact hashT.len _; exact Nat.le_refl 32; exact splice_all (by rw [hashT.len]; rfl))
    repeat (first | ((first | (apply Lq.s; rfl) | apply PRun.s | (apply Lq.run; rfl; rfl; rfl; exact bsB) | (apply PRun.run; rfl; rfl; exact bsB)); first | (exact bsO)) | apply J.seq | apply E.next | apply J.lq | apply Lq.nil | apply PRun.nil | apply J.block | apply E.in_normal | apply J.skip | (apply Lq.store; rfl; rfl; exact bsP; exact bsS; rfl; rfl) | (apply PRun.al; rfl) | (apply Lq.al; rfl; rfl; intro b) | (apply Open.cons; intro b) | apply Open.nil | (apply Lq.pass; rfl; rfl; rfl) | (apply PRun.pass; rfl; rfl) | (apply Lq.skip; rfl; rfl; rfl; exact bsB) | (apply PRun.skip; rfl; rfl; exact bsB) | (apply J.cond_t; rfl) | (apply J.cond_f; rfl) | apply J.exit | apply E.then_exit | apply E.in_exit | (apply E.in_other; rfl))
    (refine J.ret ?_; (repeat (first | refine E.then_ret ?_ | refine E.in_ret ?_)))
    exact E.retc hashT (x := emptyH) rfl rfl List.mem_cons_self (take_hash _) (by rw [rootE_nil])
  · rw [List.concat_eq_append] at *
    have hll : (init ++ [x]).length = init.length + 1 := by rw [List.length_append]; rfl
    have hat : (init ++ [x])[init.length]? = some x := by rw [List.getElem?_append_right (Nat.le_refl _), Nat.sub_self]; rfl
    have hin : ∀ i y, init[i]? = some y → (init ++ [x])[i]? = some y := fun i y h => by rw [List.getElem?_append_left (List.getElem?_eq_some_iff.1 h).1]; exact h
    have hr := rootE_snoc init x
    generalize rootE (init ++ [x]) = rt at hr ⊢
    generalize hq : init ++ [x] = hs at *
    refine Fn.mk' 38 Tryd.func30 rfl rfl rfl rfl fun w0 H0 => ?_
    repeat (first | ((first | (apply Lq.s; rfl) | apply PRun.s | (apply Lq.run; rfl; rfl; rfl; exact bsB) | (apply PRun.run; rfl; rfl; exact bsB)); first | (apply op_nilP; rfl) | (apply op_faddr ref_sizes; rfl; decide) | (apply op_faddr ref_hashes; rfl; decide) | (apply op_load (slT (intT .i64)); rfl) | (apply op_load (slT hashT); rfl) | (apply op_len (xs := hs); rfl) | (apply op_sub (c := (init.length : Int)); rfl; rfl; (rw [show (hs.length : Int) - 1 = (init.length : Int) by omega]; apply wrapi <;> omega)) | (apply op_sub (c := (init.length : Int) - 1); rfl; rfl; (rw [show (hs.length : Int) - 2 = (init.length : Int) - 1 by omega]; apply wrapi <;> omega)) | (apply op_iaddr hashT.toTy (x := x); rfl; rfl; exact Int.natCast_nonneg _; (rw [Int.toNat_natCast]; exact hat)) | (apply op_load hashT; rfl) | (exact bsO)) | apply J.seq | apply E.next | apply J.lq | apply Lq.nil | apply PRun.nil | apply J.block | apply E.in_normal | apply J.skip | (apply Lq.store; rfl; rfl; exact bsP; exact bsS; rfl; rfl) | (apply PRun.al; rfl) | (apply Lq.al; rfl; rfl; intro b) | (apply Open.cons; intro b) | apply Open.nil | (apply Lq.pass; rfl; rfl; rfl) | (apply PRun.pass; rfl; rfl) | (apply Lq.skip; rfl; rfl; rfl; exact bsB) | (apply PRun.skip; rfl; rfl; exact bsB) | (apply J.cond_t; rfl) | (apply J.cond_f; rfl) | apply J.exit | apply E.then_exit | apply E.in_exit | (apply E.in_other; rfl))
    rename_i b2
    revert b
    intro b4
    (apply Lq.storeE (φs' := hashT.cells x); rfl; rfl; exact List.Perm.refl _; exact Seg.val _ _; exact hashT.len _; exact Nat.le_refl 32; exact splice_all (by rw [hashT.len]; rfl))
    repeat (first | ((first | (apply Lq.s; rfl) | apply PRun.s | (apply Lq.run; rfl; rfl; rfl; exact bsB) | (apply PRun.run; rfl; rfl; exact bsB)); first | (apply op_sub (c := (init.length : Int) - 1); rfl; rfl; (rw [show (hs.length : Int) - 2 = (init.length : Int) - 1 by omega]; apply wrapi <;> omega)) | (exact bsO)) | apply J.seq | apply E.next | apply J.lq | apply Lq.nil | apply PRun.nil | apply J.block | apply E.in_normal | apply J.skip | (apply Lq.store; rfl; rfl; exact bsP; exact bsS; rfl; rfl) | (apply PRun.al; rfl) | (apply Lq.al; rfl; rfl; intro b) | (apply Open.cons; intro b) | apply Open.nil | (apply Lq.pass; rfl; rfl; rfl) | (apply PRun.pass; rfl; rfl) | (apply Lq.skip; rfl; rfl; rfl; exact bsB) | (apply PRun.skip; rfl; rfl; exact bsB) | (apply J.cond_t; rfl) | (apply J.cond_f; rfl) | apply J.exit | apply E.then_exit | apply E.in_exit | (apply E.in_other; rfl))
    refine J.loop (fun p : Nat × Hash => p.1 ≤ init.length ∧ p.2 = (init.drop p.1).reverse.foldl (fun acc h => nodeH h acc) x)
      (fun p => [(0, ptr (refT.cells ⟨ss, hs⟩)), (2, is (.pointer (some ⟨b2, 0, none⟩))), (4, is (.pointer (some ⟨b4, 0, none⟩))), (5, is (.int .i64 ((p.1 : Int) - 1)))])
      (fun p => [own b4 23 (hashT.cells p.2), own b2 23 (hashT.cells zeroH)]) (fun p => p.1) (init.length, x) ⟨Nat.le_refl _, by dsimp only; rw [List.drop_length]; rfl⟩ (Sub.same (by repeat' (first | exact trivial | refine ⟨rfl, ?_⟩))) ?_
    rintro ⟨k, acc⟩ ⟨hk, hacc⟩
    dsimp only at hk hacc ⊢
    cases k with
    | zero =>
      rw [List.drop_zero, ← hr] at hacc
      subst hacc
      repeat (first | ((first | (apply Lq.s; rfl) | apply PRun.s | (apply Lq.run; rfl; rfl; rfl; exact bsB) | (apply PRun.run; rfl; rfl; exact bsB)); first | (apply op_oload hashT (x := acc); rfl; exact bsM; exact at_hash acc) | (exact bsO)) | apply J.seq | apply E.next | apply J.lq | apply Lq.nil | apply PRun.nil | apply J.block | apply E.in_normal | apply J.skip | (apply Lq.store; rfl; rfl; exact bsP; exact bsS; rfl; rfl) | (apply PRun.al; rfl) | (apply Lq.al; rfl; rfl; intro b) | (apply Open.cons; intro b) | apply Open.nil | (apply Lq.pass; rfl; rfl; rfl) | (apply PRun.pass; rfl; rfl) | (apply Lq.skip; rfl; rfl; rfl; exact bsB) | (apply PRun.skip; rfl; rfl; exact bsB) | (apply J.cond_t; rfl) | (apply J.cond_f; rfl) | apply J.exit | apply E.then_exit | apply E.in_exit | (apply E.in_other; rfl))
      (apply Lq.storeE (φs' := hashT.cells acc); rfl; rfl; exact List.Perm.swap _ _ _; exact Seg.val _ _; exact hashT.len _; exact Nat.le_of_eq (hashT.len _).symm; exact splice_all (by rw [hashT.len, hashT.len]))
      repeat (first | ((first | (apply Lq.s; rfl) | apply PRun.s | (apply Lq.run; rfl; rfl; rfl; exact bsB) | (apply PRun.run; rfl; rfl; exact bsB)); first | (exact bsO)) | apply J.seq | apply E.next | apply J.lq | apply Lq.nil | apply PRun.nil | apply J.block | apply E.in_normal | apply J.skip | (apply Lq.store; rfl; rfl; exact bsP; exact bsS; rfl; rfl) | (apply PRun.al; rfl) | (apply Lq.al; rfl; rfl; intro b) | (apply Open.cons; intro b) | apply Open.nil | (apply Lq.pass; rfl; rfl; rfl) | (apply PRun.pass; rfl; rfl) | (apply Lq.skip; rfl; rfl; rfl; exact bsB) | (apply PRun.skip; rfl; rfl; exact bsB) | (apply J.cond_t; rfl) | (apply J.cond_f; rfl) | apply J.exit | apply E.then_exit | apply E.in_exit | (apply E.in_other; rfl))
      (refine J.ret ?_; (repeat (first | refine E.then_ret ?_ | refine E.in_ret ?_)))
      exact E.retc hashT (x := acc) rfl rfl List.mem_cons_self (take_hash _) rfl
    | succ i =>
      obtain ⟨y, hy⟩ : ∃ y, init[i]? = some y := ⟨_, List.getElem?_eq_getElem (by omega)⟩
      have hy2 := hin i y hy
      rw [show ((i + 1 : Nat) : Int) - 1 = (i : Int) by omega]
      repeat (first | ((first | (apply Lq.s; rfl) | apply PRun.s | (apply Lq.run; rfl; rfl; rfl; exact bsB) | (apply PRun.run; rfl; rfl; exact bsB)); first | (exact bsO)) | apply J.seq | apply E.next | apply J.lq | apply Lq.nil | apply PRun.nil | apply J.block | apply E.in_normal | apply J.skip | (apply Lq.store; rfl; rfl; exact bsP; exact bsS; rfl; rfl) | (apply PRun.al; rfl) | (apply Lq.al; rfl; rfl; intro b) | (apply Open.cons; intro b) | apply Open.nil | (apply Lq.pass; rfl; rfl; rfl) | (apply PRun.pass; rfl; rfl) | (apply Lq.skip; rfl; rfl; rfl; exact bsB) | (apply PRun.skip; rfl; rfl; exact bsB) | (apply J.cond_t; rfl) | (apply J.cond_f; rfl) | apply J.exit | apply E.then_exit | apply E.in_exit | (apply E.in_other; rfl))
      refine J.drawW 9 [(none, none), (none, none), (none, none), (none, none), (none, none), (none, none), (none, none), (none, none), (none, none)] mixed (by kernel_rfl) ?_
      repeat (first | ((first | apply PRunW.s | (apply PRunW.run; rfl; rfl; exact bsB) | (apply Lq.s; rfl) | apply PRun.s | (apply Lq.run; rfl; rfl; rfl; exact bsB) | (apply PRun.run; rfl; rfl; exact bsB)); first | (apply op_nilP; rfl) | (apply op_faddr ref_sizes; rfl; decide) | (apply op_faddr ref_hashes; rfl; decide) | (apply op_load (slT (intT .i64)); rfl) | (apply op_load (slT hashT); rfl) | (apply op_iaddr hashT.toTy (x := y); rfl; rfl; exact Int.natCast_nonneg _; (rw [Int.toNat_natCast]; exact hy2)) | (apply op_load hashT; rfl) | (apply op_oload hashT (x := acc); rfl; exact bsM; exact at_hash acc) | (apply op_call (refnodeH_fn y acc); exact bsD) | (exact bsO)) | apply J.seq | apply E.next | apply J.lq | apply Lq.nil | apply PRun.nil | apply J.block | apply E.in_normal | apply J.skip | (apply Lq.store; rfl; rfl; exact bsP; exact bsS; rfl; rfl) | (apply PRun.al; rfl) | (apply Lq.al; rfl; rfl; intro b) | (apply Open.cons; intro b) | apply Open.nil | (apply Lq.pass; rfl; rfl; rfl) | (apply PRun.pass; rfl; rfl) | (apply Lq.skip; rfl; rfl; rfl; exact bsB) | (apply PRun.skip; rfl; rfl; exact bsB) | (apply J.cond_t; rfl) | (apply J.cond_f; rfl) | apply J.exit | apply E.then_exit | apply E.in_exit | (apply E.in_other; rfl) | apply PRunW.nil | (apply PRunW.al; rfl) | (apply PRunW.pass; rfl; rfl) | (apply PRunW.skip; rfl; rfl; exact bsB) | (apply Open.pv; intro b) | apply Open.av | (apply Open.rv; intro A c))
      (apply Lq.storeE (φs' := hashT.cells (nodeH y acc)); rfl; rfl; exact List.Perm.refl _; exact Seg.val _ _; exact hashT.len _; exact Nat.le_of_eq (hashT.len _).symm; exact splice_all (by rw [hashT.len, hashT.len]))
      repeat (first | ((first | (apply Lq.s; rfl) | apply PRun.s | (apply Lq.run; rfl; rfl; rfl; exact bsB) | (apply PRun.run; rfl; rfl; exact bsB)); first | (apply op_sub (c := (i : Int) - 1); rfl; rfl; (apply wrapi <;> omega)) | (exact bsO)) | apply J.seq | apply E.next | apply J.lq | apply Lq.nil | apply PRun.nil | apply J.block | apply E.in_normal | apply J.skip | (apply Lq.store; rfl; rfl; exact bsP; exact bsS; rfl; rfl) | (apply PRun.al; rfl) | (apply Lq.al; rfl; rfl; intro b) | (apply Open.cons; intro b) | apply Open.nil | (apply Lq.pass; rfl; rfl; rfl) | (apply PRun.pass; rfl; rfl) | (apply Lq.skip; rfl; rfl; rfl; exact bsB) | (apply PRun.skip; rfl; rfl; exact bsB) | (apply J.cond_t; rfl) | (apply J.cond_f; rfl) | apply J.exit | apply E.then_exit | apply E.in_exit | (apply E.in_other; rfl))
      exact E.again (i, nodeH y acc) (by dsimp only; omega) ⟨by dsimp only; omega, by dsimp only; rw [drop_one hy, List.foldl_append, ← hacc]; rfl⟩ (Sub.same (by repeat' (first | exact trivial | refine ⟨rfl, ?_⟩)))
end Go.Proofs.YtljdjagackdplaaDoor.L
