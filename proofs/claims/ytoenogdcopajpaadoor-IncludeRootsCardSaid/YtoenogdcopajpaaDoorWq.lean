/-
  The laws IncludeRoots and IncludeSpoilt, walked.
-/
import Derived.Test.YtoenogdcopajpaaDoorWp
namespace Go.Proofs.YtoenogdcopajpaaDoor.L
open Go
set_option linter.unusedSectionVars false
variable [Globs] [Has_sha_table] [Has_sha_begin]
set_option linter.unusedVariables false
theorem pairsA_get {x : Hash} {ds : List (Bool × Hash)} {j : Nat} (h : j < (pairsA x ds).length) : ∃ a c, (pairsA x ds)[j]? = some ⟨[a, c], rfl⟩ := by
  rw [pairsA_len, ← pairsL_len x ds] at h
  obtain ⟨p, hp⟩ : ∃ p, (pairsL x ds)[j]? = some p := ⟨_, List.getElem?_eq_getElem h⟩
  exact ⟨p.1, p.2, by unfold pairsA; rw [List.getElem?_map, hp]; rfl⟩
theorem apartA {i n : Nat} {x y : Hash} {p q : List Hash} {r : Hash} (h1 : okI i n x p r = true) (h2 : okI i n y q r = true) (hne : x ≠ y ∨ p ≠ q) : ∃ (j : Nat) (a b c d : Hash), (pairsA x ((way i (n - 1)).zip p))[j]? = some ⟨[a, b], rfl⟩ ∧ (pairsA y ((way i (n - 1)).zip q))[j]? = some ⟨[c, d], rfl⟩ ∧ ¬ (a = c ∧ b = d) ∧ nodeH a b = nodeH c d := by
  obtain ⟨j, a, b, e1, e2, e3, e4⟩ := okI_apart h1 h2 hne
  exact ⟨j, a.1, a.2, b.1, b.2, by unfold pairsA; rw [List.getElem?_map, e1]; rfl, by unfold pairsA; rw [List.getElem?_map, e2]; rfl, fun h => e3 (Prod.ext h.1 h.2), e4⟩
theorem okI_length {i n : Nat} {x : Hash} {p : List Hash} {r : Hash} (h : okI i n x p r = true) : p.length = (way i (n - 1)).length := by
  unfold okI at h
  rw [Bool.and_eq_true] at h
  exact of_decide_eq_true h.1
theorem okI_short {i n : Nat} {x : Hash} {p : List Hash} {r : Hash} (h : p.length ≠ (way i (n - 1)).length) : okI i n x p r = false := by
  unfold okI
  rw [decide_eq_false h, Bool.false_and]
theorem op_remE {P : Program} {Γ : Env} {Δ : List Res} {d : Option Nat} {ty : Nat} {pos : String} {af : Array Edge} {g : Option (Nat × Bool)} {x y : Operand} {t yt : Nat} {m n c : Nat} {k : IntKind} (h1 : opd Γ x = some (is (.int k (m : Int)))) (h2 : opd Γ y = some (is (.int k (n : Int)))) (h0 : n ≠ 0) (hc : m % n = c) : OpP P Γ Δ ⟨d, .binOp .rem t x y yt, ty, pos, af, g⟩ (is (.int k (c : Int))) := hc ▸ op_remn h1 h2 h0
theorem J.midB {α : Type} {C : Cx} {Γ : Env} {Δ : List Res} {c : Code} {id : Nat} {K : Act → World → Prop} {Q : Exit → Act → World → Prop} (V : α → Prop) (I : α → Env) (R : α → List Res) (h1 : J C Γ Δ c (Exit.inBlock id (Exit.then (Mid C V I R) Q))) (h2 : ∀ x, V x → E C .normal (I x) (R x) (Exit.then K Q)) : J C Γ Δ c (Exit.inBlock id (Exit.then K Q)) := fun H a w S =>
  wpIn_mono (h1 H a w S) fun e a' w' h => by
    have key : ∀ e, Exit.then (Mid C V I R) Q e a' w' → Exit.then K Q e a' w' := fun e h => by
      cases e with
      | normal =>
        obtain ⟨x, H', hV, S'⟩ := h
        exact h2 x hV H' a' w' S'
      | _ => exact h
    cases e with
    | exit id' =>
      by_cases hid : id' = id
      · simp only [Exit.inBlock, if_pos hid] at h ⊢
        exact key _ h
      · simp only [Exit.inBlock, if_neg hid] at h ⊢
        exact key _ h
    | normal => exact key .normal h
    | ret => exact key .ret h
    | goto l => exact key (.goto l) h
    | panic c => exact key (.panic c) h
    | outgrown => exact key .outgrown h
set_option linter.unusedVariables false
set_option linter.unusedSimpArgs false
attribute [local irreducible] J Lq E OpP PRun is any agg tup ptr sl PRunW OpE
attribute [local irreducible] up2 mroot nodeH leafH emptyH shaH ownAt row someL leafOf splitZ split rv ways inc okI leadsI chkI slw pairsA foldI
set_option maxRecDepth 100000 in
set_option maxHeartbeats 4000000 in
theorem samepairs_fn (p : List Hash) (i n : Nat) (x y r : Hash) (hi : i < n) (hn : n < 2 ^ 63) (hp : p.length ≤ 1000) (h1 : okI i n x p r = true) (h2 : okI i n y p r = true) (hne : x ≠ y) : Fn Tryd.prog 20 [hashT.val x, hashT.val y, is (.int .i64 (i : Int)), is (.int .i64 (n : Int)), sl hashT.toTy p] (is (.bool true)) := by
  have hw := okI_length h1
  have f1 := pairs_fn p i n x hp hi hn hw
  have f2 := pairs_fn p i n y hp hi hn hw
  obtain ⟨j0, a, b, c, d, e1, e2, e3, e4⟩ := apartA h1 h2 (.inl hne)
  have g1 := fun (j : Nat) => pairsA_get (x := x) (ds := (way i (n - 1)).zip p) (j := j)
  have g2 := fun (j : Nat) => pairsA_get (x := y) (ds := (way i (n - 1)).zip p) (j := j)
  have hl1 : (pairsA x ((way i (n - 1)).zip p)).length ≤ p.length := by rw [pairsA_len, List.length_zip]; omega
  generalize pairsA x ((way i (n - 1)).zip p) = A at *
  generalize pairsA y ((way i (n - 1)).zip p) = B at *
  have j1 := (List.getElem?_eq_some_iff.1 e1).1
  have j2 := (List.getElem?_eq_some_iff.1 e2).1
  refine Fn.mk' 78 Tryd.func20 rfl rfl rfl rfl fun w0 H0 => ?_
  repeat (first | ((first | (apply Lq.s; rfl) | apply PRun.s | (apply Lq.run; rfl; rfl; rfl; exact bsB) | (apply PRun.run; rfl; rfl; exact bsB)); first | (apply op_box hashT; rfl) | (apply op_load hashT; rfl) | (apply op_call f1; exact bsD) | (apply op_call f2; exact bsD) | (exact bsO)) | apply J.seq | apply E.next | apply J.lq | apply Lq.nil | apply PRun.nil | apply J.block | apply E.in_normal | apply J.skip | (apply Lq.store; rfl; rfl; exact bsP; exact bsS; rfl; rfl) | (apply PRun.al; rfl) | (apply Lq.al; rfl; rfl; intro b) | (apply Open.cons; intro b) | apply Open.nil | (apply Lq.pass; rfl; rfl; rfl) | (apply PRun.pass; rfl; rfl) | (apply Lq.skip; rfl; rfl; rfl; exact bsB) | (apply PRun.skip; rfl; rfl; exact bsB) | (apply J.cond_t; rfl) | (apply J.cond_f; rfl) | apply J.exit | apply E.then_exit | apply E.in_exit | (apply E.in_other; rfl))
  refine J.loop (fun j : Nat => j ≤ j0) (fun j => [(11, sl pairT.toTy A), (13, sl pairT.toTy B), (15, is (.int .i64 (j : Int)))]) (fun _ => []) (fun j => j0 - j) 0 (Nat.zero_le _) (Sub.same (by repeat' (first | exact trivial | refine ⟨rfl, ?_⟩))) ?_
  intro j hj
  obtain ⟨a1, a2, hA⟩ := g1 j (by omega)
  obtain ⟨c1, c2, hB⟩ := g2 j (by omega)
  repeat (first | ((first | (apply Lq.s; rfl) | apply PRun.s | (apply Lq.run; rfl; rfl; rfl; exact bsB) | (apply PRun.run; rfl; rfl; exact bsB)); first | (apply op_len (xs := A); rfl) | (apply op_len (xs := B); rfl) | (apply op_iaddr pairT.toTy (x := ⟨[a1, a2], rfl⟩); rfl; rfl; exact Int.natCast_nonneg _; (rw [Int.toNat_natCast]; exact hA)) | (apply op_iaddr pairT.toTy (x := ⟨[c1, c2], rfl⟩); rfl; rfl; exact Int.natCast_nonneg _; (rw [Int.toNat_natCast]; exact hB)) | (apply op_load pairT; rfl) | (apply op_load hashT; rfl) | (apply op_paddr hashT.toTy (xs := [a1, a2]) (x := a1); rfl; rfl; decide; decide; rfl) | (apply op_paddr hashT.toTy (xs := [a1, a2]) (x := a2); rfl; rfl; decide; decide; rfl) | (apply op_paddr hashT.toTy (xs := [c1, c2]) (x := c1); rfl; rfl; decide; decide; rfl) | (apply op_paddr hashT.toTy (xs := [c1, c2]) (x := c2); rfl; rfl; decide; decide; rfl) | (apply op_call (nodeH_fn a1 a2); exact bsD) | (apply op_call (nodeH_fn c1 c2); exact bsD) | (exact bsO)) | apply J.seq | apply E.next | apply J.lq | apply Lq.nil | apply PRun.nil | apply J.block | apply E.in_normal | apply J.skip | (apply Lq.store; rfl; rfl; exact bsP; exact bsS; rfl; rfl) | (apply PRun.al; rfl) | (apply Lq.al; rfl; rfl; intro b) | (apply Open.cons; intro b) | apply Open.nil | (apply Lq.pass; rfl; rfl; rfl) | (apply PRun.pass; rfl; rfl) | (apply Lq.skip; rfl; rfl; rfl; exact bsB) | (apply PRun.skip; rfl; rfl; exact bsB) | (apply J.cond_t; rfl) | (apply J.cond_f; rfl) | apply J.exit | apply E.then_exit | apply E.in_exit | (apply E.in_other; rfl))
  refine J.drawN mixed (by kernel_rfl) ?_
  by_cases hpe : a1 = c1 ∧ a2 = c2
  · have hpeq : (⟨[a1, a2], rfl⟩ : Arr Hash 2) = ⟨[c1, c2], rfl⟩ := pair_eq.2 hpe
    have hj0 : j ≠ j0 := by
      intro h
      subst h
      rw [e1] at hA
      rw [e2] at hB
      have hA := pair_eq.1 (Option.some.inj hA)
      have hB := pair_eq.1 (Option.some.inj hB)
      exact e3 ⟨by rw [hA.1, hB.1, hpe.1], by rw [hA.2, hB.2, hpe.2]⟩
    repeat (first | ((first | (apply Lq.s; rfl) | apply PRun.s | (apply Lq.run; rfl; rfl; rfl; exact bsB) | (apply PRun.run; rfl; rfl; exact bsB)); first | (apply op_len (xs := A); rfl) | (apply op_len (xs := B); rfl) | (apply op_iaddr pairT.toTy (x := ⟨[a1, a2], rfl⟩); rfl; rfl; exact Int.natCast_nonneg _; (rw [Int.toNat_natCast]; exact hA)) | (apply op_iaddr pairT.toTy (x := ⟨[c1, c2], rfl⟩); rfl; rfl; exact Int.natCast_nonneg _; (rw [Int.toNat_natCast]; exact hB)) | (apply op_load pairT; rfl) | (apply op_load hashT; rfl) | (apply op_paddr hashT.toTy (xs := [a1, a2]) (x := a1); rfl; rfl; decide; decide; rfl) | (apply op_paddr hashT.toTy (xs := [a1, a2]) (x := a2); rfl; rfl; decide; decide; rfl) | (apply op_paddr hashT.toTy (xs := [c1, c2]) (x := c1); rfl; rfl; decide; decide; rfl) | (apply op_paddr hashT.toTy (xs := [c1, c2]) (x := c2); rfl; rfl; decide; decide; rfl) | (apply op_call (nodeH_fn a1 a2); exact bsD) | (apply op_call (nodeH_fn c1 c2); exact bsD) | (apply op_neA_f (T := pairT) (m := 3) eqd_pair pair_ag rfl; rfl; rfl; exact hpeq) | (exact bsO)) | apply J.seq | apply E.next | apply J.lq | apply Lq.nil | apply PRun.nil | apply J.block | apply E.in_normal | apply J.skip | (apply Lq.store; rfl; rfl; exact bsP; exact bsS; rfl; rfl) | (apply PRun.al; rfl) | (apply Lq.al; rfl; rfl; intro b) | (apply Open.cons; intro b) | apply Open.nil | (apply Lq.pass; rfl; rfl; rfl) | (apply PRun.pass; rfl; rfl) | (apply Lq.skip; rfl; rfl; rfl; exact bsB) | (apply PRun.skip; rfl; rfl; exact bsB) | (apply J.cond_t; rfl) | (apply J.cond_f; rfl) | apply J.exit | apply E.then_exit | apply E.in_exit | (apply E.in_other; rfl))
    exact E.again (j + 1) (by omega) (by omega) (Sub.same (by repeat' (first | exact trivial | refine ⟨rfl, ?_⟩)))
  · have hpne : (⟨[a1, a2], rfl⟩ : Arr Hash 2) ≠ ⟨[c1, c2], rfl⟩ := fun h => hpe (pair_eq.1 h)
    by_cases hcol : nodeH a1 a2 = nodeH c1 c2
    · repeat (first | ((first | (apply Lq.s; rfl) | apply PRun.s | (apply Lq.run; rfl; rfl; rfl; exact bsB) | (apply PRun.run; rfl; rfl; exact bsB)); first | (apply op_len (xs := A); rfl) | (apply op_len (xs := B); rfl) | (apply op_iaddr pairT.toTy (x := ⟨[a1, a2], rfl⟩); rfl; rfl; exact Int.natCast_nonneg _; (rw [Int.toNat_natCast]; exact hA)) | (apply op_iaddr pairT.toTy (x := ⟨[c1, c2], rfl⟩); rfl; rfl; exact Int.natCast_nonneg _; (rw [Int.toNat_natCast]; exact hB)) | (apply op_load pairT; rfl) | (apply op_load hashT; rfl) | (apply op_paddr hashT.toTy (xs := [a1, a2]) (x := a1); rfl; rfl; decide; decide; rfl) | (apply op_paddr hashT.toTy (xs := [a1, a2]) (x := a2); rfl; rfl; decide; decide; rfl) | (apply op_paddr hashT.toTy (xs := [c1, c2]) (x := c1); rfl; rfl; decide; decide; rfl) | (apply op_paddr hashT.toTy (xs := [c1, c2]) (x := c2); rfl; rfl; decide; decide; rfl) | (apply op_call (nodeH_fn a1 a2); exact bsD) | (apply op_call (nodeH_fn c1 c2); exact bsD) | (apply op_neA_t (T := pairT) (m := 3) eqd_pair pair_ag rfl; rfl; rfl; exact hpne) | (apply op_eqA_t (T := hashT) (m := 2) (eqd_arr eqd_u8) rfl rfl; rfl; rfl; exact hcol) | (exact bsO)) | apply J.seq | apply E.next | apply J.lq | apply Lq.nil | apply PRun.nil | apply J.block | apply E.in_normal | apply J.skip | (apply Lq.store; rfl; rfl; exact bsP; exact bsS; rfl; rfl) | (apply PRun.al; rfl) | (apply Lq.al; rfl; rfl; intro b) | (apply Open.cons; intro b) | apply Open.nil | (apply Lq.pass; rfl; rfl; rfl) | (apply PRun.pass; rfl; rfl) | (apply Lq.skip; rfl; rfl; rfl; exact bsB) | (apply PRun.skip; rfl; rfl; exact bsB) | (apply J.cond_t; rfl) | (apply J.cond_f; rfl) | apply J.exit | apply E.then_exit | apply E.in_exit | (apply E.in_other; rfl))
      (refine J.ret ?_; (repeat (first | refine E.then_ret ?_ | refine E.in_ret ?_)))
      exact E.ret1 rfl rfl
    · have hj0 : j ≠ j0 := by
        intro h
        subst h
        rw [e1] at hA
        rw [e2] at hB
        have hA := pair_eq.1 (Option.some.inj hA)
        have hB := pair_eq.1 (Option.some.inj hB)
        exact hcol (by rw [← hA.1, ← hA.2, ← hB.1, ← hB.2, e4])
      repeat (first | ((first | (apply Lq.s; rfl) | apply PRun.s | (apply Lq.run; rfl; rfl; rfl; exact bsB) | (apply PRun.run; rfl; rfl; exact bsB)); first | (apply op_len (xs := A); rfl) | (apply op_len (xs := B); rfl) | (apply op_iaddr pairT.toTy (x := ⟨[a1, a2], rfl⟩); rfl; rfl; exact Int.natCast_nonneg _; (rw [Int.toNat_natCast]; exact hA)) | (apply op_iaddr pairT.toTy (x := ⟨[c1, c2], rfl⟩); rfl; rfl; exact Int.natCast_nonneg _; (rw [Int.toNat_natCast]; exact hB)) | (apply op_load pairT; rfl) | (apply op_load hashT; rfl) | (apply op_paddr hashT.toTy (xs := [a1, a2]) (x := a1); rfl; rfl; decide; decide; rfl) | (apply op_paddr hashT.toTy (xs := [a1, a2]) (x := a2); rfl; rfl; decide; decide; rfl) | (apply op_paddr hashT.toTy (xs := [c1, c2]) (x := c1); rfl; rfl; decide; decide; rfl) | (apply op_paddr hashT.toTy (xs := [c1, c2]) (x := c2); rfl; rfl; decide; decide; rfl) | (apply op_call (nodeH_fn a1 a2); exact bsD) | (apply op_call (nodeH_fn c1 c2); exact bsD) | (apply op_neA_t (T := pairT) (m := 3) eqd_pair pair_ag rfl; rfl; rfl; exact hpne) | (apply op_eqA_f (T := hashT) (m := 2) (eqd_arr eqd_u8) rfl rfl; rfl; rfl; exact hcol) | (exact bsO)) | apply J.seq | apply E.next | apply J.lq | apply Lq.nil | apply PRun.nil | apply J.block | apply E.in_normal | apply J.skip | (apply Lq.store; rfl; rfl; exact bsP; exact bsS; rfl; rfl) | (apply PRun.al; rfl) | (apply Lq.al; rfl; rfl; intro b) | (apply Open.cons; intro b) | apply Open.nil | (apply Lq.pass; rfl; rfl; rfl) | (apply PRun.pass; rfl; rfl) | (apply Lq.skip; rfl; rfl; rfl; exact bsB) | (apply PRun.skip; rfl; rfl; exact bsB) | (apply J.cond_t; rfl) | (apply J.cond_f; rfl) | apply J.exit | apply E.then_exit | apply E.in_exit | (apply E.in_other; rfl))
      exact E.again (j + 1) (by omega) (by omega) (Sub.same (by repeat' (first | exact trivial | refine ⟨rfl, ?_⟩)))
set_option maxRecDepth 100000 in
set_option maxHeartbeats 4000000 in
theorem includeRoots (x : Arr UInt8 3) (s : Nat) (_h0 : ∀ y ∈ x.1, True) (hs : s < 4294967296) : Fn Tryd.prog 7 [(arrT 3 u8T (by decide)).val x, is (.int .u32 (s : Int))] (is (.bool true)) := by
  obtain ⟨xs, hxs⟩ := x
  match xs, hxs with
  | [n0, n1, n2], hxs =>
  have h0 := n0.toNat_lt
  have h1 := n1.toNat_lt
  have h2 := n2.toNat_lt
  obtain ⟨n, hn⟩ : ∃ n, n = 2 + n0.toNat % 39 := ⟨_, rfl⟩
  have hi := Nat.mod_lt n1.toNat (show 0 < n by omega)
  have hk := Nat.mod_lt n2.toNat (show 0 < n by omega)
  obtain ⟨i, hi2⟩ : ∃ i, n1.toNat % n = i := ⟨_, rfl⟩
  obtain ⟨k, hk2⟩ : ∃ k, n2.toNat % n = k := ⟨_, rfl⟩
  rw [hi2] at hi
  rw [hk2] at hk
  have hlen := someL_len n s
  have hsome := some_fn n s (by omega) hs
  generalize someL n s = l at *
  have hroot := root_fn l (by omega)
  obtain ⟨x, hx⟩ : ∃ x, l[i]? = some x := ⟨_, List.getElem?_eq_getElem (by omega)⟩
  obtain ⟨y, hy⟩ : ∃ y, l[k]? = some y := ⟨_, List.getElem?_eq_getElem (by omega)⟩
  have p1 := iprove_fn l i (by omega) (by omega)
  have p2 := iprove_fn l k (by omega) (by omega)
  have c1 := icheck_inc (l := l) (i := i) (n := n) (x := x) (r := mroot l) (by omega) hlen hx rfl rfl
  have c2 := icheck_inc (l := l) (i := k) (n := n) (x := y) (r := mroot l) (by omega) hlen hy rfl rfl
  have hpl := inc_le n l i hlen
  have hql := inc_le n l k hlen
  have hok : okI i n x (inc l i) (mroot l) = true := by rw [okI_inc hlen hx]; exact decide_eq_true rfl
  have hpq : i = k → inc l i = inc l k := fun h => by rw [h]
  generalize mroot l = B1 at *
  generalize inc l i = P at *
  generalize inc l k = Q at *
  refine Fn.mk' 127 Tryd.func7 rfl rfl rfl rfl fun w0 H0 => ?_
  repeat (first | ((first | (apply Lq.s; rfl) | apply PRun.s | (apply Lq.run; rfl; rfl; rfl; exact bsB) | (apply PRun.run; rfl; rfl; exact bsB)); first | (apply op_box (arrT 3 u8T (by decide)); rfl) | (apply op_paddr u8T.toTy (xs := [n0, n1, n2]) (x := n0); rfl; rfl; decide; decide; rfl) | (apply op_paddr u8T.toTy (xs := [n0, n1, n2]) (x := n1); rfl; rfl; decide; decide; rfl) | (apply op_paddr u8T.toTy (xs := [n0, n1, n2]) (x := n2); rfl; rfl; decide; decide; rfl) | (apply op_load u8T; rfl) | (apply op_conv (c := (n0.toNat : Int)); rfl; (apply wrapi <;> omega)) | (apply op_conv (c := (n1.toNat : Int)); rfl; (apply wrapi <;> omega)) | (apply op_conv (c := (n2.toNat : Int)); rfl; (apply wrapi <;> omega)) | (apply op_remn (m := n0.toNat) (n := 39); rfl; rfl; decide) | (apply op_add (c := (n : Int)); rfl; rfl; (rw [show (2 : Int) + ((n0.toNat % 39 : Nat) : Int) = (n : Int) by omega]; apply wrapi <;> omega)) | (exact bsO)) | apply J.seq | apply E.next | apply J.lq | apply Lq.nil | apply PRun.nil | apply J.block | apply E.in_normal | apply J.skip | (apply Lq.store; rfl; rfl; exact bsP; exact bsS; rfl; rfl) | (apply PRun.al; rfl) | (apply Lq.al; rfl; rfl; intro b) | (apply Open.cons; intro b) | apply Open.nil | (apply Lq.pass; rfl; rfl; rfl) | (apply PRun.pass; rfl; rfl) | (apply Lq.skip; rfl; rfl; rfl; exact bsB) | (apply PRun.skip; rfl; rfl; exact bsB) | (apply J.cond_t; rfl) | (apply J.cond_f; rfl) | apply J.exit | apply E.then_exit | apply E.in_exit | (apply E.in_other; rfl))
  refine J.drawN mixed (by kernel_rfl) ?_
  repeat (first | ((first | (apply Lq.s; rfl) | apply PRun.s | (apply Lq.run; rfl; rfl; rfl; exact bsB) | (apply PRun.run; rfl; rfl; exact bsB)); first | (apply op_box (arrT 3 u8T (by decide)); rfl) | (apply op_paddr u8T.toTy (xs := [n0, n1, n2]) (x := n0); rfl; rfl; decide; decide; rfl) | (apply op_paddr u8T.toTy (xs := [n0, n1, n2]) (x := n1); rfl; rfl; decide; decide; rfl) | (apply op_paddr u8T.toTy (xs := [n0, n1, n2]) (x := n2); rfl; rfl; decide; decide; rfl) | (apply op_load u8T; rfl) | (apply op_conv (c := (n0.toNat : Int)); rfl; (apply wrapi <;> omega)) | (apply op_conv (c := (n1.toNat : Int)); rfl; (apply wrapi <;> omega)) | (apply op_conv (c := (n2.toNat : Int)); rfl; (apply wrapi <;> omega)) | (apply op_remE (m := n1.toNat) (n := n) (c := i); rfl; rfl; omega; exact hi2) | (apply op_remE (m := n2.toNat) (n := n) (c := k); rfl; rfl; omega; exact hk2) | (apply op_call (d := some 33) hsome; exact bsD) | (apply op_call p1; exact bsD) | (apply op_call p2; exact bsD) | (apply op_call hroot; exact bsD) | (exact bsO)) | apply J.seq | apply E.next | apply J.lq | apply Lq.nil | apply PRun.nil | apply J.block | apply E.in_normal | apply J.skip | (apply Lq.store; rfl; rfl; exact bsP; exact bsS; rfl; rfl) | (apply PRun.al; rfl) | (apply Lq.al; rfl; rfl; intro b) | (apply Open.cons; intro b) | apply Open.nil | (apply Lq.pass; rfl; rfl; rfl) | (apply PRun.pass; rfl; rfl) | (apply Lq.skip; rfl; rfl; rfl; exact bsB) | (apply PRun.skip; rfl; rfl; exact bsB) | (apply J.cond_t; rfl) | (apply J.cond_f; rfl) | apply J.exit | apply E.then_exit | apply E.in_exit | (apply E.in_other; rfl))
  (apply Lq.storeE (φs' := hashT.cells B1); rfl; rfl; exact List.Perm.refl _; exact Seg.val _ _; exact hashT.len _; exact Nat.le_refl 32; exact splice_all (by rw [hashT.len]; rfl))
  revert b
  intro b9
  by_cases hik : i = k
  · have hPQ := hpq hik
    subst hPQ
    repeat (first | ((first | (apply Lq.s; rfl) | apply PRun.s | (apply Lq.run; rfl; rfl; rfl; exact bsB) | (apply PRun.run; rfl; rfl; exact bsB)); first | (apply op_call (same_fn P (by omega)); exact bsD) | (apply op_call does11_fn; exact bsD) | (exact bsO)) | apply J.seq | apply E.next | apply J.lq | apply Lq.nil | apply PRun.nil | apply J.block | apply E.in_normal | apply J.skip | (apply Lq.store; rfl; rfl; exact bsP; exact bsS; rfl; rfl) | (apply PRun.al; rfl) | (apply Lq.al; rfl; rfl; intro b) | (apply Open.cons; intro b) | apply Open.nil | (apply Lq.pass; rfl; rfl; rfl) | (apply PRun.pass; rfl; rfl) | (apply Lq.skip; rfl; rfl; rfl; exact bsB) | (apply PRun.skip; rfl; rfl; exact bsB) | (apply J.cond_t; rfl) | (apply J.cond_f; rfl) | apply J.exit | apply E.then_exit | apply E.in_exit | (apply E.in_other; rfl))
    (refine J.ret ?_; (repeat (first | refine E.then_ret ?_ | refine E.in_ret ?_)))
    exact E.ret1 rfl rfl
  · repeat (first | ((first | (apply Lq.s; rfl) | apply PRun.s | (apply Lq.run; rfl; rfl; rfl; exact bsB) | (apply PRun.run; rfl; rfl; exact bsB)); first | (exact bsO)) | apply J.seq | apply E.next | apply J.lq | apply Lq.nil | apply PRun.nil | apply J.block | apply E.in_normal | apply J.skip | (apply Lq.store; rfl; rfl; exact bsP; exact bsS; rfl; rfl) | (apply PRun.al; rfl) | (apply Lq.al; rfl; rfl; intro b) | (apply Open.cons; intro b) | apply Open.nil | (apply Lq.pass; rfl; rfl; rfl) | (apply PRun.pass; rfl; rfl) | (apply Lq.skip; rfl; rfl; rfl; exact bsB) | (apply PRun.skip; rfl; rfl; exact bsB) | (apply J.cond_t; rfl) | (apply J.cond_f; rfl) | apply J.exit | apply E.then_exit | apply E.in_exit | (apply E.in_other; rfl))
    refine J.drawN mixed (by kernel_rfl) ?_
    repeat (first | ((first | (apply Lq.s; rfl) | apply PRun.s | (apply Lq.run; rfl; rfl; rfl; exact bsB) | (apply PRun.run; rfl; rfl; exact bsB)); first | (apply op_iaddr hashT.toTy (x := x); rfl; rfl; exact Int.natCast_nonneg _; (rw [Int.toNat_natCast]; exact hx)) | (apply op_iaddr hashT.toTy (x := y); rfl; rfl; exact Int.natCast_nonneg _; (rw [Int.toNat_natCast]; exact hy)) | (apply op_load hashT; rfl) | (apply op_oload hashT (x := B1); rfl; exact bsM; exact at_hash B1) | (apply op_call c1; exact bsD) | (apply op_call c2; exact bsD) | (apply op_call does11_fn; exact bsD) | (exact bsO)) | apply J.seq | apply E.next | apply J.lq | apply Lq.nil | apply PRun.nil | apply J.block | apply E.in_normal | apply J.skip | (apply Lq.store; rfl; rfl; exact bsP; exact bsS; rfl; rfl) | (apply PRun.al; rfl) | (apply Lq.al; rfl; rfl; intro b) | (apply Open.cons; intro b) | apply Open.nil | (apply Lq.pass; rfl; rfl; rfl) | (apply PRun.pass; rfl; rfl) | (apply Lq.skip; rfl; rfl; rfl; exact bsB) | (apply PRun.skip; rfl; rfl; exact bsB) | (apply J.cond_t; rfl) | (apply J.cond_f; rfl) | apply J.exit | apply E.then_exit | apply E.in_exit | (apply E.in_other; rfl))
    refine J.drawN mixed (by kernel_rfl) ?_
    by_cases hxy : x = y
    · repeat (first | ((first | (apply Lq.s; rfl) | apply PRun.s | (apply Lq.run; rfl; rfl; rfl; exact bsB) | (apply PRun.run; rfl; rfl; exact bsB)); first | (apply op_iaddr hashT.toTy (x := x); rfl; rfl; exact Int.natCast_nonneg _; (rw [Int.toNat_natCast]; exact hx)) | (apply op_iaddr hashT.toTy (x := y); rfl; rfl; exact Int.natCast_nonneg _; (rw [Int.toNat_natCast]; exact hy)) | (apply op_load hashT; rfl) | (apply op_oload hashT (x := B1); rfl; exact bsM; exact at_hash B1) | (apply op_call c1; exact bsD) | (apply op_call c2; exact bsD) | (apply op_call does11_fn; exact bsD) | (apply op_eqA_t (T := hashT) (m := 2) (eqd_arr eqd_u8) rfl rfl; rfl; rfl; exact hxy) | (exact bsO)) | apply J.seq | apply E.next | apply J.lq | apply Lq.nil | apply PRun.nil | apply J.block | apply E.in_normal | apply J.skip | (apply Lq.store; rfl; rfl; exact bsP; exact bsS; rfl; rfl) | (apply PRun.al; rfl) | (apply Lq.al; rfl; rfl; intro b) | (apply Open.cons; intro b) | apply Open.nil | (apply Lq.pass; rfl; rfl; rfl) | (apply PRun.pass; rfl; rfl) | (apply Lq.skip; rfl; rfl; rfl; exact bsB) | (apply PRun.skip; rfl; rfl; exact bsB) | (apply J.cond_t; rfl) | (apply J.cond_f; rfl) | apply J.exit | apply E.then_exit | apply E.in_exit | (apply E.in_other; rfl))
      (refine J.ret ?_; (repeat (first | refine E.then_ret ?_ | refine E.in_ret ?_)))
      exact E.ret1 rfl rfl
    · by_cases hoy : okI i n y P B1 = true
      · have c3 := (icheck_fn y (i : Int) (n : Int) P B1 (by omega) (by omega)).to (show _ = is (.int .i64 0) by rw [chkI_ok (by omega), if_pos hoy])
        have sp := samepairs_fn P i n x y B1 (by omega) (by omega) (by omega) hok hoy hxy
        repeat (first | ((first | (apply Lq.s; rfl) | apply PRun.s | (apply Lq.run; rfl; rfl; rfl; exact bsB) | (apply PRun.run; rfl; rfl; exact bsB)); first | (apply op_iaddr hashT.toTy (x := x); rfl; rfl; exact Int.natCast_nonneg _; (rw [Int.toNat_natCast]; exact hx)) | (apply op_iaddr hashT.toTy (x := y); rfl; rfl; exact Int.natCast_nonneg _; (rw [Int.toNat_natCast]; exact hy)) | (apply op_load hashT; rfl) | (apply op_oload hashT (x := B1); rfl; exact bsM; exact at_hash B1) | (apply op_call c1; exact bsD) | (apply op_call c2; exact bsD) | (apply op_call does11_fn; exact bsD) | (apply op_call c3; exact bsD) | (apply op_call sp; exact bsD) | (apply op_eqA_f (T := hashT) (m := 2) (eqd_arr eqd_u8) rfl rfl; rfl; rfl; exact hxy) | (exact bsO)) | apply J.seq | apply E.next | apply J.lq | apply Lq.nil | apply PRun.nil | apply J.block | apply E.in_normal | apply J.skip | (apply Lq.store; rfl; rfl; exact bsP; exact bsS; rfl; rfl) | (apply PRun.al; rfl) | (apply Lq.al; rfl; rfl; intro b) | (apply Open.cons; intro b) | apply Open.nil | (apply Lq.pass; rfl; rfl; rfl) | (apply PRun.pass; rfl; rfl) | (apply Lq.skip; rfl; rfl; rfl; exact bsB) | (apply PRun.skip; rfl; rfl; exact bsB) | (apply J.cond_t; rfl) | (apply J.cond_f; rfl) | apply J.exit | apply E.then_exit | apply E.in_exit | (apply E.in_other; rfl))
        (refine J.ret ?_; (repeat (first | refine E.then_ret ?_ | refine E.in_ret ?_)))
        exact E.ret1 rfl rfl
      · have c3 := icheck110 (i := i) (n := n) (x := y) (r := B1) (p := P) hi (by omega) (by omega) (by simpa using hoy)
        repeat (first | ((first | (apply Lq.s; rfl) | apply PRun.s | (apply Lq.run; rfl; rfl; rfl; exact bsB) | (apply PRun.run; rfl; rfl; exact bsB)); first | (apply op_iaddr hashT.toTy (x := x); rfl; rfl; exact Int.natCast_nonneg _; (rw [Int.toNat_natCast]; exact hx)) | (apply op_iaddr hashT.toTy (x := y); rfl; rfl; exact Int.natCast_nonneg _; (rw [Int.toNat_natCast]; exact hy)) | (apply op_load hashT; rfl) | (apply op_oload hashT (x := B1); rfl; exact bsM; exact at_hash B1) | (apply op_call c1; exact bsD) | (apply op_call c2; exact bsD) | (apply op_call does11_fn; exact bsD) | (apply op_call c3; exact bsD) | (apply op_eqA_f (T := hashT) (m := 2) (eqd_arr eqd_u8) rfl rfl; rfl; rfl; exact hxy) | (exact bsO)) | apply J.seq | apply E.next | apply J.lq | apply Lq.nil | apply PRun.nil | apply J.block | apply E.in_normal | apply J.skip | (apply Lq.store; rfl; rfl; exact bsP; exact bsS; rfl; rfl) | (apply PRun.al; rfl) | (apply Lq.al; rfl; rfl; intro b) | (apply Open.cons; intro b) | apply Open.nil | (apply Lq.pass; rfl; rfl; rfl) | (apply PRun.pass; rfl; rfl) | (apply Lq.skip; rfl; rfl; rfl; exact bsB) | (apply PRun.skip; rfl; rfl; exact bsB) | (apply J.cond_t; rfl) | (apply J.cond_f; rfl) | apply J.exit | apply E.then_exit | apply E.in_exit | (apply E.in_other; rfl))
        (refine J.ret ?_; (repeat (first | refine E.then_ret ?_ | refine E.in_ret ?_)))
        exact E.ret1 rfl rfl
end Go.Proofs.YtoenogdcopajpaaDoor.L
