/-
  The law FrontierPlay: what the edge tells while it is lent.
-/
import Derived.Test.YtljdjagackdplaaDoorUc
import Derived.Test.YtljdjagackdplaaDoorNx
import Derived.Test.YtljdjagackdplaaDoorUl
namespace Go.Proofs.YtljdjagackdplaaDoor.L
open Go
set_option linter.unusedSectionVars false
variable [Globs] [Has_sha_table] [Has_sha_begin]
set_option linter.unusedVariables false
def edgT : Td (List Hash) where
  sz := 1
  cells s := [sl hashT.toTy s]
  len _ := rfl
  ag := true
  one h := by cases h
  sc x H v h _ := by cases h
  pos := by decide
def frtT : Td (List Hash × Int) where
  sz := 2
  cells s := [sl hashT.toTy s.1, is (.int .i64 s.2)]
  len _ := rfl
  ag := true
  one h := by cases h
  sc x H v h _ := by cases h
  pos := by decide
theorem edg_hashes : Fld edgT.toTy (slT hashT).toTy (fun s => s) 0 := ⟨fun s => ⟨[], [], rfl, rfl⟩⟩
theorem frt_edge : Fld frtT.toTy edgT.toTy Prod.fst 0 := ⟨fun s => ⟨[], _, rfl, rfl⟩⟩
def rfV (rb n : Nat) (hs : List Hash) : VS := fun Δ => ∃ A1 c1 A2 c2, Δ = rfL rb (szs n) hs A1 c1 A2 c2
theorem pop_up : ∀ k n, n ≤ k → pop (n + 1) ≤ pop n + 1
  | 0, n, h => by
    obtain rfl : n = 0 := by omega
    rw [pop_0, show pop (0 + 1) = 1 from pop_ones 1]
    exact Nat.le_refl _
  | k + 1, n, h => by
    have h1 := pop_s n
    have h2 := pop_s (n + 1)
    rcases Nat.mod_two_eq_zero_or_one n with h3 | h3
    · rw [show (n + 1) / 2 = n / 2 by omega] at h2
      omega
    · rw [show (n + 1) / 2 = n / 2 + 1 by omega] at h2
      have := pop_up k (n / 2) (by omega)
      omega
theorem flat_isV (v : Value) : Flat (is v) := fun _ _ _ h => h
theorem pop_small : ∀ (j n : Nat), n < 2 ^ j → pop n ≤ j
  | 0, n, h => by
    obtain rfl : n = 0 := by omega
    rw [pop_0]; exact Nat.le_refl _
  | j + 1, n, h => by
    have h1 := pop_s n
    have := pop_small j (n / 2) (by rw [Nat.pow_succ] at h; omega)
    omega
theorem pop_lt (n : Nat) (hn : n ≤ 9223372036854775807) : pop n ≤ 63 := pop_small 63 n (by omega)
/-- An edge that is lent. -/
theorem lend_f {Δ : List Res} {fb : Nat} {A : Option Addr} {c n : Nat} {hs : List Hash} (hm1 : own fb 66 [is (.slice A hs.length c), is (.int .i64 (n : Int))] ∈ Δ) (hm2 : row (.slice A hs.length c) 23 hashT.toTy hs ∈ Δ) :
    ∀ H w, Sat H w → (∀ r ∈ Δ, r.ok H w) → ∃ (H2 : IH) (B : Nat → Prop), IH.le H H2 ∧ Sat H2 w ∧ (∀ b o, ¬ B b → H2 b o = H b o) ∧ (∀ b, B b → b ∈ Δ.filterMap Res.blk) ∧ ∀ vs, All2 (fun (φ : Pr) v => φ.h H v) [is (.pointer (some ⟨fb, 0, none⟩))] vs → All2 (fun (φ : Pr) v => φ.h H2 v) [ptr (frtT.cells (hs, (n : Int)))] vs := fun H w hs' hr => by
  obtain ⟨H1, k1, k2, k3, k4⟩ := row_freeze hs' (hr _ hm2)
  have hne : (row (.slice A hs.length c) 23 hashT.toTy hs).blk ≠ some fb := fun e => by
    obtain ⟨cs, hh, _⟩ := own_cells (hr _ hm1)
    rcases hr _ hm2 with ⟨h1, _⟩ | ⟨b, o, cap, cs2, hv, h2, _⟩
    · rw [h1] at e; cases e
    · rw [hv] at e
      have e : some b = some fb := e
      injection e with e; subst e
      rw [hh] at h2
      injection h2 with h2
      injection h2 with _ h2
      cases h2
  have hok : (own fb 66 [is (.slice A hs.length c), is (.int .i64 (n : Int))]).ok H1 w := Res.st _ k1 (fun b hb => by
    injection hb with hb; subst hb
    exact ⟨rfl, fun o => k4 _ o hne⟩) (hr _ hm1)
  obtain ⟨H2, q1, q2, q3, q4⟩ := own_freeze k2 hok
  refine ⟨H2, fun b => b = fb ∨ (row (.slice A hs.length c) 23 hashT.toTy hs).blk = some b, IH.le_trans k1 q1, q2, fun b o hb => ?_, fun b hb => ?_, fun vs hvs => ?_⟩
  · rw [q4 b o (fun e => hb (.inl e)), k4 b o (fun e => hb (.inr e))]
  · rcases hb with rfl | hb
    · exact List.mem_filterMap.2 ⟨_, hm1, rfl⟩
    · exact List.mem_filterMap.2 ⟨_, hm2, hb⟩
  · match vs, hvs with
    | [u], ⟨h1, _⟩ =>
      have h1 : u = .pointer (some ⟨fb, 0, none⟩) := h1
      subst h1
      obtain ⟨b, o, hv, hc⟩ := q3
      refine ⟨⟨b, o, hv, fun i φ hi => ?_⟩, trivial⟩
      match i, hi with
      | 0, hi =>
        obtain ⟨z, hz, h2⟩ := hc 0 _ rfl
        have hi : some (sl hashT.toTy hs) = some φ := hi
        injection hi with hi; subst hi
        have h3 : z = .slice A hs.length c := h2.1
        exact ⟨z, hz, by rw [h3]; exact (sl hashT.toTy hs).mono q1 k3, h2.2⟩
      | 1, hi => exact hc 1 φ hi
      | i + 2, hi => cases hi
/-- The document's edge, given up. -/
theorem J.frzR {C : Cx} {Γ : Env} {Δ Δ' : List Res} {Q : Exit → Act → World → Prop} {c : Code} {rb : Nat} {ss : List Nat} {hs : List Hash} {A1 : Option Addr} {c1 : Nat} {A2 : Option Addr} {c2 : Nat} (d : Nat) (hd : look Γ d = some (is (.pointer (some ⟨rb, 0, none⟩)))) (hp : Δ.Perm (rfL rb ss hs A1 c1 A2 c2 ++ Δ'))
    (k : J C ((d, ptr (refT.cells ⟨ss, hs⟩)) :: Γ) Δ' c Q) : J C Γ Δ c Q := fun H a w S => by
  unfold rfL at hp
  obtain ⟨H1, S1, l1, k1⟩ := S.freeze (hp.trans (List.perm_middle (l₁ := [_])))
  obtain ⟨H2, S2, l2, k2⟩ := S1.freeze (List.perm_middle (l₁ := [_]))
  have ho := S2.res _ List.mem_cons_self
  obtain ⟨cs, hh, hcs⟩ := own_cells ho
  obtain ⟨S3, l3⟩ := S2.freezeB (b := rb) (cs := cs) (List.Perm.refl _) rfl ho.2 ⟨_, (0, 0), hh⟩
  refine k (H2.add rb cs) a w (S3.weak fun t φ ht => ?_)
  unfold look at ht
  split at ht
  · rename_i hk
    have hk := Nat.eq_of_beq_eq_true hk
    subst hk
    injection ht with ht; subst ht
    obtain ⟨v, hv, h2⟩ := S3.env d _ hd
    refine ⟨v, hv, rb, 0, h2, fun i φ hi => ?_⟩
    have hadd : ∀ j, H2.add rb cs rb (0 + j) = cs[j]? := fun j => by unfold IH.add; rw [if_pos rfl, Nat.zero_add]
    match i, hi with
    | 0, hi =>
      obtain ⟨z, hz, h4⟩ := hcs.get 0 _ rfl
      have hi : some (sl (intT .i64).toTy (nums ss)) = some φ := hi
      injection hi with hi; subst hi
      have h3 : z = .slice A1 (nums ss).length c1 := h4.1
      exact ⟨z, (hadd 0).trans hz, by rw [h3]; exact (sl (intT .i64).toTy (nums ss)).mono (IH.le_trans l2 l3) k1, h4.2⟩
    | 1, hi =>
      obtain ⟨z, hz, h4⟩ := hcs.get 1 _ rfl
      have hi : some (sl hashT.toTy hs) = some φ := hi
      injection hi with hi; subst hi
      have h3 : z = .slice A2 hs.length c2 := h4.1
      exact ⟨z, (hadd 1).trans hz, by rw [h3]; exact (sl hashT.toTy hs).mono l3 k2, h4.2⟩
    | i + 2, hi => cases hi
  · exact S3.env t φ ht
theorem is_out {H : IH} {u v : Value} (h : (is v).h H u) : u = v := h
theorem star_out {V W : VS} {Δ : List Res} (h : star V W Δ) : ∃ D1 D2, V D1 ∧ W D2 ∧ Δ.Perm (D1 ++ D2) := h
theorem frV_mk {fb n : Nat} {hs : List Hash} (A : Option Addr) (c : Nat) : frV fb hs n (frL fb hs n A c) := ⟨A, c, rfl⟩
theorem frV_out {fb n : Nat} {hs : List Hash} {Δ : List Res} (h : frV fb hs n Δ) : ∃ A c, Δ = frL fb hs n A c := h
theorem rfV_mk {rb n : Nat} {hs : List Hash} (A1 : Option Addr) (c1 : Nat) (A2 : Option Addr) (c2 : Nat) : rfV rb n hs (rfL rb (szs n) hs A1 c1 A2 c2) := ⟨A1, c1, A2, c2, rfl⟩
theorem rfV_out {rb n : Nat} {hs : List Hash} {Δ : List Res} (h : rfV rb n hs Δ) : ∃ A1 c1 A2 c2, Δ = rfL rb (szs n) hs A1 c1 A2 c2 := h
set_option linter.unusedVariables false
set_option linter.unusedSimpArgs false
attribute [local irreducible] J Lq E OpP PRun is any agg tup ptr sl PRunW OpE PRunV OpV star
attribute [local irreducible] up2 mroot nodeH leafH emptyH shaH ownAt row someL leafOf splitZ split rv join2 edge rootE o1 o2 o3 frV fre nums szs
theorem hclone_fnR (l : List Hash) (hl : l.length ≤ 100000) : FnR Tryd.prog 42 [sl hashT.toTy l] [] (fun ψ Δ => ∃ A c, ψ = is (.slice A l.length c) ∧ Δ = [row (.slice A l.length c) 23 hashT.toTy l]) := by
  refine FnR.mk' 8 Tryd.func42 rfl rfl rfl rfl fun w0 H0 => ?_
  refine J.nilrow 23 hashT.toTy ?_
  repeat (first | ((first | (apply Lq.s; rfl) | apply PRun.s | (apply Lq.run; rfl; rfl; rfl; exact bsB) | (apply PRun.run; rfl; rfl; exact bsB)); first | (exact bsO)) | apply J.seq | apply E.next | apply J.lq | apply Lq.nil | apply PRun.nil | apply J.block | apply E.in_normal | apply J.skip | (apply Lq.store; rfl; rfl; exact bsP; exact bsS; rfl; rfl) | (apply PRun.al; rfl) | (apply Lq.al; rfl; rfl; intro b) | (apply Open.cons; intro b) | apply Open.nil | (apply Lq.pass; rfl; rfl; rfl) | (apply PRun.pass; rfl; rfl) | (apply Lq.skip; rfl; rfl; rfl; exact bsB) | (apply PRun.skip; rfl; rfl; exact bsB) | (apply J.drawN; exact mixed; kernel_rfl) | (apply J.cond_t; rfl) | (apply J.cond_f; rfl) | apply J.exit | apply E.then_exit | apply E.in_exit | (apply E.in_other; rfl))
  refine Lq.slOpn 3 rfl fun A c hA => ?_
  cases A with
  | none =>
    obtain rfl := hA rfl
    repeat (first | ((first | (apply Lq.s; rfl) | apply PRun.s | (apply Lq.run; rfl; rfl; rfl; exact bsB) | (apply PRun.run; rfl; rfl; exact bsB)); first | (apply op_slnil; rfl; rfl) | (exact bsO)) | apply J.seq | apply E.next | apply J.lq | apply Lq.nil | apply PRun.nil | apply J.block | apply E.in_normal | apply J.skip | (apply Lq.store; rfl; rfl; exact bsP; exact bsS; rfl; rfl) | (apply PRun.al; rfl) | (apply Lq.al; rfl; rfl; intro b) | (apply Open.cons; intro b) | apply Open.nil | (apply Lq.pass; rfl; rfl; rfl) | (apply PRun.pass; rfl; rfl) | (apply Lq.skip; rfl; rfl; rfl; exact bsB) | (apply PRun.skip; rfl; rfl; exact bsB) | (apply J.drawN; exact mixed; kernel_rfl) | (apply J.cond_t; rfl) | (apply J.cond_f; rfl) | apply J.exit | apply E.then_exit | apply E.in_exit | (apply E.in_other; rfl))
    (refine J.ret ?_; (repeat (first | refine E.then_ret ?_ | refine E.in_ret ?_)))
    exact E.retR1 (Δ' := [row (.slice none 0 0) 23 hashT.toTy []]) (G := []) rfl rfl ⟨none, 0, rfl, rfl⟩ (List.Perm.refl _)
  | some A =>
    (apply Lq.s; rfl; (apply op_slnil; rfl; rfl))
    (repeat (first | apply J.seq | apply E.next | apply J.lq | apply Lq.nil | apply J.block | apply E.in_normal | apply J.skip | (apply J.cond_t; rfl) | (apply J.cond_f; rfl)))
    (apply Lq.bsl (T := hashT) (xs := []); rfl; (repeat (first | exact PO.nil _ | (apply PO.cons; rfl))); rfl; rfl; rfl)
    intro A1 c1
    repeat (first | ((first | (apply Lq.s; rfl) | apply PRun.s | (apply Lq.run; rfl; rfl; rfl; exact bsB) | (apply PRun.run; rfl; rfl; exact bsB)); first | (exact bsO)) | apply J.seq | apply E.next | apply J.lq | apply Lq.nil | apply PRun.nil | apply J.block | apply E.in_normal | apply J.skip | (apply Lq.store; rfl; rfl; exact bsP; exact bsS; rfl; rfl) | (apply PRun.al; rfl) | (apply Lq.al; rfl; rfl; intro b) | (apply Open.cons; intro b) | apply Open.nil | (apply Lq.pass; rfl; rfl; rfl) | (apply PRun.pass; rfl; rfl) | (apply Lq.skip; rfl; rfl; rfl; exact bsB) | (apply PRun.skip; rfl; rfl; exact bsB) | (apply J.drawN; exact mixed; kernel_rfl) | (apply J.cond_t; rfl) | (apply J.cond_f; rfl) | apply J.exit | apply E.then_exit | apply E.in_exit | (apply E.in_other; rfl))
    (apply Lq.append (T := hashT) (xs := []) (ys := l); rfl; exact List.Perm.refl _; (apply From.sl; rfl); rfl; rfl; rfl; (show 0 + _ ≤ maxLen; unfold maxLen; omega); (show (0 + _) * 32 ≤ _; omega))
    intro A2 c2
    rw [List.nil_append]
    repeat (first | ((first | (apply Lq.s; rfl) | apply PRun.s | (apply Lq.run; rfl; rfl; rfl; exact bsB) | (apply PRun.run; rfl; rfl; exact bsB)); first | (exact bsO)) | apply J.seq | apply E.next | apply J.lq | apply Lq.nil | apply PRun.nil | apply J.block | apply E.in_normal | apply J.skip | (apply Lq.store; rfl; rfl; exact bsP; exact bsS; rfl; rfl) | (apply PRun.al; rfl) | (apply Lq.al; rfl; rfl; intro b) | (apply Open.cons; intro b) | apply Open.nil | (apply Lq.pass; rfl; rfl; rfl) | (apply PRun.pass; rfl; rfl) | (apply Lq.skip; rfl; rfl; rfl; exact bsB) | (apply PRun.skip; rfl; rfl; exact bsB) | (apply J.drawN; exact mixed; kernel_rfl) | (apply J.cond_t; rfl) | (apply J.cond_f; rfl) | apply J.exit | apply E.then_exit | apply E.in_exit | (apply E.in_other; rfl))
    (refine J.ret ?_; (repeat (first | refine E.then_ret ?_ | refine E.in_ret ?_)))
    exact E.retR1 (G := [_]) rfl rfl ⟨A2, c2, rfl, rfl⟩ (List.Perm.refl _)
theorem hall_fnR (hs : List Hash) (hl : hs.length ≤ 100000) : FnR Tryd.prog 45 [ptr (edgT.cells hs)] [] (fun ψ Δ => ∃ A c, ψ = is (.slice A hs.length c) ∧ Δ = [row (.slice A hs.length c) 23 hashT.toTy hs]) := by
  refine FnR.mk' 8 Tryd.func45 rfl rfl rfl rfl fun w0 H0 => ?_
  repeat (first | ((first | (apply Lq.s; rfl) | apply PRun.s | (apply Lq.run; rfl; rfl; rfl; exact bsB) | (apply PRun.run; rfl; rfl; exact bsB)); first | (apply op_nilP; rfl) | (apply op_faddr edg_hashes (s := hs); rfl; decide) | (apply op_load (slT hashT); rfl) | (exact bsO)) | apply J.seq | apply E.next | apply J.lq | apply Lq.nil | apply PRun.nil | apply J.block | apply E.in_normal | apply J.skip | (apply Lq.store; rfl; rfl; exact bsP; exact bsS; rfl; rfl) | (apply PRun.al; rfl) | (apply Lq.al; rfl; rfl; intro b) | (apply Open.cons; intro b) | apply Open.nil | (apply Lq.pass; rfl; rfl; rfl) | (apply PRun.pass; rfl; rfl) | (apply Lq.skip; rfl; rfl; rfl; exact bsB) | (apply PRun.skip; rfl; rfl; exact bsB) | (apply J.drawN; exact mixed; kernel_rfl) | (apply J.cond_t; rfl) | (apply J.cond_f; rfl) | apply J.exit | apply E.then_exit | apply E.in_exit | (apply E.in_other; rfl))
  refine Lq.callS (Δ0 := []) (Δf := []) (hclone_fnR hs hl) rfl bsD (List.Perm.refl _) ?_
  rintro _ _ ⟨A2, c2, rfl, rfl⟩
  repeat (first | ((first | (apply Lq.s; rfl) | apply PRun.s | (apply Lq.run; rfl; rfl; rfl; exact bsB) | (apply PRun.run; rfl; rfl; exact bsB)); first | (exact bsO)) | apply J.seq | apply E.next | apply J.lq | apply Lq.nil | apply PRun.nil | apply J.block | apply E.in_normal | apply J.skip | (apply Lq.store; rfl; rfl; exact bsP; exact bsS; rfl; rfl) | (apply PRun.al; rfl) | (apply Lq.al; rfl; rfl; intro b) | (apply Open.cons; intro b) | apply Open.nil | (apply Lq.pass; rfl; rfl; rfl) | (apply PRun.pass; rfl; rfl) | (apply Lq.skip; rfl; rfl; rfl; exact bsB) | (apply PRun.skip; rfl; rfl; exact bsB) | (apply J.drawN; exact mixed; kernel_rfl) | (apply J.cond_t; rfl) | (apply J.cond_f; rfl) | apply J.exit | apply E.then_exit | apply E.in_exit | (apply E.in_other; rfl))
  (refine J.ret ?_; (repeat (first | refine E.then_ret ?_ | refine E.in_ret ?_)))
  exact E.retR1 (G := []) rfl rfl ⟨A2, c2, rfl, rfl⟩ (List.Perm.refl _)
theorem hhashes_fnR (hs : List Hash) (n : Int) (hl : hs.length ≤ 100000) : FnR Tryd.prog 31 [ptr (frtT.cells (hs, n))] [] (fun ψ Δ => ∃ A c, ψ = is (.slice A hs.length c) ∧ Δ = [row (.slice A hs.length c) 23 hashT.toTy hs]) := by
  refine FnR.mk' 9 Tryd.func31 rfl rfl rfl rfl fun w0 H0 => ?_
  repeat (first | ((first | (apply Lq.s; rfl) | apply PRun.s | (apply Lq.run; rfl; rfl; rfl; exact bsB) | (apply PRun.run; rfl; rfl; exact bsB)); first | (apply op_nilP; rfl) | (apply op_ptrEq; rfl; rfl) | (apply op_faddr frt_edge (s := (hs, n)); rfl; decide) | (exact bsO)) | apply J.seq | apply E.next | apply J.lq | apply Lq.nil | apply PRun.nil | apply J.block | apply E.in_normal | apply J.skip | (apply Lq.store; rfl; rfl; exact bsP; exact bsS; rfl; rfl) | (apply PRun.al; rfl) | (apply Lq.al; rfl; rfl; intro b) | (apply Open.cons; intro b) | apply Open.nil | (apply Lq.pass; rfl; rfl; rfl) | (apply PRun.pass; rfl; rfl) | (apply Lq.skip; rfl; rfl; rfl; exact bsB) | (apply PRun.skip; rfl; rfl; exact bsB) | (apply J.drawN; exact mixed; kernel_rfl) | (apply J.cond_t; rfl) | (apply J.cond_f; rfl) | apply J.exit | apply E.then_exit | apply E.in_exit | (apply E.in_other; rfl))
  refine Lq.callS (Δ0 := []) (Δf := []) (hall_fnR hs hl) rfl bsD (List.Perm.refl _) ?_
  rintro _ _ ⟨A2, c2, rfl, rfl⟩
  repeat (first | ((first | (apply Lq.s; rfl) | apply PRun.s | (apply Lq.run; rfl; rfl; rfl; exact bsB) | (apply PRun.run; rfl; rfl; exact bsB)); first | (exact bsO)) | apply J.seq | apply E.next | apply J.lq | apply Lq.nil | apply PRun.nil | apply J.block | apply E.in_normal | apply J.skip | (apply Lq.store; rfl; rfl; exact bsP; exact bsS; rfl; rfl) | (apply PRun.al; rfl) | (apply Lq.al; rfl; rfl; intro b) | (apply Open.cons; intro b) | apply Open.nil | (apply Lq.pass; rfl; rfl; rfl) | (apply PRun.pass; rfl; rfl) | (apply Lq.skip; rfl; rfl; rfl; exact bsB) | (apply PRun.skip; rfl; rfl; exact bsB) | (apply J.drawN; exact mixed; kernel_rfl) | (apply J.cond_t; rfl) | (apply J.cond_f; rfl) | apply J.exit | apply E.then_exit | apply E.in_exit | (apply E.in_other; rfl))
  (refine J.ret ?_; (repeat (first | refine E.then_ret ?_ | refine E.in_ret ?_)))
  exact E.retR1 (G := []) rfl rfl ⟨A2, c2, rfl, rfl⟩ (List.Perm.refl _)
theorem rlenV (rb n : Nat) (hs : List Hash) (hn : n ≤ 9223372036854775807) : FnV Tryd.prog 28 [is (.pointer (some ⟨rb, 0, none⟩))] (rfV rb n hs) (is (.int .i64 (n : Int))) (rfV rb n hs) := by
  rintro _ ⟨A1, c1, A2, c2, rfl⟩
  have := rlen_fnR rb (szs n) hs A1 c1 A2 c2 (by have := szs_len n; have := pop_lt n hn; omega) (by rw [szs_sum]; exact hn)
  rw [szs_sum] at this
  exact this.to fun ψ Δ h => ⟨h.1, A1, c1, A2, c2, h.2⟩
theorem rrootV [Has_ref02_k] (rb n : Nat) (hs : List Hash) (hl : hs.length ≤ 90000) : FnV Tryd.prog 30 [is (.pointer (some ⟨rb, 0, none⟩))] (rfV rb n hs) (hashT.val (rootE hs)) (rfV rb n hs) := by
  rintro _ ⟨A1, c1, A2, c2, rfl⟩
  exact (rroot_fnR rb (szs n) hs A1 c1 A2 c2 hl).to fun ψ Δ h => ⟨h.1, A1, c1, A2, c2, h.2⟩
theorem rappendV [Has_ref02_k] (rb n : Nat) (hs : List Hash) (h : Hash) (hl : hs.length ≤ 80000) (hp : hs.length = pop n) (hn : n < 9223372036854775807) : FnV Tryd.prog 26 [is (.pointer (some ⟨rb, 0, none⟩)), hashT.val h] (rfV rb n hs) (is (.int .i64 0)) (rfV rb (n + 1) (joins n (hs ++ [h]))) := by
  rintro _ ⟨A1, c1, A2, c2, rfl⟩
  exact rappend_fnR rb n hs A1 c1 A2 c2 h hl hp hn
theorem rappendMaxV [Has_ref02_k] (rb : Nat) (hs : List Hash) (h : Hash) : FnV Tryd.prog 26 [is (.pointer (some ⟨rb, 0, none⟩)), hashT.val h] (rfV rb 9223372036854775807 hs) (is (.int .i64 3)) (rfV rb 9223372036854775807 hs) := by
  rintro _ ⟨A1, c1, A2, c2, rfl⟩
  exact (rappend_max rb (szs 9223372036854775807) hs A1 c1 A2 c2 h (by have := szs_len 9223372036854775807; have := pop_lt 9223372036854775807 (Nat.le_refl _); omega) (szs_sum _)).to fun ψ Δ h => ⟨h.1, A1, c1, A2, c2, h.2⟩
set_option maxRecDepth 100000 in
set_option maxHeartbeats 16000000 in
theorem frontierPlay [Has_ref02_k] (n : Int) (l more : List Hash) (hn0 : -9223372036854775808 ≤ n ∧ n ≤ 9223372036854775807) (_h : l.length ≤ maxLen ∧ ∀ x ∈ l, True) (_h2 : more.length ≤ maxLen ∧ ∀ x ∈ more, True) : Fn Tryd.prog 9 [is (.int .i64 n), sl hashT.toTy l, sl hashT.toTy more] (is (.bool true)) := by
  refine Fn.mk' 144 Tryd.func9 rfl rfl rfl rfl fun w0 H0 => ?_
  by_cases hbig : 70 < l.length
  · repeat (first | ((first | (apply Lq.s; rfl) | apply PRun.s | (apply Lq.run; rfl; rfl; rfl; exact bsB) | (apply PRun.run; rfl; rfl; exact bsB)); first | (apply op_len (xs := l); rfl) | (apply op_len (xs := more); rfl) | (exact bsO)) | apply J.seq | apply E.next | apply J.lq | apply Lq.nil | apply PRun.nil | apply J.block | apply E.in_normal | apply J.skip | (apply Lq.store; rfl; rfl; exact bsP; exact bsS; rfl; rfl) | (apply PRun.al; rfl) | (apply Lq.al; rfl; rfl; intro b) | (apply Open.cons; intro b) | apply Open.nil | (apply Lq.pass; rfl; rfl; rfl) | (apply PRun.pass; rfl; rfl) | (apply Lq.skip; rfl; rfl; rfl; exact bsB) | (apply PRun.skip; rfl; rfl; exact bsB) | (apply J.cond_t; rfl) | (apply J.cond_f; rfl) | apply J.exit | apply E.then_exit | apply E.in_exit | (apply E.in_other; rfl))
    (refine J.ret ?_; (repeat (first | refine E.then_ret ?_ | refine E.in_ret ?_)))
    exact E.ret1 rfl rfl
  by_cases hbig2 : 40 < more.length
  · repeat (first | ((first | (apply Lq.s; rfl) | apply PRun.s | (apply Lq.run; rfl; rfl; rfl; exact bsB) | (apply PRun.run; rfl; rfl; exact bsB)); first | (apply op_len (xs := l); rfl) | (apply op_len (xs := more); rfl) | (exact bsO)) | apply J.seq | apply E.next | apply J.lq | apply Lq.nil | apply PRun.nil | apply J.block | apply E.in_normal | apply J.skip | (apply Lq.store; rfl; rfl; exact bsP; exact bsS; rfl; rfl) | (apply PRun.al; rfl) | (apply Lq.al; rfl; rfl; intro b) | (apply Open.cons; intro b) | apply Open.nil | (apply Lq.pass; rfl; rfl; rfl) | (apply PRun.pass; rfl; rfl) | (apply Lq.skip; rfl; rfl; rfl; exact bsB) | (apply PRun.skip; rfl; rfl; exact bsB) | (apply J.cond_t; rfl) | (apply J.cond_f; rfl) | apply J.exit | apply E.then_exit | apply E.in_exit | (apply E.in_other; rfl))
    (refine J.ret ?_; (repeat (first | refine E.then_ret ?_ | refine E.in_ret ?_)))
    exact E.ret1 rfl rfl
  have hl : l.length ≤ 70 := by omega
  have hm : more.length ≤ 40 := by omega
  repeat (first | ((first | (apply Lq.s; rfl) | apply PRun.s | (apply Lq.run; rfl; rfl; rfl; exact bsB) | (apply PRun.run; rfl; rfl; exact bsB)); first | (apply op_len (xs := l); rfl) | (apply op_len (xs := more); rfl) | (exact bsO)) | apply J.seq | apply E.next | apply J.lq | apply Lq.nil | apply PRun.nil | apply J.block | apply E.in_normal | apply J.skip | (apply Lq.store; rfl; rfl; exact bsP; exact bsS; rfl; rfl) | (apply PRun.al; rfl) | (apply Lq.al; rfl; rfl; intro b) | (apply Open.cons; intro b) | apply Open.nil | (apply Lq.pass; rfl; rfl; rfl) | (apply PRun.pass; rfl; rfl) | (apply Lq.skip; rfl; rfl; rfl; exact bsB) | (apply PRun.skip; rfl; rfl; exact bsB) | (apply J.cond_t; rfl) | (apply J.cond_f; rfl) | apply J.exit | apply E.then_exit | apply E.in_exit | (apply E.in_other; rfl))
  (apply Lq.bsl (T := hashT) (xs := []); rfl; (repeat (first | exact PO.nil _ | (apply PO.cons; rfl))); rfl; rfl; rfl)
  intro A0 c0
  repeat (first | ((first | (apply Lq.s; rfl) | apply PRun.s | (apply Lq.run; rfl; rfl; rfl; exact bsB) | (apply PRun.run; rfl; rfl; exact bsB)); first | (exact bsO)) | apply J.seq | apply E.next | apply J.lq | apply Lq.nil | apply PRun.nil | apply J.block | apply E.in_normal | apply J.skip | (apply Lq.store; rfl; rfl; exact bsP; exact bsS; rfl; rfl) | (apply PRun.al; rfl) | (apply Lq.al; rfl; rfl; intro b) | (apply Open.cons; intro b) | apply Open.nil | (apply Lq.pass; rfl; rfl; rfl) | (apply PRun.pass; rfl; rfl) | (apply Lq.skip; rfl; rfl; rfl; exact bsB) | (apply PRun.skip; rfl; rfl; exact bsB) | (apply J.cond_t; rfl) | (apply J.cond_f; rfl) | apply J.exit | apply E.then_exit | apply E.in_exit | (apply E.in_other; rfl))
  (apply Lq.append (T := hashT) (xs := []) (ys := l); rfl; exact List.Perm.refl _; (apply From.sl; rfl); rfl; rfl; rfl; (show 0 + _ ≤ maxLen; unfold maxLen; omega); (show (0 + _) * 32 ≤ _; omega))
  intro A5 c5
  rw [List.nil_append]
  by_cases hbad : n < 0 ∨ pop n.toNat ≠ l.length
  · have F1 := (fload_bad n l.length (by omega) hn0 hbad).weak (weakLast (anySl_is (A := A5) (c := c5)) [_])
    have F2 := rload_bad n l (by omega) hn0 hbad
    repeat (first | ((first | (apply Lq.s; rfl) | apply PRun.s | (apply Lq.run; rfl; rfl; rfl; exact bsB) | (apply PRun.run; rfl; rfl; exact bsB)); first | (apply op_call F1; exact bsD) | (apply op_call F2; exact bsD) | (apply op_pnil; rfl; rfl) | (exact bsO)) | apply J.seq | apply E.next | apply J.lq | apply Lq.nil | apply PRun.nil | apply J.block | apply E.in_normal | apply J.skip | (apply Lq.store; rfl; rfl; exact bsP; exact bsS; rfl; rfl) | (apply PRun.al; rfl) | (apply Lq.al; rfl; rfl; intro b) | (apply Open.cons; intro b) | apply Open.nil | (apply Lq.pass; rfl; rfl; rfl) | (apply PRun.pass; rfl; rfl) | (apply Lq.skip; rfl; rfl; rfl; exact bsB) | (apply PRun.skip; rfl; rfl; exact bsB) | (apply J.cond_t; rfl) | (apply J.cond_f; rfl) | apply J.exit | apply E.then_exit | apply E.in_exit | (apply E.in_other; rfl))
    obtain ⟨D0, hD0⟩ : ∃ D, D = ([] : List Res) := ⟨_, rfl⟩
    rw [← hD0]
    refine J.loop (fun p : Nat × List Hash => p.1 ≤ l.length ∧ p.2.length = l.length) (fun p => [(2, sl hashT.toTy more), (8, is (.pointer none)), (10, is (.pointer none)), (7, is (.slice A5 l.length c5)), (12, is (.int .i64 (p.1 : Int)))]) (fun p => row (.slice A5 p.2.length c5) 23 hashT.toTy p.2 :: D0) (fun p => l.length - p.1) (0, l) ⟨Nat.zero_le _, rfl⟩ (Sub.same (by repeat' (first | exact trivial | refine ⟨rfl, ?_⟩))) ?_
    rintro ⟨i, zs⟩ ⟨hi, hz⟩
    dsimp only at hi hz ⊢
    by_cases hlt : i < l.length
    · refine J.open (List.Perm.refl _) (by intro h; rw [h] at hz; simp at hz; omega) ?_
      intro tb to tcap pre post hR
      obtain ⟨hv, hpre, hle, hcap, hroom, _⟩ := hR
      injection hv with hA _ hc
      subst hA; subst hc
      repeat (first | ((first | (apply Lq.s; rfl) | apply PRun.s | (apply Lq.run; rfl; rfl; rfl; exact bsB) | (apply PRun.run; rfl; rfl; exact bsB)); first | (apply op_slen; rfl) | (exact bsO)) | apply J.seq | apply E.next | apply J.lq | apply Lq.nil | apply PRun.nil | apply J.block | apply E.in_normal | apply J.skip | (apply Lq.store; rfl; rfl; exact bsP; exact bsS; rfl; rfl) | (apply PRun.al; rfl) | (apply Lq.al; rfl; rfl; intro b) | (apply Open.cons; intro b) | apply Open.nil | (apply Lq.pass; rfl; rfl; rfl) | (apply PRun.pass; rfl; rfl) | (apply Lq.skip; rfl; rfl; rfl; exact bsB) | (apply PRun.skip; rfl; rfl; exact bsB) | (apply J.cond_t; rfl) | (apply J.cond_f; rfl) | apply J.exit | apply E.then_exit | apply E.in_exit | (apply E.in_other; rfl))
      (apply Lq.s; rfl; (apply op_siaddr; rfl; rfl; omega; omega))
      refine Lq.storeE (φs' := pre ++ flat hashT.toTy (zs.set i zeroH) ++ post) rfl rfl (List.Perm.refl _) Seg.agg rfl ?_ ?_ ?_
      · have := row_room hashT.toTy (pre := pre) (post := post) (xs := zs) (o := to) (k := i) hpre (by omega)
        rw [Int.toNat_natCast]
        exact this
      · rw [Int.toNat_natCast]
        show splice (pre ++ flat hashT.toTy zs ++ post) (to + i * hashT.sz) (hashT.cells zeroH) = _
        exact set_row (xs := zs) (v := zeroH) hashT.toTy hpre (by omega)
      repeat (first | ((first | (apply Lq.s; rfl) | apply PRun.s | (apply Lq.run; rfl; rfl; rfl; exact bsB) | (apply PRun.run; rfl; rfl; exact bsB)); first | (apply op_add (c := ((i + 1 : Nat) : Int)); rfl; rfl; (rw [show (i : Int) + 1 = ((i + 1 : Nat) : Int) by omega]; apply wrapi <;> omega)) | (exact bsO)) | apply J.seq | apply E.next | apply J.lq | apply Lq.nil | apply PRun.nil | apply J.block | apply E.in_normal | apply J.skip | (apply Lq.store; rfl; rfl; exact bsP; exact bsS; rfl; rfl) | (apply PRun.al; rfl) | (apply Lq.al; rfl; rfl; intro b) | (apply Open.cons; intro b) | apply Open.nil | (apply Lq.pass; rfl; rfl; rfl) | (apply PRun.pass; rfl; rfl) | (apply Lq.skip; rfl; rfl; rfl; exact bsB) | (apply PRun.skip; rfl; rfl; exact bsB) | (apply J.cond_t; rfl) | (apply J.cond_f; rfl) | apply J.exit | apply E.then_exit | apply E.in_exit | (apply E.in_other; rfl))
      refine E.close hashT.toTy (zs.set i zeroH) (b := tb) (o := to) (cap := c5) (List.Perm.refl _) ?_ (by rw [List.length_set]; exact hle) hcap (take_rowT hashT.toTy hpre) ?_
      · simp only [List.length_append, flat_len, List.length_set] at hroom ⊢
        exact hroom
      exact E.again (i + 1, zs.set i zeroH) (by dsimp only; omega) ⟨by dsimp only; omega, by dsimp only; rw [List.length_set]; exact hz⟩ (Sub.same (by repeat' (first | exact trivial | refine ⟨rfl, ?_⟩)))
    · obtain rfl : i = l.length := by omega
      repeat (first | ((first | (apply Lq.s; rfl) | apply PRun.s | (apply Lq.run; rfl; rfl; rfl; exact bsB) | (apply PRun.run; rfl; rfl; exact bsB)); first | (apply op_slen; rfl) | (exact bsO)) | apply J.seq | apply E.next | apply J.lq | apply Lq.nil | apply PRun.nil | apply J.block | apply E.in_normal | apply J.skip | (apply Lq.store; rfl; rfl; exact bsP; exact bsS; rfl; rfl) | (apply PRun.al; rfl) | (apply Lq.al; rfl; rfl; intro b) | (apply Open.cons; intro b) | apply Open.nil | (apply Lq.pass; rfl; rfl; rfl) | (apply PRun.pass; rfl; rfl) | (apply Lq.skip; rfl; rfl; rfl; exact bsB) | (apply PRun.skip; rfl; rfl; exact bsB) | (apply J.cond_t; rfl) | (apply J.cond_f; rfl) | apply J.exit | apply E.then_exit | apply E.in_exit | (apply E.in_other; rfl))
      refine J.loop (fun _ : Nat => True) (fun _ => [(2, sl hashT.toTy more), (8, is (.pointer none)), (10, is (.pointer none)), (13, is (.int .i64 ((0 : Nat) : Int)))]) (fun _ => []) (fun _ => 0) 0 trivial ⟨(by repeat' (first | exact trivial | refine ⟨rfl, ?_⟩)), _, List.Perm.refl _⟩ ?_
      rintro _ _
      by_cases h0 : 0 < more.length
      · repeat (first | ((first | (apply Lq.s; rfl) | apply PRun.s | (apply Lq.run; rfl; rfl; rfl; exact bsB) | (apply PRun.run; rfl; rfl; exact bsB)); first | (apply op_len (xs := more); rfl) | (apply op_pnone; rfl; rfl) | (exact bsO)) | apply J.seq | apply E.next | apply J.lq | apply Lq.nil | apply PRun.nil | apply J.block | apply E.in_normal | apply J.skip | (apply Lq.store; rfl; rfl; exact bsP; exact bsS; rfl; rfl) | (apply PRun.al; rfl) | (apply Lq.al; rfl; rfl; intro b) | (apply Open.cons; intro b) | apply Open.nil | (apply Lq.pass; rfl; rfl; rfl) | (apply PRun.pass; rfl; rfl) | (apply Lq.skip; rfl; rfl; rfl; exact bsB) | (apply PRun.skip; rfl; rfl; exact bsB) | (apply J.cond_t; rfl) | (apply J.cond_f; rfl) | apply J.exit | apply E.then_exit | apply E.in_exit | (apply E.in_other; rfl))
        refine J.drawW 28 [(none, none), (none, none), (none, none), (none, none), (none, none), (none, none), (none, none), (none, none), (none, none), (none, none), (none, none), (none, none), (none, none), (none, none), (none, none), (none, none), (none, none), (none, none), (none, none), (none, none), (none, none), (none, none), (none, none), (none, none), (none, none), (none, none), (none, none), (none, none)] mixed (by kernel_rfl) ?_
        repeat (first | ((first | apply PRunW.s | (apply PRunW.run; rfl; rfl; exact bsB) | (apply Lq.s; rfl) | apply PRun.s | (apply Lq.run; rfl; rfl; rfl; exact bsB) | (apply PRun.run; rfl; rfl; exact bsB)); first | (apply op_pnil; rfl; rfl) | (apply op_call does10_fn; exact bsD) | (exact bsO)) | apply J.seq | apply E.next | apply J.lq | apply Lq.nil | apply PRun.nil | apply J.block | apply E.in_normal | apply J.skip | (apply Lq.store; rfl; rfl; exact bsP; exact bsS; rfl; rfl) | (apply PRun.al; rfl) | (apply Lq.al; rfl; rfl; intro b) | (apply Open.cons; intro b) | apply Open.nil | (apply Lq.pass; rfl; rfl; rfl) | (apply PRun.pass; rfl; rfl) | (apply Lq.skip; rfl; rfl; rfl; exact bsB) | (apply PRun.skip; rfl; rfl; exact bsB) | (apply J.cond_t; rfl) | (apply J.cond_f; rfl) | apply J.exit | apply E.then_exit | apply E.in_exit | (apply E.in_other; rfl) | apply PRunW.nil | (apply PRunW.al; rfl) | (apply PRunW.pass; rfl; rfl) | (apply PRunW.skip; rfl; rfl; exact bsB) | (apply Open.pv; intro b) | apply Open.av | (apply Open.rv; intro A c))
        repeat (first | ((first | (apply Lq.s; rfl) | apply PRun.s | (apply Lq.run; rfl; rfl; rfl; exact bsB) | (apply PRun.run; rfl; rfl; exact bsB)); first | (exact bsO)) | apply J.seq | apply E.next | apply J.lq | apply Lq.nil | apply PRun.nil | apply J.block | apply E.in_normal | apply J.skip | (apply Lq.store; rfl; rfl; exact bsP; exact bsS; rfl; rfl) | (apply PRun.al; rfl) | (apply Lq.al; rfl; rfl; intro b) | (apply Open.cons; intro b) | apply Open.nil | (apply Lq.pass; rfl; rfl; rfl) | (apply PRun.pass; rfl; rfl) | (apply Lq.skip; rfl; rfl; rfl; exact bsB) | (apply PRun.skip; rfl; rfl; exact bsB) | (apply J.cond_t; rfl) | (apply J.cond_f; rfl) | apply J.exit | apply E.then_exit | apply E.in_exit | (apply E.in_other; rfl))
        (refine J.ret ?_; (repeat (first | refine E.then_ret ?_ | refine E.in_ret ?_)))
        exact E.ret1 rfl rfl
      · repeat (first | ((first | (apply Lq.s; rfl) | apply PRun.s | (apply Lq.run; rfl; rfl; rfl; exact bsB) | (apply PRun.run; rfl; rfl; exact bsB)); first | (apply op_len (xs := more); rfl) | (exact bsO)) | apply J.seq | apply E.next | apply J.lq | apply Lq.nil | apply PRun.nil | apply J.block | apply E.in_normal | apply J.skip | (apply Lq.store; rfl; rfl; exact bsP; exact bsS; rfl; rfl) | (apply PRun.al; rfl) | (apply Lq.al; rfl; rfl; intro b) | (apply Open.cons; intro b) | apply Open.nil | (apply Lq.pass; rfl; rfl; rfl) | (apply PRun.pass; rfl; rfl) | (apply Lq.skip; rfl; rfl; rfl; exact bsB) | (apply PRun.skip; rfl; rfl; exact bsB) | (apply J.cond_t; rfl) | (apply J.cond_f; rfl) | apply J.exit | apply E.then_exit | apply E.in_exit | (apply E.in_other; rfl))
        refine J.drawW 28 [(none, none), (none, none), (none, none), (none, none), (none, none), (none, none), (none, none), (none, none), (none, none), (none, none), (none, none), (none, none), (none, none), (none, none), (none, none), (none, none), (none, none), (none, none), (none, none), (none, none), (none, none), (none, none), (none, none), (none, none), (none, none), (none, none), (none, none), (none, none)] mixed (by kernel_rfl) ?_
        repeat (first | ((first | apply PRunW.s | (apply PRunW.run; rfl; rfl; exact bsB) | (apply Lq.s; rfl) | apply PRun.s | (apply Lq.run; rfl; rfl; rfl; exact bsB) | (apply PRun.run; rfl; rfl; exact bsB)); first | (apply op_pnil; rfl; rfl) | (apply op_call does10_fn; exact bsD) | (exact bsO)) | apply J.seq | apply E.next | apply J.lq | apply Lq.nil | apply PRun.nil | apply J.block | apply E.in_normal | apply J.skip | (apply Lq.store; rfl; rfl; exact bsP; exact bsS; rfl; rfl) | (apply PRun.al; rfl) | (apply Lq.al; rfl; rfl; intro b) | (apply Open.cons; intro b) | apply Open.nil | (apply Lq.pass; rfl; rfl; rfl) | (apply PRun.pass; rfl; rfl) | (apply Lq.skip; rfl; rfl; rfl; exact bsB) | (apply PRun.skip; rfl; rfl; exact bsB) | (apply J.cond_t; rfl) | (apply J.cond_f; rfl) | apply J.exit | apply E.then_exit | apply E.in_exit | (apply E.in_other; rfl) | apply PRunW.nil | (apply PRunW.al; rfl) | (apply PRunW.pass; rfl; rfl) | (apply PRunW.skip; rfl; rfl; exact bsB) | (apply Open.pv; intro b) | apply Open.av | (apply Open.rv; intro A c))
        repeat (first | ((first | (apply Lq.s; rfl) | apply PRun.s | (apply Lq.run; rfl; rfl; rfl; exact bsB) | (apply PRun.run; rfl; rfl; exact bsB)); first | (exact bsO)) | apply J.seq | apply E.next | apply J.lq | apply Lq.nil | apply PRun.nil | apply J.block | apply E.in_normal | apply J.skip | (apply Lq.store; rfl; rfl; exact bsP; exact bsS; rfl; rfl) | (apply PRun.al; rfl) | (apply Lq.al; rfl; rfl; intro b) | (apply Open.cons; intro b) | apply Open.nil | (apply Lq.pass; rfl; rfl; rfl) | (apply PRun.pass; rfl; rfl) | (apply Lq.skip; rfl; rfl; rfl; exact bsB) | (apply PRun.skip; rfl; rfl; exact bsB) | (apply J.cond_t; rfl) | (apply J.cond_f; rfl) | apply J.exit | apply E.then_exit | apply E.in_exit | (apply E.in_other; rfl))
        (refine J.ret ?_; (repeat (first | refine E.then_ret ?_ | refine E.in_ret ?_)))
        exact E.ret1 rfl rfl
  · obtain ⟨m, rfl⟩ : ∃ m : Nat, n = m := ⟨n.toNat, by omega⟩
    rw [Int.toNat_natCast] at hbad
    have hpm : l.length = pop m := by omega
    repeat (first | ((first | (apply Lq.s; rfl) | apply PRun.s | (apply Lq.run; rfl; rfl; rfl; exact bsB) | (apply PRun.run; rfl; rfl; exact bsB)); first | (exact bsO)) | apply J.seq | apply E.next | apply J.lq | apply Lq.nil | apply PRun.nil | apply J.block | apply E.in_normal | apply J.skip | (apply Lq.store; rfl; rfl; exact bsP; exact bsS; rfl; rfl) | (apply PRun.al; rfl) | (apply Lq.al; rfl; rfl; intro b) | (apply Open.cons; intro b) | apply Open.nil | (apply Lq.pass; rfl; rfl; rfl) | (apply PRun.pass; rfl; rfl) | (apply Lq.skip; rfl; rfl; rfl; exact bsB) | (apply PRun.skip; rfl; rfl; exact bsB) | (apply J.cond_t; rfl) | (apply J.cond_f; rfl) | apply J.exit | apply E.then_exit | apply E.in_exit | (apply E.in_other; rfl))
    refine Lq.callS (Δ0 := [_]) (Δf := []) (fload_fnR m l (by omega) (by omega) hpm A5 c5 23) rfl bsD (List.Perm.refl _) ?_
    rintro _ _ ⟨fb, A6, c6, rfl, rfl⟩
    rw [List.append_nil]
    repeat (first | ((first | (apply Lq.s; rfl) | apply PRun.s | (apply Lq.run; rfl; rfl; rfl; exact bsB) | (apply PRun.run; rfl; rfl; exact bsB)); first | (exact bsO)) | apply J.seq | apply E.next | apply J.lq | apply Lq.nil | apply PRun.nil | apply J.block | apply E.in_normal | apply J.skip | (apply Lq.store; rfl; rfl; exact bsP; exact bsS; rfl; rfl) | (apply PRun.al; rfl) | (apply Lq.al; rfl; rfl; intro b) | (apply Open.cons; intro b) | apply Open.nil | (apply Lq.pass; rfl; rfl; rfl) | (apply PRun.pass; rfl; rfl) | (apply Lq.skip; rfl; rfl; rfl; exact bsB) | (apply PRun.skip; rfl; rfl; exact bsB) | (apply J.cond_t; rfl) | (apply J.cond_f; rfl) | apply J.exit | apply E.then_exit | apply E.in_exit | (apply E.in_other; rfl))
    refine Lq.callS (Δ0 := []) (Δf := _) (rload_fnR m l (by omega) (by omega) hpm) rfl bsD (List.Perm.refl _) ?_
    rintro _ _ ⟨rb, B1, d1, B2, d2, rfl, rfl⟩
    refine Lq.sub (Δ' := row (.slice A5 l.length c5) 23 hashT.toTy l :: (frL fb l m A6 c6 ++ rfL rb (szs m) l B1 d1 B2 d2)) (D := []) (by
      rw [List.append_nil]
      exact List.perm_append_comm.trans (List.perm_middle (l₁ := [_, _]))) ?_
    have hV0 : star (frV fb l m) (rfV rb m l) (frL fb l m A6 c6 ++ rfL rb (szs m) l B1 d1 B2 d2) := star_mk (frV_mk A6 c6) (rfV_mk B1 d1 B2 d2)
    generalize frL fb l m A6 c6 ++ rfL rb (szs m) l B1 d1 B2 d2 = D0 at hV0 ⊢
    repeat (first | ((first | (apply Lq.s; rfl) | apply PRun.s | (apply Lq.run; rfl; rfl; rfl; exact bsB) | (apply PRun.run; rfl; rfl; exact bsB)); first | (apply op_peq; rfl; rfl) | (exact bsO)) | apply J.seq | apply E.next | apply J.lq | apply Lq.nil | apply PRun.nil | apply J.block | apply E.in_normal | apply J.skip | (apply Lq.store; rfl; rfl; exact bsP; exact bsS; rfl; rfl) | (apply PRun.al; rfl) | (apply Lq.al; rfl; rfl; intro b) | (apply Open.cons; intro b) | apply Open.nil | (apply Lq.pass; rfl; rfl; rfl) | (apply PRun.pass; rfl; rfl) | (apply Lq.skip; rfl; rfl; rfl; exact bsB) | (apply PRun.skip; rfl; rfl; exact bsB) | (apply J.cond_t; rfl) | (apply J.cond_f; rfl) | apply J.exit | apply E.then_exit | apply E.in_exit | (apply E.in_other; rfl))
    refine J.loop (fun p : Nat × List Hash => p.1 ≤ l.length ∧ p.2.length = l.length) (fun p => [(2, sl hashT.toTy more), (8, is (.pointer (some ⟨fb, 0, none⟩))), (10, is (.pointer (some ⟨rb, 0, none⟩))), (7, is (.slice A5 l.length c5)), (12, is (.int .i64 (p.1 : Int)))]) (fun p => row (.slice A5 p.2.length c5) 23 hashT.toTy p.2 :: D0) (fun p => l.length - p.1) (0, l) ⟨Nat.zero_le _, rfl⟩ (Sub.same (by repeat' (first | exact trivial | refine ⟨rfl, ?_⟩))) ?_
    rintro ⟨i, zs⟩ ⟨hi, hz⟩
    dsimp only at hi hz ⊢
    by_cases hlt : i < l.length
    · refine J.open (List.Perm.refl _) (by intro h; rw [h] at hz; simp at hz; omega) ?_
      intro tb to tcap pre post hR
      obtain ⟨hv, hpre, hle, hcap, hroom, _⟩ := hR
      injection hv with hA _ hc
      subst hA; subst hc
      repeat (first | ((first | (apply Lq.s; rfl) | apply PRun.s | (apply Lq.run; rfl; rfl; rfl; exact bsB) | (apply PRun.run; rfl; rfl; exact bsB)); first | (apply op_slen; rfl) | (exact bsO)) | apply J.seq | apply E.next | apply J.lq | apply Lq.nil | apply PRun.nil | apply J.block | apply E.in_normal | apply J.skip | (apply Lq.store; rfl; rfl; exact bsP; exact bsS; rfl; rfl) | (apply PRun.al; rfl) | (apply Lq.al; rfl; rfl; intro b) | (apply Open.cons; intro b) | apply Open.nil | (apply Lq.pass; rfl; rfl; rfl) | (apply PRun.pass; rfl; rfl) | (apply Lq.skip; rfl; rfl; rfl; exact bsB) | (apply PRun.skip; rfl; rfl; exact bsB) | (apply J.cond_t; rfl) | (apply J.cond_f; rfl) | apply J.exit | apply E.then_exit | apply E.in_exit | (apply E.in_other; rfl))
      (apply Lq.s; rfl; (apply op_siaddr; rfl; rfl; omega; omega))
      refine Lq.storeE (φs' := pre ++ flat hashT.toTy (zs.set i zeroH) ++ post) rfl rfl (List.Perm.refl _) Seg.agg rfl ?_ ?_ ?_
      · have := row_room hashT.toTy (pre := pre) (post := post) (xs := zs) (o := to) (k := i) hpre (by omega)
        rw [Int.toNat_natCast]
        exact this
      · rw [Int.toNat_natCast]
        show splice (pre ++ flat hashT.toTy zs ++ post) (to + i * hashT.sz) (hashT.cells zeroH) = _
        exact set_row (xs := zs) (v := zeroH) hashT.toTy hpre (by omega)
      repeat (first | ((first | (apply Lq.s; rfl) | apply PRun.s | (apply Lq.run; rfl; rfl; rfl; exact bsB) | (apply PRun.run; rfl; rfl; exact bsB)); first | (apply op_add (c := ((i + 1 : Nat) : Int)); rfl; rfl; (rw [show (i : Int) + 1 = ((i + 1 : Nat) : Int) by omega]; apply wrapi <;> omega)) | (exact bsO)) | apply J.seq | apply E.next | apply J.lq | apply Lq.nil | apply PRun.nil | apply J.block | apply E.in_normal | apply J.skip | (apply Lq.store; rfl; rfl; exact bsP; exact bsS; rfl; rfl) | (apply PRun.al; rfl) | (apply Lq.al; rfl; rfl; intro b) | (apply Open.cons; intro b) | apply Open.nil | (apply Lq.pass; rfl; rfl; rfl) | (apply PRun.pass; rfl; rfl) | (apply Lq.skip; rfl; rfl; rfl; exact bsB) | (apply PRun.skip; rfl; rfl; exact bsB) | (apply J.cond_t; rfl) | (apply J.cond_f; rfl) | apply J.exit | apply E.then_exit | apply E.in_exit | (apply E.in_other; rfl))
      refine E.close hashT.toTy (zs.set i zeroH) (b := tb) (o := to) (cap := c5) (List.Perm.refl _) ?_ (by rw [List.length_set]; exact hle) hcap (take_rowT hashT.toTy hpre) ?_
      · simp only [List.length_append, flat_len, List.length_set] at hroom ⊢
        exact hroom
      exact E.again (i + 1, zs.set i zeroH) (by dsimp only; omega) ⟨by dsimp only; omega, by dsimp only; rw [List.length_set]; exact hz⟩ (Sub.same (by repeat' (first | exact trivial | refine ⟨rfl, ?_⟩)))
    obtain rfl : i = l.length := by omega
    repeat (first | ((first | (apply Lq.s; rfl) | apply PRun.s | (apply Lq.run; rfl; rfl; rfl; exact bsB) | (apply PRun.run; rfl; rfl; exact bsB)); first | (apply op_slen; rfl) | (exact bsO)) | apply J.seq | apply E.next | apply J.lq | apply Lq.nil | apply PRun.nil | apply J.block | apply E.in_normal | apply J.skip | (apply Lq.store; rfl; rfl; exact bsP; exact bsS; rfl; rfl) | (apply PRun.al; rfl) | (apply Lq.al; rfl; rfl; intro b) | (apply Open.cons; intro b) | apply Open.nil | (apply Lq.pass; rfl; rfl; rfl) | (apply PRun.pass; rfl; rfl) | (apply Lq.skip; rfl; rfl; rfl; exact bsB) | (apply PRun.skip; rfl; rfl; exact bsB) | (apply J.cond_t; rfl) | (apply J.cond_f; rfl) | apply J.exit | apply E.then_exit | apply E.in_exit | (apply E.in_other; rfl))
    clear hz hlt hi hbad
    have hm63 : m ≤ 9223372036854775807 := by omega
    clear hn0
    refine J.loop (fun p : Nat × Nat × List Hash × List Res => p.1 ≤ more.length ∧ p.2.1 ≤ 9223372036854775807 ∧ p.2.2.1.length = pop p.2.1 ∧ star (frV fb p.2.2.1 p.2.1) (rfV rb p.2.1 p.2.2.1) p.2.2.2)
      (fun p => [(2, sl hashT.toTy more), (8, is (.pointer (some ⟨fb, 0, none⟩))), (10, is (.pointer (some ⟨rb, 0, none⟩))), (13, is (.int .i64 (p.1 : Int)))]) (fun p => p.2.2.2) (fun p => more.length - p.1) (0, m, l, D0) ⟨Nat.zero_le _, hm63, hpm, hV0⟩ ⟨(by repeat' (first | exact trivial | refine ⟨rfl, ?_⟩)), [_], List.perm_append_comm (l₁ := [_])⟩ ?_
    rintro ⟨i, k, hs, D⟩ ⟨hi, hk, hlen, hV⟩
    dsimp only at hi hk hlen hV ⊢
    have hp63 := pop_lt k hk
    by_cases hlt : i < more.length
    · obtain ⟨x, hx⟩ : ∃ x, more[i]? = some x := ⟨_, List.getElem?_eq_getElem hlt⟩
      repeat (first | ((first | (apply Lq.s; rfl) | apply PRun.s | (apply Lq.run; rfl; rfl; rfl; exact bsB) | (apply PRun.run; rfl; rfl; exact bsB)); first | (apply op_len (xs := more); rfl) | (apply op_pne; rfl; rfl) | (exact bsO)) | apply J.seq | apply E.next | apply J.lq | apply Lq.nil | apply PRun.nil | apply J.block | apply E.in_normal | apply J.skip | (apply Lq.store; rfl; rfl; exact bsP; exact bsS; rfl; rfl) | (apply PRun.al; rfl) | (apply Lq.al; rfl; rfl; intro b) | (apply Open.cons; intro b) | apply Open.nil | (apply Lq.pass; rfl; rfl; rfl) | (apply PRun.pass; rfl; rfl) | (apply Lq.skip; rfl; rfl; rfl; exact bsB) | (apply PRun.skip; rfl; rfl; exact bsB) | (apply J.cond_t; rfl) | (apply J.cond_f; rfl) | apply J.exit | apply E.then_exit | apply E.in_exit | (apply E.in_other; rfl))
      obtain ⟨k', hs', er, P1, P2, hk', hlen'⟩ : ∃ k' hs' er, FnV Tryd.prog 25 [is (.pointer (some ⟨fb, 0, none⟩)), hashT.val x] (frV fb hs k) (is (.int .i64 er)) (frV fb hs' k') ∧ FnV Tryd.prog 26 [is (.pointer (some ⟨rb, 0, none⟩)), hashT.val x] (rfV rb k hs) (is (.int .i64 er)) (rfV rb k' hs') ∧ k' ≤ 9223372036854775807 ∧ hs'.length = pop k' := by
        by_cases hmax : k = 9223372036854775807
        · subst hmax
          exact ⟨_, _, 3, fappendMaxV fb hs x, rappendMaxV rb hs x, Nat.le_refl _, hlen⟩
        · exact ⟨_, _, 0, fappendV fb k hs x (by omega) hlen (by omega), rappendV rb k hs x (by omega) hlen (by omega), by omega, joins_len k k _ (Nat.le_refl _) (by rw [List.length_append, hlen]; rfl)⟩
      have hp63' := pop_lt k' hk'
      have N1 := flenV fb k' hs'
      have N2 := rlenV rb k' hs' hk'
      have R1 := frootV fb k' hs' (by omega)
      have R2 := rrootV rb k' hs' (by omega)
      generalize rootE hs' = rt at *
      refine J.drawV 27 [false, false, false, false, false, true, false, false, false, false, false, true, false, false, false, true, false, true, false, false, false, false, true, false, true, false, false] _ hV mixed (by kernel_rfl) ?_
      repeat (first | ((first | apply PRunV.s | (apply PRunV.run; rfl; rfl; exact bsB) | (apply Lq.s; rfl) | apply PRun.s | (apply Lq.run; rfl; rfl; rfl; exact bsB) | (apply PRun.run; rfl; rfl; exact bsB)); first | (apply op_iaddr hashT.toTy (x := x); rfl; rfl; exact Int.natCast_nonneg _; (rw [Int.toNat_natCast]; exact hx)) | (apply op_load hashT; rfl) | (exact bsO)) | apply J.seq | apply E.next | apply J.lq | apply Lq.nil | apply PRun.nil | apply J.block | apply E.in_normal | apply J.skip | (apply Lq.store; rfl; rfl; exact bsP; exact bsS; rfl; rfl) | (apply PRun.al; rfl) | (apply Lq.al; rfl; rfl; intro b) | (apply Open.cons; intro b) | apply Open.nil | (apply Lq.pass; rfl; rfl; rfl) | (apply PRun.pass; rfl; rfl) | (apply Lq.skip; rfl; rfl; rfl; exact bsB) | (apply PRun.skip; rfl; rfl; exact bsB) | (apply J.cond_t; rfl) | (apply J.cond_f; rfl) | apply J.exit | apply E.then_exit | apply E.in_exit | (apply E.in_other; rfl) | (apply PRunV.pass; rfl; rfl) | (apply PRunV.skip; rfl; rfl; exact bsB))
      refine PRunV.e (opV_call P1 bsD) ?_
      repeat (first | ((first | apply PRunV.s | (apply PRunV.run; rfl; rfl; exact bsB) | (apply Lq.s; rfl) | apply PRun.s | (apply Lq.run; rfl; rfl; rfl; exact bsB) | (apply PRun.run; rfl; rfl; exact bsB)); first | (apply op_iaddr hashT.toTy (x := x); rfl; rfl; exact Int.natCast_nonneg _; (rw [Int.toNat_natCast]; exact hx)) | (apply op_load hashT; rfl) | (exact bsO)) | apply J.seq | apply E.next | apply J.lq | apply Lq.nil | apply PRun.nil | apply J.block | apply E.in_normal | apply J.skip | (apply Lq.store; rfl; rfl; exact bsP; exact bsS; rfl; rfl) | (apply PRun.al; rfl) | (apply Lq.al; rfl; rfl; intro b) | (apply Open.cons; intro b) | apply Open.nil | (apply Lq.pass; rfl; rfl; rfl) | (apply PRun.pass; rfl; rfl) | (apply Lq.skip; rfl; rfl; rfl; exact bsB) | (apply PRun.skip; rfl; rfl; exact bsB) | (apply J.cond_t; rfl) | (apply J.cond_f; rfl) | apply J.exit | apply E.then_exit | apply E.in_exit | (apply E.in_other; rfl) | (apply PRunV.pass; rfl; rfl) | (apply PRunV.skip; rfl; rfl; exact bsB))
      refine PRunV.e (opV_call2 P2 bsD) ?_
      repeat (first | ((first | apply PRunV.s | (apply PRunV.run; rfl; rfl; exact bsB) | (apply Lq.s; rfl) | apply PRun.s | (apply Lq.run; rfl; rfl; rfl; exact bsB) | (apply PRun.run; rfl; rfl; exact bsB)); first | (exact bsO)) | apply J.seq | apply E.next | apply J.lq | apply Lq.nil | apply PRun.nil | apply J.block | apply E.in_normal | apply J.skip | (apply Lq.store; rfl; rfl; exact bsP; exact bsS; rfl; rfl) | (apply PRun.al; rfl) | (apply Lq.al; rfl; rfl; intro b) | (apply Open.cons; intro b) | apply Open.nil | (apply Lq.pass; rfl; rfl; rfl) | (apply PRun.pass; rfl; rfl) | (apply Lq.skip; rfl; rfl; rfl; exact bsB) | (apply PRun.skip; rfl; rfl; exact bsB) | (apply J.cond_t; rfl) | (apply J.cond_f; rfl) | apply J.exit | apply E.then_exit | apply E.in_exit | (apply E.in_other; rfl) | (apply PRunV.pass; rfl; rfl) | (apply PRunV.skip; rfl; rfl; exact bsB))
      refine PRunV.er rfl rfl rfl (opV_call N1 bsD) ?_
      repeat (first | ((first | apply PRunV.s | (apply PRunV.run; rfl; rfl; exact bsB) | (apply Lq.s; rfl) | apply PRun.s | (apply Lq.run; rfl; rfl; rfl; exact bsB) | (apply PRun.run; rfl; rfl; exact bsB)); first | (exact bsO)) | apply J.seq | apply E.next | apply J.lq | apply Lq.nil | apply PRun.nil | apply J.block | apply E.in_normal | apply J.skip | (apply Lq.store; rfl; rfl; exact bsP; exact bsS; rfl; rfl) | (apply PRun.al; rfl) | (apply Lq.al; rfl; rfl; intro b) | (apply Open.cons; intro b) | apply Open.nil | (apply Lq.pass; rfl; rfl; rfl) | (apply PRun.pass; rfl; rfl) | (apply Lq.skip; rfl; rfl; rfl; exact bsB) | (apply PRun.skip; rfl; rfl; exact bsB) | (apply J.cond_t; rfl) | (apply J.cond_f; rfl) | apply J.exit | apply E.then_exit | apply E.in_exit | (apply E.in_other; rfl) | (apply PRunV.pass; rfl; rfl) | (apply PRunV.skip; rfl; rfl; exact bsB))
      refine PRunV.er rfl rfl rfl (opV_call2 N2 bsD) ?_
      repeat (first | ((first | apply PRunV.s | (apply PRunV.run; rfl; rfl; exact bsB) | (apply Lq.s; rfl) | apply PRun.s | (apply Lq.run; rfl; rfl; rfl; exact bsB) | (apply PRun.run; rfl; rfl; exact bsB)); first | (exact bsO)) | apply J.seq | apply E.next | apply J.lq | apply Lq.nil | apply PRun.nil | apply J.block | apply E.in_normal | apply J.skip | (apply Lq.store; rfl; rfl; exact bsP; exact bsS; rfl; rfl) | (apply PRun.al; rfl) | (apply Lq.al; rfl; rfl; intro b) | (apply Open.cons; intro b) | apply Open.nil | (apply Lq.pass; rfl; rfl; rfl) | (apply PRun.pass; rfl; rfl) | (apply Lq.skip; rfl; rfl; rfl; exact bsB) | (apply PRun.skip; rfl; rfl; exact bsB) | (apply J.cond_t; rfl) | (apply J.cond_f; rfl) | apply J.exit | apply E.then_exit | apply E.in_exit | (apply E.in_other; rfl) | (apply PRunV.pass; rfl; rfl) | (apply PRunV.skip; rfl; rfl; exact bsB))
      refine PRunV.er rfl rfl rfl (opV_call R1 bsD) ?_
      repeat (first | ((first | apply PRunV.s | (apply PRunV.run; rfl; rfl; exact bsB) | (apply Lq.s; rfl) | apply PRun.s | (apply Lq.run; rfl; rfl; rfl; exact bsB) | (apply PRun.run; rfl; rfl; exact bsB)); first | (exact bsO)) | apply J.seq | apply E.next | apply J.lq | apply Lq.nil | apply PRun.nil | apply J.block | apply E.in_normal | apply J.skip | (apply Lq.store; rfl; rfl; exact bsP; exact bsS; rfl; rfl) | (apply PRun.al; rfl) | (apply Lq.al; rfl; rfl; intro b) | (apply Open.cons; intro b) | apply Open.nil | (apply Lq.pass; rfl; rfl; rfl) | (apply PRun.pass; rfl; rfl) | (apply Lq.skip; rfl; rfl; rfl; exact bsB) | (apply PRun.skip; rfl; rfl; exact bsB) | (apply J.cond_t; rfl) | (apply J.cond_f; rfl) | apply J.exit | apply E.then_exit | apply E.in_exit | (apply E.in_other; rfl) | (apply PRunV.pass; rfl; rfl) | (apply PRunV.skip; rfl; rfl; exact bsB))
      refine PRunV.er rfl rfl rfl (opV_call2 R2 bsD) ?_
      repeat (first | ((first | apply PRunV.s | (apply PRunV.run; rfl; rfl; exact bsB) | (apply Lq.s; rfl) | apply PRun.s | (apply Lq.run; rfl; rfl; rfl; exact bsB) | (apply PRun.run; rfl; rfl; exact bsB)); first | (apply op_neA_f (T := hashT) (m := 2) (eqd_arr eqd_u8) rfl rfl; rfl; rfl; rfl) | (exact bsO)) | apply J.seq | apply E.next | apply J.lq | apply Lq.nil | apply PRun.nil | apply J.block | apply E.in_normal | apply J.skip | (apply Lq.store; rfl; rfl; exact bsP; exact bsS; rfl; rfl) | (apply PRun.al; rfl) | (apply Lq.al; rfl; rfl; intro b) | (apply Open.cons; intro b) | apply Open.nil | (apply Lq.pass; rfl; rfl; rfl) | (apply PRun.pass; rfl; rfl) | (apply Lq.skip; rfl; rfl; rfl; exact bsB) | (apply PRun.skip; rfl; rfl; exact bsB) | (apply J.cond_t; rfl) | (apply J.cond_f; rfl) | apply J.exit | apply E.then_exit | apply E.in_exit | (apply E.in_other; rfl) | (apply PRunV.pass; rfl; rfl) | (apply PRunV.skip; rfl; rfl; exact bsB))
      refine PRunV.nil ?_
      intro D2 hV2
      repeat (first | ((first | (apply Lq.s; rfl) | apply PRun.s | (apply Lq.run; rfl; rfl; rfl; exact bsB) | (apply PRun.run; rfl; rfl; exact bsB)); first | (exact bsO)) | apply J.seq | apply E.next | apply J.lq | apply Lq.nil | apply PRun.nil | apply J.block | apply E.in_normal | apply J.skip | (apply Lq.store; rfl; rfl; exact bsP; exact bsS; rfl; rfl) | (apply PRun.al; rfl) | (apply Lq.al; rfl; rfl; intro b) | (apply Open.cons; intro b) | apply Open.nil | (apply Lq.pass; rfl; rfl; rfl) | (apply PRun.pass; rfl; rfl) | (apply Lq.skip; rfl; rfl; rfl; exact bsB) | (apply PRun.skip; rfl; rfl; exact bsB) | (apply J.cond_t; rfl) | (apply J.cond_f; rfl) | apply J.exit | apply E.then_exit | apply E.in_exit | (apply E.in_other; rfl))
      obtain ⟨D3, D4, hf3, hr3, hperm⟩ := star_out hV2
      obtain ⟨A7, c7, rfl⟩ := frV_out hf3
      obtain ⟨B3, d3, B4, d4, rfl⟩ := rfV_out hr3
      refine Lq.callS (Δ0 := frL fb hs' k' A7 c7) (Δf := rfL rb (szs k') hs' B3 d3 B4 d4) (fhashes_fnR fb k' hs' A7 c7 (by omega)) rfl bsD hperm ?_
      rintro _ _ ⟨A8, c8, rfl, rfl⟩
      repeat (first | ((first | (apply Lq.s; rfl) | apply PRun.s | (apply Lq.run; rfl; rfl; rfl; exact bsB) | (apply PRun.run; rfl; rfl; exact bsB)); first | (exact bsO)) | apply J.seq | apply E.next | apply J.lq | apply Lq.nil | apply PRun.nil | apply J.block | apply E.in_normal | apply J.skip | (apply Lq.store; rfl; rfl; exact bsP; exact bsS; rfl; rfl) | (apply PRun.al; rfl) | (apply Lq.al; rfl; rfl; intro b) | (apply Open.cons; intro b) | apply Open.nil | (apply Lq.pass; rfl; rfl; rfl) | (apply PRun.pass; rfl; rfl) | (apply Lq.skip; rfl; rfl; rfl; exact bsB) | (apply PRun.skip; rfl; rfl; exact bsB) | (apply J.cond_t; rfl) | (apply J.cond_f; rfl) | apply J.exit | apply E.then_exit | apply E.in_exit | (apply E.in_other; rfl))
      have hz0 : hs'.length ≤ 100 := by omega
      refine J.loop (fun p : Nat × List Hash => p.1 ≤ hs'.length ∧ p.2.length = hs'.length) (fun p => [(2, sl hashT.toTy more), (8, is (.pointer (some ⟨fb, 0, none⟩))), (10, is (.pointer (some ⟨rb, 0, none⟩))), (13, is (.int .i64 (i : Int))), (14, is (.slice A8 hs'.length c8)), (15, is (.int .i64 (p.1 : Int)))]) (fun p => row (.slice A8 p.2.length c8) 23 hashT.toTy p.2 :: (frL fb hs' k' A7 c7 ++ rfL rb (szs k') hs' B3 d3 B4 d4)) (fun p => hs'.length - p.1) (0, hs') ⟨Nat.zero_le _, rfl⟩ (Sub.same (by repeat' (first | exact trivial | refine ⟨rfl, ?_⟩))) ?_
      rintro ⟨j, zs⟩ ⟨hj, hz⟩
      dsimp only at hj hz ⊢
      by_cases hlt2 : j < hs'.length
      · refine J.open (List.Perm.refl _) (by intro h; rw [h] at hz; simp at hz; omega) ?_
        intro tb to tcap pre post hR
        obtain ⟨hv, hpre, hle, hcap, hroom, _⟩ := hR
        injection hv with hA _ hc
        subst hA; subst hc
        repeat (first | ((first | (apply Lq.s; rfl) | apply PRun.s | (apply Lq.run; rfl; rfl; rfl; exact bsB) | (apply PRun.run; rfl; rfl; exact bsB)); first | (apply op_slen; rfl) | (exact bsO)) | apply J.seq | apply E.next | apply J.lq | apply Lq.nil | apply PRun.nil | apply J.block | apply E.in_normal | apply J.skip | (apply Lq.store; rfl; rfl; exact bsP; exact bsS; rfl; rfl) | (apply PRun.al; rfl) | (apply Lq.al; rfl; rfl; intro b) | (apply Open.cons; intro b) | apply Open.nil | (apply Lq.pass; rfl; rfl; rfl) | (apply PRun.pass; rfl; rfl) | (apply Lq.skip; rfl; rfl; rfl; exact bsB) | (apply PRun.skip; rfl; rfl; exact bsB) | (apply J.cond_t; rfl) | (apply J.cond_f; rfl) | apply J.exit | apply E.then_exit | apply E.in_exit | (apply E.in_other; rfl))
        (apply Lq.s; rfl; (apply op_siaddr; rfl; rfl; omega; omega))
        refine Lq.storeE (φs' := pre ++ flat hashT.toTy (zs.set j zeroH) ++ post) rfl rfl (List.Perm.refl _) Seg.agg rfl ?_ ?_ ?_
        · have := row_room hashT.toTy (pre := pre) (post := post) (xs := zs) (o := to) (k := j) hpre (by omega)
          rw [Int.toNat_natCast]
          exact this
        · rw [Int.toNat_natCast]
          show splice (pre ++ flat hashT.toTy zs ++ post) (to + j * hashT.sz) (hashT.cells zeroH) = _
          exact set_row (xs := zs) (v := zeroH) hashT.toTy hpre (by omega)
        repeat (first | ((first | (apply Lq.s; rfl) | apply PRun.s | (apply Lq.run; rfl; rfl; rfl; exact bsB) | (apply PRun.run; rfl; rfl; exact bsB)); first | (apply op_add (c := ((j + 1 : Nat) : Int)); rfl; rfl; (rw [show (j : Int) + 1 = ((j + 1 : Nat) : Int) by omega]; apply wrapi <;> omega)) | (exact bsO)) | apply J.seq | apply E.next | apply J.lq | apply Lq.nil | apply PRun.nil | apply J.block | apply E.in_normal | apply J.skip | (apply Lq.store; rfl; rfl; exact bsP; exact bsS; rfl; rfl) | (apply PRun.al; rfl) | (apply Lq.al; rfl; rfl; intro b) | (apply Open.cons; intro b) | apply Open.nil | (apply Lq.pass; rfl; rfl; rfl) | (apply PRun.pass; rfl; rfl) | (apply Lq.skip; rfl; rfl; rfl; exact bsB) | (apply PRun.skip; rfl; rfl; exact bsB) | (apply J.cond_t; rfl) | (apply J.cond_f; rfl) | apply J.exit | apply E.then_exit | apply E.in_exit | (apply E.in_other; rfl))
        refine E.close hashT.toTy (zs.set j zeroH) (b := tb) (o := to) (cap := c8) (List.Perm.refl _) ?_ (by rw [List.length_set]; exact hle) hcap (take_rowT hashT.toTy hpre) ?_
        · simp only [List.length_append, flat_len, List.length_set] at hroom ⊢
          exact hroom
        exact E.again (j + 1, zs.set j zeroH) (by dsimp only; omega) ⟨by dsimp only; omega, by dsimp only; rw [List.length_set]; exact hz⟩ (Sub.same (by repeat' (first | exact trivial | refine ⟨rfl, ?_⟩)))
      obtain rfl : j = hs'.length := by omega
      repeat (first | ((first | (apply Lq.s; rfl) | apply PRun.s | (apply Lq.run; rfl; rfl; rfl; exact bsB) | (apply PRun.run; rfl; rfl; exact bsB)); first | (apply op_slen; rfl) | (exact bsO)) | apply J.seq | apply E.next | apply J.lq | apply Lq.nil | apply PRun.nil | apply J.block | apply E.in_normal | apply J.skip | (apply Lq.store; rfl; rfl; exact bsP; exact bsS; rfl; rfl) | (apply PRun.al; rfl) | (apply Lq.al; rfl; rfl; intro b) | (apply Open.cons; intro b) | apply Open.nil | (apply Lq.pass; rfl; rfl; rfl) | (apply PRun.pass; rfl; rfl) | (apply Lq.skip; rfl; rfl; rfl; exact bsB) | (apply PRun.skip; rfl; rfl; exact bsB) | (apply J.cond_t; rfl) | (apply J.cond_f; rfl) | apply J.exit | apply E.then_exit | apply E.in_exit | (apply E.in_other; rfl))
      refine J.sub (Γ' := [(2, sl hashT.toTy more), (8, is (.pointer (some ⟨fb, 0, none⟩))), (10, is (.pointer (some ⟨rb, 0, none⟩))), (13, is (.int .i64 (i : Int)))]) (Δ' := frL fb hs' k' A7 c7 ++ rfL rb (szs k') hs' B3 d3 B4 d4) ⟨(by repeat' (first | exact trivial | refine ⟨rfl, ?_⟩)), [_], List.perm_append_comm (l₁ := [_])⟩ ?_
      unfold frL rfL
      refine J.drawW 6 [(none, none), (none, some 109), (none, none), (none, none), (none, none), (none, none)] mixed (by kernel_rfl) ?_
      refine PRunW.s (op_move rfl) ?_
      refine PRunW.mk (R := fun v => row v 23 hashT.toTy hs') (φ := anySl hs'.length) anySl_row (opR_lendG plain_hash (hhashes_fnR hs' (k' : Int) (by omega)) bsD (lend_f (fb := fb) (A := A7) (c := c7) (n := k') (hs := hs') List.mem_cons_self (List.mem_cons_of_mem _ List.mem_cons_self))) ?_
      repeat (first | ((first | apply PRunW.s | (apply PRunW.run; rfl; rfl; exact bsB) | (apply Lq.s; rfl) | apply PRun.s | (apply Lq.run; rfl; rfl; rfl; exact bsB) | (apply PRun.run; rfl; rfl; exact bsB)); first | (apply op_ocell; rfl; exact bsM; rfl) | (exact bsO)) | apply J.seq | apply E.next | apply J.lq | apply Lq.nil | apply PRun.nil | apply J.block | apply E.in_normal | apply J.skip | (apply Lq.store; rfl; rfl; exact bsP; exact bsS; rfl; rfl) | (apply PRun.al; rfl) | (apply Lq.al; rfl; rfl; intro b) | (apply Open.cons; intro b) | apply Open.nil | (apply Lq.pass; rfl; rfl; rfl) | (apply PRun.pass; rfl; rfl) | (apply Lq.skip; rfl; rfl; rfl; exact bsB) | (apply PRun.skip; rfl; rfl; exact bsB) | (apply J.cond_t; rfl) | (apply J.cond_f; rfl) | apply J.exit | apply E.then_exit | apply E.in_exit | (apply E.in_other; rfl) | apply PRunW.nil | (apply PRunW.al; rfl) | (apply PRunW.pass; rfl; rfl) | (apply PRunW.skip; rfl; rfl; exact bsB) | (apply Open.pv; intro b) | apply Open.av | (apply Open.rv; intro A c))
      refine Lq.freeze 109 rfl (List.Perm.refl _) ?_
      refine Lq.v (V := fun D => D = frL fb hs' k' A7 c7 ++ rfL rb (szs k') hs' B3 d3 B4 d4) rfl rfl (opV_look (φs := [sl hashT.toTy hs', is (.slice B4 hs'.length d4)]) (same_fn hs' (by omega)) (flat_isV _) bsD (fun Δ hV H w hs0 hr hnd => by
        subst hV
        obtain ⟨H2, k1, k2, k3, k4⟩ := row_freeze (v := .slice B4 hs'.length d4) hs0 (hr _ (List.mem_append_right _ (List.mem_cons_of_mem _ (List.mem_cons_of_mem _ List.mem_cons_self))))
        refine ⟨H2, k1, k2, fun vs hvs => ?_⟩
        match vs, hvs with
        | [u, v], ⟨h1, h2, _⟩ =>
          have h2 : v = .slice B4 hs'.length d4 := is_out h2
          subst h2
          exact ⟨(sl hashT.toTy hs').mono k1 h1, k3, trivial⟩)) ?_
      rintro _ rfl
      repeat (first | ((first | (apply Lq.s; rfl) | apply PRun.s | (apply Lq.run; rfl; rfl; rfl; exact bsB) | (apply PRun.run; rfl; rfl; exact bsB)); first | (apply op_add (c := ((i + 1 : Nat) : Int)); rfl; rfl; (rw [show (i : Int) + 1 = ((i + 1 : Nat) : Int) by omega]; apply wrapi <;> omega)) | (exact bsO)) | apply J.seq | apply E.next | apply J.lq | apply Lq.nil | apply PRun.nil | apply J.block | apply E.in_normal | apply J.skip | (apply Lq.store; rfl; rfl; exact bsP; exact bsS; rfl; rfl) | (apply PRun.al; rfl) | (apply Lq.al; rfl; rfl; intro b) | (apply Open.cons; intro b) | apply Open.nil | (apply Lq.pass; rfl; rfl; rfl) | (apply PRun.pass; rfl; rfl) | (apply Lq.skip; rfl; rfl; rfl; exact bsB) | (apply PRun.skip; rfl; rfl; exact bsB) | (apply J.cond_t; rfl) | (apply J.cond_f; rfl) | apply J.exit | apply E.then_exit | apply E.in_exit | (apply E.in_other; rfl))
      exact E.again (i + 1, k', hs', frL fb hs' k' A7 c7 ++ rfL rb (szs k') hs' B3 d3 B4 d4) (by dsimp only; omega) ⟨by dsimp only; omega, hk', hlen', star_mk (frV_mk A7 c7) (rfV_mk B3 d3 B4 d4)⟩ (Sub.same (by repeat' (first | exact trivial | refine ⟨rfl, ?_⟩)))
    obtain rfl : i = more.length := by omega
    obtain ⟨D3, D4, hf4, hr4, hperm⟩ := star_out hV
    obtain ⟨B3, d3, B4, d4, rfl⟩ := rfV_out hr4
    repeat (first | ((first | (apply Lq.s; rfl) | apply PRun.s | (apply Lq.run; rfl; rfl; rfl; exact bsB) | (apply PRun.run; rfl; rfl; exact bsB)); first | (apply op_len (xs := more); rfl) | (exact bsO)) | apply J.seq | apply E.next | apply J.lq | apply Lq.nil | apply PRun.nil | apply J.block | apply E.in_normal | apply J.skip | (apply Lq.store; rfl; rfl; exact bsP; exact bsS; rfl; rfl) | (apply PRun.al; rfl) | (apply Lq.al; rfl; rfl; intro b) | (apply Open.cons; intro b) | apply Open.nil | (apply Lq.pass; rfl; rfl; rfl) | (apply PRun.pass; rfl; rfl) | (apply Lq.skip; rfl; rfl; rfl; exact bsB) | (apply PRun.skip; rfl; rfl; exact bsB) | (apply J.cond_t; rfl) | (apply J.cond_f; rfl) | apply J.exit | apply E.then_exit | apply E.in_exit | (apply E.in_other; rfl))
    refine J.frzR 10 rfl (hperm.trans List.perm_append_comm) ?_
    have R1 := frootV fb k hs (by omega)
    have R2 := rrootE_fn ⟨szs k, hs⟩ (show hs.length ≤ 90000 by omega)
    have N1 := flenV fb k hs
    have N2 := rlen_fn ⟨szs k, hs⟩ (show (szs k).length ≤ 100000 by rw [szs_len]; omega) (show (szs k).sum ≤ 9223372036854775807 by rw [szs_sum]; exact hk)
    have H1 := fhashesV fb k hs (by omega)
    have hs2 := same_fn hs (by omega)
    rw [show (RefF.mk (szs k) hs).sizes.sum = k from szs_sum k] at N2
    rw [show (RefF.mk (szs k) hs).hashes = hs from rfl] at R2
    generalize rootE hs = rt at *
    refine J.drawV 28 [false, false, false, false, true, false, false, false, false, false, true, false, false, false, false, false, false, true, false, false, false, false, false, false, false, false, false, false] _ (star_top hf4) mixed (by kernel_rfl) ?_
    repeat (first | ((first | apply PRunV.s | (apply PRunV.run; rfl; rfl; exact bsB) | (apply Lq.s; rfl) | apply PRun.s | (apply Lq.run; rfl; rfl; rfl; exact bsB) | (apply PRun.run; rfl; rfl; exact bsB)); first | (apply op_ptrEq; rfl; rfl) | (exact bsO)) | apply J.seq | apply E.next | apply J.lq | apply Lq.nil | apply PRun.nil | apply J.block | apply E.in_normal | apply J.skip | (apply Lq.store; rfl; rfl; exact bsP; exact bsS; rfl; rfl) | (apply PRun.al; rfl) | (apply Lq.al; rfl; rfl; intro b) | (apply Open.cons; intro b) | apply Open.nil | (apply Lq.pass; rfl; rfl; rfl) | (apply PRun.pass; rfl; rfl) | (apply Lq.skip; rfl; rfl; rfl; exact bsB) | (apply PRun.skip; rfl; rfl; exact bsB) | (apply J.cond_t; rfl) | (apply J.cond_f; rfl) | apply J.exit | apply E.then_exit | apply E.in_exit | (apply E.in_other; rfl) | (apply PRunV.pass; rfl; rfl) | (apply PRunV.skip; rfl; rfl; exact bsB))
    refine PRunV.er rfl rfl rfl (opV_call R1 bsD) ?_
    repeat (first | ((first | apply PRunV.s | (apply PRunV.run; rfl; rfl; exact bsB) | (apply Lq.s; rfl) | apply PRun.s | (apply Lq.run; rfl; rfl; rfl; exact bsB) | (apply PRun.run; rfl; rfl; exact bsB)); first | (apply op_call R2; exact bsD) | (apply op_eqA_t (T := hashT) (m := 2) (eqd_arr eqd_u8) rfl rfl; rfl; rfl; rfl) | (exact bsO)) | apply J.seq | apply E.next | apply J.lq | apply Lq.nil | apply PRun.nil | apply J.block | apply E.in_normal | apply J.skip | (apply Lq.store; rfl; rfl; exact bsP; exact bsS; rfl; rfl) | (apply PRun.al; rfl) | (apply Lq.al; rfl; rfl; intro b) | (apply Open.cons; intro b) | apply Open.nil | (apply Lq.pass; rfl; rfl; rfl) | (apply PRun.pass; rfl; rfl) | (apply Lq.skip; rfl; rfl; rfl; exact bsB) | (apply PRun.skip; rfl; rfl; exact bsB) | (apply J.cond_t; rfl) | (apply J.cond_f; rfl) | apply J.exit | apply E.then_exit | apply E.in_exit | (apply E.in_other; rfl) | (apply PRunV.pass; rfl; rfl) | (apply PRunV.skip; rfl; rfl; exact bsB))
    refine PRunV.er rfl rfl rfl (opV_call N1 bsD) ?_
    repeat (first | ((first | apply PRunV.s | (apply PRunV.run; rfl; rfl; exact bsB) | (apply Lq.s; rfl) | apply PRun.s | (apply Lq.run; rfl; rfl; rfl; exact bsB) | (apply PRun.run; rfl; rfl; exact bsB)); first | (apply op_call N2; exact bsD) | (exact bsO)) | apply J.seq | apply E.next | apply J.lq | apply Lq.nil | apply PRun.nil | apply J.block | apply E.in_normal | apply J.skip | (apply Lq.store; rfl; rfl; exact bsP; exact bsS; rfl; rfl) | (apply PRun.al; rfl) | (apply Lq.al; rfl; rfl; intro b) | (apply Open.cons; intro b) | apply Open.nil | (apply Lq.pass; rfl; rfl; rfl) | (apply PRun.pass; rfl; rfl) | (apply Lq.skip; rfl; rfl; rfl; exact bsB) | (apply PRun.skip; rfl; rfl; exact bsB) | (apply J.cond_t; rfl) | (apply J.cond_f; rfl) | apply J.exit | apply E.then_exit | apply E.in_exit | (apply E.in_other; rfl) | (apply PRunV.pass; rfl; rfl) | (apply PRunV.skip; rfl; rfl; exact bsB))
    refine PRunV.er rfl rfl rfl (opV_call H1 bsD) ?_
    repeat (first | ((first | apply PRunV.s | (apply PRunV.run; rfl; rfl; exact bsB) | (apply Lq.s; rfl) | apply PRun.s | (apply Lq.run; rfl; rfl; rfl; exact bsB) | (apply PRun.run; rfl; rfl; exact bsB)); first | (apply op_nilP; rfl) | (apply op_faddr ref_hashes (s := ⟨szs k, hs⟩); rfl; decide) | (apply op_load (slT hashT); rfl) | (apply op_call hs2; exact bsD) | (apply op_call does10_fn; exact bsD) | (exact bsO)) | apply J.seq | apply E.next | apply J.lq | apply Lq.nil | apply PRun.nil | apply J.block | apply E.in_normal | apply J.skip | (apply Lq.store; rfl; rfl; exact bsP; exact bsS; rfl; rfl) | (apply PRun.al; rfl) | (apply Lq.al; rfl; rfl; intro b) | (apply Open.cons; intro b) | apply Open.nil | (apply Lq.pass; rfl; rfl; rfl) | (apply PRun.pass; rfl; rfl) | (apply Lq.skip; rfl; rfl; rfl; exact bsB) | (apply PRun.skip; rfl; rfl; exact bsB) | (apply J.cond_t; rfl) | (apply J.cond_f; rfl) | apply J.exit | apply E.then_exit | apply E.in_exit | (apply E.in_other; rfl) | (apply PRunV.pass; rfl; rfl) | (apply PRunV.skip; rfl; rfl; exact bsB))
    refine PRunV.nil ?_
    intro D5 _
    repeat (first | ((first | (apply Lq.s; rfl) | apply PRun.s | (apply Lq.run; rfl; rfl; rfl; exact bsB) | (apply PRun.run; rfl; rfl; exact bsB)); first | (exact bsO)) | apply J.seq | apply E.next | apply J.lq | apply Lq.nil | apply PRun.nil | apply J.block | apply E.in_normal | apply J.skip | (apply Lq.store; rfl; rfl; exact bsP; exact bsS; rfl; rfl) | (apply PRun.al; rfl) | (apply Lq.al; rfl; rfl; intro b) | (apply Open.cons; intro b) | apply Open.nil | (apply Lq.pass; rfl; rfl; rfl) | (apply PRun.pass; rfl; rfl) | (apply Lq.skip; rfl; rfl; rfl; exact bsB) | (apply PRun.skip; rfl; rfl; exact bsB) | (apply J.cond_t; rfl) | (apply J.cond_f; rfl) | apply J.exit | apply E.then_exit | apply E.in_exit | (apply E.in_other; rfl))
    (refine J.ret ?_; (repeat (first | refine E.then_ret ?_ | refine E.in_ret ?_)))
    exact E.ret1 rfl rfl
end Go.Proofs.YtljdjagackdplaaDoor.L
