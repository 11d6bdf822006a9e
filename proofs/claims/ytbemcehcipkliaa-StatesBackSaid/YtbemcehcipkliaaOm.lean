/-
  A state with another stream at one place, walked: with.
-/
import Derived.Test.YtbemcehcipkliaaOk
namespace Go.Proofs.Ytbemcehcipkliaa.L
open Go
set_option linter.unusedSectionVars false
variable [Globs]
set_option linter.unusedVariables false
theorem xor1_nat : ∀ n < 256, IntKind.u8.wrap ((BitVec.ofInt 8 ((n : Nat) : Int) ^^^ BitVec.ofInt 8 1).toNat : Int) = ((n ^^^ 1 : Nat) : Int) ∧ n ^^^ 1 ≠ n := by decide +kernel
theorem xor1_is (a : UInt8) : IntKind.u8.wrap ((BitVec.ofInt 8 (a.toNat : Int) ^^^ BitVec.ofInt 8 1).toNat : Int) = ((a ^^^ 1).toNat : Int) := by
  rw [(xor1_nat a.toNat a.toNat_lt).1, UInt8.toNat_xor]; rfl
theorem xor1_ne (a : UInt8) : a ^^^ 1 ≠ a := fun h => (xor1_nat a.toNat a.toNat_lt).2 (by have := congrArg UInt8.toNat h; rwa [UInt8.toNat_xor] at this)
def setH (h : Hash) (j : Nat) (v : UInt8) : Hash := ⟨h.1.set j v, by rw [List.length_set]; exact h.2⟩
theorem setH_ne {h : Hash} {j : Nat} {u v : UInt8} (hu : h.1[j]? = some u) (hne : v ≠ u) : setH h j v ≠ h := fun e => by
  have h1 : (setH h j v).1[j]? = some v := by
    show (h.1.set j v)[j]? = some v
    rw [List.getElem?_set_self (List.getElem?_eq_some_iff.1 hu).1]
  rw [e, hu] at h1
  injection h1 with h1
  exact hne h1.symm
theorem at_u8 {h : Hash} {j : Nat} {u : UInt8} (hu : h.1[j]? = some u) : ((hashT.cells h).drop (0 + j * 1)).take 1 = u8T.cells u := by
  have := at_row u8T.toTy (pre := []) (post := []) (xs := h.1) (o := 0) (k := j) (v := u) rfl hu
  rw [List.append_nil] at this
  exact this
theorem st_u8 {h : Hash} {j : Nat} (hj : j < 32) (v : UInt8) : splice (hashT.cells h) (0 + j * 1) [is (.int .u8 (v.toNat : Int))] = hashT.cells (setH h j v) := by
  have := set_row u8T.toTy (pre := []) (post := []) (xs := h.1) (o := 0) (k := j) (v := v) rfl (by rw [h.2]; exact hj)
  rw [List.append_nil, List.append_nil] at this
  exact this
theorem all2_mid {α β : Type} {P : α → β → Prop} {a a' : α} {B : List α} (h : ∀ c, P a c → P a' c) : ∀ (A : List α) (cs : List β), All2 P (A ++ a :: B) cs → All2 P (A ++ a' :: B) cs
  | [], c :: cs, h2 => ⟨h c h2.1, h2.2⟩
  | x :: A, c :: cs, h2 => ⟨h2.1, all2_mid h A cs h2.2⟩
  | [], [], h2 => h2.elim
  | x :: A, [], h2 => h2.elim
/-- A row, given up inside an owned block. -/
theorem Lq.frzIn {α : Type} {C : Cx} {Γ : Env} {Δ Δ' : List Res} {Q : Exit → Act → World → Prop} {ops : Array Oper} {rest : List Oper} {T : Ty α} {xs : List α} {v v' : Value} {e e2 b j : Nat} {F : List Pr} (hp : Δ.Perm (row v e T xs :: own b e2 (splice F j [is v']) :: Δ')) (hv : v = v')
    (k : Lq C Γ (own b e2 (splice F j [sl T xs]) :: Δ') ops rest Q) : Lq C Γ Δ ops rest Q := fun H a w S => by
  subst hv
  obtain ⟨H', S', hle, hsl⟩ := S.freeze hp
  refine k H' a w (S'.swap (List.Perm.refl _) rfl ?_)
  obtain ⟨⟨cs, hh, hcs⟩, hn⟩ := S'.res _ List.mem_cons_self
  refine ⟨⟨cs, hh, ?_⟩, hn⟩
  unfold splice at hcs ⊢
  rw [List.append_assoc] at hcs ⊢
  exact all2_mid (fun c hc => ⟨by have h1 : c = v := hc.1; rw [h1]; exact hsl, hc.2⟩) _ cs hcs
theorem set_fld {α : Type} (T : Ty α) {pre post : List Pr} {l : List α} {o i k : Nat} {r q : α} {seg : List Pr} (h : pre.length = o) (hx : l[i]? = some r) (hk : k + seg.length ≤ T.sz) (hq : splice (T.cells r) k seg = T.cells q) : splice (pre ++ flat T l ++ post) (o + i * T.sz + k) seg = pre ++ flat T (l.set i q) ++ post := by
  have hi := (List.getElem?_eq_some_iff.1 hx).1
  rw [← set_row T h hi]
  have ha := at_row T (pre := pre) (post := post) (xs := l) h hx
  have hm : (splice (T.cells r) k seg).length = T.sz := by rw [hq]; exact T.len q
  rw [← hq]
  generalize pre ++ flat T l ++ post = L at *
  generalize o + i * T.sz = p at *
  have e1 : L.take (p + k) = L.take p ++ (T.cells r).take k := by rw [← ha, List.take_take, Nat.min_eq_left (by omega), List.take_add]
  have e2 : L.drop (p + T.sz) = (L.drop (p + (k + seg.length))).drop (T.sz - (k + seg.length)) := by rw [List.drop_drop]; congr 1; omega
  have e3 : (T.cells r).drop (k + seg.length) ++ L.drop (p + T.sz) = L.drop (p + k + seg.length) := by
    rw [e2, ← ha, List.drop_take, List.drop_drop, List.take_append_drop, Nat.add_assoc]
  have e4 : splice L p (splice (T.cells r) k seg) = L.take p ++ splice (T.cells r) k seg ++ L.drop (p + T.sz) := by rw [← hm]; rfl
  rw [e4]
  show L.take (p + k) ++ seg ++ L.drop (p + k + seg.length) = _
  rw [e1, ← e3]
  unfold splice
  simp only [List.append_assoc]
theorem all2B_set {α : Type} {p : α → α → Bool} (hr : ∀ x, p x x = true) {l : List α} {k : Nat} {x : α} (hx : l[k]? = some x) (y : α) : all2B p l (l.set k y) = p x y := by
  cases h : p x y
  · exact all2B_f k x y hx (List.getElem?_set_self (List.getElem?_eq_some_iff.1 hx).1) h
  · refine all2B_iff.2 fun i a b ha hb => ?_
    by_cases hi : k = i
    · subst hi
      rw [List.getElem?_set_self (List.getElem?_eq_some_iff.1 ha).1] at hb
      injection hb with hb; subst hb
      rw [hx] at ha; injection ha with ha; subst ha; exact h
    · rw [List.getElem?_set_ne hi, ha] at hb
      injection hb with hb; subst hb; exact hr _
theorem grown_set {t : StateS} {k : Nat} {x : StreamS} (hx : t.streams[k]? = some x) (y : StreamS) : grownM t { t with streams := t.streams.set k y } = longerS x y :=
  (grownM_2 (a := t) (b := { t with streams := t.streams.set k y }) (Int.le_refl _) (Nat.le_of_eq (List.length_set ..).symm)).trans (all2B_set longerS_refl hx y)
theorem longer_recs {x : StreamS} {r : Nat} {q : Rec} (hq : x.recs[r]? = some q) (p : Rec) : longerS x { x with recs := x.recs.set r p } = recLe q p :=
  (longerS_2 (a := x) (b := { x with recs := x.recs.set r p }) rfl (Int.le_refl _) (Nat.le_of_eq (List.length_set ..).symm)).trans (all2B_set recLe_refl hq p)
theorem recLe_hash {q : Rec} {h : Hash} (hn : h ≠ q.hash) : recLe q { q with hash := h } = false := by
  cases k : recLe q { q with hash := h } with
  | false => rfl
  | true =>
    have := (recLe_iff.1 k).2
    exact absurd (congrArg Rec.hash this).symm hn
theorem recLe_mark (q : Rec) : recLe q { q with shredded := !q.shredded } = !q.shredded := by
  unfold recLe cover
  cases q.shredded <;> simp
set_option linter.unusedVariables false
set_option linter.unusedSimpArgs false
attribute [local irreducible] J Lq E OpP PRun is any agg tup ptr sl PRunW OpE
attribute [local irreducible] slt nameE lowerN cloT cntM recOk row tB checkM applyM errM resM beyondM longB newM lastT checkS applyS findI foldS allS all2B rr runsM grownM longerS beyondT beyondE
set_option maxHeartbeats 1000000 in
theorem with_fnR (t : StateS) (k : Nat) (x : StreamS) (hk : k < t.streams.length) (hl : t.streams.length ≤ 1000000) (hr : x.recs.length ≤ 1000000) : FnR Try.prog 22 [stateT.val t, is (.int .i64 (k : Int)), streamT.val x] []
    (fun ψ Δ => ∃ (rb ro c : Nat) (pre post : List Pr) (A2 : Option Addr) (c2 : Nat), pre.length = ro ∧ t.streams.length ≤ c ∧ c ≤ maxLen ∧ ro + c * 4 ≤ (pre ++ flat streamT.toTy t.streams ++ post).length ∧ ψ = (stateO (some ⟨rb, ro, none⟩) c).val t ∧
      Δ = [own rb 48 (splice (pre ++ flat streamT.toTy t.streams ++ post) (ro + k * 4 + 3) [is (.slice A2 x.recs.length c2)]), row (.slice A2 x.recs.length c2) 51 recT.toTy x.recs]) := by
  refine FnR.mk' 22 Try.func22 rfl rfl rfl rfl fun w0 H0 => ?_
  repeat (first | ((first | (apply Lq.s; rfl) | apply PRun.s | (apply Lq.run; rfl; rfl; rfl; exact bsB) | (apply PRun.run; rfl; rfl; exact bsB)); first | (apply op_box stateT; rfl) | (apply op_box streamT; rfl) | (apply op_faddr state_clock; rfl; decide) | (apply op_faddr state_streams; rfl; decide) | (apply op_load (slT streamT); rfl) | (exact bsO)) | apply J.seq | apply E.next | apply J.lq | apply Lq.nil | apply PRun.nil | apply J.block | apply E.in_normal | apply J.skip | (apply Lq.store; rfl; rfl; exact bsP; exact bsS; rfl; rfl) | (apply PRun.al; rfl) | (apply Lq.al; rfl; rfl; intro b) | (apply Open.cons; intro b) | apply Open.nil | (apply Lq.pass; rfl; rfl; rfl) | (apply PRun.pass; rfl; rfl) | (apply Lq.skip; rfl; rfl; rfl; exact bsB) | (apply PRun.skip; rfl; rfl; exact bsB) | (apply J.drawN; exact mixed; kernel_rfl) | (apply J.cond_t; rfl) | (apply J.cond_f; rfl) | apply J.exit | apply E.then_exit | apply E.in_exit | (apply E.in_other; rfl))
  revert b
  intro b6
  repeat (first | ((first | (apply Lq.s; rfl) | apply PRun.s | (apply Lq.run; rfl; rfl; rfl; exact bsB) | (apply PRun.run; rfl; rfl; exact bsB)); first | (apply op_box stateT; rfl) | (apply op_box streamT; rfl) | (apply op_faddr state_clock; rfl; decide) | (apply op_faddr state_streams; rfl; decide) | (apply op_load (slT streamT); rfl) | (apply op_load stateT; rfl) | (exact bsO)) | apply J.seq | apply E.next | apply J.lq | apply Lq.nil | apply PRun.nil | apply J.block | apply E.in_normal | apply J.skip | (apply Lq.store; rfl; rfl; exact bsP; exact bsS; rfl; rfl) | (apply PRun.al; rfl) | (apply Lq.al; rfl; rfl; intro b) | (apply Open.cons; intro b) | apply Open.nil | (apply Lq.pass; rfl; rfl; rfl) | (apply PRun.pass; rfl; rfl) | (apply Lq.skip; rfl; rfl; rfl; exact bsB) | (apply PRun.skip; rfl; rfl; exact bsB) | (apply J.drawN; exact mixed; kernel_rfl) | (apply J.cond_t; rfl) | (apply J.cond_f; rfl) | apply J.exit | apply E.then_exit | apply E.in_exit | (apply E.in_other; rfl))
  revert b
  intro b7
  refine Lq.nilrow 48 streamT.toTy ?_
  (apply Lq.append (T := streamT) (xs := []) (ys := t.streams); rfl; exact List.Perm.refl _; (apply From.sl; rfl); rfl; rfl; rfl; (show 0 + _ ≤ maxLen; unfold maxLen; omega); (show (0 + _) * 72 ≤ _; omega))
  intro A c
  rw [List.nil_append]
  repeat (first | ((first | (apply Lq.s; rfl) | apply PRun.s | (apply Lq.run; rfl; rfl; rfl; exact bsB) | (apply PRun.run; rfl; rfl; exact bsB)); first | (exact bsO)) | apply J.seq | apply E.next | apply J.lq | apply Lq.nil | apply PRun.nil | apply J.block | apply E.in_normal | apply J.skip | (apply Lq.store; rfl; rfl; exact bsP; exact bsS; rfl; rfl) | (apply PRun.al; rfl) | (apply Lq.al; rfl; rfl; intro b) | (apply Open.cons; intro b) | apply Open.nil | (apply Lq.pass; rfl; rfl; rfl) | (apply PRun.pass; rfl; rfl) | (apply Lq.skip; rfl; rfl; rfl; exact bsB) | (apply PRun.skip; rfl; rfl; exact bsB) | (apply J.cond_t; rfl) | (apply J.cond_f; rfl) | apply J.exit | apply E.then_exit | apply E.in_exit | (apply E.in_other; rfl))
  refine J.open (T := streamT.toTy) (xs := t.streams) (by exact bsP) (by intro h; rw [h] at hk; exact absurd hk (Nat.not_lt_zero _)) ?_
  intro rb ro cap pre post hR
  obtain ⟨hv, hpre, hle, hcap, hroom, _⟩ := hR
  injection hv with hA _ hcc
  subst hA; subst hcc
  have hrm : ro + k * 4 + 4 ≤ (pre ++ flat streamT.toTy t.streams ++ post).length := row_room streamT.toTy hpre hk
  refine J.drawW 8 [(none, none), (none, none), (none, none), (none, none), (none, none), (none, some 18), (none, none), (none, none)] mixed (by kernel_rfl) ?_
  repeat (first | ((first | apply PRunW.s | (apply PRunW.run; rfl; rfl; exact bsB) | (apply Lq.s; rfl) | apply PRun.s | (apply Lq.run; rfl; rfl; rfl; exact bsB) | (apply PRun.run; rfl; rfl; exact bsB)); first | (apply op_ocell; rfl; exact bsM; rfl) | (apply op_faddr stream_recs; rfl; decide) | (apply op_load (slT recT); rfl) | (exact bsO)) | apply J.seq | apply E.next | apply J.lq | apply Lq.nil | apply PRun.nil | apply J.block | apply E.in_normal | apply J.skip | (apply Lq.store; rfl; rfl; exact bsP; exact bsS; rfl; rfl) | (apply PRun.al; rfl) | (apply Lq.al; rfl; rfl; intro b) | (apply Open.cons; intro b) | apply Open.nil | (apply Lq.pass; rfl; rfl; rfl) | (apply PRun.pass; rfl; rfl) | (apply Lq.skip; rfl; rfl; rfl; exact bsB) | (apply PRun.skip; rfl; rfl; exact bsB) | (apply J.cond_t; rfl) | (apply J.cond_f; rfl) | apply J.exit | apply E.then_exit | apply E.in_exit | (apply E.in_other; rfl) | apply PRunW.nil | (apply PRunW.al; rfl) | (apply PRunW.pass; rfl; rfl) | (apply PRunW.skip; rfl; rfl; exact bsB) | (apply Open.pv; intro b) | apply Open.av | (apply Open.rv; intro A c))
  refine PRunW.mk (R := fun v => row v 51 recT.toTy x.recs) (φ := anySl x.recs.length) anySl_row (opR_append (T := recT) (ys := x.recs) rfl (From.sl rfl) rfl rfl (by unfold maxLen; omega) (by show _ * 72 ≤ _; omega)) ?_
  refine PRunW.s (op_siaddr rfl rfl (by omega) (by omega)) ?_
  refine PRunW.s (op_ofaddr rfl (by decide)) ?_
  refine PRunW.nil (Open.rv fun A2 c2 => Open.nil ?_)
  (apply Lq.storeE (φs' := splice (pre ++ flat streamT.toTy t.streams ++ post) (ro + k * 4 + 3) [is (.slice A2 x.recs.length c2)]); rfl; rfl; exact bsP; exact Seg.is rfl; rfl; exact hrm; rfl)
  repeat (first | ((first | (apply Lq.s; rfl) | apply PRun.s | (apply Lq.run; rfl; rfl; rfl; exact bsB) | (apply PRun.run; rfl; rfl; exact bsB)); first | (exact bsO)) | apply J.seq | apply E.next | apply J.lq | apply Lq.nil | apply PRun.nil | apply J.block | apply E.in_normal | apply J.skip | (apply Lq.store; rfl; rfl; exact bsP; exact bsS; rfl; rfl) | (apply PRun.al; rfl) | (apply Lq.al; rfl; rfl; intro b) | (apply Open.cons; intro b) | apply Open.nil | (apply Lq.pass; rfl; rfl; rfl) | (apply PRun.pass; rfl; rfl) | (apply Lq.skip; rfl; rfl; rfl; exact bsB) | (apply PRun.skip; rfl; rfl; exact bsB) | (apply J.cond_t; rfl) | (apply J.cond_f; rfl) | apply J.exit | apply E.then_exit | apply E.in_exit | (apply E.in_other; rfl))
  (apply Lq.s; rfl; (apply op_oload (stateO (some ⟨rb, ro, none⟩) c) (x := t); rfl; exact bsM; rfl))
  repeat (first | ((first | (apply Lq.s; rfl) | apply PRun.s | (apply Lq.run; rfl; rfl; rfl; exact bsB) | (apply PRun.run; rfl; rfl; exact bsB)); first | (exact bsO)) | apply J.seq | apply E.next | apply J.lq | apply Lq.nil | apply PRun.nil | apply J.block | apply E.in_normal | apply J.skip | (apply Lq.store; rfl; rfl; exact bsP; exact bsS; rfl; rfl) | (apply PRun.al; rfl) | (apply Lq.al; rfl; rfl; intro b) | (apply Open.cons; intro b) | apply Open.nil | (apply Lq.pass; rfl; rfl; rfl) | (apply PRun.pass; rfl; rfl) | (apply Lq.skip; rfl; rfl; rfl; exact bsB) | (apply PRun.skip; rfl; rfl; exact bsB) | (apply J.cond_t; rfl) | (apply J.cond_f; rfl) | apply J.exit | apply E.then_exit | apply E.in_exit | (apply E.in_other; rfl))
  (refine J.ret ?_; (repeat (first | refine E.then_ret ?_ | refine E.in_ret ?_)))
  exact E.retRc (stateO (some ⟨rb, ro, none⟩) c) (x := t) (Δ' := [_, _]) (G := [_, _]) rfl rfl (by exact bsM) rfl ⟨rb, ro, c, pre, post, A2, c2, hpre, hle, hcap, hroom, rfl, rfl⟩ (by first | exact (List.perm_middle (l₁ := [_, _])).symm | exact bsP)
end Go.Proofs.Ytbemcehcipkliaa.L
