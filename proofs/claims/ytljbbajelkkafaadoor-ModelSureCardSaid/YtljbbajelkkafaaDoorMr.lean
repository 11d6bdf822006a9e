/-
  Rules: orders of what is owned; cells of rows; results.
-/
import Derived.Test.YtljbbajelkkafaaDoorMc
namespace Go.Proofs.YtljbbajelkkafaaDoor.L
open Go
set_option linter.unusedSectionVars false
variable [Globs] [Has_sha_table] [Has_sha_begin]
set_option linter.unusedVariables false
/-- Lists, one behind the other; no empty one at the end. -/
def catL {α : Type} : List (List α) → List α
  | [] => []
  | [x] => x
  | x :: y :: r => x ++ catL (y :: r)
theorem catL_eq {α : Type} : ∀ l : List (List α), catL l = l.flatten
  | [] => rfl
  | [x] => by simp [catL]
  | x :: y :: r => by
    have := catL_eq (y :: r)
    show x ++ catL (y :: r) = _
    rw [this]; rfl
theorem permP (P : List (List Res)) (i j : List Nat) (h : i.isPerm j = true) : (catL (i.map fun k => P.getD k [])).Perm (catL (j.map fun k => P.getD k [])) := by
  rw [catL_eq, catL_eq]
  exact ((List.isPerm_iff.1 h).map _).flatten
/-- Cells, as a type. -/
def consT (p : Pr) (ps : List Pr) : Td Unit where
  sz := ps.length + 1
  cells _ := p :: ps
  len _ := rfl
  ag := true
  one h := by cases h
  sc x H v h _ := by cases h
  pos := Nat.succ_pos _
theorem J.close {α : Type} {C : Cx} {Γ : Env} {Δ Δ' : List Res} {Q : Exit → Act → World → Prop} {x : Code} (T : Ty α) (xs : List α) {b o cap e : Nat} {φs : List Pr} (hp : Δ.Perm (own b e φs :: Δ')) (h1 : o + cap * T.sz ≤ φs.length) (h2 : xs.length ≤ cap) (h3 : cap ≤ maxLen) (h4 : (φs.drop o).take (xs.length * T.sz) = flat T xs) (k : J C (Γ) (row (.slice (some ⟨b, o, none⟩) xs.length cap) e T xs :: Δ') x Q) : J C Γ Δ x Q :=
  fun H a w S => k H a w (S.close T xs hp h1 h2 h3 h4)
theorem E.perm {C : Cx} {Γ : Env} {Δ Δ' : List Res} {Q : Exit → Act → World → Prop} {x : Exit} (hp : Δ.Perm Δ') (k : E C x Γ Δ' Q) : E C x Γ Δ Q := fun H a w S => k H a w (S.perm hp)
theorem All2.convM {H : IH} : ∀ {ps qs : List Pr} {cs : List Value}, All2 (fun (p q : Pr) => ∀ v, p.h H v → q.h H v) ps qs → All2 (fun φ c => φ.c H c) ps cs → All2 (fun φ c => φ.c H c) qs cs
  | [], [], [], _, _ => trivial
  | _ :: _, _ :: _, _ :: _, ⟨h1, h2⟩, ⟨k1, k2⟩ => ⟨⟨h1 _ k1.1, k1.2⟩, All2.convM h2 k2⟩
  | [], _ :: _, _, h, _ => h.elim
  | _ :: _, [], _, h, _ => h.elim
  | [], [], _ :: _, _, h => h.elim
  | _ :: _, _ :: _, [], _, h => h.elim
/-- What a block holds, said weaker. -/
theorem own_conv {b e : Nat} {φs ψs : List Pr} (h : ∀ H, All2 (fun (p q : Pr) => ∀ v, p.h H v → q.h H v) φs ψs) : ∀ H w, (own b e φs).ok H w → (own b e ψs).ok H w ∧ (own b e ψs).blk = (own b e φs).blk :=
  fun H w ⟨⟨cs, hc, ha⟩, hn⟩ => ⟨⟨⟨cs, hc, All2.convM (h H) ha⟩, hn⟩, rfl⟩
theorem agg_convM {ps qs : List Pr} (h : ∀ H, All2 (fun (p q : Pr) => ∀ v, p.h H v → q.h H v) ps qs) : ∀ H v, (agg ps).h H v → (agg qs).h H v :=
  fun H v ⟨cs, hv, hc⟩ => ⟨cs, hv, All2.convM (h H) hc⟩
theorem All2.convT {H : IH} : ∀ {ps qs : List Pr} {cs : List Value}, All2 (fun (p q : Pr) => ∀ v, p.h H v → q.h H v) ps qs → All2 (fun (φ : Pr) c => φ.h H c) ps cs → All2 (fun (φ : Pr) c => φ.h H c) qs cs
  | [], [], [], _, _ => trivial
  | _ :: _, _ :: _, _ :: _, ⟨h1, h2⟩, ⟨k1, k2⟩ => ⟨h1 _ k1, All2.convT h2 k2⟩
  | [], _ :: _, _, h, _ => h.elim
  | _ :: _, [], _, h, _ => h.elim
  | [], [], _ :: _, _, h => h.elim
  | _ :: _, _ :: _, [], _, h => h.elim
theorem tup_convM {ps qs : List Pr} (h : ∀ H, All2 (fun (p q : Pr) => ∀ v, p.h H v → q.h H v) ps qs) : ∀ H v, (tup ps).h H v → (tup qs).h H v :=
  fun H v ⟨cs, hv, hc⟩ => ⟨cs, hv, All2.convT (h H) hc⟩
section
variable {P : Program} {Γ : Env} {Δ : List Res} {d : Option Nat} {ty t yt : Nat} {pos : String} {af : Array Edge} {g : Option (Nat × Bool)} {x y : Operand}
theorem op_seqT {a b : List UInt8} (h1 : opd Γ x = some (is (str a))) (h2 : opd Γ y = some (is (str b))) (h : a = b) : OpP P Γ Δ ⟨d, .binOp .eql t x y yt, ty, pos, af, g⟩ (is (.bool true)) := by
  have := op_seql (P := P) (Δ := Δ) (d := d) (ty := ty) (pos := pos) (af := af) (g := g) (t := t) (yt := yt) h1 h2
  rwa [decide_eq_true h] at this
theorem op_seqF {a b : List UInt8} (h1 : opd Γ x = some (is (str a))) (h2 : opd Γ y = some (is (str b))) (h : a ≠ b) : OpP P Γ Δ ⟨d, .binOp .eql t x y yt, ty, pos, af, g⟩ (is (.bool false)) := by
  have := op_seql (P := P) (Δ := Δ) (d := d) (ty := ty) (pos := pos) (af := af) (g := g) (t := t) (yt := yt) h1 h2
  rwa [decide_eq_false h] at this
end
theorem Lq.openM {α : Type} {C : Cx} {Γ : Env} {Δ Δ' : List Res} {ops : Array Oper} {rest : List Oper} {Q : Exit → Act → World → Prop} {T : Ty α} {v : Value} {e : Nat} {xs : List α} (hp : Δ.Perm (row v e T xs :: Δ')) (hne : xs ≠ []) (k : ∀ b o cap pre post, RowAt T v xs b o cap pre post → Lq C Γ (own b e (pre ++ flat T xs ++ post) :: Δ') ops rest Q) : Lq C Γ Δ ops rest Q := fun H a w S => by
  obtain ⟨b, o, cap, pre, post, h, S'⟩ := S.open hp hne
  exact k b o cap pre post h H a w S'
theorem Lq.close {α : Type} {C : Cx} {Γ : Env} {Δ Δ' : List Res} {ops : Array Oper} {rest : List Oper} {Q : Exit → Act → World → Prop} (T : Ty α) (xs : List α) {b o cap e : Nat} {φs : List Pr} (hp : Δ.Perm (own b e φs :: Δ')) (h1 : o + cap * T.sz ≤ φs.length) (h2 : xs.length ≤ cap) (h3 : cap ≤ maxLen) (h4 : (φs.drop o).take (xs.length * T.sz) = flat T xs) (k : Lq C Γ (row (.slice (some ⟨b, o, none⟩) xs.length cap) e T xs :: Δ') ops rest Q) : Lq C Γ Δ ops rest Q :=
  fun H a w S => k H a w (S.close T xs hp h1 h2 h3 h4)
theorem splice_mid (A C B seg : List Pr) {n k : Nat} (hA : A.length = n) (h : k + seg.length ≤ C.length) : splice (A ++ (C ++ B)) (n + k) seg = A ++ (splice C k seg ++ B) := by
  rw [splice_pre A (C ++ B) seg k hA]
  congr 1
  unfold splice
  rw [List.take_append_of_le_length (by omega), List.drop_append_of_le_length h]
  simp only [List.append_assoc]
theorem flat_split {α : Type} (T : Ty α) {xs : List α} {i : Nat} {r : α} (h : xs[i]? = some r) : flat T xs = flat T (xs.take i) ++ (T.cells r ++ flat T (xs.drop (i + 1))) := by
  obtain ⟨hl, hh⟩ := List.getElem?_eq_some_iff.1 h
  conv => lhs; rw [← List.take_append_drop i xs, List.drop_eq_getElem_cons hl, hh]
  rw [flat_app]
  rfl
/-- A part of an item of a row, written. -/
theorem set_rfld {α : Type} (T : Ty α) {pre post seg : List Pr} {xs : List α} {o i k : Nat} {r v : α} (h : pre.length = o) (hx : xs[i]? = some r) (hk : k + seg.length ≤ T.sz) (e : splice (T.cells r) k seg = T.cells v) : splice (pre ++ flat T xs ++ post) (o + i * T.sz + k) seg = pre ++ flat T (xs.set i v) ++ post := by
  obtain ⟨hl, hh⟩ := List.getElem?_eq_some_iff.1 hx
  have hs : (xs.set i v)[i]? = some v := List.getElem?_set_self hl
  rw [flat_split T hx, flat_split T hs, List.take_set_of_le (Nat.le_refl _), List.drop_set_of_lt (by omega)]
  have h1 : (pre ++ flat T (xs.take i)).length = o + i * T.sz := by
    rw [List.length_append, flat_len, List.length_take, Nat.min_eq_left (by omega), h]
  have := splice_mid (pre ++ flat T (xs.take i)) (T.cells r) (flat T (xs.drop (i + 1)) ++ post) seg h1 (by rw [T.len]; exact hk)
  rw [e] at this
  simp only [List.append_assoc] at this ⊢
  exact this
theorem cell_rfld {α : Type} (T : Ty α) {pre post : List Pr} {xs : List α} {o i k : Nat} {r : α} (h : pre.length = o) (hx : xs[i]? = some r) (hk : k < T.sz) : (pre ++ flat T xs ++ post)[o + i * T.sz + k]? = (T.cells r)[k]? := by
  have h1 : (pre ++ flat T (xs.take i)).length = o + i * T.sz := by
    have := (List.getElem?_eq_some_iff.1 hx).1
    rw [List.length_append, flat_len, List.length_take, Nat.min_eq_left (by omega), h]
  have e : pre ++ flat T xs ++ post = (pre ++ flat T (xs.take i)) ++ (T.cells r ++ (flat T (xs.drop (i + 1)) ++ post)) := by
    rw [flat_split T hx]
    simp only [List.append_assoc]
  rw [e, List.getElem?_append_right (by omega), h1, Nat.add_sub_cancel_left, List.getElem?_append_left (by rw [T.len]; exact hk)]
theorem at_rfld {α : Type} (T : Ty α) {pre post : List Pr} {xs : List α} {o i k m : Nat} {r : α} (h : pre.length = o) (hx : xs[i]? = some r) (hk : k + m ≤ T.sz) : ((pre ++ flat T xs ++ post).drop (o + i * T.sz + k)).take m = ((T.cells r).drop k).take m := by
  rw [← at_row T h hx, List.drop_take, List.take_take, List.drop_drop, Nat.min_eq_left (by omega)]
theorem set_same {α : Type} {l : List α} {i : Nat} {x : α} (h : l[i]? = some x) : l.set i x = l := by
  obtain ⟨hl, hh⟩ := List.getElem?_eq_some_iff.1 h
  rw [← hh]; exact List.set_getElem_self hl
theorem room_rfld {α : Type} (T : Ty α) {pre post : List Pr} {xs : List α} {o i k n : Nat} {r : α} (h : pre.length = o) (hx : xs[i]? = some r) (hk : k + n ≤ T.sz) : o + i * T.sz + k + n ≤ (pre ++ flat T xs ++ post).length := by
  have h1 := (List.getElem?_eq_some_iff.1 hx).1
  have h2 := row_room T (post := post) h h1
  omega
theorem set_len' {α : Type} (T : Ty α) {pre post : List Pr} {xs : List α} {i : Nat} {v : α} {n : Nat} (h : n ≤ (pre ++ flat T xs ++ post).length) : n ≤ (pre ++ flat T (xs.set i v) ++ post).length := by
  simp only [List.length_append, flat_len, List.length_set] at h ⊢
  exact h
theorem map_take_snoc {α β : Type} (f : α → β) {l : List α} {i : Nat} {x : α} (h : l[i]? = some x) : (l.map f).take i ++ [f x] = (l.map f).take (i + 1) := by
  rw [List.take_add_one, List.getElem?_map, h]; rfl
section
variable {P : Program} {n : Nat} {w0 : World} {H0 : IH} {X : List Nat} {Γ : Env} {Δ : List Res} {fn : Func} {post : Pr → List Res → Prop}
theorem E.retRct {α : Type} (T : Td α) {x : α} {r s t b e : Nat} {φs : List Pr} {χ : Pr} {Δ' G : List Res} (hr : fn.results = #[.cell r t, .tmp s]) (h : look Γ r = some (is (.pointer (some ⟨b, 0, none⟩)))) (h2 : look Γ s = some χ) (hm : own b e φs ∈ Δ) [TSz P t T.sz] [TAg P t T.ag] (hx : φs.take T.sz = T.cells x) (hp : post (tup [T.val x, χ]) Δ') (hΔ : Δ.Perm (Δ' ++ G)) :
    E ⟨P, n, w0, H0, X, none, []⟩ .ret Γ Δ (bodyPost P fn (RetR H0 w0 X post)) := fun H a w S => by
  obtain ⟨v1, hv1, rfl⟩ := S.env r _ h
  obtain ⟨v2, hv2, hχ⟩ := S.env s _ h2
  obtain ⟨u1, hu1, hφ1⟩ := own_load (P := P) T (t := t) (S.res _ hm) hx
  refine ⟨S.dfr, .tuple #[u1, v2], ?_, _, H, _, Δ', rfl, hp, ⟨[u1, v2], rfl, hφ1, hχ, trivial⟩, S.retR hΔ⟩
  simp [results, hr, hv1, hv2, asAddr, hu1]
theorem E.retR3 {r s t : Nat} {φ χ ξ : Pr} {Δ' G : List Res} (hr : fn.results = #[.tmp r, .tmp s, .tmp t]) (h : look Γ r = some φ) (h2 : look Γ s = some χ) (h3 : look Γ t = some ξ) (hp : post (tup [φ, χ, ξ]) Δ') (hΔ : Δ.Perm (Δ' ++ G)) : E ⟨P, n, w0, H0, X, none, []⟩ .ret Γ Δ (bodyPost P fn (RetR H0 w0 X post)) := fun H a w S => by
  obtain ⟨v, hv, hφ⟩ := S.env r φ h
  obtain ⟨u, hu, hχ⟩ := S.env s χ h2
  obtain ⟨x, hx, hξ⟩ := S.env t ξ h3
  refine ⟨S.dfr, .tuple #[v, u, x], ?_, _, H, _, Δ', rfl, hp, ⟨[v, u, x], rfl, hφ, hχ, hξ, trivial⟩, S.retR hΔ⟩
  rw [results_tmp3 hr a.tmps P w, getD_of hv, getD_of hu, getD_of hx]
end
end Go.Proofs.YtljbbajelkkafaaDoor.L
