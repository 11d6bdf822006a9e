/-
  What the edge's functions do to what is owned; the examples of layer 10; edges that are none.
-/
import Derived.Test.YtljdjagackdplaaDoorUh
import Derived.Test.YtljdjagackdplaaDoorTg
import Derived.Test.YtljdjagackdplaaDoorRr
namespace Go.Proofs.YtljdjagackdplaaDoor.L
open Go
set_option linter.unusedSectionVars false
variable [Globs] [Has_sha_table] [Has_sha_begin]
set_option linter.unusedVariables false
theorem flenV (fb many : Nat) (hs : List Hash) : FnV Tryd.prog 27 [is (.pointer (some ⟨fb, 0, none⟩))] (frV fb hs many) (is (.int .i64 (many : Int))) (frV fb hs many) := by
  rintro _ ⟨A, c, rfl⟩
  exact (flen_fnR fb many hs A c).to fun ψ Δ h => ⟨h.1, A, c, h.2⟩
theorem frootV (fb many : Nat) (hs : List Hash) (hl : hs.length ≤ 90000) : FnV Tryd.prog 29 [is (.pointer (some ⟨fb, 0, none⟩))] (frV fb hs many) (hashT.val (rootE hs)) (frV fb hs many) := by
  rintro _ ⟨A, c, rfl⟩
  exact (froot_fnR fb many hs A c hl).to fun ψ Δ h => ⟨h.1, A, c, h.2⟩
theorem fhashesV (fb many : Nat) (hs : List Hash) (hl : hs.length ≤ 90000) : FnV Tryd.prog 31 [is (.pointer (some ⟨fb, 0, none⟩))] (frV fb hs many) (sl hashT.toTy hs) (frV fb hs many) := by
  refine FnV.frz (e := 23) ?_
  rintro _ ⟨A, c, rfl⟩
  exact (fhashes_fnR fb many hs A c hl).to fun ψ Δ ⟨A2, c2, h1, h2⟩ => ⟨A2, c2, h1, _, ⟨A, c, rfl⟩, h2⟩
theorem fappendV (fb many : Nat) (hs : List Hash) (h : Hash) (hl : hs.length ≤ 80000) (hp : hs.length = pop many) (hm : many < 9223372036854775807) : FnV Tryd.prog 25 [is (.pointer (some ⟨fb, 0, none⟩)), hashT.val h] (frV fb hs many) (is (.int .i64 0)) (frV fb (joins many (hs ++ [h])) (many + 1)) := by
  rintro _ ⟨A, c, rfl⟩
  exact fappend_fnR fb many hs A c h hl hp hm
/-- The edge of a list, in memory. -/
def fre (fb : Nat) (l : List Hash) : VS := frV fb (edge l) l.length
theorem fre_mk {fb : Nat} {l : List Hash} {Δ : List Res} (h : frV fb (edge l) l.length Δ) : fre fb l Δ := h
theorem fre_nil (fb : Nat) (A : Option Addr) (c : Nat) : fre fb [] (frL fb [] 0 A c) := by unfold fre; rw [edge_nil]; exact ⟨A, c, rfl⟩
theorem edge_le (l : List Hash) : (edge l).length ≤ l.length := by rw [edge_len]; exact pop_le _
theorem eLen (fb : Nat) (l : List Hash) : FnV Tryd.prog 27 [is (.pointer (some ⟨fb, 0, none⟩))] (fre fb l) (is (.int .i64 (l.length : Int))) (fre fb l) := flenV fb l.length (edge l)
theorem eRoot (fb : Nat) (l : List Hash) (hl : l.length ≤ 80000) : FnV Tryd.prog 29 [is (.pointer (some ⟨fb, 0, none⟩))] (fre fb l) (hashT.val (mroot l)) (fre fb l) := by
  have := frootV fb l.length (edge l) (by have := edge_le l; omega)
  rwa [rootE_edge l.length l (Nat.le_refl _)] at this
theorem eHashes (fb : Nat) (l : List Hash) (hl : l.length ≤ 80000) : FnV Tryd.prog 31 [is (.pointer (some ⟨fb, 0, none⟩))] (fre fb l) (sl hashT.toTy (edge l)) (fre fb l) := fhashesV fb l.length (edge l) (by have := edge_le l; omega)
theorem eAppend (fb : Nat) (l : List Hash) (h : Hash) (hl : l.length ≤ 80000) : FnV Tryd.prog 25 [is (.pointer (some ⟨fb, 0, none⟩)), hashT.val h] (fre fb l) (is (.int .i64 0)) (fre fb (l ++ [h])) := by
  have := fappendV fb l.length (edge l) h (by have := edge_le l; omega) (edge_len l) (by omega)
  rw [← edge_snoc] at this
  unfold fre
  rw [List.length_append]
  exact this
theorem edge3 (x y z : Hash) : edge [x, y, z] = [nodeH x y, z] := by
  have h1 := edge_snoc [] x
  rw [edge_nil] at h1
  have h2 := edge_snoc [x] y
  have h3 := edge_snoc [x, y] z
  rw [show [] ++ [x] = [x] from rfl, show ([] : List Hash).length = 0 from rfl, joins_even rfl] at h1
  rw [h1, show [x].length = 1 from rfl, joins_odd rfl, show [x] ++ [y] = [] ++ [x, y] from rfl, join2_of, joins_even rfl] at h2
  have h2' : edge [x, y] = [nodeH x y] := h2
  rw [h2', show [x, y].length = 2 from rfl, joins_even rfl] at h3
  exact h3
theorem pop_3 : pop 3 = 2 := pop_ones 2
theorem load_bad (n : Int) (l : List Hash) (hk : l.length ≤ 100000) (h0 : -9223372036854775808 ≤ n ∧ n ≤ 9223372036854775807) (h : n < 0 ∨ pop n.toNat ≠ l.length) : Fn Tryd.prog 23 [is (.int .i64 n), sl hashT.toTy l] (tup [is (.pointer none), is (.int .i64 2)]) := (fload_bad n l.length hk h0 h).weak (weakLast anySl_sl [_])
theorem load_neg : Fn Tryd.prog 23 [is (.int .i64 (-1)), is (.slice none 0 0)] (tup [is (.pointer none), is (.int .i64 2)]) := (fload_bad (-1) 0 (by decide) (by decide) (.inl (by decide))).weak (weakLast anySl_is [_])
set_option linter.unusedVariables false
set_option linter.unusedSimpArgs false
attribute [local irreducible] J Lq E OpP PRun is any agg tup ptr sl PRunW OpE PRunV OpV star
attribute [local irreducible] up2 mroot nodeH leafH emptyH shaH ownAt row someL leafOf splitZ split rv join2 edge rootE o1 o2 o3 frV fre
set_option maxRecDepth 100000 in
set_option maxHeartbeats 2000000 in
theorem does10_fn : Fn Tryd.prog 32 [] (is (.bool true)) := by
  have S1 : Fn Tryd.prog 21 [is (.int .i64 3), is (.int .u32 9)] (sl hashT.toTy [leafOf 9 0, leafOf 9 1, leafOf 9 2]) := (some_fn 3 9 (by decide) (by decide)).to (by rw [some3])
  generalize leafOf 9 0 = x at *
  generalize leafOf 9 1 = y at *
  generalize leafOf 9 2 = z at *
  have hE := edge3 x y z
  have hM := mroot3 x y z
  have L1 := load_bad 3 ([x, y, z].take 1) (by show 1 ≤ 100000; decide) (by decide) (.inr (by show pop 3 ≠ 1; rw [pop_3]; decide))
  refine Fn.mk' 75 Tryd.func32 rfl rfl rfl rfl fun w0 H0 => ?_
  repeat (first | ((first | (apply Lq.s; rfl) | apply PRun.s | (apply Lq.run; rfl; rfl; rfl; exact bsB) | (apply PRun.run; rfl; rfl; exact bsB)); first | (apply op_call S1; exact bsD) | (exact bsO)) | apply J.seq | apply E.next | apply J.lq | apply Lq.nil | apply PRun.nil | apply J.block | apply E.in_normal | apply J.skip | (apply Lq.store; rfl; rfl; exact bsP; exact bsS; rfl; rfl) | (apply PRun.al; rfl) | (apply Lq.al; rfl; rfl; intro b) | (apply Open.cons; intro b) | apply Open.nil | (apply Lq.pass; rfl; rfl; rfl) | (apply PRun.pass; rfl; rfl) | (apply Lq.skip; rfl; rfl; rfl; exact bsB) | (apply PRun.skip; rfl; rfl; exact bsB) | (apply J.cond_t; rfl) | (apply J.cond_f; rfl) | apply J.exit | apply E.then_exit | apply E.in_exit | (apply E.in_other; rfl))
  refine Lq.callS (Δ0 := []) (Δf := []) (fof_fnR [x, y, z] (by show 3 ≤ 70000; decide)) rfl bsD (List.Perm.refl _) ?_
  rintro _ D1 ⟨fb, rfl, hV⟩
  rw [List.append_nil]
  repeat (first | ((first | (apply Lq.s; rfl) | apply PRun.s | (apply Lq.run; rfl; rfl; rfl; exact bsB) | (apply PRun.run; rfl; rfl; exact bsB)); first | (exact bsO)) | apply J.seq | apply E.next | apply J.lq | apply Lq.nil | apply PRun.nil | apply J.block | apply E.in_normal | apply J.skip | (apply Lq.store; rfl; rfl; exact bsP; exact bsS; rfl; rfl) | (apply PRun.al; rfl) | (apply Lq.al; rfl; rfl; intro b) | (apply Open.cons; intro b) | apply Open.nil | (apply Lq.pass; rfl; rfl; rfl) | (apply PRun.pass; rfl; rfl) | (apply Lq.skip; rfl; rfl; rfl; exact bsB) | (apply PRun.skip; rfl; rfl; exact bsB) | (apply J.cond_t; rfl) | (apply J.cond_f; rfl) | apply J.exit | apply E.then_exit | apply E.in_exit | (apply E.in_other; rfl))
  refine J.drawW 8 [(none, none), (none, none), (none, none), (none, none), (none, none), (none, none), (none, none), (none, some 3)] mixed (by kernel_rfl) ?_
  repeat (first | ((first | apply PRunW.s | (apply PRunW.run; rfl; rfl; exact bsB) | (apply Lq.s; rfl) | apply PRun.s | (apply Lq.run; rfl; rfl; rfl; exact bsB) | (apply PRun.run; rfl; rfl; exact bsB)); first | (apply op_iaddr hashT.toTy (x := x); rfl; rfl; decide; rfl) | (apply op_iaddr hashT.toTy (x := y); rfl; rfl; decide; rfl) | (apply op_load hashT; rfl) | (apply op_call (nodeH_fn x y); exact bsD) | (exact bsO)) | apply J.seq | apply E.next | apply J.lq | apply Lq.nil | apply PRun.nil | apply J.block | apply E.in_normal | apply J.skip | (apply Lq.store; rfl; rfl; exact bsP; exact bsS; rfl; rfl) | (apply PRun.al; rfl) | (apply Lq.al; rfl; rfl; intro b) | (apply Open.cons; intro b) | apply Open.nil | (apply Lq.pass; rfl; rfl; rfl) | (apply PRun.pass; rfl; rfl) | (apply Lq.skip; rfl; rfl; rfl; exact bsB) | (apply PRun.skip; rfl; rfl; exact bsB) | (apply J.cond_t; rfl) | (apply J.cond_f; rfl) | apply J.exit | apply E.then_exit | apply E.in_exit | (apply E.in_other; rfl) | apply PRunW.nil | (apply PRunW.al; rfl) | (apply PRunW.pass; rfl; rfl) | (apply PRunW.skip; rfl; rfl; exact bsB) | (apply Open.pv; intro b) | apply Open.av | (apply Open.rv; intro A c))
  (apply Lq.storeE (φs' := hashT.cells (nodeH x y)); rfl; rfl; exact List.Perm.refl _; exact Seg.val _ _; exact hashT.len _; exact Nat.le_refl 32; exact splice_all (by rw [hashT.len]; rfl))
  repeat (first | ((first | (apply Lq.s; rfl) | apply PRun.s | (apply Lq.run; rfl; rfl; rfl; exact bsB) | (apply PRun.run; rfl; rfl; exact bsB)); first | (exact bsO)) | apply J.seq | apply E.next | apply J.lq | apply Lq.nil | apply PRun.nil | apply J.block | apply E.in_normal | apply J.skip | (apply Lq.store; rfl; rfl; exact bsP; exact bsS; rfl; rfl) | (apply PRun.al; rfl) | (apply Lq.al; rfl; rfl; intro b) | (apply Open.cons; intro b) | apply Open.nil | (apply Lq.pass; rfl; rfl; rfl) | (apply PRun.pass; rfl; rfl) | (apply Lq.skip; rfl; rfl; rfl; exact bsB) | (apply PRun.skip; rfl; rfl; exact bsB) | (apply J.cond_t; rfl) | (apply J.cond_f; rfl) | apply J.exit | apply E.then_exit | apply E.in_exit | (apply E.in_other; rfl))
  refine Lq.frzB 3 rfl (List.Perm.refl _) ?_
  repeat (first | ((first | (apply Lq.s; rfl) | apply PRun.s | (apply Lq.run; rfl; rfl; rfl; exact bsB) | (apply PRun.run; rfl; rfl; exact bsB)); first | (apply op_ksl_hi (T := hashT.toTy) (hi := 1); rfl; rfl; exact Nat.le_of_ble_eq_true rfl) | (apply op_call L1; exact bsD) | (apply op_call load_neg; exact bsD) | (exact bsO)) | apply J.seq | apply E.next | apply J.lq | apply Lq.nil | apply PRun.nil | apply J.block | apply E.in_normal | apply J.skip | (apply Lq.store; rfl; rfl; exact bsP; exact bsS; rfl; rfl) | (apply PRun.al; rfl) | (apply Lq.al; rfl; rfl; intro b) | (apply Open.cons; intro b) | apply Open.nil | (apply Lq.pass; rfl; rfl; rfl) | (apply PRun.pass; rfl; rfl) | (apply Lq.skip; rfl; rfl; rfl; exact bsB) | (apply PRun.skip; rfl; rfl; exact bsB) | (apply J.cond_t; rfl) | (apply J.cond_f; rfl) | apply J.exit | apply E.then_exit | apply E.in_exit | (apply E.in_other; rfl))
  refine Lq.nilrow 23 hashT.toTy ?_
  refine Lq.callS (Δ0 := [_]) (Δf := D1) (fload_fnR 0 [] (by decide) (by decide) pop_0.symm none 0 23) rfl bsD (List.Perm.refl _) ?_
  rintro _ _ ⟨gb, A2, c2, rfl, rfl⟩
  refine Lq.sub (Δ' := D1 ++ frL gb [] 0 A2 c2) (D := [row (.slice none ([] : List Hash).length 0) 23 hashT.toTy []]) (List.perm_append_comm.trans (by rw [← List.append_assoc])) ?_
  repeat (first | ((first | (apply Lq.s; rfl) | apply PRun.s | (apply Lq.run; rfl; rfl; rfl; exact bsB) | (apply PRun.run; rfl; rfl; exact bsB)); first | (exact bsO)) | apply J.seq | apply E.next | apply J.lq | apply Lq.nil | apply PRun.nil | apply J.block | apply E.in_normal | apply J.skip | (apply Lq.store; rfl; rfl; exact bsP; exact bsS; rfl; rfl) | (apply PRun.al; rfl) | (apply Lq.al; rfl; rfl; intro b) | (apply Open.cons; intro b) | apply Open.nil | (apply Lq.pass; rfl; rfl; rfl) | (apply PRun.pass; rfl; rfl) | (apply Lq.skip; rfl; rfl; rfl; exact bsB) | (apply PRun.skip; rfl; rfl; exact bsB) | (apply J.cond_t; rfl) | (apply J.cond_f; rfl) | apply J.exit | apply E.then_exit | apply E.in_exit | (apply E.in_other; rfl))
  refine J.drawV 42 [false, true, false, false, false, true, false, false, false, false, false, false, false, false, false, true, false, false, false, false, false, false, false, false, false, false, false, false, false, false, false, false, false, false, false, false, false, true, false, false, false, false] (star (fre fb [x, y, z]) (fre gb [])) (star_mk (fre_mk hV) (fre_nil gb A2 c2)) mixed (by kernel_rfl) ?_
  repeat (first | ((first | apply PRunV.s | (apply PRunV.run; rfl; rfl; exact bsB) | (apply Lq.s; rfl) | apply PRun.s | (apply Lq.run; rfl; rfl; rfl; exact bsB) | (apply PRun.run; rfl; rfl; exact bsB)); first | (exact bsO)) | apply J.seq | apply E.next | apply J.lq | apply Lq.nil | apply PRun.nil | apply J.block | apply E.in_normal | apply J.skip | (apply Lq.store; rfl; rfl; exact bsP; exact bsS; rfl; rfl) | (apply PRun.al; rfl) | (apply Lq.al; rfl; rfl; intro b) | (apply Open.cons; intro b) | apply Open.nil | (apply Lq.pass; rfl; rfl; rfl) | (apply PRun.pass; rfl; rfl) | (apply Lq.skip; rfl; rfl; rfl; exact bsB) | (apply PRun.skip; rfl; rfl; exact bsB) | (apply J.cond_t; rfl) | (apply J.cond_f; rfl) | apply J.exit | apply E.then_exit | apply E.in_exit | (apply E.in_other; rfl) | (apply PRunV.pass; rfl; rfl) | (apply PRunV.skip; rfl; rfl; exact bsB))
  refine PRunV.e (opV_call (eLen fb [x, y, z]) bsD) ?_
  repeat (first | ((first | apply PRunV.s | (apply PRunV.run; rfl; rfl; exact bsB) | (apply Lq.s; rfl) | apply PRun.s | (apply Lq.run; rfl; rfl; rfl; exact bsB) | (apply PRun.run; rfl; rfl; exact bsB)); first | (exact bsO)) | apply J.seq | apply E.next | apply J.lq | apply Lq.nil | apply PRun.nil | apply J.block | apply E.in_normal | apply J.skip | (apply Lq.store; rfl; rfl; exact bsP; exact bsS; rfl; rfl) | (apply PRun.al; rfl) | (apply Lq.al; rfl; rfl; intro b) | (apply Open.cons; intro b) | apply Open.nil | (apply Lq.pass; rfl; rfl; rfl) | (apply PRun.pass; rfl; rfl) | (apply Lq.skip; rfl; rfl; rfl; exact bsB) | (apply PRun.skip; rfl; rfl; exact bsB) | (apply J.cond_t; rfl) | (apply J.cond_f; rfl) | apply J.exit | apply E.then_exit | apply E.in_exit | (apply E.in_other; rfl) | (apply PRunV.pass; rfl; rfl) | (apply PRunV.skip; rfl; rfl; exact bsB))
  refine PRunV.er rfl rfl rfl (opV_call (eHashes fb [x, y, z] (by show 3 ≤ 80000; decide)) bsD) ?_
  rw [hE]
  repeat (first | ((first | apply PRunV.s | (apply PRunV.run; rfl; rfl; exact bsB) | (apply Lq.s; rfl) | apply PRun.s | (apply Lq.run; rfl; rfl; rfl; exact bsB) | (apply PRun.run; rfl; rfl; exact bsB)); first | (apply op_load hashT; rfl) | (apply op_iaddr hashT.toTy (x := z); rfl; rfl; decide; rfl) | (apply op_bslice hashT (xs := [nodeH x y, z]); (repeat (first | exact PO.nil _ | (apply PO.cons; rfl))); rfl; rfl; rfl) | (apply op_call (same_fn [nodeH x y, z] (show 2 ≤ 1000000 by decide)); exact bsD) | (exact bsO)) | apply J.seq | apply E.next | apply J.lq | apply Lq.nil | apply PRun.nil | apply J.block | apply E.in_normal | apply J.skip | (apply Lq.store; rfl; rfl; exact bsP; exact bsS; rfl; rfl) | (apply PRun.al; rfl) | (apply Lq.al; rfl; rfl; intro b) | (apply Open.cons; intro b) | apply Open.nil | (apply Lq.pass; rfl; rfl; rfl) | (apply PRun.pass; rfl; rfl) | (apply Lq.skip; rfl; rfl; rfl; exact bsB) | (apply PRun.skip; rfl; rfl; exact bsB) | (apply J.cond_t; rfl) | (apply J.cond_f; rfl) | apply J.exit | apply E.then_exit | apply E.in_exit | (apply E.in_other; rfl) | (apply PRunV.pass; rfl; rfl) | (apply PRunV.skip; rfl; rfl; exact bsB))
  refine PRunV.er rfl rfl rfl (opV_call (eRoot fb [x, y, z] (by show 3 ≤ 80000; decide)) bsD) ?_
  rw [hM]
  repeat (first | ((first | apply PRunV.s | (apply PRunV.run; rfl; rfl; exact bsB) | (apply Lq.s; rfl) | apply PRun.s | (apply Lq.run; rfl; rfl; rfl; exact bsB) | (apply PRun.run; rfl; rfl; exact bsB)); first | (apply op_load hashT; rfl) | (apply op_iaddr hashT.toTy (x := z); rfl; rfl; decide; rfl) | (apply op_call (nodeH_fn (nodeH x y) z); exact bsD) | (apply op_eqA_t (T := hashT) (m := 2) (eqd_arr eqd_u8) rfl rfl; rfl; rfl; rfl) | (exact bsO)) | apply J.seq | apply E.next | apply J.lq | apply Lq.nil | apply PRun.nil | apply J.block | apply E.in_normal | apply J.skip | (apply Lq.store; rfl; rfl; exact bsP; exact bsS; rfl; rfl) | (apply PRun.al; rfl) | (apply Lq.al; rfl; rfl; intro b) | (apply Open.cons; intro b) | apply Open.nil | (apply Lq.pass; rfl; rfl; rfl) | (apply PRun.pass; rfl; rfl) | (apply Lq.skip; rfl; rfl; rfl; exact bsB) | (apply PRun.skip; rfl; rfl; exact bsB) | (apply J.cond_t; rfl) | (apply J.cond_f; rfl) | apply J.exit | apply E.then_exit | apply E.in_exit | (apply E.in_other; rfl) | (apply PRunV.pass; rfl; rfl) | (apply PRunV.skip; rfl; rfl; exact bsB))
  refine PRunV.er rfl rfl rfl (opV_call2 (eRoot gb [] (by decide)) bsD) ?_
  rw [mroot_nil]
  repeat (first | ((first | apply PRunV.s | (apply PRunV.run; rfl; rfl; exact bsB) | (apply Lq.s; rfl) | apply PRun.s | (apply Lq.run; rfl; rfl; rfl; exact bsB) | (apply PRun.run; rfl; rfl; exact bsB)); first | (apply op_call emptyH_fn; exact bsD) | (apply op_eqA_t (T := hashT) (m := 2) (eqd_arr eqd_u8) rfl rfl; rfl; rfl; rfl) | (exact bsO)) | apply J.seq | apply E.next | apply J.lq | apply Lq.nil | apply PRun.nil | apply J.block | apply E.in_normal | apply J.skip | (apply Lq.store; rfl; rfl; exact bsP; exact bsS; rfl; rfl) | (apply PRun.al; rfl) | (apply Lq.al; rfl; rfl; intro b) | (apply Open.cons; intro b) | apply Open.nil | (apply Lq.pass; rfl; rfl; rfl) | (apply PRun.pass; rfl; rfl) | (apply Lq.skip; rfl; rfl; rfl; exact bsB) | (apply PRun.skip; rfl; rfl; exact bsB) | (apply J.cond_t; rfl) | (apply J.cond_f; rfl) | apply J.exit | apply E.then_exit | apply E.in_exit | (apply E.in_other; rfl) | (apply PRunV.pass; rfl; rfl) | (apply PRunV.skip; rfl; rfl; exact bsB))
  refine PRunV.nil ?_
  intro D2 _
  repeat (first | ((first | (apply Lq.s; rfl) | apply PRun.s | (apply Lq.run; rfl; rfl; rfl; exact bsB) | (apply PRun.run; rfl; rfl; exact bsB)); first | (exact bsO)) | apply J.seq | apply E.next | apply J.lq | apply Lq.nil | apply PRun.nil | apply J.block | apply E.in_normal | apply J.skip | (apply Lq.store; rfl; rfl; exact bsP; exact bsS; rfl; rfl) | (apply PRun.al; rfl) | (apply Lq.al; rfl; rfl; intro b) | (apply Open.cons; intro b) | apply Open.nil | (apply Lq.pass; rfl; rfl; rfl) | (apply PRun.pass; rfl; rfl) | (apply Lq.skip; rfl; rfl; rfl; exact bsB) | (apply PRun.skip; rfl; rfl; exact bsB) | (apply J.cond_t; rfl) | (apply J.cond_f; rfl) | apply J.exit | apply E.then_exit | apply E.in_exit | (apply E.in_other; rfl))
  (refine J.ret ?_; (repeat (first | refine E.then_ret ?_ | refine E.in_ret ?_)))
  exact E.ret1 rfl rfl
end Go.Proofs.YtljdjagackdplaaDoor.L
