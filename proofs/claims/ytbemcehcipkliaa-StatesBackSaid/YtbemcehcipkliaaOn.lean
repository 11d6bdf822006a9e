/-
  The laws of states, walked: StatesBack.
-/
import Derived.Test.YtbemcehcipkliaaOm
namespace Go.Proofs.Ytbemcehcipkliaa.L
open Go
set_option linter.unusedSectionVars false
variable [Globs]
set_option linter.unusedVariables false
theorem goodB2 {t : StateS} (hx : StateOk t) (hb : beyondT t = false) : GoodT t := by
  unfold beyondT at hb
  rw [Bool.or_eq_false_iff, decide_eq_false_iff_not, List.any_eq_false] at hb
  refine ⟨by omega, fun x hm => ?_⟩
  have h := hb.2 x hm
  have h2 : beyondM x = false := by cases k : beyondM x with | false => rfl | true => exact absurd k h
  have := beyondM_f h2
  exact ⟨hx.2.2 x hm, by omega, by omega⟩
theorem set_same {α : Type} {l : List α} {k : Nat} {x : α} (h : l[k]? = some x) : l.set k x = l := by
  obtain ⟨hi, rfl⟩ := List.getElem?_eq_some_iff.1 h
  exact List.set_getElem_self hi
theorem good_set {t : StateS} (h : GoodT t) (k : Nat) {y : StreamS} (hy : StreamOkF y ∧ y.recs.length ≤ 1000000 ∧ y.holds.length ≤ 1000000) : GoodT { t with streams := t.streams.set k y } :=
  ⟨by show (t.streams.set k y).length ≤ _; rw [List.length_set]; exact h.1, fun z hz => by
    rcases List.mem_or_eq_of_mem_set hz with h1 | h1
    · exact h.2 z h1
    · rw [h1]; exact hy⟩
theorem rec_byte (q : Rec) (v : UInt8) : splice (recT.cells q) 2 [is (.int .u8 (v.toNat : Int))] = recT.cells { q with hash := setH q.hash 0 v } := by
  have h := st_u8 (h := q.hash) (j := 0) (by decide) v
  rw [rec_split3 { q with hash := setH q.hash 0 v }, rec_split3 q]
  show _ = [is (.int .i64 q.time), is (.int .i64 q.len)] ++ hashT.cells (setH q.hash 0 v) ++ runT.cells q.run ++ [is (.bool q.shredded)]
  rw [← h]
  have hl : (hashT.cells q.hash).length = 32 := hashT.len _
  generalize hashT.cells q.hash = L at *
  match L, hl with
  | a :: L, _ => rfl
section
variable {P : Program} {Γ : Env} {Δ : List Res} {d : Option Nat} {ty t yt : Nat} {pos : String} {af : Array Edge} {g : Option (Nat × Bool)} {x y : Operand}
theorem op_beqT {a : Bool} [hb : TBool P t] (h1 : opd Γ x = some (is (.bool a))) (h2 : opd Γ y = some (is (.bool a))) : OpP P Γ Δ ⟨d, .binOp .eql t x y yt, ty, pos, af, g⟩ (is (.bool true)) := by
  have h := op_beq (P := P) (Γ := Γ) (Δ := Δ) (d := d) (ty := ty) (t := t) (pos := pos) (af := af) (g := g) (yt := yt) h1 h2
  rw [show (a == a) = true by cases a <;> rfl] at h
  exact h
end
set_option linter.unusedVariables false
set_option linter.unusedSimpArgs false
attribute [local irreducible] J Lq E OpP PRun is any agg tup ptr sl PRunW OpE
attribute [local irreducible] slt nameE lowerN cloT cntM recOk row tB checkM applyM errM resM beyondM longB newM lastT checkS applyS findI foldS allS all2B rr runsM grownM longerS beyondT beyondE
set_option maxHeartbeats 4000000 in
theorem statesBack (t : StateS) (u1 u2 : UInt8) (hx : StateOk t) (hx2 : True) (hx3 : True) : Fn Try.prog 4 [stateT.val t, is (.int .u8 (u1.toNat : Int)), is (.int .u8 (u2.toNat : Int))] (is (.bool true)) := by
  have hu1 : u1.toNat < 256 := u1.toBitVec.isLt
  have hu2 : u2.toNat < 256 := u2.toBitVec.isLt
  have hbf := beyond17_fn t hx
  cases hb : beyondT t
  case true =>
    rw [hb] at hbf
    refine Fn.mk' 185 Try.func4 rfl rfl rfl rfl fun w0 H0 => ?_
    repeat (first | ((first | (apply Lq.s; rfl) | apply PRun.s | (apply Lq.run; rfl; rfl; rfl; exact bsB) | (apply PRun.run; rfl; rfl; exact bsB)); first | (apply op_box stateT; rfl) | (apply op_faddr state_clock; rfl; decide) | (apply op_faddr state_streams; rfl; decide) | (apply op_load (intT .i64); rfl) | (apply op_load (slT streamT); rfl) | (apply op_len (xs := t.streams); rfl) | (apply op_load stateT; rfl) | (apply op_call hbf; exact bsD) | (apply op_call lives17_fn; exact bsD) | (exact bsO)) | apply J.seq | apply E.next | apply J.lq | apply Lq.nil | apply PRun.nil | apply J.block | apply E.in_normal | apply J.skip | (apply Lq.store; rfl; rfl; exact bsP; exact bsS; rfl; rfl) | (apply PRun.al; rfl) | (apply Lq.al; rfl; rfl; intro b) | (apply Open.cons; intro b) | apply Open.nil | (apply Lq.pass; rfl; rfl; rfl) | (apply PRun.pass; rfl; rfl) | (apply Lq.skip; rfl; rfl; rfl; exact bsB) | (apply PRun.skip; rfl; rfl; exact bsB) | (apply J.drawN; exact mixed; kernel_rfl) | (apply J.cond_t; rfl) | (apply J.cond_f; rfl) | apply J.exit | apply E.then_exit | apply E.in_exit | (apply E.in_other; rfl))
    (refine J.ret ?_; (repeat (first | refine E.then_ret ?_ | refine E.in_ret ?_)))
    exact E.ret1 rfl rfl
  rw [hb] at hbf
  have hg := goodB2 hx hb
  have hlg := hg.1
  by_cases hn : t.streams.length = 0
  · refine Fn.mk' 185 Try.func4 rfl rfl rfl rfl fun w0 H0 => ?_
    repeat (first | ((first | (apply Lq.s; rfl) | apply PRun.s | (apply Lq.run; rfl; rfl; rfl; exact bsB) | (apply PRun.run; rfl; rfl; exact bsB)); first | (apply op_box stateT; rfl) | (apply op_faddr state_clock; rfl; decide) | (apply op_faddr state_streams; rfl; decide) | (apply op_load (intT .i64); rfl) | (apply op_load (slT streamT); rfl) | (apply op_len (xs := t.streams); rfl) | (apply op_load stateT; rfl) | (apply op_call hbf; exact bsD) | (apply op_call lives17_fn; exact bsD) | (exact bsO)) | apply J.seq | apply E.next | apply J.lq | apply Lq.nil | apply PRun.nil | apply J.block | apply E.in_normal | apply J.skip | (apply Lq.store; rfl; rfl; exact bsP; exact bsS; rfl; rfl) | (apply PRun.al; rfl) | (apply Lq.al; rfl; rfl; intro b) | (apply Open.cons; intro b) | apply Open.nil | (apply Lq.pass; rfl; rfl; rfl) | (apply PRun.pass; rfl; rfl) | (apply Lq.skip; rfl; rfl; rfl; exact bsB) | (apply PRun.skip; rfl; rfl; exact bsB) | (apply J.drawN; exact mixed; kernel_rfl) | (apply J.cond_t; rfl) | (apply J.cond_f; rfl) | apply J.exit | apply E.then_exit | apply E.in_exit | (apply E.in_other; rfl))
    (refine J.ret ?_; (repeat (first | refine E.then_ret ?_ | refine E.in_ret ?_)))
    exact E.ret1 rfl rfl
  have hk : u1.toNat % t.streams.length < t.streams.length := Nat.mod_lt _ (Nat.pos_of_ne_zero hn)
  refine Fn.mk' 185 Try.func4 rfl rfl rfl rfl fun w0 H0 => ?_
  repeat (first | ((first | (apply Lq.s; rfl) | apply PRun.s | (apply Lq.run; rfl; rfl; rfl; exact bsB) | (apply PRun.run; rfl; rfl; exact bsB)); first | (apply op_box stateT; rfl) | (apply op_faddr state_clock; rfl; decide) | (apply op_faddr state_streams; rfl; decide) | (apply op_load (intT .i64); rfl) | (apply op_load (slT streamT); rfl) | (apply op_len (xs := t.streams); rfl) | (apply op_load stateT; rfl) | (apply op_call hbf; exact bsD) | (apply op_conv (c := (u1.toNat : Int)); rfl; (apply wrapi <;> omega)) | (apply op_remn (m := u1.toNat) (n := t.streams.length); rfl; rfl; exact hn) | (exact bsO)) | apply J.seq | apply E.next | apply J.lq | apply Lq.nil | apply PRun.nil | apply J.block | apply E.in_normal | apply J.skip | (apply Lq.store; rfl; rfl; exact bsP; exact bsS; rfl; rfl) | (apply PRun.al; rfl) | (apply Lq.al; rfl; rfl; intro b) | (apply Open.cons; intro b) | apply Open.nil | (apply Lq.pass; rfl; rfl; rfl) | (apply PRun.pass; rfl; rfl) | (apply Lq.skip; rfl; rfl; rfl; exact bsB) | (apply PRun.skip; rfl; rfl; exact bsB) | (apply J.cond_t; rfl) | (apply J.cond_f; rfl) | apply J.exit | apply E.then_exit | apply E.in_exit | (apply E.in_other; rfl))
  revert hk
  generalize u1.toNat % t.streams.length = k
  intro hk
  obtain ⟨x, hxx⟩ : ∃ x, t.streams[k]? = some x := ⟨_, List.getElem?_eq_getElem hk⟩
  obtain ⟨hxf, hxr, hxh⟩ := hg.2 x (List.mem_of_getElem? hxx)
  repeat (first | ((first | (apply Lq.s; rfl) | apply PRun.s | (apply Lq.run; rfl; rfl; rfl; exact bsB) | (apply PRun.run; rfl; rfl; exact bsB)); first | (apply op_box stateT; rfl) | (apply op_faddr state_clock; rfl; decide) | (apply op_faddr state_streams; rfl; decide) | (apply op_load (intT .i64); rfl) | (apply op_load (slT streamT); rfl) | (apply op_len (xs := t.streams); rfl) | (apply op_iaddr streamT.toTy (x := x); rfl; rfl; exact Int.natCast_nonneg _; (rw [Int.toNat_natCast]; exact hxx)) | (apply op_load streamT; rfl) | (exact bsO)) | apply J.seq | apply E.next | apply J.lq | apply Lq.nil | apply PRun.nil | apply J.block | apply E.in_normal | apply J.skip | (apply Lq.store; rfl; rfl; exact bsP; exact bsS; rfl; rfl) | (apply PRun.al; rfl) | (apply Lq.al; rfl; rfl; intro b) | (apply Open.cons; intro b) | apply Open.nil | (apply Lq.pass; rfl; rfl; rfl) | (apply PRun.pass; rfl; rfl) | (apply Lq.skip; rfl; rfl; rfl; exact bsB) | (apply PRun.skip; rfl; rfl; exact bsB) | (apply J.cond_t; rfl) | (apply J.cond_f; rfl) | apply J.exit | apply E.then_exit | apply E.in_exit | (apply E.in_other; rfl))
  revert b
  intro b8
  refine Lq.res1 (r' := own b8 48 (streamT.cells x)) (by exact bsP) (fun H w h => ⟨h, rfl⟩) ?_
  refine Lq.frzB 8 rfl (List.Perm.refl _) ?_
  (apply Lq.s; rfl; (apply op_load stateT; rfl))
  repeat (first | ((first | (apply Lq.s; rfl) | apply PRun.s | (apply Lq.run; rfl; rfl; rfl; exact bsB) | (apply PRun.run; rfl; rfl; exact bsB)); first | (apply op_box stateT; rfl) | (apply op_faddr state_clock; rfl; decide) | (apply op_faddr state_streams; rfl; decide) | (apply op_load (intT .i64); rfl) | (apply op_load (slT streamT); rfl) | (apply op_len (xs := t.streams); rfl) | (apply op_sub (c := ((t.streams.length - 1 : Nat) : Int)); rfl; rfl; (rw [show (t.streams.length : Int) - 1 = ((t.streams.length - 1 : Nat) : Int) by omega]; apply wrapi <;> omega)) | (apply op_ksl_hi (T := streamT.toTy) (hi := t.streams.length - 1); rfl; rfl; omega) | (exact bsO)) | apply J.seq | apply E.next | apply J.lq | apply Lq.nil | apply PRun.nil | apply J.block | apply E.in_normal | apply J.skip | (apply Lq.store; rfl; rfl; exact bsP; exact bsS; rfl; rfl) | (apply PRun.al; rfl) | (apply Lq.al; rfl; rfl; intro b) | (apply Open.cons; intro b) | apply Open.nil | (apply Lq.pass; rfl; rfl; rfl) | (apply PRun.pass; rfl; rfl) | (apply Lq.skip; rfl; rfl; rfl; exact bsB) | (apply PRun.skip; rfl; rfl; exact bsB) | (apply J.cond_t; rfl) | (apply J.cond_f; rfl) | apply J.exit | apply E.then_exit | apply E.in_exit | (apply E.in_other; rfl))
  revert b
  intro b9
  refine Lq.res1 (r' := own b9 24 (stateT.cells { t with streams := t.streams.take (t.streams.length - 1) })) (by exact bsP) (fun H w h => ⟨h, rfl⟩) ?_
  refine Lq.frzB 9 rfl (List.Perm.refl _) ?_
  (apply Lq.s; rfl; (apply op_load stateT; rfl))
  repeat (first | ((first | (apply Lq.s; rfl) | apply PRun.s | (apply Lq.run; rfl; rfl; rfl; exact bsB) | (apply PRun.run; rfl; rfl; exact bsB)); first | (apply op_box stateT; rfl) | (apply op_faddr state_clock; rfl; decide) | (apply op_faddr state_streams; rfl; decide) | (apply op_load (intT .i64); rfl) | (apply op_load (slT streamT); rfl) | (apply op_len (xs := t.streams); rfl) | (apply op_sub (c := IntKind.i64.wrap (t.clock - 1)); rfl; rfl; rfl) | (exact bsO)) | apply J.seq | apply E.next | apply J.lq | apply Lq.nil | apply PRun.nil | apply J.block | apply E.in_normal | apply J.skip | (apply Lq.store; rfl; rfl; exact bsP; exact bsS; rfl; rfl) | (apply PRun.al; rfl) | (apply Lq.al; rfl; rfl; intro b) | (apply Open.cons; intro b) | apply Open.nil | (apply Lq.pass; rfl; rfl; rfl) | (apply PRun.pass; rfl; rfl) | (apply Lq.skip; rfl; rfl; rfl; exact bsB) | (apply PRun.skip; rfl; rfl; exact bsB) | (apply J.cond_t; rfl) | (apply J.cond_f; rfl) | apply J.exit | apply E.then_exit | apply E.in_exit | (apply E.in_other; rfl))
  revert b
  intro b10
  refine Lq.res1 (r' := own b10 24 (stateT.cells { t with clock := IntKind.i64.wrap (t.clock - 1) })) (by exact bsP) (fun H w h => ⟨h, rfl⟩) ?_
  refine Lq.frzB 10 rfl (List.Perm.refl _) ?_
  (apply Lq.s; rfl; (apply op_load stateT; rfl))
  repeat (first | ((first | (apply Lq.s; rfl) | apply PRun.s | (apply Lq.run; rfl; rfl; rfl; exact bsB) | (apply PRun.run; rfl; rfl; exact bsB)); first | (apply op_load streamT; rfl) | (exact bsO)) | apply J.seq | apply E.next | apply J.lq | apply Lq.nil | apply PRun.nil | apply J.block | apply E.in_normal | apply J.skip | (apply Lq.store; rfl; rfl; exact bsP; exact bsS; rfl; rfl) | (apply PRun.al; rfl) | (apply Lq.al; rfl; rfl; intro b) | (apply Open.cons; intro b) | apply Open.nil | (apply Lq.pass; rfl; rfl; rfl) | (apply PRun.pass; rfl; rfl) | (apply Lq.skip; rfl; rfl; rfl; exact bsB) | (apply PRun.skip; rfl; rfl; exact bsB) | (apply J.cond_t; rfl) | (apply J.cond_f; rfl) | apply J.exit | apply E.then_exit | apply E.in_exit | (apply E.in_other; rfl))
  refine Lq.callS (Δ0 := []) (Δf := []) (with_fnR t k x hk hlg hxr) rfl bsD (List.Perm.refl _) ?_
  rintro _ _ ⟨rb, ro, c, pre, post, A2, c2, hpre, hle, hcap, hroom, rfl, rfl⟩
  have hrm : ro + k * 4 + 4 ≤ (pre ++ flat streamT.toTy t.streams ++ post).length := row_room streamT.toTy hpre hk
  have hF1 : splice (pre ++ flat streamT.toTy t.streams ++ post) (ro + k * 4 + 3) [sl recT.toTy x.recs] = pre ++ flat streamT.toTy t.streams ++ post := (set_fld streamT.toTy (q := x) hpre hxx (Nat.le_of_ble_eq_true rfl) rfl).trans (by rw [set_same hxx])
  refine Lq.frzIn (xs := x.recs) (List.Perm.swap _ _ _) rfl ?_
  refine Lq.res1 (r' := own rb 48 (pre ++ flat streamT.toTy t.streams ++ post)) (List.Perm.refl _) (by rw [hF1]; exact fun H w h => ⟨h, rfl⟩) ?_
  repeat (first | ((first | (apply Lq.s; rfl) | apply PRun.s | (apply Lq.run; rfl; rfl; rfl; exact bsB) | (apply PRun.run; rfl; rfl; exact bsB)); first | (apply op_ocell; rfl; exact bsM; rfl) | (apply op_siaddr; rfl; rfl; omega; omega) | (apply op_faddr stream_retain; rfl; decide) | (apply op_load (intT .i64); rfl) | (apply op_sub (c := IntKind.i64.wrap (x.retain - 1)); rfl; rfl; rfl) | (exact bsO)) | apply J.seq | apply E.next | apply J.lq | apply Lq.nil | apply PRun.nil | apply J.block | apply E.in_normal | apply J.skip | (apply Lq.store; rfl; rfl; exact bsP; exact bsS; rfl; rfl) | (apply PRun.al; rfl) | (apply Lq.al; rfl; rfl; intro b) | (apply Open.cons; intro b) | apply Open.nil | (apply Lq.pass; rfl; rfl; rfl) | (apply PRun.pass; rfl; rfl) | (apply Lq.skip; rfl; rfl; rfl; exact bsB) | (apply PRun.skip; rfl; rfl; exact bsB) | (apply J.cond_t; rfl) | (apply J.cond_f; rfl) | apply J.exit | apply E.then_exit | apply E.in_exit | (apply E.in_other; rfl))
  revert b
  intro b11
  (apply Lq.storeE (φs' := pre ++ flat streamT.toTy (t.streams.set k { x with retain := IntKind.i64.wrap (x.retain - 1) }) ++ post); rfl; rfl; exact bsP; exact Seg.is rfl; rfl; exact (show ro + k * 4 + 1 + 1 ≤ _ by omega); exact set_fld streamT.toTy hpre hxx (Nat.le_of_ble_eq_true rfl) rfl)
  have hln : (t.streams.set k { x with retain := IntKind.i64.wrap (x.retain - 1) }).length = t.streams.length := List.length_set ..
  have hroom2 : ro + c * 4 ≤ (pre ++ flat streamT.toTy (t.streams.set k { x with retain := IntKind.i64.wrap (x.retain - 1) }) ++ post).length := by
    refine Nat.le_trans hroom (Nat.le_of_eq ?_)
    simp only [List.length_append, flat_len, List.length_set]
  refine Lq.res1 (r := own rb 48 (pre ++ flat streamT.toTy (t.streams.set k { x with retain := IntKind.i64.wrap (x.retain - 1) }) ++ post)) (by exact bsP) (row_back hpre (by rw [hln]; exact hle) hcap hroom2) ?_
  refine Lq.res1 (r := own b11 24 [is (.int .i64 t.clock), is (.slice (some ⟨rb, ro, none⟩) t.streams.length c)]) (r' := own b11 24 (splice (stateT.cells t) 1 [is (.slice (some ⟨rb, ro, none⟩) t.streams.length c)])) (by exact bsP) (fun H w h => ⟨h, rfl⟩) ?_
  refine Lq.frzIn (T := streamT.toTy) (xs := t.streams.set k { x with retain := IntKind.i64.wrap (x.retain - 1) }) (List.Perm.swap _ _ _) (by rw [hln]) ?_
  refine Lq.res1 (r' := own b11 24 (stateT.cells { t with streams := t.streams.set k { x with retain := IntKind.i64.wrap (x.retain - 1) } })) (List.Perm.refl _) (fun H w h => ⟨h, rfl⟩) ?_
  refine Lq.frzB 11 rfl (List.Perm.refl _) ?_
  clear hln hroom2 hrm hroom hle hcap hpre
  by_cases hc1 : t.clock < -1152921504606846976
  · repeat (first | ((first | (apply Lq.s; rfl) | apply PRun.s | (apply Lq.run; rfl; rfl; rfl; exact bsB) | (apply PRun.run; rfl; rfl; exact bsB)); first | (apply op_box stateT; rfl) | (apply op_faddr state_clock; rfl; decide) | (apply op_faddr state_streams; rfl; decide) | (apply op_load (intT .i64); rfl) | (apply op_load (slT streamT); rfl) | (apply op_len (xs := t.streams); rfl) | (apply op_call lives17_fn; exact bsD) | (apply op_faddr stream_retain; rfl; decide) | (exact bsO)) | apply J.seq | apply E.next | apply J.lq | apply Lq.nil | apply PRun.nil | apply J.block | apply E.in_normal | apply J.skip | (apply Lq.store; rfl; rfl; exact bsP; exact bsS; rfl; rfl) | (apply PRun.al; rfl) | (apply Lq.al; rfl; rfl; intro b) | (apply Open.cons; intro b) | apply Open.nil | (apply Lq.pass; rfl; rfl; rfl) | (apply PRun.pass; rfl; rfl) | (apply Lq.skip; rfl; rfl; rfl; exact bsB) | (apply PRun.skip; rfl; rfl; exact bsB) | (apply J.cond_t; rfl) | (apply J.cond_f; rfl) | apply J.exit | apply E.then_exit | apply E.in_exit | (apply E.in_other; rfl))
    (refine J.ret ?_; (repeat (first | refine E.then_ret ?_ | refine E.in_ret ?_)))
    exact E.ret1 rfl rfl
  by_cases hc2 : x.retain < -1152921504606846976
  · repeat (first | ((first | (apply Lq.s; rfl) | apply PRun.s | (apply Lq.run; rfl; rfl; rfl; exact bsB) | (apply PRun.run; rfl; rfl; exact bsB)); first | (apply op_box stateT; rfl) | (apply op_faddr state_clock; rfl; decide) | (apply op_faddr state_streams; rfl; decide) | (apply op_load (intT .i64); rfl) | (apply op_load (slT streamT); rfl) | (apply op_len (xs := t.streams); rfl) | (apply op_call lives17_fn; exact bsD) | (apply op_faddr stream_retain; rfl; decide) | (exact bsO)) | apply J.seq | apply E.next | apply J.lq | apply Lq.nil | apply PRun.nil | apply J.block | apply E.in_normal | apply J.skip | (apply Lq.store; rfl; rfl; exact bsP; exact bsS; rfl; rfl) | (apply PRun.al; rfl) | (apply Lq.al; rfl; rfl; intro b) | (apply Open.cons; intro b) | apply Open.nil | (apply Lq.pass; rfl; rfl; rfl) | (apply PRun.pass; rfl; rfl) | (apply Lq.skip; rfl; rfl; rfl; exact bsB) | (apply PRun.skip; rfl; rfl; exact bsB) | (apply J.cond_t; rfl) | (apply J.cond_f; rfl) | apply J.exit | apply E.then_exit | apply E.in_exit | (apply E.in_other; rfl))
    (refine J.ret ?_; (repeat (first | refine E.then_ret ?_ | refine E.in_ret ?_)))
    exact E.ret1 rfl rfl
  have hI1 : I64 t.clock := hx.1
  have hI2 : I64 x.retain := hxf.1.2.1
  unfold I64 at hI1 hI2
  have hw1 : IntKind.i64.wrap (t.clock - 1) = t.clock - 1 := by apply wrapi <;> omega
  have hw2 : IntKind.i64.wrap (x.retain - 1) = x.retain - 1 := by apply wrapi <;> omega
  rw [hw1, hw2]
  have g0 := grown17_fn t t hg hg
  rw [grownM_refl] at g0
  have g1 := grown17_fn t { t with streams := t.streams.take (t.streams.length - 1) } hg ⟨by show (t.streams.take _).length ≤ _; rw [List.length_take]; omega, fun z hz => hg.2 z (List.mem_of_mem_take hz)⟩
  rw [grownM_1 fun h => by
    have h2 : t.streams.length ≤ (t.streams.take (t.streams.length - 1)).length := h.2
    rw [List.length_take] at h2; omega] at g1
  have g2 := grown17_fn t { t with clock := t.clock - 1 } hg ⟨hlg, hg.2⟩
  rw [grownM_1 fun h => by
    have h2 : t.clock ≤ t.clock - 1 := h.1
    omega] at g2
  have g3 := grown17_fn t { t with streams := t.streams.set k { x with retain := x.retain - 1 } } hg (good_set hg k ⟨⟨⟨hxf.1.1, by unfold I64; show _ ≤ x.retain - 1 ∧ x.retain - 1 ≤ _; omega, hxf.1.2.2⟩, hxf.2⟩, hxr, hxh⟩)
  rw [grown_set hxx, longerS_1 fun h => by
    have h2 : x.retain ≤ x.retain - 1 := h.2.1
    omega] at g3
  by_cases hm : x.recs.length = 0
  · repeat (first | ((first | (apply Lq.s; rfl) | apply PRun.s | (apply Lq.run; rfl; rfl; rfl; exact bsB) | (apply PRun.run; rfl; rfl; exact bsB)); first | (apply op_box stateT; rfl) | (apply op_faddr state_clock; rfl; decide) | (apply op_faddr state_streams; rfl; decide) | (apply op_load (intT .i64); rfl) | (apply op_load (slT streamT); rfl) | (apply op_len (xs := t.streams); rfl) | (apply op_call lives17_fn; exact bsD) | (apply op_faddr stream_retain; rfl; decide) | (apply op_load stateT; rfl) | (apply op_call g0; exact bsD) | (apply op_call g1; exact bsD) | (apply op_call g2; exact bsD) | (apply op_call g3; exact bsD) | (apply op_faddr stream_recs; rfl; decide) | (apply op_load (slT recT); rfl) | (apply op_len (xs := x.recs); rfl) | (exact bsO)) | apply J.seq | apply E.next | apply J.lq | apply Lq.nil | apply PRun.nil | apply J.block | apply E.in_normal | apply J.skip | (apply Lq.store; rfl; rfl; exact bsP; exact bsS; rfl; rfl) | (apply PRun.al; rfl) | (apply Lq.al; rfl; rfl; intro b) | (apply Open.cons; intro b) | apply Open.nil | (apply Lq.pass; rfl; rfl; rfl) | (apply PRun.pass; rfl; rfl) | (apply Lq.skip; rfl; rfl; rfl; exact bsB) | (apply PRun.skip; rfl; rfl; exact bsB) | (apply J.cond_t; rfl) | (apply J.cond_f; rfl) | apply J.exit | apply E.then_exit | apply E.in_exit | (apply E.in_other; rfl))
    (refine J.ret ?_; (repeat (first | refine E.then_ret ?_ | refine E.in_ret ?_)))
    exact E.ret1 rfl rfl
  have hr : u2.toNat % x.recs.length < x.recs.length := Nat.mod_lt _ (Nat.pos_of_ne_zero hm)
  have hne : x.recs ≠ [] := fun h => hm (by rw [h]; rfl)
  repeat (first | ((first | (apply Lq.s; rfl) | apply PRun.s | (apply Lq.run; rfl; rfl; rfl; exact bsB) | (apply PRun.run; rfl; rfl; exact bsB)); first | (apply op_box stateT; rfl) | (apply op_faddr state_clock; rfl; decide) | (apply op_faddr state_streams; rfl; decide) | (apply op_load (intT .i64); rfl) | (apply op_load (slT streamT); rfl) | (apply op_len (xs := t.streams); rfl) | (apply op_faddr stream_retain; rfl; decide) | (apply op_load (d := some 71) stateT; rfl) | (apply op_load (d := some 72) stateT; rfl) | (apply op_load (d := some 76) stateT; rfl) | (apply op_load (d := some 77) stateT; rfl) | (apply op_load (d := some 81) stateT; rfl) | (apply op_load (d := some 82) stateT; rfl) | (apply op_load (d := some 86) stateT; rfl) | (apply op_load (d := some 87) stateT; rfl) | (apply op_call g0; exact bsD) | (apply op_call g1; exact bsD) | (apply op_call g2; exact bsD) | (apply op_call g3; exact bsD) | (apply op_faddr stream_recs; rfl; decide) | (apply op_load (slT recT); rfl) | (apply op_len (xs := x.recs); rfl) | (apply op_conv (c := (u2.toNat : Int)); rfl; (apply wrapi <;> omega)) | (apply op_remn (m := u2.toNat) (n := x.recs.length); rfl; rfl; exact hm) | (exact bsO)) | apply J.seq | apply E.next | apply J.lq | apply Lq.nil | apply PRun.nil | apply J.block | apply E.in_normal | apply J.skip | (apply Lq.store; rfl; rfl; exact bsP; exact bsS; rfl; rfl) | (apply PRun.al; rfl) | (apply Lq.al; rfl; rfl; intro b) | (apply Open.cons; intro b) | apply Open.nil | (apply Lq.pass; rfl; rfl; rfl) | (apply PRun.pass; rfl; rfl) | (apply Lq.skip; rfl; rfl; rfl; exact bsB) | (apply PRun.skip; rfl; rfl; exact bsB) | (apply J.cond_t; rfl) | (apply J.cond_f; rfl) | apply J.exit | apply E.then_exit | apply E.in_exit | (apply E.in_other; rfl))
  clear g0 g1 g2 g3
  revert hr
  generalize u2.toNat % x.recs.length = r
  intro hr
  obtain ⟨q, hq⟩ : ∃ q, x.recs[r]? = some q := ⟨_, List.getElem?_eq_getElem hr⟩
  have hqo := hxf.2.2 q (List.mem_of_getElem? hq)
  (apply Lq.s; rfl; (apply op_load stateT; rfl))
  repeat (first | ((first | (apply Lq.s; rfl) | apply PRun.s | (apply Lq.run; rfl; rfl; rfl; exact bsB) | (apply PRun.run; rfl; rfl; exact bsB)); first | (apply op_load streamT; rfl) | (exact bsO)) | apply J.seq | apply E.next | apply J.lq | apply Lq.nil | apply PRun.nil | apply J.block | apply E.in_normal | apply J.skip | (apply Lq.store; rfl; rfl; exact bsP; exact bsS; rfl; rfl) | (apply PRun.al; rfl) | (apply Lq.al; rfl; rfl; intro b) | (apply Open.cons; intro b) | apply Open.nil | (apply Lq.pass; rfl; rfl; rfl) | (apply PRun.pass; rfl; rfl) | (apply Lq.skip; rfl; rfl; rfl; exact bsB) | (apply PRun.skip; rfl; rfl; exact bsB) | (apply J.cond_t; rfl) | (apply J.cond_f; rfl) | apply J.exit | apply E.then_exit | apply E.in_exit | (apply E.in_other; rfl))
  refine Lq.callS (Δ0 := []) (Δf := []) (with_fnR t k x hk hlg hxr) rfl bsD (List.Perm.refl _) ?_
  rintro _ _ ⟨rb, ro, c, pre, post, A2, c2, hpre, hle, hcap, hroom, rfl, rfl⟩
  have hrm : ro + k * 4 + 4 ≤ (pre ++ flat streamT.toTy t.streams ++ post).length := row_room streamT.toTy hpre hk
  have hF1 : splice (pre ++ flat streamT.toTy t.streams ++ post) (ro + k * 4 + 3) [sl recT.toTy x.recs] = pre ++ flat streamT.toTy t.streams ++ post := (set_fld streamT.toTy (q := x) hpre hxx (Nat.le_of_ble_eq_true rfl) rfl).trans (by rw [set_same hxx])
  refine Lq.frzIn (xs := x.recs) (List.Perm.swap _ _ _) rfl ?_
  refine Lq.res1 (r' := own rb 48 (pre ++ flat streamT.toTy t.streams ++ post)) (List.Perm.refl _) (by rw [hF1]; exact fun H w h => ⟨h, rfl⟩) ?_
  repeat (first | ((first | (apply Lq.s; rfl) | apply PRun.s | (apply Lq.run; rfl; rfl; rfl; exact bsB) | (apply PRun.run; rfl; rfl; exact bsB)); first | (exact bsO)) | apply J.seq | apply E.next | apply J.lq | apply Lq.nil | apply PRun.nil | apply J.block | apply E.in_normal | apply J.skip | (apply Lq.store; rfl; rfl; exact bsP; exact bsS; rfl; rfl) | (apply PRun.al; rfl) | (apply Lq.al; rfl; rfl; intro b) | (apply Open.cons; intro b) | apply Open.nil | (apply Lq.pass; rfl; rfl; rfl) | (apply PRun.pass; rfl; rfl) | (apply Lq.skip; rfl; rfl; rfl; exact bsB) | (apply PRun.skip; rfl; rfl; exact bsB) | (apply J.cond_t; rfl) | (apply J.cond_f; rfl) | apply J.exit | apply E.then_exit | apply E.in_exit | (apply E.in_other; rfl))
  revert b
  intro b13
  refine J.drawW 12 [(none, none), (none, none), (none, none), (none, none), (none, none), (none, none), (none, none), (none, none), (none, none), (none, none), (none, none), (none, none)] mixed (by kernel_rfl) ?_
  repeat (first | ((first | apply PRunW.s | (apply PRunW.run; rfl; rfl; exact bsB) | (apply Lq.s; rfl) | apply PRun.s | (apply Lq.run; rfl; rfl; rfl; exact bsB) | (apply PRun.run; rfl; rfl; exact bsB)); first | (apply op_ocell; rfl; exact bsM; rfl) | (apply op_siaddr; rfl; rfl; omega; omega) | (apply op_faddr stream_recs; rfl; decide) | (apply op_load (slT recT); rfl) | (apply op_len (xs := x.recs); rfl) | (apply op_sub (c := ((x.recs.length - 1 : Nat) : Int)); rfl; rfl; (rw [show (x.recs.length : Int) - 1 = ((x.recs.length - 1 : Nat) : Int) by omega]; apply wrapi <;> omega)) | (apply op_ksl_hi (T := recT.toTy) (hi := x.recs.length - 1); rfl; rfl; omega) | (exact bsO)) | apply J.seq | apply E.next | apply J.lq | apply Lq.nil | apply PRun.nil | apply J.block | apply E.in_normal | apply J.skip | (apply Lq.store; rfl; rfl; exact bsP; exact bsS; rfl; rfl) | (apply PRun.al; rfl) | (apply Lq.al; rfl; rfl; intro b) | (apply Open.cons; intro b) | apply Open.nil | (apply Lq.pass; rfl; rfl; rfl) | (apply PRun.pass; rfl; rfl) | (apply Lq.skip; rfl; rfl; rfl; exact bsB) | (apply PRun.skip; rfl; rfl; exact bsB) | (apply J.cond_t; rfl) | (apply J.cond_f; rfl) | apply J.exit | apply E.then_exit | apply E.in_exit | (apply E.in_other; rfl) | apply PRunW.nil | (apply PRunW.al; rfl) | (apply PRunW.pass; rfl; rfl) | (apply PRunW.skip; rfl; rfl; exact bsB) | (apply Open.pv; intro b) | apply Open.av | (apply Open.rv; intro A c))
  (apply Lq.storeE (φs' := pre ++ flat streamT.toTy (t.streams.set k { x with recs := x.recs.take (x.recs.length - 1) }) ++ post); rfl; rfl; exact bsP; exact Seg.sl; rfl; exact (show ro + k * 4 + 3 + 1 ≤ _ by omega); exact set_fld streamT.toTy hpre hxx (Nat.le_of_ble_eq_true rfl) rfl)
  have hln : (t.streams.set k { x with recs := x.recs.take (x.recs.length - 1) }).length = t.streams.length := List.length_set ..
  have hroom2 : ro + c * 4 ≤ (pre ++ flat streamT.toTy (t.streams.set k { x with recs := x.recs.take (x.recs.length - 1) }) ++ post).length := by
    refine Nat.le_trans hroom (Nat.le_of_eq ?_)
    simp only [List.length_append, flat_len, List.length_set]
  refine Lq.res1 (r := own rb 48 (pre ++ flat streamT.toTy (t.streams.set k { x with recs := x.recs.take (x.recs.length - 1) }) ++ post)) (by exact bsP) (row_back hpre (by rw [hln]; exact hle) hcap hroom2) ?_
  refine Lq.res1 (r := own b13 24 [is (.int .i64 t.clock), is (.slice (some ⟨rb, ro, none⟩) t.streams.length c)]) (r' := own b13 24 (splice (stateT.cells t) 1 [is (.slice (some ⟨rb, ro, none⟩) t.streams.length c)])) (by exact bsP) (fun H w h => ⟨h, rfl⟩) ?_
  refine Lq.frzIn (T := streamT.toTy) (xs := t.streams.set k { x with recs := x.recs.take (x.recs.length - 1) }) (List.Perm.swap _ _ _) (by rw [hln]) ?_
  refine Lq.res1 (r' := own b13 24 (stateT.cells { t with streams := t.streams.set k { x with recs := x.recs.take (x.recs.length - 1) } })) (List.Perm.refl _) (fun H w h => ⟨h, rfl⟩) ?_
  refine Lq.frzB 13 rfl (List.Perm.refl _) ?_
  clear hln hroom2 hrm hroom hle hcap hpre
  repeat (first | ((first | (apply Lq.s; rfl) | apply PRun.s | (apply Lq.run; rfl; rfl; rfl; exact bsB) | (apply PRun.run; rfl; rfl; exact bsB)); first | (exact bsO)) | apply J.seq | apply E.next | apply J.lq | apply Lq.nil | apply PRun.nil | apply J.block | apply E.in_normal | apply J.skip | (apply Lq.store; rfl; rfl; exact bsP; exact bsS; rfl; rfl) | (apply PRun.al; rfl) | (apply Lq.al; rfl; rfl; intro b) | (apply Open.cons; intro b) | apply Open.nil | (apply Lq.pass; rfl; rfl; rfl) | (apply PRun.pass; rfl; rfl) | (apply Lq.skip; rfl; rfl; rfl; exact bsB) | (apply PRun.skip; rfl; rfl; exact bsB) | (apply J.cond_t; rfl) | (apply J.cond_f; rfl) | apply J.exit | apply E.then_exit | apply E.in_exit | (apply E.in_other; rfl))
  (apply Lq.s; rfl; (apply op_load stateT; rfl))
  repeat (first | ((first | (apply Lq.s; rfl) | apply PRun.s | (apply Lq.run; rfl; rfl; rfl; exact bsB) | (apply PRun.run; rfl; rfl; exact bsB)); first | (apply op_load streamT; rfl) | (exact bsO)) | apply J.seq | apply E.next | apply J.lq | apply Lq.nil | apply PRun.nil | apply J.block | apply E.in_normal | apply J.skip | (apply Lq.store; rfl; rfl; exact bsP; exact bsS; rfl; rfl) | (apply PRun.al; rfl) | (apply Lq.al; rfl; rfl; intro b) | (apply Open.cons; intro b) | apply Open.nil | (apply Lq.pass; rfl; rfl; rfl) | (apply PRun.pass; rfl; rfl) | (apply Lq.skip; rfl; rfl; rfl; exact bsB) | (apply PRun.skip; rfl; rfl; exact bsB) | (apply J.cond_t; rfl) | (apply J.cond_f; rfl) | apply J.exit | apply E.then_exit | apply E.in_exit | (apply E.in_other; rfl))
  refine Lq.callS (Δ0 := []) (Δf := []) (with_fnR t k x hk hlg hxr) rfl bsD (List.Perm.refl _) ?_
  rintro _ _ ⟨rb, ro, c, pre, post, A2, c2, hpre, hle, hcap, hroom, rfl, rfl⟩
  have hrm : ro + k * 4 + 4 ≤ (pre ++ flat streamT.toTy t.streams ++ post).length := row_room streamT.toTy hpre hk
  repeat (first | ((first | (apply Lq.s; rfl) | apply PRun.s | (apply Lq.run; rfl; rfl; rfl; exact bsB) | (apply PRun.run; rfl; rfl; exact bsB)); first | (exact bsO)) | apply J.seq | apply E.next | apply J.lq | apply Lq.nil | apply PRun.nil | apply J.block | apply E.in_normal | apply J.skip | (apply Lq.store; rfl; rfl; exact bsP; exact bsS; rfl; rfl) | (apply PRun.al; rfl) | (apply Lq.al; rfl; rfl; intro b) | (apply Open.cons; intro b) | apply Open.nil | (apply Lq.pass; rfl; rfl; rfl) | (apply PRun.pass; rfl; rfl) | (apply Lq.skip; rfl; rfl; rfl; exact bsB) | (apply PRun.skip; rfl; rfl; exact bsB) | (apply J.cond_t; rfl) | (apply J.cond_f; rfl) | apply J.exit | apply E.then_exit | apply E.in_exit | (apply E.in_other; rfl))
  revert b
  intro b14
  have hcell : (splice (pre ++ flat streamT.toTy t.streams ++ post) (ro + k * 4 + 3) [is (.slice A2 x.recs.length c2)])[ro + ((k : Int)).toNat * 4 + 3]? = some (is (.slice A2 x.recs.length c2)) := by
    unfold splice
    rw [Int.toNat_natCast, List.append_assoc, List.getElem?_append_right (by rw [List.length_take]; omega), List.length_take, Nat.min_eq_left (by omega), Nat.sub_self]; rfl
  refine J.open (T := recT.toTy) (xs := x.recs) (by exact bsP) hne ?_
  intro r2 o2 cap2 pre2 post2 hR2
  obtain ⟨hv2, hpre2, hle2, hcap2, hroom1, _⟩ := hR2
  injection hv2 with hA2 _ hcc2
  subst hA2; subst hcc2
  have hrm2 : o2 + r * 37 + 37 ≤ (pre2 ++ flat recT.toTy x.recs ++ post2).length := row_room recT.toTy hpre2 hr
  obtain ⟨u, hu0⟩ : ∃ u, q.hash.1[0]? = some u := ⟨_, List.getElem?_eq_getElem (by rw [q.hash.2]; decide)⟩
  refine J.drawW 18 [(none, none), (none, none), (none, none), (none, none), (none, none), (none, none), (none, none), (none, none), (none, none), (none, none), (none, none), (none, none), (none, none), (none, none), (none, none), (none, none), (none, none), (none, none)] mixed (by kernel_rfl) ?_
  repeat (first | ((first | apply PRunW.s | (apply PRunW.run; rfl; rfl; exact bsB) | (apply Lq.s; rfl) | apply PRun.s | (apply Lq.run; rfl; rfl; rfl; exact bsB) | (apply PRun.run; rfl; rfl; exact bsB)); first | (apply op_ocell; rfl; exact bsM; rfl) | (apply op_siaddr; rfl; rfl; omega; omega) | (apply op_faddr stream_recs; rfl; decide) | (apply op_load (slT recT); rfl) | (apply op_len (xs := x.recs); rfl) | (apply op_ocell; rfl; exact bsM; exact hcell) | (apply op_iaddr recT.toTy (x := q); rfl; rfl; exact Int.natCast_nonneg _; (rw [Int.toNat_natCast]; exact hq)) | (apply op_faddr rec_hash; rfl; decide) | (apply op_paddr u8T.toTy (xs := q.hash.1) (x := u); rfl; rfl; decide; decide; exact hu0) | (apply op_load u8T; rfl) | (apply op_xorI (c := ((u ^^^ 1).toNat : Int)); rfl; rfl; exact xor1_is u) | (apply op_oiaddr; rfl; rfl; decide; decide) | (exact bsO)) | apply J.seq | apply E.next | apply J.lq | apply Lq.nil | apply PRun.nil | apply J.block | apply E.in_normal | apply J.skip | (apply Lq.store; rfl; rfl; exact bsP; exact bsS; rfl; rfl) | (apply PRun.al; rfl) | (apply Lq.al; rfl; rfl; intro b) | (apply Open.cons; intro b) | apply Open.nil | (apply Lq.pass; rfl; rfl; rfl) | (apply PRun.pass; rfl; rfl) | (apply Lq.skip; rfl; rfl; rfl; exact bsB) | (apply PRun.skip; rfl; rfl; exact bsB) | (apply J.cond_t; rfl) | (apply J.cond_f; rfl) | apply J.exit | apply E.then_exit | apply E.in_exit | (apply E.in_other; rfl) | apply PRunW.nil | (apply PRunW.al; rfl) | (apply PRunW.pass; rfl; rfl) | (apply PRunW.skip; rfl; rfl; exact bsB) | (apply Open.pv; intro b) | apply Open.av | (apply Open.rv; intro A c))
  (apply Lq.storeE (φs' := pre2 ++ flat recT.toTy (x.recs.set r { q with hash := setH q.hash 0 (u ^^^ 1) }) ++ post2); rfl; rfl; exact bsP; exact Seg.is rfl; rfl; exact (show o2 + r * 37 + 2 + 1 ≤ _ by omega); exact set_fld recT.toTy hpre2 hq (show 2 + 1 ≤ 37 by decide) (rec_byte q (u ^^^ 1)))
  have hln1 : (x.recs.set r { q with hash := setH q.hash 0 (u ^^^ 1) }).length = x.recs.length := List.length_set ..
  have hroom3 : o2 + c2 * 37 ≤ (pre2 ++ flat recT.toTy (x.recs.set r { q with hash := setH q.hash 0 (u ^^^ 1) }) ++ post2).length := by
    refine Nat.le_trans hroom1 (Nat.le_of_eq ?_)
    simp only [List.length_append, flat_len, List.length_set]
  refine Lq.res1 (r := own r2 51 (pre2 ++ flat recT.toTy (x.recs.set r { q with hash := setH q.hash 0 (u ^^^ 1) }) ++ post2)) (by exact bsP) (row_back hpre2 (by rw [hln1]; exact hle2) hcap2 hroom3) ?_
  refine Lq.frzIn (T := recT.toTy) (xs := x.recs.set r { q with hash := setH q.hash 0 (u ^^^ 1) }) (b := rb) (F := pre ++ flat streamT.toTy t.streams ++ post) (j := ro + k * 4 + 3) (by first | exact List.Perm.cons _ (List.Perm.swap _ _ _) | exact List.Perm.refl _) (by rw [hln1]) ?_
  have hF1 : splice (pre ++ flat streamT.toTy t.streams ++ post) (ro + k * 4 + 3) [sl recT.toTy (x.recs.set r { q with hash := setH q.hash 0 (u ^^^ 1) })] = pre ++ flat streamT.toTy (t.streams.set k { x with recs := x.recs.set r { q with hash := setH q.hash 0 (u ^^^ 1) } }) ++ post := set_fld streamT.toTy hpre hxx (Nat.le_of_ble_eq_true rfl) rfl
  refine Lq.res1 (r' := own rb 48 (pre ++ flat streamT.toTy (t.streams.set k { x with recs := x.recs.set r { q with hash := setH q.hash 0 (u ^^^ 1) } }) ++ post)) (List.Perm.refl _) (by rw [hF1]; exact fun H w h => ⟨h, rfl⟩) ?_
  have hln : (t.streams.set k { x with recs := x.recs.set r { q with hash := setH q.hash 0 (u ^^^ 1) } }).length = t.streams.length := List.length_set ..
  have hroom2 : ro + c * 4 ≤ (pre ++ flat streamT.toTy (t.streams.set k { x with recs := x.recs.set r { q with hash := setH q.hash 0 (u ^^^ 1) } }) ++ post).length := by
    refine Nat.le_trans hroom (Nat.le_of_eq ?_)
    simp only [List.length_append, flat_len, List.length_set]
  refine Lq.res1 (r := own rb 48 (pre ++ flat streamT.toTy (t.streams.set k { x with recs := x.recs.set r { q with hash := setH q.hash 0 (u ^^^ 1) } }) ++ post)) (by exact bsP) (row_back hpre (by rw [hln]; exact hle) hcap hroom2) ?_
  refine Lq.res1 (r := own b14 24 [is (.int .i64 t.clock), is (.slice (some ⟨rb, ro, none⟩) t.streams.length c)]) (r' := own b14 24 (splice (stateT.cells t) 1 [is (.slice (some ⟨rb, ro, none⟩) t.streams.length c)])) (by exact bsP) (fun H w h => ⟨h, rfl⟩) ?_
  refine Lq.frzIn (T := streamT.toTy) (xs := t.streams.set k { x with recs := x.recs.set r { q with hash := setH q.hash 0 (u ^^^ 1) } }) (List.Perm.swap _ _ _) (by rw [hln]) ?_
  refine Lq.res1 (r' := own b14 24 (stateT.cells { t with streams := t.streams.set k { x with recs := x.recs.set r { q with hash := setH q.hash 0 (u ^^^ 1) } } })) (List.Perm.refl _) (fun H w h => ⟨h, rfl⟩) ?_
  refine Lq.frzB 14 rfl (List.Perm.refl _) ?_
  clear hln hroom2 hrm hroom hle hcap hpre
  clear hF1 hroom3 hln1 hrm2 hroom1 hcap2 hle2 hpre2 hcell
  repeat (first | ((first | (apply Lq.s; rfl) | apply PRun.s | (apply Lq.run; rfl; rfl; rfl; exact bsB) | (apply PRun.run; rfl; rfl; exact bsB)); first | (exact bsO)) | apply J.seq | apply E.next | apply J.lq | apply Lq.nil | apply PRun.nil | apply J.block | apply E.in_normal | apply J.skip | (apply Lq.store; rfl; rfl; exact bsP; exact bsS; rfl; rfl) | (apply PRun.al; rfl) | (apply Lq.al; rfl; rfl; intro b) | (apply Open.cons; intro b) | apply Open.nil | (apply Lq.pass; rfl; rfl; rfl) | (apply PRun.pass; rfl; rfl) | (apply Lq.skip; rfl; rfl; rfl; exact bsB) | (apply PRun.skip; rfl; rfl; exact bsB) | (apply J.cond_t; rfl) | (apply J.cond_f; rfl) | apply J.exit | apply E.then_exit | apply E.in_exit | (apply E.in_other; rfl))
  (apply Lq.s; rfl; (apply op_load stateT; rfl))
  repeat (first | ((first | (apply Lq.s; rfl) | apply PRun.s | (apply Lq.run; rfl; rfl; rfl; exact bsB) | (apply PRun.run; rfl; rfl; exact bsB)); first | (apply op_load streamT; rfl) | (exact bsO)) | apply J.seq | apply E.next | apply J.lq | apply Lq.nil | apply PRun.nil | apply J.block | apply E.in_normal | apply J.skip | (apply Lq.store; rfl; rfl; exact bsP; exact bsS; rfl; rfl) | (apply PRun.al; rfl) | (apply Lq.al; rfl; rfl; intro b) | (apply Open.cons; intro b) | apply Open.nil | (apply Lq.pass; rfl; rfl; rfl) | (apply PRun.pass; rfl; rfl) | (apply Lq.skip; rfl; rfl; rfl; exact bsB) | (apply PRun.skip; rfl; rfl; exact bsB) | (apply J.cond_t; rfl) | (apply J.cond_f; rfl) | apply J.exit | apply E.then_exit | apply E.in_exit | (apply E.in_other; rfl))
  refine Lq.callS (Δ0 := []) (Δf := []) (with_fnR t k x hk hlg hxr) rfl bsD (List.Perm.refl _) ?_
  rintro _ _ ⟨rb, ro, c, pre, post, A2, c2, hpre, hle, hcap, hroom, rfl, rfl⟩
  have hrm : ro + k * 4 + 4 ≤ (pre ++ flat streamT.toTy t.streams ++ post).length := row_room streamT.toTy hpre hk
  repeat (first | ((first | (apply Lq.s; rfl) | apply PRun.s | (apply Lq.run; rfl; rfl; rfl; exact bsB) | (apply PRun.run; rfl; rfl; exact bsB)); first | (exact bsO)) | apply J.seq | apply E.next | apply J.lq | apply Lq.nil | apply PRun.nil | apply J.block | apply E.in_normal | apply J.skip | (apply Lq.store; rfl; rfl; exact bsP; exact bsS; rfl; rfl) | (apply PRun.al; rfl) | (apply Lq.al; rfl; rfl; intro b) | (apply Open.cons; intro b) | apply Open.nil | (apply Lq.pass; rfl; rfl; rfl) | (apply PRun.pass; rfl; rfl) | (apply Lq.skip; rfl; rfl; rfl; exact bsB) | (apply PRun.skip; rfl; rfl; exact bsB) | (apply J.cond_t; rfl) | (apply J.cond_f; rfl) | apply J.exit | apply E.then_exit | apply E.in_exit | (apply E.in_other; rfl))
  revert b
  intro b15
  have hcell : (splice (pre ++ flat streamT.toTy t.streams ++ post) (ro + k * 4 + 3) [is (.slice A2 x.recs.length c2)])[ro + ((k : Int)).toNat * 4 + 3]? = some (is (.slice A2 x.recs.length c2)) := by
    unfold splice
    rw [Int.toNat_natCast, List.append_assoc, List.getElem?_append_right (by rw [List.length_take]; omega), List.length_take, Nat.min_eq_left (by omega), Nat.sub_self]; rfl
  refine J.open (T := recT.toTy) (xs := x.recs) (by exact bsP) hne ?_
  intro r2 o2 cap2 pre2 post2 hR2
  obtain ⟨hv2, hpre2, hle2, hcap2, hroom1, _⟩ := hR2
  injection hv2 with hA2 _ hcc2
  subst hA2; subst hcc2
  have hrm2 : o2 + r * 37 + 37 ≤ (pre2 ++ flat recT.toTy x.recs ++ post2).length := row_room recT.toTy hpre2 hr
  refine J.drawW 16 [(none, none), (none, none), (none, none), (none, none), (none, none), (none, none), (none, none), (none, none), (none, none), (none, none), (none, none), (none, none), (none, none), (none, none), (none, none), (none, none)] mixed (by kernel_rfl) ?_
  repeat (first | ((first | apply PRunW.s | (apply PRunW.run; rfl; rfl; exact bsB) | (apply Lq.s; rfl) | apply PRun.s | (apply Lq.run; rfl; rfl; rfl; exact bsB) | (apply PRun.run; rfl; rfl; exact bsB)); first | (apply op_ocell; rfl; exact bsM; rfl) | (apply op_siaddr; rfl; rfl; omega; omega) | (apply op_faddr stream_recs; rfl; decide) | (apply op_load (slT recT); rfl) | (apply op_len (xs := x.recs); rfl) | (apply op_ocell; rfl; exact bsM; exact hcell) | (apply op_iaddr recT.toTy (x := q); rfl; rfl; exact Int.natCast_nonneg _; (rw [Int.toNat_natCast]; exact hq)) | (apply op_faddr rec_shredded; rfl; decide) | (apply op_load boolT; rfl) | (exact bsO)) | apply J.seq | apply E.next | apply J.lq | apply Lq.nil | apply PRun.nil | apply J.block | apply E.in_normal | apply J.skip | (apply Lq.store; rfl; rfl; exact bsP; exact bsS; rfl; rfl) | (apply PRun.al; rfl) | (apply Lq.al; rfl; rfl; intro b) | (apply Open.cons; intro b) | apply Open.nil | (apply Lq.pass; rfl; rfl; rfl) | (apply PRun.pass; rfl; rfl) | (apply Lq.skip; rfl; rfl; rfl; exact bsB) | (apply PRun.skip; rfl; rfl; exact bsB) | (apply J.cond_t; rfl) | (apply J.cond_f; rfl) | apply J.exit | apply E.then_exit | apply E.in_exit | (apply E.in_other; rfl) | apply PRunW.nil | (apply PRunW.al; rfl) | (apply PRunW.pass; rfl; rfl) | (apply PRunW.skip; rfl; rfl; exact bsB) | (apply Open.pv; intro b) | apply Open.av | (apply Open.rv; intro A c))
  (apply Lq.storeE (φs' := pre2 ++ flat recT.toTy (x.recs.set r { q with shredded := !q.shredded }) ++ post2); rfl; rfl; exact bsP; exact Seg.is rfl; rfl; exact (show o2 + r * 37 + 36 + 1 ≤ _ by omega); exact set_mark hpre2 hq (!q.shredded))
  have hln1 : (x.recs.set r { q with shredded := !q.shredded }).length = x.recs.length := List.length_set ..
  have hroom3 : o2 + c2 * 37 ≤ (pre2 ++ flat recT.toTy (x.recs.set r { q with shredded := !q.shredded }) ++ post2).length := by
    refine Nat.le_trans hroom1 (Nat.le_of_eq ?_)
    simp only [List.length_append, flat_len, List.length_set]
  refine Lq.res1 (r := own r2 51 (pre2 ++ flat recT.toTy (x.recs.set r { q with shredded := !q.shredded }) ++ post2)) (by exact bsP) (row_back hpre2 (by rw [hln1]; exact hle2) hcap2 hroom3) ?_
  refine Lq.frzIn (T := recT.toTy) (xs := x.recs.set r { q with shredded := !q.shredded }) (b := rb) (F := pre ++ flat streamT.toTy t.streams ++ post) (j := ro + k * 4 + 3) (by first | exact List.Perm.cons _ (List.Perm.swap _ _ _) | exact List.Perm.refl _) (by rw [hln1]) ?_
  have hF1 : splice (pre ++ flat streamT.toTy t.streams ++ post) (ro + k * 4 + 3) [sl recT.toTy (x.recs.set r { q with shredded := !q.shredded })] = pre ++ flat streamT.toTy (t.streams.set k { x with recs := x.recs.set r { q with shredded := !q.shredded } }) ++ post := set_fld streamT.toTy hpre hxx (Nat.le_of_ble_eq_true rfl) rfl
  refine Lq.res1 (r' := own rb 48 (pre ++ flat streamT.toTy (t.streams.set k { x with recs := x.recs.set r { q with shredded := !q.shredded } }) ++ post)) (List.Perm.refl _) (by rw [hF1]; exact fun H w h => ⟨h, rfl⟩) ?_
  have hln : (t.streams.set k { x with recs := x.recs.set r { q with shredded := !q.shredded } }).length = t.streams.length := List.length_set ..
  have hroom2 : ro + c * 4 ≤ (pre ++ flat streamT.toTy (t.streams.set k { x with recs := x.recs.set r { q with shredded := !q.shredded } }) ++ post).length := by
    refine Nat.le_trans hroom (Nat.le_of_eq ?_)
    simp only [List.length_append, flat_len, List.length_set]
  refine Lq.res1 (r := own rb 48 (pre ++ flat streamT.toTy (t.streams.set k { x with recs := x.recs.set r { q with shredded := !q.shredded } }) ++ post)) (by exact bsP) (row_back hpre (by rw [hln]; exact hle) hcap hroom2) ?_
  refine Lq.res1 (r := own b15 24 [is (.int .i64 t.clock), is (.slice (some ⟨rb, ro, none⟩) t.streams.length c)]) (r' := own b15 24 (splice (stateT.cells t) 1 [is (.slice (some ⟨rb, ro, none⟩) t.streams.length c)])) (by exact bsP) (fun H w h => ⟨h, rfl⟩) ?_
  refine Lq.frzIn (T := streamT.toTy) (xs := t.streams.set k { x with recs := x.recs.set r { q with shredded := !q.shredded } }) (List.Perm.swap _ _ _) (by rw [hln]) ?_
  refine Lq.res1 (r' := own b15 24 (stateT.cells { t with streams := t.streams.set k { x with recs := x.recs.set r { q with shredded := !q.shredded } } })) (List.Perm.refl _) (fun H w h => ⟨h, rfl⟩) ?_
  refine Lq.frzB 15 rfl (List.Perm.refl _) ?_
  clear hln hroom2 hrm hroom hle hcap hpre
  clear hF1 hroom3 hln1 hrm2 hroom1 hcap2 hle2 hpre2 hcell
  have hset : ∀ p : Rec, RecOk p → StreamOkF { x with recs := x.recs.set r p } ∧ (x.recs.set r p).length ≤ 1000000 ∧ x.holds.length ≤ 1000000 := fun p hp => ⟨⟨⟨hxf.1.1, hxf.1.2.1, hxf.1.2.2.1, by show (x.recs.set r p).length ≤ _; rw [List.length_set]; exact hxf.1.2.2.2⟩, hxf.2.1, fun z hz => by
    rcases List.mem_or_eq_of_mem_set hz with h1 | h1
    · exact hxf.2.2 z h1
    · rw [h1]; exact hp⟩, by rw [List.length_set]; exact hxr, hxh⟩
  have g1 := grown17_fn t { t with streams := t.streams.set k { x with recs := x.recs.take (x.recs.length - 1) } } hg (good_set hg k ⟨⟨⟨hxf.1.1, hxf.1.2.1, hxf.1.2.2.1, by show (x.recs.take _).length ≤ _; rw [List.length_take]; have := hxf.1.2.2.2; omega⟩, hxf.2.1, fun z hz => hxf.2.2 z (List.mem_of_mem_take hz)⟩, by show (x.recs.take _).length ≤ _; rw [List.length_take]; omega, hxh⟩)
  rw [grown_set hxx, longerS_1 fun h => by
    have h2 : x.recs.length ≤ (x.recs.take (x.recs.length - 1)).length := h.2.2
    rw [List.length_take] at h2; omega] at g1
  have g2 := grown17_fn t { t with streams := t.streams.set k { x with recs := x.recs.set r { q with hash := setH q.hash 0 (u ^^^ 1) } } } hg (good_set hg k (hset _ hqo))
  rw [grown_set hxx, longer_recs hq, recLe_hash (setH_ne hu0 (xor1_ne u))] at g2
  have g3 := grown17_fn t { t with streams := t.streams.set k { x with recs := x.recs.set r { q with shredded := !q.shredded } } } hg (good_set hg k (hset _ hqo))
  rw [grown_set hxx, longer_recs hq, recLe_mark] at g3
  repeat (first | ((first | (apply Lq.s; rfl) | apply PRun.s | (apply Lq.run; rfl; rfl; rfl; exact bsB) | (apply PRun.run; rfl; rfl; exact bsB)); first | (exact bsO)) | apply J.seq | apply E.next | apply J.lq | apply Lq.nil | apply PRun.nil | apply J.block | apply E.in_normal | apply J.skip | (apply Lq.store; rfl; rfl; exact bsP; exact bsS; rfl; rfl) | (apply PRun.al; rfl) | (apply Lq.al; rfl; rfl; intro b) | (apply Open.cons; intro b) | apply Open.nil | (apply Lq.pass; rfl; rfl; rfl) | (apply PRun.pass; rfl; rfl) | (apply Lq.skip; rfl; rfl; rfl; exact bsB) | (apply PRun.skip; rfl; rfl; exact bsB) | (apply J.cond_t; rfl) | (apply J.cond_f; rfl) | apply J.exit | apply E.then_exit | apply E.in_exit | (apply E.in_other; rfl))
  refine J.drawW 26 [(none, none), (none, none), (none, none), (none, none), (none, none), (none, none), (none, none), (none, none), (none, none), (none, none), (none, none), (none, none), (none, none), (none, none), (none, none), (none, none), (none, none), (none, none), (none, none), (none, none), (none, none), (none, none), (none, none), (none, none), (none, none), (none, none)] mixed (by kernel_rfl) ?_
  repeat (first | ((first | apply PRunW.s | (apply PRunW.run; rfl; rfl; exact bsB) | (apply Lq.s; rfl) | apply PRun.s | (apply Lq.run; rfl; rfl; rfl; exact bsB) | (apply PRun.run; rfl; rfl; exact bsB)); first | (apply op_load stateT; rfl) | (apply op_call g1; exact bsD) | (apply op_call g2; exact bsD) | (apply op_call g3; exact bsD) | (apply op_faddr stream_recs; rfl; decide) | (apply op_load (slT recT); rfl) | (apply op_len (xs := x.recs); rfl) | (apply op_iaddr recT.toTy (x := q); rfl; rfl; exact Int.natCast_nonneg _; (rw [Int.toNat_natCast]; exact hq)) | (apply op_faddr rec_shredded; rfl; decide) | (apply op_load boolT; rfl) | (apply op_beqT; rfl; rfl) | (apply op_call lives17_fn; exact bsD) | (exact bsO)) | apply J.seq | apply E.next | apply J.lq | apply Lq.nil | apply PRun.nil | apply J.block | apply E.in_normal | apply J.skip | (apply Lq.store; rfl; rfl; exact bsP; exact bsS; rfl; rfl) | (apply PRun.al; rfl) | (apply Lq.al; rfl; rfl; intro b) | (apply Open.cons; intro b) | apply Open.nil | (apply Lq.pass; rfl; rfl; rfl) | (apply PRun.pass; rfl; rfl) | (apply Lq.skip; rfl; rfl; rfl; exact bsB) | (apply PRun.skip; rfl; rfl; exact bsB) | (apply J.cond_t; rfl) | (apply J.cond_f; rfl) | apply J.exit | apply E.then_exit | apply E.in_exit | (apply E.in_other; rfl) | apply PRunW.nil | (apply PRunW.al; rfl) | (apply PRunW.pass; rfl; rfl) | (apply PRunW.skip; rfl; rfl; exact bsB) | (apply Open.pv; intro b) | apply Open.av | (apply Open.rv; intro A c))
  (refine J.ret ?_; (repeat (first | refine E.then_ret ?_ | refine E.in_ret ?_)))
  exact E.ret1 rfl rfl
end Go.Proofs.Ytbemcehcipkliaa.L
