/-
  States, cloned and seen, walked.
-/
import Derived.Test.YtljbbajelkkafaaDoorMr
namespace Go.Proofs.YtljbbajelkkafaaDoor.L
open Go
set_option linter.unusedSectionVars false
variable [Globs] [Has_sha_table] [Has_sha_begin]
set_option linter.unusedVariables false
theorem recsR_app (xs ys : List MO) : recsR (xs ++ ys) = recsR xs ++ recsR ys := List.map_append
theorem recsR_mem {xs : List MO} {i : Nat} {x : MO} (h : xs[i]? = some x) : recR x ∈ recsR xs := List.mem_map.2 ⟨x, List.mem_of_getElem? h, rfl⟩
theorem take_set_snoc {α : Type} {l : List α} {i : Nat} (h : i < l.length) (v : α) : (l.set i v).take (i + 1) = l.take i ++ [v] := by
  rw [List.take_add_one, List.getElem?_set_self h, List.take_set_of_le (Nat.le_refl _)]; rfl
set_option linter.unusedVariables false
set_option linter.unusedSimpArgs false
attribute [local irreducible] J Lq E OpP PRun is any agg tup ptr sl PRunW OpE
attribute [local irreducible] slt row leafH shaH recsR OpR
set_option maxHeartbeats 2000000 in
theorem mclone_fnR (clock : Int) (A : Option Addr) (c : Nat) (xs : List MO) (hl : xs.length ≤ 1000) (hg : ∀ x ∈ xs, x.1.recs.length ≤ 1000 ∧ x.1.holds.length ≤ 1000) : FnR Tryd.prog 55 [(stO A xs.length c).val clock] (stL A c xs)
    (fun ψ Δ => ∃ A' c' ys, ys.map (·.1) = xs.map (·.1) ∧ ψ = (stO A' ys.length c').val clock ∧ Δ = stL A' c' ys ++ stL A c xs) := by
  refine FnR.mk' 37 Tryd.func55 rfl rfl rfl rfl fun w0 H0 => ?_
  unfold stL
  apply J.seq
  apply J.lq
  refine Lq.box rfl rfl (Seg.val (stO A xs.length c) clock) ?_
  intro sb
  repeat (first | ((first | (apply Lq.s; rfl) | apply PRun.s | (apply Lq.run; rfl; rfl; rfl; exact bsB) | (apply PRun.run; rfl; rfl; exact bsB)); first | (exact bsO)) | apply J.seq | apply E.next | apply J.lq | apply Lq.nil | apply PRun.nil | apply J.block | apply E.in_normal | apply J.skip | (apply Lq.store; rfl; rfl; exact bsP; exact bsS; rfl; rfl) | (apply PRun.al; rfl) | (apply Lq.al; rfl; rfl; intro b) | (apply Open.cons; intro b) | apply Open.nil | (apply Lq.pass; rfl; rfl; rfl) | (apply PRun.pass; rfl; rfl) | (apply Lq.skip; rfl; rfl; rfl; exact bsB) | (apply PRun.skip; rfl; rfl; exact bsB) | (apply J.cond_t; rfl) | (apply J.cond_f; rfl) | apply J.exit | apply E.then_exit | apply E.in_exit | (apply E.in_other; rfl))
  revert b
  intro rb
  repeat (first | ((first | (apply Lq.s; rfl) | apply PRun.s | (apply Lq.run; rfl; rfl; rfl; exact bsB) | (apply PRun.run; rfl; rfl; exact bsB)); first | (apply op_ocell; rfl; exact bsM; rfl) | (apply op_slen; rfl) | (exact bsO)) | apply J.seq | apply E.next | apply J.lq | apply Lq.nil | apply PRun.nil | apply J.block | apply E.in_normal | apply J.skip | (apply Lq.store; rfl; rfl; exact bsP; exact bsS; rfl; rfl) | (apply PRun.al; rfl) | (apply Lq.al; rfl; rfl; intro b) | (apply Open.cons; intro b) | apply Open.nil | (apply Lq.pass; rfl; rfl; rfl) | (apply PRun.pass; rfl; rfl) | (apply Lq.skip; rfl; rfl; rfl; exact bsB) | (apply PRun.skip; rfl; rfl; exact bsB) | (apply J.cond_t; rfl) | (apply J.cond_f; rfl) | apply J.exit | apply E.then_exit | apply E.in_exit | (apply E.in_other; rfl))
  refine Lq.callS (Δ0 := [_]) (Δf := own rb 64 _ :: own sb 64 _ :: recsR xs) (msclone_fnR xs (by omega) A c 79) rfl bsD (permP [[_], [_], [_], _] [0, 1, 2, 3] [2, 0, 1, 3] (by decide)) ?_
  rintro _ _ ⟨A', c', rfl, rfl⟩
  repeat (first | ((first | (apply Lq.s; rfl) | apply PRun.s | (apply Lq.run; rfl; rfl; rfl; exact bsB) | (apply PRun.run; rfl; rfl; exact bsB)); first | (apply op_ocell; rfl; exact bsM; rfl) | (apply op_slen; rfl) | (exact bsO)) | apply J.seq | apply E.next | apply J.lq | apply Lq.nil | apply PRun.nil | apply J.block | apply E.in_normal | apply J.skip | (apply Lq.store; rfl; rfl; exact bsP; exact bsS; rfl; rfl) | (apply PRun.al; rfl) | (apply Lq.al; rfl; rfl; intro b) | (apply Open.cons; intro b) | apply Open.nil | (apply Lq.pass; rfl; rfl; rfl) | (apply PRun.pass; rfl; rfl) | (apply Lq.skip; rfl; rfl; rfl; exact bsB) | (apply PRun.skip; rfl; rfl; exact bsB) | (apply J.cond_t; rfl) | (apply J.cond_f; rfl) | apply J.exit | apply E.then_exit | apply E.in_exit | (apply E.in_other; rfl))
  have hflat : recsR ([] : List MO) = [] := by unfold recsR; rfl
  refine J.loop (fun p : Nat × List MO => p.1 ≤ xs.length ∧ p.2.map (·.1) = xs.map (·.1) ∧ ∀ j, p.1 ≤ j → p.2[j]? = xs[j]?)
    (fun p => [(1, is (.pointer (some ⟨sb, 0, none⟩))), (2, is (.pointer (some ⟨rb, 0, none⟩))), (11, is (.int .i64 (xs.length : Int))), (12, is (.int .i64 (p.1 : Int)))])
    (fun p => own rb 64 [is (.int .i64 0), is (.slice none 0 0)] :: own sb 64 [is (.int .i64 clock), is (.slice A' p.2.length c')] :: row (.slice A' p.2.length c') 79 mstrO.toTy p.2 :: row (.slice A xs.length c) 79 mstrO.toTy xs :: (recsR (p.2.take p.1) ++ recsR xs))
    (fun p => xs.length - p.1) (0, xs) ⟨Nat.zero_le _, rfl, fun _ _ => rfl⟩ ⟨(by repeat' (first | exact trivial | refine ⟨rfl, ?_⟩)), [], by
      dsimp only
      rw [List.take_zero, hflat, List.nil_append, List.append_nil]
      exact permP [[_], [_], [_], [_], _] [0, 1, 2, 3, 4] [3, 0, 1, 2, 4] (by decide)⟩ ?_
  rintro ⟨i, zs⟩ ⟨hi, hm, hrest⟩
  dsimp only at hi hm hrest ⊢
  have hzl : zs.length = xs.length := by have := congrArg List.length hm; rwa [List.length_map, List.length_map] at this
  by_cases hlt : i < xs.length
  · obtain ⟨x, hx⟩ : ∃ x, xs[i]? = some x := ⟨_, List.getElem?_eq_getElem hlt⟩
    have hzx : zs[i]? = some x := (hrest i (Nat.le_refl _)).trans hx
    obtain ⟨hgr, hgh⟩ := hg x (List.mem_of_getElem? hx)
    have hmem : row (.slice x.2.1 x.1.recs.length x.2.2) 81 mrecT.toTy x.1.recs ∈ recsR xs := recsR_mem hx
    refine J.open (Δ' := own rb 64 _ :: own sb 64 _ :: row _ _ _ _ :: (recsR (zs.take i) ++ recsR xs)) (permP [[_], [_], [_], [_], _] [0, 1, 2, 3, 4] [2, 0, 1, 3, 4] (by decide)) (by intro h; rw [h] at hzl; simp at hzl; omega) ?_
    intro nb no cap pre post hR
    obtain ⟨hv, hpre, hle, hcap, hroom, _⟩ := hR
    injection hv with hA _ hc
    subst hA; subst hc
    repeat (first | ((first | (apply Lq.s; rfl) | apply PRun.s | (apply Lq.run; rfl; rfl; rfl; exact bsB) | (apply PRun.run; rfl; rfl; exact bsB)); first | (apply op_ocell; rfl; exact bsM; rfl) | (apply op_slen; rfl) | (apply op_siaddr; rfl; rfl; omega; omega) | (exact bsO)) | apply J.seq | apply E.next | apply J.lq | apply Lq.nil | apply PRun.nil | apply J.block | apply E.in_normal | apply J.skip | (apply Lq.store; rfl; rfl; exact bsP; exact bsS; rfl; rfl) | (apply PRun.al; rfl) | (apply Lq.al; rfl; rfl; intro b) | (apply Open.cons; intro b) | apply Open.nil | (apply Lq.pass; rfl; rfl; rfl) | (apply PRun.pass; rfl; rfl) | (apply Lq.skip; rfl; rfl; rfl; exact bsB) | (apply PRun.skip; rfl; rfl; exact bsB) | (apply J.cond_t; rfl) | (apply J.cond_f; rfl) | apply J.exit | apply E.then_exit | apply E.in_exit | (apply E.in_other; rfl))
    refine J.drawW1 15 [(none, none), (none, none), (none, none), (none, none), (none, none), (some 4, some 4), (none, none), (none, none), (none, none), (none, none), (some 4, some 4), (none, some 30), (none, none), (none, none), (some 4, some 4)] 4 (itemK (own nb 79 (pre ++ flat mstrO.toTy zs ++ post))) rfl (List.Perm.refl _) mixed (by kernel_rfl) ?_
    refine PRunW.s (op_move rfl) ?_
    refine PRunW.s (op_move rfl) ?_
    refine PRunW.s (op_move rfl) ?_
    refine PRunW.s (op_nilCheck rfl) ?_
    refine PRunW.s (op_ofaddr rfl (by decide)) ?_
    refine PRunW.ldG (slT strT) (v := x.1.holds) (by decide) itemK_fst rfl rfl (by rw [Int.toNat_natCast]; exact at_rfld mstrO.toTy (k := 2) (m := 1) hpre hzx (show 2 + 1 ≤ 4 by decide)) ?_
    refine PRunW.s (op_call (sclone_fn x.1.holds (by omega)) bsD) ?_
    refine PRunW.s (op_move rfl) ?_
    refine PRunW.s (op_nilCheck rfl) ?_
    refine PRunW.s (op_ofaddr rfl (by decide)) ?_
    refine PRunW.ldC (φ := is (.slice x.2.1 x.1.recs.length x.2.2)) (by decide) itemK_fst rfl rfl (by rw [Int.toNat_natCast]; exact cell_rfld mstrO.toTy (k := 3) hpre hzx (show 3 < 4 by decide)) ?_
    have hF := mrclone_fnR x.1.recs (by omega)
    refine PRunW.mk (R := fun v => row v 81 mrecT.toTy x.1.recs) (φ := anySl x.1.recs.length) anySl_row ?opr ?_
    case opr =>
      exact opR_lend plain_mrec hF rfl (List.mem_cons_of_mem _ (List.mem_cons_of_mem _ (List.mem_cons_of_mem _ (List.mem_append_right _ hmem))))
    refine PRunW.s (op_nilCheck rfl) ?_
    refine PRunW.s (op_ofaddr rfl (by decide)) ?_
    refine PRunW.stG (R1 := itemK (own nb 79 (pre ++ flat mstrO.toTy zs ++ post))) (seg := [sl strT.toTy x.1.holds]) itemK_own rfl rfl rfl Seg.sl rfl (by rw [Int.toNat_natCast]; exact room_rfld mstrO.toTy (k := 2) (n := 1) hpre hzx (show 2 + 1 ≤ 4 by decide)) (by rw [Int.toNat_natCast]; have := set_rfld mstrO.toTy (post := post) (seg := [sl strT.toTy x.1.holds]) (v := x) hpre hzx (k := 2) (show 2 + 1 ≤ 4 by decide) rfl; rw [set_same hzx] at this; exact this) ?_
    refine PRunW.nil (Open.kv (v := .bool true) fun _ => Open.rv fun A2 c2 => Open.nil ?_)
    repeat (first | ((first | (apply Lq.s; rfl) | apply PRun.s | (apply Lq.run; rfl; rfl; rfl; exact bsB) | (apply PRun.run; rfl; rfl; exact bsB)); first | (exact bsO)) | apply J.seq | apply E.next | apply J.lq | apply Lq.nil | apply PRun.nil | apply J.block | apply E.in_normal | apply J.skip | (apply Lq.store; rfl; rfl; exact bsP; exact bsS; rfl; rfl) | (apply PRun.al; rfl) | (apply Lq.al; rfl; rfl; intro b) | (apply Open.cons; intro b) | apply Open.nil | (apply Lq.pass; rfl; rfl; rfl) | (apply PRun.pass; rfl; rfl) | (apply Lq.skip; rfl; rfl; rfl; exact bsB) | (apply PRun.skip; rfl; rfl; exact bsB) | (apply J.cond_t; rfl) | (apply J.cond_f; rfl) | apply J.exit | apply E.then_exit | apply E.in_exit | (apply E.in_other; rfl))
    refine Lq.storeE (φs' := pre ++ flat mstrO.toTy (zs.set i (x.1, A2, c2)) ++ post) rfl rfl (List.Perm.swap _ _ _) (Seg.is rfl) rfl (by rw [Int.toNat_natCast]; exact room_rfld mstrO.toTy (k := 3) (n := 1) hpre hzx (show 3 + 1 ≤ 4 by decide)) (by rw [Int.toNat_natCast]; exact set_rfld mstrO.toTy (post := post) (v := (x.1, A2, c2)) hpre hzx (k := 3) (show 3 + 1 ≤ 4 by decide) rfl) ?_
    repeat (first | ((first | (apply Lq.s; rfl) | apply PRun.s | (apply Lq.run; rfl; rfl; rfl; exact bsB) | (apply PRun.run; rfl; rfl; exact bsB)); first | (apply op_add (c := ((i + 1 : Nat) : Int)); rfl; rfl; (rw [show (i : Int) + 1 = ((i + 1 : Nat) : Int) by omega]; apply wrapi <;> omega)) | (exact bsO)) | apply J.seq | apply E.next | apply J.lq | apply Lq.nil | apply PRun.nil | apply J.block | apply E.in_normal | apply J.skip | (apply Lq.store; rfl; rfl; exact bsP; exact bsS; rfl; rfl) | (apply PRun.al; rfl) | (apply Lq.al; rfl; rfl; intro b) | (apply Open.cons; intro b) | apply Open.nil | (apply Lq.pass; rfl; rfl; rfl) | (apply PRun.pass; rfl; rfl) | (apply Lq.skip; rfl; rfl; rfl; exact bsB) | (apply PRun.skip; rfl; rfl; exact bsB) | (apply J.cond_t; rfl) | (apply J.cond_f; rfl) | apply J.exit | apply E.then_exit | apply E.in_exit | (apply E.in_other; rfl))
    refine E.close mstrO.toTy (zs.set i (x.1, A2, c2)) (b := nb) (o := no) (cap := c') (List.Perm.refl _) (set_len' mstrO.toTy hroom) (by rw [List.length_set]; exact hle) hcap (take_rowT mstrO.toTy hpre) ?_
    have hlen2 : (zs.set i (x.1, A2, c2)).length = zs.length := List.length_set
    exact E.again (i + 1, zs.set i (x.1, A2, c2)) (by dsimp only; omega) ⟨by dsimp only; omega, by
        dsimp only
        rw [List.map_set, hm]
        exact set_same (by rw [List.getElem?_map, hx]; rfl), fun j hj => by
        dsimp only at hj ⊢
        rw [List.getElem?_set_ne (by omega)]
        exact hrest j (by omega)⟩ ⟨(by repeat' (first | exact trivial | refine ⟨rfl, ?_⟩)), [], by
        dsimp only
        rw [take_set_snoc (by omega), recsR_app, List.append_nil, hlen2, show recsR [(x.1, A2, c2)] = [row (.slice A2 x.1.recs.length c2) 81 mrecT.toTy x.1.recs] by unfold recsR; rfl, List.append_assoc]
        exact permP [[_], [_], [_], [_], [_], _, _] [0, 1, 2, 3, 4, 5, 6] [2, 3, 0, 4, 5, 1, 6] (by decide)⟩
  obtain rfl : i = xs.length := by omega
  rw [List.take_of_length_le (by omega)]
  repeat (first | ((first | (apply Lq.s; rfl) | apply PRun.s | (apply Lq.run; rfl; rfl; rfl; exact bsB) | (apply PRun.run; rfl; rfl; exact bsB)); first | (apply op_ocell; rfl; exact bsM; rfl) | (apply op_slen; rfl) | (apply op_oload (stO A' zs.length c') (x := clock); rfl; exact bsM; rfl) | (exact bsO)) | apply J.seq | apply E.next | apply J.lq | apply Lq.nil | apply PRun.nil | apply J.block | apply E.in_normal | apply J.skip | (apply Lq.store; rfl; rfl; exact bsP; exact bsS; rfl; rfl) | (apply PRun.al; rfl) | (apply Lq.al; rfl; rfl; intro b) | (apply Open.cons; intro b) | apply Open.nil | (apply Lq.pass; rfl; rfl; rfl) | (apply PRun.pass; rfl; rfl) | (apply Lq.skip; rfl; rfl; rfl; exact bsB) | (apply PRun.skip; rfl; rfl; exact bsB) | (apply J.cond_t; rfl) | (apply J.cond_f; rfl) | apply J.exit | apply E.then_exit | apply E.in_exit | (apply E.in_other; rfl))
  (refine J.ret ?_; (repeat (first | refine E.then_ret ?_ | refine E.in_ret ?_)))
  exact E.retRc (stO A' zs.length c') (x := clock) (Δ' := row (.slice A' zs.length c') 79 mstrO.toTy zs :: (recsR zs ++ row (.slice A xs.length c) 79 mstrO.toTy xs :: recsR xs)) (G := [_, _]) rfl rfl (by exact bsM) rfl ⟨A', c', zs, hm, rfl, rfl⟩ (by
    have := permP [[own rb 64 (splice [is (.int .i64 0), is (.slice none 0 0)] 0 ((stO A' zs.length c').cells clock))], [own sb 64 [is (.int .i64 clock), is (.slice A' zs.length c')]], [row (.slice A' zs.length c') 79 mstrO.toTy zs], [row (.slice A xs.length c) 79 mstrO.toTy xs], recsR zs, recsR xs] [0, 1, 2, 3, 4, 5] [2, 4, 3, 5, 0, 1] (by decide)
    simp only [List.cons_append, List.append_assoc, List.nil_append]
    exact this)
set_option maxHeartbeats 2000000 in
theorem mview_fnR (clock : Int) (A : Option Addr) (c : Nat) (xs : List MO) (hl : xs.length ≤ 1000) (hg : ∀ x ∈ xs, x.1.recs.length ≤ 1000 ∧ x.1.holds.length ≤ 1000) : FnR Tryd.prog 31 [(stO A xs.length c).val clock] (stL A c xs)
    (fun ψ Δ => ψ = viewT.val ⟨clock, xs.map fun x => x.1.v⟩ ∧ Δ = stL A c xs) := by
  refine FnR.mk' 50 Tryd.func31 rfl rfl rfl rfl fun w0 H0 => ?_
  unfold stL
  refine J.nilrow 70 seenT.toTy ?_
  apply J.seq
  apply J.lq
  refine Lq.box rfl rfl (Seg.val (stO A xs.length c) clock) ?_
  intro sb
  repeat (first | ((first | (apply Lq.s; rfl) | apply PRun.s | (apply Lq.run; rfl; rfl; rfl; exact bsB) | (apply PRun.run; rfl; rfl; exact bsB)); first | (apply op_ocell; rfl; exact bsM; rfl) | (apply op_slen; rfl) | (exact bsO)) | apply J.seq | apply E.next | apply J.lq | apply Lq.nil | apply PRun.nil | apply J.block | apply E.in_normal | apply J.skip | (apply Lq.store; rfl; rfl; exact bsP; exact bsS; rfl; rfl) | (apply PRun.al; rfl) | (apply Lq.al; rfl; rfl; intro b) | (apply Open.cons; intro b) | apply Open.nil | (apply Lq.pass; rfl; rfl; rfl) | (apply PRun.pass; rfl; rfl) | (apply Lq.skip; rfl; rfl; rfl; exact bsB) | (apply PRun.skip; rfl; rfl; exact bsB) | (apply J.cond_t; rfl) | (apply J.cond_f; rfl) | apply J.exit | apply E.then_exit | apply E.in_exit | (apply E.in_other; rfl))
  revert b
  intro vb
  revert b
  intro rb
  obtain ⟨VS, hVS⟩ : ∃ l, l = xs.map fun x => x.1.v := ⟨_, rfl⟩
  have hVl : VS.length = xs.length := by rw [hVS, List.length_map]
  rw [← hVS]
  refine J.loop (fun p : Nat × Option Addr × Nat => p.1 ≤ xs.length)
    (fun p => [(1, is (.pointer (some ⟨sb, 0, none⟩))), (2, is (.pointer (some ⟨rb, 0, none⟩))), (3, is (.pointer (some ⟨vb, 0, none⟩))), (13, is (.slice A xs.length c)), (14, is (.int .i64 (xs.length : Int))), (15, is (.int .i64 (p.1 : Int)))])
    (fun p => own vb 45 [is (.int .i64 clock), is (.slice p.2.1 (VS.take p.1).length p.2.2)] :: own rb 45 [is (.int .i64 0), is (.slice none 0 0)] :: own sb 64 ((stO A xs.length c).cells clock) :: row (.slice p.2.1 (VS.take p.1).length p.2.2) 70 seenT.toTy (VS.take p.1) :: row (.slice A xs.length c) 79 mstrO.toTy xs :: recsR xs)
    (fun p => xs.length - p.1) (0, none, 0) (Nat.zero_le _) (Sub.same (by repeat' (first | exact trivial | refine ⟨rfl, ?_⟩))) ?_
  rintro ⟨i, A3, c3⟩ hi
  dsimp only at hi ⊢
  by_cases hlt : i < xs.length
  · obtain ⟨x, hx⟩ : ∃ x, xs[i]? = some x := ⟨_, List.getElem?_eq_getElem hlt⟩
    obtain ⟨hgr, hgh⟩ := hg x (List.mem_of_getElem? hx)
    have hpk := recsR_pick hx
    have hVx : VS.take i ++ [x.1.v] = VS.take (i + 1) := by rw [hVS]; exact map_take_snoc (fun x : MO => x.1.v) hx
    have hVi : (VS.take i).length = i := by rw [List.length_take]; omega
    refine J.open (Δ' := own vb 45 _ :: own rb 45 _ :: own sb 64 _ :: row _ _ _ _ :: recsR xs) (permP [[_], [_], [_], [_], [_], _] [0, 1, 2, 3, 4, 5] [4, 0, 1, 2, 3, 5] (by decide)) (by intro h; rw [h] at hlt; simp at hlt) ?_
    intro nb no cap pre post hR
    obtain ⟨hv, hpre, hle, hcap, hroom, _⟩ := hR
    injection hv with hA _ hc
    subst hA; subst hc
    repeat (first | ((first | (apply Lq.s; rfl) | apply PRun.s | (apply Lq.run; rfl; rfl; rfl; exact bsB) | (apply PRun.run; rfl; rfl; exact bsB)); first | (apply op_siaddr; rfl; rfl; omega; omega) | (apply op_oload mstrO (x := x); rfl; exact bsM; exact at_row mstrO.toTy hpre (by rw [Int.toNat_natCast]; exact hx)) | (exact bsO)) | apply J.seq | apply E.next | apply J.lq | apply Lq.nil | apply PRun.nil | apply J.block | apply E.in_normal | apply J.skip | (apply Lq.store; rfl; rfl; exact bsP; exact bsS; rfl; rfl) | (apply PRun.al; rfl) | (apply Lq.al; rfl; rfl; intro b) | (apply Open.cons; intro b) | apply Open.nil | (apply Lq.pass; rfl; rfl; rfl) | (apply PRun.pass; rfl; rfl) | (apply Lq.skip; rfl; rfl; rfl; exact bsB) | (apply PRun.skip; rfl; rfl; exact bsB) | (apply J.cond_t; rfl) | (apply J.cond_f; rfl) | apply J.exit | apply E.then_exit | apply E.in_exit | (apply E.in_other; rfl))
    revert b
    intro xb
    refine J.close mstrO.toTy xs (b := nb) (o := no) (cap := c) (Δ' := own xb 79 _ :: own vb 45 _ :: own rb 45 _ :: own sb 64 _ :: row _ _ _ _ :: recsR xs) (List.Perm.swap _ _ _) hroom hle hcap (take_rowT mstrO.toTy hpre) ?_
    refine J.drawW 9 [(none, none), (none, none), (none, none), (none, none), (none, none), (none, none), (none, none), (none, none), (none, some 6)] mixed (by kernel_rfl) ?_
    repeat (first | ((first | apply PRunW.s | (apply PRunW.run; rfl; rfl; exact bsB) | (apply Lq.s; rfl) | apply PRun.s | (apply Lq.run; rfl; rfl; rfl; exact bsB) | (apply PRun.run; rfl; rfl; exact bsB)); first | (apply op_ocell; rfl; exact bsM; rfl) | (apply op_slen; rfl) | (apply op_call (sclone_fn x.1.holds (by omega)); exact bsD) | (exact bsO)) | apply J.seq | apply E.next | apply J.lq | apply Lq.nil | apply PRun.nil | apply J.block | apply E.in_normal | apply J.skip | (apply Lq.store; rfl; rfl; exact bsP; exact bsS; rfl; rfl) | (apply PRun.al; rfl) | (apply Lq.al; rfl; rfl; intro b) | (apply Open.cons; intro b) | apply Open.nil | (apply Lq.pass; rfl; rfl; rfl) | (apply PRun.pass; rfl; rfl) | (apply Lq.skip; rfl; rfl; rfl; exact bsB) | (apply PRun.skip; rfl; rfl; exact bsB) | (apply J.cond_t; rfl) | (apply J.cond_f; rfl) | apply J.exit | apply E.then_exit | apply E.in_exit | (apply E.in_other; rfl) | apply PRunW.nil | (apply PRunW.al; rfl) | (apply PRunW.pass; rfl; rfl) | (apply PRunW.skip; rfl; rfl; exact bsB) | (apply Open.pv; intro b) | apply Open.av | (apply Open.rv; intro A c))
    revert b
    intro yb
    repeat (first | ((first | (apply Lq.s; rfl) | apply PRun.s | (apply Lq.run; rfl; rfl; rfl; exact bsB) | (apply PRun.run; rfl; rfl; exact bsB)); first | (apply op_ocell; rfl; exact bsM; rfl) | (apply op_slen; rfl) | (exact bsO)) | apply J.seq | apply E.next | apply J.lq | apply Lq.nil | apply PRun.nil | apply J.block | apply E.in_normal | apply J.skip | (apply Lq.store; rfl; rfl; exact bsP; exact bsS; rfl; rfl) | (apply PRun.al; rfl) | (apply Lq.al; rfl; rfl; intro b) | (apply Open.cons; intro b) | apply Open.nil | (apply Lq.pass; rfl; rfl; rfl) | (apply PRun.pass; rfl; rfl) | (apply Lq.skip; rfl; rfl; rfl; exact bsB) | (apply PRun.skip; rfl; rfl; exact bsB) | (apply J.cond_t; rfl) | (apply J.cond_f; rfl) | apply J.exit | apply E.then_exit | apply E.in_exit | (apply E.in_other; rfl))
    obtain ⟨D, hD⟩ : ∃ D, D = row (.slice (some ⟨nb, no, none⟩) xs.length c) 79 mstrO.toTy xs :: own vb 45 [is (.int .i64 clock), is (.slice A3 (VS.take i).length c3)] :: own rb 45 [is (.int .i64 0), is (.slice none 0 0)] :: own sb 64 [is (.int .i64 clock), is (.slice (some ⟨nb, no, none⟩) xs.length c)] :: row (.slice A3 (VS.take i).length c3) 70 seenT.toTy (VS.take i) :: recsR (xs.eraseIdx i) := ⟨_, rfl⟩
    obtain ⟨RV, hRV⟩ : ∃ l, l = x.1.recs.map MRec.v := ⟨_, rfl⟩
    have hRl : RV.length = x.1.recs.length := by rw [hRV, List.length_map]
    have hxv : x.1.v = ⟨x.1.name, x.1.retain, x.1.holds, RV⟩ := by rw [hRV]; rfl
    refine J.nilrow 73 recVT.toTy ?_
    refine J.loop (fun p : Nat × Option Addr × Nat => p.1 ≤ x.1.recs.length)
      (fun p => [(1, is (.pointer (some ⟨sb, 0, none⟩))), (2, is (.pointer (some ⟨rb, 0, none⟩))), (3, is (.pointer (some ⟨vb, 0, none⟩))), (13, is (.slice (some ⟨nb, no, none⟩) xs.length c)), (14, is (.int .i64 (xs.length : Int))), (15, is (.int .i64 (i : Int))), (6, is (.pointer (some ⟨yb, 0, none⟩))), (28, is (.slice x.2.1 x.1.recs.length x.2.2)), (29, is (.int .i64 (x.1.recs.length : Int))), (30, is (.int .i64 (p.1 : Int)))])
      (fun p => own yb 70 [is (str x.1.name), is (.int .i64 x.1.retain), sl strT.toTy x.1.holds, is (.slice p.2.1 (RV.take p.1).length p.2.2)] :: row (.slice x.2.1 x.1.recs.length x.2.2) 81 mrecT.toTy x.1.recs :: row (.slice p.2.1 (RV.take p.1).length p.2.2) 73 recVT.toTy (RV.take p.1) :: D)
      (fun p => x.1.recs.length - p.1) (0, none, 0) (Nat.zero_le _) ⟨(by repeat' (first | exact trivial | refine ⟨rfl, ?_⟩)), [own xb 79 _], by
        rw [hD]
        refine (permP [[_], [_], [_], [_], [_], [_], [_], [_], _] [0, 1, 2, 3, 4, 5, 6, 7, 8] [1, 0, 3, 4, 5, 6, 7, 2, 8] (by decide)).trans ?_
        refine (List.Perm.append_left [_, _, _, _, _, _, _, _] hpk).trans ?_
        exact permP [[_], [_], [_], [_], [_], [_], [_], [_], [_], _] [0, 1, 2, 3, 4, 5, 6, 7, 8, 9] [0, 8, 1, 7, 3, 4, 5, 6, 9, 2] (by decide)⟩ ?_
    rintro ⟨k, A4, c4⟩ hk
    dsimp only at hk ⊢
    have hRi : (RV.take k).length = k := by rw [List.length_take]; omega
    by_cases hlk : k < x.1.recs.length
    · obtain ⟨r, hr⟩ : ∃ r, x.1.recs[k]? = some r := ⟨_, List.getElem?_eq_getElem hlk⟩
      have hRx : RV.take k ++ [r.v] = RV.take (k + 1) := by rw [hRV]; exact map_take_snoc MRec.v hr
      refine J.open (List.Perm.swap _ _ _) (by intro h; rw [h] at hlk; simp at hlk) ?_
      intro ob oo ocap pre2 post2 hR2
      obtain ⟨hv2, hpre2, hle2, hcap2, hroom2, _⟩ := hR2
      injection hv2 with hA2 _ hc2
      rw [hA2, hc2]
      repeat (first | ((first | (apply Lq.s; rfl) | apply PRun.s | (apply Lq.run; rfl; rfl; rfl; exact bsB) | (apply PRun.run; rfl; rfl; exact bsB)); first | (apply op_siaddr; rfl; rfl; omega; omega) | (apply op_oload mrecT (x := r); rfl; exact bsM; exact at_row mrecT.toTy hpre2 (by rw [Int.toNat_natCast]; exact hr)) | (exact bsO)) | apply J.seq | apply E.next | apply J.lq | apply Lq.nil | apply PRun.nil | apply J.block | apply E.in_normal | apply J.skip | (apply Lq.store; rfl; rfl; exact bsP; exact bsS; rfl; rfl) | (apply PRun.al; rfl) | (apply Lq.al; rfl; rfl; intro b) | (apply Open.cons; intro b) | apply Open.nil | (apply Lq.pass; rfl; rfl; rfl) | (apply PRun.pass; rfl; rfl) | (apply Lq.skip; rfl; rfl; rfl; exact bsB) | (apply PRun.skip; rfl; rfl; exact bsB) | (apply J.cond_t; rfl) | (apply J.cond_f; rfl) | apply J.exit | apply E.then_exit | apply E.in_exit | (apply E.in_other; rfl))
      (apply Lq.storeE (φs' := mrecT.cells r); rfl; rfl; exact List.Perm.refl _; exact Seg.val _ _; exact mrecT.len _; exact Nat.le_refl 35; exact splice_all (by rw [mrecT.len]; rfl))
      repeat (first | ((first | (apply Lq.s; rfl) | apply PRun.s | (apply Lq.run; rfl; rfl; rfl; exact bsB) | (apply PRun.run; rfl; rfl; exact bsB)); first | (apply op_ocell; rfl; exact bsM; rfl) | (apply op_slen; rfl) | (apply op_oload recVT (x := r.v); rfl; exact bsM; rfl) | (apply op_bslice recVT (xs := [r.v]); (repeat (first | exact PO.nil _ | (apply PO.cons; rfl))); rfl; rfl; rfl) | (exact bsO)) | apply J.seq | apply E.next | apply J.lq | apply Lq.nil | apply PRun.nil | apply J.block | apply E.in_normal | apply J.skip | (apply Lq.store; rfl; rfl; exact bsP; exact bsS; rfl; rfl) | (apply PRun.al; rfl) | (apply Lq.al; rfl; rfl; intro b) | (apply Open.cons; intro b) | apply Open.nil | (apply Lq.pass; rfl; rfl; rfl) | (apply PRun.pass; rfl; rfl) | (apply Lq.skip; rfl; rfl; rfl; exact bsB) | (apply PRun.skip; rfl; rfl; exact bsB) | (apply J.cond_t; rfl) | (apply J.cond_f; rfl) | apply J.exit | apply E.then_exit | apply E.in_exit | (apply E.in_other; rfl))
      (apply Lq.append (T := recVT) (xs := RV.take k) (ys := [r.v]); rfl; exact permP [[_], [_], [_], [_], _] [0, 1, 2, 3, 4] [3, 0, 1, 2, 4] (by decide); (apply From.sl; rfl); rfl; rfl; rfl; (show _ + 1 ≤ maxLen; unfold maxLen; omega); (show (_ + 1) * 32 ≤ _; omega))
      intro A5 c5
      rw [hRx]
      repeat (first | ((first | (apply Lq.s; rfl) | apply PRun.s | (apply Lq.run; rfl; rfl; rfl; exact bsB) | (apply PRun.run; rfl; rfl; exact bsB)); first | (apply op_add (c := ((k + 1 : Nat) : Int)); rfl; rfl; (rw [show (k : Int) + 1 = ((k + 1 : Nat) : Int) by omega]; apply wrapi <;> omega)) | (exact bsO)) | apply J.seq | apply E.next | apply J.lq | apply Lq.nil | apply PRun.nil | apply J.block | apply E.in_normal | apply J.skip | (apply Lq.store; rfl; rfl; exact bsP; exact bsS; rfl; rfl) | (apply PRun.al; rfl) | (apply Lq.al; rfl; rfl; intro b) | (apply Open.cons; intro b) | apply Open.nil | (apply Lq.pass; rfl; rfl; rfl) | (apply PRun.pass; rfl; rfl) | (apply Lq.skip; rfl; rfl; rfl; exact bsB) | (apply PRun.skip; rfl; rfl; exact bsB) | (apply J.cond_t; rfl) | (apply J.cond_f; rfl) | apply J.exit | apply E.then_exit | apply E.in_exit | (apply E.in_other; rfl))
      refine E.close mrecT.toTy x.1.recs (b := ob) (o := oo) (cap := ocap) (Δ' := own yb 70 _ :: row _ _ _ _ :: own _ 81 _ :: D) (permP [[_], [_], [_], [_], _] [0, 1, 2, 3, 4] [3, 0, 1, 2, 4] (by decide)) hroom2 hle2 hcap2 (take_rowT mrecT.toTy hpre2) ?_
      exact E.again (k + 1, A5, c5) (by dsimp only; omega) (by dsimp only; omega) ⟨(by repeat' (first | exact trivial | refine ⟨rfl, ?_⟩)), [_], by
        dsimp only
        exact permP [[_], [_], [_], [_], _] [0, 1, 2, 3, 4] [1, 0, 2, 4, 3] (by decide)⟩
    · obtain rfl : k = x.1.recs.length := by omega
      have hRt : RV.take x.1.recs.length = RV := List.take_of_length_le (by omega)
      rw [hRt, hD]
      repeat (first | ((first | (apply Lq.s; rfl) | apply PRun.s | (apply Lq.run; rfl; rfl; rfl; exact bsB) | (apply PRun.run; rfl; rfl; exact bsB)); first | (apply op_ocell; rfl; exact bsM; rfl) | (apply op_slen; rfl) | (apply op_oload (consT (is (str x.1.name)) [is (.int .i64 x.1.retain), sl strT.toTy x.1.holds, is (.slice A4 RV.length c4)]) (x := ()); rfl; exact bsM; rfl) | (exact bsO)) | apply J.seq | apply E.next | apply J.lq | apply Lq.nil | apply PRun.nil | apply J.block | apply E.in_normal | apply J.skip | (apply Lq.store; rfl; rfl; exact bsP; exact bsS; rfl; rfl) | (apply PRun.al; rfl) | (apply Lq.al; rfl; rfl; intro b) | (apply Open.cons; intro b) | apply Open.nil | (apply Lq.pass; rfl; rfl; rfl) | (apply PRun.pass; rfl; rfl) | (apply Lq.skip; rfl; rfl; rfl; exact bsB) | (apply PRun.skip; rfl; rfl; exact bsB) | (apply J.cond_t; rfl) | (apply J.cond_f; rfl) | apply J.exit | apply E.then_exit | apply E.in_exit | (apply E.in_other; rfl))
      refine Lq.frzA (v := .slice A4 RV.length c4) (e := 73) (T := recVT.toTy) (xs := RV) 44 3 rfl rfl (permP [[_], [_], [_], _] [0, 1, 2, 3] [2, 0, 1, 3] (by decide)) ?_
      repeat (first | ((first | (apply Lq.s; rfl) | apply PRun.s | (apply Lq.run; rfl; rfl; rfl; exact bsB) | (apply PRun.run; rfl; rfl; exact bsB)); first | (apply op_bslice seenT (xs := [x.1.v]); (exact PO.cons (by rw [hxv]; rfl) (PO.nil _)); rfl; rfl; rfl) | (exact bsO)) | apply J.seq | apply E.next | apply J.lq | apply Lq.nil | apply PRun.nil | apply J.block | apply E.in_normal | apply J.skip | (apply Lq.store; rfl; rfl; exact bsP; exact bsS; rfl; rfl) | (apply PRun.al; rfl) | (apply Lq.al; rfl; rfl; intro b) | (apply Open.cons; intro b) | apply Open.nil | (apply Lq.pass; rfl; rfl; rfl) | (apply PRun.pass; rfl; rfl) | (apply Lq.skip; rfl; rfl; rfl; exact bsB) | (apply PRun.skip; rfl; rfl; exact bsB) | (apply J.cond_t; rfl) | (apply J.cond_f; rfl) | apply J.exit | apply E.then_exit | apply E.in_exit | (apply E.in_other; rfl))
      (apply Lq.append (T := seenT) (xs := VS.take i) (ys := [x.1.v]); rfl; exact permP [[_], [_], [_], [_], [_], [_], [_], _] [0, 1, 2, 3, 4, 5, 6, 7] [6, 0, 1, 2, 3, 4, 5, 7] (by decide); (apply From.sl; rfl); rfl; rfl; rfl; (show _ + 1 ≤ maxLen; unfold maxLen; omega); (show (_ + 1) * 72 ≤ _; omega))
      intro A5 c5
      rw [hVx]
      repeat (first | ((first | (apply Lq.s; rfl) | apply PRun.s | (apply Lq.run; rfl; rfl; rfl; exact bsB) | (apply PRun.run; rfl; rfl; exact bsB)); first | (apply op_add (c := ((i + 1 : Nat) : Int)); rfl; rfl; (rw [show (i : Int) + 1 = ((i + 1 : Nat) : Int) by omega]; apply wrapi <;> omega)) | (exact bsO)) | apply J.seq | apply E.next | apply J.lq | apply Lq.nil | apply PRun.nil | apply J.block | apply E.in_normal | apply J.skip | (apply Lq.store; rfl; rfl; exact bsP; exact bsS; rfl; rfl) | (apply PRun.al; rfl) | (apply Lq.al; rfl; rfl; intro b) | (apply Open.cons; intro b) | apply Open.nil | (apply Lq.pass; rfl; rfl; rfl) | (apply PRun.pass; rfl; rfl) | (apply Lq.skip; rfl; rfl; rfl; exact bsB) | (apply PRun.skip; rfl; rfl; exact bsB) | (apply J.cond_t; rfl) | (apply J.cond_f; rfl) | apply J.exit | apply E.then_exit | apply E.in_exit | (apply E.in_other; rfl))
      exact E.again (i + 1, A5, c5) (by dsimp only; omega) (by dsimp only; omega) ⟨(by repeat' (first | exact trivial | refine ⟨rfl, ?_⟩)), [own yb 70 _], by
        dsimp only
        refine (permP [[_], [_], [_], [_], [_], [_], [_], _] [0, 1, 2, 3, 4, 5, 6, 7] [0, 5, 6, 1, 4, 2, 3, 7] (by decide)).trans ?_
        refine (List.Perm.append_left [_, _, _, _, _, _] hpk.symm).trans ?_
        exact permP [[_], [_], [_], [_], [_], [_], _] [0, 1, 2, 3, 4, 5, 6] [0, 1, 2, 3, 4, 6, 5] (by decide)⟩
  · obtain rfl : i = xs.length := by omega
    have hVt : VS.take xs.length = VS := List.take_of_length_le (by omega)
    rw [hVt]
    repeat (first | ((first | (apply Lq.s; rfl) | apply PRun.s | (apply Lq.run; rfl; rfl; rfl; exact bsB) | (apply PRun.run; rfl; rfl; exact bsB)); first | (exact bsO)) | apply J.seq | apply E.next | apply J.lq | apply Lq.nil | apply PRun.nil | apply J.block | apply E.in_normal | apply J.skip | (apply Lq.store; rfl; rfl; exact bsP; exact bsS; rfl; rfl) | (apply PRun.al; rfl) | (apply Lq.al; rfl; rfl; intro b) | (apply Open.cons; intro b) | apply Open.nil | (apply Lq.pass; rfl; rfl; rfl) | (apply PRun.pass; rfl; rfl) | (apply Lq.skip; rfl; rfl; rfl; exact bsB) | (apply PRun.skip; rfl; rfl; exact bsB) | (apply J.cond_t; rfl) | (apply J.cond_f; rfl) | apply J.exit | apply E.then_exit | apply E.in_exit | (apply E.in_other; rfl))
    refine Lq.s rfl (op_oload (consT (is (.int .i64 clock)) [is (.slice A3 VS.length c3)]) (x := ()) rfl (by exact bsM) rfl) ?_
    refine Lq.frzA (v := .slice A3 VS.length c3) (e := 70) (T := seenT.toTy) (xs := VS) 49 1 rfl rfl (permP [[_], [_], [_], [_], _] [0, 1, 2, 3, 4] [3, 0, 1, 2, 4] (by decide)) ?_
    repeat (first | ((first | (apply Lq.s; rfl) | apply PRun.s | (apply Lq.run; rfl; rfl; rfl; exact bsB) | (apply PRun.run; rfl; rfl; exact bsB)); first | (exact bsO)) | apply J.seq | apply E.next | apply J.lq | apply Lq.nil | apply PRun.nil | apply J.block | apply E.in_normal | apply J.skip | (apply Lq.store; rfl; rfl; exact bsP; exact bsS; rfl; rfl) | (apply PRun.al; rfl) | (apply Lq.al; rfl; rfl; intro b) | (apply Open.cons; intro b) | apply Open.nil | (apply Lq.pass; rfl; rfl; rfl) | (apply PRun.pass; rfl; rfl) | (apply Lq.skip; rfl; rfl; rfl; exact bsB) | (apply PRun.skip; rfl; rfl; exact bsB) | (apply J.cond_t; rfl) | (apply J.cond_f; rfl) | apply J.exit | apply E.then_exit | apply E.in_exit | (apply E.in_other; rfl))
    (refine J.ret ?_; (repeat (first | refine E.then_ret ?_ | refine E.in_ret ?_)))
    exact E.retRc viewT (x := ⟨clock, VS⟩) (Δ' := _ :: recsR xs) (G := [_, _, _]) rfl rfl (by exact bsM) rfl ⟨rfl, rfl⟩ (by
      exact permP [[_], [_], [_], [_], _] [0, 1, 2, 3, 4] [3, 4, 0, 1, 2] (by decide))
end Go.Proofs.YtljbbajelkkafaaDoor.L
