/-
  Rules of the logic: functions that own memory, machine words, arrays, rows of bytes, texts.
-/
import Derived.Test.YtljdjagackdplaaDoorDt
import Derived.Laws.IdiomStrings
import Derived.Laws.AppendOwn
import Derived.Laws.OwnMore
import Derived.Laws.MakeOwn
set_option linter.unusedVariables false
set_option linter.unusedSimpArgs false
namespace Go.Proofs.YtljdjagackdplaaDoor.L
open Go
set_option linter.unusedSectionVars false
variable [Globs]

/-! ### Functions that own memory -/
def blks (Δ : List Res) : List Nat := Δ.filterMap Res.blk
def RetR (H0 : IH) (w0 : World) (X : List Nat) (post : Pr → List Res → Prop) (e : Ending) (w' : World) : Prop :=
  ∃ v H' ψ Δ', e = .returned v ∧ post ψ Δ' ∧ ψ.h H' v ∧ Sat H' w' ∧ (∀ r ∈ Δ', r.ok H' w') ∧ (blks Δ').Nodup ∧ (∀ b ∈ blks Δ', b < w'.heap.size ∧ (b ∈ X ∨ w0.heap.size ≤ b)) ∧ IH.le H0 H' ∧ Fr X w0 w' ∧ ∀ b o, b < w0.heap.size → b ∉ X → H' b o = H0 b o
structure FnR (P : Program) (f : Nat) (φs : List Pr) (Δ0 : List Res) (post : Pr → List Res → Prop) : Prop where
  ent : Enters P f
  run : ∀ H w vs, Sat H w → All2 (fun φ v => φ.h H v) φs vs → (∀ r ∈ Δ0, r.ok H w) → (blks Δ0).Nodup → (∀ b ∈ blks Δ0, b < w.heap.size) → Calls P f vs.toArray w (RetR H w (blks Δ0) post)
theorem FnR.to {P : Program} {f : Nat} {φs : List Pr} {Δ0 : List Res} {post post' : Pr → List Res → Prop} (F : FnR P f φs Δ0 post) (h : ∀ ψ Δ, post ψ Δ → post' ψ Δ) : FnR P f φs Δ0 post' :=
  ⟨F.ent, fun H w vs hs ha hr hn hb => (F.run H w vs hs ha hr hn hb).mono fun e w' ⟨v, H', ψ, Δ', he, hp, k⟩ => ⟨v, H', ψ, Δ', he, h _ _ hp, k⟩⟩
theorem FnR.mk' {P : Program} {f : Nat} {fn : Func} {c : Code} {φs : List Pr} {Δ0 : List Res} {post : Pr → List Res → Prop} (n : Nat) (hf : P.funcs[f]? = some fn) (hb : fn.body = some c) (hn : (fn.name == "runtime.NumGoroutine") = false) (hk : fn.ntmps = n) (hle : Nat.ble φs.length n = true)
    (h : ∀ w0 H0, J ⟨P, n, w0, H0, blks Δ0, none, []⟩ (argE 0 φs) Δ0 c (bodyPost P fn (RetR H0 w0 (blks Δ0) post))) : FnR P f φs Δ0 post where
  ent := enters_of hf hn (by rw [hb]; rfl)
  run := fun H w vs hs hvs hr hnd hlt => by
    have hlen := hvs.length
    have hle := Nat.le_of_ble_eq_true hle
    refine callsIn_wide.1 (callsIn_of_wp (F := Fence.wide) (n := 0) hf hb trivial (h w H H _ w ?_))
    subst hk
    refine ⟨rfl, by simp; omega, fun t ψ ht => ?_, hs, hr, hnd, fun b hb => ⟨hlt b hb, .inl hb⟩, IH.le_refl _, Fr.refl _ _, fun _ _ _ _ => rfl⟩
    obtain ⟨v, _, hv, hψ⟩ := look_argE φs vs 0 t ψ hvs ht
    have hlt := (List.getElem?_eq_some_iff.1 hv).1
    refine ⟨v, ?_, hψ⟩
    simp only [Nat.sub_zero] at hv hlt
    rw [Array.getElem?_append_left (by simpa using hlt)]
    simpa using hv

section
variable {P : Program} {n : Nat} {w0 : World} {H0 : IH} {X : List Nat} {Γ : Env} {Δ : List Res} {fn : Func} {post : Pr → List Res → Prop}
theorem St.retR {H : IH} {a : Act} {w : World} (S : St ⟨P, n, w0, H0, X, none, []⟩ Γ Δ H a w) {Δ' G : List Res} (hΔ : Δ.Perm (Δ' ++ G)) :
    Sat H w ∧ (∀ r ∈ Δ', r.ok H w) ∧ (blks Δ').Nodup ∧ (∀ b ∈ blks Δ', b < w.heap.size ∧ (b ∈ X ∨ w0.heap.size ≤ b)) ∧ IH.le H0 H ∧ Fr X w0 w ∧ ∀ b o, b < w0.heap.size → b ∉ X → H b o = H0 b o := by
  have hf := hΔ.filterMap Res.blk
  rw [List.filterMap_append] at hf
  have hnd := hf.nodup_iff.1 S.dis
  exact ⟨S.sat, fun r hr => S.res r (hΔ.mem_iff.2 (List.mem_append_left _ hr)), (List.nodup_append.1 hnd).1, fun b hb => S.own b (hf.mem_iff.2 (List.mem_append_left _ hb)), S.le, S.fr, S.hk⟩
theorem E.retR0 (e : Exit) (he : e = .ret ∨ e = .normal) {ψ : Pr} {Δ' G : List Res} (hr : fn.results = #[]) (hψ : ∀ H, ψ.h H (.tuple #[])) (hp : post ψ Δ') (hΔ : Δ.Perm (Δ' ++ G)) : E ⟨P, n, w0, H0, X, none, []⟩ e Γ Δ (bodyPost P fn (RetR H0 w0 X post)) := fun H a w S => by
  have R := S.retR hΔ
  rcases he with rfl | rfl
  · exact ⟨S.dfr, _, results_none hr a.tmps P w, _, H, ψ, Δ', rfl, hp, hψ H, R⟩
  · exact ⟨S.dfr, _, results_none hr a.tmps P w, _, H, ψ, Δ', rfl, hp, hψ H, R⟩
theorem E.retR1 {r : Nat} {ψ : Pr} {Δ' G : List Res} (hr : fn.results = #[.tmp r]) (h : look Γ r = some ψ) (hp : post ψ Δ') (hΔ : Δ.Perm (Δ' ++ G)) : E ⟨P, n, w0, H0, X, none, []⟩ .ret Γ Δ (bodyPost P fn (RetR H0 w0 X post)) := fun H a w S => by
  obtain ⟨v, hv, hψ⟩ := S.env r ψ h
  refine ⟨S.dfr, v, ?_, v, H, ψ, Δ', rfl, hp, hψ, S.retR hΔ⟩
  rw [results_tmp hr a.tmps P w, getD_of hv]
theorem results_cell {α : Type} (T : Td α) {x : α} {r t b e : Nat} {φs : List Pr} {H : IH} {w : World} (tmps : Array Value) (hr : fn.results = #[.cell r t]) (hv : tmps[r]? = some (.pointer (some ⟨b, 0, none⟩))) (ho : (own b e φs).ok H w) [TSz P t T.sz] [TAg P t T.ag] (hx : φs.take T.sz = T.cells x) :
    ∃ v, (results fn tmps).run P w = .ok v w ∧ (T.val x).h H v := by
  obtain ⟨cs, hh, hcs⟩ := own_cells ho
  have hcs2 := hcs.take T.sz
  rw [hx] at hcs2
  have hl : (cs.take T.sz).length = T.sz := by rw [← hcs2.length, T.len]
  have hload := run_loadVar (P := P) (t := t) (n := T.sz) (ag := T.ag) w b 0 (cs.take T.sz) hl T.one fun j v hj => by
    rw [cell_at hh]
    rw [List.getElem?_take] at hj
    split at hj
    · rwa [Nat.zero_add]
    · cases hj
  have hin := T.inn hcs2
  generalize hg : (if T.ag = true then Value.agg (List.take T.sz cs).toArray else (List.take T.sz cs).headD undef) = res at hload hin
  refine ⟨res, ?_, hin⟩
  simp [results, hr, hv, asAddr, hload]
theorem E.retRc {α : Type} (T : Td α) {x : α} {r t b e : Nat} {φs : List Pr} {Δ' G : List Res} (hr : fn.results = #[.cell r t]) (h : look Γ r = some (is (.pointer (some ⟨b, 0, none⟩)))) (hm : own b e φs ∈ Δ) [TSz P t T.sz] [TAg P t T.ag] (hx : φs.take T.sz = T.cells x) (hp : post (T.val x) Δ') (hΔ : Δ.Perm (Δ' ++ G)) :
    E ⟨P, n, w0, H0, X, none, []⟩ .ret Γ Δ (bodyPost P fn (RetR H0 w0 X post)) := fun H a w S => by
  obtain ⟨v, hv, rfl⟩ := S.env r _ h
  obtain ⟨u, hu, hφ⟩ := results_cell (P := P) T a.tmps hr hv (S.res _ hm) hx
  exact ⟨S.dfr, u, hu, u, H, _, Δ', rfl, hp, hφ, S.retR hΔ⟩
theorem E.retc {α : Type} (T : Td α) {x : α} {r t b e : Nat} {φs : List Pr} {ψ : Pr} (hr : fn.results = #[.cell r t]) (h : look Γ r = some (is (.pointer (some ⟨b, 0, none⟩)))) (hm : own b e φs ∈ Δ) [TSz P t T.sz] [TAg P t T.ag] (hx : φs.take T.sz = T.cells x) (hp : ψ = T.val x) :
    E ⟨P, n, w0, H0, [], none, []⟩ .ret Γ Δ (bodyPost P fn (RetP H0 w0 ψ)) := fun H a w S => by
  obtain ⟨v, hv, rfl⟩ := S.env r _ h
  obtain ⟨u, hu, hφ⟩ := results_cell (P := P) T a.tmps hr hv (S.res _ hm) hx
  exact ⟨S.dfr, u, hu, u, H, rfl, S.ext, hp ▸ hφ⟩
end

section
variable {C : Cx} {Γ : Env} {Δ : List Res} {ops : Array Oper} {rest : List Oper} {Q : Exit → Act → World → Prop} {ty : Nat} {pos : String} {af : Array Edge}
theorem Lq.callR {d : Option Nat} {f : Nat} {φs : List Pr} {Δ0 Δf : List Res} {post : Pr → List Res → Prop} {xs : List Operand} {ats : Array Nat} (F : FnR C.P f φs Δ0 post) (hd : ∀ x, d = some x → x < C.n) (h : opds Γ xs φs) (hp : Δ.Perm (Δ0 ++ Δf))
    (k : ∀ ψ Δ', post ψ Δ' → Lq C (putΓ Γ d ψ) (Δ' ++ Δf) ops rest Q) : Lq C Γ Δ ops (⟨d, .call ⟨.value (.func f), xs.toArray, ats⟩, ty, pos, af, none⟩ :: rest) Q := by
  intro H a w S
  refine wpL_plain rfl (fun c hc => by cases hc) fun K hK => ?_
  have hargs := opds.all (ρ := a.eval) (H := H) h (fun x hxx ψ hψ => S.opd hψ)
  have hrun : (execOp a.eval ⟨d, .call ⟨.value (.func f), xs.toArray, ats⟩, ty, pos, af, none⟩).run C.P w = .ok (.enter f (xs.map a.eval).toArray) w := by
    have h1 : (callFunc f ((#[] ++ xs.toArray.map a.eval) ++ #[])).run C.P w = .ok (.enter f (xs.map a.eval).toArray) w := by
      rw [Array.empty_append, Array.append_empty, List.map_toArray]
      exact F.ent.h _ w
    exact h1
  have hf : (blks Δ).Perm (blks Δ0 ++ blks Δf) := by
    have := hp.filterMap Res.blk
    rwa [List.filterMap_append] at this
  have hnd := hf.nodup_iff.1 S.dis
  obtain ⟨hn0, hnf, hdis⟩ := List.nodup_append.1 hnd
  unfold Oper.wp
  rw [hrun]
  rw [Oper.upon_enter]
  refine (F.run H w _ S.sat hargs (fun r hr => S.res r (hp.mem_iff.2 (List.mem_append_left _ hr))) hn0 (fun b hb => (S.own b (hf.mem_iff.2 (List.mem_append_left _ hb))).1)).mono fun e w' hR => ?_
  obtain ⟨v, H', ψ, Δ', rfl, hpost, hψ, hsat, hok, hnd', hblk, hle, hfr, hkk⟩ := hR
  have hfo : ∀ b ∈ blks Δf, b < w.heap.size ∧ b ∉ blks Δ0 := fun b hb => ⟨(S.own b (hf.mem_iff.2 (List.mem_append_right _ hb))).1, fun h0 => hdis b h0 b hb rfl⟩
  have hS : St C Γ (Δ' ++ Δf) H' a w' := by
    refine ⟨S.dfr, S.siz, fun t φ ht => ?_, hsat, fun r hr => ?_, ?_, fun b hb => ?_, IH.le_trans S.le hle, ?_, fun b o hb hx => ?_⟩
    · obtain ⟨u, hu, hφ⟩ := S.env t φ ht
      exact ⟨u, hu, φ.mono hle hφ⟩
    · rcases List.mem_append.1 hr with hr | hr
      · exact hok r hr
      · refine r.st hle (fun b hb => ?_) (S.res r (hp.mem_iff.2 (List.mem_append_right _ hr)))
        obtain ⟨h1, h2⟩ := hfo b (List.mem_filterMap.2 ⟨r, hr, hb⟩)
        exact ⟨hfr.block b h1 h2, fun o => hkk b o h1 h2⟩
    · show (List.filterMap Res.blk (Δ' ++ Δf)).Nodup
      rw [List.filterMap_append]
      refine List.nodup_append.2 ⟨hnd', hnf, fun x hx y hy he => ?_⟩
      subst he
      obtain ⟨h1, h2⟩ := hfo x hy
      rcases (hblk x hx).2 with h3 | h3
      · exact h2 h3
      · omega
    · have hb : b ∈ List.filterMap Res.blk (Δ' ++ Δf) := hb
      rw [List.filterMap_append] at hb
      rcases List.mem_append.1 hb with hb | hb
      · refine ⟨(hblk b hb).1, ?_⟩
        rcases (hblk b hb).2 with h3 | h3
        · exact (S.own b (hf.mem_iff.2 (List.mem_append_left _ h3))).2
        · exact .inr (Nat.le_trans S.fr.size h3)
      · have := S.own b (hf.mem_iff.2 (List.mem_append_right _ hb))
        exact ⟨Nat.lt_of_lt_of_le this.1 hfr.size, this.2⟩
    · refine ⟨hfr.os.trans S.fr.os, hfr.tape.trans S.fr.tape, hfr.output.trans S.fr.output, Nat.le_trans S.fr.size hfr.size, fun j hj hjX => ?_⟩
      refine (hfr.block j (Nat.lt_of_lt_of_le hj S.fr.size) fun h0 => ?_).trans (S.fr.block j hj hjX)
      rcases (S.own j (hf.mem_iff.2 (List.mem_append_left _ h0))).2 with h | h
      · exact hjX h
      · omega
    · refine (hkk b o (Nat.lt_of_lt_of_le hb S.fr.size) fun h0 => ?_).trans (S.hk b o hb hx)
      rcases (S.own b (hf.mem_iff.2 (List.mem_append_left _ h0))).2 with h | h
      · exact hx h
      · omega
  refine hK _ _ (k ψ Δ' hpost H' _ w' ?_)
  have E := Ext.refl hsat
  cases d with
  | none => exact hS.putN E v
  | some d => exact hS.put E d (hd d rfl) v ψ hψ
/-- A guard that holds. -/
theorem Lq.wanted {o : Oper} {j g : Nat} {want : Bool} (hg : o.guard = some (j, want)) (hj : gslot ops j = some g) (hl : look Γ g = some (is (.bool want))) (k : Lq C Γ Δ ops ({ o with guard := none } :: rest) Q) : Lq C Γ Δ ops (o :: rest) Q := by
  intro H a w S
  obtain ⟨v, hv, hψ⟩ := S.env g _ hl
  have hv' : v = .bool want := hψ
  subst hv'
  have hk := k H a w S
  unfold wpListIn at hk ⊢
  rw [if_pos (show Region.wanted { o with guard := none } _ = true from rfl)] at hk
  rw [if_pos (by simp [Region.wanted, hg, yielded_of hj hv])]
  exact hk
end
end Go.Proofs.YtljdjagackdplaaDoor.L
