/-
  Rules for regions in any order: owned things that move from slot to slot;calls that yield a row and something more.
-/
import Derived.Test.YtljbbajelkkafaaDoorLv
set_option linter.unusedVariables false
set_option linter.unusedSimpArgs false
namespace Go.Proofs.YtljbbajelkkafaaDoor.L
open Go
set_option linter.unusedSectionVars false
variable [Globs]
/-- What a tuple's first part names. -/
def itemT (R:Item):Item:=fun v=>match v with
  | .tuple cs=>R (cs.getD 0 undef)
  | _=>bot
section
variable {P:Program} {ops:Array Oper} {Γ:Env} {Δ:List Res} {rest:List Oper} {op:Op} {ty:Nat} {pos:String} {af:Array Edge} {φ:Pr} {K:Env→Fresh→Prop} {F:Fresh} {ts:List (Option Nat × Option Nat)}
theorem opE_take {s d:Nat} {R R':Item} (hrun : ∀ (H:IH) (a:Act) (w:World) (u:Value),(∀ x ∈ op.operands, ∀ ψ,opd Γ x=some ψ→ψ.h H (a.eval x))→a.tmps[s]?=some u→(R u).ok H w → ∃ v,(execOp a.eval ⟨some d,op,ty,pos,af,none⟩).run P w = .ok (.value v) w∧φ.h H v∧R' v=R u) :
    OpE P Γ Δ ⟨some d,op,ty,pos,af,none⟩ φ ⟨some (s,R),some (d,R')⟩:=by
  intro H a w Q K hx hs hr hb hsz hc hK
  obtain ⟨u,hu,hok,hbk⟩:=hc s _ rfl
  obtain ⟨v,hv,hφ,hR⟩:=hrun H a w u hx hu hok
  unfold Oper.wp
  rw [hv]
  refine hK v H w (IH.le_refl _) (fun _ _ _ _=>rfl) hs rfl rfl rfl (Nat.le_refl _) (fun _ _ _=>rfl) hφ fun p R2 hp=>?_
  injection hp with hp
  injection hp with h1 h2
  subst h1;subst h2
  exact ⟨v,by simp [Act.put,hsz d rfl],by rw [hR];exact hok,fun b hb => .inl ⟨s,R,u,rfl,hu,by rw [← hR];exact hb⟩⟩
theorem PRunW.mv {s d:Nat} {R:Item} (hne:Nat.beq s d=false) (h:look Γ s=some φ) (hF:lkF F s=some R) (k:PRunW P ops Δ rest ts ((d,φ)::Γ) ((d,R)::dropS (dropS F s) d) K):PRunW P ops Δ (⟨some d, .move (.tmp s),ty,pos,af,none⟩::rest) ((some s,some d)::ts) Γ F K:=by
  refine PRunW.e (φ:=φ) ⟨some (s,R),some (d,R)⟩ (opE_take fun H a w u hx hu _=>⟨u,?_,?_,rfl⟩) (fun s' R2 h=>by injection h with h;injection h with h1 h2;subst h1;subst h2;exact hF) (fun _ h=>?_) k
  · have:a.eval (.tmp s)=u:=by simp [Act.eval,hu]
    rw [← this];rfl
  · have:=hx (.tmp s) (by simp [Op.operands]) φ h
    simpa [Act.eval,hu] using this
  · exact absurd (Option.some.inj h) (Nat.ne_of_beq_eq_false hne)
theorem PRunW.asg {s d:Nat} {R:Item} (hne:Nat.beq s d=false) (h:look Γ s=some φ) (hF:lkF F s=some R) (k:PRunW P ops Δ rest ts ((d,φ)::Γ) ((d,R)::dropS (dropS F s) d) K):PRunW P ops Δ (⟨some d, .assign (.tmp s),ty,pos,af,none⟩::rest) ((some s,some d)::ts) Γ F K:=by
  refine PRunW.e (φ:=φ) ⟨some (s,R),some (d,R)⟩ (opE_take fun H a w u hx hu _=>⟨u,?_,?_,rfl⟩) (fun s' R2 h=>by injection h with h;injection h with h1 h2;subst h1;subst h2;exact hF) (fun _ h=>?_) k
  · have:a.eval (.tmp s)=u:=by simp [Act.eval,hu]
    rw [← this];rfl
  · have:=hx (.tmp s) (by simp [Op.operands]) φ h
    simpa [Act.eval,hu] using this
  · exact absurd (Option.some.inj h) (Nat.ne_of_beq_eq_false hne)
theorem PRunW.ex0 {s d:Nat} {R:Item} {ps:List Pr} (hne:Nat.beq s d=false) (h:look Γ s=some (tup ps)) (hi:ps[0]?=some φ) (hF:lkF F s=some (itemT R)) (k:PRunW P ops Δ rest ts ((d,φ)::Γ) ((d,R)::dropS (dropS F s) d) K):PRunW P ops Δ (⟨some d, .extract (.tmp s) 0,ty,pos,af,none⟩::rest) ((some s,some d)::ts) Γ F K:=by
  refine PRunW.e (φ:=φ) ⟨some (s,itemT R),some (d,R)⟩ (opE_take fun H a w u hx hu _=>?_) (fun s' R2 h=>by injection h with h;injection h with h1 h2;subst h1;subst h2;exact hF) (fun _ h=>?_) k
  · have h1:=hx (.tmp s) (by simp [Op.operands]) (tup ps) h
    have he:a.eval (.tmp s)=u:=by simp [Act.eval,hu]
    rw [he] at h1
    obtain ⟨cs,rfl,hcs⟩:=h1
    obtain ⟨v,hvi,hφ⟩:=hcs.get 0 φ hi
    refine ⟨v,?_,hφ,?_⟩
    · simp only [execOp,he]
      refine run_value ?_
      simp only [Instr.extract,List.getElem?_toArray,hvi]
      rfl
    · show R v=R (cs.toArray.getD 0 undef)
      congr 1
      simp [hvi]
  · exact absurd (Option.some.inj h) (Nat.ne_of_beq_eq_false hne)
theorem PRunW.callT {α:Type} {T:Ty α} {l:List α} {e f d:Nat} {χ:Pr} {φs:List Pr} {xs:List Operand} {ats:Array Nat} (Fn:FnR P f φs [] (fun ψ Δ => ∃ A c,ψ=tup [is (.slice A l.length c),χ]∧Δ=[row (.slice A l.length c) e T l])) (h:opds Γ xs φs)
    (k:PRunW P ops Δ rest ts ((d,tup [anySl l.length,χ])::Γ) ((d,itemT fun v=>row v e T l)::dropS F d) K):PRunW P ops Δ (⟨some d, .call ⟨.value (.func f),xs.toArray,ats⟩,ty,pos,af,none⟩::rest) ((none,some d)::ts) Γ F K:=by
  refine PRunW.e (φ:=tup [anySl l.length,χ]) ⟨none,some (d,itemT fun v=>row v e T l)⟩ ?_ (fun _ _ h=>(by cases h)) (fun _ h=>(by cases h)) k
  intro H a w Q K hx hs hr hb hsz hc hK
  have hargs:=opds.all (ρ:=a.eval) (H:=H) h (fun x hxx ψ hψ=>hx x (by simp [Op.operands,Call.operands,hxx]) ψ hψ)
  have hrun:(execOp a.eval ⟨some d, .call ⟨.value (.func f),xs.toArray,ats⟩,ty,pos,af,none⟩).run P w = .ok (.enter f (xs.map a.eval).toArray) w:=by
    have h1:(callFunc f ((#[]++xs.toArray.map a.eval) ++ #[])).run P w = .ok (.enter f (xs.map a.eval).toArray) w:=by
      rw [Array.empty_append,Array.append_empty,List.map_toArray]
      exact Fn.ent.h _ w
    exact h1
  unfold Oper.wp
  rw [hrun]
  rw [Oper.upon_enter]
  refine (Fn.run H w _ hs hargs (fun r hr=>by cases hr) List.nodup_nil (fun b hb=>by cases hb)).mono fun e' w' hR=>?_
  obtain ⟨v,H',ψ,Δ',rfl,⟨A,c,rfl,rfl⟩,hψ,hsat,hok,hnd',hblk,hle,hfr,hkk⟩:=hR
  obtain ⟨cs,rfl,hcs⟩:=hψ
  match cs,hcs with
  | [v1,v2],⟨h1,h2,_⟩ =>
    have h1:v1 = .slice A l.length c:=h1
    subst h1
    refine hK _ H' w' hle (fun b o hb _=>hkk b o hb (by simp [blks])) hsat hfr.os hfr.tape hfr.output hfr.size (fun k hk _=>hfr.block k hk (by simp [blks])) ⟨_,rfl,⟨A,c,rfl⟩,h2,trivial⟩ fun p R' hp=>?_
    injection hp with hp
    injection hp with h3 h4
    subst h3;subst h4
    have ht:(row (.slice A l.length c) e T l)=(itemT (fun v=>row v e T l)) (Value.tuple #[Value.slice A l.length c,v2]):=rfl
    refine ⟨Value.tuple #[Value.slice A l.length c,v2],by simp [Act.put,hsz d rfl],ht ▸ show (row (.slice A l.length c) e T l).ok H' w' from hok _ List.mem_cons_self,fun b hb => .inr ?_⟩
    have:=hblk b (by unfold blks;rw [List.filterMap_cons,show (row (.slice A l.length c) e T l).blk=some b from hb];exact List.mem_cons_self)
    refine ⟨?_,this.1⟩
    rcases this.2 with h|h
    · cases h
    · exact h
end
end Go.Proofs.YtljbbajelkkafaaDoor.L
