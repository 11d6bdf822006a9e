/-
  Rules for regions whose operations come in any order and write owned memory.
-/
import Derived.Test.YtljbbajelkkafaaDoorLw
set_option linter.unusedVariables false
set_option linter.unusedSimpArgs false
namespace Go.Proofs.YtljbbajelkkafaaDoor.L
open Go
set_option linter.unusedSectionVars false
variable [Globs]
section
variable {C:Cx} {Γ:Env} {Δ Δ0:List Res} {Q:Exit→Act→World→Prop}
theorem J.drawWI {id:Nat} {l:List Oper} (n:Nat) (ts:List (Option Nat × Option Nat)) (F0:Fresh) (hnd:(F0.map (·.1)).Nodup) (hm:C.P.follows .mixedOrders=true) (hc:(drawOKW .any l.toArray n && slotsOK l.toArray n C.n && chkW .any l.toArray n ts (F0.map (·.1)))=true)
    (hI : ∀ H a w,St C Γ Δ0 H a w→St C Γ Δ H a w∧(∀ s R,lkF F0 s=some R → ∃ v,a.tmps[s]?=some v∧(R v).ok H w ∧ ∀ b,(R v).blk=some b→b < w.heap.size∧(b ∈ C.X ∨ C.w0.heap.size≤b)∧b ∉ Δ.filterMap Res.blk) ∧
      ∀ s R s' R' v v' b,lkF F0 s=some R→lkF F0 s'=some R'→a.tmps[s]?=some v→a.tmps[s']?=some v'→(R v).blk=some b→(R' v').blk=some b→s=s')
    (h:PRunW C.P l.toArray Δ (l.take n) ts Γ F0 fun Γ' F=>Open F Γ' Δ fun Γ'' Δ''=>Lq C Γ'' Δ'' l.toArray (l.drop n) Q):J C Γ Δ0 (.region id l.toArray true) Q:=by
  intro H a w S0
  obtain ⟨S,hit,hone⟩:=hI H a w S0
  simp only [drawOKW,Bool.and_eq_true,Bool.or_eq_true,decide_eq_true_eq] at hc
  obtain ⟨⟨⟨⟨⟨hn,hh⟩,hsk⟩,hseq⟩,hslots⟩,hchk⟩:=hc
  obtain ⟨ll,Γ',F',hA,hT⟩:=h.along
  refine wpIn_region_any hm ?_
  have hsl : ∀ d,(∃ j,j < n∧dstOf l.toArray j=some d)→d < C.n:=by
    rintro d ⟨j,hj,hd⟩
    have:=List.all_eq_true.1 hslots j (List.mem_range.2 hj)
    rw [hd] at this
    exact Nat.blt_eq.mp this
  have inv0:HeadInv .any l.toArray n (Array.replicate l.toArray.size false) :=
    ⟨by simp,fun j oj _ hl=>(by rw [getD_replicate_false] at hl;cases hl),fun t _ ht=>getD_in (by simpa using ht) (getD_replicate_false _ _)⟩
  have hleft:left n (Array.replicate l.toArray.size false)=n:=by
    unfold left
    rw [List.filter_eq_self.2 (fun i _=>by rw [getD_replicate_false];rfl),List.length_range]
  have hat : ∀ k s,cutW l.toArray n ts (Array.replicate l.toArray.size false) k s→lkF (atF ll F' k) s=lkF F0 s:=by
    intro k s hk
    have:=constF (fun i o hi=>by
        have hin:i < (l.take n).length:=(List.getElem?_eq_some_iff.1 hi).1
        rw [List.length_take] at hin
        rw [List.getElem?_take,if_pos (by omega)] at hi
        unfold dstOf
        rw [List.getElem?_toArray,hi];rfl) hA (s:=s) k 0 (by rw [Nat.zero_add,List.length_take];have:=hk.1;simp at hn ⊢;omega) (fun i t _ hi hti=>by
      cases ht:wtch l.toArray i t s with
      | false=>rfl
      | true =>
        have:=(hk.2 i t hti ht).2 (by omega)
        rw [getD_replicate_false] at this;cases this)
    rw [Nat.zero_add,hA.stepF.1] at this
    exact this.symm
  have S1:St C [] Δ H a { w with drawn:=w.drawn+1 }:=(S.drew).weak (fun t φ ht=>(by cases ht))
  have:=seq_anyW (C:=C) (Γ:=Γ) (Δ:=Δ) (Q:=Q) (ops:=l.toArray) (md := .any) n hsl hn hh hsk hseq hchk hnd hA hT n (Array.replicate l.toArray.size false) H a { w with drawn:=w.drawn+1 } inv0 hleft
    ⟨S1,fun t φ ht _=>S.env t φ ht,fun j t p _ hl=>(by rw [getD_replicate_false] at hl;cases hl),fun k s R hk hR=>?_,fun k s R k' s' R' v v' b hk hk' hR hR' hv hv' hb hb'=>?_⟩
  · rwa [show n+(l.toArray.size - n)=l.toArray.size by omega] at this
  · rw [hat k s hk] at hR
    obtain ⟨v,h1,h2,h3⟩:=hit s R hR
    exact ⟨v,h1,(R v).st (w:=w) (w':={ w with drawn:=w.drawn+1 }) (IH.le_refl _) (fun _ _=>⟨rfl,fun _=>rfl⟩) h2,h3⟩
  · rw [hat k s hk] at hR
    rw [hat k' s' hk'] at hR'
    exact hone s R s' R' v v' b hR hR' hv hv' hb hb'
/-- A region in any order, nothing given to it. -/
theorem J.drawW {id:Nat} {l:List Oper} (n:Nat) (ts:List (Option Nat × Option Nat)) (hm:C.P.follows .mixedOrders=true) (hc:(drawOKW .any l.toArray n && slotsOK l.toArray n C.n && chkW .any l.toArray n ts [])=true)
    (h:PRunW C.P l.toArray Δ (l.take n) ts Γ [] fun Γ' F=>Open F Γ' Δ fun Γ'' Δ''=>Lq C Γ'' Δ'' l.toArray (l.drop n) Q):J C Γ Δ (.region id l.toArray true) Q :=
  J.drawWI n ts [] List.nodup_nil hm hc (fun H a w S=>⟨S,(fun s R h=>by cases h),(fun s R s' R' v v' b h=>by cases h)⟩) h
/-- .. that is given what slot s names. -/
theorem J.drawW1 {id:Nat} {l:List Oper} (n:Nat) (ts:List (Option Nat × Option Nat)) (s:Nat) (R:Item) {v0:Value} (hs:look Γ s=some (is v0)) (hp:Δ0.Perm (R v0::Δ)) (hm:C.P.follows .mixedOrders=true) (hc:(drawOKW .any l.toArray n && slotsOK l.toArray n C.n && chkW .any l.toArray n ts [s])=true)
    (h:PRunW C.P l.toArray Δ (l.take n) ts Γ [(s,R)] fun Γ' F=>Open F Γ' Δ fun Γ'' Δ''=>Lq C Γ'' Δ'' l.toArray (l.drop n) Q):J C Γ Δ0 (.region id l.toArray true) Q:=by
  have hlk : ∀ s' R',lkF [(s,R)] s'=some R'→s'=s∧R'=R:=by
    intro s' R' h
    unfold lkF at h
    split at h
    · rename_i hk
      injection h with h
      exact ⟨(Nat.eq_of_beq_eq_true hk).symm,h.symm⟩
    · cases h
  refine J.drawWI n ts [(s,R)] (by simp) hm hc (fun H a w S=>⟨S.lose hp,fun s' R' h=>?_,fun s1 R1 s2 R2 _ _ _ h1 h2 _ _ _ _=>by rw [(hlk _ _ h1).1,(hlk _ _ h2).1]⟩) h
  obtain ⟨rfl,rfl⟩:=hlk s' R' h
  obtain ⟨u,hu,hu2⟩:=S.env s' _ hs
  have hu2:u=v0:=hu2
  subst hu2
  have hf:=hp.filterMap Res.blk
  refine ⟨u,hu,S.res _ (hp.mem_iff.2 List.mem_cons_self),fun b hb=>?_⟩
  rw [List.filterMap_cons,hb] at hf
  have:=S.own b (hf.mem_iff.2 List.mem_cons_self)
  exact ⟨this.1,this.2,(List.nodup_cons.1 (hf.nodup_iff.1 S.dis)).1⟩
end
/-! ### Steps -/
section
variable {P:Program} {ops:Array Oper} {Γ:Env} {Δ:List Res} {rest:List Oper} {op:Op} {ty:Nat} {pos:String} {af:Array Edge} {φ:Pr} {K:Env→Fresh→Prop} {F:Fresh} {ts:List (Option Nat × Option Nat)}
theorem PRunW.nil (h:K Γ F):PRunW P ops Δ [] [] Γ F K:=h
theorem PRunW.s {d:Nat} (h:OpP P Γ Δ ⟨some d,op,ty,pos,af,none⟩ φ) (k:PRunW P ops Δ rest ts ((d,φ)::Γ) F K):PRunW P ops Δ (⟨some d,op,ty,pos,af,none⟩::rest) ((none,none)::ts) Γ F K:=⟨φ,_, .g φ (.plain rfl h),rfl,fun _ _ h=>(by cases h),fun _ _=>rfl,k⟩
theorem PRunW.run {d j g:Nat} {want b:Bool} (hj:gslot ops j=some g) (hl:look Γ g=some (is (.bool b))) (hb:b=want) (h:OpP P Γ Δ ⟨some d,op,ty,pos,af,some (j,want)⟩ φ) (k:PRunW P ops Δ rest ts ((d,φ)::Γ) F K):PRunW P ops Δ (⟨some d,op,ty,pos,af,some (j,want)⟩::rest) ((none,none)::ts) Γ F K :=
  ⟨φ,_, .g φ (.run j want g rfl hj (by rw [hl,hb]) h),rfl,fun _ _ h=>(by cases h),fun _ _=>rfl,k⟩
theorem PRunW.skip {d j g:Nat} {want b:Bool} (hj:gslot ops j=some g) (hl:look Γ g=some (is (.bool b))) (hb:b = !want) (k:PRunW P ops Δ rest ts ((d,is undef)::Γ) F K):PRunW P ops Δ (⟨some d,op,ty,pos,af,some (j,want)⟩::rest) ((none,none)::ts) Γ F K :=
  ⟨is undef,_, .g _ (.skip j want g b rfl hj hl (by subst hb;cases want <;> simp) rfl),rfl,fun _ _ h=>(by cases h),fun _ _=>rfl,k⟩
theorem PRunW.pass {d j g:Nat} {want:Bool} (hj:gslot ops j=some g) (hl:look Γ g=some (is undef)) (k:PRunW P ops Δ rest ts ((d,is undef)::Γ) F K):PRunW P ops Δ (⟨some d,op,ty,pos,af,some (j,want)⟩::rest) ((none,none)::ts) Γ F K :=
  ⟨is undef,_, .g _ (.none j want g rfl hj hl rfl),rfl,fun _ _ h=>(by cases h),fun _ _=>rfl,k⟩
/-- One that takes what slot s names, or yields something. -/
theorem PRunW.e {d:Option Nat} (e:Eff) (h:OpE P Γ Δ ⟨d,op,ty,pos,af,none⟩ φ e) (hc : ∀ s R,e.cons=some (s,R)→lkF F s=some R) (hrd:d ≠ none→(slotsE e).1=(slotsE e).2→e.cons=e.prod) (k:PRunW P ops Δ rest ts (putΓ Γ d φ) (effF F e) K):PRunW P ops Δ (⟨d,op,ty,pos,af,none⟩::rest) (slotsE e::ts) Γ F K:=⟨φ,e, .e φ e rfl h,rfl,hc,hrd,k⟩
theorem opE_mk {d:Nat} {R:Item} (hφ : ∀ v H w,(R v).ok H w→φ.h H v) (h:OpR P Γ Δ ⟨some d,op,ty,pos,af,none⟩ R):OpE P Γ Δ ⟨some d,op,ty,pos,af,none⟩ φ ⟨none,some (d,R)⟩:=by
  intro H a w Q K hx hs hr hb hsz hc hK
  refine h H a w Q K hx hs hr hb fun v H' w' E hok hbk=>hK v H' w' E.le (fun b o hb _=>E.old b o hb) E.sat E.fr.os E.fr.tape E.fr.output E.fr.size (fun k hk _=>E.fr.block k hk (by simp)) (hφ v H' w' hok) fun p R' hp=>?_
  injection hp with hp
  injection hp with h1 h2
  subst h1;subst h2
  exact ⟨v,by simp [Act.put,hsz d rfl],hok,fun b hb => .inr (hbk b hb)⟩
theorem PRunW.mk {d:Nat} {R:Item} (hφ : ∀ v H w,(R v).ok H w→φ.h H v) (h:OpR P Γ Δ ⟨some d,op,ty,pos,af,none⟩ R) (k:PRunW P ops Δ rest ts ((d,φ)::Γ) ((d,R)::dropS F d) K):PRunW P ops Δ (⟨some d,op,ty,pos,af,none⟩::rest) ((none,some d)::ts) Γ F K :=
  PRunW.e ⟨none,some (d,R)⟩ (opE_mk hφ h) (fun _ _ h=>(by cases h)) (fun _ h=>(by cases h)) k
/-- A variable that slot names. -/
def itemP (e:TypeId) (φs:List Pr):Item:=fun v=>match v with
  | .pointer (some ⟨b,0,none⟩)=>own b e φs
  | _=>bot
theorem ownAt_itemP (t:TypeId) (zs:List Value):ownAt t zs=itemP t (zs.map is):=by
  funext v
  unfold ownAt itemP
  cases v with
  | pointer a =>
    cases a with
    | none=>rfl
    | some a =>
      obtain ⟨b,o,sp⟩:=a
      cases o with
      | zero=>cases sp <;> rfl
      | succ o=>rfl
  | _=>rfl
theorem itemP_ok {e:TypeId} {φs:List Pr} {v:Value} {H:IH} {w:World} (h:(itemP e φs v).ok H w) : ∃ b,v = .pointer (some ⟨b,0,none⟩)∧(own b e φs).ok H w:=by
  unfold itemP at h
  split at h
  · exact ⟨_,rfl,h⟩
  · exact h.elim
theorem PRunW.al {d t:Nat} {z:Value} [TZero P t z] (h1:z.cells.toList.all (fun v=>v.oneCell')=true) (k:PRunW P ops Δ rest ts ((d,any)::Γ) ((d,itemP t (z.cells.toList.map is))::dropS F d) K):PRunW P ops Δ (⟨some d, .alloc t,ty,pos,af,none⟩::rest) ((none,some d)::ts) Γ F K :=
  PRunW.mk (R:=itemP t (z.cells.toList.map is)) (fun _ _ _ _=>trivial) (by rw [← ownAt_itemP];exact opR_alloc rfl (zero_of h1)) k
theorem Open.pv {K:Env→List Res→Prop} {d:Nat} {t:TypeId} {φs:List Pr} (h : ∀ b,Open F ((d,is (.pointer (some ⟨b,0,none⟩)))::Γ) (own b t φs::Δ) K):Open ((d,itemP t φs)::F) Γ Δ K:=by
  intro v ⟨H,w,hok⟩
  obtain ⟨b,rfl,_⟩:=itemP_ok hok
  exact h b
/-- A variable whose place is known. -/
def itemA (b:Nat) (e:TypeId) (φs:List Pr):Item:=fun v=>match v with
  | .pointer (some ⟨b',0,none⟩)=>if b'=b then own b e φs else bot
  | _=>bot
theorem itemA_ok {b:Nat} {e:TypeId} {φs:List Pr} {v:Value} {H:IH} {w:World} (h:(itemA b e φs v).ok H w):v = .pointer (some ⟨b,0,none⟩)∧(own b e φs).ok H w:=by
  unfold itemA at h
  split at h
  · split at h
    · rename_i hb;subst hb;exact ⟨rfl,h⟩
    · exact h.elim
  · exact h.elim
theorem itemA_self (b:Nat) (e:TypeId) (φs:List Pr):itemA b e φs (.pointer (some ⟨b,0,none⟩))=own b e φs:=by
  unfold itemA
  exact if_pos rfl
theorem Open.av {K:Env→List Res→Prop} {d b:Nat} {t:TypeId} {φs:List Pr} (h:Open F ((d,is (.pointer (some ⟨b,0,none⟩)))::Γ) (own b t φs::Δ) K):Open ((d,itemA b t φs)::F) Γ Δ K:=by
  intro v ⟨H,w,hok⟩
  obtain ⟨rfl,_⟩:=itemA_ok hok
  rw [itemA_self]
  exact h
theorem Open.rv {α:Type} {T:Ty α} {xs:List α} {e:Nat} {K:Env→List Res→Prop} {d:Nat} (h : ∀ A c,Open F ((d,is (.slice A xs.length c))::Γ) (L.row (.slice A xs.length c) e T xs::Δ) K):Open ((d,fun v=>L.row v e T xs)::F) Γ Δ K:=Open.row h

/-! ### Stores -/
theorem run_store {b o e t n:Nat} {φs seg:List Pr} {φ:Pr} {H:IH} {w:World} {ρ:Operand→Value} {p x:Operand} {g:Option (Nat × Bool)} {d:Option Nat} (hpv:ρ p = .pointer (some ⟨b,o,none⟩)) (hxv:φ.h H (ρ x)) (hseg:Seg φ seg) (hs:Sat H w) (ho:(own b e φs).ok H w) [TSz P t n] (hl:seg.length=n) (hle:o+n≤φs.length) :
    ∃ w',(execOp ρ ⟨d, .store t p x,ty,pos,af,g⟩).run P w = .ok .skip w'∧Sat H w'∧(own b e (splice φs o seg)).ok H w'∧w'.os=w.os∧w'.tape=w.tape∧w'.output=w.output∧w'.heap.size=w.heap.size ∧ ∀ k,k ≠ b→w'.heap[k]?=w.heap[k]?:=by
  have hxv:=hseg.h H _ hxv
  obtain ⟨⟨cs,hh,hcs⟩,hnone⟩:=ho
  have hsz:(ρ x).cells.size=n:=by have:=hxv.length;rw [hl] at this;simpa using this.symm
  have hclen:=hcs.length
  obtain ⟨w',hrun,hb',hk',hs',e1,e2,e3⟩:=run_storeCells (P:=P) (b:=b) (o:=o) (e:=e) (ρ x).cells.toList 0 w cs hh (by simp [hsz];omega) (fun v hv=>by
    obtain ⟨i,hi,rfl⟩:=List.mem_iff_getElem.1 hv
    have hi2:i < seg.length:=by rw [hxv.length];exact hi
    obtain ⟨c,hc,hφ⟩:=hxv.get i seg[i] (List.getElem?_eq_getElem hi2)
    rw [List.getElem?_eq_getElem hi] at hc
    injection hc with hc
    rw [hc];exact hφ.2)
  have hexec:(execOp ρ ⟨d, .store t p x,ty,pos,af,g⟩).run P w = .ok .skip w':=by
    simp only [execOp,hpv]
    refine run_skip ?_
    unfold Instr.storeAt
    refine (run_bind (Instr.sureAddr (.pointer (some ⟨b,o,none⟩))) _ w (show _=Result.ok ⟨b,o,none⟩ w from rfl)).trans ?_
    unfold storeVar
    refine (run_bind (sizeOf t) _ w (run_sizeOf (t:=t) (n:=n))).trans ?_
    rw [if_neg (by rw [hsz];simp)]
    exact hrun
  refine ⟨w',hexec,⟨hs.gk,fun b2 o2 v2 hv2=>?_⟩,⟨⟨_,hb',?_⟩,hnone⟩,e1,e2,e3,hs',hk'⟩
  · have hne:b2 ≠ b:=fun e=>by subst e;rw [hnone] at hv2;cases hv2
    exact (World.cell?_of_block (w:=w) (a:=⟨b2,o2,none⟩) (hk' b2 hne)).trans (hs.cell b2 o2 v2 hv2)
  · unfold splice
    rw [hl]
    simp only [Array.length_toList,hsz,Nat.add_zero]
    exact ((hcs.take o).append hxv).append (hcs.drop (o+n))
/-- A store into the variable that slot s names. -/
theorem PRunW.st {s e t n:Nat} {φs φs' seg:List Pr} {x:Operand} (hF:lkF F s=some (itemP e φs)) (hv:opd Γ x=some φ) (hseg:Seg φ seg) [TSz P t n] (hl:seg.length=n) (hle:n≤φs.length) (he:splice φs 0 seg=φs')
    (k:PRunW P ops Δ rest ts Γ ((s,itemP e φs')::dropS (dropS F s) s) K):PRunW P ops Δ (⟨none, .store t (.tmp s) x,ty,pos,af,none⟩::rest) ((some s,some s)::ts) Γ F K:=by
  refine PRunW.e (φ:=any) ⟨some (s,itemP e φs),some (s,itemP e φs')⟩ ?_ (fun s' R h=>by injection h with h;injection h with h1 h2;subst h1;subst h2;exact hF) (fun h=>absurd rfl h) k
  subst he
  intro H a w Q K hx hs hr hb hsz hc hK
  obtain ⟨u,hu,hok,hbk⟩:=hc s _ rfl
  obtain ⟨b,rfl,ho⟩:=itemP_ok hok
  have hpv:a.eval (.tmp s) = .pointer (some ⟨b,0,none⟩):=by simp [Act.eval,hu]
  obtain ⟨w',hrun,h1,h2,h3,h4,h5,h6,h7⟩:=run_store (P:=P) (t:=t) (ty:=ty) (pos:=pos) (af:=af) (g:=none) (d:=none) hpv (hx x (by simp [Op.operands]) _ hv) hseg hs ho hl (by omega)
  have htk:takesB (some (s,itemP e φs)) a b:=⟨s,_,_,rfl,hu,rfl⟩
  unfold Oper.wp
  rw [hrun]
  refine hK undef H w' (IH.le_refl _) (fun _ _ _ _=>rfl) h1 h3 h4 h5 (by omega) (fun k hk hn=>h7 k (fun e=>hn (e ▸ htk))) trivial fun p R hp=>?_
  injection hp with hp
  injection hp with hp1 hp2
  subst hp1;subst hp2
  exact ⟨_,hu,h2,fun b' hb' => .inl (by injection hb' with hb';subst hb';exact htk)⟩
/-- A store into a variable whose place is known. -/
theorem PRunW.stA {s b o e t n:Nat} {φs φs' seg:List Pr} {p x:Operand} (hF:lkF F s=some (itemA b e φs)) (hpp:opd Γ p=some (is (.pointer (some ⟨b,o,none⟩)))) (hv:opd Γ x=some φ) (hseg:Seg φ seg) [TSz P t n] (hl:seg.length=n) (hle:o+n≤φs.length) (he:splice φs o seg=φs')
    (k:PRunW P ops Δ rest ts Γ ((s,itemA b e φs')::dropS (dropS F s) s) K):PRunW P ops Δ (⟨none, .store t p x,ty,pos,af,none⟩::rest) ((some s,some s)::ts) Γ F K:=by
  refine PRunW.e (φ:=any) ⟨some (s,itemA b e φs),some (s,itemA b e φs')⟩ ?_ (fun s' R h=>by injection h with h;injection h with h1 h2;subst h1;subst h2;exact hF) (fun h=>absurd rfl h) k
  subst he
  intro H a w Q K hx hs hr hb hsz hc hK
  obtain ⟨u,hu,hok,hbk⟩:=hc s _ rfl
  obtain ⟨rfl,ho⟩:=itemA_ok hok
  obtain ⟨w',hrun,h1,h2,h3,h4,h5,h6,h7⟩:=run_store (P:=P) (t:=t) (ty:=ty) (pos:=pos) (af:=af) (g:=none) (d:=none) (hx p (by simp [Op.operands]) _ hpp) (hx x (by simp [Op.operands]) _ hv) hseg hs ho hl hle
  have htk:takesB (some (s,itemA b e φs)) a b:=⟨s,_,_,rfl,hu,by rw [itemA_self];rfl⟩
  unfold Oper.wp
  rw [hrun]
  refine hK undef H w' (IH.le_refl _) (fun _ _ _ _=>rfl) h1 h3 h4 h5 (by omega) (fun k hk hn=>h7 k (fun e=>hn (e ▸ htk))) trivial fun p R hp=>?_
  injection hp with hp
  injection hp with hp1 hp2
  subst hp1;subst hp2
  refine ⟨_,hu,by rw [itemA_self];exact h2,fun b' hb' => .inl ?_⟩
  rw [itemA_self] at hb'
  injection hb' with hb';subst hb';exact htk

/-! ### Rows -/
theorem row_freeze {α:Type} {T:Ty α} {xs:List α} {e:Nat} {v:Value} {H:IH} {w:World} (hs:Sat H w) (h:(row v e T xs).ok H w) : ∃ H',IH.le H H'∧Sat H' w∧(sl T xs).h H' v ∧ ∀ b o,(row v e T xs).blk ≠ some b→H' b o=H b o:=by
  rcases h with ⟨rfl,rfl⟩|⟨b,o,cap,cs,rfl,h1,h2,h3,h4,h5,h6,h7⟩
  · exact ⟨H,IH.le_refl _,hs,sl_nil H _ rfl,fun _ _ _=>rfl⟩
  · have hle:IH.le H (H.add b cs):=fun b' o v h=>by
      show (if b'=b then cs[o]? else H b' o)=some v
      by_cases hbb:b'=b
      · subst hbb;rw [h7 o] at h;cases h
      · rw [if_neg hbb];exact h
    refine ⟨H.add b cs,hle,⟨Gk.mono hle hs.gk,fun b' o' v h=>?_⟩,⟨some ⟨b,o,none⟩,cap,rfl,h3,h4,fun h=>(by cases h),fun _=>⟨b,o,rfl,fun i φ hi=>?_⟩⟩,fun b' o' hb=>?_⟩
    · replace h:(if b'=b then cs[o']? else H b' o')=some v:=h
      split at h
      · rename_i hbb
        subst hbb
        rw [cell_at h1];exact h
      · exact hs.cell b' o' v h
    · obtain ⟨c,hc,hφ⟩:=h5.get i φ hi
      refine ⟨c,?_,Pr.c_mono hle hφ⟩
      show (if b=b then cs[o+i]? else H b (o+i))=some c
      rw [if_pos rfl]
      rw [List.getElem?_take] at hc
      split at hc
      · rwa [List.getElem?_drop] at hc
      · cases hc
    · show (if b'=b then cs[o']? else H b' o')=_
      rw [if_neg (fun e=>hb (by subst e;rfl))]
section
variable {α:Type} {T:Td α} {d s t u e by_:Nat} {z:Value} {xs ys zs:List α} {y:Operand}
theorem opE_append (hf:From Γ Δ P T u y ys) [TSl P t e] [TSz P e T.sz] [TBy P e by_] [TZero P e z] (hz:z.cells.size=T.sz) (hz1:z.cells.toList.all (fun c=>c.oneCell')=true) (hm:xs.length+ys.length≤maxLen) (hby:(xs.length+ys.length)*by_≤140737488355328) :
    OpE P Γ Δ ⟨some d, .call ⟨.builtin .append, #[.tmp s,y], #[t,u]⟩,ty,pos,af,none⟩ (anySl (xs++ys).length) ⟨some (s,fun v=>row v e T.toTy xs),some (d,fun v=>row v e T.toTy (xs++ys))⟩:=by
  intro H a w Q K hx hs hr hb hsz hc hK
  obtain ⟨v,hu,hok,hbk⟩:=hc s _ rfl
  have hv:a.eval (.tmp s)=v:=by simp [Act.eval,hu]
  cases hf with
  | mk hf =>
    have hsrc:=hf H w a.eval hs hr (fun ψ hψ=>hx y (by simp [Op.operands,Call.operands]) ψ hψ)
    obtain ⟨v',w',hrun,hA⟩:=run_append (P:=P) (t:=t) (ty:=ty) (T:=T) (e:=e) hz hz1 hs hok hsrc hm hby
    have hexec:(execOp a.eval ⟨some d, .call ⟨.builtin .append, #[.tmp s,y], #[t,u]⟩,ty,pos,af,none⟩).run P w = .ok (.value v') w' :=
      run_builtin (as:=[.tmp s,y]) fun c=>run_value (x:=Builtin.append_ #[t,u] ty #[a.eval (.tmp s),a.eval y]) (by rw [hv];exact hrun)
    unfold Oper.wp
    rw [hexec]
    have hput:(a.put (some d) v').tmps[d]?=some v':=by simp [Act.put,hsz d rfl]
    cases hA with
    | «at» hbb hk hsz' h1 h2 h3 hcc ok =>
      refine hK v' H w' (IH.le_refl _) (fun _ _ _ _=>rfl) ⟨hs.gk,fun b o u hu'=>?_⟩ h1 h2 h3 (by omega) (fun k hk' hn=>hk k (fun hbk'=>hn ⟨s,_,v,rfl,hu,hbk'⟩)) (row_slice ok) fun p R hp=>?_
      · have hne:(row v e T.toTy xs).blk ≠ some b:=fun hbk'=>by rw [hcc b hbk'] at hu';cases hu'
        exact (World.cell?_of_block (w:=w) (a:=⟨b,o,none⟩) (hk b hne)).trans (hs.cell b o u hu')
      · injection hp with hp
        injection hp with hp1 hp2
        subst hp1;subst hp2
        exact ⟨v',hput,ok,fun b hb' => .inl ⟨s,_,v,rfl,hu,hbb ▸ hb'⟩⟩
    | new hbb E hsz' ok =>
      refine hK v' H w' E.le (fun b o hb' _=>E.old b o hb') E.sat E.fr.os E.fr.tape E.fr.output E.fr.size (fun k hk' _=>E.fr.block k hk' (by simp)) (row_slice ok) fun p R hp=>?_
      injection hp with hp
      injection hp with hp1 hp2
      subst hp1;subst hp2
      refine ⟨v',hput,ok,fun b hb' => .inr ?_⟩
      have hb':(row v' e T.toTy (xs++ys)).blk=some b:=hb'
      rw [hbb] at hb'
      injection hb' with hb';subst hb'
      exact ⟨Nat.le_refl _,by omega⟩
/-- What an operation yields to be owned, known for good instead. -/
theorem opE_frz {o:Oper} {φ:Pr} {c:Option (Nat × Item)} (ho:o.dst=some d) (h:OpE P Γ Δ o φ ⟨c,some (d,fun v=>row v e T.toTy xs)⟩):OpE P Γ Δ o (sl T.toTy xs) ⟨c,none⟩:=by
  intro H a w Q K hx hs hr hb hsz hc hK
  refine h H a w Q K hx hs hr hb hsz hc fun v H' w' h1 h2 h3 h4 h5 h6 h7 h8 h9 h10=>?_
  obtain ⟨u,hu,hok,hbk⟩:=h10 d _ rfl
  have huv:u=v:=by
    have:(a.put o.dst v).tmps[d]?=some v:=by rw [ho];simp [Act.put,hsz d ho]
    rw [this] at hu
    injection hu with hu
    exact hu.symm
  subst huv
  obtain ⟨H2,k1,k2,k3,k4⟩:=row_freeze h3 hok
  refine hK u H2 w' (IH.le_trans h1 k1) (fun b o hb' hn=>?_) k2 h4 h5 h6 h7 h8 k3 (fun p R hp=>by cases hp)
  rw [k4 b o (fun hbb=>by
    rcases hbk b hbb with h|h
    · exact hn h
    · omega)]
  exact h2 b o hb' hn
theorem PRunW.ap (hne:Nat.beq s d=false) (hF:lkF F s=some fun v=>row v e T.toTy xs) (hf:From Γ Δ P T u y ys) [TSl P t e] [TSz P e T.sz] [TBy P e by_] [TZero P e z] (hz:z.cells.size=T.sz) (hz1:z.cells.toList.all (fun c=>c.oneCell')=true) (hm:xs.length+ys.length≤maxLen) (hby:(xs.length+ys.length)*by_≤140737488355328)
    (k:PRunW P ops Δ rest ts ((d,anySl (xs++ys).length)::Γ) ((d,fun v=>row v e T.toTy (xs++ys))::dropS (dropS F s) d) K):PRunW P ops Δ (⟨some d, .call ⟨.builtin .append, #[.tmp s,y], #[t,u]⟩,ty,pos,af,none⟩::rest) ((some s,some d)::ts) Γ F K :=
  PRunW.e ⟨some (s,fun v=>row v e T.toTy xs),some (d,fun v=>row v e T.toTy (xs++ys))⟩ (opE_append hf hz hz1 hm hby) (fun s' R h=>by injection h with h;injection h with h1 h2;subst h1;subst h2;exact hF) (fun _ h=>by have h:some s=some d:=h;injection h with h;rw [h,Nat.beq_refl] at hne;cases hne) k
/-- An append whose row is never written again. -/
theorem PRunW.apF (hF:lkF F s=some fun v=>row v e T.toTy xs) (hf:From Γ Δ P T u y ys) [TSl P t e] [TSz P e T.sz] [TBy P e by_] [TZero P e z] (hz:z.cells.size=T.sz) (hz1:z.cells.toList.all (fun c=>c.oneCell')=true) (hm:xs.length+ys.length≤maxLen) (hby:(xs.length+ys.length)*by_≤140737488355328)
    (k:PRunW P ops Δ rest ts ((d,sl T.toTy (xs++ys))::Γ) (dropS F s) K):PRunW P ops Δ (⟨some d, .call ⟨.builtin .append, #[.tmp s,y], #[t,u]⟩,ty,pos,af,none⟩::rest) ((some s,none)::ts) Γ F K :=
  PRunW.e ⟨some (s,fun v=>row v e T.toTy xs),none⟩ (opE_frz rfl (opE_append hf hz hz1 hm hby)) (fun s' R h=>by injection h with h;injection h with h1 h2;subst h1;subst h2;exact hF) (fun _ h=>by cases h) k
/-- A literal's row, to be owned. -/
theorem opR_bslice {len:Nat} {ps:List (Nat × Operand)} {d:Option Nat} (hpo:PO Γ T 0 ps xs) (hl:len=xs.length) (hsm:Nat.ble (xs.length*T.sz) 16777216=true) [ht:TSl P t e] [TSz P e T.sz] [TZero P e z] (hz:z.cells.size=T.sz) :
    OpR P Γ Δ ⟨d, .buildSlice t len ps.toArray,ty,pos,af,none⟩ (fun v=>row v e T.toTy xs):=by
  intro H a w Q K hx hs hr hb hK
  have hsm:=Nat.le_of_ble_eq_true hsm
  have h:=hpo.ok
  obtain ⟨hcs,hsz⟩:=h.vals (ρ:=a.eval) (H:=H) fun p hp ψ hψ=>hx p.2 (by simp [Op.operands];exact ⟨p.1,hp⟩) ψ hψ
  have hps:=h.len
  have hrun:(execOp a.eval ⟨d, .buildSlice t len ps.toArray,ty,pos,af,none⟩).run P w = .ok (.value (.slice (some ⟨w.heap.size,0,none⟩) xs.length xs.length)) (w.alloc (.cells (ps.map fun p=>(a.eval p.2).cells.toList).flatten.toArray e)):=by
    simp only [execOp]
    refine run_value ?_
    unfold Instr.buildSlice
    refine (run_bind _ _ w (run_underlying' ht.h)).trans ?_
    refine (run_bind (sizeOf e) _ w (run_sizeOf (t:=e) (n:=T.sz))).trans ?_
    rw [if_neg (by rw [hl];omega)]
    subst hl
    have hfill : ∀ zc:List Value,zc.length=xs.length*T.sz→Instr.fill (fun i=>some (i*T.sz,T.sz)) zc.toArray (ps.toArray.map fun (p:Nat × Operand)=>match p with|(i,x)=>(i,a.eval x)).toList=some (ps.map fun (p:Nat × Operand)=>(a.eval p.2).cells.toList).flatten.toArray:=by
      intro zc hzc
      have:=fill_seq T.sz a.eval ps 0 [] zc h.idx hsz (by simp) (by rw [hzc,hps])
      simpa using this
    by_cases h0:xs.length*T.sz=0
    · rw [if_pos h0]
      simp only [Sem.run_bind,Sem.run_pure,Result.andThen_ok]
      generalize hF:Instr.fill _ _ _=F
      have hF2:=hF.symm.trans (hfill ((Array.range (xs.length*T.sz)).map (fun x=>(#[]:Array Value)[x % (#[]:Array Value).size]!)).toList (by simp))
      subst hF2
      rfl
    · rw [if_neg h0]
      simp only [Sem.run_bind,Sem.run_pure,Result.andThen_ok,run_zeroValue (t:=e) (v:=z)]
      generalize hF:Instr.fill _ _ _=F
      have hF2:=hF.symm.trans (hfill ((Array.range (xs.length*T.sz)).map (fun x=>z.cells[x % z.cells.size]!)).toList (by simp))
      subst hF2
      rfl
  unfold Oper.wp
  rw [hrun]
  have hpos:=T.pos
  have hmul:xs.length≤xs.length*T.sz:=Nat.le_mul_of_pos_right _ hpos
  have hlen:=hcs.length
  rw [flat_len] at hlen
  refine hK _ H _ (ext_alloc hs _) (.inr ⟨w.heap.size,0,xs.length,_,rfl,heap_alloc_self w _,by omega,Nat.le_refl _,by unfold maxLen;omega,?_,fun c hc=>?_,fun i=>?_⟩) (fun b hb'=>?_)
  · rw [List.drop_zero,List.take_of_length_le (by omega)]
    exact hcs
  · obtain ⟨j,hj,rfl⟩:=List.mem_iff_getElem.1 hc
    obtain ⟨φ',hφ'⟩ : ∃ φ',(flat T.toTy xs)[j]?=some φ':=⟨_,List.getElem?_eq_getElem (by rw [flat_len];omega)⟩
    obtain ⟨c',hc',hφ⟩:=hcs.get j φ' hφ'
    rw [List.getElem?_eq_getElem hj] at hc'
    injection hc' with hc'
    rw [hc']
    exact hφ.2
  · cases hH:H w.heap.size i with
    | none=>rfl
    | some u=>exact absurd (hs.lt hH) (Nat.lt_irrefl _)
  · have hb':some w.heap.size=some b:=hb'
    injection hb' with hb';subst hb'
    exact ⟨Nat.le_refl _,by simp⟩
theorem PRunW.bsl {len:Nat} {ps:List (Nat × Operand)} (hpo:PO Γ T 0 ps xs) (hl:len=xs.length) (hsm:Nat.ble (xs.length*T.sz) 16777216=true) [ht:TSl P t e] [TSz P e T.sz] [TZero P e z] (hz:z.cells.size=T.sz)
    (k:PRunW P ops Δ rest ts ((d,anySl xs.length)::Γ) ((d,fun v=>row v e T.toTy xs)::dropS F d) K):PRunW P ops Δ (⟨some d, .buildSlice t len ps.toArray,ty,pos,af,none⟩::rest) ((none,some d)::ts) Γ F K :=
  PRunW.mk (R:=fun v=>row v e T.toTy xs) (fun v H w h=>row_slice h) (opR_bslice hpo hl hsm hz) k
end
end
end Go.Proofs.YtljbbajelkkafaaDoor.L
