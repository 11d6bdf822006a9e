import Derived.Test.YtljbbajelkkafaaDoorLx
/-
  Rules of the logic: closures over variables that are owned;bits of numbers.
-/
set_option linter.unusedVariables false
set_option linter.unusedSimpArgs false
namespace Go.Proofs.YtljbbajelkkafaaDoor.L
open Go
set_option linter.unusedSectionVars false
variable [Globs]
section
variable {C:Cx} {Γ:Env} {Δ:List Res} {ops:Array Oper} {rest:List Oper} {Q:Exit→Act→World→Prop} {ty:Nat} {pos:String} {af:Array Edge}
/-- A call of a closure that is known. -/
theorem Lq.callVR {d:Option Nat} {f:Nat} {φs ξs:List Pr} {Δ0 Δf:List Res} {post:Pr→List Res→Prop} {captured:List Value} {xs:List Operand} {y:Operand} {ats:Array Nat} (F:FnR C.P f φs Δ0 post) (hd : ∀ x,d=some x→x < C.n) (hy:opd Γ y=some (is (.func (.func f) #[] captured.toArray))) (h:opds Γ xs ξs) (hφ : ∀ H vs,All2 (fun φ v=>φ.h H v) ξs vs→All2 (fun φ v=>φ.h H v) φs (vs++captured)) (hp:Δ.Perm (Δ0++Δf))
    (k : ∀ ψ Δ',post ψ Δ'→Lq C (putΓ Γ d ψ) (Δ'++Δf) ops rest Q):Lq C Γ Δ ops (⟨d, .call ⟨.value y,xs.toArray,ats⟩,ty,pos,af,none⟩::rest) Q:=by
  intro H a w S
  refine wpL_plain rfl (fun c hc=>by cases hc) fun K hK=>?_
  have hargs:=hφ H _ (opds.all (ρ:=a.eval) (H:=H) h (fun x hxx ψ hψ=>S.opd hψ))
  have hv:a.eval y = .func (.func f) #[] captured.toArray:=S.opd hy
  have hrun:(execOp a.eval ⟨d, .call ⟨.value y,xs.toArray,ats⟩,ty,pos,af,none⟩).run C.P w = .ok (.enter f (xs.map a.eval++captured).toArray) w:=by
    have h1:(callFunc f ((#[]++xs.toArray.map a.eval)++captured.toArray)).run C.P w = .ok (.enter f (xs.map a.eval++captured).toArray) w:=by
      rw [Array.empty_append,List.map_toArray,List.append_toArray]
      exact F.ent.h _ w
    have h2:(execOp a.eval ⟨d, .call ⟨.value y,xs.toArray,ats⟩,ty,pos,af,none⟩).run C.P w=((do let dd ← Deferred.ofValue (a.eval y) (xs.toArray.map a.eval);invoke dd.target dd.args:Sem Next)).run C.P w:=rfl
    rw [h2,hv]
    exact h1
  have hf:(blks Δ).Perm (blks Δ0++blks Δf):=by
    have:=hp.filterMap Res.blk
    rwa [List.filterMap_append] at this
  have hnd:=hf.nodup_iff.1 S.dis
  obtain ⟨hn0,hnf,hdis⟩:=List.nodup_append.1 hnd
  unfold Oper.wp
  rw [hrun]
  rw [Oper.upon_enter]
  refine (F.run H w _ S.sat hargs (fun r hr=>S.res r (hp.mem_iff.2 (List.mem_append_left _ hr))) hn0 (fun b hb=>(S.own b (hf.mem_iff.2 (List.mem_append_left _ hb))).1)).mono fun e w' hR=>?_
  obtain ⟨v,H',ψ,Δ',rfl,hpost,hψ,hsat,hok,hnd',hblk,hle,hfr,hkk⟩:=hR
  have hfo : ∀ b ∈ blks Δf,b < w.heap.size∧b ∉ blks Δ0:=fun b hb=>⟨(S.own b (hf.mem_iff.2 (List.mem_append_right _ hb))).1,fun h0=>hdis b h0 b hb rfl⟩
  have hS:St C Γ (Δ'++Δf) H' a w':=by
    refine ⟨S.dfr,S.siz,fun t φ ht=>?_,hsat,fun r hr=>?_,?_,fun b hb=>?_,IH.le_trans S.le hle,?_,fun b o hb hx=>?_⟩
    · obtain ⟨u,hu,hφ⟩:=S.env t φ ht
      exact ⟨u,hu,φ.mono hle hφ⟩
    · rcases List.mem_append.1 hr with hr|hr
      · exact hok r hr
      · refine r.st hle (fun b hb=>?_) (S.res r (hp.mem_iff.2 (List.mem_append_right _ hr)))
        obtain ⟨h1,h2⟩:=hfo b (List.mem_filterMap.2 ⟨r,hr,hb⟩)
        exact ⟨hfr.block b h1 h2,fun o=>hkk b o h1 h2⟩
    · show (List.filterMap Res.blk (Δ'++Δf)).Nodup
      rw [List.filterMap_append]
      refine List.nodup_append.2 ⟨hnd',hnf,fun x hx y hy he=>?_⟩
      subst he
      obtain ⟨h1,h2⟩:=hfo x hy
      rcases (hblk x hx).2 with h3|h3
      · exact h2 h3
      · omega
    · have hb:b ∈ List.filterMap Res.blk (Δ'++Δf):=hb
      rw [List.filterMap_append] at hb
      rcases List.mem_append.1 hb with hb|hb
      · refine ⟨(hblk b hb).1,?_⟩
        rcases (hblk b hb).2 with h3|h3
        · exact (S.own b (hf.mem_iff.2 (List.mem_append_left _ h3))).2
        · exact .inr (Nat.le_trans S.fr.size h3)
      · have:=S.own b (hf.mem_iff.2 (List.mem_append_right _ hb))
        exact ⟨Nat.lt_of_lt_of_le this.1 hfr.size,this.2⟩
    · refine ⟨hfr.os.trans S.fr.os,hfr.tape.trans S.fr.tape,hfr.output.trans S.fr.output,Nat.le_trans S.fr.size hfr.size,fun j hj hjX=>?_⟩
      refine (hfr.block j (Nat.lt_of_lt_of_le hj S.fr.size) fun h0=>?_).trans (S.fr.block j hj hjX)
      rcases (S.own j (hf.mem_iff.2 (List.mem_append_left _ h0))).2 with h|h
      · exact hjX h
      · omega
    · refine (hkk b o (Nat.lt_of_lt_of_le hb S.fr.size) fun h0=>?_).trans (S.hk b o hb hx)
      rcases (S.own b (hf.mem_iff.2 (List.mem_append_left _ h0))).2 with h|h
      · exact hx h
      · omega
  refine hK _ _ (k ψ Δ' hpost H' _ w' ?_)
  have E:=Ext.refl hsat
  cases d with
  | none=>exact hS.putN E v
  | some d=>exact hS.put E d (hd d rfl) v ψ hψ
end
theorem All2.is_eq {H:IH} : ∀ {us vs:List Value},All2 (fun (φ:Pr) v=>φ.h H v) (us.map is) vs→vs=us
  | [],[],_=>rfl
  | u::us,v::vs,⟨h1,h2⟩=>by
    have h1:v=u:=h1
    rw [h1,All2.is_eq h2]
  | [],_::_,h=>h.elim
  | _::_,[],h=>h.elim
theorem All2.of_is {H:IH} : ∀ us:List Value,All2 (fun (φ:Pr) v=>φ.h H v) (us.map is) us
  | []=>trivial
  | _::us=>⟨rfl,All2.of_is us⟩
section
variable {P:Program} {Γ:Env} {Δ:List Res} {d:Option Nat} {ty:Nat} {pos:String} {af:Array Edge} {g:Option (Nat × Bool)} {x y:Operand} {t yt:Nat}
theorem op_makeFunc {f:Nat} {ys:List Operand} {vs:List Value} (h:opds Γ ys (vs.map is)):OpP P Γ Δ ⟨d, .makeFunc (.func f) #[] ys.toArray,ty,pos,af,g⟩ (is (.func (.func f) #[] vs.toArray)) :=
  OpP.same fun H a w hx hs=>by
    have hv:=(opds.all (ρ:=a.eval) (H:=H) h (fun x hxx ψ hψ=>hx x (by simp [Op.operands,hxx]) ψ hψ)).is_eq
    refine ⟨_,?_,rfl⟩
    have e:(execOp a.eval ⟨d, .makeFunc (.func f) #[] ys.toArray,ty,pos,af,g⟩).run P w=((do pure (Next.value (← Instr.makeFunc (.func f) (Array.map a.eval #[]) (ys.toArray.map a.eval))):Sem Next)).run P w:=rfl
    rw [e]
    refine run_value ?_
    show Result.ok (Value.func (.func f) (Array.map a.eval #[]) (Array.map a.eval ys.toArray)) w=_
    rw [← hv]
    simp
theorem op_andn {m n:Nat} (h1:opd Γ x=some (is (.int .i64 (m:Int)))) (h2:opd Γ y=some (is (.int .i64 (n:Int)))) (hm:m < 2 ^ 63) (hn:n < 2 ^ 63):OpP P Γ Δ ⟨d, .binOp .and t x y yt,ty,pos,af,g⟩ (is (.int .i64 ((m &&& n:Nat):Int))) :=
  op_andI h1 h2 (by
    have e1:(BitVec.ofInt IntKind.i64.bits (m:Int)).toNat=m:=by
      rw [BitVec.ofInt_natCast,BitVec.toNat_ofNat]
      exact Nat.mod_eq_of_lt (Nat.lt_of_lt_of_le hm (by decide))
    have e2:(BitVec.ofInt IntKind.i64.bits (n:Int)).toNat=n:=by
      rw [BitVec.ofInt_natCast,BitVec.toNat_ofNat]
      exact Nat.mod_eq_of_lt (Nat.lt_of_lt_of_le hn (by decide))
    rw [BitVec.toNat_and,e1,e2]
    have:m &&& n≤m:=Nat.and_le_left
    exact wrapi _ (by omega) (by omega))
end

theorem FnR.weak {P:Program} {f:Nat} {φs φs':List Pr} {Δ0:List Res} {post:Pr→List Res→Prop} (F:FnR P f φs Δ0 post) (h : ∀ H vs,All2 (fun φ v=>φ.h H v) φs' vs→All2 (fun φ v=>φ.h H v) φs vs):FnR P f φs' Δ0 post :=
  ⟨F.ent,fun H w vs hs hv=>F.run H w vs hs (h H vs hv)⟩
section
variable {P:Program} {n:Nat} {w0:World} {H0:IH} {X:List Nat} {Γ:Env} {Δ:List Res} {fn:Func} {post:Pr→List Res→Prop}
theorem E.retR2 {r s:Nat} {φ χ:Pr} {Δ' G:List Res} (hr:fn.results = #[.tmp r, .tmp s]) (h:look Γ r=some φ) (h2:look Γ s=some χ) (hp:post (tup [φ,χ]) Δ') (hΔ:Δ.Perm (Δ'++G)):E ⟨P,n,w0,H0,X,none,[]⟩ .ret Γ Δ (bodyPost P fn (RetR H0 w0 X post)):=fun H a w S=>by
  obtain ⟨v,hv,hφ⟩:=S.env r φ h
  obtain ⟨u,hu,hχ⟩:=S.env s χ h2
  refine ⟨S.dfr, .tuple #[v,u],?_,_,H,tup [φ,χ],Δ',rfl,hp,⟨[v,u],rfl,hφ,hχ,trivial⟩,S.retR hΔ⟩
  rw [results_tmp2 hr a.tmps P w,getD_of hv,getD_of hu]
end
/-! ### More of regions in any order -/
/-- A row's block, named by a slot that holds a slice of it. -/
def itemS (b o n c:Nat) (r:Res):Item:=fun v=>match v with
  | .slice (some ⟨b',o',none⟩) n' c'=>if (b'=b∧o'=o)∧n'=n∧c'=c then r else bot
  | _=>bot
theorem itemS_ok {b o n c:Nat} {r:Res} {v:Value} {H:IH} {w:World} (h:(itemS b o n c r v).ok H w):v = .slice (some ⟨b,o,none⟩) n c:=by
  unfold itemS at h
  split at h
  · split at h
    · rename_i hb
      obtain ⟨⟨rfl,rfl⟩,rfl,rfl⟩:=hb
      rfl
    · exact h.elim
  · exact h.elim
theorem itemS_self (b o n c:Nat) (r:Res):itemS b o n c r (.slice (some ⟨b,o,none⟩) n c)=r:=by
  unfold itemS
  exact if_pos ⟨⟨rfl,rfl⟩,rfl,rfl⟩
theorem Open.sv {Γ:Env} {Δ:List Res} {F:Fresh} {K:Env→List Res→Prop} {d b o n c:Nat} {r:Res} (h:Open F ((d,is (.slice (some ⟨b,o,none⟩) n c))::Γ) (r::Δ) K):Open ((d,itemS b o n c r)::F) Γ Δ K:=by
  intro v ⟨H,w,hok⟩
  obtain rfl:=itemS_ok hok
  rw [itemS_self]
  exact h
section
variable {P:Program} {ops:Array Oper} {Γ:Env} {Δ:List Res} {rest:List Oper} {op:Op} {ty:Nat} {pos:String} {af:Array Edge} {φ:Pr} {K:Env→Fresh→Prop} {F:Fresh} {ts:List (Option Nat × Option Nat)}
/-- A store into a block whose place is known, whatever names it. -/
theorem PRunW.stG {s b o e t n:Nat} {R0 R1:Item} {φs φs' seg:List Pr} {p x:Operand} (hR : ∀ u H w,(R0 u).ok H w→R0 u=own b e φs∧R1 u=own b e φs') (hF:lkF F s=some R0) (hpp:opd Γ p=some (is (.pointer (some ⟨b,o,none⟩)))) (hv:opd Γ x=some φ) (hseg:Seg φ seg) [TSz P t n] (hl:seg.length=n) (hle:o+n≤φs.length) (he:splice φs o seg=φs')
    (k:PRunW P ops Δ rest ts Γ ((s,R1)::dropS (dropS F s) s) K):PRunW P ops Δ (⟨none, .store t p x,ty,pos,af,none⟩::rest) ((some s,some s)::ts) Γ F K:=by
  refine PRunW.e (φ:=any) ⟨some (s,R0),some (s,R1)⟩ ?_ (fun s' R h=>by injection h with h;injection h with h1 h2;subst h1;subst h2;exact hF) (fun h=>absurd rfl h) k
  subst he
  intro H a w Q K hx hs hr hb hsz hc hK
  obtain ⟨u,hu,hok,hbk⟩:=hc s _ rfl
  obtain ⟨e0,e1⟩:=hR u H w hok
  rw [e0] at hok
  obtain ⟨w',hrun,h1,h2,h3,h4,h5,h6,h7⟩:=run_store (P:=P) (t:=t) (ty:=ty) (pos:=pos) (af:=af) (g:=none) (d:=none) (hx p (by simp [Op.operands]) _ hpp) (hx x (by simp [Op.operands]) _ hv) hseg hs hok hl hle
  have htk:takesB (some (s,R0)) a b:=⟨s,_,u,rfl,hu,by rw [e0];rfl⟩
  unfold Oper.wp
  rw [hrun]
  refine hK undef H w' (IH.le_refl _) (fun _ _ _ _=>rfl) h1 h3 h4 h5 (by omega) (fun k hk hn=>h7 k (fun e=>hn (e ▸ htk))) trivial fun p R hp=>?_
  injection hp with hp
  injection hp with hp1 hp2
  subst hp1;subst hp2
  refine ⟨u,hu,by rw [e1];exact h2,fun b' hb' => .inl ?_⟩
  rw [e1] at hb'
  injection hb' with hb';subst hb';exact htk
/-- A load from a block whose place is known. -/
theorem PRunW.ldG {α:Type} (T:Td α) {v:α} {s d b o e t:Nat} {R0:Item} {φs:List Pr} {p:Operand} (hds:d ≠ s) (hR : ∀ u H w,(R0 u).ok H w→R0 u=own b e φs) (hF:lkF F s=some R0) (hpp:opd Γ p=some (is (.pointer (some ⟨b,o,none⟩)))) [TSz P t T.sz] [TAg P t T.ag] (hx:(φs.drop o).take T.sz=T.cells v)
    (k:PRunW P ops Δ rest ts ((d,T.val v)::Γ) ((s,R0)::dropS (dropS F s) s) K):PRunW P ops Δ (⟨some d, .load t p,ty,pos,af,none⟩::rest) ((some s,some s)::ts) Γ F K:=by
  refine PRunW.e (φ:=T.val v) ⟨some (s,R0),some (s,R0)⟩ ?_ (fun s' R h=>by injection h with h;injection h with h1 h2;subst h1;subst h2;exact hF) (fun _ _=>rfl) k
  intro H a w Q K hxx hs hr hb hsz hc hK
  obtain ⟨u,hu,hok,hbk⟩:=hc s _ rfl
  have e0:=hR u H w hok
  have hok':=hok
  rw [e0] at hok
  have hL:=op_oload (P:=P) (Γ:=Γ) (Δ:=[own b e φs]) (d:=some d) (ty:=ty) (pos:=pos) (af:=af) (g:=none) T hpp List.mem_cons_self (t:=t) hx
  refine hL H a w Q K hxx hs (fun r hr=>by rcases List.mem_singleton.1 hr with rfl;exact hok) (fun b' hb'=>?_) fun v' H' w' E hv'=>?_
  · have:b'=b:=by simpa [own] using hb'
    subst this
    exact hbk b' (by rw [e0];rfl)
  · refine hK v' H' w' E.le (fun b o hb _=>E.old b o hb) E.sat E.fr.os E.fr.tape E.fr.output E.fr.size (fun k hk _=>E.fr.block k hk (by simp)) hv' fun p R hp=>?_
    injection hp with hp
    injection hp with hp1 hp2
    subst hp1;subst hp2
    refine ⟨u,by simp [Act.put,Array.getElem?_setIfInBounds_ne hds,hu],(R0 u).st E.le (fun b' hb'=>?_) hok',fun b' hb' => .inl ⟨s,R0,u,rfl,hu,hb'⟩⟩
    have hlt:=hbk b' hb'
    exact ⟨E.fr.block b' hlt (by simp),fun o=>E.old b' o hlt⟩
end
section
variable {C:Cx} {Γ:Env} {Δ Δ0:List Res} {Q:Exit→Act→World→Prop}
/-- A region that is given what two slots name. -/
theorem J.drawW2 {id:Nat} {l:List Oper} (n:Nat) (ts:List (Option Nat × Option Nat)) (s s2:Nat) (R R2:Item) {v0 v2:Value} (hne:s ≠ s2) (hs:look Γ s=some (is v0)) (hs2:look Γ s2=some (is v2)) (hp:Δ0.Perm (R v0::R2 v2::Δ)) (hm:C.P.follows .mixedOrders=true) (hc:(drawOKW .any l.toArray n && slotsOK l.toArray n C.n && chkW .any l.toArray n ts [s,s2])=true)
    (h:PRunW C.P l.toArray Δ (l.take n) ts Γ [(s,R),(s2,R2)] fun Γ' F=>Open F Γ' Δ fun Γ'' Δ''=>Lq C Γ'' Δ'' l.toArray (l.drop n) Q):J C Γ Δ0 (.region id l.toArray true) Q:=by
  have hlk : ∀ s' R',lkF [(s,R),(s2,R2)] s'=some R'→(s'=s∧R'=R) ∨ (s'=s2∧R'=R2):=by
    intro s' R' h
    unfold lkF at h
    split at h
    · rename_i hk
      injection h with h
      exact .inl ⟨(Nat.eq_of_beq_eq_true hk).symm,h.symm⟩
    · unfold lkF at h
      split at h
      · rename_i hk
        injection h with h
        exact .inr ⟨(Nat.eq_of_beq_eq_true hk).symm,h.symm⟩
      · cases h
  refine J.drawWI n ts [(s,R),(s2,R2)] (by simp [hne]) hm hc (fun H a w S=>?_) h
  have S1:=S.lose hp
  have S2:=S1.lose (List.Perm.refl _)
  obtain ⟨u,hu,hu2⟩:=S.env s _ hs
  have hu2:u=v0:=hu2
  subst hu2
  obtain ⟨y,hy,hy2⟩:=S.env s2 _ hs2
  have hy2:y=v2:=hy2
  subst hy2
  have hf:=hp.filterMap Res.blk
  have hnd:=hf.nodup_iff.1 S.dis
  have f1 : ∀ b,(R u).blk=some b→b < w.heap.size∧(b ∈ C.X ∨ C.w0.heap.size≤b)∧b ∉ Δ.filterMap Res.blk∧(R2 y).blk ≠ some b:=by
    intro b hb
    rw [List.filterMap_cons,hb] at hf hnd
    have hown:=S.own b (hf.mem_iff.2 List.mem_cons_self)
    have hnot:=(List.nodup_cons.1 hnd).1
    exact ⟨hown.1,hown.2,fun hm=>hnot (by rw [List.filterMap_cons];cases (R2 y).blk <;> simp_all),fun h2=>hnot (by rw [List.filterMap_cons,h2];exact List.mem_cons_self)⟩
  have hf2:((R2 y::Δ).filterMap Res.blk).Nodup:=S1.dis
  have f2 : ∀ b,(R2 y).blk=some b→b < w.heap.size∧(b ∈ C.X ∨ C.w0.heap.size≤b)∧b ∉ Δ.filterMap Res.blk:=by
    intro b hb
    have hown:=S1.own b (by rw [List.filterMap_cons,hb];exact List.mem_cons_self)
    rw [List.filterMap_cons,hb] at hf2
    exact ⟨hown.1,hown.2,(List.nodup_cons.1 hf2).1⟩
  refine ⟨S2,fun s' R' h=>?_,fun s1 R1 s3 R3 v v' b h1 h3 hv hv' hb hb'=>?_⟩
  · rcases hlk s' R' h with ⟨rfl,rfl⟩|⟨rfl,rfl⟩
    · exact ⟨u,hu,S.res _ (hp.mem_iff.2 List.mem_cons_self),fun b hb=>⟨(f1 b hb).1,(f1 b hb).2.1,(f1 b hb).2.2.1⟩⟩
    · exact ⟨y,hy,S1.res _ List.mem_cons_self,fun b hb=>f2 b hb⟩
  · rcases hlk s1 R1 h1 with ⟨rfl,rfl⟩|⟨rfl,rfl⟩
    · rcases hlk s3 R3 h3 with ⟨rfl,rfl⟩|⟨rfl,rfl⟩
      · rfl
      · rw [hu] at hv
        injection hv with hv
        subst hv
        rw [hy] at hv'
        injection hv' with hv'
        subst hv'
        exact absurd hb' (f1 b hb).2.2.2
    · rcases hlk s3 R3 h3 with ⟨rfl,rfl⟩|⟨rfl,rfl⟩
      · rw [hy] at hv
        injection hv with hv
        subst hv
        rw [hu] at hv'
        injection hv' with hv'
        subst hv'
        exact absurd hb (f1 b hb').2.2.2
      · rfl
end
/-! ### An append of so many noughts to nothing -/
section
variable {C:Cx} {Γ:Env} {Δ:List Res} {ops:Array Oper} {rest:List Oper} {Q:Exit→Act→World→Prop} {ty:Nat} {pos:String} {af:Array Edge}
theorem Lq.appendN {α:Type} {T:Td α} {d t u e by_ n:Nat} {z:Value} {s y:Operand} {k:IntKind} (hd:Nat.blt d C.n=true) (h:opd Γ s=some (is (.slice none 0 0))) (h':opd Γ y=some (is (.int .i64 (n:Int)))) [ht:TSl C.P t e] [hu:TInt C.P u k] [h1:TSz C.P e T.sz] [h2:TBy C.P e by_] [h3:TZero C.P e z] (hz:z.cells.size=T.sz) (hz1:z.cells.toList.all (fun c=>c.oneCell')=true)
    (hn0:0 < n) (hm:n≤maxLen) (hby:n*by_≤140737488355328)
    (k' : ∀ b cap,Lq C ((d,is (.slice (some ⟨b,0,none⟩) n cap))::Γ) (row (.slice (some ⟨b,0,none⟩) 0 cap) e T.toTy []::Δ) ops rest Q):Lq C Γ Δ ops (⟨some d, .call ⟨.builtin .append, #[s,y], #[t,u]⟩,ty,pos,af,none⟩::rest) Q:=by
  intro H a w S
  refine wpL_plain rfl (fun c hc=>by cases hc) fun K hK=>?_
  have hv:a.eval s = .slice none 0 0:=S.opd h
  have hv':a.eval y = .int .i64 (n:Int):=S.opd h'
  obtain ⟨i,hi,hsz⟩:=Option.map_eq_some_iff.1 h1.h
  obtain ⟨i',hi',hbz⟩:=Option.map_eq_some_iff.1 h2.h
  obtain ⟨i'',hi'',hzz⟩:=Option.map_eq_some_iff.1 h3.h
  obtain rfl:i=i':=Option.some.inj (hi.symm.trans hi')
  obtain rfl:i=i'':=Option.some.inj (hi.symm.trans hi'')
  have hwr:IntKind.i64.wrap (n:Int)=(n:Int):=wrapi _ (by omega) (by unfold maxLen at hm;omega)
  have hcap : ¬ (281474976710656 < Builtin.nextslicecap n 0*i.bytes):=by
    have:=growslice_fits (need:=n) (old:=0) (bytes:=by_) hn0 (by simpa using hby)
    rw [hbz];omega
  have hl48 : ¬ (281474976710656 < (n:Int)*(i.bytes:Int)):=by
    rw [hbz]
    have:((n*by_:Nat):Int)≤140737488355328:=by omega
    rw [Int.natCast_mul] at this
    omega
  have hneg : ¬ ((n:Int) < 0):=by omega
  have hy : ¬ n=0:=by omega
  have hmi2 : ¬ (9223372036854775807 < (n:Int)):=by unfold maxLen at hm;omega
  have hpos:=T.pos
  have hns : ¬ n*T.sz=0:=Nat.mul_ne_zero hy (by omega)
  have happ:(Builtin.append_ #[t,u] ty #[.slice none 0 0, .int .i64 (n:Int)]).run C.P w = .ok (.slice (some ⟨w.heap.size,0,none⟩) n (grownCap w n 0 e)) (w.drew.alloc (.cells (Builtin.zeroCells z.cells n++Builtin.zeroCells z.cells (grownCap w n 0 e - n)) e)):=by
    simp [Builtin.append_,run_underlying ht.h,run_underlying hu.h,sizeOf,typeInfo,zeroValue,hi,hsz,hzz,asInt,asIntOf,hwr,hneg,hl48,hns,hy,hmi2,hcap,Question.forced,run_firstCells_none,newRow,grownCap]
  have hrun:(execOp a.eval ⟨some d, .call ⟨.builtin .append, #[s,y], #[t,u]⟩,ty,pos,af,none⟩).run C.P w = .ok (.value (.slice (some ⟨w.heap.size,0,none⟩) n (grownCap w n 0 e))) (w.drew.alloc (.cells (Builtin.zeroCells z.cells n++Builtin.zeroCells z.cells (grownCap w n 0 e - n)) e)) :=
    run_builtin fun c=>run_value (x:=Builtin.append_ #[t,u] ty #[a.eval s,a.eval y]) (by rw [hv,hv'];exact happ)
  have hge:=grownCap_ge w n 0 e
  have hcm:=grownCap_le_maxLen w n 0 e hm
  have E:Ext H w H (w.drew.alloc (.cells (Builtin.zeroCells z.cells n++Builtin.zeroCells z.cells (grownCap w n 0 e - n)) e)):=by
    have E:=ext_alloc S.sat (.cells (Builtin.zeroCells z.cells n++Builtin.zeroCells z.cells (grownCap w n 0 e - n)) e)
    exact ⟨E.le,E.old,⟨E.sat.gk,E.sat.cell⟩,⟨E.fr.os,E.fr.tape,E.fr.output,E.fr.size,E.fr.block⟩⟩
  unfold Oper.wp
  rw [hrun]
  have S1:=S.put E d (blt hd) (.slice (some ⟨w.heap.size,0,none⟩) n (grownCap w n 0 e)) (is (.slice (some ⟨w.heap.size,0,none⟩) n (grownCap w n 0 e))) rfl
  refine hK _ _ (k' w.heap.size (grownCap w n 0 e) H _ _ (S1.gain (.inr ⟨w.heap.size,0,grownCap w n 0 e,(Builtin.zeroCells z.cells n++Builtin.zeroCells z.cells (grownCap w n 0 e - n)).toList,rfl,?_,?_,Nat.zero_le _,hcm,?_,?_,fun o=>?_⟩) (fun b hb'=>?_)))
  · rw [Array.toArray_toList]
    exact heap_alloc_self w.drew _
  · rw [Array.length_toList,Array.size_append,size_zeroCells,size_zeroCells,hz, ← Nat.add_mul,Nat.zero_add]
    exact Nat.mul_le_mul_right _ (by omega)
  · show All2 _ [] _
    rw [List.length_nil,Nat.zero_mul,List.take_zero]
    exact trivial
  · intro c hc
    rw [Array.toList_append] at hc
    rcases List.mem_append.1 hc with hc|hc
    · exact zeroCells_one hz1 c hc
    · exact zeroCells_one hz1 c hc
  · cases hH:H w.heap.size o with
    | none=>rfl
    | some u=>exact absurd (S.sat.lt hH) (Nat.lt_irrefl _)
  · have hb':some w.heap.size=some b:=hb'
    injection hb' with hb';subst hb'
    exact ⟨by simp, .inr S.fr.size,fun hm=>absurd (S.own _ hm).1 (Nat.lt_irrefl _)⟩
end
end Go.Proofs.YtljbbajelkkafaaDoor.L
/-
  Rules: a state between,capacities,slices of nothing.
-/
set_option linter.unusedVariables false
set_option linter.unusedSimpArgs false
namespace Go.Proofs.YtljbbajelkkafaaDoor.L
open Go
set_option linter.unusedSectionVars false
variable [Globs]
section
variable {C:Cx} {Γ:Env} {Δ:List Res} {Q:Exit→Act→World→Prop}
/-- Some state of a kind. -/
def Mid {α:Type} (C:Cx) (V:α→Prop) (I:α→Env) (R:α→List Res) (a:Act) (w:World):Prop := ∃ x H,V x∧St C (I x) (R x) H a w
theorem E.mid {α:Type} {V:α→Prop} {I:α→Env} {R:α→List Res} (x:α) (hV:V x) (h:Sub Γ (I x) Δ (R x)):E C .normal Γ Δ (Exit.then (Mid C V I R) Q) :=
  fun H a w S=>⟨x,H,hV,h.st S⟩
theorem J.mid {α:Type} {c:Code} {K:Act→World→Prop} (V:α→Prop) (I:α→Env) (R:α→List Res) (h1:J C Γ Δ c (Exit.then (Mid C V I R) Q)) (h2 : ∀ x,V x→E C .normal (I x) (R x) (Exit.then K Q)):J C Γ Δ c (Exit.then K Q):=fun H a w S =>
  wpIn_mono (h1 H a w S) fun e a' w' h=>by
    cases e with
    | normal =>
      obtain ⟨x,H',hV,S'⟩:=h
      exact h2 x hV H' a' w' S'
    | _=>exact h
end
section
variable {P:Program} {Γ:Env} {Δ:List Res} {d:Option Nat} {ty:Nat} {pos:String} {af:Array Edge} {g:Option (Nat × Bool)} {x y:Operand} {t yt:Nat}
theorem op_scap {A:Option Addr} {n c e:Nat} (h:opd Γ x=some (is (.slice A n c))) [ht:TSl P t e]:OpP P Γ Δ ⟨d, .call ⟨.builtin .cap, #[x], #[t]⟩,ty,pos,af,g⟩ (is (.int .i64 (c:Int))) :=
  OpP.same fun H a w hx hs=>by
    have hv:a.eval x = .slice A n c:=hx x (by simp [Op.operands,Call.operands]) _ h
    refine ⟨_,run_builtin (as:=[x]) fun c=>?_,rfl⟩
    refine run_value (x:=Builtin.cap_ #[t] ty #[a.eval x]) ?_
    rw [hv]
    exact (run_bind (underlying t) _ w (run_underlying' ht.h)).trans rfl
theorem op_nsl_hi {e sz:Nat} {k:IntKind} (h:opd Γ x=some (is (.slice none 0 0))) (hh:opd Γ y=some (is (.int k ((0:Nat):Int)))) [ht:TSl P t e] [TSz P e sz]:OpP P Γ Δ ⟨d, .slice t x none (some y) none,ty,pos,af,g⟩ (is (.slice none 0 0)) :=
  OpP.same fun H A w hxx hs=>by
    have hv:A.eval x = .slice none 0 0:=hxx x (by simp [Op.operands]) _ h
    have hi':A.eval y = .int k ((0:Nat):Int):=hxx y (by simp [Op.operands]) _ hh
    refine ⟨_,?_,rfl⟩
    simp only [execOp,hv]
    refine run_value ?_
    rw [run_sliceAt_sl ht.h]
    unfold Instr.slice
    refine (run_bind (underlying t) _ w (run_underlying' ht.h)).trans ?_
    simp only [Option.map_some,Option.map_none,hi']
    refine (run_bind (Instr.sliceBounds true 0 0 none (some (.int k ((0:Nat):Int))) none) _ w (a:=(0,0,0)) (w':=w) ?_).trans ?_
    · unfold Instr.sliceBounds
      simp only [Sem.run_bind,Sem.run_pure,Result.andThen_ok,run_bound (Nat.le_refl 0)]
    · refine (run_bind (sizeOf e) _ w (run_sizeOf (t:=e) (n:=sz))).trans ?_
      simp
end
end Go.Proofs.YtljbbajelkkafaaDoor.L
/-
  Rules: calls whose row is owned,in regions of any order;results that lie in memory.
-/
set_option linter.unusedVariables false
set_option linter.unusedSimpArgs false
namespace Go.Proofs.YtljbbajelkkafaaDoor.L
open Go
set_option linter.unusedSectionVars false
variable [Globs]
section
variable {P:Program} {Γ:Env} {Δ:List Res} {ty:Nat} {pos:String} {af:Array Edge}
theorem opR_call {α:Type} {T:Ty α} {l:List α} {e f:Nat} {φs:List Pr} {xs:List Operand} {ats:Array Nat} {d:Option Nat} (F:FnR P f φs [] (fun ψ Δ => ∃ A c,ψ=is (.slice A l.length c)∧Δ=[row (.slice A l.length c) e T l])) (h:opds Γ xs φs) :
    OpR P Γ Δ ⟨d, .call ⟨.value (.func f),xs.toArray,ats⟩,ty,pos,af,none⟩ (fun v=>row v e T l):=by
  intro H a w Q K hx hs hr hb hK
  have hargs:=opds.all (ρ:=a.eval) (H:=H) h (fun x hxx ψ hψ=>hx x (by simp [Op.operands,Call.operands,hxx]) ψ hψ)
  have hrun:(execOp a.eval ⟨d, .call ⟨.value (.func f),xs.toArray,ats⟩,ty,pos,af,none⟩).run P w = .ok (.enter f (xs.map a.eval).toArray) w:=by
    have h1:(callFunc f ((#[]++xs.toArray.map a.eval) ++ #[])).run P w = .ok (.enter f (xs.map a.eval).toArray) w:=by
      rw [Array.empty_append,Array.append_empty,List.map_toArray]
      exact F.ent.h _ w
    exact h1
  unfold Oper.wp
  rw [hrun]
  rw [Oper.upon_enter]
  refine (F.run H w _ hs hargs (fun r hr=>by cases hr) List.nodup_nil (fun b hb=>by cases hb)).mono fun e' w' hR=>?_
  obtain ⟨v,H',ψ,Δ',rfl,⟨A,c,rfl,rfl⟩,hψ,hsat,hok,hnd',hblk,hle,hfr,hkk⟩:=hR
  have hψ:v = .slice A l.length c:=hψ
  subst hψ
  refine hK _ H' w' ⟨hle,fun b o hb=>hkk b o hb (by simp [blks]),hsat,hfr⟩ (hok _ List.mem_cons_self) fun b hb=>?_
  have:=hblk b (by unfold blks;rw [List.filterMap_cons,hb];exact List.mem_cons_self)
  refine ⟨?_,this.1⟩
  rcases this.2 with h|h
  · cases h
  · exact h
end
section
variable {P:Program} {n:Nat} {w0:World} {H0:IH} {X:List Nat} {Γ:Env} {Δ:List Res} {fn:Func} {post:Pr→List Res→Prop}
theorem own_load {α:Type} (T:Td α) {x:α} {t b e:Nat} {φs:List Pr} {H:IH} {w:World} (ho:(own b e φs).ok H w) [TSz P t T.sz] [TAg P t T.ag] (hx:φs.take T.sz=T.cells x) : ∃ v,(loadVar t ⟨b,0,none⟩).run P w = .ok v w∧(T.val x).h H v:=by
  obtain ⟨cs,hh,hcs⟩:=own_cells ho
  have hcs2:=hcs.take T.sz
  rw [hx] at hcs2
  have hl:(cs.take T.sz).length=T.sz:=by rw [← hcs2.length,T.len]
  have hload:=run_loadVar (P:=P) (t:=t) (n:=T.sz) (ag:=T.ag) w b 0 (cs.take T.sz) hl T.one fun j v hj=>by
    rw [cell_at hh]
    rw [List.getElem?_take] at hj
    split at hj
    · rwa [Nat.zero_add]
    · cases hj
  exact ⟨_,hload,T.inn hcs2⟩
theorem E.retcct {α:Type} (T:Td α) {x y:α} {r1 r2 s t1 t2 b1 b2 e1 e2:Nat} {φ1 φ2:List Pr} {χ ψ:Pr} (hr:fn.results = #[.cell r1 t1, .cell r2 t2, .tmp s]) (h1:look Γ r1=some (is (.pointer (some ⟨b1,0,none⟩)))) (h2:look Γ r2=some (is (.pointer (some ⟨b2,0,none⟩)))) (h3:look Γ s=some χ)
    (m1:own b1 e1 φ1 ∈ Δ) (m2:own b2 e2 φ2 ∈ Δ) [TSz P t1 T.sz] [TAg P t1 T.ag] [TSz P t2 T.sz] [TAg P t2 T.ag] (hx:φ1.take T.sz=T.cells x) (hy:φ2.take T.sz=T.cells y) (hp:ψ=tup [T.val x,T.val y,χ]) :
    E ⟨P,n,w0,H0,[],none,[]⟩ .ret Γ Δ (bodyPost P fn (RetP H0 w0 ψ)):=fun H a w S=>by
  obtain ⟨v1,hv1,rfl⟩:=S.env r1 _ h1
  obtain ⟨v2,hv2,rfl⟩:=S.env r2 _ h2
  obtain ⟨v3,hv3,hχ⟩:=S.env s _ h3
  obtain ⟨u1,hu1,hφ1⟩:=own_load (P:=P) T (t:=t1) (S.res _ m1) hx
  obtain ⟨u2,hu2,hφ2⟩:=own_load (P:=P) T (t:=t2) (S.res _ m2) hy
  refine ⟨S.dfr, .tuple #[u1,u2,v3],?_,_,H,rfl,S.ext,?_⟩
  · simp [results,hr,hv1,hv2,hv3,asAddr,hu1,hu2]
  · rw [hp]
    exact ⟨[u1,u2,v3],rfl,hφ1,hφ2,hχ,trivial⟩
end
section
variable {C:Cx} {Γ:Env} {Δ:List Res} {ops:Array Oper} {rest:List Oper} {Q:Exit→Act→World→Prop} {ty:Nat} {pos:String} {af:Array Edge} {op:Op}
/-- An operation that yields a row that is owned. -/
theorem Lq.rowR {α:Type} {T:Ty α} {xs:List α} {d e:Nat} (hd:Nat.blt d C.n=true) (h:OpR C.P Γ Δ ⟨some d,op,ty,pos,af,none⟩ (fun v=>row v e T xs)) (k : ∀ A c,Lq C ((d,is (.slice A xs.length c))::Γ) (row (.slice A xs.length c) e T xs::Δ) ops rest Q):Lq C Γ Δ ops (⟨some d,op,ty,pos,af,none⟩::rest) Q:=by
  intro H a w S
  refine wpL_plain rfl (not_defer (h H a w _ _ (fun x hx ψ hψ=>S.opd hψ) S.sat S.res (fun b hb=>(S.own b hb).1) fun v H' w' E hok hbk=>put_defers _ _ _)) fun K hK=>?_
  refine h H a w _ _ (fun x hx ψ hψ=>S.opd hψ) S.sat S.res (fun b hb=>(S.own b hb).1) fun v H' w' E hok hbk=>?_
  obtain ⟨A,c,rfl⟩:=row_slice hok
  refine hK _ _ (k A c H' _ _ ((S.put E d (blt hd) _ (is (.slice A xs.length c)) rfl).gain hok (fun b hb=>?_)))
  refine ⟨(hbk b hb).2, .inr (Nat.le_trans S.fr.size (hbk b hb).1),fun hm=>?_⟩
  have h1:=(S.own b hm).1
  have h2:=(hbk b hb).1
  omega
/-- A literal's row, to be owned. -/
theorem Lq.bsl {α:Type} {T:Td α} {xs:List α} {d t e len:Nat} {z:Value} {ps:List (Nat × Operand)} (hd:Nat.blt d C.n=true) (hpo:PO Γ T 0 ps xs) (hl:len=xs.length) (hsm:Nat.ble (xs.length*T.sz) 16777216=true) [ht:TSl C.P t e] [TSz C.P e T.sz] [TZero C.P e z] (hz:z.cells.size=T.sz)
    (k : ∀ A c,Lq C ((d,is (.slice A xs.length c))::Γ) (row (.slice A xs.length c) e T.toTy xs::Δ) ops rest Q):Lq C Γ Δ ops (⟨some d, .buildSlice t len ps.toArray,ty,pos,af,none⟩::rest) Q :=
  Lq.rowR hd (opR_bslice hpo hl hsm hz) k
end
theorem FnR.frz2 {P:Program} {f:Nat} {φs:List Pr} {α:Type} {T:Ty α} {l:List α} {e:Nat} {χ:Pr} (F:FnR P f φs [] (fun ψ Δ => ∃ A c,ψ=tup [is (.slice A l.length c),χ]∧Δ=[row (.slice A l.length c) e T l])):Fn P f φs (tup [sl T l,χ]) :=
  ⟨F.ent,fun H w vs hs hv=>(F.run H w vs hs hv (fun r hr=>by cases hr) List.nodup_nil (fun b hb=>by cases hb)).mono fun e' w' hR=>by
    obtain ⟨v,H',ψ,Δ',rfl,⟨A,c,rfl,rfl⟩,hψ,hsat,hok,hnd',hblk,hle,hfr,hkk⟩:=hR
    obtain ⟨cs,rfl,hcs⟩:=hψ
    match cs,hcs with
    | [v1,v2],⟨h1,h2,_⟩ =>
      have h1:v1 = .slice A l.length c:=h1
      subst h1
      obtain ⟨H2,k1,k2,k3,k4⟩:=row_freeze hsat (hok _ List.mem_cons_self)
      refine ⟨_,H2,rfl,⟨IH.le_trans hle k1,fun b o hb=>?_,k2,hfr⟩,_,rfl,k3,χ.mono k1 h2,trivial⟩
      rw [k4 b o (fun hb2=>?_)]
      · exact hkk b o hb (by simp [blks])
      · have:=hblk b (by unfold blks;rw [List.filterMap_cons,hb2];exact List.mem_cons_self)
        rcases this.2 with h|h
        · cases h
        · omega⟩
theorem E.retct {α:Type} (T:Td α) {P:Program} {n:Nat} {w0:World} {H0:IH} {Γ:Env} {Δ:List Res} {fn:Func} {x:α} {r1 s t1 b1 e1:Nat} {φ1:List Pr} {χ ψ:Pr} (hr:fn.results = #[.cell r1 t1, .tmp s]) (h1:look Γ r1=some (is (.pointer (some ⟨b1,0,none⟩)))) (h3:look Γ s=some χ)
    (m1:own b1 e1 φ1 ∈ Δ) [TSz P t1 T.sz] [TAg P t1 T.ag] (hx:φ1.take T.sz=T.cells x) (hp:ψ=tup [T.val x,χ]):E ⟨P,n,w0,H0,[],none,[]⟩ .ret Γ Δ (bodyPost P fn (RetP H0 w0 ψ)):=fun H a w S=>by
  obtain ⟨v1,hv1,rfl⟩:=S.env r1 _ h1
  obtain ⟨v3,hv3,hχ⟩:=S.env s _ h3
  obtain ⟨u1,hu1,hφ1⟩:=own_load (P:=P) T (t:=t1) (S.res _ m1) hx
  refine ⟨S.dfr, .tuple #[u1,v3],?_,_,H,rfl,S.ext,?_⟩
  · simp [results,hr,hv1,hv3,asAddr,hu1]
  · rw [hp]
    exact ⟨[u1,v3],rfl,hφ1,hχ,trivial⟩
end Go.Proofs.YtljbbajelkkafaaDoor.L
