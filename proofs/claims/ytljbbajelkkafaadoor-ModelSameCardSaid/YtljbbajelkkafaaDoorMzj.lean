/-
  A clone of a view,in memory of its own,walked;calls that are lent what is owned.
-/
import Derived.Test.YtljbbajelkkafaaDoorMzi
namespace Go.Proofs.YtljbbajelkkafaaDoor.L
open Go
set_option linter.unusedSectionVars false
variable [Globs] [Has_sha_table] [Has_sha_begin]
set_option linter.unusedVariables false
/-! ### What is owned, lent -/
/-- All that memory holds. -/
def fullK (w:World):IH:=fun b o=>w.cell? ⟨b,o,none⟩
theorem fullK_le {H:IH} {w:World} (hs:Sat H w):IH.le H (fullK w):=fun b o v h=>hs.cell b o v h
theorem fullK_sat {H:IH} {w:World} (hs:Sat H w):Sat (fullK w) w:=⟨Gk.mono (fullK_le hs) hs.gk,fun _ _ _ h=>h⟩
theorem row_full {α:Type} {T:Ty α} {xs:List α} {e:Nat} {v:Value} {H:IH} {w:World} (hs:Sat H w) (h:(row v e T xs).ok H w):(sl T xs).h (fullK w) v:=by
  rcases h with ⟨rfl,rfl⟩|⟨b,o,cap,cs,rfl,h1,h2,h3,h4,h5,h6,h7⟩
  · exact sl_nil _ _ rfl
  · refine ⟨some ⟨b,o,none⟩,cap,rfl,h3,h4,fun h=>(by cases h),fun _=>⟨b,o,rfl,fun i φ hi=>?_⟩⟩
    obtain ⟨c,hc,hφ⟩:=h5.get i φ hi
    refine ⟨c,?_,Pr.c_mono (fullK_le hs) hφ⟩
    show w.cell? ⟨b,o+i,none⟩=some c
    rw [cell_at h1]
    rw [List.getElem?_take] at hc
    split at hc
    · rwa [List.getElem?_drop] at hc
    · cases hc
section
variable {P:Program} {Γ:Env} {Δ:List Res} {ty:Nat} {pos:String} {af:Array Edge} {d:Option Nat} {g:Option (Nat × Bool)} {φ:Pr}
/-- A call of a function that looks at what is owned. -/
theorem op_look {f:Nat} {φs ξs:List Pr} {xs:List Operand} {ats:Array Nat} (F:Fn P f ξs φ) (hflat:Flat φ) (h:opds Γ xs φs)
    (hg : ∀ H w,Sat H w→(∀ r ∈ Δ,r.ok H w) → ∀ vs,All2 (fun (φ:Pr) v=>φ.h H v) φs vs→All2 (fun (φ:Pr) v=>φ.h (fullK w) v) ξs vs) :
    OpP P Γ Δ ⟨d, .call ⟨.value (.func f),xs.toArray,ats⟩,ty,pos,af,g⟩ φ:=by
  intro H a w Q K hx hs hr hb hK
  have hargs:=opds.all (ρ:=a.eval) (H:=H) h (fun x hxx ψ hψ=>hx x (by simp [Op.operands,Call.operands,hxx]) ψ hψ)
  have hrun:(execOp a.eval ⟨d, .call ⟨.value (.func f),xs.toArray,ats⟩,ty,pos,af,g⟩).run P w = .ok (.enter f (xs.map a.eval).toArray) w:=by
    have h1:(callFunc f ((#[]++xs.toArray.map a.eval) ++ #[])).run P w = .ok (.enter f (xs.map a.eval).toArray) w:=by
      rw [Array.empty_append,Array.append_empty,List.map_toArray]
      exact F.ent.h _ w
    exact h1
  unfold Oper.wp
  rw [hrun]
  rw [Oper.upon_enter]
  refine (F.run (fullK w) w _ (fullK_sat hs) (hg H w hs hr _ hargs)).mono fun e' w' hR=>?_
  obtain ⟨v,H',rfl,E,hφ⟩:=hR
  have hle:IH.le H H':=IH.le_trans (fullK_le hs) E.le
  exact hK v H w' ⟨IH.le_refl _,fun _ _ _=>rfl,⟨fun g cs hg o v hv=>hs.gk g cs hg o v hv,fun b o v hv=>E.sat.cell b o v (hle b o v hv)⟩,E.fr⟩ (hflat _ _ _ hφ)
end
theorem All2.flipK {α β:Type} {R:α→β→Prop} : ∀ {l:List α} {m:List β},All2 R l m→All2 (fun b a=>R a b) m l
  | [],[],_=>trivial
  | _::_,_::_,⟨h1,h2⟩=>⟨h1,All2.flipK h2⟩
  | [],_::_,h=>h.elim
  | _::_,[],h=>h.elim
theorem flat_relK {α β:Type} {T:Ty α} {U:Ty β} {f:α→β} {R:Pr→Pr→Prop} : ∀ {xs:List α},(∀ x ∈ xs,All2 R (T.cells x) (U.cells (f x)))→All2 R (flat T xs) (flat U (xs.map f))
  | [],_=>trivial
  | x::xs,h=>by
    have h1:=flat_app T [x] xs
    have h2:=flat_app U [f x] (xs.map f)
    rw [show x::xs=[x]++xs from rfl,h1,show ([x]++xs).map f=[f x]++xs.map f from rfl,h2]
    refine All2.append ?_ (flat_relK fun y hy=>h y (List.mem_cons_of_mem _ hy))
    have:=h x List.mem_cons_self
    simpa [flat] using this
theorem sl_relK {α β:Type} {T:Ty α} {U:Ty β} {f:α→β} {H:IH} {v:Value} {xs:List α} (h : ∀ x ∈ xs,All2 (fun p q => ∀ c,Pr.c p H c→Pr.c q H c) (T.cells x) (U.cells (f x))) (k:(sl T xs).h H v):(sl U (xs.map f)).h H v:=by
  obtain ⟨a,cap,hv,h1,h2,h3,h4⟩:=k
  have hl:(xs.map f).length=xs.length:=List.length_map ..
  refine ⟨a,cap,by rw [hl];exact hv,by rw [hl];exact h1,h2,h3,fun hn=>?_⟩
  obtain ⟨b,o,ha,hc⟩:=h4 (by rwa [hl] at hn)
  refine ⟨b,o,ha,fun i ψ hi=>?_⟩
  obtain ⟨φ,hφ,hr⟩:=(All2.flipK (flat_relK h)).get i ψ hi
  obtain ⟨c,hc1,hc2⟩:=hc i φ hφ
  exact ⟨c,hc1,hr c hc2⟩
theorem mapR_pickK {α:Type} (f:α→Res) {xs:List α} {i:Nat} {x:α} (h:xs[i]?=some x):(xs.map f).Perm (f x::(xs.eraseIdx i).map f):=by
  induction xs generalizing i with
  | nil=>simp at h
  | cons y ys ih =>
    cases i with
    | zero=>simp at h;subst h;exact List.Perm.refl _
    | succ i =>
      have:=ih (by simpa using h)
      rw [List.eraseIdx_cons_succ,List.map_cons,List.map_cons]
      exact (List.Perm.cons _ this).trans (List.Perm.swap _ _ _)
theorem erase_setK {α:Type} {xs:List α} {i:Nat} {x:α} (h:i < xs.length):(xs.set i x).eraseIdx i=xs.eraseIdx i:=by
  induction xs generalizing i with
  | nil=>rfl
  | cons y ys ih =>
    cases i with
    | zero=>rfl
    | succ i=>rw [List.set_cons_succ,List.eraseIdx_cons_succ,List.eraseIdx_cons_succ,ih (by simpa using h)]
theorem mapR_putK {α:Type} (f:α→Res) {xs:List α} {i:Nat} (x:α) (h:i < xs.length):((xs.set i x).map f).Perm (f x::(xs.eraseIdx i).map f):=by
  have:=mapR_pickK f (xs:=xs.set i x) (i:=i) (x:=x) (by rw [List.getElem?_set_self h])
  rwa [erase_setK h] at this
/-! ### Streams of a clone -/
/-- A stream whose records are a row that is owned; one whose records may be known. -/
abbrev FO:=SeenV × Option Addr × Nat
abbrev CO:=SeenV × Option (Option Addr × Nat)
def lastC (x:CO):Pr:=match x.2 with
  | none=>sl recVT.toTy x.1.recs
  | some p=>is (.slice p.1 x.1.recs.length p.2)
def seenF:Td FO where
  sz:=4
  cells x:=[is (str x.1.name),is (.int .i64 x.1.retain),sl strT.toTy x.1.holds,is (.slice x.2.1 x.1.recs.length x.2.2)]
  len _:=rfl
  ag:=true
  one h:=by cases h
  sc x H v h _:=by cases h
  pos:=by decide
def seenO:Td CO where
  sz:=4
  cells x:=[is (str x.1.name),is (.int .i64 x.1.retain),sl strT.toTy x.1.holds,lastC x]
  len _:=rfl
  ag:=true
  one h:=by cases h
  sc x H v h _:=by cases h
  pos:=by decide
def fo (x:FO):CO:=(x.1,some x.2)
def co (x:SeenV):CO:=(x,none)
theorem flat_fo (xs:List FO):flat seenO.toTy (xs.map fo)=flat seenF.toTy xs:=by unfold flat;rw [List.map_map];rfl
theorem flat_co (xs:List SeenV):flat seenO.toTy (xs.map co)=flat seenT.toTy xs:=by unfold flat;rw [List.map_map];rfl
theorem row_flat {α β:Type} {T:Ty α} {U:Ty β} {e:Nat} {v:Value} {xs:List α} {ys:List β} (hz:T.sz=U.sz) (hl:xs.length=ys.length) (h:flat T xs=flat U ys) : ∀ H w,(row v e T xs).ok H w→(row v e U ys).ok H w∧(row v e U ys).blk=(row v e T xs).blk:=fun H w hk=>by
  refine ⟨?_,rfl⟩
  rcases hk with ⟨h1,h2⟩|⟨b,o,cap,cs,hv,h1,h2,h3,h4,h5,h6,h7⟩
  · refine .inl ⟨h1,List.eq_nil_of_length_eq_zero ?_⟩
    rw [← hl,h2];rfl
  · refine .inr ⟨b,o,cap,cs,by rw [← hl];exact hv,h1,by rw [← hz];exact h2,by rw [← hl];exact h3,h4,?_,h6,h7⟩
    rw [← h, ← hz, ← hl];exact h5
theorem plain_recv:plainT recVT.toTy:=fun x φ h=>by
  rcases List.mem_cons.1 h with rfl|h
  · exact ⟨_,rfl⟩
  rcases List.mem_cons.1 h with rfl|h
  · exact ⟨_,rfl⟩
  rw [List.mem_singleton] at h;subst h;exact ⟨_,rfl⟩
def fR (x:FO):Res:=row (.slice x.2.1 x.1.recs.length x.2.2) 73 recVT.toTy x.1.recs
def fRs (xs:List FO):List Res:=xs.map fR
theorem fRs_app (xs ys:List FO):fRs (xs++ys)=fRs xs++fRs ys:=List.map_append
theorem fRs_pick {xs:List FO} {i:Nat} {x:FO} (h:xs[i]?=some x):(fRs xs).Perm (fR x::fRs (xs.eraseIdx i)):=mapR_pickK fR h
theorem fRs_put {xs:List FO} {i:Nat} (x:FO) (h:i < xs.length):(fRs (xs.set i x)).Perm (fR x::fRs (xs.eraseIdx i)):=mapR_putK fR x h
theorem fRs_mem {xs:List FO} {x:FO} (h:x ∈ xs):fR x ∈ fRs xs:=List.mem_map.2 ⟨x,h,rfl⟩
/-- A view in memory of its own, lent. -/
theorem view_full {H:IH} {w:World} {clock:Int} {A:Option Addr} {c:Nat} {xs:List FO} {v:Value} (hs:Sat H w) (h1:(row (.slice A xs.length c) 70 seenF.toTy xs).ok H w) (h2 : ∀ r ∈ fRs xs,r.ok H w) (h:((stO A xs.length c).val clock).h H v):(viewT.val ⟨clock,xs.map (·.1)⟩).h (fullK w) v:=by
  obtain ⟨cs,hv,hc⟩:=h
  refine ⟨cs,hv,?_⟩
  match cs,hc with
  | [x,y],⟨k1,k2,_⟩ =>
    refine ⟨k1,?_,trivial⟩
    have hy:y = .slice A xs.length c:=k2.1
    refine ⟨?_,k2.2⟩
    rw [hy]
    refine sl_relK (T:=seenF.toTy) (f:=fun x:FO=>x.1) (fun z hz=>?_) (row_full hs h1)
    exact ⟨fun _ h=>h,fun _ h=>h,fun _ h=>h,fun cc h=>by
      have h3:cc = .slice z.2.1 z.1.recs.length z.2.2:=h.1
      exact ⟨by rw [h3];exact row_full hs (h2 _ (fRs_mem hz)),h.2⟩,trivial⟩
set_option linter.unusedVariables false
set_option linter.unusedSimpArgs false
attribute [local irreducible] J Lq E OpP PRun is any agg tup ptr sl PRunW OpE
attribute [local irreducible] slt row leafH shaH recsR OpR stL mdl fRs
theorem sclone26_fn (l:List Str) (hl:l.length*16≤140737488355328):Fn Tryd.prog 47 [sl strT.toTy l] (sl strT.toTy l):=by
  refine Fn.mk' 8 Tryd.func47 rfl rfl rfl rfl fun w0 H0=>?_
  repeat (first|((first|(apply Lq.s;rfl)|apply PRun.s|(apply Lq.run;rfl;rfl;rfl;exact bsB)|(apply PRun.run;rfl;rfl;exact bsB));first|(exact bsO))|refine bsA ?_|(apply Lq.al;rfl;rfl;intro b)|(apply Open.cons;intro b)|(apply J.drawN;exact mixed;kernel_rfl)|refine bsC ?_)
  refine Lq.slOpen 3 rfl fun A c hA=>?_
  cases A with
  | none =>
    obtain rfl:=hA rfl
    repeat (first|((first|(apply Lq.s;rfl)|apply PRun.s|(apply Lq.run;rfl;rfl;rfl;exact bsB)|(apply PRun.run;rfl;rfl;exact bsB));first|(apply op_slnil;rfl;rfl)|(exact bsO))|refine bsA ?_|(apply Lq.al;rfl;rfl;intro b)|(apply Open.cons;intro b)|(apply J.drawN;exact mixed;kernel_rfl)|refine bsC ?_)
    (refine J.ret ?_;(repeat (first|refine E.then_ret ?_|refine E.in_ret ?_)))
    exact E.conv 2 rfl sl_nil (E.ret1 rfl rfl)
  | some A =>
    (apply Lq.s;rfl;(apply op_slnil;rfl;rfl))
    (repeat (first|apply J.seq|apply E.next|apply J.lq|apply Lq.nil|apply J.block|apply E.in_normal|apply J.skip|(apply J.cond_t;rfl)|(apply J.cond_f;rfl)))
    (apply Lq.bsl (T:=strT) (xs:=[]);rfl;(repeat (first|exact PO.nil _|(apply PO.cons;rfl)));rfl;rfl;rfl)
    intro A1 c1
    repeat (first|((first|(apply Lq.s;rfl)|apply PRun.s|(apply Lq.run;rfl;rfl;rfl;exact bsB)|(apply PRun.run;rfl;rfl;exact bsB));first|(exact bsO))|refine bsA ?_|(apply Lq.al;rfl;rfl;intro b)|(apply Open.cons;intro b)|(apply J.drawN;exact mixed;kernel_rfl)|refine bsC ?_)
    (apply Lq.append (T:=strT) (xs:=[]) (ys:=l);rfl;exact List.Perm.refl _;(apply From.sl;rfl);rfl;rfl;rfl;(show 0+_≤maxLen;unfold maxLen;omega);(show (0+_)*16≤_;omega))
    intro A2 c2
    rw [List.nil_append]
    repeat (first|((first|(apply Lq.s;rfl)|apply PRun.s|(apply Lq.run;rfl;rfl;rfl;exact bsB)|(apply PRun.run;rfl;rfl;exact bsB));first|(exact bsO))|refine bsA ?_|(apply Lq.al;rfl;rfl;intro b)|(apply Open.cons;intro b)|(apply J.drawN;exact mixed;kernel_rfl)|refine bsC ?_)
    (refine J.ret ?_;(repeat (first|refine E.then_ret ?_|refine E.in_ret ?_)))
    refine E.freeze 2 rfl (List.Perm.refl _) ?_
    exact E.ret1 rfl rfl
theorem rclone26_fnR (l:List RecV) (hl:l.length≤1000000):FnR Tryd.prog 49 [sl recVT.toTy l] [] (fun ψ Δ => ∃ A c,ψ=is (.slice A l.length c)∧Δ=[row (.slice A l.length c) 73 recVT.toTy l]):=by
  refine FnR.mk' 8 Tryd.func49 rfl rfl rfl rfl fun w0 H0=>?_
  refine J.nilrow 73 recVT.toTy ?_
  repeat (first|((first|(apply Lq.s;rfl)|apply PRun.s|(apply Lq.run;rfl;rfl;rfl;exact bsB)|(apply PRun.run;rfl;rfl;exact bsB));first|(exact bsO))|refine bsA ?_|(apply Lq.al;rfl;rfl;intro b)|(apply Open.cons;intro b)|(apply J.drawN;exact mixed;kernel_rfl)|refine bsC ?_)
  refine Lq.slOpen 3 rfl fun A c hA=>?_
  cases A with
  | none =>
    obtain rfl:=hA rfl
    repeat (first|((first|(apply Lq.s;rfl)|apply PRun.s|(apply Lq.run;rfl;rfl;rfl;exact bsB)|(apply PRun.run;rfl;rfl;exact bsB));first|(apply op_slnil;rfl;rfl)|(exact bsO))|refine bsA ?_|(apply Lq.al;rfl;rfl;intro b)|(apply Open.cons;intro b)|(apply J.drawN;exact mixed;kernel_rfl)|refine bsC ?_)
    (refine J.ret ?_;(repeat (first|refine E.then_ret ?_|refine E.in_ret ?_)))
    exact E.retR1 (Δ':=[row (.slice none 0 0) 73 recVT.toTy []]) (G:=[]) rfl rfl ⟨none,0,rfl,rfl⟩ (List.Perm.refl _)
  | some A =>
    (apply Lq.s;rfl;(apply op_slnil;rfl;rfl))
    (repeat (first|apply J.seq|apply E.next|apply J.lq|apply Lq.nil|apply J.block|apply E.in_normal|apply J.skip|(apply J.cond_t;rfl)|(apply J.cond_f;rfl)))
    (apply Lq.bsl (T:=recVT) (xs:=[]);rfl;(repeat (first|exact PO.nil _|(apply PO.cons;rfl)));rfl;rfl;rfl)
    intro A1 c1
    repeat (first|((first|(apply Lq.s;rfl)|apply PRun.s|(apply Lq.run;rfl;rfl;rfl;exact bsB)|(apply PRun.run;rfl;rfl;exact bsB));first|(exact bsO))|refine bsA ?_|(apply Lq.al;rfl;rfl;intro b)|(apply Open.cons;intro b)|(apply J.drawN;exact mixed;kernel_rfl)|refine bsC ?_)
    (apply Lq.append (T:=recVT) (xs:=[]) (ys:=l);rfl;exact List.Perm.refl _;(apply From.sl;rfl);rfl;rfl;rfl;(show 0+_≤maxLen;unfold maxLen;omega);(show (0+_)*32≤_;omega))
    intro A2 c2
    rw [List.nil_append]
    repeat (first|((first|(apply Lq.s;rfl)|apply PRun.s|(apply Lq.run;rfl;rfl;rfl;exact bsB)|(apply PRun.run;rfl;rfl;exact bsB));first|(exact bsO))|refine bsA ?_|(apply Lq.al;rfl;rfl;intro b)|(apply Open.cons;intro b)|(apply J.drawN;exact mixed;kernel_rfl)|refine bsC ?_)
    (refine J.ret ?_;(repeat (first|refine E.then_ret ?_|refine E.in_ret ?_)))
    exact E.retR1 (G:=[_]) rfl rfl ⟨A2,c2,rfl,rfl⟩ (List.Perm.refl _)
theorem seclone26_fnR (l:List SeenV) (hl:l.length≤1000000):FnR Tryd.prog 48 [sl seenT.toTy l] [] (fun ψ Δ => ∃ A c,ψ=is (.slice A l.length c)∧Δ=[row (.slice A l.length c) 70 seenT.toTy l]):=by
  refine FnR.mk' 8 Tryd.func48 rfl rfl rfl rfl fun w0 H0=>?_
  refine J.nilrow 70 seenT.toTy ?_
  repeat (first|((first|(apply Lq.s;rfl)|apply PRun.s|(apply Lq.run;rfl;rfl;rfl;exact bsB)|(apply PRun.run;rfl;rfl;exact bsB));first|(exact bsO))|refine bsA ?_|(apply Lq.al;rfl;rfl;intro b)|(apply Open.cons;intro b)|(apply J.drawN;exact mixed;kernel_rfl)|refine bsC ?_)
  refine Lq.slOpen 3 rfl fun A c hA=>?_
  cases A with
  | none =>
    obtain rfl:=hA rfl
    repeat (first|((first|(apply Lq.s;rfl)|apply PRun.s|(apply Lq.run;rfl;rfl;rfl;exact bsB)|(apply PRun.run;rfl;rfl;exact bsB));first|(apply op_slnil;rfl;rfl)|(exact bsO))|refine bsA ?_|(apply Lq.al;rfl;rfl;intro b)|(apply Open.cons;intro b)|(apply J.drawN;exact mixed;kernel_rfl)|refine bsC ?_)
    (refine J.ret ?_;(repeat (first|refine E.then_ret ?_|refine E.in_ret ?_)))
    exact E.retR1 (Δ':=[row (.slice none 0 0) 70 seenT.toTy []]) (G:=[]) rfl rfl ⟨none,0,rfl,rfl⟩ (List.Perm.refl _)
  | some A =>
    (apply Lq.s;rfl;(apply op_slnil;rfl;rfl))
    (repeat (first|apply J.seq|apply E.next|apply J.lq|apply Lq.nil|apply J.block|apply E.in_normal|apply J.skip|(apply J.cond_t;rfl)|(apply J.cond_f;rfl)))
    (apply Lq.bsl (T:=seenT) (xs:=[]);rfl;(repeat (first|exact PO.nil _|(apply PO.cons;rfl)));rfl;rfl;rfl)
    intro A1 c1
    repeat (first|((first|(apply Lq.s;rfl)|apply PRun.s|(apply Lq.run;rfl;rfl;rfl;exact bsB)|(apply PRun.run;rfl;rfl;exact bsB));first|(exact bsO))|refine bsA ?_|(apply Lq.al;rfl;rfl;intro b)|(apply Open.cons;intro b)|(apply J.drawN;exact mixed;kernel_rfl)|refine bsC ?_)
    (apply Lq.append (T:=seenT) (xs:=[]) (ys:=l);rfl;exact List.Perm.refl _;(apply From.sl;rfl);rfl;rfl;rfl;(show 0+_≤maxLen;unfold maxLen;omega);(show (0+_)*72≤_;omega))
    intro A2 c2
    rw [List.nil_append]
    repeat (first|((first|(apply Lq.s;rfl)|apply PRun.s|(apply Lq.run;rfl;rfl;rfl;exact bsB)|(apply PRun.run;rfl;rfl;exact bsB));first|(exact bsO))|refine bsA ?_|(apply Lq.al;rfl;rfl;intro b)|(apply Open.cons;intro b)|(apply J.drawN;exact mixed;kernel_rfl)|refine bsC ?_)
    (refine J.ret ?_;(repeat (first|refine E.then_ret ?_|refine E.in_ret ?_)))
    exact E.retR1 (G:=[_]) rfl rfl ⟨A2,c2,rfl,rfl⟩ (List.Perm.refl _)
set_option maxHeartbeats 4000000 in
theorem mClone_fnR (v:ViewV) (hl:v.streams.length≤1000) (hg : ∀ x ∈ v.streams,x.recs.length≤1000∧x.holds.length*16≤140737488355328):FnR Tryd.prog 26 [viewT.val v] []
    (fun ψ Δ => ∃ A c ys,ys.map (·.1)=v.streams∧ψ=(stO A ys.length c).val v.clock∧Δ=row (.slice A ys.length c) 70 seenF.toTy ys::fRs ys):=by
  obtain ⟨clock,xs⟩:=v
  dsimp only at hl hg ⊢
  refine FnR.mk' 37 Tryd.func26 rfl rfl rfl rfl fun w0 H0=>?_
  apply J.seq
  apply J.lq
  refine Lq.box rfl rfl (Seg.val viewT ⟨clock,xs⟩) ?_
  intro sb
  repeat (first|((first|(apply Lq.s;rfl)|apply PRun.s|(apply Lq.run;rfl;rfl;rfl;exact bsB)|(apply PRun.run;rfl;rfl;exact bsB));first|(exact bsO))|refine bsA ?_|(apply Lq.al;rfl;rfl;intro b)|(apply Open.cons;intro b)|refine bsC ?_)
  revert b
  intro rb
  repeat (first|((first|(apply Lq.s;rfl)|apply PRun.s|(apply Lq.run;rfl;rfl;rfl;exact bsB)|(apply PRun.run;rfl;rfl;exact bsB));first|(apply op_ocell;rfl;exact bsM;rfl)|(apply op_slen;rfl)|(exact bsO))|refine bsA ?_|(apply Lq.al;rfl;rfl;intro b)|(apply Open.cons;intro b)|refine bsC ?_)
  refine Lq.rowR (T:=seenT.toTy) (xs:=xs) rfl (opR_call (seclone26_fnR xs (by omega)) bsD) ?_
  intro A c
  refine Lq.res1 (r':=row (.slice A xs.length c) 70 seenO.toTy (xs.map co)) (List.Perm.refl _) (row_flat rfl (by rw [List.length_map]) (flat_co xs).symm) ?_
  repeat (first|((first|(apply Lq.s;rfl)|apply PRun.s|(apply Lq.run;rfl;rfl;rfl;exact bsB)|(apply PRun.run;rfl;rfl;exact bsB));first|(apply op_ocell;rfl;exact bsM;rfl)|(apply op_slen;rfl)|(exact bsO))|refine bsA ?_|(apply Lq.al;rfl;rfl;intro b)|(apply Open.cons;intro b)|refine bsC ?_)
  refine J.loop (fun p:Nat × List FO=>p.1≤xs.length∧p.2.map (·.1)=xs.take p.1)
    (fun p=>[(1,is (.pointer (some ⟨sb,0,none⟩))),(2,is (.pointer (some ⟨rb,0,none⟩))),(11,is (.int .i64 (xs.length:Int))),(12,is (.int .i64 (p.1:Int)))])
    (fun p=>own rb 45 [is (.int .i64 0),is (.slice none 0 0)]::own sb 45 [is (.int .i64 clock),is (.slice A xs.length c)]::row (.slice A xs.length c) 70 seenO.toTy (p.2.map fo++(xs.drop p.1).map co)::fRs p.2)
    (fun p=>xs.length - p.1) (0,[]) ⟨Nat.zero_le _,rfl⟩ ⟨(by repeat' (first|exact trivial|refine ⟨rfl,?_⟩)),[],by
      dsimp only
      rw [List.drop_zero,List.map_nil,List.nil_append,show fRs []=[] by unfold fRs;rfl,List.append_nil]
      exact permP [[_],[_],[_]] [0,1,2] [2,0,1] (by decide)⟩ ?_
  rintro ⟨i,fs⟩ ⟨hi,hm⟩
  dsimp only at hi hm ⊢
  have hfl:fs.length=i:=by have:=congrArg List.length hm;rw [List.length_map,List.length_take] at this;omega
  by_cases hlt:i < xs.length
  · obtain ⟨x,hx⟩ : ∃ x,xs[i]?=some x:=⟨_,List.getElem?_eq_getElem hlt⟩
    obtain ⟨hgr,hgh⟩:=hg x (List.mem_of_getElem? hx)
    have hdr:xs.drop i=x::xs.drop (i+1):=by
      rw [List.drop_eq_getElem_cons hlt]
      rw [List.getElem?_eq_getElem hlt] at hx
      injection hx with hx;rw [hx]
    obtain ⟨zs,hzs⟩ : ∃ zs,zs=fs.map fo++(xs.drop i).map co:=⟨_,rfl⟩
    have hzl:zs.length=xs.length:=by rw [hzs,List.length_append,List.length_map,List.length_map,List.length_drop];omega
    have hzx:zs[i]?=some (x,none):=by
      rw [hzs,List.getElem?_append_right (by rw [List.length_map];omega),List.length_map,hfl,Nat.sub_self,hdr];rfl
    rw [← hzs]
    refine J.open (Δ':=own rb 45 _::own sb 45 _::fRs fs) (permP [[_],[_],[_],_] [0,1,2,3] [2,0,1,3] (by decide)) (by intro h;rw [h] at hzl;simp at hzl;omega) ?_
    intro nb no cap pre post hR
    obtain ⟨hv,hpre,hle,hcap,hroom,_⟩:=hR
    injection hv with hA _ hc
    subst hA;subst hc
    repeat (first|((first|(apply Lq.s;rfl)|apply PRun.s|(apply Lq.run;rfl;rfl;rfl;exact bsB)|(apply PRun.run;rfl;rfl;exact bsB));first|(apply op_ocell;rfl;exact bsM;rfl)|(apply op_slen;rfl)|(apply op_siaddr;rfl;rfl;omega;omega)|(exact bsO))|refine bsA ?_|(apply Lq.al;rfl;rfl;intro b)|(apply Open.cons;intro b)|refine bsC ?_)
    refine J.drawW1 15 [(none,none),(none,none),(none,none),(none,none),(none,none),(some 4,some 4),(none,none),(none,none),(none,none),(none,none),(some 4,some 4),(none,some 30),(none,none),(none,none),(some 4,some 4)] 4 (itemK (own nb 70 (pre++flat seenO.toTy zs++post))) rfl (List.Perm.refl _) mixed (by kernel_rfl) ?_
    refine PRunW.s (op_move rfl) ?_
    refine PRunW.s (op_move rfl) ?_
    refine PRunW.s (op_move rfl) ?_
    refine PRunW.s (op_nilCheck rfl) ?_
    refine PRunW.s (op_ofaddr rfl (by decide)) ?_
    refine PRunW.ldG (slT strT) (v:=x.holds) (by decide) itemK_fst rfl rfl (by rw [Int.toNat_natCast];exact at_rfld seenO.toTy (k:=2) (m:=1) hpre hzx (show 2+1≤4 by decide)) ?_
    refine PRunW.s (op_call (sclone26_fn x.holds (by omega)) bsD) ?_
    refine PRunW.s (op_move rfl) ?_
    refine PRunW.s (op_nilCheck rfl) ?_
    refine PRunW.s (op_ofaddr rfl (by decide)) ?_
    refine PRunW.ldG (slT recVT) (v:=x.recs) (by decide) itemK_fst rfl rfl (by rw [Int.toNat_natCast];exact at_rfld seenO.toTy (k:=3) (m:=1) hpre hzx (show 3+1≤4 by decide)) ?_
    have hF:=rclone26_fnR x.recs (by omega)
    refine PRunW.mk (R:=fun v=>row v 73 recVT.toTy x.recs) (φ:=anySl x.recs.length) anySl_row (opR_call hF bsD) ?_
    refine PRunW.s (op_nilCheck rfl) ?_
    refine PRunW.s (op_ofaddr rfl (by decide)) ?_
    refine PRunW.stG (R1:=itemK (own nb 70 (pre++flat seenO.toTy zs++post))) (seg:=[sl strT.toTy x.holds]) itemK_own rfl rfl rfl Seg.sl rfl (by rw [Int.toNat_natCast];exact room_rfld seenO.toTy (k:=2) (n:=1) hpre hzx (show 2+1≤4 by decide)) (by rw [Int.toNat_natCast];have:=set_rfld seenO.toTy (post:=post) (seg:=[sl strT.toTy x.holds]) (v:=(x,none)) hpre hzx (k:=2) (show 2+1≤4 by decide) rfl;rw [set_same hzx] at this;exact this) ?_
    refine PRunW.nil (Open.kv (v := .bool true) fun _=>Open.rv fun A2 c2=>Open.nil ?_)
    repeat (first|((first|(apply Lq.s;rfl)|apply PRun.s|(apply Lq.run;rfl;rfl;rfl;exact bsB)|(apply PRun.run;rfl;rfl;exact bsB));first|(exact bsO))|refine bsA ?_|(apply Lq.al;rfl;rfl;intro b)|(apply Open.cons;intro b)|refine bsC ?_)
    refine Lq.storeE (φs':=pre++flat seenO.toTy (zs.set i (x,some (A2,c2)))++post) rfl rfl (List.Perm.swap _ _ _) (Seg.is rfl) rfl (by rw [Int.toNat_natCast];exact room_rfld seenO.toTy (k:=3) (n:=1) hpre hzx (show 3+1≤4 by decide)) (by rw [Int.toNat_natCast];exact set_rfld seenO.toTy (post:=post) (v:=(x,some (A2,c2))) hpre hzx (k:=3) (show 3+1≤4 by decide) rfl) ?_
    repeat (first|((first|(apply Lq.s;rfl)|apply PRun.s|(apply Lq.run;rfl;rfl;rfl;exact bsB)|(apply PRun.run;rfl;rfl;exact bsB));first|(apply op_add (c:=((i+1:Nat):Int));rfl;rfl;(rw [show (i:Int)+1=((i+1:Nat):Int) by omega];apply wrapi <;> omega))|(exact bsO))|refine bsA ?_|(apply Lq.al;rfl;rfl;intro b)|(apply Open.cons;intro b)|refine bsC ?_)
    refine E.close seenO.toTy (zs.set i (x,some (A2,c2))) (b:=nb) (o:=no) (cap:=c) (List.Perm.refl _) (set_len' seenO.toTy hroom) (by rw [List.length_set];exact hle) hcap (take_rowT seenO.toTy hpre) ?_
    have hset:zs.set i (x,some (A2,c2))=(fs++[(x,A2,c2)]).map fo++(xs.drop (i+1)).map co:=by
      rw [hzs,List.set_append_right _ _ (by rw [List.length_map];omega),List.length_map,hfl,Nat.sub_self,hdr,List.map_append,List.append_assoc];rfl
    have hlen2:(zs.set i (x,some (A2,c2))).length=xs.length:=by rw [List.length_set];exact hzl
    exact E.again (i+1,fs++[(x,A2,c2)]) (by dsimp only;omega) ⟨by dsimp only;omega,by
        dsimp only
        rw [List.map_append,hm,List.take_add_one,hx];rfl⟩ ⟨(by repeat' (first|exact trivial|refine ⟨rfl,?_⟩)),[],by
        dsimp only
        rw [hlen2,hset,fRs_app,show fRs [(x,A2,c2)]=[row (.slice A2 x.recs.length c2) 73 recVT.toTy x.recs] by unfold fRs;rfl,List.append_nil]
        exact permP [[_],[_],[_],[_],_] [0,1,2,3,4] [2,3,0,4,1] (by decide)⟩
  obtain rfl:i=xs.length:=by omega
  have hdr:xs.drop xs.length=[]:=List.drop_eq_nil_of_le (Nat.le_refl _)
  rw [hdr,List.map_nil,List.append_nil]
  rw [List.take_length] at hm
  repeat (first|((first|(apply Lq.s;rfl)|apply PRun.s|(apply Lq.run;rfl;rfl;rfl;exact bsB)|(apply PRun.run;rfl;rfl;exact bsB));first|(apply op_ocell;rfl;exact bsM;rfl)|(apply op_slen;rfl)|(exact bsO))|refine bsA ?_|(apply Lq.al;rfl;rfl;intro b)|(apply Open.cons;intro b)|refine bsC ?_)
  refine Lq.res1 (r':=row (.slice A xs.length c) 70 seenF.toTy fs) (permP [[_],[_],[_],_] [0,1,2,3] [2,0,1,3] (by decide)) (row_flat rfl (by rw [List.length_map]) (flat_fo fs)) ?_
  rw [← hfl]
  repeat (first|((first|(apply Lq.s;rfl)|apply PRun.s|(apply Lq.run;rfl;rfl;rfl;exact bsB)|(apply PRun.run;rfl;rfl;exact bsB));first|(apply op_oload (stO A fs.length c) (x:=clock);rfl;exact bsM;rfl)|(exact bsO))|refine bsA ?_|(apply Lq.al;rfl;rfl;intro b)|(apply Open.cons;intro b)|refine bsC ?_)
  (refine J.ret ?_;(repeat (first|refine E.then_ret ?_|refine E.in_ret ?_)))
  exact E.retRc (stO A fs.length c) (x:=clock) (Δ':=row (.slice A fs.length c) 70 seenF.toTy fs::fRs fs) (G:=[own rb 45 _,own sb 45 _]) rfl rfl (by exact bsM) rfl ⟨A,c,fs,hm,rfl,rfl⟩ (permP [[_],[_],[_],_] [0,1,2,3] [1,3,0,2] (by decide))
end Go.Proofs.YtljbbajelkkafaaDoor.L
