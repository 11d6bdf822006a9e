import Derived.Test.YtljbbajelkkafaaDoorMk
/-
  The document's side of a model in memory;its copies,walked.
-/
namespace Go.Proofs.YtljbbajelkkafaaDoor.L
open Go
set_option linter.unusedSectionVars false
variable [Globs] [Has_sha_table] [Has_sha_begin]
set_option linter.unusedVariables false
/-- A stream of the document's side: its records and its leaves are rows that are owned. -/
abbrev DO:=MStr × (Option Addr × Nat) × (Option Addr × Nat)
def docO:Td DO where
  sz:=5
  cells x:=[is (str x.1.name),is (.int .i64 x.1.retain),sl strT.toTy x.1.holds,is (.slice x.2.1.1 x.1.recs.length x.2.1.2),is (.slice x.2.2.1 x.1.recs.length x.2.2.2)]
  len _:=rfl
  ag:=true
  one h:=by cases h
  sc x H v h _:=by cases h
  pos:=by decide
/-- What is seen of a stream, and its leaves. -/
structure DocV where
  seen:SeenV
  leaves:List Hash
def MStr.d (s:MStr):DocV:=⟨s.v,s.recs.map MRec.hash⟩
def docT:Td DocV where
  sz:=5
  cells s:=seenT.cells s.seen++[sl hashT.toTy s.leaves]
  len _:=rfl
  ag:=true
  one h:=by cases h
  sc x H v h _:=by cases h
  pos:=by decide
theorem doc_seen:Fld docT.toTy seenT.toTy DocV.seen 0:=⟨fun s=>⟨[],_,rfl,rfl⟩⟩
theorem doc_leaves:Fld docT.toTy (slT hashT).toTy DocV.leaves 4:=⟨fun s=>⟨seenT.cells s.seen,[],(List.append_nil _).symm,rfl⟩⟩
theorem mapR_pick {α:Type} (f:α→Res) {xs:List α} {i:Nat} {x:α} (h:xs[i]?=some x):(xs.map f).Perm (f x::(xs.eraseIdx i).map f):=by
  induction xs generalizing i with
  | nil=>simp at h
  | cons y ys ih =>
    cases i with
    | zero=>simp at h;subst h;exact List.Perm.refl _
    | succ i =>
      have:=ih (by simpa using h)
      rw [List.eraseIdx_cons_succ,List.map_cons,List.map_cons]
      exact (List.Perm.cons _ this).trans (List.Perm.swap _ _ _)
theorem mapR_put {α:Type} (f:α→Res) {xs:List α} {i:Nat} (x:α) (h:i < xs.length):((xs.set i x).map f).Perm (f x::(xs.eraseIdx i).map f):=by
  have:=mapR_pick f (xs:=xs.set i x) (i:=i) (x:=x) (by rw [List.getElem?_set_self h])
  have he:(xs.set i x).eraseIdx i=xs.eraseIdx i:=by
    clear this
    induction xs generalizing i with
    | nil=>rfl
    | cons y ys ih =>
      cases i with
      | zero=>rfl
      | succ i =>
        rw [List.set_cons_succ,List.eraseIdx_cons_succ,List.eraseIdx_cons_succ,ih (by simpa using h)]
  rwa [he] at this
def docR1 (x:DO):Res:=row (.slice x.2.1.1 x.1.recs.length x.2.1.2) 73 recVT.toTy (x.1.recs.map MRec.v)
def docL1 (x:DO):Res:=row (.slice x.2.2.1 x.1.recs.length x.2.2.2) 37 hashT.toTy (x.1.recs.map MRec.hash)
def docR (xs:List DO):List Res:=xs.map docR1
def docL (xs:List DO):List Res:=xs.map docL1
def dst (A:Option Addr) (c:Nat) (xs:List DO):List Res:=row (.slice A xs.length c) 95 docO.toTy xs::(docR xs++docL xs)
theorem docR_app (xs ys:List DO):docR (xs++ys)=docR xs++docR ys:=List.map_append
theorem docL_app (xs ys:List DO):docL (xs++ys)=docL xs++docL ys:=List.map_append
theorem docR_mem {xs:List DO} {i:Nat} {x:DO} (h:xs[i]?=some x):docR1 x ∈ docR xs:=List.mem_map.2 ⟨x,List.mem_of_getElem? h,rfl⟩
theorem docL_mem {xs:List DO} {i:Nat} {x:DO} (h:xs[i]?=some x):docL1 x ∈ docL xs:=List.mem_map.2 ⟨x,List.mem_of_getElem? h,rfl⟩
theorem docR_one (x:DO):docR [x]=[docR1 x]:=rfl
theorem docL_one (x:DO):docL [x]=[docL1 x]:=rfl
set_option linter.unusedVariables false
set_option linter.unusedSimpArgs false
attribute [local irreducible] J Lq E OpP PRun is any agg tup ptr sl PRunW OpE
attribute [local irreducible] slt row leafH shaH docR docL OpR
set_option maxHeartbeats 4000000 in
theorem dcopies_fnR (A:Option Addr) (c:Nat) (xs:List DO) (hl:xs.length≤1000) (hg : ∀ x ∈ xs,x.1.recs.length≤1000∧x.1.holds.length≤1000):FnR Tryd.prog 38 [is (.slice A xs.length c)] (dst A c xs)
    (fun ψ Δ => ∃ A' c' ys,ys.map (·.1)=xs.map (·.1)∧ψ=is (.slice A' ys.length c')∧Δ=dst A' c' ys++dst A c xs):=by
  refine FnR.mk' 37 Tryd.func38 rfl rfl rfl rfl fun w0 H0=>?_
  unfold dst
  refine J.nilrow 95 docO.toTy ?_
  repeat (first|((first|(apply Lq.s;rfl)|apply PRun.s|(apply Lq.run;rfl;rfl;rfl;exact bsB)|(apply PRun.run;rfl;rfl;exact bsB));first|(apply op_ocell;rfl;exact bsM;rfl)|(apply op_slen;rfl)|(exact bsO))|refine bsA ?_|(apply Lq.al;rfl;rfl;intro b)|(apply Open.cons;intro b)|refine bsC ?_)
  refine J.loop (fun p:Nat × List DO × Option Addr × Nat=>p.1≤xs.length∧p.2.1.map (·.1)=(xs.take p.1).map (·.1))
    (fun p=>[(0,is (.slice A xs.length c)),(3,is (.slice p.2.2.1 p.2.1.length p.2.2.2)),(4,is (.int .i64 (p.1:Int)))])
    (fun p=>row (.slice p.2.2.1 p.2.1.length p.2.2.2) 95 docO.toTy p.2.1::row (.slice A xs.length c) 95 docO.toTy xs::(docR p.2.1++(docL p.2.1++(docR xs++docL xs))))
    (fun p=>xs.length - p.1) (0,[],none,0) ⟨Nat.zero_le _,rfl⟩ ⟨(by repeat' (first|exact trivial|refine ⟨rfl,?_⟩)),[],by
      dsimp only
      rw [show docR ([]:List DO)=[] by unfold docR;rfl,show docL ([]:List DO)=[] by unfold docL;rfl,List.nil_append,List.nil_append,List.append_nil];exact List.Perm.refl _⟩ ?_
  rintro ⟨i,ys,A',c'⟩ ⟨hi,hm⟩
  dsimp only at hi hm ⊢
  have hyl:ys.length=i:=by have:=congrArg List.length hm;rw [List.length_map,List.length_map,List.length_take] at this;omega
  by_cases hlt:i < xs.length
  · obtain ⟨x,hx⟩ : ∃ x,xs[i]?=some x:=⟨_,List.getElem?_eq_getElem hlt⟩
    obtain ⟨hgr,hgh⟩:=hg x (List.mem_of_getElem? hx)
    have hmR:=docR_mem hx
    have hmL:=docL_mem hx
    refine J.open (Δ':=row _ _ _ _::(docR ys++(docL ys++(docR xs++docL xs)))) (List.Perm.swap _ _ _) (by intro h;rw [h] at hlt;simp at hlt) ?_
    intro nb no cap pre post hR
    obtain ⟨hv,hpre,hle,hcap,hroom,_⟩:=hR
    injection hv with hA _ hc
    subst hA;subst hc
    repeat (first|((first|(apply Lq.s;rfl)|apply PRun.s|(apply Lq.run;rfl;rfl;rfl;exact bsB)|(apply PRun.run;rfl;rfl;exact bsB));first|(apply op_ocell;rfl;exact bsM;rfl)|(apply op_slen;rfl)|(apply op_siaddr;rfl;rfl;omega;omega)|(apply op_oload docO (x:=x);rfl;exact bsM;exact at_row docO.toTy hpre (by rw [Int.toNat_natCast];exact hx))|(exact bsO))|refine bsA ?_|(apply Lq.al;rfl;rfl;intro b)|(apply Open.cons;intro b)|refine bsC ?_)
    revert b
    intro sb
    have hmR2:row (.slice x.2.1.1 x.1.recs.length x.2.1.2) 73 recVT.toTy (x.1.recs.map MRec.v) ∈ docR xs:=hmR
    have hmL2:row (.slice x.2.2.1 x.1.recs.length x.2.2.2) 37 hashT.toTy (x.1.recs.map MRec.hash) ∈ docL xs:=hmL
    refine Lq.rowR (T:=strT.toTy) (xs:=x.1.holds) rfl (opR_append (T:=strT) rfl (From.sl rfl) rfl rfl (by unfold maxLen;omega) (by show _*16≤_;omega)) ?_
    intro A1 c1
    refine Lq.freeze 19 rfl (List.Perm.refl _) ?_
    repeat (first|((first|(apply Lq.s;rfl)|apply PRun.s|(apply Lq.run;rfl;rfl;rfl;exact bsB)|(apply PRun.run;rfl;rfl;exact bsB));first|(apply op_ocell;rfl;exact bsM;rfl)|(apply op_slen;rfl)|(exact bsO))|refine bsA ?_|(apply Lq.al;rfl;rfl;intro b)|(apply Open.cons;intro b)|refine bsC ?_)
    refine Lq.rowR (T:=recVT.toTy) (xs:=x.1.recs.map MRec.v) rfl (opR_append (T:=recVT) rfl (From.row rfl (List.mem_cons_of_mem _ (List.mem_cons_of_mem _ (List.mem_cons_of_mem _ (List.mem_append_right _ (List.mem_append_right _ (List.mem_append_left _ hmR2))))))) rfl rfl (by unfold maxLen;rw [List.length_map];omega) (by rw [List.length_map];show _*32≤_;omega)) ?_
    intro A3 c3
    rw [List.length_map]
    repeat (first|((first|(apply Lq.s;rfl)|apply PRun.s|(apply Lq.run;rfl;rfl;rfl;exact bsB)|(apply PRun.run;rfl;rfl;exact bsB));first|(apply op_ocell;rfl;exact bsM;rfl)|(apply op_slen;rfl)|(exact bsO))|refine bsA ?_|(apply Lq.al;rfl;rfl;intro b)|(apply Open.cons;intro b)|refine bsC ?_)
    refine Lq.rowR (T:=hashT.toTy) (xs:=x.1.recs.map MRec.hash) rfl (opR_append (T:=hashT) rfl (From.row rfl (List.mem_cons_of_mem _ (List.mem_cons_of_mem _ (List.mem_cons_of_mem _ (List.mem_cons_of_mem _ (List.mem_append_right _ (List.mem_append_right _ (List.mem_append_right _ hmL2)))))))) rfl rfl (by unfold maxLen;rw [List.length_map];omega) (by rw [List.length_map];show _*32≤_;omega)) ?_
    intro A4 c4
    rw [List.length_map]
    repeat (first|((first|(apply Lq.s;rfl)|apply PRun.s|(apply Lq.run;rfl;rfl;rfl;exact bsB)|(apply PRun.run;rfl;rfl;exact bsB));first|(apply op_ocell;rfl;exact bsM;rfl)|(apply op_slen;rfl)|(apply op_oload docO (x:=(x.1,(A3,c3),(A4,c4)));rfl;exact bsM;rfl)|(apply op_bslice docO (xs:=[(x.1,(A3,c3),(A4,c4))]);(repeat (first|exact PO.nil _|(apply PO.cons;rfl)));rfl;rfl;rfl)|(exact bsO))|refine bsA ?_|(apply Lq.al;rfl;rfl;intro b)|(apply Open.cons;intro b)|refine bsC ?_)
    refine Lq.res1 (r':=own sb 95 (docO.cells (x.1,(A3,c3),(A4,c4)))) (List.Perm.refl _) (fun H w h=>⟨h,rfl⟩) ?_
    (apply Lq.append (T:=docO) (xs:=ys) (ys:=[(x.1,(A3,c3),(A4,c4))]);rfl;exact permP [[_],[_],[_],[_],[_],_] [0,1,2,3,4,5] [4,0,1,2,3,5] (by decide);(apply From.sl;rfl);rfl;rfl;rfl;(show _+1≤maxLen;unfold maxLen;omega);(show (_+1)*96≤_;omega))
    intro A5 c5
    repeat (first|((first|(apply Lq.s;rfl)|apply PRun.s|(apply Lq.run;rfl;rfl;rfl;exact bsB)|(apply PRun.run;rfl;rfl;exact bsB));first|(apply op_add (c:=((i+1:Nat):Int));rfl;rfl;(rw [show (i:Int)+1=((i+1:Nat):Int) by omega];apply wrapi <;> omega))|(exact bsO))|refine bsA ?_|(apply Lq.al;rfl;rfl;intro b)|(apply Open.cons;intro b)|refine bsC ?_)
    refine E.close docO.toTy xs (b:=nb) (o:=no) (cap:=c) (Δ':=row _ _ _ _::own sb _ _::row _ _ _ _::row _ _ _ _::(docR ys++(docL ys++(docR xs++docL xs)))) (permP [[_],[_],[_],[_],[_],_] [0,1,2,3,4,5] [4,0,1,2,3,5] (by decide)) hroom hle hcap (take_rowT docO.toTy hpre) ?_
    exact E.again (i+1,ys++[(x.1,(A3,c3),(A4,c4))],A5,c5) (by dsimp only;omega) ⟨by dsimp only;omega,by
        dsimp only
        rw [List.map_append,hm,List.map_take,List.map_take]
        exact map_take_snoc (·.1) hx⟩ ⟨(by repeat' (first|exact trivial|refine ⟨rfl,?_⟩)),[own sb 95 (docO.cells (x.1,(A3,c3),(A4,c4)))],by
        dsimp only
        rw [docR_app,docL_app,docR_one,docL_one]
        unfold docR1 docL1
        simp only [List.append_assoc]
        refine List.Perm.trans ?_ (List.perm_append_comm (l₁:=[own sb 95 (docO.cells (x.1,(A3,c3),(A4,c4)))]))
        exact permP [[_],[_],[_],[_],[_],_,_,_] [0,1,2,3,4,5,6,7] [2,1,0,5,4,6,3,7] (by decide)⟩
  · obtain rfl:i=xs.length:=by omega
    rw [List.take_of_length_le (Nat.le_refl _)] at hm
    repeat (first|((first|(apply Lq.s;rfl)|apply PRun.s|(apply Lq.run;rfl;rfl;rfl;exact bsB)|(apply PRun.run;rfl;rfl;exact bsB));first|(apply op_ocell;rfl;exact bsM;rfl)|(apply op_slen;rfl)|(exact bsO))|refine bsA ?_|(apply Lq.al;rfl;rfl;intro b)|(apply Open.cons;intro b)|refine bsC ?_)
    (refine J.ret ?_;(repeat (first|refine E.then_ret ?_|refine E.in_ret ?_)))
    exact E.retR1 (G:=[]) rfl rfl ⟨A',c',ys,hm,rfl,rfl⟩ (by
      simp only [List.append_assoc,List.cons_append,List.append_nil]
      exact permP [[_],[_],_,_,_] [0,1,2,3,4] [0,2,3,1,4] (by decide))
end Go.Proofs.YtljbbajelkkafaaDoor.L
/-
  The document's side of a model: rows given up;find,Find,Read,Stat,View,walked.
-/
namespace Go.Proofs.YtljbbajelkkafaaDoor.L
open Go
set_option linter.unusedSectionVars false
variable [Globs] [Has_sha_table] [Has_sha_begin]
set_option linter.unusedVariables false
theorem All2.flipM {α β:Type} {R:α→β→Prop} : ∀ {l:List α} {m:List β},All2 R l m→All2 (fun b a=>R a b) m l
  | [],[],_=>trivial
  | _::_,_::_,⟨h1,h2⟩=>⟨h1,All2.flipM h2⟩
  | [],_::_,h=>h.elim
  | _::_,[],h=>h.elim
theorem flat_rel {α β:Type} {T:Ty α} {U:Ty β} {f:α→β} {R:Pr→Pr→Prop} : ∀ {xs:List α},(∀ x ∈ xs,All2 R (T.cells x) (U.cells (f x)))→All2 R (flat T xs) (flat U (xs.map f))
  | [],_=>trivial
  | x::xs,h=>by
    have h1:=flat_app T [x] xs
    have h2:=flat_app U [f x] (xs.map f)
    rw [show x::xs=[x]++xs from rfl,h1,show ([x]++xs).map f=[f x]++xs.map f from rfl,h2]
    refine All2.append ?_ (flat_rel fun y hy=>h y (List.mem_cons_of_mem _ hy))
    have:=h x List.mem_cons_self
    simpa [flat] using this
theorem sl_rel {α β:Type} {T:Ty α} {U:Ty β} {f:α→β} {H:IH} {v:Value} {xs:List α} (h : ∀ x ∈ xs,All2 (fun p q => ∀ c,Pr.c p H c→Pr.c q H c) (T.cells x) (U.cells (f x))) (k:(sl T xs).h H v):(sl U (xs.map f)).h H v:=by
  obtain ⟨a,cap,hv,h1,h2,h3,h4⟩:=k
  have hl:(xs.map f).length=xs.length:=List.length_map ..
  refine ⟨a,cap,by rw [hl];exact hv,by rw [hl];exact h1,h2,h3,fun hn=>?_⟩
  obtain ⟨b,o,ha,hc⟩:=h4 (by rwa [hl] at hn)
  refine ⟨b,o,ha,fun i ψ hi=>?_⟩
  obtain ⟨φ,hφ,hr⟩:=(All2.flipM (flat_rel h)).get i ψ hi
  obtain ⟨c,hc1,hc2⟩:=hc i φ hφ
  exact ⟨c,hc1,hr c hc2⟩
section
variable {C:Cx} {Γ:Env} {Δ':List Res}
theorem St.freezeRows {α β:Type} {T:Ty β} {e:Nat} {v:α→Value} {l:α→List β} {a:Act} {w:World} : ∀ {ys:List α} {H:IH} {Δ:List Res} (S:St C Γ Δ H a w) (hp:Δ.Perm (ys.map (fun x=>row (v x) e T (l x))++Δ')), ∃ H',St C Γ Δ' H' a w∧IH.le H H' ∧ ∀ x ∈ ys,(sl T (l x)).h H' (v x)
  | [],H,Δ,S,hp=>⟨H,S.perm hp,IH.le_refl _,fun x h=>by cases h⟩
  | y::ys,H,Δ,S,hp=>by
    obtain ⟨H1,S1,l1,k1⟩:=S.freeze (T:=T) (xs:=l y) (v:=v y) (e:=e) hp
    obtain ⟨H2,S2,l2,k2⟩:=St.freezeRows (ys:=ys) S1 (List.Perm.refl _)
    refine ⟨H2,S2,IH.le_trans l1 l2,fun x hx=>?_⟩
    rcases List.mem_cons.1 hx with rfl|hx
    · exact (sl T (l x)).mono l2 k1
    · exact k2 x hx
end
theorem St.freezeD {C:Cx} {Γ:Env} {Δ Δ':List Res} {H:IH} {a:Act} {w:World} {A:Option Addr} {c:Nat} {ys:List DO} (S:St C Γ Δ H a w) (hp:Δ.Perm (dst A c ys++Δ')) : ∃ H',St C Γ Δ' H' a w∧(sl docT.toTy (ys.map fun x=>x.1.d)).h H' (.slice A ys.length c):=by
  have hp1:Δ.Perm (ys.map (fun x:DO=>row (.slice x.2.1.1 x.1.recs.length x.2.1.2) 73 recVT.toTy (x.1.recs.map MRec.v))++(ys.map (fun x:DO=>row (.slice x.2.2.1 x.1.recs.length x.2.2.2) 37 hashT.toTy (x.1.recs.map MRec.hash))++(row (.slice A ys.length c) 95 docO.toTy ys::Δ'))):=by
    refine hp.trans ?_
    unfold dst docR docL
    simp only [List.append_assoc,List.cons_append]
    exact permP [[_],ys.map docR1,ys.map docL1,_] [0,1,2,3] [1,2,0,3] (by decide)
  obtain ⟨H1,S1,l1,k1⟩:=St.freezeRows (v:=fun x:DO => .slice x.2.1.1 x.1.recs.length x.2.1.2) (l:=fun x=>x.1.recs.map MRec.v) S hp1
  obtain ⟨H2,S2,l2,k2⟩:=St.freezeRows (v:=fun x:DO => .slice x.2.2.1 x.1.recs.length x.2.2.2) (l:=fun x=>x.1.recs.map MRec.hash) S1 (List.Perm.refl _)
  obtain ⟨H3,S3,l3,k3⟩:=S2.freeze (List.Perm.refl _)
  refine ⟨H3,S3,sl_rel (fun x hx=>?_) k3⟩
  exact ⟨fun _ h=>h,fun _ h=>h,fun _ h=>h,fun cc h=>by
    have h1:cc = .slice x.2.1.1 x.1.recs.length x.2.1.2:=h.1
    exact ⟨by rw [h1];exact (sl recVT.toTy (x.1.recs.map MRec.v)).mono (IH.le_trans l2 l3) (k1 x hx),h.2⟩,fun cc h=>by
    have h1:cc = .slice x.2.2.1 x.1.recs.length x.2.2.2:=h.1
    exact ⟨by rw [h1];exact (sl hashT.toTy (x.1.recs.map MRec.hash)).mono l3 (k2 x hx),h.2⟩,trivial⟩
theorem Lq.frzD {C:Cx} {Γ:Env} {Δ Δ':List Res} {Q:Exit→Act→World→Prop} {ops:Array Oper} {rest:List Oper} {A:Option Addr} {c n:Nat} {ys:List DO} (d:Nat) (h:look Γ d=some (is (.slice A n c))) (hn:n=ys.length) (hp:Δ.Perm (dst A c ys++Δ'))
    (k:Lq C ((d,sl docT.toTy (ys.map fun x=>x.1.d))::Γ) Δ' ops rest Q):Lq C Γ Δ ops rest Q:=fun H a w S=>by
  subst hn
  obtain ⟨H',S',hsl⟩:=S.freezeD hp
  refine k H' a w (S'.weak fun t χ ht=>?_)
  unfold look at ht
  split at ht
  · rename_i hk
    have hk:=Nat.eq_of_beq_eq_true hk
    subst hk
    injection ht with ht;subst ht
    obtain ⟨u,hu,h2⟩:=S'.env d _ h
    have h2:u = .slice A ys.length c:=h2
    exact ⟨u,hu,by rw [h2];exact hsl⟩
  · exact S'.env t χ ht
/-- The document's side in memory. -/
def fsC (m:MM) (A1:Option Addr) (n1 c1:Nat) (A2:Option Addr) (n2 c2:Nat):List Pr:=[is (.bool m.fmt),is (.bool m.mnt),is (.slice A1 n1 c1),is (.slice A2 n2 c2),is (.int .i64 m.sure.clock),is (.int .i64 m.cur.clock),is (.int .i64 (m.todo:Int))]
def fsL (W:Nat) (m:MM) (A1:Option Addr) (c1:Nat) (xs1:List DO) (A2:Option Addr) (c2:Nat) (xs2:List DO):List Res :=
  own W 91 (fsC m A1 xs1.length c1 A2 xs2.length c2)::(dst A2 c2 xs2++dst A1 c1 xs1)
def fitsD (m:MM) (xs1 xs2:List DO):Prop:=xs1.map (·.1)=m.sure.streams∧xs2.map (·.1)=m.cur.streams
def fsV (W:Nat) (m:MM):VS:=fun Δ => ∃ A1 c1 xs1 A2 c2 xs2,fitsD m xs1 xs2∧Δ=fsL W m A1 c1 xs1 A2 c2 xs2
theorem fitsD_g {l:List MStr} {clock:Int} {xs:List DO} (h:xs.map (·.1)=l) (hk:StOk ⟨clock,l⟩):xs.length≤1000 ∧ ∀ x ∈ xs,x.1.recs.length≤1000∧x.1.holds.length≤1000:=by
  have hl:=map_len h
  refine ⟨by have:=hk.1;show xs.length≤1000;have h8:l.length≤8:=this;omega,fun x hx=>?_⟩
  have:=hk.2 x.1 (by show x.1 ∈ l;rw [← h];exact List.mem_map_of_mem hx)
  exact ⟨by have:=this.1;omega,by have:=this.2.1;omega⟩
set_option linter.unusedVariables false
set_option linter.unusedSimpArgs false
attribute [local irreducible] J Lq E OpP PRun is any agg tup ptr sl PRunW OpE
attribute [local irreducible] slt row leafH shaH docR docL OpR dst
theorem dfind_fnR {W:Nat} {m:MM} {A1:Option Addr} {c1:Nat} {xs1:List DO} {A2:Option Addr} {c2:Nat} {xs2:List DO} (x:Str) (hf:fitsD m xs1 xs2) (hl:xs2.length≤1000) :
    FnR Tryd.prog 65 [is (.pointer (some ⟨W,0,none⟩)),is (str x)] (fsL W m A1 c1 xs1 A2 c2 xs2) (fun ψ Δ=>ψ=is (.int .i64 (if hasN m.cur.streams x then (findN m.cur.streams x:Int) else -1))∧Δ=fsL W m A1 c1 xs1 A2 c2 xs2):=by
  refine FnR.mk' 27 Tryd.func65 rfl rfl rfl rfl fun w0 H0=>?_
  unfold fsL
  unfold dst
  obtain ⟨D,hD⟩ : ∃ D,D=docR xs2++docL xs2++(row (.slice A1 xs1.length c1) 95 docO.toTy xs1::(docR xs1++docL xs1)):=⟨_,rfl⟩
  rw [List.cons_append, ← hD]
  unfold fsC
  repeat (first|((first|(apply Lq.s;rfl)|apply PRun.s|(apply Lq.run;rfl;rfl;rfl;exact bsB)|(apply PRun.run;rfl;rfl;exact bsB));first|(apply op_ocell;rfl;exact bsM;rfl)|(apply op_slen;rfl)|(exact bsO))|refine bsA ?_|(apply Lq.al;rfl;rfl;intro b)|(apply Open.cons;intro b)|refine bsC ?_)
  refine J.loop (fun i:Nat=>i≤xs2.length ∧ ∀ (j:Nat) (z:DO),j < i→xs2[j]?=some z→z.1.name ≠ x)
    (fun i=>[(0,is (.pointer (some ⟨W,0,none⟩))),(1,is (str x)),(5,is (.int .i64 (i:Int)))])
    (fun _=>own W 91 [is (.bool m.fmt),is (.bool m.mnt),is (.slice A1 xs1.length c1),is (.slice A2 xs2.length c2),is (.int .i64 m.sure.clock),is (.int .i64 m.cur.clock),is (.int .i64 (m.todo:Int))]::row (.slice A2 xs2.length c2) 95 docO.toTy xs2::D)
    (fun i=>xs2.length - i) 0 ⟨Nat.zero_le _,fun j z hj=>by omega⟩ (Sub.same (by repeat' (first|exact trivial|refine ⟨rfl,?_⟩))) ?_
  rintro i ⟨hi,hp⟩
  by_cases hlt:i < xs2.length
  · obtain ⟨z,hz⟩ : ∃ z,xs2[i]?=some z:=⟨_,List.getElem?_eq_getElem hlt⟩
    refine J.open (Δ':=own W 91 _::D) (List.Perm.swap _ _ _) (by intro h;rw [h] at hlt;simp at hlt) ?_
    intro nb no cap pre post hR
    obtain ⟨hv,hpre,hle,hcap,hroom,_⟩:=hR
    injection hv with hA _ hc
    subst hA;subst hc
    by_cases hzx:z.1.name=x
    · repeat (first|((first|(apply Lq.s;rfl)|apply PRun.s|(apply Lq.run;rfl;rfl;rfl;exact bsB)|(apply PRun.run;rfl;rfl;exact bsB));first|(apply op_ocell;rfl;exact bsM;rfl)|(apply op_slen;rfl)|(apply op_siaddr;rfl;rfl;omega;omega)|(apply op_ocell (φ:=is (str z.1.name));rfl;exact bsM;(rw [Int.toNat_natCast];exact cell_rfld docO.toTy (k:=0) hpre hz (show 0 < 5 by decide)))|(apply op_seqT (a:=z.1.name) (b:=x);rfl;rfl;exact hzx)|(exact bsO))|refine bsA ?_|(apply Lq.al;rfl;rfl;intro b)|(apply Open.cons;intro b)|refine bsC ?_)
      (refine J.ret ?_;(repeat (first|refine E.then_ret ?_|refine E.in_ret ?_)))
      have hfn:=findN_at (l:=m.cur.streams) (map_at hf.2 hz) hzx (fun j y hj hy=>by
        obtain ⟨q,hq,rfl⟩:=map_at' hf.2 hy
        exact hp j q hj hq)
      rw [hfn.1,hfn.2,if_pos rfl]
      refine E.close docO.toTy xs2 (b:=nb) (o:=no) (cap:=c2) (List.Perm.refl _) hroom hle hcap (take_rowT docO.toTy hpre) ?_
      exact E.retR1 (G:=[]) rfl rfl ⟨rfl,rfl⟩ (by rw [List.append_nil];exact List.Perm.swap _ _ _)
    · repeat (first|((first|(apply Lq.s;rfl)|apply PRun.s|(apply Lq.run;rfl;rfl;rfl;exact bsB)|(apply PRun.run;rfl;rfl;exact bsB));first|(apply op_ocell;rfl;exact bsM;rfl)|(apply op_slen;rfl)|(apply op_siaddr;rfl;rfl;omega;omega)|(apply op_ocell (φ:=is (str z.1.name));rfl;exact bsM;(rw [Int.toNat_natCast];exact cell_rfld docO.toTy (k:=0) hpre hz (show 0 < 5 by decide)))|(apply op_seqF (a:=z.1.name) (b:=x);rfl;rfl;exact hzx)|(exact bsO))|refine bsA ?_|(apply Lq.al;rfl;rfl;intro b)|(apply Open.cons;intro b)|refine bsC ?_)
      refine E.close docO.toTy xs2 (b:=nb) (o:=no) (cap:=c2) (List.Perm.refl _) hroom hle hcap (take_rowT docO.toTy hpre) ?_
      exact E.again (i+1) (by omega) ⟨by omega,fun j u hj hu=>by
        rcases Nat.lt_or_eq_of_le (Nat.le_of_lt_succ hj) with h|rfl
        · exact hp j u h hu
        · rw [hz] at hu;injection hu with hu;subst hu;exact hzx⟩ ⟨(by repeat' (first|exact trivial|refine ⟨rfl,?_⟩)),[],by rw [List.append_nil];exact List.Perm.swap _ _ _⟩
  · obtain rfl:i=xs2.length:=by omega
    have hno:hasN m.cur.streams x=false:=by
      rcases find_cases m.cur.streams x with ⟨h,_⟩|⟨s,h1,h2,h3,_⟩
      · exact h
      · obtain ⟨q,hq,rfl⟩:=map_at' hf.2 h2
        exact absurd h3 (hp _ q (List.getElem?_eq_some_iff.1 hq).1 hq)
    rw [hno,if_neg (by decide)]
    repeat (first|((first|(apply Lq.s;rfl)|apply PRun.s|(apply Lq.run;rfl;rfl;rfl;exact bsB)|(apply PRun.run;rfl;rfl;exact bsB));first|(apply op_ocell;rfl;exact bsM;rfl)|(apply op_slen;rfl)|(exact bsO))|refine bsA ?_|(apply Lq.al;rfl;rfl;intro b)|(apply Open.cons;intro b)|refine bsC ?_)
    (refine J.ret ?_;(repeat (first|refine E.then_ret ?_|refine E.in_ret ?_)))
    exact E.retR1 (G:=[]) rfl rfl ⟨rfl,rfl⟩ (by rw [List.append_nil])
end Go.Proofs.YtljbbajelkkafaaDoor.L
/-
  The document's side of a model: Find,Read,Stat,View,walked.
-/
namespace Go.Proofs.YtljbbajelkkafaaDoor.L
open Go
set_option linter.unusedSectionVars false
variable [Globs] [Has_sha_table] [Has_sha_begin]
set_option linter.unusedVariables false
def zeroD:DocV:=⟨⟨[],0,[],[]⟩,[]⟩
def docF (m:MM) (x:Str):DocV:=if errFind m x=0 then (findS m x).d else zeroD
theorem docF_0 {m:MM} {x:Str} (h:errFind m x=0):docF m x=(findS m x).d:=by unfold docF;rw [if_pos h]
theorem docF_e {m:MM} {x:Str} (h:errFind m x ≠ 0):docF m x=zeroD:=by unfold docF;rw [if_neg h]
theorem doc_zero : ∀ H,All2 (fun (p q:Pr) => ∀ v,p.h H v→q.h H v) [is (str []),is (.int .i64 0),is (.slice none 0 0),is (.slice none 0 0),is (.slice none 0 0)] (docT.cells zeroD):=fun H=>⟨fun _ h=>h,fun _ h=>h,fun v h=>sl_nil H v h,fun v h=>sl_nil H v h,fun v h=>sl_nil H v h,trivial⟩
set_option linter.unusedVariables false
set_option linter.unusedSimpArgs false
attribute [local irreducible] J Lq E OpP PRun is any agg tup ptr sl PRunW OpE
attribute [local irreducible] slt row leafH shaH docR docL OpR dst
set_option maxHeartbeats 4000000 in
theorem dFindV {W:Nat} {m:MM} (x:Str) (hk:MOk m):FnV Tryd.prog 45 [is (.pointer (some ⟨W,0,none⟩)),is (str x)] (fsV W m) (tup [docT.val (docF m x),is (.int .i64 (errFind m x))]) (fsV W m):=by
  intro Δ hV
  obtain ⟨A1,c1,xs1,A2,c2,xs2,hf,rfl⟩:=hV
  have hfs:fsV W m (fsL W m A1 c1 xs1 A2 c2 xs2):=⟨A1,c1,xs1,A2,c2,xs2,hf,rfl⟩
  obtain ⟨hl2,hg2⟩:=fitsD_g (clock:=m.cur.clock) hf.2 hk.cur
  have hfind:=dfind_fnR (W:=W) (A1:=A1) (c1:=c1) (A2:=A2) (c2:=c2) x hf hl2
  refine FnR.mk' 27 Tryd.func45 rfl rfl rfl rfl fun w0 H0=>?_
  cases hm:m.mnt with
  | false =>
    have he:errFind m x=240:=errFind_m hm
    rw [docF_e (by rw [he];decide),he]
    unfold fsL fsC at hfs ⊢
    obtain ⟨D,hD⟩ : ∃ D,D=dst A2 c2 xs2++dst A1 c1 xs1:=⟨_,rfl⟩
    rw [← hD,hm] at hfs ⊢
    repeat (first|((first|(apply Lq.s;rfl)|apply PRun.s|(apply Lq.run;rfl;rfl;rfl;exact bsB)|(apply PRun.run;rfl;rfl;exact bsB));first|(apply op_ocell;rfl;exact bsM;rfl)|(apply op_slen;rfl)|(exact bsO))|refine bsA ?_|(apply Lq.al;rfl;rfl;intro b)|(apply Open.cons;intro b)|refine bsC ?_)
    refine J.res1 (r':=own b 95 (docT.cells zeroD)) (List.Perm.refl _) (own_conv doc_zero) ?_
    (refine J.ret ?_;(repeat (first|refine E.then_ret ?_|refine E.in_ret ?_)))
    exact E.retRct docT (x:=zeroD) (G:=[_]) rfl rfl rfl List.mem_cons_self rfl ⟨rfl,hfs⟩ (List.perm_append_comm (l₁:=[_]))
  | true =>
    unfold fsL fsC at hfs hfind ⊢
    rw [hm] at hfs hfind ⊢
    repeat (first|((first|(apply Lq.s;rfl)|apply PRun.s|(apply Lq.run;rfl;rfl;rfl;exact bsB)|(apply PRun.run;rfl;rfl;exact bsB));first|(apply op_ocell;rfl;exact bsM;rfl)|(apply op_slen;rfl)|(exact bsO))|refine bsA ?_|(apply Lq.al;rfl;rfl;intro b)|(apply Open.cons;intro b)|refine bsC ?_)
    revert b
    intro tb
    refine Lq.callS (Δ0:=own W 91 _::(dst A2 c2 xs2++dst A1 c1 xs1)) (Δf:=[_]) hfind rfl bsD (List.perm_append_comm (l₁:=[_])) ?_
    rintro _ _ ⟨rfl,rfl⟩
    refine Lq.perm (List.perm_append_comm (l₂:=[_])) ?_
    cases hh:hasN m.cur.streams x with
    | false =>
      rw [if_neg (by decide)]
      have he:errFind m x=4:=errFind_4 hm hh
      rw [docF_e (by rw [he];decide),he]
      repeat (first|((first|(apply Lq.s;rfl)|apply PRun.s|(apply Lq.run;rfl;rfl;rfl;exact bsB)|(apply PRun.run;rfl;rfl;exact bsB));first|(exact bsO))|refine bsA ?_|(apply Lq.al;rfl;rfl;intro b)|(apply Open.cons;intro b)|refine bsC ?_)
      refine J.res1 (r':=own tb 95 (docT.cells zeroD)) (List.Perm.refl _) (own_conv doc_zero) ?_
      (refine J.ret ?_;(repeat (first|refine E.then_ret ?_|refine E.in_ret ?_)))
      exact E.retRct docT (x:=zeroD) (G:=[_]) rfl rfl rfl List.mem_cons_self rfl ⟨rfl,hfs⟩ (List.perm_append_comm (l₁:=[_]))
    | true =>
      rw [if_pos rfl]
      have he:errFind m x=0:=errFind_0 hm hh
      rw [docF_0 he,he]
      have hfa:=(findS_mem hh).2.1
      generalize findN m.cur.streams x=k at hfa ⊢
      generalize findS m x=s at hfa ⊢
      repeat (first|((first|(apply Lq.s;rfl)|apply PRun.s|(apply Lq.run;rfl;rfl;rfl;exact bsB)|(apply PRun.run;rfl;rfl;exact bsB));first|(apply op_ocell;rfl;exact bsM;rfl)|(apply op_slen;rfl)|(exact bsO))|refine bsA ?_|(apply Lq.al;rfl;rfl;intro b)|(apply Open.cons;intro b)|refine bsC ?_)
      refine Lq.callS (Δ0:=dst A2 c2 xs2) (Δf:=own tb 95 _::own W 91 _::dst A1 c1 xs1) (dcopies_fnR A2 c2 xs2 hl2 hg2) rfl bsD (permP [[_],[_],_,_] [0,1,2,3] [2,0,1,3] (by decide)) ?_
      rintro _ _ ⟨A',c',ys,hys,rfl,rfl⟩
      refine Lq.frzD 23 rfl rfl (by rw [List.append_assoc]) ?_
      have hyk:(ys.map fun x=>x.1.d)[k]?=some s.d:=by
        have h1:(ys.map (·.1))[k]?=some s:=by rw [hys,hf.2];exact hfa
        rw [List.getElem?_map] at h1 ⊢
        cases h2:ys[k]? with
        | none=>rw [h2] at h1;cases h1
        | some y =>
          rw [h2] at h1
          injection h1 with h1
          have h1:y.1=s:=h1
          show some y.1.d=_
          rw [h1]
      refine Lq.perm (permP [_,[_],[_],_] [0,1,2,3] [1,2,0,3] (by decide)) ?_
      repeat (first|((first|(apply Lq.s;rfl)|apply PRun.s|(apply Lq.run;rfl;rfl;rfl;exact bsB)|(apply PRun.run;rfl;rfl;exact bsB));first|(apply op_iaddr docT.toTy (x:=s.d);rfl;rfl;exact Int.natCast_nonneg _;(rw [Int.toNat_natCast];exact hyk))|(apply op_load docT;rfl)|(exact bsO))|refine bsA ?_|(apply Lq.al;rfl;rfl;intro b)|(apply Open.cons;intro b)|refine bsC ?_)
      refine J.res1 (r':=own tb 95 (docT.cells s.d)) (List.Perm.refl _) (fun H w h=>⟨h,rfl⟩) ?_
      (refine J.ret ?_;(repeat (first|refine E.then_ret ?_|refine E.in_ret ?_)))
      exact E.retRct docT (x:=s.d) (G:=[_]) rfl rfl rfl List.mem_cons_self rfl ⟨rfl,hfs⟩ (List.perm_append_comm (l₁:=[_]))
set_option maxHeartbeats 4000000 in
theorem dReadV {W:Nat} {m:MM} (x:Str) (i:Int) (hk:MOk m):FnV Tryd.prog 46 [is (.pointer (some ⟨W,0,none⟩)),is (str x),is (.int .i64 i)] (fsV W m) (tup [is (str (readM m x i).1),is (.int .i64 (readM m x i).2)]) (fsV W m):=by
  intro Δ hV
  have hF:=dFindV (W:=W) x hk Δ hV
  refine FnR.mk' 43 Tryd.func46 rfl rfl rfl rfl fun w0 H0=>?_
  repeat (first|((first|(apply Lq.s;rfl)|apply PRun.s|(apply Lq.run;rfl;rfl;rfl;exact bsB)|(apply PRun.run;rfl;rfl;exact bsB));first|(exact bsO))|refine bsA ?_|(apply Lq.al;rfl;rfl;intro b)|(apply Open.cons;intro b)|refine bsC ?_)
  refine Lq.callS (Δ0:=Δ) (Δf:=[]) hF rfl bsD (by rw [List.append_nil]) ?_
  rintro _ D ⟨rfl,hV2⟩
  rw [List.append_nil]
  by_cases he:errFind m x=0
  case neg =>
    rw [readM_bad he]
    generalize errFind m x=er at *
    repeat (first|((first|(apply Lq.s;rfl)|apply PRun.s|(apply Lq.run;rfl;rfl;rfl;exact bsB)|(apply PRun.run;rfl;rfl;exact bsB));first|(exact bsO))|refine bsA ?_|(apply Lq.al;rfl;rfl;intro b)|(apply Open.cons;intro b)|refine bsC ?_)
    (refine J.ret ?_;(repeat (first|refine E.then_ret ?_|refine E.in_ret ?_)))
    exact E.retR2 (Δ':=D) (G:=[_]) rfl rfl rfl ⟨rfl,hV2⟩ (List.perm_append_comm (l₁:=[_]))
  rw [docF_0 he,he]
  have hr1:=fun h=>readM_err (m:=m) (x:=x) (i:=i) he h
  have hr2:=fun h=>readM_ok (m:=m) (x:=x) (i:=i) he h
  have hsl:(findS m x).recs.length≤64:=(hk.cur.2 _ (findS_mem (find_ok0 he).2).1).1
  generalize findS m x=s at *
  generalize readM m x i=q at *
  by_cases hi0:i < 0
  · have h1:=errRead_range (s:=s) (.inl hi0)
    rw [hr1 (by rw [h1];decide),h1]
    repeat (first|((first|(apply Lq.s;rfl)|apply PRun.s|(apply Lq.run;rfl;rfl;rfl;exact bsB)|(apply PRun.run;rfl;rfl;exact bsB));first|(apply op_ocell;rfl;exact bsM;rfl)|(apply op_slen;rfl)|(exact bsO))|refine bsA ?_|(apply Lq.al;rfl;rfl;intro b)|(apply Open.cons;intro b)|refine bsC ?_)
    (refine J.ret ?_;(repeat (first|refine E.then_ret ?_|refine E.in_ret ?_)))
    exact E.retR2 (Δ':=D) (G:=[_]) rfl rfl rfl ⟨rfl,hV2⟩ (List.perm_append_comm (l₁:=[_]))
  by_cases hi1:(s.recs.length:Int)≤i
  · have h1:=errRead_range (s:=s) (.inr hi1)
    rw [hr1 (by rw [h1];decide),h1]
    have hml:(s.recs.map MRec.v).length=s.recs.length:=List.length_map ..
    repeat (first|((first|(apply Lq.s;rfl)|apply PRun.s|(apply Lq.run;rfl;rfl;rfl;exact bsB)|(apply PRun.run;rfl;rfl;exact bsB));first|(apply op_ocell;rfl;exact bsM;rfl)|(apply op_slen;rfl)|(apply op_len (xs:=s.recs.map MRec.v);rfl)|(exact bsO))|refine bsA ?_|(apply Lq.al;rfl;rfl;intro b)|(apply Open.cons;intro b)|refine bsC ?_)
    (refine J.ret ?_;(repeat (first|refine E.then_ret ?_|refine E.in_ret ?_)))
    exact E.retR2 (Δ':=D) (G:=[_]) rfl rfl rfl ⟨rfl,hV2⟩ (List.perm_append_comm (l₁:=[_]))
  obtain ⟨k,rfl⟩ : ∃ k:Nat,i=k:=⟨i.toNat,by omega⟩
  obtain ⟨r,hr⟩ : ∃ r,s.recs[k]?=some r:=⟨_,List.getElem?_eq_getElem (by omega)⟩
  have h1:=errRead_in hr
  have h2:=textAt_in hr
  have hrv:(s.recs.map MRec.v)[k]?=some r.v:=by rw [List.getElem?_map,hr];rfl
  have hml:(s.recs.map MRec.v).length=s.recs.length:=List.length_map ..
  obtain ⟨rt,rx,rs,rh⟩:=r
  cases rs with
  | true =>
    have h1:errRead s (k:Int)=162:=h1
    rw [hr1 (by rw [h1];decide),h1]
    repeat (first|((first|(apply Lq.s;rfl)|apply PRun.s|(apply Lq.run;rfl;rfl;rfl;exact bsB)|(apply PRun.run;rfl;rfl;exact bsB));first|(apply op_ocell;rfl;exact bsM;rfl)|(apply op_slen;rfl)|(apply op_len (xs:=s.recs.map MRec.v);rfl)|(apply op_iaddr recVT.toTy (x:=⟨rt,rx,true⟩);rfl;rfl;exact Int.natCast_nonneg _;(rw [Int.toNat_natCast];exact hrv))|(apply op_faddr recv_shred;rfl;decide)|(apply op_load boolT (x:=true);rfl)|(exact bsO))|refine bsA ?_|(apply Lq.al;rfl;rfl;intro b)|(apply Open.cons;intro b)|refine bsC ?_)
    (refine J.ret ?_;(repeat (first|refine E.then_ret ?_|refine E.in_ret ?_)))
    exact E.retR2 (Δ':=D) (G:=[_]) rfl rfl rfl ⟨rfl,hV2⟩ (List.perm_append_comm (l₁:=[_]))
  | false =>
    rw [hr2 (by rw [h1];rfl),h2]
    repeat (first|((first|(apply Lq.s;rfl)|apply PRun.s|(apply Lq.run;rfl;rfl;rfl;exact bsB)|(apply PRun.run;rfl;rfl;exact bsB));first|(apply op_ocell;rfl;exact bsM;rfl)|(apply op_slen;rfl)|(apply op_len (xs:=s.recs.map MRec.v);rfl)|(apply op_iaddr recVT.toTy (x:=⟨rt,rx,false⟩);rfl;rfl;exact Int.natCast_nonneg _;(rw [Int.toNat_natCast];exact hrv))|(apply op_faddr recv_shred;rfl;decide)|(apply op_load boolT (x:=false);rfl)|(apply op_faddr recv_text;rfl;decide)|(apply op_load strT (x:=rx);rfl)|(exact bsO))|refine bsA ?_|(apply Lq.al;rfl;rfl;intro b)|(apply Open.cons;intro b)|refine bsC ?_)
    (refine J.ret ?_;(repeat (first|refine E.then_ret ?_|refine E.in_ret ?_)))
    exact E.retR2 (Δ':=D) (G:=[_]) rfl rfl rfl ⟨rfl,hV2⟩ (List.perm_append_comm (l₁:=[_]))
set_option maxHeartbeats 4000000 in
theorem dStatV {W:Nat} {m:MM} (x:Str) (hk:MOk m):FnV Tryd.prog 44 [is (.pointer (some ⟨W,0,none⟩)),is (str x)] (fsV W m) (tup [statVT.val (statMM m x).1,is (.int .i64 (statMM m x).2)]) (fsV W m):=by
  intro Δ hV
  have hF:=dFindV (W:=W) x hk Δ hV
  refine FnR.mk' 53 Tryd.func44 rfl rfl rfl rfl fun w0 H0=>?_
  repeat (first|((first|(apply Lq.s;rfl)|apply PRun.s|(apply Lq.run;rfl;rfl;rfl;exact bsB)|(apply PRun.run;rfl;rfl;exact bsB));first|(exact bsO))|refine bsA ?_|(apply Lq.al;rfl;rfl;intro b)|(apply Open.cons;intro b)|refine bsC ?_)
  revert b
  intro rb
  refine Lq.callS (Δ0:=Δ) (Δf:=[_]) hF rfl bsD (List.perm_append_comm (l₁:=[_])) ?_
  rintro _ D ⟨rfl,hV2⟩
  refine Lq.perm (List.perm_append_comm (l₂:=[_])) ?_
  by_cases he:errFind m x=0
  case neg =>
    rw [statMM_bad he]
    generalize errFind m x=er at *
    repeat (first|((first|(apply Lq.s;rfl)|apply PRun.s|(apply Lq.run;rfl;rfl;rfl;exact bsB)|(apply PRun.run;rfl;rfl;exact bsB));first|(exact bsO))|refine bsA ?_|(apply Lq.al;rfl;rfl;intro b)|(apply Open.cons;intro b)|refine bsC ?_)
    refine J.res1 (Δ':=own _ _ _::D) (r':=own rb 59 (statVT.cells zeroStat)) (by first|exact List.Perm.refl _|exact List.Perm.swap _ _ _) (own_conv stat_zero) ?_
    (refine J.ret ?_;(repeat (first|refine E.then_ret ?_|refine E.in_ret ?_)))
    exact E.retRct statVT (x:=zeroStat) (Δ':=D) (G:=[_,_]) rfl rfl rfl List.mem_cons_self rfl ⟨rfl,hV2⟩ (List.perm_append_comm (l₁:=[_,_]))
  rw [docF_0 he,statMM_ok he,he]
  have hnm:=(findS_mem (find_ok0 he).2).2.2
  have hsl:(findS m x).recs.length≤64:=(hk.cur.2 _ (findS_mem (find_ok0 he).2).1).1
  generalize findS m x=s at *
  have hst:statS s=⟨x,s.retain,s.holds,s.recs.length,liveM s.recs⟩:=by unfold statS;rw [hnm]
  rw [hst]
  have hml:(s.recs.map MRec.v).length=s.recs.length:=List.length_map ..
  repeat (first|((first|(apply Lq.s;rfl)|apply PRun.s|(apply Lq.run;rfl;rfl;rfl;exact bsB)|(apply PRun.run;rfl;rfl;exact bsB));first|(apply op_ocell;rfl;exact bsM;rfl)|(apply op_slen;rfl)|(apply op_len (xs:=s.recs.map MRec.v);rfl)|(exact bsO))|refine bsA ?_|(apply Lq.al;rfl;rfl;intro b)|(apply Open.cons;intro b)|refine bsC ?_)
  revert b
  intro tb
  revert b
  intro sb
  refine J.res1 (Δ':=own tb _ _::own rb _ _::D) (r':=own sb 95 (docT.cells s.d)) (List.Perm.swap _ _ _) (fun H w h=>⟨h,rfl⟩) ?_
  refine J.frzB 6 rfl (List.Perm.refl _) ?_
  refine J.loop (fun k:Nat=>k≤s.recs.length)
    (fun k=>[(4,is (.pointer (some ⟨rb,0,none⟩))),(6,ptr (docT.cells s.d)),(8,is (.pointer (some ⟨tb,0,none⟩))),(9,is (.int .i64 (k:Int)))])
    (fun k=>own tb 59 [is (str x),is (.int .i64 s.retain),sl strT.toTy s.holds,is (.int .i64 (s.recs.length:Int)),is (.int .i64 ((liveM (s.recs.take k):Nat):Int))]::own rb 59 [is (str []),is (.int .i64 0),is (.slice none 0 0),is (.int .i64 0),is (.int .i64 0)]::D)
    (fun k=>s.recs.length - k) 0 (Nat.zero_le _) (by rw [hml];exact (Sub.same (by repeat' (first|exact trivial|refine ⟨rfl,?_⟩)))) ?_
  intro k hk0
  have hlv:=liveM_le (s.recs.take k)
  rw [List.length_take] at hlv
  by_cases hlk:k < s.recs.length
  · obtain ⟨r,hr⟩ : ∃ r,s.recs[k]?=some r:=⟨_,List.getElem?_eq_getElem hlk⟩
    have hrv:(s.recs.map MRec.v)[k]?=some r.v:=by rw [List.getElem?_map,hr];rfl
    have hst:=liveM_step hr
    generalize hz:liveM (s.recs.take (k+1))=z at *
    generalize liveM (s.recs.take k)=y at *
    repeat (first|((first|(apply Lq.s;rfl)|apply PRun.s|(apply Lq.run;rfl;rfl;rfl;exact bsB)|(apply PRun.run;rfl;rfl;exact bsB));first|(apply op_ocell;rfl;exact bsM;rfl)|(apply op_slen;rfl)|(apply op_len (xs:=s.recs.map MRec.v);rfl)|(apply op_faddr doc_seen;rfl;decide)|(apply op_faddr doc_leaves;rfl;decide)|(apply op_faddr seen_name;rfl;decide)|(apply op_faddr seen_retain;rfl;decide)|(apply op_faddr seen_holds;rfl;decide)|(apply op_faddr seen_recs;rfl;decide)|(apply op_load strT;rfl)|(apply op_load (intT .i64);rfl)|(apply op_load (slT strT);rfl)|(apply op_load (slT recVT);rfl)|(apply op_load (slT hashT);rfl)|(apply op_iaddr recVT.toTy (x:=r.v);rfl;rfl;exact Int.natCast_nonneg _;(rw [Int.toNat_natCast];exact hrv))|(apply op_faddr recv_shred;rfl;decide)|(apply op_load boolT (x:=r.shred);rfl)|(exact bsO))|refine bsA ?_|(apply Lq.al;rfl;rfl;intro b)|(apply Open.cons;intro b)|refine bsC ?_)
    refine J.cond _ rfl (fun hb=>?_) (fun hb=>?_)
    · have hb:r.shred=false:=by simpa using hb
      rw [hb,if_neg (by decide)] at hst
      repeat (first|((first|(apply Lq.s;rfl)|apply PRun.s|(apply Lq.run;rfl;rfl;rfl;exact bsB)|(apply PRun.run;rfl;rfl;exact bsB));first|(apply op_ocell;rfl;exact bsM;rfl)|(apply op_slen;rfl)|(apply op_add (c:=(z:Int));rfl;rfl;(rw [show (y:Int)+1=(z:Int) by omega];apply wrapi <;> omega))|(apply op_add (c:=((k+1:Nat):Int));rfl;rfl;(rw [show (k:Int)+1=((k+1:Nat):Int) by omega];apply wrapi <;> omega))|(exact bsO))|refine bsA ?_|(apply Lq.al;rfl;rfl;intro b)|(apply Open.cons;intro b)|refine bsC ?_)
      exact E.again (k+1) (by omega) (by omega) (by rw [hz];exact (Sub.same (by repeat' (first|exact trivial|refine ⟨rfl,?_⟩))))
    · have hb:r.shred=true:=by simpa using hb
      rw [hb,if_pos rfl,Nat.add_zero] at hst
      repeat (first|((first|(apply Lq.s;rfl)|apply PRun.s|(apply Lq.run;rfl;rfl;rfl;exact bsB)|(apply PRun.run;rfl;rfl;exact bsB));first|(apply op_ocell;rfl;exact bsM;rfl)|(apply op_slen;rfl)|(apply op_add (c:=((k+1:Nat):Int));rfl;rfl;(rw [show (k:Int)+1=((k+1:Nat):Int) by omega];apply wrapi <;> omega))|(exact bsO))|refine bsA ?_|(apply Lq.al;rfl;rfl;intro b)|(apply Open.cons;intro b)|refine bsC ?_)
      exact E.again (k+1) (by omega) (by omega) (by rw [hz,hst];exact (Sub.same (by repeat' (first|exact trivial|refine ⟨rfl,?_⟩))))
  · obtain rfl:k=s.recs.length:=by omega
    rw [List.take_length]
    repeat (first|((first|(apply Lq.s;rfl)|apply PRun.s|(apply Lq.run;rfl;rfl;rfl;exact bsB)|(apply PRun.run;rfl;rfl;exact bsB));first|(apply op_ocell;rfl;exact bsM;rfl)|(apply op_slen;rfl)|(apply op_len (xs:=s.recs.map MRec.v);rfl)|(apply op_faddr doc_seen;rfl;decide)|(apply op_faddr doc_leaves;rfl;decide)|(apply op_faddr seen_name;rfl;decide)|(apply op_faddr seen_retain;rfl;decide)|(apply op_faddr seen_holds;rfl;decide)|(apply op_faddr seen_recs;rfl;decide)|(apply op_load strT;rfl)|(apply op_load (intT .i64);rfl)|(apply op_load (slT strT);rfl)|(apply op_load (slT recVT);rfl)|(apply op_load (slT hashT);rfl)|(apply op_oload statVT (x:=⟨x,s.retain,s.holds,s.recs.length,liveM s.recs⟩);rfl;exact bsM;rfl)|(exact bsO))|refine bsA ?_|(apply Lq.al;rfl;rfl;intro b)|(apply Open.cons;intro b)|refine bsC ?_)
    refine J.res1 (Δ':=own tb _ _::D) (r':=own rb 59 (statVT.cells ⟨x,s.retain,s.holds,s.recs.length,liveM s.recs⟩)) (by first|exact List.Perm.refl _|exact List.Perm.swap _ _ _) (fun H w h=>⟨h,rfl⟩) ?_
    (refine J.ret ?_;(repeat (first|refine E.then_ret ?_|refine E.in_ret ?_)))
    exact E.retRct statVT (x:=⟨x,s.retain,s.holds,s.recs.length,liveM s.recs⟩) (Δ':=D) (G:=[_,_]) rfl rfl rfl List.mem_cons_self rfl ⟨rfl,hV2⟩ (List.perm_append_comm (l₁:=[_,_]))
end Go.Proofs.YtljbbajelkkafaaDoor.L
/-
  The document's side of a model: View,walked.
-/
namespace Go.Proofs.YtljbbajelkkafaaDoor.L
open Go
set_option linter.unusedSectionVars false
variable [Globs] [Has_sha_table] [Has_sha_begin]
set_option linter.unusedVariables false
set_option linter.unusedVariables false
set_option linter.unusedSimpArgs false
attribute [local irreducible] J Lq E OpP PRun is any agg tup ptr sl PRunW OpE
attribute [local irreducible] slt row leafH shaH docR docL OpR dst
set_option maxHeartbeats 8000000 in
theorem dViewV {W:Nat} {m:MM} (full:Bool) (hk1:full=true→StOk m.sure) (hk2:full=false→StOk m.cur):FnV Tryd.prog 43 [is (.pointer (some ⟨W,0,none⟩)),is (.bool full)] (fsV W m) (viewT.val (if full then m.sure.v else m.cur.v)) (fsV W m):=by
  intro Δ hV
  obtain ⟨A1,c1,xs1,A2,c2,xs2,hf,rfl⟩:=hV
  have hfs:fsV W m (fsL W m A1 c1 xs1 A2 c2 xs2):=⟨A1,c1,xs1,A2,c2,xs2,hf,rfl⟩
  refine FnR.mk' 47 Tryd.func43 rfl rfl rfl rfl fun w0 H0=>?_
  unfold fsL fsC at hfs ⊢
  cases full with
  | true =>
    rw [if_pos rfl]
    obtain ⟨hl1,hg1⟩:=fitsD_g (clock:=m.sure.clock) hf.1 (hk1 rfl)
    repeat (first|((first|(apply Lq.s;rfl)|apply PRun.s|(apply Lq.run;rfl;rfl;rfl;exact bsB)|(apply PRun.run;rfl;rfl;exact bsB));first|(apply op_ocell;rfl;exact bsM;rfl)|(apply op_slen;rfl)|(exact bsO))|refine bsA ?_|(apply Lq.al;rfl;rfl;intro b)|(apply Open.cons;intro b)|(apply J.drawN;exact mixed;kernel_rfl)|refine bsC ?_)
    revert b
    intro rb
    refine Lq.callS (Δ0:=dst A1 c1 xs1) (Δf:=own rb 45 _::own W 91 _::dst A2 c2 xs2) (dcopies_fnR A1 c1 xs1 hl1 hg1) rfl bsD (permP [[_],[_],dst A2 c2 xs2,dst A1 c1 xs1] [0,1,2,3] [3,0,1,2] (by decide)) ?_
    rintro _ _ ⟨A',c',ys,hys,rfl,rfl⟩
    obtain ⟨VS,hVS⟩ : ∃ l,l=(ys.map fun x=>x.1.d).map DocV.seen:=⟨_,rfl⟩
    have hVl:VS.length=ys.length:=by rw [hVS,List.length_map,List.length_map]
    have hyl:ys.length=xs1.length:=by have:=congrArg List.length hys;rwa [List.length_map,List.length_map] at this
    have hv:VS=(m.sure).v.streams:=by
      rw [hVS]
      show _=(m.sure).streams.map MStr.v
      rw [← hf.1, ← hys,List.map_map,List.map_map]
      rfl
    refine Lq.frzD 27 rfl rfl (by rw [List.append_assoc]) ?_
    refine Lq.perm (Δ':=own rb 45 _::own W 91 _::(dst A2 c2 xs2++dst A1 c1 xs1)) (permP [dst A1 c1 xs1,[_],[_],dst A2 c2 xs2] [0,1,2,3] [1,2,3,0] (by decide)) ?_
    obtain ⟨D,hD⟩ : ∃ D,D=own W 91 [is (.bool m.fmt),is (.bool m.mnt),is (.slice A1 xs1.length c1),is (.slice A2 xs2.length c2),is (.int .i64 m.sure.clock),is (.int .i64 m.cur.clock),is (.int .i64 (m.todo:Int))]::(dst A2 c2 xs2++dst A1 c1 xs1):=⟨_,rfl⟩
    rw [← hD] at hfs ⊢
    refine Lq.nilrow 70 seenT.toTy ?_
    repeat (first|((first|(apply Lq.s;rfl)|apply PRun.s|(apply Lq.run;rfl;rfl;rfl;exact bsB)|(apply PRun.run;rfl;rfl;exact bsB));first|(apply op_ocell;rfl;exact bsM;rfl)|(apply op_slen;rfl)|(exact bsO))|refine bsA ?_|(apply Lq.al;rfl;rfl;intro b)|(apply Open.cons;intro b)|refine bsC ?_)
    revert b
    intro vb
    refine J.loop (fun p:Nat × Option Addr × Nat=>p.1≤ys.length)
      (fun p=>[(4,is (.pointer (some ⟨rb,0,none⟩))),(5,sl docT.toTy (ys.map fun x=>x.1.d)),(7,is (.pointer (some ⟨vb,0,none⟩))),(8,is (.int .i64 (p.1:Int)))])
      (fun p=>own vb 45 [is (.int .i64 (m.sure).clock),is (.slice p.2.1 (VS.take p.1).length p.2.2)]::own rb 45 [is (.int .i64 0),is (.slice none 0 0)]::row (.slice p.2.1 (VS.take p.1).length p.2.2) 70 seenT.toTy (VS.take p.1)::D)
      (fun p=>ys.length - p.1) (0,none,0) (Nat.zero_le _) ⟨(by repeat' (first|exact trivial|refine ⟨rfl,?_⟩)),[],by rw [List.append_nil];exact permP [[_],[_],[_],_] [0,1,2,3] [0,2,1,3] (by decide)⟩ ?_
    rintro ⟨i,A3,c3⟩ hi
    dsimp only at hi ⊢
    have hml:(ys.map fun x=>x.1.d).length=ys.length:=List.length_map ..
    by_cases hlt:i < ys.length
    · obtain ⟨d,hd⟩ : ∃ d,(ys.map fun x=>x.1.d)[i]?=some d:=⟨_,List.getElem?_eq_getElem (by rw [hml];exact hlt)⟩
      have hVx:VS.take i++[d.seen]=VS.take (i+1):=by rw [hVS];exact map_take_snoc DocV.seen hd
      have hVi:(VS.take i).length=i:=by rw [List.length_take];omega
      repeat (first|((first|(apply Lq.s;rfl)|apply PRun.s|(apply Lq.run;rfl;rfl;rfl;exact bsB)|(apply PRun.run;rfl;rfl;exact bsB));first|(apply op_len (xs:=ys.map fun x=>x.1.d);rfl)|(exact bsO))|refine bsA ?_|(apply Lq.al;rfl;rfl;intro b)|(apply Open.cons;intro b)|refine bsC ?_)
      refine J.drawW1 (Δ:=own vb 45 _::own rb 45 _::D) 9 [(none,none),(none,none),(none,none),(none,none),(none,none),(none,none),(none,none),(none,none),(some 7,some 44)] 7 (itemK (row (.slice A3 (VS.take i).length c3) 70 seenT.toTy (VS.take i))) rfl (permP [[_],[_],[_],_] [0,1,2,3] [2,0,1,3] (by decide)) mixed (by kernel_rfl) ?_
      repeat (first|((first|apply PRunW.s|(apply PRunW.run;rfl;rfl;exact bsB)|(apply Lq.s;rfl)|apply PRun.s|(apply Lq.run;rfl;rfl;rfl;exact bsB)|(apply PRun.run;rfl;rfl;exact bsB));first|(apply op_ocell;rfl;exact bsM;rfl)|(apply op_slen;rfl)|(apply op_iaddr docT.toTy (x:=d);rfl;rfl;exact Int.natCast_nonneg _;(rw [Int.toNat_natCast];exact hd))|(apply op_faddr doc_seen;rfl;decide)|(apply op_load seenT;rfl)|(apply op_bslice seenT (xs:=[d.seen]);(repeat (first|exact PO.nil _|(apply PO.cons;rfl)));rfl;rfl;rfl)|(exact bsO))|refine bsA ?_|(apply Lq.al;rfl;rfl;intro b)|(apply Open.cons;intro b)|refine bsC ?_|apply PRunW.nil|(apply PRunW.al;rfl)|(apply PRunW.pass;rfl;rfl)|(apply PRunW.skip;rfl;rfl;exact bsB)|(apply Open.pv;intro b)|apply Open.av|(apply Open.rv;intro A c))
      (apply PRunW.apK (T:=seenT) (xs:=VS.take i) (ys:=[d.seen]);rfl;rfl;rfl;exact (fun H w k=>⟨k,rfl⟩);(apply From.sl;rfl);rfl;rfl;(show _+1≤maxLen;unfold maxLen;omega);(show (_+1)*72≤_;omega))
      refine PRunW.nil (Open.rv fun A5 c5=>Open.nil ?_)
      rw [hVx]
      repeat (first|((first|(apply Lq.s;rfl)|apply PRun.s|(apply Lq.run;rfl;rfl;rfl;exact bsB)|(apply PRun.run;rfl;rfl;exact bsB));first|(apply op_add (c:=((i+1:Nat):Int));rfl;rfl;(rw [show (i:Int)+1=((i+1:Nat):Int) by omega];apply wrapi <;> omega))|(exact bsO))|refine bsA ?_|(apply Lq.al;rfl;rfl;intro b)|(apply Open.cons;intro b)|refine bsC ?_)
      exact E.again (i+1,A5,c5) (by dsimp only;omega) (by dsimp only;omega) ⟨(by repeat' (first|exact trivial|refine ⟨rfl,?_⟩)),[],by
        dsimp only
        rw [List.append_nil]
        exact permP [[_],[_],[_],_] [0,1,2,3] [0,2,1,3] (by decide)⟩
    · obtain rfl:i=ys.length:=by omega
      have hVt:VS.take ys.length=VS:=List.take_of_length_le (by omega)
      rw [hVt]
      have hv2:(m.sure).v=⟨(m.sure).clock,VS⟩:=by rw [hv];rfl
      rw [hv2]
      repeat (first|((first|(apply Lq.s;rfl)|apply PRun.s|(apply Lq.run;rfl;rfl;rfl;exact bsB)|(apply PRun.run;rfl;rfl;exact bsB));first|(apply op_len (xs:=ys.map fun x=>x.1.d);rfl)|(exact bsO))|refine bsA ?_|(apply Lq.al;rfl;rfl;intro b)|(apply Open.cons;intro b)|refine bsC ?_)
      refine Lq.s rfl (op_oload (consT (is (.int .i64 (m.sure).clock)) [is (.slice A3 VS.length c3)]) (x:=()) rfl (by exact bsM) rfl) ?_
      refine Lq.frzA (v := .slice A3 VS.length c3) (e := 70) (T:=seenT.toTy) (xs:=VS) 46 1 rfl rfl (permP [[_],[_],[_],_] [0,1,2,3] [2,0,1,3] (by decide)) ?_
      repeat (first|((first|(apply Lq.s;rfl)|apply PRun.s|(apply Lq.run;rfl;rfl;rfl;exact bsB)|(apply PRun.run;rfl;rfl;exact bsB));first|(exact bsO))|refine bsA ?_|(apply Lq.al;rfl;rfl;intro b)|(apply Open.cons;intro b)|refine bsC ?_)
      (refine J.ret ?_;(repeat (first|refine E.then_ret ?_|refine E.in_ret ?_)))
      exact E.retRc viewT (x:=⟨(m.sure).clock,VS⟩) (Δ':=D) (G:=[_,_]) rfl rfl (by exact bsM) rfl ⟨rfl,hfs⟩ (by first|exact List.perm_append_comm (l₁:=[_,_])|exact (List.Perm.swap _ _ _).trans (List.perm_append_comm (l₁:=[_,_])))
  | false =>
    rw [if_neg (by decide)]
    obtain ⟨hl2,hg2⟩:=fitsD_g (clock:=m.cur.clock) hf.2 (hk2 rfl)
    repeat (first|((first|(apply Lq.s;rfl)|apply PRun.s|(apply Lq.run;rfl;rfl;rfl;exact bsB)|(apply PRun.run;rfl;rfl;exact bsB));first|(apply op_ocell;rfl;exact bsM;rfl)|(apply op_slen;rfl)|(exact bsO))|refine bsA ?_|(apply Lq.al;rfl;rfl;intro b)|(apply Open.cons;intro b)|(apply J.drawN;exact mixed;kernel_rfl)|refine bsC ?_)
    revert b
    intro rb
    refine Lq.callS (Δ0:=dst A2 c2 xs2) (Δf:=own rb 45 _::own W 91 _::dst A1 c1 xs1) (dcopies_fnR A2 c2 xs2 hl2 hg2) rfl bsD (permP [[_],[_],dst A2 c2 xs2,dst A1 c1 xs1] [0,1,2,3] [2,0,1,3] (by decide)) ?_
    rintro _ _ ⟨A',c',ys,hys,rfl,rfl⟩
    obtain ⟨VS,hVS⟩ : ∃ l,l=(ys.map fun x=>x.1.d).map DocV.seen:=⟨_,rfl⟩
    have hVl:VS.length=ys.length:=by rw [hVS,List.length_map,List.length_map]
    have hyl:ys.length=xs2.length:=by have:=congrArg List.length hys;rwa [List.length_map,List.length_map] at this
    have hv:VS=(m.cur).v.streams:=by
      rw [hVS]
      show _=(m.cur).streams.map MStr.v
      rw [← hf.2, ← hys,List.map_map,List.map_map]
      rfl
    refine Lq.frzD 27 rfl rfl (by rw [List.append_assoc]) ?_
    refine Lq.perm (Δ':=own rb 45 _::own W 91 _::(dst A2 c2 xs2++dst A1 c1 xs1)) (permP [dst A2 c2 xs2,[_],[_],dst A1 c1 xs1] [0,1,2,3] [1,2,0,3] (by decide)) ?_
    obtain ⟨D,hD⟩ : ∃ D,D=own W 91 [is (.bool m.fmt),is (.bool m.mnt),is (.slice A1 xs1.length c1),is (.slice A2 xs2.length c2),is (.int .i64 m.sure.clock),is (.int .i64 m.cur.clock),is (.int .i64 (m.todo:Int))]::(dst A2 c2 xs2++dst A1 c1 xs1):=⟨_,rfl⟩
    rw [← hD] at hfs ⊢
    refine Lq.nilrow 70 seenT.toTy ?_
    repeat (first|((first|(apply Lq.s;rfl)|apply PRun.s|(apply Lq.run;rfl;rfl;rfl;exact bsB)|(apply PRun.run;rfl;rfl;exact bsB));first|(apply op_ocell;rfl;exact bsM;rfl)|(apply op_slen;rfl)|(exact bsO))|refine bsA ?_|(apply Lq.al;rfl;rfl;intro b)|(apply Open.cons;intro b)|refine bsC ?_)
    revert b
    intro vb
    refine J.loop (fun p:Nat × Option Addr × Nat=>p.1≤ys.length)
      (fun p=>[(4,is (.pointer (some ⟨rb,0,none⟩))),(5,sl docT.toTy (ys.map fun x=>x.1.d)),(7,is (.pointer (some ⟨vb,0,none⟩))),(8,is (.int .i64 (p.1:Int)))])
      (fun p=>own vb 45 [is (.int .i64 (m.cur).clock),is (.slice p.2.1 (VS.take p.1).length p.2.2)]::own rb 45 [is (.int .i64 0),is (.slice none 0 0)]::row (.slice p.2.1 (VS.take p.1).length p.2.2) 70 seenT.toTy (VS.take p.1)::D)
      (fun p=>ys.length - p.1) (0,none,0) (Nat.zero_le _) ⟨(by repeat' (first|exact trivial|refine ⟨rfl,?_⟩)),[],by rw [List.append_nil];exact permP [[_],[_],[_],_] [0,1,2,3] [0,2,1,3] (by decide)⟩ ?_
    rintro ⟨i,A3,c3⟩ hi
    dsimp only at hi ⊢
    have hml:(ys.map fun x=>x.1.d).length=ys.length:=List.length_map ..
    by_cases hlt:i < ys.length
    · obtain ⟨d,hd⟩ : ∃ d,(ys.map fun x=>x.1.d)[i]?=some d:=⟨_,List.getElem?_eq_getElem (by rw [hml];exact hlt)⟩
      have hVx:VS.take i++[d.seen]=VS.take (i+1):=by rw [hVS];exact map_take_snoc DocV.seen hd
      have hVi:(VS.take i).length=i:=by rw [List.length_take];omega
      repeat (first|((first|(apply Lq.s;rfl)|apply PRun.s|(apply Lq.run;rfl;rfl;rfl;exact bsB)|(apply PRun.run;rfl;rfl;exact bsB));first|(apply op_len (xs:=ys.map fun x=>x.1.d);rfl)|(exact bsO))|refine bsA ?_|(apply Lq.al;rfl;rfl;intro b)|(apply Open.cons;intro b)|refine bsC ?_)
      refine J.drawW1 (Δ:=own vb 45 _::own rb 45 _::D) 9 [(none,none),(none,none),(none,none),(none,none),(none,none),(none,none),(none,none),(none,none),(some 7,some 44)] 7 (itemK (row (.slice A3 (VS.take i).length c3) 70 seenT.toTy (VS.take i))) rfl (permP [[_],[_],[_],_] [0,1,2,3] [2,0,1,3] (by decide)) mixed (by kernel_rfl) ?_
      repeat (first|((first|apply PRunW.s|(apply PRunW.run;rfl;rfl;exact bsB)|(apply Lq.s;rfl)|apply PRun.s|(apply Lq.run;rfl;rfl;rfl;exact bsB)|(apply PRun.run;rfl;rfl;exact bsB));first|(apply op_ocell;rfl;exact bsM;rfl)|(apply op_slen;rfl)|(apply op_iaddr docT.toTy (x:=d);rfl;rfl;exact Int.natCast_nonneg _;(rw [Int.toNat_natCast];exact hd))|(apply op_faddr doc_seen;rfl;decide)|(apply op_load seenT;rfl)|(apply op_bslice seenT (xs:=[d.seen]);(repeat (first|exact PO.nil _|(apply PO.cons;rfl)));rfl;rfl;rfl)|(exact bsO))|refine bsA ?_|(apply Lq.al;rfl;rfl;intro b)|(apply Open.cons;intro b)|refine bsC ?_|apply PRunW.nil|(apply PRunW.al;rfl)|(apply PRunW.pass;rfl;rfl)|(apply PRunW.skip;rfl;rfl;exact bsB)|(apply Open.pv;intro b)|apply Open.av|(apply Open.rv;intro A c))
      (apply PRunW.apK (T:=seenT) (xs:=VS.take i) (ys:=[d.seen]);rfl;rfl;rfl;exact (fun H w k=>⟨k,rfl⟩);(apply From.sl;rfl);rfl;rfl;(show _+1≤maxLen;unfold maxLen;omega);(show (_+1)*72≤_;omega))
      refine PRunW.nil (Open.rv fun A5 c5=>Open.nil ?_)
      rw [hVx]
      repeat (first|((first|(apply Lq.s;rfl)|apply PRun.s|(apply Lq.run;rfl;rfl;rfl;exact bsB)|(apply PRun.run;rfl;rfl;exact bsB));first|(apply op_add (c:=((i+1:Nat):Int));rfl;rfl;(rw [show (i:Int)+1=((i+1:Nat):Int) by omega];apply wrapi <;> omega))|(exact bsO))|refine bsA ?_|(apply Lq.al;rfl;rfl;intro b)|(apply Open.cons;intro b)|refine bsC ?_)
      exact E.again (i+1,A5,c5) (by dsimp only;omega) (by dsimp only;omega) ⟨(by repeat' (first|exact trivial|refine ⟨rfl,?_⟩)),[],by
        dsimp only
        rw [List.append_nil]
        exact permP [[_],[_],[_],_] [0,1,2,3] [0,2,1,3] (by decide)⟩
    · obtain rfl:i=ys.length:=by omega
      have hVt:VS.take ys.length=VS:=List.take_of_length_le (by omega)
      rw [hVt]
      have hv2:(m.cur).v=⟨(m.cur).clock,VS⟩:=by rw [hv];rfl
      rw [hv2]
      repeat (first|((first|(apply Lq.s;rfl)|apply PRun.s|(apply Lq.run;rfl;rfl;rfl;exact bsB)|(apply PRun.run;rfl;rfl;exact bsB));first|(apply op_len (xs:=ys.map fun x=>x.1.d);rfl)|(exact bsO))|refine bsA ?_|(apply Lq.al;rfl;rfl;intro b)|(apply Open.cons;intro b)|refine bsC ?_)
      refine Lq.s rfl (op_oload (consT (is (.int .i64 (m.cur).clock)) [is (.slice A3 VS.length c3)]) (x:=()) rfl (by exact bsM) rfl) ?_
      refine Lq.frzA (v := .slice A3 VS.length c3) (e := 70) (T:=seenT.toTy) (xs:=VS) 46 1 rfl rfl (permP [[_],[_],[_],_] [0,1,2,3] [2,0,1,3] (by decide)) ?_
      repeat (first|((first|(apply Lq.s;rfl)|apply PRun.s|(apply Lq.run;rfl;rfl;rfl;exact bsB)|(apply PRun.run;rfl;rfl;exact bsB));first|(exact bsO))|refine bsA ?_|(apply Lq.al;rfl;rfl;intro b)|(apply Open.cons;intro b)|refine bsC ?_)
      (refine J.ret ?_;(repeat (first|refine E.then_ret ?_|refine E.in_ret ?_)))
      exact E.retRc viewT (x:=⟨(m.cur).clock,VS⟩) (Δ':=D) (G:=[_,_]) rfl rfl (by exact bsM) rfl ⟨rfl,hfs⟩ (by first|exact List.perm_append_comm (l₁:=[_,_])|exact (List.Perm.swap _ _ _).trans (List.perm_append_comm (l₁:=[_,_])))
end Go.Proofs.YtljbbajelkkafaaDoor.L
