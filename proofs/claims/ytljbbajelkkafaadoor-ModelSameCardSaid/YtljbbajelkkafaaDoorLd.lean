/-
  Rules of the logic: contracts of functions,calls,elements,literals.
-/
import Derived.Test.YtljbbajelkkafaaDoorLc
set_option linter.unusedVariables false
set_option linter.unusedSimpArgs false
namespace Go.Proofs.YtljbbajelkkafaaDoor.L
open Go
set_option linter.unusedSectionVars false
variable [Globs]

structure Enters (P:Program) (f:Nat):Prop where
  h : ∀ args w,(callFunc f args).run P w = .ok (.enter f args) w
theorem enters_of {P : Program} {f : Nat} {fn : Func} (hf : P.funcs[f]? = some fn) (hn : (fn.name == "runtime.NumGoroutine") = false) (hb : fn.body.isNone = false) : Enters P f :=
  ⟨fun args w=>by
    unfold callFunc
    refine (run_bind program _ w (show _=Result.ok P w from rfl)).trans ?_
    simp only [hf,hn,hb]
    rfl⟩
def RetP (H0:IH) (w0:World) (ψ:Pr) (e:Ending) (w':World):Prop := ∃ v H',e = .returned v∧Ext H0 w0 H' w'∧ψ.h H' v
/-- A function that only makes memory. -/
structure Fn (P:Program) (f:Nat) (φs:List Pr) (ψ:Pr):Prop where
  ent:Enters P f
  run : ∀ H w vs,Sat H w→All2 (fun φ v=>φ.h H v) φs vs→Calls P f vs.toArray w (RetP H w ψ)

theorem Fn.to {P:Program} {f:Nat} {φs:List Pr} {ψ ψ':Pr} (F:Fn P f φs ψ) (h:ψ=ψ'):Fn P f φs ψ':=h ▸ F
def argE:Nat→List Pr→Env
  | _,[]=>[]
  | k,φ::r=>(k,φ)::argE (k+1) r
theorem look_argE {H:IH} : ∀ (φs:List Pr) (vs:List Value) (k t:Nat) (ψ:Pr),All2 (fun φ v=>φ.h H v) φs vs→look (argE k φs) t=some ψ → ∃ v,k≤t∧vs[t - k]?=some v∧ψ.h H v
  | [],_,k,t,ψ,_,h=>by cases h
  | φ::r,v::vs,k,t,ψ,⟨h1,h2⟩,h=>by
    unfold argE look at h
    split at h
    · rename_i hk
      have hk:=Nat.eq_of_beq_eq_true hk
      subst hk
      injection h with h;subst h
      exact ⟨v,Nat.le_refl _,by simp,h1⟩
    · obtain ⟨u,hle,hu,hψ⟩:=look_argE r vs (k+1) t ψ h2 h
      exact ⟨u,by omega,by rw [show t - k=(t - (k+1))+1 by omega];simpa using hu,hψ⟩
theorem Fn.mk' {P : Program} {f : Nat} {fn : Func} {c : Code} {φs : List Pr} {ψ : Pr} (n : Nat) (hf : P.funcs[f]? = some fn) (hb : fn.body = some c) (hn : (fn.name == "runtime.NumGoroutine") = false) (hk : fn.ntmps = n) (hle : Nat.ble φs.length n = true)
    (h : ∀ w0 H0,J ⟨P,n,w0,H0,[],none,[]⟩ (argE 0 φs) [] c (bodyPost P fn (RetP H0 w0 ψ))):Fn P f φs ψ where
  ent:=enters_of hf hn (by rw [hb];rfl)
  run:=fun H w vs hs hvs=>by
    have hlen:=hvs.length
    have hle:=Nat.le_of_ble_eq_true hle
    refine callsIn_wide.1 (callsIn_of_wp (F:=Fence.wide) (n:=0) hf hb trivial (h w H H _ w ?_))
    subst hk
    refine ⟨rfl,by simp;omega,fun t ψ ht=>?_,hs,fun r hr=>(by cases hr),by simp,fun b hb=>(by simp at hb),IH.le_refl _,Fr.refl _ _,fun _ _ _ _=>rfl⟩
    obtain ⟨v,_,hv,hψ⟩:=look_argE φs vs 0 t ψ hvs ht
    have hlt:=(List.getElem?_eq_some_iff.1 hv).1
    refine ⟨v,?_,hψ⟩
    simp only [Nat.sub_zero] at hv hlt
    rw [Array.getElem?_append_left (by simpa using hlt)]
    simpa using hv

section
variable {P:Program} {n:Nat} {w0:World} {H0:IH} {Γ:Env} {Δ:List Res} {fn:Func} {ψ:Pr}
theorem St.ext {H:IH} {a:Act} {w:World} (S:St ⟨P,n,w0,H0,[],none,[]⟩ Γ Δ H a w):Ext H0 w0 H w :=
  ⟨S.le,fun b o hb=>S.hk b o hb (by simp),S.sat,S.fr⟩
theorem E.ret0 (hr:fn.results = #[]) (h : ∀ H,ψ.h H (.tuple #[])):E ⟨P,n,w0,H0,[],none,[]⟩ .ret Γ Δ (bodyPost P fn (RetP H0 w0 ψ)):=fun H a w S =>
  ⟨S.dfr,_,results_none hr a.tmps P w,_,H,rfl,S.ext,h H⟩
theorem E.end0 (hr:fn.results = #[]) (h : ∀ H,ψ.h H (.tuple #[])):E ⟨P,n,w0,H0,[],none,[]⟩ .normal Γ Δ (bodyPost P fn (RetP H0 w0 ψ)):=fun H a w S =>
  ⟨S.dfr,_,results_none hr a.tmps P w,_,H,rfl,S.ext,h H⟩
theorem getD_of {a:Array Value} {t:Nat} {v:Value} (h:a[t]?=some v):a.getD t undef=v:=by simp [h]
theorem E.ret1 {r:Nat} (hr:fn.results = #[.tmp r]) (h:look Γ r=some ψ):E ⟨P,n,w0,H0,[],none,[]⟩ .ret Γ Δ (bodyPost P fn (RetP H0 w0 ψ)):=fun H a w S=>by
  obtain ⟨v,hv,hψ⟩:=S.env r ψ h
  refine ⟨S.dfr,v,?_,v,H,rfl,S.ext,hψ⟩
  rw [results_tmp hr a.tmps P w,getD_of hv]
theorem E.ret2 {r s:Nat} {φ χ:Pr} (hr:fn.results = #[.tmp r, .tmp s]) (h:look Γ r=some φ) (h2:look Γ s=some χ):E ⟨P,n,w0,H0,[],none,[]⟩ .ret Γ Δ (bodyPost P fn (RetP H0 w0 (tup [φ,χ]))):=fun H a w S=>by
  obtain ⟨v,hv,hφ⟩:=S.env r φ h
  obtain ⟨u,hu,hχ⟩:=S.env s χ h2
  refine ⟨S.dfr, .tuple #[v,u],?_,_,H,rfl,S.ext,[v,u],rfl,hφ,hχ,trivial⟩
  rw [results_tmp2 hr a.tmps P w,getD_of hv,getD_of hu]
theorem results_tmp3 {fn:Func} {t u s:Tmp} (h:fn.results = #[.tmp t, .tmp u, .tmp s]) (tmps:Array Value) (P:Program) (w:World) :
    (results fn tmps).run P w = .ok (.tuple #[tmps.getD t undef,tmps.getD u undef,tmps.getD s undef]) w:=by
  simp [results,h]
theorem E.ret3 {r s t:Nat} {φ χ ξ:Pr} (hr:fn.results = #[.tmp r, .tmp s, .tmp t]) (h:look Γ r=some φ) (h2:look Γ s=some χ) (h3:look Γ t=some ξ):E ⟨P,n,w0,H0,[],none,[]⟩ .ret Γ Δ (bodyPost P fn (RetP H0 w0 (tup [φ,χ,ξ]))):=fun H a w S=>by
  obtain ⟨v,hv,hφ⟩:=S.env r φ h
  obtain ⟨u,hu,hχ⟩:=S.env s χ h2
  obtain ⟨x,hx,hξ⟩:=S.env t ξ h3
  refine ⟨S.dfr, .tuple #[v,u,x],?_,_,H,rfl,S.ext,[v,u,x],rfl,hφ,hχ,hξ,trivial⟩
  rw [results_tmp3 hr a.tmps P w,getD_of hv,getD_of hu,getD_of hx]
end

section
variable {P:Program} {Γ:Env} {Δ:List Res}
def opds (Γ:Env):List Operand→List Pr→Prop
  | [],[]=>True
  | x::xs,φ::φs=>opd Γ x=some φ∧opds Γ xs φs
  | _,_=>False
theorem opds.all {H:IH} {ρ:Operand→Value} : ∀ {xs:List Operand} {φs:List Pr},opds Γ xs φs→(∀ x ∈ xs, ∀ ψ,opd Γ x=some ψ→ψ.h H (ρ x))→All2 (fun φ v=>φ.h H v) φs (xs.map ρ)
  | [],[],_,_=>trivial
  | x::xs,φ::φs,⟨h1,h2⟩,h=>⟨h x (by simp) φ h1,opds.all h2 fun y hy ψ hψ=>h y (by simp [hy]) ψ hψ⟩
  | [],_::_,h,_=>h.elim
  | _::_,[],h,_=>h.elim
section
variable {d:Option Nat} {ty:Nat} {pos:String} {af:Array Edge} {g:Option (Nat × Bool)}
theorem op_call {f:Nat} {φs:List Pr} {ψ:Pr} (F:Fn P f φs ψ) {xs:List Operand} {ats:Array Nat} (h:opds Γ xs φs):OpP P Γ Δ ⟨d, .call ⟨.value (.func f),xs.toArray,ats⟩,ty,pos,af,g⟩ ψ:=by
  intro H a w Q K hx hs hr hb hK
  have hargs:=opds.all (ρ:=a.eval) h (fun x hxx ψ hψ=>hx x (by simp [Op.operands,Call.operands,hxx]) ψ hψ)
  have hrun:(execOp a.eval ⟨d, .call ⟨.value (.func f),xs.toArray,ats⟩,ty,pos,af,g⟩).run P w = .ok (.enter f (xs.map a.eval).toArray) w:=by
    have h1:(callFunc f ((#[]++xs.toArray.map a.eval) ++ #[])).run P w = .ok (.enter f (xs.map a.eval).toArray) w:=by
      rw [Array.empty_append,Array.append_empty,List.map_toArray]
      exact F.ent.h _ w
    exact h1
  unfold Oper.wp
  rw [hrun]
  rw [Oper.upon_enter]
  refine (F.run H w _ hs hargs).mono fun e w' hR=>?_
  obtain ⟨v,H',rfl,E,hv⟩:=hR
  exact hK v H' w' E hv
/-- A call through a function value that is known. -/
theorem op_callv {f:Nat} {first captured:List Value} {φs:List Pr} {ψ:Pr} (F:Fn P f φs ψ) {xs:List Operand} {ats:Array Nat} {y:Operand} (hy:opd Γ y=some (is (.func (.func f) first.toArray captured.toArray)))
    {ξs:List Pr} (h:opds Γ xs ξs) (hφ : ∀ H vs,All2 (fun φ v=>φ.h H v) ξs vs→All2 (fun φ v=>φ.h H v) φs (first++vs++captured)):OpP P Γ Δ ⟨d, .call ⟨.value y,xs.toArray,ats⟩,ty,pos,af,g⟩ ψ:=by
  intro H a w Q K hx hs hr hb hK
  have hargs:=opds.all (ρ:=a.eval) h (fun x hxx ψ hψ=>hx x (by simp [Op.operands,Call.operands,hxx]) ψ hψ)
  have hv:a.eval y = .func (.func f) first.toArray captured.toArray:=hx y (by simp [Op.operands,Call.operands]) _ hy
  have hrun:(execOp a.eval ⟨d, .call ⟨.value y,xs.toArray,ats⟩,ty,pos,af,g⟩).run P w = .ok (.enter f (first++xs.map a.eval++captured).toArray) w:=by
    have h1:(callFunc f ((first.toArray++xs.toArray.map a.eval)++captured.toArray)).run P w = .ok (.enter f (first++xs.map a.eval++captured).toArray) w:=by
      rw [List.map_toArray,List.append_toArray,List.append_toArray]
      exact F.ent.h _ w
    have h2:(execOp a.eval ⟨d, .call ⟨.value y,xs.toArray,ats⟩,ty,pos,af,g⟩).run P w=((do let dd ← Deferred.ofValue (a.eval y) (xs.toArray.map a.eval);invoke dd.target dd.args:Sem Next)).run P w:=rfl
    rw [h2,hv]
    exact h1
  unfold Oper.wp
  rw [hrun]
  rw [Oper.upon_enter]
  refine (F.run H w _ hs (hφ H _ hargs)).mono fun e w' hR=>?_
  obtain ⟨v,H',rfl,E,hv⟩:=hR
  exact hK v H' w' E hv
theorem op_extract {ps:List Pr} {φ:Pr} {i:Nat} {y:Operand} (h:opd Γ y=some (tup ps)) (hi:ps[i]?=some φ):OpP P Γ Δ ⟨d, .extract y i,ty,pos,af,g⟩ φ :=
  OpP.same fun H a w hx hs=>by
    obtain ⟨cs,hv,hcs⟩:=hx y (by simp [Op.operands]) _ h
    obtain ⟨v,hvi,hφ⟩:=hcs.get i φ hi
    refine ⟨v,?_,hφ⟩
    simp only [execOp,hv]
    refine run_value ?_
    simp only [Instr.extract,List.getElem?_toArray,hvi]
    rfl
theorem flat_get {α:Type} (T:Ty α) : ∀ (xs:List α) (k j:Nat) (x:α),xs[k]?=some x→j < T.sz→(flat T xs)[k*T.sz+j]?=(T.cells x)[j]?
  | [],k,j,x,h,_=>by simp at h
  | y::xs,0,j,x,h,hj=>by
    simp at h;subst h
    show (T.cells y++flat T xs)[0*T.sz+j]?=_
    rw [List.getElem?_append_left (by rw [T.len];omega)];simp
  | y::xs,k+1,j,x,h,hj=>by
    show (T.cells y++flat T xs)[(k+1)*T.sz+j]?=_
    rw [List.getElem?_append_right (by rw [T.len,Nat.succ_mul];omega),T.len,show (k+1)*T.sz+j - T.sz=k*T.sz+j by rw [Nat.succ_mul];omega]
    exact flat_get T xs k j x (by simpa using h) hj
theorem flat_len {α:Type} (T:Ty α) : ∀ (xs:List α),(flat T xs).length=xs.length*T.sz
  | []=>by simp [flat]
  | y::xs=>by
    show (T.cells y++flat T xs).length=_
    rw [List.length_append,flat_len T xs,T.len,List.length_cons,Nat.succ_mul];omega
theorem op_iaddr {α:Type} (T:Ty α) {xs:List α} {x:α} {i:Int} {k:IntKind} {t e:Nat} {y z:Operand} (h:opd Γ y=some (sl T xs)) (hz:opd Γ z=some (is (.int k i))) [ht:TSl P t e] [TSz P e T.sz] (h0:0≤i) (hx:xs[i.toNat]?=some x):OpP P Γ Δ ⟨d, .indexAddr t y z,ty,pos,af,g⟩ (ptr (T.cells x)) :=
  OpP.same fun H a w hxx hs=>by
    obtain ⟨ad,cap,hv,_,_,_,hel⟩:=hxx y (by simp [Op.operands]) _ h
    have hi:a.eval z = .int k i:=hxx z (by simp [Op.operands]) _ hz
    have hlt:=(List.getElem?_eq_some_iff.1 hx).1
    obtain ⟨b,o,rfl,hc⟩:=hel (by omega)
    refine ⟨.pointer (some ⟨b,o+i.toNat*T.sz,none⟩),?_,b,_,rfl,fun j φ hj=>?_⟩
    · simp only [execOp,hv,hi]
      refine run_value ?_
      simp only [Instr.indexAt,asIntOf,Sem.run_bind,Sem.run_pure,Result.andThen_ok,run_underlying' ht.h]
      rw [if_pos (by omega)]
      simp only [Sem.run_bind,run_sizeOf (t:=e) (n:=T.sz),Result.andThen_ok,add_at]
      rfl
    · have hj':j < T.sz:=by rw [← T.len x];exact (List.getElem?_eq_some_iff.1 hj).1
      obtain ⟨c,hc,hφ⟩:=hc (i.toNat*T.sz+j) φ (by rw [flat_get T xs _ j x hx hj'];exact hj)
      exact ⟨c,by rw [Nat.add_assoc];exact hc,hφ⟩

/-- Parts of a literal, in their order. -/
def partsOK {α:Type} (Γ:Env) (T:Td α):Nat→List (Nat × Operand)→List α→Prop
  | _,[],[]=>True
  | k,(i,o)::r,x::xs=>i=k∧opd Γ o=some (T.val x)∧partsOK Γ T (k+1) r xs
  | _,_,_=>False
theorem partsOK.len {α:Type} {T:Td α} : ∀ {k:Nat} {ps:List (Nat × Operand)} {xs:List α},partsOK Γ T k ps xs→ps.length=xs.length
  | _,[],[],_=>rfl
  | k,(i,o)::r,x::xs,⟨_,_,h⟩=>by simp [h.len]
  | _,[],_::_,h=>h.elim
  | _,_::_,[],h=>h.elim
theorem seg_set : ∀ (vs old pre post:List Value) (off k:Nat),old.length=vs.length→pre.length=off+k →
    (vs.zipIdx k).foldl (fun (cs:Array Value) (p:Value × Nat)=>cs.setIfInBounds (off+p.2) p.1) (pre++old++post).toArray=(pre++vs++post).toArray
  | [],[],pre,post,off,k,_,_=>by simp
  | v::vs,u::old,pre,post,off,k,hl,hp=>by
    simp only [List.zipIdx_cons,List.foldl_cons]
    have h1:(pre++u::old++post).toArray.setIfInBounds (off+k) v=(pre++[v]++old++post).toArray:=by
      rw [List.setIfInBounds_toArray, ← hp]
      congr 1
      simp
    rw [h1]
    have:=seg_set vs old (pre++[v]) post off (k+1) (by simpa using hl) (by simp;omega)
    rw [this]
    simp
  | [],_::_,_,_,_,_,hl,_=>by simp at hl
  | _::_,[],_,_,_,_,hl,_=>by simp at hl
theorem fill_seq (size:Nat) (ρ:Operand→Value) : ∀ (ps:List (Nat × Operand)) (k:Nat) (pre rest:List Value),(∀ j p,ps[j]?=some p→p.1=k+j)→(∀ p ∈ ps,(ρ p.2).cells.size=size)→pre.length=k*size→rest.length=ps.length*size →
    Instr.fill (fun i=>some (i*size,size)) (pre++rest).toArray (ps.map fun p=>(p.1,ρ p.2))=some (pre++(ps.map fun p=>(ρ p.2).cells.toList).flatten).toArray
  | [],k,pre,rest,_,_,_,hr=>by
    have:rest=[]:=List.eq_nil_of_length_eq_zero (by simpa using hr)
    subst this
    simp [Instr.fill]
  | (i,o)::ps,k,pre,rest,hi,hs,hp,hr=>by
    have h0:=hi 0 (i,o) rfl
    simp only [Nat.add_zero] at h0
    subst h0
    have hso:(ρ o).cells.size=size:=hs (i,o) (by simp)
    have hrl:rest.length=size+ps.length*size:=by rw [hr,List.length_cons,Nat.succ_mul];omega
    simp only [List.map_cons,Instr.fill]
    rw [if_neg (by simp only [List.size_toArray,List.length_append,hso,hp,ne_eq,not_true_eq_false,Bool.or_eq_true,decide_eq_true_eq,false_or];omega)]
    have hz:(ρ o).cells.zipIdx.foldl (fun (cs:Array Value) (p:Value × Nat)=>cs.setIfInBounds (i*size+p.2) p.1) (pre++rest).toArray=(pre++(ρ o).cells.toList++rest.drop size).toArray:=by
      rw [← Array.foldl_toList,Array.toList_zipIdx]
      have:=seg_set (ρ o).cells.toList (rest.take size) pre (rest.drop size) (i*size) 0 (by simp;omega) (by omega)
      rw [List.append_assoc,List.take_append_drop] at this
      exact this
    have hz':((ρ o).cells.zipIdx.foldl (fun cs (c,j)=>cs.setIfInBounds (i*size+j) c) (pre++rest).toArray)=(pre++(ρ o).cells.toList++rest.drop size).toArray:=hz
    rw [hz']
    rw [fill_seq size ρ ps (i+1) (pre++(ρ o).cells.toList) (rest.drop size) (fun j p hj=>by have:=hi (j+1) p (by simpa using hj);omega) (fun p hp=>hs p (by simp [hp])) (by simp [hp,hso,Nat.succ_mul]) (by simp;omega)]
    simp
theorem partsOK.idx {α:Type} {T:Td α} : ∀ {k:Nat} {ps:List (Nat × Operand)} {xs:List α},partsOK Γ T k ps xs → ∀ j p,ps[j]?=some p→p.1=k+j
  | _,[],[],_,j,p,h=>by simp at h
  | k,(i,o)::r,x::xs,⟨h1,_,h2⟩,0,p,h=>by simp at h;subst h;simpa using h1
  | k,(i,o)::r,x::xs,⟨h1,_,h2⟩,j+1,p,h=>by have:=h2.idx j p (by simpa using h);omega
  | _,[],_::_,h,_,_,_=>h.elim
  | _,_::_,[],h,_,_,_=>h.elim
theorem partsOK.vals {α:Type} {T:Td α} {H:IH} {ρ:Operand→Value} : ∀ {k:Nat} {ps:List (Nat × Operand)} {xs:List α},partsOK Γ T k ps xs→(∀ p ∈ ps, ∀ ψ,opd Γ p.2=some ψ→ψ.h H (ρ p.2)) →
    All2 (fun φ c=>φ.c H c) (flat T.toTy xs) (ps.map fun p=>(ρ p.2).cells.toList).flatten ∧ ∀ p ∈ ps,(ρ p.2).cells.size=T.sz
  | _,[],[],_,_=>⟨trivial,by simp⟩
  | k,(i,o)::r,x::xs,⟨h1,ho,h2⟩,h=>by
    obtain ⟨ih1,ih2⟩:=h2.vals (ρ:=ρ) (H:=H) fun p hp=>h p (by simp [hp])
    have hv:=h (i,o) (by simp) _ ho
    refine ⟨(T.out hv).append ih1,fun p hp=>?_⟩
    rcases List.mem_cons.1 hp with hp|hp
    · subst hp;exact T.size hv
    · exact ih2 p hp
  | _,[],_::_,h,_=>h.elim
  | _,_::_,[],h,_=>h.elim
theorem sl_new {α:Type} (T:Ty α) {H:IH} {w:World} (xs:List α) {cs:List Value} (h:All2 (fun φ c=>φ.c H c) (flat T xs) cs) (hle:IH.le H (H.add w.heap.size cs)) (hm:xs.length≤maxLen):(sl T xs).h (H.add w.heap.size cs) (.slice (some ⟨w.heap.size,0,none⟩) xs.length xs.length):=by
  refine ⟨_,_,rfl,Nat.le_refl _,hm,fun h=>(by cases h),fun _=>⟨_,0,rfl,fun i φ hi=>?_⟩⟩
  obtain ⟨c,hc,hφ⟩:=h.get i φ hi
  refine ⟨c,?_,Pr.c_mono hle hφ⟩
  show (if w.heap.size=w.heap.size then _ else _)=_
  rw [if_pos rfl,Nat.zero_add];exact hc
inductive PO {α:Type} (Γ:Env) (T:Td α):Nat→List (Nat × Operand)→List α→Prop
  | nil (k:Nat):PO Γ T k [] []
  | cons {k:Nat} {o:Operand} {x:α} {ps:List (Nat × Operand)} {xs:List α} (h:opd Γ o=some (T.val x)) (r:PO Γ T (k+1) ps xs):PO Γ T k ((k,o)::ps) (x::xs)
theorem PO.ok {α:Type} {T:Td α} {k:Nat} {ps:List (Nat × Operand)} {xs:List α} (h:PO Γ T k ps xs):partsOK Γ T k ps xs:=by
  induction h with
  | nil k=>trivial
  | cons h _ ih=>exact ⟨rfl,h,ih⟩
theorem op_bslice {α:Type} (T:Td α) {xs:List α} {t e len:Nat} {ps:List (Nat × Operand)} {z:Value} (hpo:PO Γ T 0 ps xs) (hl:len=xs.length) (hsm:Nat.ble (xs.length*T.sz) 16777216=true) [ht:TSl P t e] [TSz P e T.sz] [TZero P e z] (hz:z.cells.size=T.sz) :
    OpP P Γ Δ ⟨d, .buildSlice t len ps.toArray,ty,pos,af,g⟩ (sl T.toTy xs) :=
  OpP.val fun H a w hx hs _=>by
    have hsm:=Nat.le_of_ble_eq_true hsm
    have h:=hpo.ok
    obtain ⟨hcs,hsz⟩:=h.vals (ρ:=a.eval) (H:=H) fun p hp ψ hψ=>hx p.2 (by simp [Op.operands];exact ⟨p.1,hp⟩) ψ hψ
    have E:=ext_new hs (ps.map fun p=>(a.eval p.2).cells.toList).flatten e
    have hps:=h.len
    refine ⟨.slice (some ⟨w.heap.size,0,none⟩) xs.length xs.length,_,_,?_,E,sl_new T.toTy xs hcs E.le ?_⟩
    · simp only [execOp]
      refine run_value ?_
      unfold Instr.buildSlice
      refine (run_bind _ _ w (run_underlying' ht.h)).trans ?_
      refine (run_bind (sizeOf e) _ w (run_sizeOf (t:=e) (n:=T.sz))).trans ?_
      rw [if_neg (by rw [hl];omega)]
      subst hl
      have hfill : ∀ zc:List Value,zc.length=xs.length*T.sz→Instr.fill (fun i=>some (i*T.sz,T.sz)) zc.toArray (ps.toArray.map fun (p:Nat × Operand)=>match p with|(i,x)=>(i,a.eval x)).toList=some (ps.map fun (p:Nat × Operand)=>(a.eval p.2).cells.toList).flatten.toArray:=by
        intro zc hzc
        have:=fill_seq T.sz a.eval ps 0 [] zc h.idx hsz (by simp) (by rw [hzc,hps])
        simpa using this
      by_cases h0:xs.length*T.sz=0
      · rw [if_pos h0]
        simp only [Sem.run_bind,Sem.run_pure,Result.andThen_ok]
        generalize hF:Instr.fill _ _ _=F
        have hF2:=hF.symm.trans (hfill ((Array.range (xs.length*T.sz)).map (fun x=>(#[]:Array Value)[x % (#[]:Array Value).size]!)).toList (by simp))
        subst hF2
        rfl
      · rw [if_neg h0]
        simp only [Sem.run_bind,Sem.run_pure,Result.andThen_ok,run_zeroValue (t:=e) (v:=z)]
        generalize hF:Instr.fill _ _ _=F
        have hF2:=hF.symm.trans (hfill ((Array.range (xs.length*T.sz)).map (fun x=>z.cells[x % z.cells.size]!)).toList (by simp))
        subst hF2
        rfl
    · have:=T.pos
      have:xs.length≤xs.length*T.sz:=Nat.le_mul_of_pos_right _ this
      unfold maxLen;omega
end
end

/-! ### Steps -/
section
variable {C:Cx} {Γ:Env} {Δ:List Res} {ops:Array Oper} {rest:List Oper} {Q:Exit→Act→World→Prop} {op:Op} {ty:Nat} {pos:String} {af:Array Edge} {φ:Pr} {K:Env→Fresh→Prop} {F:Fresh}
theorem blt {d n:Nat} (h:Nat.blt d n=true):d < n:=Nat.blt_eq.mp h
theorem Lq.s {d:Nat} (hd:Nat.blt d C.n=true) (h:OpP C.P Γ Δ ⟨some d,op,ty,pos,af,none⟩ φ) (k:Lq C ((d,φ)::Γ) Δ ops rest Q):Lq C Γ Δ ops (⟨some d,op,ty,pos,af,none⟩::rest) Q :=
  Lq.one (.plain rfl h) (fun x hx=>(by injection hx with hx;subst hx;exact blt hd)) k
theorem Lq.n (h:OpP C.P Γ Δ ⟨none,op,ty,pos,af,none⟩ φ) (k:Lq C Γ Δ ops rest Q):Lq C Γ Δ ops (⟨none,op,ty,pos,af,none⟩::rest) Q :=
  Lq.one (.plain rfl h) (fun x hx=>(by cases hx)) k
theorem Lq.run {d j g:Nat} {want b:Bool} (hd:Nat.blt d C.n=true) (hj:gslot ops j=some g) (hl:look Γ g=some (is (.bool b))) (hb:b=want) (h:OpP C.P Γ Δ ⟨some d,op,ty,pos,af,some (j,want)⟩ φ) (k:Lq C ((d,φ)::Γ) Δ ops rest Q):Lq C Γ Δ ops (⟨some d,op,ty,pos,af,some (j,want)⟩::rest) Q :=
  Lq.one (.run j want g rfl hj (by rw [hl,hb]) h) (fun x hx=>(by injection hx with hx;subst hx;exact blt hd)) k
theorem Lq.skip {d j g:Nat} {want b:Bool} (hd:Nat.blt d C.n=true) (hj:gslot ops j=some g) (hl:look Γ g=some (is (.bool b))) (hb:b = !want) (k:Lq C ((d,is undef)::Γ) Δ ops rest Q):Lq C Γ Δ ops (⟨some d,op,ty,pos,af,some (j,want)⟩::rest) Q :=
  Lq.one (.skip j want g b rfl hj hl (by subst hb;cases want <;> simp) rfl) (fun x hx=>(by injection hx with hx;subst hx;exact blt hd)) k
theorem Lq.pass {d j g:Nat} {want:Bool} (hd:Nat.blt d C.n=true) (hj:gslot ops j=some g) (hl:look Γ g=some (is undef)) (k:Lq C ((d,is undef)::Γ) Δ ops rest Q):Lq C Γ Δ ops (⟨some d,op,ty,pos,af,some (j,want)⟩::rest) Q :=
  Lq.one (.none j want g rfl hj hl rfl) (fun x hx=>(by injection hx with hx;subst hx;exact blt hd)) k
theorem Lq.split {o:Oper} {j g:Nat} {want b:Bool} (hg:o.guard=some (j,want)) (hj:gslot ops j=some g) (hl:look Γ g=some (is (.bool b))) (ht:b=true→Lq C Γ Δ ops (o::rest) Q) (hf:b=false→Lq C Γ Δ ops (o::rest) Q):Lq C Γ Δ ops (o::rest) Q:=by
  cases b
  · exact hf rfl
  · exact ht rfl
variable {P:Program}
theorem PRun.nil (h:K Γ F):PRun P ops Δ [] Γ F K:=h
theorem PRun.s {d:Nat} (h:OpP P Γ Δ ⟨some d,op,ty,pos,af,none⟩ φ) (k:PRun P ops Δ rest ((d,φ)::Γ) F K):PRun P ops Δ (⟨some d,op,ty,pos,af,none⟩::rest) Γ F K:=⟨φ,none, .g φ (.plain rfl h),k⟩
theorem PRun.run {d j g:Nat} {want b:Bool} (hj:gslot ops j=some g) (hl:look Γ g=some (is (.bool b))) (hb:b=want) (h:OpP P Γ Δ ⟨some d,op,ty,pos,af,some (j,want)⟩ φ) (k:PRun P ops Δ rest ((d,φ)::Γ) F K):PRun P ops Δ (⟨some d,op,ty,pos,af,some (j,want)⟩::rest) Γ F K :=
  ⟨φ,none, .g φ (.run j want g rfl hj (by rw [hl,hb]) h),k⟩
theorem PRun.skip {d j g:Nat} {want b:Bool} (hj:gslot ops j=some g) (hl:look Γ g=some (is (.bool b))) (hb:b = !want) (k:PRun P ops Δ rest ((d,is undef)::Γ) F K):PRun P ops Δ (⟨some d,op,ty,pos,af,some (j,want)⟩::rest) Γ F K :=
  ⟨is undef,none, .g _ (.skip j want g b rfl hj hl (by subst hb;cases want <;> simp) rfl),k⟩
theorem PRun.pass {d j g:Nat} {want:Bool} (hj:gslot ops j=some g) (hl:look Γ g=some (is undef)) (k:PRun P ops Δ rest ((d,is undef)::Γ) F K):PRun P ops Δ (⟨some d,op,ty,pos,af,some (j,want)⟩::rest) Γ F K :=
  ⟨is undef,none, .g _ (.none j want g rfl hj hl rfl),k⟩
theorem PRun.split {o:Oper} {j g:Nat} {want b:Bool} (hg:o.guard=some (j,want)) (hj:gslot ops j=some g) (hl:look Γ g=some (is (.bool b))) (ht:b=true→PRun P ops Δ (o::rest) Γ F K) (hf:b=false→PRun P ops Δ (o::rest) Γ F K):PRun P ops Δ (o::rest) Γ F K:=by
  cases b
  · exact hf rfl
  · exact ht rfl
theorem zero_of {t:Nat} {z:Value} [hz:TZero P t z] (h1:z.cells.toList.all (fun v=>v.oneCell')=true):Zero P t z.cells.toList where
  run:=fun w a=>by
    unfold Instr.alloc
    refine (run_bind (zeroValue t) _ w (run_zeroValue (t:=t) (v:=z))).trans ?_
    rfl
  one:=fun v hv=>List.all_eq_true.1 h1 v hv
theorem PRun.al {d t:Nat} {z:Value} [TZero P t z] (h1:z.cells.toList.all (fun v=>v.oneCell')=true) (k:PRun P ops Δ rest ((d,any)::Γ) ((d,ownAt t z.cells.toList)::F) K):PRun P ops Δ (⟨some d, .alloc t,ty,pos,af,none⟩::rest) Γ F K :=
  ⟨any,some (ownAt t z.cells.toList),(.mk _ any d rfl rfl (fun _ _ h=>by cases h) (fun _ _ _ _=>trivial) (opR_alloc rfl (zero_of h1))),k⟩
theorem PRun.mk {d:Nat} {R:Item} (hb : ∀ t ps,op ≠ .build t ps) (hφ : ∀ v H w,(R v).ok H w→φ.h H v) (h:OpR P Γ Δ ⟨some d,op,ty,pos,af,none⟩ R) (k:PRun P ops Δ rest ((d,φ)::Γ) ((d,R)::F) K):PRun P ops Δ (⟨some d,op,ty,pos,af,none⟩::rest) Γ F K :=
  ⟨φ,some R, .mk _ _ d rfl rfl hb hφ h,k⟩
theorem J.drawAll {id:Nat} {l:List Oper} (hm:C.P.follows .mixedOrders=true) (hc:(drawOK .any l.toArray l.length && slotsOK l.toArray l.length C.n)=true)
    (h:PRun C.P l.toArray Δ l Γ [] fun Γ' F=>Open F Γ' Δ fun Γ'' Δ''=>E C .normal Γ'' Δ'' Q):J C Γ Δ (.region id l.toArray true) Q :=
  J.draw l.length hm hc (by rw [List.take_length,List.drop_length];exact h)
def tails:Op→Bool
  | .store .. => true
  | .call { callee := .builtin .append, .. }=>true
  | .call { callee := .builtin .copy, .. }=>true
  | _=>false
/-- The head: up to the first operation that acts, or that writes what an earlier one looks at. -/
def pureM:List Nat→List Oper→Nat
  | _,[]=>0
  | seen,o::l=>match tails o.op with
    | true=>0
    | false=>match (match o.dst with|some d=>seen.any (Nat.beq d)|none=>false) with
      | true=>0
      | false=>pureM ((o.looksAt #[])++seen) l+1
def pureN (l:List Oper):Nat:=pureM [] l
theorem J.drawN {id:Nat} {l:List Oper} (hm:C.P.follows .mixedOrders=true) (hc:(drawOK .any l.toArray (pureN l) && slotsOK l.toArray (pureN l) C.n)=true)
    (h:PRun C.P l.toArray Δ (l.take (pureN l)) Γ [] fun Γ' F=>Open F Γ' Δ fun Γ'' Δ''=>Lq C Γ'' Δ'' l.toArray (l.drop (pureN l)) Q):J C Γ Δ (.region id l.toArray true) Q :=
  J.draw (pureN l) hm hc h
theorem Open.nil {K:Env→List Res→Prop} (h:K Γ Δ):Open [] Γ Δ K:=h
theorem Open.cons {K:Env→List Res→Prop} {d:Nat} {t:TypeId} {zs:List Value} {F:Fresh} (h : ∀ b,Open F ((d,is (.pointer (some ⟨b,0,none⟩)))::Γ) (own b t (zs.map is)::Δ) K):Open ((d,ownAt t zs)::F) Γ Δ K:=by
  intro v ⟨H,w,hok⟩
  have : ∃ b,v = .pointer (some ⟨b,0,none⟩):=by
    unfold ownAt at hok
    split at hok
    · exact ⟨_,rfl⟩
    · exact hok.elim
  obtain ⟨b,rfl⟩:=this
  exact h b
theorem Open.mk {K:Env→List Res→Prop} {d:Nat} {R:Item} {F:Fresh} (h : ∀ v,Open F ((d,is v)::Γ) (R v::Δ) K):Open ((d,R)::F) Γ Δ K:=fun v _=>h v
end
theorem wrapi (n:Int) (h1 : -9223372036854775808≤n) (h2:n≤9223372036854775807):IntKind.i64.wrap n=n:=IntWalk.i64_in n ⟨h1,h2⟩
end Go.Proofs.YtljbbajelkkafaaDoor.L
