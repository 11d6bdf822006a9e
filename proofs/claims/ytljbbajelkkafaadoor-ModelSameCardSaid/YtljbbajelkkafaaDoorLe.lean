/-
  Rules of the logic: what is owned: local variables that are written.
-/
import Derived.Test.YtljbbajelkkafaaDoorLd
set_option linter.unusedVariables false
set_option linter.unusedSimpArgs false
namespace Go.Proofs.YtljbbajelkkafaaDoor.L
open Go
set_option linter.unusedSectionVars false
variable [Globs]

def splice (φs:List Pr) (o:Nat) (seg:List Pr):List Pr:=φs.take o++seg++φs.drop (o+seg.length)
/-- What a value's cells are, of one that is known by a predicate. -/
structure Seg (φ:Pr) (seg:List Pr):Prop where
  h : ∀ H v,φ.h H v→All2 (fun ψ c=>ψ.c H c) seg v.cells.toList
theorem Seg.val {α:Type} (T:Td α) (x:α):Seg (T.val x) (T.cells x):=⟨fun H v h=>T.out h⟩
theorem Seg.agg {ps:List Pr}:Seg (agg ps) ps:=⟨fun H v ⟨cs,hv,h⟩=>by subst hv;exact h⟩
theorem Seg.one {φ:Pr} (h1 : ∀ H v,φ.h H v→v.oneCell'=true):Seg φ [φ]:=⟨fun H v h=>by rw [cells_one (h1 H v h)];exact ⟨⟨h,h1 H v h⟩,trivial⟩⟩
theorem Seg.is {v:Value} (h:v.oneCell'=true):Seg (is v) [is v]:=Seg.one fun H u hu=>by have:u=v:=hu;subst this;exact h
theorem Seg.sl {α:Type} {T:Ty α} {xs:List α}:Seg (sl T xs) [sl T xs]:=Seg.one fun H u ⟨a,cap,hu,_⟩=>by subst hu;rfl
theorem Seg.ptr {ps:List Pr}:Seg (ptr ps) [ptr ps]:=Seg.one fun H u ⟨b,o,hu,_⟩=>by subst hu;rfl
theorem Seg.hash {v:Value} (h:v.cells.toList.all (fun c=>c.oneCell')=true):Seg (L.is v) (v.cells.toList.map L.is):=⟨fun H u hu=>by
  have:u=v:=hu
  subst this
  exact All2.of_get (by simp) fun i φ c hi hc=>by
    rw [List.getElem?_map,hc] at hi
    injection hi with hi;subst hi
    exact ⟨rfl,List.all_eq_true.1 h c (List.mem_of_getElem? hc)⟩⟩

section
variable {P:Program} {Γ:Env} {Δ:List Res}
section
variable {d:Option Nat} {ty:Nat} {pos:String} {af:Array Edge} {g:Option (Nat × Bool)}
/-- A field's address, of a variable whose address is known. -/
theorem op_ofaddr {b o t i off ft n:Nat} {p:Operand} (h:opd Γ p=some (is (.pointer (some ⟨b,o,none⟩)))) [hf:TFld P t i off ft] [TSz P ft n] (hn:n ≠ 0):OpP P Γ Δ ⟨d, .fieldAddr t p i,ty,pos,af,g⟩ (is (.pointer (some ⟨b,o+off,none⟩))) :=
  OpP.same fun H a w hx hs=>by
    have hv:a.eval p = .pointer (some ⟨b,o,none⟩):=hx p (by simp [Op.operands]) _ h
    obtain ⟨fs,f,hu,hfi,hoff,hft⟩:=hf.h
    refine ⟨.pointer (some ⟨b,o+off,none⟩),?_,rfl⟩
    simp only [execOp,hv]
    refine run_value ?_
    unfold Instr.fieldAt
    refine (run_bind _ _ w (run_underlying' hu)).trans ?_
    simp only [hfi]
    refine (run_bind (Instr.sureAddr (.pointer (some ⟨b,o,none⟩))) _ w (show _=Result.ok ⟨b,o,none⟩ w from rfl)).trans ?_
    refine (run_bind (fieldPlace ⟨b,o,none⟩ f) _ w (a:=⟨b,o+off,none⟩) (w':=w) ?_).trans rfl
    unfold fieldPlace
    rw [hft]
    refine (run_bind _ _ w (run_sizeOf (t:=ft) (n:=n))).trans ?_
    rw [if_neg hn,hoff,add_at]
    rfl
theorem run_aaddr {t n e sz:Nat} {b o:Nat} {k:IntKind} {i:Int} [ht:TArr P t n e] [TSz P e sz] (h0:0≤i) (h1:i < n) (w:World):(Instr.indexAt t (.pointer (some ⟨b,o,none⟩)) (.int k i)).run P w = .ok (.pointer (some ⟨b,o+i.toNat*sz,none⟩)) w:=by
  simp only [Instr.indexAt,asIntOf,Sem.run_bind,Sem.run_pure,Result.andThen_ok,run_underlying' ht.h,Instr.sureAddr]
  rw [if_pos (by omega)]
  simp only [Sem.run_bind,run_sizeOf (t:=e) (n:=sz),Result.andThen_ok,add_at]
  rfl
/-- An element's address, of an array whose address is known. -/
theorem op_oiaddr {b o t n e sz:Nat} {k:IntKind} {i:Int} {p z:Operand} (h:opd Γ p=some (is (.pointer (some ⟨b,o,none⟩)))) (hz:opd Γ z=some (is (.int k i))) [ht:TArr P t n e] [TSz P e sz] (h0:0≤i) (h1:i < n) :
    OpP P Γ Δ ⟨d, .indexAddr t p z,ty,pos,af,g⟩ (is (.pointer (some ⟨b,o+i.toNat*sz,none⟩))) :=
  OpP.same fun H a w hx hs=>by
    have hv:a.eval p = .pointer (some ⟨b,o,none⟩):=hx p (by simp [Op.operands]) _ h
    have hi:a.eval z = .int k i:=hx z (by simp [Op.operands]) _ hz
    refine ⟨_,?_,rfl⟩
    simp only [execOp,hv,hi]
    exact run_value (run_aaddr (n:=n) (e:=e) h0 h1 w)
/-- An element's address, of an array that is never written. -/
theorem op_paddr {α:Type} (T:Ty α) {xs:List α} {x:α} {t n e:Nat} {k:IntKind} {i:Int} {p z:Operand} (h:opd Γ p=some (ptr (flat T xs))) (hz:opd Γ z=some (is (.int k i))) [ht:TArr P t n e] [TSz P e T.sz] (h0:0≤i) (h1:i < n) (hx:xs[i.toNat]?=some x) :
    OpP P Γ Δ ⟨d, .indexAddr t p z,ty,pos,af,g⟩ (ptr (T.cells x)) :=
  OpP.same fun H a w hxx hs=>by
    obtain ⟨b,o,hv,hc⟩:=hxx p (by simp [Op.operands]) _ h
    have hi:a.eval z = .int k i:=hxx z (by simp [Op.operands]) _ hz
    refine ⟨.pointer (some ⟨b,o+i.toNat*T.sz,none⟩),?_,b,_,rfl,fun j φ hj=>?_⟩
    · simp only [execOp,hv,hi]
      exact run_value (run_aaddr (n:=n) (e:=e) h0 h1 w)
    · have hj':j < T.sz:=by rw [← T.len x];exact (List.getElem?_eq_some_iff.1 hj).1
      obtain ⟨c,hc,hφ⟩:=hc (i.toNat*T.sz+j) φ (by rw [flat_get T xs _ j x hx hj'];exact hj)
      exact ⟨c,by rw [Nat.add_assoc];exact hc,hφ⟩
theorem own_cells {H:IH} {w:World} {b e:Nat} {φs:List Pr} (h:(own b e φs).ok H w) : ∃ cs:List Value,w.heap[b]?=some (.cells cs.toArray e (0,0))∧All2 (fun φ c=>φ.c H c) φs cs:=h.1
theorem cell_at {w:World} {b e:Nat} {cs:List Value} {fr:Nat × Nat} (h:w.heap[b]?=some (.cells cs.toArray e fr)) (o:Nat):w.cell? ⟨b,o,none⟩=cs[o]?:=by
  simp [World.cell?,h]
theorem op_oload {α:Type} (T:Td α) {x:α} {b o e t:Nat} {φs:List Pr} {p:Operand} (h:opd Γ p=some (is (.pointer (some ⟨b,o,none⟩)))) (hm:own b e φs ∈ Δ) [TSz P t T.sz] [TAg P t T.ag] (hx:(φs.drop o).take T.sz=T.cells x):OpP P Γ Δ ⟨d, .load t p,ty,pos,af,g⟩ (T.val x) :=
  OpP.val fun H a w hxx hs hr=>by
    have hv:a.eval p = .pointer (some ⟨b,o,none⟩):=hxx p (by simp [Op.operands]) _ h
    obtain ⟨cs,hh,hcs⟩:=own_cells (hr _ hm)
    have hcs2:=(hcs.drop o).take T.sz
    rw [hx] at hcs2
    refine ⟨_,H,w,?_,Ext.refl hs,T.inn hcs2⟩
    simp only [execOp,hv]
    refine run_value ?_
    refine run_loadVar (ag:=T.ag) (n:=T.sz) w b o _ (by rw [← hcs2.length,T.len]) T.one fun j v hj=>?_
    rw [cell_at hh]
    rw [List.getElem?_take] at hj
    split at hj
    · rwa [List.getElem?_drop] at hj
    · cases hj
/-- A literal's parts, laid into the zero value's cells. -/
inductive BP (pl:Nat→Option (Nat × Nat)) (Γ:Env):List (Nat × Operand)→List Pr→List Pr→Prop
  | nil (ps:List Pr):BP pl Γ [] ps ps
  | cons {i:Nat} {o:Operand} {r:List (Nat × Operand)} {ps ps':List Pr} {off n:Nat} {φ:Pr} {seg:List Pr} (h1:pl i=some (off,n)) (h2:opd Γ o=some φ) (h3:Seg φ seg) (h4:seg.length=n) (h5:Nat.ble (off+n) ps.length=true) (h:BP pl Γ r (splice ps off seg) ps'):BP pl Γ ((i,o)::r) ps ps'
theorem BP.fill {pl:Nat→Option (Nat × Nat)} {H:IH} {ρ:Operand→Value} : ∀ {ps:List (Nat × Operand)} {φs φs':List Pr},BP pl Γ ps φs φs'→(∀ p ∈ ps, ∀ ψ,opd Γ p.2=some ψ→ψ.h H (ρ p.2)) → ∀ cs:List Value,All2 (fun φ c=>φ.c H c) φs cs →
    ∃ cs':List Value,Instr.fill pl cs.toArray (ps.map fun p=>(p.1,ρ p.2))=some cs'.toArray∧All2 (fun φ c=>φ.c H c) φs' cs':=by
  intro ps φs φs' h
  induction h with
  | nil ps=>intro _ cs hcs;exact ⟨cs,rfl,hcs⟩
  | @cons i o r ps ps' off n φ seg h1 h2 h3 h4 h5 h ih =>
    intro hρ cs hcs
    have hseg:=h3.h H _ (hρ (i,o) (by simp) φ h2)
    have hsz:(ρ o).cells.size=n:=by have:=hseg.length;rw [h4] at this;simpa using this.symm
    have h5:=Nat.le_of_ble_eq_true h5
    have hlen:=hcs.length
    have hnew:All2 (fun φ c=>φ.c H c) (splice ps off seg) (cs.take off++(ρ o).cells.toList++cs.drop (off+n)):=by
      unfold splice
      rw [h4]
      exact ((hcs.take off).append hseg).append (hcs.drop (off+n))
    obtain ⟨cs',hf,hcs'⟩:=ih (fun p hp=>hρ p (by simp [hp])) _ hnew
    refine ⟨cs',?_,hcs'⟩
    simp only [List.map_cons,Instr.fill,h1]
    rw [if_neg (by simp only [List.size_toArray,hsz,ne_eq,not_true_eq_false,Bool.or_eq_true,decide_eq_true_eq,false_or];omega)]
    have hz:(ρ o).cells.zipIdx.foldl (fun (cs:Array Value) (p:Value × Nat)=>cs.setIfInBounds (off+p.2) p.1) cs.toArray=(cs.take off++(ρ o).cells.toList++cs.drop (off+n)).toArray:=by
      rw [← Array.foldl_toList,Array.toList_zipIdx]
      have:=seg_set (ρ o).cells.toList ((cs.drop off).take n) (cs.take off) (cs.drop (off+n)) off 0 (by simp [hsz];omega) (by simp;omega)
      have e:cs.take off++(cs.drop off).take n++cs.drop (off+n)=cs:=by
        rw [List.append_assoc]
        conv=>rhs;rw [← List.take_append_drop off cs, ← List.take_append_drop n (cs.drop off)]
        simp
      rw [e] at this
      exact this
    have hz':((ρ o).cells.zipIdx.foldl (fun cs (c,j)=>cs.setIfInBounds (off+j) c) cs.toArray)=(cs.take off++(ρ o).cells.toList++cs.drop (off+n)).toArray:=hz
    rw [hz']
    exact hf
/-- A struct's or an array's places: offset and size. -/
class TPl (P:Program) (t:Nat) (pl:outParam (Nat→Option (Nat × Nat))):Prop where
  h:(∃ fs pls,P.underlying t=some (.struct fs)∧(∀ w,(fs.mapM fun (f:Field)=>(do pure (f.offset, ← sizeOf f.type):Sem (Nat × Nat))).run P w = .ok pls w)∧pl=fun i=>pls[i]?) ∨
    (∃ n e sz,P.underlying t=some (.array n e)∧(P.info? e).map TypeInfo.size=some sz∧pl=fun i=>some (i*sz,sz))
theorem op_build {t:Nat} {z:Value} {pl:Nat→Option (Nat × Nat)} {ps:List (Nat × Operand)} {φs:List Pr} [hz:TZero P t z] [hp:TPl P t pl] (h1:z.cells.toList.all (fun v=>v.oneCell')=true) (h:BP pl Γ ps (z.cells.toList.map is) φs):OpP P Γ Δ ⟨d, .build t ps.toArray,ty,pos,af,g⟩ (agg φs) :=
  OpP.same fun H a w hx hs=>by
    obtain ⟨cs',hf,hcs'⟩:=h.fill (ρ:=a.eval) (H:=H) (fun p hpp ψ hψ=>hx p.2 (by simp [Op.operands];exact ⟨p.1,hpp⟩) ψ hψ) z.cells.toList (All2.of_get (by simp) fun i φ c hi hc=>by
      rw [List.getElem?_map,hc] at hi
      injection hi with hi;subst hi
      exact ⟨rfl,List.all_eq_true.1 h1 c (List.mem_of_getElem? hc)⟩)
    refine ⟨.agg cs'.toArray,?_,cs',rfl,hcs'⟩
    simp only [execOp]
    refine run_value ?_
    have hf2:Instr.fill pl z.cells (ps.toArray.map fun (p:Nat × Operand)=>match p with|(i,x)=>(i,a.eval x)).toList=some cs'.toArray:=by
      have e:(ps.toArray.map fun (p:Nat × Operand)=>match p with|(i,x)=>(i,a.eval x)).toList=ps.map fun p=>(p.1,a.eval p.2):=by simp
      rw [e]
      simpa using hf
    unfold Instr.build
    refine (run_bind (zeroValue t) _ w (run_zeroValue (t:=t) (v:=z))).trans ?_
    rcases hp.h with ⟨fs,pls,hu,hm,rfl⟩|⟨n,e,sz,hu,hsz,rfl⟩
    · refine (run_bind (underlying t) _ w (run_underlying' hu)).trans ?_
      refine (run_bind _ _ w (hm w)).trans ?_
      generalize hF:Instr.fill _ _ _=F
      have hF2:=hF.symm.trans hf2
      subst hF2
      rfl
    · refine (run_bind (underlying t) _ w (run_underlying' hu)).trans ?_
      have := @run_sizeOf _ P w e sz ⟨hsz⟩
      refine (run_bind (sizeOf e) _ w this).trans ?_
      generalize hF:Instr.fill _ _ _=F
      have hF2:=hF.symm.trans hf2
      subst hF2
      rfl
end

/-! ### Owned blocks: made, written, given up -/
section
variable {C:Cx} {Q:Exit→Act→World→Prop} {ops:Array Oper} {rest:List Oper} {ty:Nat} {pos:String} {af:Array Edge}
theorem Lq.al {d t:Nat} {z:Value} (hd:Nat.blt d C.n=true) [TZero C.P t z] (h1:z.cells.toList.all (fun v=>v.oneCell')=true) (k : ∀ b,Lq C ((d,is (.pointer (some ⟨b,0,none⟩)))::Γ) (own b t (z.cells.toList.map is)::Δ) ops rest Q) :
    Lq C Γ Δ ops (⟨some d, .alloc t,ty,pos,af,none⟩::rest) Q:=by
  intro H a w S
  refine wpL_plain rfl (fun c hc=>by cases hc) fun K hK=>?_
  have hz:Zero C.P t z.cells.toList:=zero_of h1
  have hrun:(execOp a.eval ⟨some d, .alloc t,ty,pos,af,none⟩).run C.P w = .ok (.value (.pointer (some ⟨w.heap.size,0,none⟩))) (w.alloc (.cells z.cells.toList.toArray t)) :=
    run_value (x:=Instr.alloc t true (.tuple #[])) (hz.run w (.tuple #[]))
  unfold Oper.wp
  rw [hrun]
  have S1:=S.put (ext_alloc S.sat (.cells z.cells.toList.toArray t)) d (blt hd) (.pointer (some ⟨w.heap.size,0,none⟩)) (is (.pointer (some ⟨w.heap.size,0,none⟩))) rfl
  refine hK _ _ (k w.heap.size H _ _ ⟨S1.dfr,S1.siz,S1.env,S1.sat,fun r hr=>?_,?_,fun x hx=>?_,S1.le,S1.fr,S1.hk⟩)
  · rcases List.mem_cons.1 hr with rfl|hr
    · refine ⟨⟨z.cells.toList,heap_alloc_self w _,All2.of_get (by simp) fun i φ c hi hc=>?_⟩,fun o=>?_⟩
      · rw [List.getElem?_map,hc] at hi
        injection hi with hi;subst hi
        exact ⟨rfl,hz.one c (List.mem_of_getElem? hc)⟩
      · cases hH:H w.heap.size o with
        | none=>rfl
        | some u=>exact absurd (S.sat.lt hH) (Nat.lt_irrefl _)
    · exact S1.res r hr
  · show (w.heap.size::Δ.filterMap Res.blk).Nodup
    exact List.nodup_cons.2 ⟨fun hm=>absurd (S.own _ hm).1 (Nat.lt_irrefl _),S.dis⟩
  · have hx:x ∈ w.heap.size::Δ.filterMap Res.blk:=hx
    rcases List.mem_cons.1 hx with rfl|hx
    · exact ⟨by simp, .inr S.fr.size⟩
    · exact S1.own x hx
theorem St.write {H:IH} {a:Act} {w w':World} {r r':Res} {Δ':List Res} {b:Nat} (S:St C Γ Δ H a w) (hp:Δ.Perm (r::Δ')) (hb:r.blk=some b) (hb':r'.blk=some b) (hsat:Sat H w') (hok:r'.ok H w')
    (ho : ∀ k,k ≠ b→w'.heap[k]?=w.heap[k]?) (hs:w'.heap.size=w.heap.size) (h1:w'.os=w.os) (h2:w'.tape=w.tape) (h3:w'.output=w.output):St C Γ (r'::Δ') H a w':=by
  have hf:=hp.filterMap Res.blk
  have e1:(r::Δ').filterMap Res.blk=b::Δ'.filterMap Res.blk:=by rw [List.filterMap_cons,hb]
  have e2:(r'::Δ').filterMap Res.blk=b::Δ'.filterMap Res.blk:=by rw [List.filterMap_cons,hb']
  have hnd:=hf.nodup_iff.1 S.dis
  rw [e1] at hnd hf
  have hbown:=S.own b (hf.mem_iff.2 (by simp))
  refine ⟨S.dfr,S.siz,S.env,hsat,fun x hx=>?_,by rw [e2];exact hnd,fun x hx=>?_,S.le,⟨h1.trans S.fr.os,h2.trans S.fr.tape,h3.trans S.fr.output,by rw [hs];exact S.fr.size,fun k hk hkX=>?_⟩,S.hk⟩
  · rcases List.mem_cons.1 hx with rfl|hx
    · exact hok
    · refine x.st (IH.le_refl _) (fun c hc=>⟨ho c fun e=>?_,fun _=>rfl⟩) (S.res x (hp.mem_iff.2 (by simp [hx])))
      subst e
      exact (List.nodup_cons.1 hnd).1 (List.mem_filterMap.2 ⟨x,hx,hc⟩)
  · rw [e2] at hx
    have:=S.own x (hf.mem_iff.2 hx)
    rw [hs];exact this
  · have hne:k ≠ b:=fun e=>by
      subst e
      rcases hbown.2 with h|h
      · exact hkX h
      · omega
    rw [ho k hne]
    exact S.fr.block k hk hkX
theorem run_storeCells {P:Program} {b o e:Nat} : ∀ (vs:List Value) (i:Nat) (w:World) (cs:List Value),w.heap[b]?=some (.cells cs.toArray e (0,0))→o+i+vs.length≤cs.length→(∀ v ∈ vs,v.oneCell'=true) →
    ∃ w',(storeCells ⟨b,o,none⟩ vs i).run P w = .ok () w'∧w'.heap[b]?=some (.cells (cs.take (o+i)++vs++cs.drop (o+i+vs.length)).toArray e (0,0))∧(∀ k,k ≠ b→w'.heap[k]?=w.heap[k]?) ∧
      w'.heap.size=w.heap.size∧w'.os=w.os∧w'.tape=w.tape∧w'.output=w.output
  | [],i,w,cs,h,_,_=>⟨w,rfl,by simpa using h,fun _ _=>rfl,rfl,rfl,rfl,rfl⟩
  | v::vs,i,w,cs,h,hle,h1=>by
    have hlt:o+i < cs.length:=by simp only [List.length_cons] at hle;omega
    have hcell:w.cell? ⟨b,o+i,none⟩=some cs[o+i]:=by rw [cell_at h,List.getElem?_eq_getElem hlt]
    have hfz:w.frozen? ⟨b,o+i,none⟩=false:=by simp [World.frozen?,h]
    have hset:(w.setCell ⟨b,o+i,none⟩ v).heap[b]?=some (.cells (cs.set (o+i) v).toArray e (0,0)):=by
      simp [World.setCell,Array.getElem?_modify,h]
    obtain ⟨w',hrun,hh,hk,hs,e1,e2,e3⟩:=run_storeCells (P:=P) (b:=b) (o:=o) (e:=e) vs (i+1) (w.setCell ⟨b,o+i,none⟩ v) (cs.set (o+i) v) hset (by simp only [List.length_set,List.length_cons] at hle ⊢;omega) (fun u hu=>h1 u (by simp [hu]))
    refine ⟨w',?_,?_,fun k hkb=>?_,?_,e1,e2,e3⟩
    · have hst:(store ((⟨b,o,none⟩:Addr).add i) v).run P w = .ok () (w.setCell ⟨b,o+i,none⟩ v):=by
        rw [run_store P w _ v _ (h1 v (by simp)),add_at,hcell]
        simp [hfz]
      exact (run_bind (store ((⟨b,o,none⟩:Addr).add i) v) (fun _=>storeCells ⟨b,o,none⟩ vs (i+1)) w hst).trans hrun
    · rw [hh]
      have t1:(cs.set (o+i) v).take (o+(i+1))=cs.take (o+i)++[v]:=by
        rw [show o+(i+1)=(o+i)+1 by omega,List.take_succ_eq_append_getElem (by simpa using hlt)]
        simp [List.take_set_of_le]
      have t2:(cs.set (o+i) v).drop (o+(i+1)+vs.length)=cs.drop (o+i+(v::vs).length):=by
        rw [List.drop_set_of_lt (show o+i < o+(i+1)+vs.length by omega)]
        simp only [List.length_cons]
        congr 1
        omega
      rw [t1,t2]
      simp
    · rw [hk k hkb]
      exact RowKit.Below.heap_setCell _ _ _ _ hkb
    · rw [hs];simp [World.setCell]
theorem Lq.store {b o e t n:Nat} {φs seg:List Pr} {φ:Pr} {Δ':List Res} {p x:Operand} (h:opd Γ p=some (is (.pointer (some ⟨b,o,none⟩)))) (hv:opd Γ x=some φ) (hp:Δ.Perm (own b e φs::Δ')) (hseg:Seg φ seg) [TSz C.P t n] (hl:seg.length=n)
    (hle:Nat.ble (o+n) φs.length=true) (k:Lq C Γ (own b e (splice φs o seg)::Δ') ops rest Q):Lq C Γ Δ ops (⟨none, .store t p x,ty,pos,af,none⟩::rest) Q:=by
  intro H a w S
  refine wpL_plain rfl (fun c hc=>by cases hc) fun K hK=>?_
  have hpv:a.eval p = .pointer (some ⟨b,o,none⟩):=S.opd h
  have hxv:=hseg.h H _ (S.opd hv)
  have hle:=Nat.le_of_ble_eq_true hle
  obtain ⟨⟨cs,hh,hcs⟩,hnone⟩:=S.res _ (hp.mem_iff.2 List.mem_cons_self)
  have hsz:(a.eval x).cells.size=n:=by have:=hxv.length;rw [hl] at this;simpa using this.symm
  have hclen:=hcs.length
  obtain ⟨w',hrun,hb',hk',hs',e1,e2,e3⟩:=run_storeCells (P:=C.P) (b:=b) (o:=o) (e:=e) (a.eval x).cells.toList 0 w cs hh (by simp [hsz];omega) (fun v hv=>by
    obtain ⟨i,hi,rfl⟩:=List.mem_iff_getElem.1 hv
    have hi2:i < seg.length:=by rw [hxv.length];exact hi
    obtain ⟨c,hc,hφ⟩:=hxv.get i seg[i] (List.getElem?_eq_getElem hi2)
    rw [List.getElem?_eq_getElem hi] at hc
    injection hc with hc
    rw [hc];exact hφ.2)
  have hexec:(execOp a.eval ⟨none, .store t p x,ty,pos,af,none⟩).run C.P w = .ok .skip w':=by
    simp only [execOp,hpv]
    refine run_skip ?_
    unfold Instr.storeAt
    refine (run_bind (Instr.sureAddr (.pointer (some ⟨b,o,none⟩))) _ w (show _=Result.ok ⟨b,o,none⟩ w from rfl)).trans ?_
    unfold storeVar
    refine (run_bind (sizeOf t) _ w (run_sizeOf (t:=t) (n:=n))).trans ?_
    rw [if_neg (by rw [hsz];simp)]
    exact hrun
  unfold Oper.wp
  rw [hexec]
  refine hK _ _ (k H _ _ ?_)
  have S':St C Γ (own b e (splice φs o seg)::Δ') H a w':=by
    refine St.write (r:=own b e φs) (b:=b) S hp rfl rfl ⟨S.sat.gk,fun b2 o2 v2 hv2=>?_⟩ ⟨⟨_,hb',?_⟩,hnone⟩ hk' hs' e1 e2 e3
    · have hne:b2 ≠ b:=fun e=>by subst e;rw [hnone] at hv2;cases hv2
      exact (World.cell?_of_block (w:=w) (a:=⟨b2,o2,none⟩) (hk' b2 hne)).trans (S.sat.cell b2 o2 v2 hv2)
    · unfold splice
      rw [hl]
      simp only [Array.length_toList,hsz,Nat.add_zero]
      exact ((hcs.take o).append hxv).append (hcs.drop (o+n))
  exact S'
theorem Lq.box {d t:Nat} {x:Operand} {φ:Pr} {seg:List Pr} (hd:Nat.blt d C.n=true) (hv:opd Γ x=some φ) (hseg:Seg φ seg) (k : ∀ b,Lq C ((d,is (.pointer (some ⟨b,0,none⟩)))::Γ) (own b t seg::Δ) ops rest Q):Lq C Γ Δ ops (⟨some d, .box t x,ty,pos,af,none⟩::rest) Q:=by
  intro H a w S
  refine wpL_plain rfl (fun c hc=>by cases hc) fun K hK=>?_
  have hxv:=hseg.h H _ (S.opd hv)
  have hrun:(execOp a.eval ⟨some d, .box t x,ty,pos,af,none⟩).run C.P w = .ok (.value (.pointer (some ⟨w.heap.size,0,none⟩))) (w.alloc (.cells (a.eval x).cells.toList.toArray t)):=by
    simp only [execOp]
    refine run_value ?_
    simp only [Array.toArray_toList]
    rfl
  unfold Oper.wp
  rw [hrun]
  have S1:=S.put (ext_alloc S.sat (.cells (a.eval x).cells.toList.toArray t)) d (blt hd) (.pointer (some ⟨w.heap.size,0,none⟩)) (is (.pointer (some ⟨w.heap.size,0,none⟩))) rfl
  refine hK _ _ (k w.heap.size H _ _ ⟨S1.dfr,S1.siz,S1.env,S1.sat,fun r hr=>?_,?_,fun x hx=>?_,S1.le,S1.fr,S1.hk⟩)
  · rcases List.mem_cons.1 hr with rfl|hr
    · refine ⟨⟨(a.eval x).cells.toList,heap_alloc_self w _,hxv⟩,fun o=>?_⟩
      cases hH:H w.heap.size o with
      | none=>rfl
      | some u=>exact absurd (S.sat.lt hH) (Nat.lt_irrefl _)
    · exact S1.res r hr
  · show (w.heap.size::Δ.filterMap Res.blk).Nodup
    exact List.nodup_cons.2 ⟨fun hm=>absurd (S.own _ hm).1 (Nat.lt_irrefl _),S.dis⟩
  · have hx:x ∈ w.heap.size::Δ.filterMap Res.blk:=hx
    rcases List.mem_cons.1 hx with rfl|hx
    · exact ⟨by simp, .inr S.fr.size⟩
    · exact S1.own x hx
end
end
end Go.Proofs.YtljbbajelkkafaaDoor.L
