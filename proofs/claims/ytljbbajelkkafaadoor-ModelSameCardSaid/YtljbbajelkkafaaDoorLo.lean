/-
  Rules: rounds of loops over functions that make memory;what is nil;owned things that a slot's value does not name.
-/
import Derived.Test.YtljbbajelkkafaaDoorLt
set_option linter.unusedVariables false
set_option linter.unusedSimpArgs false
namespace Go.Proofs.YtljbbajelkkafaaDoor.L
open Go
set_option linter.unusedSectionVars false
variable [Globs]
/-- One round of two values: these given to the loop's variables, which may be made anew, then the body. -/
theorem YR.ofM {P:Program} {α:Type} {l n p p2 D:Nat} {fn:FuncId} {tm:Array Value} {assign body:Code} {H1:IH} {Γ:Env} {χ χ2:Pr} {Δ0:List Res} {post:List Res→Prop} (VA:α→Prop) (Γ1:α→Env) (D1:α→List Res) (hn:tm.size=n) (hpn:p < n) (hpn2:p2 < n) (hsnap : ∀ t φ,look Γ t=some φ → ∃ v,tm[t]?=some v∧φ.h H1 v)
    (hA : ∀ w0 H0 X,J ⟨P,n,w0,H0,X,some l,[]⟩ ((p2,χ2)::(p,χ)::Γ) Δ0 assign (Exit.then (Mid ⟨P,n,w0,H0,X,some l,[]⟩ VA Γ1 D1) (fun _ _ _=>False)))
    (hB : ∀ x,VA x → ∀ w0 H0 X,J ⟨P,n,w0,H0,X,some l,[]⟩ (Γ1 x) (D1 x) body (Exit.then (Mid ⟨P,n,w0,H0,X,some l,[]⟩ post (fun _=>[]) (fun Δ'=>Δ')) (fun _ _ _=>False))) :
    YR P l [χ,χ2] (loopL l (loopRec fn tm #[p,p2] assign body D) H1 Δ0) (fun Δ' => ∃ Δc,post Δc∧Δ'=loopL l (loopRec fn tm #[p,p2] assign body D) H1 Δc):=by
  refine ⟨fun H w vs hs hvs hr hnd hlt=>?_⟩
  match vs,hvs with
  | [v,v2],⟨hχ,hχ2,_⟩ =>
  have hle:IH.le H1 H:=hr _ List.mem_cons_self
  obtain ⟨hl,hln⟩:=hr (objR l _) (List.mem_cons_of_mem _ List.mem_cons_self)
  have hnd:(l::blks Δ0).Nodup:=hnd
  obtain ⟨hl0,hnd0⟩:=List.nodup_cons.1 hnd
  have hlw:l < w.heap.size:=hlt l List.mem_cons_self
  have hlt0 : ∀ b ∈ blks Δ0,b < w.heap.size:=fun b hb=>hlt b (List.mem_cons_of_mem _ hb)
  refine ⟨_,_,_,_,run_yield hl (by rfl),?_⟩
  refine roundIn_of_wpIn (F:=Fence.wide) (n:=0) trivial ?_
  have hX0 : ∀ r ∈ Δ0,r.ok H w:=fun r h=>hr r (List.mem_cons_of_mem _ (List.mem_cons_of_mem _ h))
  have S0:St ⟨P,n,w,H,blks Δ0,some l,[]⟩ ((p2,χ2)::(p,χ)::Γ) Δ0 H { tmps:=(tm.setIfInBounds p v).setIfInBounds p2 v2,defers:=[] } w:=by
    refine ⟨rfl,by simp [hn],fun t φ ht=>?_,hs,hX0,hnd0,fun b hb=>⟨hlt0 b hb, .inl hb⟩,IH.le_refl _,Fr.refl _ _,fun _ _ _ _=>rfl⟩
    unfold look at ht
    split at ht
    · rename_i hk
      have hk:=Nat.eq_of_beq_eq_true hk
      subst hk
      injection ht with ht;subst ht
      exact ⟨v2,by simp [hn,hpn2],hχ2⟩
    · rename_i hk
      have hne2:p2 ≠ t:=Nat.ne_of_beq_eq_false hk
      unfold look at ht
      split at ht
      · rename_i hk
        have hk:=Nat.eq_of_beq_eq_true hk
        subst hk
        injection ht with ht;subst ht
        exact ⟨v,by rw [Array.getElem?_setIfInBounds_ne hne2];simp [hn,hpn],hχ⟩
      · rename_i hk
        obtain ⟨u,hu,hφ⟩:=hsnap t φ ht
        have hne:p ≠ t:=Nat.ne_of_beq_eq_false hk
        exact ⟨u,by rw [Array.getElem?_setIfInBounds_ne hne2,Array.getElem?_setIfInBounds_ne hne,hu],φ.mono hle hφ⟩
  have htm:Array.foldl (fun (tmps:Array Value) (x:Tmp × Value)=>match x with|(t,a)=>tmps.setIfInBounds t a) (loopRec fn tm #[p,p2] assign body D).tmps ((loopRec fn tm #[p,p2] assign body D).params.zip #[v,v2])=(tm.setIfInBounds p v).setIfInBounds p2 v2:=by simp [loopRec]
  rw [← htm] at S0
  refine wpIn_mono (hA w H (blks Δ0) H _ w S0) fun e a1 w1 h1=>?_
  cases e with
  | normal =>
    obtain ⟨x,H2,hVA,S1⟩:=h1
    have hl1n:l ∉ blks (D1 x):=fun hm=>by
      rcases (S1.own l hm).2 with h|h
      · exact hl0 h
      · have h:w.heap.size≤l:=h
        omega
    have hw1:w1.heap[l]?=some (.loop (loopRec fn tm #[p,p2] assign body D)):=(S1.fr.block l hlw hl0).trans hl
    have hH2 : ∀ k,H2 l k=none:=fun k=>(S1.hk l k hlw hl0).trans (hln k)
    have hl1:l < w1.heap.size:=Nat.lt_of_lt_of_le hlw S1.fr.size
    refine ⟨_,run_beginRound hw1 rfl,?_⟩
    let w2:=w1.putObj l (.loop { loopRec fn tm #[p,p2] assign body D with state := .busy })
    have hne0 : ∀ b ∈ blks (D1 x),b ≠ l:=fun b hb e=>hl1n (e ▸ hb)
    have S2:St ⟨P,n,w2,H2,blks (D1 x),some l,[]⟩ (Γ1 x) (D1 x) H2 a1 w2:=by
      refine ⟨S1.dfr,S1.siz,S1.env,sat_putObj _ S1.sat hH2,fun r h=>?_,S1.dis,fun b hb=>⟨by rw [putObj_size];exact (S1.own b hb).1, .inl hb⟩,IH.le_refl _,Fr.refl _ _,fun _ _ _ _=>rfl⟩
      exact r.st (IH.le_refl _) (fun b hb=>⟨World.putObj_heap_other (hne0 b (List.mem_filterMap.2 ⟨r,h,hb⟩)),fun _=>rfl⟩) (S1.res r h)
    refine wpIn_mono (hB x hVA w2 H2 (blks (D1 x)) H2 a1 w2 S2) fun e a2 w3 h2=>?_
    cases e with
    | normal =>
      obtain ⟨Δc,H3,hpost,S3⟩:=h2
      have hl2:l < w2.heap.size:=by rw [putObj_size];exact hl1
      have hw3:w3.heap[l]?=some (.loop { loopRec fn tm #[p,p2] assign body D with state := .busy }):=(S3.fr.block l hl2 hl1n).trans (World.putObj_heap_same hl1)
      have hH3 : ∀ k,H3 l k=none:=fun k=>(S3.hk l k hl2 hl1n).trans (hH2 k)
      have hl3:l < w3.heap.size:=Nat.lt_of_lt_of_le hl2 S3.fr.size
      have hlc:l ∉ blks Δc:=fun hm=>by
        rcases (S3.own l hm).2 with h|h
        · exact hl1n h
        · have h:w2.heap.size≤l:=h
          omega
      have hsz2:w2.heap.size=w1.heap.size:=putObj_size _ _ _
      refine ⟨_,_,run_endRound none hw3,_,H3,is (.bool true),loopL l (loopRec fn tm #[p,p2] assign body D) H1 Δc,rfl,⟨rfl,Δc,hpost,rfl⟩,rfl,sat_putObj _ S3.sat hH3,fun r h=>?_,List.nodup_cons.2 ⟨hlc,S3.dis⟩,fun b hb=>?_,IH.le_trans S1.le S3.le,?_,fun b o hb hx=>?_⟩
      · rcases List.mem_cons.1 h with rfl|h
        · exact IH.le_trans hle (IH.le_trans S1.le S3.le)
        · rcases List.mem_cons.1 h with rfl|h
          · exact ⟨World.putObj_heap_same hl3,hH3⟩
          · exact r.st (IH.le_refl _) (fun b hb=>⟨World.putObj_heap_other fun e=>hlc (e ▸ List.mem_filterMap.2 ⟨r,h,hb⟩),fun _=>rfl⟩) (S3.res r h)
      · have hb:b ∈ l::blks Δc:=hb
        rw [putObj_size]
        rcases List.mem_cons.1 hb with rfl|hb
        · exact ⟨hl3, .inl List.mem_cons_self⟩
        · refine ⟨(S3.own b hb).1,?_⟩
          have h5:w.heap.size≤w1.heap.size:=S1.fr.size
          rcases (S3.own b hb).2 with h|h
          · rcases (S1.own b h).2 with h|h
            · exact .inl (List.mem_cons_of_mem _ h)
            · exact .inr h
          · have h:w2.heap.size≤b:=h
            exact .inr (by omega)
      · refine fr_putObj _ ?_ (.inl List.mem_cons_self)
        have f1:Fr (l::blks Δ0) w w2:=fr_putObj _ (S1.fr.weak fun x hx=>List.mem_cons_of_mem _ hx) (.inl List.mem_cons_self)
        have f3:=S3.fr
        have h5:w.heap.size≤w1.heap.size:=S1.fr.size
        refine ⟨f3.os.trans f1.os,f3.tape.trans f1.tape,f3.output.trans f1.output,Nat.le_trans f1.size f3.size,fun k hk hx=>?_⟩
        refine (f3.block k (by show k < w2.heap.size;omega) fun hm=>?_).trans (f1.block k hk hx)
        rcases (S1.own k hm).2 with h|h
        · exact hx (List.mem_cons_of_mem _ h)
        · have h:w.heap.size≤k:=h
          omega
      · have hx:b ∉ l::blks Δ0:=hx
        have hx0:b ∉ blks Δ0:=fun h=>hx (List.mem_cons_of_mem _ h)
        have h5:w.heap.size≤w1.heap.size:=S1.fr.size
        have hx1:b ∉ blks (D1 x):=fun hm=>by
          rcases (S1.own b hm).2 with h|h
          · exact hx0 h
          · have h:w.heap.size≤b:=h
            omega
        exact (S3.hk b o (show b < w2.heap.size by omega) hx1).trans (S1.hk b o hb hx0)
    | _=>exact h2.elim
  | _=>exact h1.elim
/-! ### What is nil -/
section
variable {P:Program} {Γ:Env} {Δ:List Res} {d:Option Nat} {ty:Nat} {pos:String} {af:Array Edge} {g:Option (Nat × Bool)} {x y:Operand} {t yt:Nat}
theorem op_pnil {e:Nat} [hp:TPtr P t e] (h:opd Γ x=some (is (.pointer none))) (h2:opd Γ y=some (is (.pointer none))):OpP P Γ Δ ⟨d, .binOp .eql t x y yt,ty,pos,af,g⟩ (is (.bool true)) :=
  OpP.same fun H A w hx hs=>by
    have hv:A.eval x = .pointer none:=hx x (by simp [Op.operands]) _ h
    have hv2:A.eval y = .pointer none:=hx y (by simp [Op.operands]) _ h2
    refine ⟨_,?_,rfl⟩
    simp only [execOp,hv,hv2]
    refine run_value ?_
    refine (run_bind _ _ w (show (eqGuard .eql t x y (.pointer none) (.pointer none)).run P w = .ok () w from rfl)).trans ?_
    have:(Op.equal t (.pointer none) (.pointer none)).run P w = .ok true w:=by
      unfold Op.equal Op.maxDepth Op.equalIn
      exact (run_bind (underlying t) _ w (run_underlying' hp.h)).trans rfl
    exact (run_bind (Op.equal t (.pointer none) (.pointer none)) (fun r=>pure (Value.bool r)) w this).trans rfl
theorem op_pne {a:Addr} {e:Nat} [hp:TPtr P t e] (h:opd Γ x=some (is (.pointer (some a)))) (h2:opd Γ y=some (is (.pointer none))):OpP P Γ Δ ⟨d, .binOp .neq t x y yt,ty,pos,af,g⟩ (is (.bool true)) :=
  OpP.same fun H A w hx hs=>by
    have hv:A.eval x = .pointer (some a):=hx x (by simp [Op.operands]) _ h
    have hv2:A.eval y = .pointer none:=hx y (by simp [Op.operands]) _ h2
    refine ⟨_,?_,rfl⟩
    simp only [execOp,hv,hv2]
    refine run_value ?_
    refine (run_bind _ _ w (show (eqGuard .neq t x y (.pointer (some a)) (.pointer none)).run P w = .ok () w from rfl)).trans ?_
    have:(Op.equal t (.pointer (some a)) (.pointer none)).run P w = .ok false w:=by
      unfold Op.equal Op.maxDepth Op.equalIn
      exact (run_bind (underlying t) _ w (run_underlying' hp.h)).trans rfl
    exact (run_bind (Op.equal t (.pointer (some a)) (.pointer none)) (fun r=>pure (Value.bool (!r))) w this).trans rfl
theorem op_pnone {e:Nat} [hp:TPtr P t e] (h:opd Γ x=some (is (.pointer none))) (h2:opd Γ y=some (is (.pointer none))):OpP P Γ Δ ⟨d, .binOp .neq t x y yt,ty,pos,af,g⟩ (is (.bool false)) :=
  OpP.same fun H A w hx hs=>by
    have hv:A.eval x = .pointer none:=hx x (by simp [Op.operands]) _ h
    have hv2:A.eval y = .pointer none:=hx y (by simp [Op.operands]) _ h2
    refine ⟨_,?_,rfl⟩
    simp only [execOp,hv,hv2]
    refine run_value ?_
    refine (run_bind _ _ w (show (eqGuard .neq t x y (.pointer none) (.pointer none)).run P w = .ok () w from rfl)).trans ?_
    have:(Op.equal t (.pointer none) (.pointer none)).run P w = .ok true w:=by
      unfold Op.equal Op.maxDepth Op.equalIn
      exact (run_bind (underlying t) _ w (run_underlying' hp.h)).trans rfl
    exact (run_bind (Op.equal t (.pointer none) (.pointer none)) (fun r=>pure (Value.bool (!r))) w this).trans rfl
theorem op_slnil {A:Option Addr} {n c e:Nat} [hp:TSl P t e] (h:opd Γ x=some (is (.slice A n c))) (h2:opd Γ y=some (is (.slice none 0 0))):OpP P Γ Δ ⟨d, .binOp .eql t x y yt,ty,pos,af,g⟩ (is (.bool A.isNone)) :=
  OpP.same fun H B w hx hs=>by
    have hv:B.eval x = .slice A n c:=hx x (by simp [Op.operands]) _ h
    have hv2:B.eval y = .slice none 0 0:=hx y (by simp [Op.operands]) _ h2
    refine ⟨_,?_,rfl⟩
    simp only [execOp,hv,hv2]
    refine run_value ?_
    refine (run_bind _ _ w (show (eqGuard .eql t x y (.slice A n c) (.slice none 0 0)).run P w = .ok () w from rfl)).trans ?_
    have:(Op.equal t (.slice A n c) (.slice none 0 0)).run P w = .ok A.isNone w:=by
      unfold Op.equal Op.maxDepth Op.equalIn
      refine (run_bind (underlying t) _ w (run_underlying' hp.h)).trans ?_
      cases A <;> rfl
    exact (run_bind (Op.equal t (.slice A n c) (.slice none 0 0)) (fun r=>pure (Value.bool r)) w this).trans rfl
end
section
variable {C:Cx} {Γ:Env} {Δ Δ':List Res} {Q:Exit→Act→World→Prop} {α:Type} {T:Ty α} {xs:List α} {e:TypeId}
/-- A row whose slice names no memory. -/
theorem J.rowNil {c:Code} {A:Option Addr} {n k:Nat} (hp:Δ.Perm (row (.slice A n k) e T xs::Δ')) (h:A=none→n=0→k=0→xs=[]→J C Γ Δ c Q) (h2 : ∀ a,A=some a→J C Γ Δ c Q):J C Γ Δ c Q:=by
  cases A with
  | some a=>exact h2 a rfl
  | none =>
    intro H a w S
    rcases S.res _ (hp.mem_iff.2 List.mem_cons_self) with ⟨hv,hx⟩|⟨b,o,cap,cs,hv,_⟩
    · injection hv with _ h1 h3
      exact h rfl h1 h3 hx H a w S
    · cases hv
end
/-! ### What no slot's value names -/
def itemK (r:Res):Item:=fun _=>r
theorem itemK_own {b e:Nat} {φs φs':List Pr} : ∀ u H w,(itemK (own b e φs) u).ok H w→itemK (own b e φs) u=own b e φs∧itemK (own b e φs') u=own b e φs':=fun _ _ _ _=>⟨rfl,rfl⟩
theorem itemK_fst {b e:Nat} {φs:List Pr} : ∀ u H w,(itemK (own b e φs) u).ok H w→itemK (own b e φs) u=own b e φs:=fun _ _ _ _=>rfl
theorem Open.kv {Γ:Env} {Δ:List Res} {F:Fresh} {K:Env→List Res→Prop} {d:Nat} {r:Res} {v:Value} (h : ∀ v,Open F ((d,is v)::Γ) (r::Δ) K):Open ((d,itemK r)::F) Γ Δ K:=fun v _=>h v
section
variable {P:Program} {ops:Array Oper} {Γ:Env} {Δ:List Res} {rest:List Oper} {ty:Nat} {pos:String} {af:Array Edge} {K:Env→Fresh→Prop} {F:Fresh} {ts:List (Option Nat × Option Nat)}
variable {α:Type} {T:Td α} {d s t u e by_:Nat} {z v0:Value} {xs ys:List α} {x y:Operand} {r0:Res}
/-- An append to a row that is known by its value, and owned, whatever slot holds the thing. -/
theorem opE_appendK (hsd:s ≠ d) (hx0:opd Γ x=some (is v0)) (hconv : ∀ H w,r0.ok H w→(row v0 e T.toTy xs).ok H w∧(row v0 e T.toTy xs).blk=r0.blk) (hf:From Γ Δ P T u y ys) [TSl P t e] [TSz P e T.sz] [TBy P e by_] [TZero P e z] (hz:z.cells.size=T.sz) (hz1:z.cells.toList.all (fun c=>c.oneCell')=true) (hm:xs.length+ys.length≤maxLen) (hby:(xs.length+ys.length)*by_≤140737488355328) :
    OpE P Γ Δ ⟨some d, .call ⟨.builtin .append, #[x,y], #[t,u]⟩,ty,pos,af,none⟩ (anySl (xs++ys).length) ⟨some (s,itemK r0),some (d,fun v=>row v e T.toTy (xs++ys))⟩:=by
  intro H a w Q K hx hs hr hb hsz hc hK
  obtain ⟨u0,hu,hok0,hbk⟩:=hc s _ rfl
  have hok0:r0.ok H w:=hok0
  obtain ⟨hok,hbe⟩:=hconv H w hok0
  have hv:a.eval x=v0:=hx x (by simp [Op.operands,Call.operands]) _ hx0
  have htk : ∀ b,(row v0 e T.toTy xs).blk=some b→takesB (some (s,itemK r0)) a b:=fun b hb=>⟨s,_,u0,rfl,hu,by rw [hbe] at hb;exact hb⟩
  cases hf with
  | mk hf =>
    have hsrc:=hf H w a.eval hs hr (fun ψ hψ=>hx y (by simp [Op.operands,Call.operands]) ψ hψ)
    obtain ⟨v',w',hrun,hA⟩:=run_append (P:=P) (t:=t) (ty:=ty) (T:=T) (e:=e) hz hz1 hs hok hsrc hm hby
    have hexec:(execOp a.eval ⟨some d, .call ⟨.builtin .append, #[x,y], #[t,u]⟩,ty,pos,af,none⟩).run P w = .ok (.value v') w' :=
      run_builtin (as:=[x,y]) fun c=>run_value (x:=Builtin.append_ #[t,u] ty #[a.eval x,a.eval y]) (by rw [hv];exact hrun)
    unfold Oper.wp
    rw [hexec]
    have hput:(a.put (some d) v').tmps[d]?=some v':=by simp [Act.put,hsz d rfl]
    cases hA with
    | «at» hbb hk hsz' h1 h2 h3 hcc ok =>
      refine hK v' H w' (IH.le_refl _) (fun _ _ _ _=>rfl) ⟨hs.gk,fun b o u hu'=>?_⟩ h1 h2 h3 (by omega) (fun k hk' hn=>hk k (fun hbk'=>hn (htk k hbk'))) (row_slice ok) fun p R hp=>?_
      · have hne:(row v0 e T.toTy xs).blk ≠ some b:=fun hbk'=>by rw [hcc b hbk'] at hu';cases hu'
        exact (World.cell?_of_block (w:=w) (a:=⟨b,o,none⟩) (hk b hne)).trans (hs.cell b o u hu')
      · injection hp with hp
        injection hp with hp1 hp2
        subst hp1;subst hp2
        exact ⟨v',hput,ok,fun b hb' => .inl (htk b (hbb ▸ hb'))⟩
    | new hbb E hsz' ok =>
      refine hK v' H w' E.le (fun b o hb' _=>E.old b o hb') E.sat E.fr.os E.fr.tape E.fr.output E.fr.size (fun k hk' _=>E.fr.block k hk' (by simp)) (row_slice ok) fun p R hp=>?_
      injection hp with hp
      injection hp with hp1 hp2
      subst hp1;subst hp2
      refine ⟨v',hput,ok,fun b hb' => .inr ?_⟩
      have hb':(row v' e T.toTy (xs++ys)).blk=some b:=hb'
      rw [hbb] at hb'
      injection hb' with hb';subst hb'
      exact ⟨Nat.le_refl _,by omega⟩
theorem PRunW.apK (hsd:Nat.beq s d=false) (hx0:opd Γ x=some (is v0)) (hF:lkF F s=some (itemK r0)) (hconv : ∀ H w,r0.ok H w→(row v0 e T.toTy xs).ok H w∧(row v0 e T.toTy xs).blk=r0.blk) (hf:From Γ Δ P T u y ys) [TSl P t e] [TSz P e T.sz] [TBy P e by_] [TZero P e z] (hz:z.cells.size=T.sz) (hz1:z.cells.toList.all (fun c=>c.oneCell')=true) (hm:xs.length+ys.length≤maxLen) (hby:(xs.length+ys.length)*by_≤140737488355328)
    (k:PRunW P ops Δ rest ts ((d,anySl (xs++ys).length)::Γ) ((d,fun v=>row v e T.toTy (xs++ys))::dropS (dropS F s) d) K):PRunW P ops Δ (⟨some d, .call ⟨.builtin .append, #[x,y], #[t,u]⟩,ty,pos,af,none⟩::rest) ((some s,some d)::ts) Γ F K :=
  PRunW.e ⟨some (s,itemK r0),some (d,fun v=>row v e T.toTy (xs++ys))⟩ (opE_appendK (Nat.ne_of_beq_eq_false hsd) hx0 hconv hf hz hz1 hm hby) (fun s' R h=>by injection h with h;injection h with h1 h2;subst h1;subst h2;exact hF) (fun _ h=>absurd (Option.some.inj h) (Nat.ne_of_beq_eq_false hsd)) k
end
/-- A beginning of a row whose place is known. -/
theorem row_conv {α:Type} {T:Ty α} {xs ys:List α} {pre post:List Pr} {b o e cap:Nat} (hpre:pre.length=o) (hle:(xs++ys).length≤cap) (hcap:cap≤maxLen) (hroom:o+cap*T.sz≤(pre++flat T (xs++ys)++post).length) : ∀ H w,(own b e (pre++flat T (xs++ys)++post)).ok H w→(row (.slice (some ⟨b,o,none⟩) xs.length cap) e T xs).ok H w∧(row (.slice (some ⟨b,o,none⟩) xs.length cap) e T xs).blk=(own b e (pre++flat T (xs++ys)++post)).blk:=fun H w h=>by
  refine ⟨row_of h hroom (by rw [List.length_append] at hle;omega) hcap ?_,rfl⟩
  subst hpre
  rw [List.append_assoc,List.drop_left,flat_app,List.append_assoc, ← flat_len,List.take_left]
section
variable {P:Program} {ops:Array Oper} {Γ:Env} {Δ:List Res} {rest:List Oper} {ty:Nat} {pos:String} {af:Array Edge} {K:Env→Fresh→Prop} {F:Fresh} {ts:List (Option Nat × Option Nat)}
/-- A cell of a block whose place is known. -/
theorem PRunW.ldC {s d b o e t:Nat} {R0:Item} {φs:List Pr} {φ:Pr} {p:Operand} (hds:d ≠ s) (hR : ∀ u H w,(R0 u).ok H w→R0 u=own b e φs) (hF:lkF F s=some R0) (hpp:opd Γ p=some (is (.pointer (some ⟨b,o,none⟩)))) [TSz P t 1] [TAg P t false] (hx:φs[o]?=some φ)
    (k:PRunW P ops Δ rest ts ((d,φ)::Γ) ((s,R0)::dropS (dropS F s) s) K):PRunW P ops Δ (⟨some d, .load t p,ty,pos,af,none⟩::rest) ((some s,some s)::ts) Γ F K:=by
  refine PRunW.e (φ:=φ) ⟨some (s,R0),some (s,R0)⟩ ?_ (fun s' R h=>by injection h with h;injection h with h1 h2;subst h1;subst h2;exact hF) (fun _ _=>rfl) k
  intro H a w Q K hxx hs hr hb hsz hc hK
  obtain ⟨u,hu,hok,hbk⟩:=hc s _ rfl
  have e0:=hR u H w hok
  have hok':=hok
  rw [e0] at hok
  have hL:=op_ocell (P:=P) (Γ:=Γ) (Δ:=[own b e φs]) (d:=some d) (ty:=ty) (pos:=pos) (af:=af) (g:=none) (t:=t) hpp List.mem_cons_self hx
  refine hL H a w Q K hxx hs (fun r hr=>by rcases List.mem_singleton.1 hr with rfl;exact hok) (fun b' hb'=>?_) fun v' H' w' E hv'=>?_
  · have:b'=b:=by simpa [own] using hb'
    subst this
    exact hbk b' (by rw [e0];rfl)
  · refine hK v' H' w' E.le (fun b o hb _=>E.old b o hb) E.sat E.fr.os E.fr.tape E.fr.output E.fr.size (fun k hk _=>E.fr.block k hk (by simp)) hv' fun p R hp=>?_
    injection hp with hp
    injection hp with hp1 hp2
    subst hp1;subst hp2
    refine ⟨u,by simp [Act.put,Array.getElem?_setIfInBounds_ne hds,hu],(R0 u).st E.le (fun b' hb'=>?_) hok',fun b' hb' => .inl ⟨s,R0,u,rfl,hu,hb'⟩⟩
    have hlt:=hbk b' hb'
    exact ⟨E.fr.block b' hlt (by simp),fun o=>E.old b' o hlt⟩
end
section
variable {P:Program} {Γ:Env} {Δ:List Res} {d:Option Nat} {ty:Nat} {pos:String} {af:Array Edge} {g:Option (Nat × Bool)} {x y:Operand} {t yt:Nat}
theorem wrapu' {n:Nat} (h:n < 18446744073709551616):IntKind.u64.wrap (n:Int)=(n:Int):=by
  simp [IntKind.wrap,IntKind.bits,IntKind.signed];omega
theorem op_andu {m n:Nat} (h1:opd Γ x=some (is (.int .u64 (m:Int)))) (h2:opd Γ y=some (is (.int .u64 (n:Int)))) (hm:m < 2 ^ 64) (hn:n < 2 ^ 64):OpP P Γ Δ ⟨d, .binOp .and t x y yt,ty,pos,af,g⟩ (is (.int .u64 ((m &&& n:Nat):Int))) :=
  op_andI h1 h2 (by
    have e1:(BitVec.ofInt IntKind.u64.bits (m:Int)).toNat=m:=by
      rw [BitVec.ofInt_natCast,BitVec.toNat_ofNat]
      exact Nat.mod_eq_of_lt hm
    have e2:(BitVec.ofInt IntKind.u64.bits (n:Int)).toNat=n:=by
      rw [BitVec.ofInt_natCast,BitVec.toNat_ofNat]
      exact Nat.mod_eq_of_lt hn
    rw [BitVec.toNat_and,e1,e2]
    have:m &&& n≤m:=Nat.and_le_left
    exact wrapu' (by have:(18446744073709551616:Nat)=2 ^ 64:=rfl;omega))
theorem op_anylen {n e:Nat} [ht:TSl P t e] (h:opd Γ x=some (anySl n)):OpP P Γ Δ ⟨d, .call ⟨.builtin .len, #[x], #[t]⟩,ty,pos,af,g⟩ (is (.int .i64 (n:Int))) :=
  OpP.same fun H a w hx hs=>by
    obtain ⟨A,c,hv⟩:=hx x (by simp [Op.operands,Call.operands]) _ h
    refine ⟨_,run_builtin (as:=[x]) fun c=>?_,rfl⟩
    refine run_value (x:=Builtin.len_ #[t] ty #[a.eval x]) ?_
    rw [hv]
    exact (run_bind (underlying t) _ w (run_underlying' ht.h)).trans rfl
theorem anySl_is {A:Option Addr} {n c:Nat} : ∀ (H:IH) (v:Value),(is (.slice A n c)).h H v→(anySl n).h H v:=fun _ _ h=>⟨A,c,h⟩
theorem anySl_sl {α:Type} {T:Ty α} {xs:List α} : ∀ (H:IH) (v:Value),(sl T xs).h H v→(anySl xs.length).h H v:=fun _ _ ⟨A,c,h,_⟩=>⟨A,c,h⟩
end
/-! ### Blocks and rows that are given up -/
section
variable {C:Cx} {Γ:Env} {Δ Δ':List Res} {Q:Exit→Act→World→Prop} {ops:Array Oper} {rest:List Oper}
theorem St.frzB {b e d:Nat} {φs:List Pr} {H:IH} {a:Act} {w:World} (S:St C Γ Δ H a w) (hd:look Γ d=some (is (.pointer (some ⟨b,0,none⟩)))) (hp:Δ.Perm (L.own b e φs::Δ')) : ∃ H',St C ((d,ptr φs)::Γ) Δ' H' a w:=by
  have ho:=S.res _ (hp.mem_iff.2 List.mem_cons_self)
  obtain ⟨cs,hh,hcs⟩:=own_cells ho
  obtain ⟨S1,hle⟩:=S.freezeB (b:=b) (cs:=cs) hp rfl ho.2 ⟨e,(0,0),hh⟩
  refine ⟨H.add b cs,S1.weak fun t φ ht=>?_⟩
  unfold look at ht
  split at ht
  · rename_i hk
    have hk:=Nat.eq_of_beq_eq_true hk
    subst hk
    injection ht with ht;subst ht
    obtain ⟨v,hv,h2⟩:=S1.env d _ hd
    refine ⟨v,hv,b,0,h2,fun i φ hi=>?_⟩
    obtain ⟨c,hc,hφ⟩:=hcs.get i φ hi
    refine ⟨c,?_,Pr.c_mono hle hφ⟩
    unfold IH.add
    rw [if_pos rfl,Nat.zero_add]
    exact hc
  · exact S1.env t φ ht
theorem J.frzB {c:Code} {b e:Nat} {φs:List Pr} (d:Nat) (hd:look Γ d=some (is (.pointer (some ⟨b,0,none⟩)))) (hp:Δ.Perm (own b e φs::Δ')) (k:J C ((d,ptr φs)::Γ) Δ' c Q):J C Γ Δ c Q:=fun H a w S=>by
  obtain ⟨H',S'⟩:=S.frzB hd hp
  exact k H' a w S'
theorem Lq.frzB {b e:Nat} {φs:List Pr} (d:Nat) (hd:look Γ d=some (is (.pointer (some ⟨b,0,none⟩)))) (hp:Δ.Perm (own b e φs::Δ')) (k:Lq C ((d,ptr φs)::Γ) Δ' ops rest Q):Lq C Γ Δ ops rest Q:=fun H a w S=>by
  obtain ⟨H',S'⟩:=S.frzB hd hp
  exact k H' a w S'
theorem drop_st {C:Cx} {Γ:Env} {Δ':List Res} {H:IH} {a:Act} {w:World} : ∀ {D Δ:List Res},St C Γ Δ H a w→Δ.Perm (Δ'++D)→St C Γ Δ' H a w
  | [],_,S,hp=>S.perm (by rw [List.append_nil] at hp;exact hp)
  | _::_,_,S,hp=>drop_st (S.lose (hp.trans List.perm_middle)) (List.Perm.refl _)
/-- What is owned may be forgotten. -/
theorem Lq.sub {D:List Res} (hp:Δ.Perm (Δ'++D)) (k:Lq C Γ Δ' ops rest Q):Lq C Γ Δ ops rest Q:=fun H a w S =>
  k H a w (drop_st S hp)
end
section
variable {P:Program} {Γ:Env} {V W V1:VS} {φ:Pr} {ty:Nat} {pos:String} {af:Array Edge} {d:Option Nat} {g:Option (Nat × Bool)}
theorem star_swap {Δ:List Res} (h:star V W Δ):star W V Δ:=let ⟨D1,D2,h1,h2,hp⟩:=h;⟨D2,D1,h2,h1,hp.trans List.perm_append_comm⟩
theorem star_mk {D1 D2:List Res} (h1:V D1) (h2:W D2):star V W (D1++D2):=⟨D1,D2,h1,h2,List.Perm.refl _⟩
def top:VS:=fun _=>True
theorem opV_call2 {f:Nat} {φs:List Pr} {xs:List Operand} {ats:Array Nat} (F:FnV P f φs V φ V1) (h:opds Γ xs φs):OpV P Γ (star W V) ⟨d, .call ⟨.value (.func f),xs.toArray,ats⟩,ty,pos,af,g⟩ φ (star W V1) :=
  (opV_call F h).to (fun _=>star_swap) (fun _=>star_swap)
/-- A row that is yielded, known for good. -/
theorem FnV.frz {f:Nat} {φs:List Pr} {α:Type} {T:Ty α} {l:List α} {e:Nat} (F : ∀ Δ,V Δ→FnR P f φs Δ (fun ψ Δ' => ∃ A c,ψ=is (.slice A l.length c) ∧ ∃ Δ1,V1 Δ1∧Δ'=row (.slice A l.length c) e T l::Δ1)):FnV P f φs V (sl T l) V1:=fun Δ hV =>
  ⟨(F Δ hV).ent,fun H w vs hs hv hr hn hb=>((F Δ hV).run H w vs hs hv hr hn hb).mono fun e' w' hR=>by
    obtain ⟨v,H',ψ,Δ',rfl,⟨A,c,rfl,Δ1,hV1,rfl⟩,hψ,hsat,hok,hnd',hblk,hle,hfr,hkk⟩:=hR
    have hψ:v = .slice A l.length c:=hψ
    subst hψ
    obtain ⟨H2,k1,k2,k3,k4⟩:=row_freeze hsat (hok _ List.mem_cons_self)
    have hcons : ∀ b,(row (.slice A l.length c) e T l).blk=some b→b ∈ blks (row (.slice A l.length c) e T l::Δ1):=fun b hb=>by unfold blks;rw [List.filterMap_cons,hb];exact List.mem_cons_self
    have htail : ∀ b ∈ blks Δ1,b ∈ blks (row (.slice A l.length c) e T l::Δ1)∧(row (.slice A l.length c) e T l).blk ≠ some b:=fun b hb=>by
      unfold blks at hnd' hb ⊢
      rw [List.filterMap_cons] at hnd' ⊢
      cases hbb:(row (.slice A l.length c) e T l).blk with
      | none=>exact ⟨hb,fun h=>by cases h⟩
      | some b' =>
        rw [hbb] at hnd'
        refine ⟨List.mem_cons_of_mem _ hb,fun h=>?_⟩
        injection h with h
        exact (List.nodup_cons.1 hnd').1 (h ▸ hb)
    refine ⟨_,H2,sl T l,Δ1,rfl,⟨rfl,hV1⟩,k3,k2,fun r hr=>r.st k1 (fun b hb=>⟨rfl,fun o=>k4 b o (htail b (List.mem_filterMap.2 ⟨r,hr,hb⟩)).2⟩) (hok r (List.mem_cons_of_mem _ hr)),?_,fun b hb=>hblk b (htail b hb).1,IH.le_trans hle k1,hfr,fun b o hb hx=>?_⟩
    · unfold blks at hnd' ⊢
      rw [List.filterMap_cons] at hnd'
      cases hbb:(row (.slice A l.length c) e T l).blk with
      | none=>rw [hbb] at hnd';exact hnd'
      | some b'=>rw [hbb] at hnd';exact (List.nodup_cons.1 hnd').2
    · rw [k4 b o (fun hb2=>?_)]
      · exact hkk b o hb hx
      · rcases (hblk b (hcons b hb2)).2 with h|h
        · exact hx h
        · omega⟩
end
end Go.Proofs.YtljbbajelkkafaaDoor.L
