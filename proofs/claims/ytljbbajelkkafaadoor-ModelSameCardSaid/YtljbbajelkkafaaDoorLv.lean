/-
  Rules: ranges over functions.
-/
import Derived.Test.YtljbbajelkkafaaDoorLu
set_option linter.unusedVariables false
set_option linter.unusedSimpArgs false
namespace Go.Proofs.YtljbbajelkkafaaDoor.L
open Go
set_option linter.unusedSectionVars false
variable [Globs]
/-- An object of the heap that is no variable. -/
def objR (b:Nat) (o:Obj):Res where
  blk:=some b
  ok:=fun H w=>w.heap[b]?=some o ∧ ∀ k,H b k=none
  st:=fun hle h ⟨h1,h2⟩=>by
    obtain ⟨k1,k2⟩:=h b rfl
    exact ⟨by rw [k1];exact h1,fun o=>by rw [k2 o];exact h2 o⟩
/-- What was known at some time, and is for good. -/
def leR (H1:IH):Res where
  blk:=none
  ok:=fun H _=>IH.le H1 H
  st:=fun hle _ h=>IH.le_trans h hle
theorem blks_obj (l:Nat) (o:Obj) (Δ:List Res):blks (objR l o::Δ)=l::blks Δ:=rfl
theorem blks_le (H1:IH) (Δ:List Res):blks (leR H1::Δ)=blks Δ:=rfl
theorem putObj_size (w:World) (l:Nat) (o:Obj):(w.putObj l o).heap.size=w.heap.size:=by simp [World.putObj]
theorem fr_putObj {X:List Nat} {w0 w:World} {l:Nat} (o:Obj) (h:Fr X w0 w) (hl:l ∈ X ∨ w0.heap.size≤l):Fr X w0 (w.putObj l o) :=
  ⟨h.os,h.tape,h.output,by rw [putObj_size];exact h.size,fun k hk hx=>by
    have hne:k ≠ l:=fun e=>by
      subst e
      rcases hl with h1|h1
      · exact hx h1
      · omega
    rw [World.putObj_heap_other hne]
    exact h.block k hk hx⟩
theorem sat_putObj {H:IH} {w:World} {l:Nat} (o:Obj) (h:Sat H w) (hn : ∀ k,H l k=none):Sat H (w.putObj l o) :=
  ⟨h.gk,fun b k v hv=>by
    have hne:b ≠ l:=fun e=>by subst e;rw [hn k] at hv;cases hv
    exact (World.cell?_of_block (w:=w) (a:=⟨b,k,none⟩) (World.putObj_heap_other hne)).trans (h.cell b k v hv)⟩
section
variable {C:Cx} {Γ:Env} {Δ:List Res} {H:IH} {a:Act} {w:World}
theorem St.putObj {l:Nat} {o:Obj} (o':Obj) (S:St C Γ (objR l o::Δ) H a w):St C Γ (objR l o'::Δ) H a (w.putObj l o'):=by
  obtain ⟨hl,hn⟩:=S.res _ List.mem_cons_self
  have hb:=S.own l (show l ∈ blks (objR l o::Δ) from List.mem_cons_self)
  have hnd:(l::blks Δ).Nodup:=S.dis
  refine ⟨S.dfr,S.siz,S.env,sat_putObj _ S.sat hn,fun r hr=>?_,S.dis,fun b hb=>?_,S.le,fr_putObj _ S.fr hb.2,S.hk⟩
  · rcases List.mem_cons.1 hr with rfl|hr2
    · exact ⟨World.putObj_heap_same hb.1,hn⟩
    · refine r.st (IH.le_refl _) (fun b hbb=>⟨World.putObj_heap_other fun e=>?_,fun _=>rfl⟩) (S.res r (List.mem_cons_of_mem _ hr2))
      exact (List.nodup_cons.1 hnd).1 (e ▸ List.mem_filterMap.2 ⟨r,hr2,hbb⟩)
  · rw [putObj_size]
    exact S.own b hb
/-- What a call leaves. -/
theorem St.back {Δ0 Δf:List Res} {post:Pr→List Res→Prop} {e:Ending} {w':World} (S:St C Γ Δ H a w) (hp:Δ.Perm (Δ0++Δf)) (R:RetR H w (blks Δ0) post e w') :
    ∃ v H' ψ Δ',e = .returned v∧post ψ Δ'∧ψ.h H' v∧Sat H' w'∧St C Γ (Δ'++Δf) H' a w':=by
  have hf:(blks Δ).Perm (blks Δ0++blks Δf):=by
    have:=hp.filterMap Res.blk
    rwa [List.filterMap_append] at this
  have hnd:=hf.nodup_iff.1 S.dis
  obtain ⟨hn0,hnf,hdis⟩:=List.nodup_append.1 hnd
  obtain ⟨v,H',ψ,Δ',rfl,hpost,hψ,hsat,hok,hnd',hblk,hle,hfr,hkk⟩:=R
  have hfo : ∀ b ∈ blks Δf,b < w.heap.size∧b ∉ blks Δ0:=fun b hb=>⟨(S.own b (hf.mem_iff.2 (List.mem_append_right _ hb))).1,fun h0=>hdis b h0 b hb rfl⟩
  refine ⟨v,H',ψ,Δ',rfl,hpost,hψ,hsat,S.dfr,S.siz,fun t φ ht=>?_,hsat,fun r hr=>?_,?_,fun b hb=>?_,IH.le_trans S.le hle,?_,fun b o hb hx=>?_⟩
  · obtain ⟨u,hu,hφ⟩:=S.env t φ ht
    exact ⟨u,hu,φ.mono hle hφ⟩
  · rcases List.mem_append.1 hr with hr|hr
    · exact hok r hr
    · refine r.st hle (fun b hb=>?_) (S.res r (hp.mem_iff.2 (List.mem_append_right _ hr)))
      obtain ⟨h1,h2⟩:=hfo b (List.mem_filterMap.2 ⟨r,hr,hb⟩)
      exact ⟨hfr.block b h1 h2,fun o=>hkk b o h1 h2⟩
  · show (List.filterMap Res.blk (Δ'++Δf)).Nodup
    rw [List.filterMap_append]
    refine List.nodup_append.2 ⟨hnd',hnf,fun x hx y hy he=>?_⟩
    subst he
    obtain ⟨h1,h2⟩:=hfo x hy
    rcases (hblk x hx).2 with h3|h3
    · exact h2 h3
    · omega
  · have hb:b ∈ List.filterMap Res.blk (Δ'++Δf):=hb
    rw [List.filterMap_append] at hb
    rcases List.mem_append.1 hb with hb|hb
    · refine ⟨(hblk b hb).1,?_⟩
      rcases (hblk b hb).2 with h3|h3
      · exact (S.own b (hf.mem_iff.2 (List.mem_append_left _ h3))).2
      · exact .inr (Nat.le_trans S.fr.size h3)
    · have:=S.own b (hf.mem_iff.2 (List.mem_append_right _ hb))
      exact ⟨Nat.lt_of_lt_of_le this.1 hfr.size,this.2⟩
  · refine ⟨hfr.os.trans S.fr.os,hfr.tape.trans S.fr.tape,hfr.output.trans S.fr.output,Nat.le_trans S.fr.size hfr.size,fun j hj hjX=>?_⟩
    refine (hfr.block j (Nat.lt_of_lt_of_le hj S.fr.size) fun h0=>?_).trans (S.fr.block j hj hjX)
    rcases (S.own j (hf.mem_iff.2 (List.mem_append_left _ h0))).2 with h|h
    · exact hjX h
    · omega
  · refine (hkk b o (Nat.lt_of_lt_of_le hb S.fr.size) fun h0=>?_).trans (S.hk b o hb hx)
    rcases (S.own b (hf.mem_iff.2 (List.mem_append_left _ h0))).2 with h|h
    · exact hx h
    · omega
end
/-- What a call of a loop's yield does. -/
structure YR (P:Program) (l:Nat) (φs:List Pr) (Δ0:List Res) (post:List Res→Prop):Prop where
  run : ∀ H w vs,Sat H w→All2 (fun φ v=>φ.h H v) φs vs→(∀ r ∈ Δ0,r.ok H w)→(blks Δ0).Nodup→(∀ b ∈ blks Δ0,b < w.heap.size) →
    ∃ f tm as bd,(Instr.yield l vs.toArray).run P w = .ok (.round l f tm as bd) w∧RoundIn Fence.wide 0 P l f tm as bd w (RetR H w (blks Δ0) fun ψ Δ'=>ψ=is (.bool true)∧post Δ')
section
variable {C:Cx} {Γ:Env} {Δ:List Res} {ops:Array Oper} {rest:List Oper} {Q:Exit→Act→World→Prop} {ty:Nat} {pos:String} {af:Array Edge}
theorem Lq.callY {d l:Nat} {φs:List Pr} {Δ0 Δf:List Res} {post:List Res→Prop} {xs:List Operand} {y:Operand} {ats:Array Nat} (Y:YR C.P l φs Δ0 post) (hd:Nat.blt d C.n=true) (hy:opd Γ y=some (is (.func (.yield l) #[] #[]))) (h:opds Γ xs φs) (hp:Δ.Perm (Δ0++Δf))
    (k : ∀ Δ',post Δ'→Lq C ((d,is (.bool true))::Γ) (Δ'++Δf) ops rest Q):Lq C Γ Δ ops (⟨some d, .call ⟨.value y,xs.toArray,ats⟩,ty,pos,af,none⟩::rest) Q:=by
  intro H a w S
  refine wpListIn_plain rfl fun K hK=>?_
  have hargs:=opds.all (ρ:=a.eval) (H:=H) h (fun x hxx ψ hψ=>S.opd hψ)
  have hv:a.eval y = .func (.yield l) #[] #[]:=S.opd hy
  have hf:(blks Δ).Perm (blks Δ0++blks Δf):=by
    have:=hp.filterMap Res.blk
    rwa [List.filterMap_append] at this
  obtain ⟨hn0,_,_⟩:=List.nodup_append.1 (hf.nodup_iff.1 S.dis)
  obtain ⟨f,tm,as,bd,hyr,hR⟩:=Y.run H w _ S.sat hargs (fun r hr=>S.res r (hp.mem_iff.2 (List.mem_append_left _ hr))) hn0 (fun b hb=>(S.own b (hf.mem_iff.2 (List.mem_append_left _ hb))).1)
  have hrun:(execOp a.eval ⟨some d, .call ⟨.value y,xs.toArray,ats⟩,ty,pos,af,none⟩).run C.P w = .ok (.round l f tm as bd) w:=by
    have h1:(Instr.yield l (#[]++xs.toArray.map a.eval)).run C.P w = .ok (.round l f tm as bd) w:=by
      rw [Array.empty_append,List.map_toArray]
      exact hyr
    have h2:(execOp a.eval ⟨some d, .call ⟨.value y,xs.toArray,ats⟩,ty,pos,af,none⟩).run C.P w=((do let dd ← Deferred.ofValue (a.eval y) (xs.toArray.map a.eval);invoke dd.target dd.args:Sem Next)).run C.P w:=rfl
    rw [h2,hv]
    exact h1
  unfold Oper.wpIn
  refine ⟨fun _ _=>trivial,?_⟩
  rw [Oper.semAt_eq _ _ _ (fun c hc=>by cases hc),hrun,Oper.uponIn_round]
  refine ⟨fun hh=>(by cases hh),?_⟩
  have hR':RoundIn (fen C.ro) (0 - 1) C.P l f tm as bd w _:=hR
  refine hR'.mono fun e w' hret=>?_
  obtain ⟨v,H',ψ,Δ',rfl,⟨rfl,hpost⟩,hψ,hsat,hS⟩:=S.back hp hret
  exact hK _ _ (k Δ' hpost H' _ w' (hS.put (Ext.refl hsat) d (blt hd) v _ hψ))
end
/-- What a loop over a function lays. -/
def loopRec (fn:FuncId) (tm:Array Value) (ps:Array Tmp) (assign body:Code) (D:Nat):Loop:={ state := .ready,pending:=none,fn,tmps:=tm,params:=ps,assign,body,defers:=D }
def loopL (l:Nat) (r:Loop) (H1:IH) (Δ:List Res):List Res:=leR H1::objR l (.loop r)::Δ
/-- One round: its values given to the loop's variables, then its body. -/
theorem YR.of {P:Program} {l n p D:Nat} {fn:FuncId} {tm:Array Value} {assign body:Code} {H1:IH} {Γ Γ1:Env} {χ:Pr} {Δ0:List Res} {post:List Res→Prop} (hn:tm.size=n) (hpn:p < n) (hsnap : ∀ t φ,look Γ t=some φ → ∃ v,tm[t]?=some v∧φ.h H1 v)
    (hA : ∀ w0 H0 X,J ⟨P,n,w0,H0,X,some l,[]⟩ ((p,χ)::Γ) Δ0 assign (Exit.then (Mid ⟨P,n,w0,H0,X,some l,[]⟩ (fun _:Unit=>True) (fun _=>Γ1) (fun _=>Δ0)) (fun _ _ _=>False)))
    (hB : ∀ w0 H0 X,J ⟨P,n,w0,H0,X,some l,[]⟩ Γ1 Δ0 body (Exit.then (Mid ⟨P,n,w0,H0,X,some l,[]⟩ post (fun _=>[]) (fun Δ'=>Δ')) (fun _ _ _=>False))) :
    YR P l [χ] (loopL l (loopRec fn tm #[p] assign body D) H1 Δ0) (fun Δ' => ∃ Δc,post Δc∧Δ'=loopL l (loopRec fn tm #[p] assign body D) H1 Δc):=by
  refine ⟨fun H w vs hs hvs hr hnd hlt=>?_⟩
  match vs,hvs with
  | [v],⟨hχ,_⟩ =>
  have hle:IH.le H1 H:=hr _ List.mem_cons_self
  obtain ⟨hl,hln⟩:=hr (objR l _) (List.mem_cons_of_mem _ List.mem_cons_self)
  have hnd:(l::blks Δ0).Nodup:=hnd
  obtain ⟨hl0,hnd0⟩:=List.nodup_cons.1 hnd
  have hlw:l < w.heap.size:=hlt l List.mem_cons_self
  have hlt0 : ∀ b ∈ blks Δ0,b < w.heap.size:=fun b hb=>hlt b (List.mem_cons_of_mem _ hb)
  refine ⟨_,_,_,_,run_yield hl (by rfl),?_⟩
  refine roundIn_of_wpIn (F:=Fence.wide) (n:=0) trivial ?_
  have hX0 : ∀ r ∈ Δ0,r.ok H w:=fun r h=>hr r (List.mem_cons_of_mem _ (List.mem_cons_of_mem _ h))
  have S0:St ⟨P,n,w,H,blks Δ0,some l,[]⟩ ((p,χ)::Γ) Δ0 H { tmps:=tm.setIfInBounds p v,defers:=[] } w:=by
    refine ⟨rfl,by simp [hn],fun t φ ht=>?_,hs,hX0,hnd0,fun b hb=>⟨hlt0 b hb, .inl hb⟩,IH.le_refl _,Fr.refl _ _,fun _ _ _ _=>rfl⟩
    unfold look at ht
    split at ht
    · rename_i hk
      have hk:=Nat.eq_of_beq_eq_true hk
      subst hk
      injection ht with ht;subst ht
      exact ⟨v,by simp [hn,hpn],hχ⟩
    · rename_i hk
      obtain ⟨u,hu,hφ⟩:=hsnap t φ ht
      have hne:p ≠ t:=Nat.ne_of_beq_eq_false hk
      exact ⟨u,by simp [Array.getElem?_setIfInBounds_ne hne,hu],φ.mono hle hφ⟩
  have htm:Array.foldl (fun (tmps:Array Value) (x:Tmp × Value)=>match x with|(t,a)=>tmps.setIfInBounds t a) (loopRec fn tm #[p] assign body D).tmps ((loopRec fn tm #[p] assign body D).params.zip #[v])=tm.setIfInBounds p v:=by simp [loopRec]
  rw [← htm] at S0
  refine wpIn_mono (hA w H (blks Δ0) H _ w S0) fun e a1 w1 h1=>?_
  cases e with
  | normal =>
    obtain ⟨_,H2,_,S1⟩:=h1
    have hw1:w1.heap[l]?=some (.loop (loopRec fn tm #[p] assign body D)):=(S1.fr.block l hlw hl0).trans hl
    have hH2 : ∀ k,H2 l k=none:=fun k=>(S1.hk l k hlw hl0).trans (hln k)
    have hl1:l < w1.heap.size:=Nat.lt_of_lt_of_le hlw S1.fr.size
    refine ⟨_,run_beginRound hw1 rfl,?_⟩
    let w2:=w1.putObj l (.loop { loopRec fn tm #[p] assign body D with state := .busy })
    have hne0 : ∀ b ∈ blks Δ0,b ≠ l:=fun b hb e=>hl0 (e ▸ hb)
    have S2:St ⟨P,n,w2,H2,blks Δ0,some l,[]⟩ Γ1 Δ0 H2 a1 w2:=by
      refine ⟨S1.dfr,S1.siz,S1.env,sat_putObj _ S1.sat hH2,fun r h=>?_,S1.dis,fun b hb=>⟨by rw [putObj_size];exact (S1.own b hb).1, .inl hb⟩,IH.le_refl _,Fr.refl _ _,fun _ _ _ _=>rfl⟩
      exact r.st (IH.le_refl _) (fun b hb=>⟨World.putObj_heap_other (hne0 b (List.mem_filterMap.2 ⟨r,h,hb⟩)),fun _=>rfl⟩) (S1.res r h)
    refine wpIn_mono (hB w2 H2 (blks Δ0) H2 a1 w2 S2) fun e a2 w3 h2=>?_
    cases e with
    | normal =>
      obtain ⟨Δc,H3,hpost,S3⟩:=h2
      have hl2:l < w2.heap.size:=by rw [putObj_size];exact hl1
      have hw3:w3.heap[l]?=some (.loop { loopRec fn tm #[p] assign body D with state := .busy }):=(S3.fr.block l hl2 hl0).trans (World.putObj_heap_same hl1)
      have hH3 : ∀ k,H3 l k=none:=fun k=>(S3.hk l k hl2 hl0).trans (hH2 k)
      have hl3:l < w3.heap.size:=Nat.lt_of_lt_of_le hl2 S3.fr.size
      have hlc:l ∉ blks Δc:=fun hm=>by
        rcases (S3.own l hm).2 with h|h
        · exact hl0 h
        · have h:w2.heap.size≤l:=h
          omega
      have hsz2:w2.heap.size=w1.heap.size:=putObj_size _ _ _
      refine ⟨_,_,run_endRound none hw3,_,H3,is (.bool true),loopL l (loopRec fn tm #[p] assign body D) H1 Δc,rfl,⟨rfl,Δc,hpost,rfl⟩,rfl,sat_putObj _ S3.sat hH3,fun r h=>?_,List.nodup_cons.2 ⟨hlc,S3.dis⟩,fun b hb=>?_,IH.le_trans S1.le S3.le,?_,fun b o hb hx=>?_⟩
      · rcases List.mem_cons.1 h with rfl|h
        · exact IH.le_trans hle (IH.le_trans S1.le S3.le)
        · rcases List.mem_cons.1 h with rfl|h
          · exact ⟨World.putObj_heap_same hl3,hH3⟩
          · exact r.st (IH.le_refl _) (fun b hb=>⟨World.putObj_heap_other fun e=>hlc (e ▸ List.mem_filterMap.2 ⟨r,h,hb⟩),fun _=>rfl⟩) (S3.res r h)
      · have hb:b ∈ l::blks Δc:=hb
        rw [putObj_size]
        rcases List.mem_cons.1 hb with rfl|hb
        · exact ⟨hl3, .inl List.mem_cons_self⟩
        · refine ⟨(S3.own b hb).1,?_⟩
          rcases (S3.own b hb).2 with h|h
          · exact .inl (List.mem_cons_of_mem _ h)
          · have h:w2.heap.size≤b:=h
            have:=S1.fr.size
            exact .inr (by have h5:w.heap.size≤w1.heap.size:=this;omega)
      · refine fr_putObj _ ?_ (.inl List.mem_cons_self)
        have f1:Fr (l::blks Δ0) w w2:=fr_putObj _ (S1.fr.weak fun x hx=>List.mem_cons_of_mem _ hx) (.inl List.mem_cons_self)
        exact f1.trans (S3.fr.weak fun x hx=>List.mem_cons_of_mem _ hx)
      · have hx:b ∉ l::blks Δ0:=hx
        have hx0:b ∉ blks Δ0:=fun h=>hx (List.mem_cons_of_mem _ h)
        have h5:w.heap.size≤w1.heap.size:=S1.fr.size
        exact (S3.hk b o (show b < w2.heap.size by omega) hx0).trans (S1.hk b o hb hx0)
    | _=>exact h2.elim
  | _=>exact h1.elim
/-- The same, of two values. -/
theorem YR.of2 {P:Program} {l n p p2 D:Nat} {fn:FuncId} {tm:Array Value} {assign body:Code} {H1:IH} {Γ Γ1:Env} {χ χ2:Pr} {Δ0:List Res} {post:List Res→Prop} (hn:tm.size=n) (hpn:p < n) (hpn2:p2 < n) (hsnap : ∀ t φ,look Γ t=some φ → ∃ v,tm[t]?=some v∧φ.h H1 v)
    (hA : ∀ w0 H0 X,J ⟨P,n,w0,H0,X,some l,[]⟩ ((p2,χ2)::(p,χ)::Γ) Δ0 assign (Exit.then (Mid ⟨P,n,w0,H0,X,some l,[]⟩ (fun _:Unit=>True) (fun _=>Γ1) (fun _=>Δ0)) (fun _ _ _=>False)))
    (hB : ∀ w0 H0 X,J ⟨P,n,w0,H0,X,some l,[]⟩ Γ1 Δ0 body (Exit.then (Mid ⟨P,n,w0,H0,X,some l,[]⟩ post (fun _=>[]) (fun Δ'=>Δ')) (fun _ _ _=>False))) :
    YR P l [χ,χ2] (loopL l (loopRec fn tm #[p,p2] assign body D) H1 Δ0) (fun Δ' => ∃ Δc,post Δc∧Δ'=loopL l (loopRec fn tm #[p,p2] assign body D) H1 Δc):=by
  refine ⟨fun H w vs hs hvs hr hnd hlt=>?_⟩
  match vs,hvs with
  | [v,v2],⟨hχ,hχ2,_⟩ =>
  have hle:IH.le H1 H:=hr _ List.mem_cons_self
  obtain ⟨hl,hln⟩:=hr (objR l _) (List.mem_cons_of_mem _ List.mem_cons_self)
  have hnd:(l::blks Δ0).Nodup:=hnd
  obtain ⟨hl0,hnd0⟩:=List.nodup_cons.1 hnd
  have hlw:l < w.heap.size:=hlt l List.mem_cons_self
  have hlt0 : ∀ b ∈ blks Δ0,b < w.heap.size:=fun b hb=>hlt b (List.mem_cons_of_mem _ hb)
  refine ⟨_,_,_,_,run_yield hl (by rfl),?_⟩
  refine roundIn_of_wpIn (F:=Fence.wide) (n:=0) trivial ?_
  have hX0 : ∀ r ∈ Δ0,r.ok H w:=fun r h=>hr r (List.mem_cons_of_mem _ (List.mem_cons_of_mem _ h))
  have S0:St ⟨P,n,w,H,blks Δ0,some l,[]⟩ ((p2,χ2)::(p,χ)::Γ) Δ0 H { tmps:=(tm.setIfInBounds p v).setIfInBounds p2 v2,defers:=[] } w:=by
    refine ⟨rfl,by simp [hn],fun t φ ht=>?_,hs,hX0,hnd0,fun b hb=>⟨hlt0 b hb, .inl hb⟩,IH.le_refl _,Fr.refl _ _,fun _ _ _ _=>rfl⟩
    unfold look at ht
    split at ht
    · rename_i hk
      have hk:=Nat.eq_of_beq_eq_true hk
      subst hk
      injection ht with ht;subst ht
      exact ⟨v2,by simp [hn,hpn2],hχ2⟩
    · rename_i hk
      have hne2:p2 ≠ t:=Nat.ne_of_beq_eq_false hk
      unfold look at ht
      split at ht
      · rename_i hk
        have hk:=Nat.eq_of_beq_eq_true hk
        subst hk
        injection ht with ht;subst ht
        exact ⟨v,by rw [Array.getElem?_setIfInBounds_ne hne2];simp [hn,hpn],hχ⟩
      · rename_i hk
        obtain ⟨u,hu,hφ⟩:=hsnap t φ ht
        have hne:p ≠ t:=Nat.ne_of_beq_eq_false hk
        exact ⟨u,by rw [Array.getElem?_setIfInBounds_ne hne2,Array.getElem?_setIfInBounds_ne hne,hu],φ.mono hle hφ⟩
  have htm:Array.foldl (fun (tmps:Array Value) (x:Tmp × Value)=>match x with|(t,a)=>tmps.setIfInBounds t a) (loopRec fn tm #[p,p2] assign body D).tmps ((loopRec fn tm #[p,p2] assign body D).params.zip #[v,v2])=(tm.setIfInBounds p v).setIfInBounds p2 v2:=by simp [loopRec]
  rw [← htm] at S0
  refine wpIn_mono (hA w H (blks Δ0) H _ w S0) fun e a1 w1 h1=>?_
  cases e with
  | normal =>
    obtain ⟨_,H2,_,S1⟩:=h1
    have hw1:w1.heap[l]?=some (.loop (loopRec fn tm #[p,p2] assign body D)):=(S1.fr.block l hlw hl0).trans hl
    have hH2 : ∀ k,H2 l k=none:=fun k=>(S1.hk l k hlw hl0).trans (hln k)
    have hl1:l < w1.heap.size:=Nat.lt_of_lt_of_le hlw S1.fr.size
    refine ⟨_,run_beginRound hw1 rfl,?_⟩
    let w2:=w1.putObj l (.loop { loopRec fn tm #[p,p2] assign body D with state := .busy })
    have hne0 : ∀ b ∈ blks Δ0,b ≠ l:=fun b hb e=>hl0 (e ▸ hb)
    have S2:St ⟨P,n,w2,H2,blks Δ0,some l,[]⟩ Γ1 Δ0 H2 a1 w2:=by
      refine ⟨S1.dfr,S1.siz,S1.env,sat_putObj _ S1.sat hH2,fun r h=>?_,S1.dis,fun b hb=>⟨by rw [putObj_size];exact (S1.own b hb).1, .inl hb⟩,IH.le_refl _,Fr.refl _ _,fun _ _ _ _=>rfl⟩
      exact r.st (IH.le_refl _) (fun b hb=>⟨World.putObj_heap_other (hne0 b (List.mem_filterMap.2 ⟨r,h,hb⟩)),fun _=>rfl⟩) (S1.res r h)
    refine wpIn_mono (hB w2 H2 (blks Δ0) H2 a1 w2 S2) fun e a2 w3 h2=>?_
    cases e with
    | normal =>
      obtain ⟨Δc,H3,hpost,S3⟩:=h2
      have hl2:l < w2.heap.size:=by rw [putObj_size];exact hl1
      have hw3:w3.heap[l]?=some (.loop { loopRec fn tm #[p,p2] assign body D with state := .busy }):=(S3.fr.block l hl2 hl0).trans (World.putObj_heap_same hl1)
      have hH3 : ∀ k,H3 l k=none:=fun k=>(S3.hk l k hl2 hl0).trans (hH2 k)
      have hl3:l < w3.heap.size:=Nat.lt_of_lt_of_le hl2 S3.fr.size
      have hlc:l ∉ blks Δc:=fun hm=>by
        rcases (S3.own l hm).2 with h|h
        · exact hl0 h
        · have h:w2.heap.size≤l:=h
          omega
      have hsz2:w2.heap.size=w1.heap.size:=putObj_size _ _ _
      refine ⟨_,_,run_endRound none hw3,_,H3,is (.bool true),loopL l (loopRec fn tm #[p,p2] assign body D) H1 Δc,rfl,⟨rfl,Δc,hpost,rfl⟩,rfl,sat_putObj _ S3.sat hH3,fun r h=>?_,List.nodup_cons.2 ⟨hlc,S3.dis⟩,fun b hb=>?_,IH.le_trans S1.le S3.le,?_,fun b o hb hx=>?_⟩
      · rcases List.mem_cons.1 h with rfl|h
        · exact IH.le_trans hle (IH.le_trans S1.le S3.le)
        · rcases List.mem_cons.1 h with rfl|h
          · exact ⟨World.putObj_heap_same hl3,hH3⟩
          · exact r.st (IH.le_refl _) (fun b hb=>⟨World.putObj_heap_other fun e=>hlc (e ▸ List.mem_filterMap.2 ⟨r,h,hb⟩),fun _=>rfl⟩) (S3.res r h)
      · have hb:b ∈ l::blks Δc:=hb
        rw [putObj_size]
        rcases List.mem_cons.1 hb with rfl|hb
        · exact ⟨hl3, .inl List.mem_cons_self⟩
        · refine ⟨(S3.own b hb).1,?_⟩
          rcases (S3.own b hb).2 with h|h
          · exact .inl (List.mem_cons_of_mem _ h)
          · have h:w2.heap.size≤b:=h
            have:=S1.fr.size
            exact .inr (by have h5:w.heap.size≤w1.heap.size:=this;omega)
      · refine fr_putObj _ ?_ (.inl List.mem_cons_self)
        have f1:Fr (l::blks Δ0) w w2:=fr_putObj _ (S1.fr.weak fun x hx=>List.mem_cons_of_mem _ hx) (.inl List.mem_cons_self)
        exact f1.trans (S3.fr.weak fun x hx=>List.mem_cons_of_mem _ hx)
      · have hx:b ∉ l::blks Δ0:=hx
        have hx0:b ∉ blks Δ0:=fun h=>hx (List.mem_cons_of_mem _ h)
        have h5:w.heap.size≤w1.heap.size:=S1.fr.size
        exact (S3.hk b o (show b < w2.heap.size by omega) hx0).trans (S1.hk b o hb hx0)
    | _=>exact h2.elim
  | _=>exact h1.elim
section
variable {C:Cx} {Γ:Env} {Δ:List Res} {Q:Exit→Act→World→Prop}
theorem perm_in {α:Type} (x y z:α) (A B F:List α):(x::y::z::(A++B++F)).Perm (A++(x::y::B)++(z::F)):=by
  have h1:(z::(A++B++F)).Perm (A++B++z::F):=List.perm_middle.symm
  have h2:(y::(A++B++z::F)).Perm (A++(y::B)++z::F):=by
    rw [List.append_assoc,List.append_assoc]
    exact List.perm_middle.symm
  have h3:(x::(A++(y::B)++z::F)).Perm (A++(x::y::B)++z::F):=by
    rw [List.append_assoc,List.append_assoc]
    exact List.perm_middle.symm
  exact ((h1.cons y).trans h2 |>.cons x).trans h3
/-- A loop over a function, not within another one. -/
theorem J.rangeF {g:Operand} {ps:Array Tmp} {assign body:Code} {gf:Nat} {lb:List Value} {Δ1 Δ0 Δf:List Res} {V:List Res→Prop} (hro:C.ro=none) (hdf:C.df=[]) (hg:opd Γ g=some (is (.func (.func gf) #[] lb.toArray))) (hp:Δ.Perm (Δ1++Δ0++Δf))
    (hF : ∀ (fn:FuncId) (l D:Nat) (tm:Array Value) (H1:IH),tm.size=C.n→(∀ t φ,look Γ t=some φ → ∃ v,tm[t]?=some v∧φ.h H1 v) →
      FnR C.P gf (is (.func (.yield l) #[] #[])::lb.map is) (Δ1++loopL l (loopRec fn tm ps assign body D) H1 Δ0) (fun _ Δ' => ∃ Δc,V Δc∧Δ'=loopL l (loopRec fn tm ps assign body D) H1 Δc))
    (k : ∀ D Δc,V Δc→E ⟨C.P,C.n,C.w0,C.H0,C.X,none,[{ target := .collected D,args := #[] }]⟩ .normal Γ (objR D (.deferred (some []))::(Δc++Δf)) Q):J C Γ Δ (.rangeFunc g ps assign body) Q:=by
  intro H a w S
  rw [hro]
  refine wpIn_rangeFunc fun fn _=>?_
  have hgv:a.eval g = .func (.func gf) #[] lb.toArray:=S.opd hg
  let r:Loop:=loopRec fn a.tmps ps assign body w.heap.size
  let w1:World:=(w.alloc (.deferred (some []))).alloc (.loop r)
  have hs1:(w.alloc (.deferred (some []))).heap.size=w.heap.size+1:=by simp
  have hsW:w1.heap.size=w.heap.size+1+1:=by show ((w.alloc _).alloc _).heap.size=_;simp
  have E1:Ext H w H (w.alloc (.deferred (some []))):=ext_alloc S.sat _
  have E2:Ext H w H w1:=E1.trans (ext_alloc E1.sat _)
  have Sa:St C Γ Δ H a w1:=S.putN E2 undef
  have hownw : ∀ b ∈ blks Δ,b < w.heap.size:=fun b hb=>(S.own b hb).1
  have hsz0:C.w0.heap.size≤w.heap.size:=S.fr.size
  have Sb:St C Γ (objR w.heap.size (.deferred (some []))::Δ) H a w1:=by
    refine Sa.gain (r:=objR w.heap.size (.deferred (some []))) ⟨?_,fun k=>?_⟩ (fun b hb=>?_)
    · show ((w.alloc _).alloc _).heap[w.heap.size]?=_
      rw [RowKit.Below.heap_alloc _ _ _ (by rw [hs1];omega)]
      exact heap_alloc_self w _
    · cases hk:H w.heap.size k with
      | none=>rfl
      | some u=>exact absurd (S.sat.lt hk) (Nat.lt_irrefl _)
    · have hb:some w.heap.size=some b:=hb
      injection hb with hb;subst hb
      exact ⟨by omega, .inr hsz0,fun hm=>absurd (hownw _ hm) (Nat.lt_irrefl _)⟩
  have Sc:St C Γ (objR (w.heap.size+1) (.loop r)::objR w.heap.size (.deferred (some []))::Δ) H a w1:=by
    refine Sb.gain (r:=objR (w.heap.size+1) (.loop r)) ⟨?_,fun k=>?_⟩ (fun b hb=>?_)
    · have:=heap_alloc_self (w.alloc (.deferred (some []))) (.loop r)
      rw [hs1] at this
      exact this
    · cases hk:H (w.heap.size+1) k with
      | none=>rfl
      | some u=>exact absurd (S.sat.lt hk) (by omega)
    · have hb:some (w.heap.size+1)=some b:=hb
      injection hb with hb;subst hb
      refine ⟨by omega, .inr (by omega),fun hm=>?_⟩
      have hm:w.heap.size+1 ∈ w.heap.size::blks Δ:=hm
      rcases List.mem_cons.1 hm with h|h
      · omega
      · have:=hownw _ h;omega
  have Sd:St C Γ (leR H::objR (w.heap.size+1) (.loop r)::objR w.heap.size (.deferred (some []))::Δ) H a w1:=Sc.gain (r:=leR H) (IH.le_refl _) (fun b hb=>by cases hb)
  have hpp:(leR H::objR (w.heap.size+1) (.loop r)::objR w.heap.size (.deferred (some []))::Δ).Perm ((Δ1++loopL (w.heap.size+1) r H Δ0)++(objR w.heap.size (.deferred (some []))::Δf)) :=
    (((hp.cons _).cons _).cons _).trans (perm_in _ _ _ Δ1 Δ0 Δf)
  have hfn:=hF fn (w.heap.size+1) w.heap.size a.tmps H S.siz (fun t φ ht=>S.env t φ ht)
  have hf:(blks (leR H::objR (w.heap.size+1) (.loop r)::objR w.heap.size (.deferred (some []))::Δ)).Perm (blks (Δ1++loopL (w.heap.size+1) r H Δ0)++blks (objR w.heap.size (.deferred (some []))::Δf)):=by
    have:=hpp.filterMap Res.blk
    rwa [List.filterMap_append] at this
  obtain ⟨hn0,_,_⟩:=List.nodup_append.1 (hf.nodup_iff.1 Sd.dis)
  have hcall:=hfn.run H w1 (.func (.yield (w.heap.size+1)) #[] #[]::lb) Sd.sat ⟨rfl,All2.of_is lb⟩ (fun r hr=>Sd.res r (hpp.mem_iff.2 (List.mem_append_left _ hr))) hn0 (fun b hb=>(Sd.own b (hf.mem_iff.2 (List.mem_append_left _ hb))).1)
  refine ⟨w.heap.size+1,[{ target := .collected w.heap.size,args := #[] }],w1,{ target := .fn (.func gf) lb.toArray,args := #[.func (.yield (w.heap.size+1)) #[] #[]] },w1,gf,(.func (.yield (w.heap.size+1)) #[] #[]::lb).toArray,w1,run_enterLoop_outer _ _ _ _ _,?_,fun _ _=>trivial,?_,fun hh=>(by cases hh),?_⟩
  · have e:(resolve a.eval (rangeCall g (w.heap.size+1)) 0).run C.P w1=(Deferred.ofValue (a.eval g) #[.func (.yield (w.heap.size+1)) #[] #[]]).run C.P w1:=by simp [resolve,Act.eval]
    rw [e,hgv]
    rfl
  · have e:(invoke (.fn (.func gf) lb.toArray) #[.func (.yield (w.heap.size+1)) #[] #[]]).run C.P w1=(callFunc gf (#[.func (.yield (w.heap.size+1)) #[] #[]]++lb.toArray)).run C.P w1:=rfl
    show (invoke (.fn (.func gf) lb.toArray) #[.func (.yield (w.heap.size+1)) #[] #[]]).run C.P w1=_
    rw [e,show (#[Value.func (.yield (w.heap.size+1)) #[] #[]]++lb.toArray)=(.func (.yield (w.heap.size+1)) #[] #[]::lb).toArray by simp]
    exact hfn.ent.h _ w1
  · refine callsIn_fen (hcall.mono fun e w3 hR=>?_)
    obtain ⟨v,H',ψ,Δ',rfl,⟨Δc,hV,rfl⟩,_,hsat,hS⟩:=Sd.back hpp hR
    have hl3:=(hS.res (objR (w.heap.size+1) (.loop r)) (List.mem_append_left _ (List.mem_cons_of_mem _ List.mem_cons_self))).1
    refine ⟨none,_,run_endLoop hl3 (by intro h;cases h),?_⟩
    have S4:St C Γ (objR (w.heap.size+1) (.loop r)::(Δc++objR w.heap.size (.deferred (some []))::Δf)) H' a w3:=by
      exact hS.lose (List.Perm.refl _)
    have S5:=S4.putObj (.loop { r with state := .exhausted })
    have S6:=S5.lose (List.Perm.refl _)
    have S7:=S6.perm (show (Δc++objR w.heap.size (.deferred (some []))::Δf).Perm (objR w.heap.size (.deferred (some []))::(Δc++Δf)) from List.perm_middle)
    refine k w.heap.size Δc hV H' _ _ ⟨?_,S7.siz,S7.env,S7.sat,S7.res,S7.dis,S7.own,S7.le,S7.fr,S7.hk⟩
    have:=S.dfr
    rw [hdf] at this
    show _++a.defers=_
    rw [this]
    rfl
end
/-! ### A function's end behind such a loop -/
theorem FnR.mkM {P : Program} {f : Nat} {fn : Func} {c : Code} {φs : List Pr} {Δ0 : List Res} {post : Pr → List Res → Prop} (n : Nat) (hf : P.funcs[f]? = some fn) (hb : fn.body = some c) (hn : (fn.name == "runtime.NumGoroutine") = false) (hk : fn.ntmps = n) (hle : Nat.ble φs.length n = true)
    (h : ∀ w0 H0,J ⟨P,n,w0,H0,blks Δ0,none,[]⟩ (argE 0 φs) Δ0 c (bodyPostM Fence.wide 0 P fn (RetR H0 w0 (blks Δ0) post))):FnR P f φs Δ0 post where
  ent:=enters_of hf hn (by rw [hb];rfl)
  run:=fun H w vs hs hvs hr hnd hlt=>by
    have hlen:=hvs.length
    have hle:=Nat.le_of_ble_eq_true hle
    refine callsIn_wide.1 (callsIn_of_wp_marks (F:=Fence.wide) (n:=0) hf hb trivial (h w H H _ w ?_))
    subst hk
    refine ⟨rfl,by simp;omega,fun t ψ ht=>?_,hs,hr,hnd,fun b hb=>⟨hlt b hb, .inl hb⟩,IH.le_refl _,Fr.refl _ _,fun _ _ _ _=>rfl⟩
    obtain ⟨v,_,hv,hψ⟩:=look_argE φs vs 0 t ψ hvs ht
    have hlt:=(List.getElem?_eq_some_iff.1 hv).1
    refine ⟨v,?_,hψ⟩
    simp only [Nat.sub_zero] at hv hlt
    rw [Array.getElem?_append_left (by simpa using hlt)]
    simpa using hv
section
variable {P:Program} {n:Nat} {w0:World} {H0:IH} {X:List Nat} {Γ:Env} {Δ:List Res} {fn:Func} {R:Ending→World→Prop}
theorem E.markNo (h:E ⟨P,n,w0,H0,X,none,[]⟩ .ret Γ Δ (bodyPost P fn R)):E ⟨P,n,w0,H0,X,none,[]⟩ .ret Γ Δ (bodyPostM Fence.wide 0 P fn R):=fun H a w S=>by
  obtain ⟨h1,v,h2,h3⟩:=h H a w S
  show LeavesInM Fence.wide 0 P fn a.tmps R a.defers .returning w
  rw [h1]
  exact ⟨v,h2,h3⟩
theorem E.mark {D:Nat} {Δ1:List Res} (hp:Δ.Perm (objR D (.deferred (some []))::Δ1)) (h:E ⟨P,n,w0,H0,X,none,[]⟩ .ret Γ Δ1 (bodyPost P fn R)):E ⟨P,n,w0,H0,X,none,[{ target := .collected D,args := #[] }]⟩ .ret Γ Δ (bodyPostM Fence.wide 0 P fn R):=fun H a w S=>by
  have S1:=S.perm hp
  have hD:=(S1.res _ List.mem_cons_self).1
  have S2:=(S1.putObj (.deferred none)).lose (List.Perm.refl _)
  obtain ⟨_,v,h2,h3⟩:=h H { a with defers:=[] } _ ⟨rfl,S2.siz,S2.env,S2.sat,S2.res,S2.dis,S2.own,S2.le,S2.fr,S2.hk⟩
  show LeavesInM Fence.wide 0 P fn a.tmps R a.defers .returning w
  have hdf:a.defers=[{ target := .collected D,args := #[] }]:=S.dfr
  rw [hdf]
  exact ⟨by simp, .inl ⟨D,_,rfl,run_takeDeferred hD,v,h2,h3⟩⟩
end
theorem Lq.perm {C:Cx} {Γ:Env} {Δ Δ':List Res} {ops:Array Oper} {rest:List Oper} {Q:Exit→Act→World→Prop} (hp:Δ.Perm Δ') (k:Lq C Γ Δ' ops rest Q):Lq C Γ Δ ops rest Q:=fun H a w S=>k H a w (S.perm hp)
theorem J.perm {C:Cx} {Γ:Env} {Δ Δ':List Res} {c:Code} {Q:Exit→Act→World→Prop} (hp:Δ.Perm Δ') (k:J C Γ Δ' c Q):J C Γ Δ c Q:=fun H a w S=>k H a w (S.perm hp)
end Go.Proofs.YtljbbajelkkafaaDoor.L
