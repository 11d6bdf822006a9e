import Derived.Test.YtljbbajelkkafaaDoorDt
import Derived.Laws.IdiomStrings
import Derived.Laws.AppendOwn
import Derived.Laws.OwnMore
import Derived.Laws.MakeOwn
import Derived.ChangeKeysEq
/-
  Rules of the logic: functions that own memory,machine words,arrays,rows of bytes,texts.
-/
set_option linter.unusedVariables false
set_option linter.unusedSimpArgs false
namespace Go.Proofs.YtljbbajelkkafaaDoor.L
open Go
set_option linter.unusedSectionVars false
variable [Globs]

/-! ### Functions that own memory -/
def blks (Δ:List Res):List Nat:=Δ.filterMap Res.blk
def RetR (H0:IH) (w0:World) (X:List Nat) (post:Pr→List Res→Prop) (e:Ending) (w':World):Prop :=
  ∃ v H' ψ Δ',e = .returned v∧post ψ Δ'∧ψ.h H' v∧Sat H' w'∧(∀ r ∈ Δ',r.ok H' w')∧(blks Δ').Nodup∧(∀ b ∈ blks Δ',b < w'.heap.size∧(b ∈ X ∨ w0.heap.size≤b))∧IH.le H0 H'∧Fr X w0 w' ∧ ∀ b o,b < w0.heap.size→b ∉ X→H' b o=H0 b o
structure FnR (P:Program) (f:Nat) (φs:List Pr) (Δ0:List Res) (post:Pr→List Res→Prop):Prop where
  ent:Enters P f
  run : ∀ H w vs,Sat H w→All2 (fun φ v=>φ.h H v) φs vs→(∀ r ∈ Δ0,r.ok H w)→(blks Δ0).Nodup→(∀ b ∈ blks Δ0,b < w.heap.size)→Calls P f vs.toArray w (RetR H w (blks Δ0) post)
theorem FnR.to {P:Program} {f:Nat} {φs:List Pr} {Δ0:List Res} {post post':Pr→List Res→Prop} (F:FnR P f φs Δ0 post) (h : ∀ ψ Δ,post ψ Δ→post' ψ Δ):FnR P f φs Δ0 post' :=
  ⟨F.ent,fun H w vs hs ha hr hn hb=>(F.run H w vs hs ha hr hn hb).mono fun e w' ⟨v,H',ψ,Δ',he,hp,k⟩=>⟨v,H',ψ,Δ',he,h _ _ hp,k⟩⟩
theorem FnR.mk' {P : Program} {f : Nat} {fn : Func} {c : Code} {φs : List Pr} {Δ0 : List Res} {post : Pr → List Res → Prop} (n : Nat) (hf : P.funcs[f]? = some fn) (hb : fn.body = some c) (hn : (fn.name == "runtime.NumGoroutine") = false) (hk : fn.ntmps = n) (hle : Nat.ble φs.length n = true)
    (h : ∀ w0 H0,J ⟨P,n,w0,H0,blks Δ0,none,[]⟩ (argE 0 φs) Δ0 c (bodyPost P fn (RetR H0 w0 (blks Δ0) post))):FnR P f φs Δ0 post where
  ent:=enters_of hf hn (by rw [hb];rfl)
  run:=fun H w vs hs hvs hr hnd hlt=>by
    have hlen:=hvs.length
    have hle:=Nat.le_of_ble_eq_true hle
    refine callsIn_wide.1 (callsIn_of_wp (F:=Fence.wide) (n:=0) hf hb trivial (h w H H _ w ?_))
    subst hk
    refine ⟨rfl,by simp;omega,fun t ψ ht=>?_,hs,hr,hnd,fun b hb=>⟨hlt b hb, .inl hb⟩,IH.le_refl _,Fr.refl _ _,fun _ _ _ _=>rfl⟩
    obtain ⟨v,_,hv,hψ⟩:=look_argE φs vs 0 t ψ hvs ht
    have hlt:=(List.getElem?_eq_some_iff.1 hv).1
    refine ⟨v,?_,hψ⟩
    simp only [Nat.sub_zero] at hv hlt
    rw [Array.getElem?_append_left (by simpa using hlt)]
    simpa using hv

section
variable {P:Program} {n:Nat} {w0:World} {H0:IH} {X:List Nat} {Γ:Env} {Δ:List Res} {fn:Func} {post:Pr→List Res→Prop}
theorem St.retR {H:IH} {a:Act} {w:World} (S:St ⟨P,n,w0,H0,X,none,[]⟩ Γ Δ H a w) {Δ' G:List Res} (hΔ:Δ.Perm (Δ'++G)) :
    Sat H w∧(∀ r ∈ Δ',r.ok H w)∧(blks Δ').Nodup∧(∀ b ∈ blks Δ',b < w.heap.size∧(b ∈ X ∨ w0.heap.size≤b))∧IH.le H0 H∧Fr X w0 w ∧ ∀ b o,b < w0.heap.size→b ∉ X→H b o=H0 b o:=by
  have hf:=hΔ.filterMap Res.blk
  rw [List.filterMap_append] at hf
  have hnd:=hf.nodup_iff.1 S.dis
  exact ⟨S.sat,fun r hr=>S.res r (hΔ.mem_iff.2 (List.mem_append_left _ hr)),(List.nodup_append.1 hnd).1,fun b hb=>S.own b (hf.mem_iff.2 (List.mem_append_left _ hb)),S.le,S.fr,S.hk⟩
theorem E.retR0 (e:Exit) (he:e = .ret ∨ e = .normal) {ψ:Pr} {Δ' G:List Res} (hr:fn.results = #[]) (hψ : ∀ H,ψ.h H (.tuple #[])) (hp:post ψ Δ') (hΔ:Δ.Perm (Δ'++G)):E ⟨P,n,w0,H0,X,none,[]⟩ e Γ Δ (bodyPost P fn (RetR H0 w0 X post)):=fun H a w S=>by
  have R:=S.retR hΔ
  rcases he with rfl|rfl
  · exact ⟨S.dfr,_,results_none hr a.tmps P w,_,H,ψ,Δ',rfl,hp,hψ H,R⟩
  · exact ⟨S.dfr,_,results_none hr a.tmps P w,_,H,ψ,Δ',rfl,hp,hψ H,R⟩
theorem E.retR1 {r:Nat} {ψ:Pr} {Δ' G:List Res} (hr:fn.results = #[.tmp r]) (h:look Γ r=some ψ) (hp:post ψ Δ') (hΔ:Δ.Perm (Δ'++G)):E ⟨P,n,w0,H0,X,none,[]⟩ .ret Γ Δ (bodyPost P fn (RetR H0 w0 X post)):=fun H a w S=>by
  obtain ⟨v,hv,hψ⟩:=S.env r ψ h
  refine ⟨S.dfr,v,?_,v,H,ψ,Δ',rfl,hp,hψ,S.retR hΔ⟩
  rw [results_tmp hr a.tmps P w,getD_of hv]
theorem results_cell {α:Type} (T:Td α) {x:α} {r t b e:Nat} {φs:List Pr} {H:IH} {w:World} (tmps:Array Value) (hr:fn.results = #[.cell r t]) (hv:tmps[r]?=some (.pointer (some ⟨b,0,none⟩))) (ho:(own b e φs).ok H w) [TSz P t T.sz] [TAg P t T.ag] (hx:φs.take T.sz=T.cells x) :
    ∃ v,(results fn tmps).run P w = .ok v w∧(T.val x).h H v:=by
  obtain ⟨cs,hh,hcs⟩:=own_cells ho
  have hcs2:=hcs.take T.sz
  rw [hx] at hcs2
  have hl:(cs.take T.sz).length=T.sz:=by rw [← hcs2.length,T.len]
  have hload:=run_loadVar (P:=P) (t:=t) (n:=T.sz) (ag:=T.ag) w b 0 (cs.take T.sz) hl T.one fun j v hj=>by
    rw [cell_at hh]
    rw [List.getElem?_take] at hj
    split at hj
    · rwa [Nat.zero_add]
    · cases hj
  have hin:=T.inn hcs2
  generalize hg:(if T.ag=true then Value.agg (List.take T.sz cs).toArray else (List.take T.sz cs).headD undef)=res at hload hin
  refine ⟨res,?_,hin⟩
  simp [results,hr,hv,asAddr,hload]
theorem E.retRc {α:Type} (T:Td α) {x:α} {r t b e:Nat} {φs:List Pr} {Δ' G:List Res} (hr:fn.results = #[.cell r t]) (h:look Γ r=some (is (.pointer (some ⟨b,0,none⟩)))) (hm:own b e φs ∈ Δ) [TSz P t T.sz] [TAg P t T.ag] (hx:φs.take T.sz=T.cells x) (hp:post (T.val x) Δ') (hΔ:Δ.Perm (Δ'++G)) :
    E ⟨P,n,w0,H0,X,none,[]⟩ .ret Γ Δ (bodyPost P fn (RetR H0 w0 X post)):=fun H a w S=>by
  obtain ⟨v,hv,rfl⟩:=S.env r _ h
  obtain ⟨u,hu,hφ⟩:=results_cell (P:=P) T a.tmps hr hv (S.res _ hm) hx
  exact ⟨S.dfr,u,hu,u,H,_,Δ',rfl,hp,hφ,S.retR hΔ⟩
theorem E.retc {α:Type} (T:Td α) {x:α} {r t b e:Nat} {φs:List Pr} {ψ:Pr} (hr:fn.results = #[.cell r t]) (h:look Γ r=some (is (.pointer (some ⟨b,0,none⟩)))) (hm:own b e φs ∈ Δ) [TSz P t T.sz] [TAg P t T.ag] (hx:φs.take T.sz=T.cells x) (hp:ψ=T.val x) :
    E ⟨P,n,w0,H0,[],none,[]⟩ .ret Γ Δ (bodyPost P fn (RetP H0 w0 ψ)):=fun H a w S=>by
  obtain ⟨v,hv,rfl⟩:=S.env r _ h
  obtain ⟨u,hu,hφ⟩:=results_cell (P:=P) T a.tmps hr hv (S.res _ hm) hx
  exact ⟨S.dfr,u,hu,u,H,rfl,S.ext,hp ▸ hφ⟩
end

section
variable {C:Cx} {Γ:Env} {Δ:List Res} {ops:Array Oper} {rest:List Oper} {Q:Exit→Act→World→Prop} {ty:Nat} {pos:String} {af:Array Edge}
theorem Lq.callR {d:Option Nat} {f:Nat} {φs:List Pr} {Δ0 Δf:List Res} {post:Pr→List Res→Prop} {xs:List Operand} {ats:Array Nat} (F:FnR C.P f φs Δ0 post) (hd : ∀ x,d=some x→x < C.n) (h:opds Γ xs φs) (hp:Δ.Perm (Δ0++Δf))
    (k : ∀ ψ Δ',post ψ Δ'→Lq C (putΓ Γ d ψ) (Δ'++Δf) ops rest Q):Lq C Γ Δ ops (⟨d, .call ⟨.value (.func f),xs.toArray,ats⟩,ty,pos,af,none⟩::rest) Q:=by
  intro H a w S
  refine wpL_plain rfl (fun c hc=>by cases hc) fun K hK=>?_
  have hargs:=opds.all (ρ:=a.eval) (H:=H) h (fun x hxx ψ hψ=>S.opd hψ)
  have hrun:(execOp a.eval ⟨d, .call ⟨.value (.func f),xs.toArray,ats⟩,ty,pos,af,none⟩).run C.P w = .ok (.enter f (xs.map a.eval).toArray) w:=by
    have h1:(callFunc f ((#[]++xs.toArray.map a.eval) ++ #[])).run C.P w = .ok (.enter f (xs.map a.eval).toArray) w:=by
      rw [Array.empty_append,Array.append_empty,List.map_toArray]
      exact F.ent.h _ w
    exact h1
  have hf:(blks Δ).Perm (blks Δ0++blks Δf):=by
    have:=hp.filterMap Res.blk
    rwa [List.filterMap_append] at this
  have hnd:=hf.nodup_iff.1 S.dis
  obtain ⟨hn0,hnf,hdis⟩:=List.nodup_append.1 hnd
  unfold Oper.wp
  rw [hrun]
  rw [Oper.upon_enter]
  refine (F.run H w _ S.sat hargs (fun r hr=>S.res r (hp.mem_iff.2 (List.mem_append_left _ hr))) hn0 (fun b hb=>(S.own b (hf.mem_iff.2 (List.mem_append_left _ hb))).1)).mono fun e w' hR=>?_
  obtain ⟨v,H',ψ,Δ',rfl,hpost,hψ,hsat,hok,hnd',hblk,hle,hfr,hkk⟩:=hR
  have hfo : ∀ b ∈ blks Δf,b < w.heap.size∧b ∉ blks Δ0:=fun b hb=>⟨(S.own b (hf.mem_iff.2 (List.mem_append_right _ hb))).1,fun h0=>hdis b h0 b hb rfl⟩
  have hS:St C Γ (Δ'++Δf) H' a w':=by
    refine ⟨S.dfr,S.siz,fun t φ ht=>?_,hsat,fun r hr=>?_,?_,fun b hb=>?_,IH.le_trans S.le hle,?_,fun b o hb hx=>?_⟩
    · obtain ⟨u,hu,hφ⟩:=S.env t φ ht
      exact ⟨u,hu,φ.mono hle hφ⟩
    · rcases List.mem_append.1 hr with hr|hr
      · exact hok r hr
      · refine r.st hle (fun b hb=>?_) (S.res r (hp.mem_iff.2 (List.mem_append_right _ hr)))
        obtain ⟨h1,h2⟩:=hfo b (List.mem_filterMap.2 ⟨r,hr,hb⟩)
        exact ⟨hfr.block b h1 h2,fun o=>hkk b o h1 h2⟩
    · show (List.filterMap Res.blk (Δ'++Δf)).Nodup
      rw [List.filterMap_append]
      refine List.nodup_append.2 ⟨hnd',hnf,fun x hx y hy he=>?_⟩
      subst he
      obtain ⟨h1,h2⟩:=hfo x hy
      rcases (hblk x hx).2 with h3|h3
      · exact h2 h3
      · omega
    · have hb:b ∈ List.filterMap Res.blk (Δ'++Δf):=hb
      rw [List.filterMap_append] at hb
      rcases List.mem_append.1 hb with hb|hb
      · refine ⟨(hblk b hb).1,?_⟩
        rcases (hblk b hb).2 with h3|h3
        · exact (S.own b (hf.mem_iff.2 (List.mem_append_left _ h3))).2
        · exact .inr (Nat.le_trans S.fr.size h3)
      · have:=S.own b (hf.mem_iff.2 (List.mem_append_right _ hb))
        exact ⟨Nat.lt_of_lt_of_le this.1 hfr.size,this.2⟩
    · refine ⟨hfr.os.trans S.fr.os,hfr.tape.trans S.fr.tape,hfr.output.trans S.fr.output,Nat.le_trans S.fr.size hfr.size,fun j hj hjX=>?_⟩
      refine (hfr.block j (Nat.lt_of_lt_of_le hj S.fr.size) fun h0=>?_).trans (S.fr.block j hj hjX)
      rcases (S.own j (hf.mem_iff.2 (List.mem_append_left _ h0))).2 with h|h
      · exact hjX h
      · omega
    · refine (hkk b o (Nat.lt_of_lt_of_le hb S.fr.size) fun h0=>?_).trans (S.hk b o hb hx)
      rcases (S.own b (hf.mem_iff.2 (List.mem_append_left _ h0))).2 with h|h
      · exact hx h
      · omega
  refine hK _ _ (k ψ Δ' hpost H' _ w' ?_)
  have E:=Ext.refl hsat
  cases d with
  | none=>exact hS.putN E v
  | some d=>exact hS.put E d (hd d rfl) v ψ hψ
/-- A guard that holds. -/
theorem Lq.wanted {o:Oper} {j g:Nat} {want:Bool} (hg:o.guard=some (j,want)) (hj:gslot ops j=some g) (hl:look Γ g=some (is (.bool want))) (k:Lq C Γ Δ ops ({ o with guard:=none }::rest) Q):Lq C Γ Δ ops (o::rest) Q:=by
  intro H a w S
  obtain ⟨v,hv,hψ⟩:=S.env g _ hl
  have hv':v = .bool want:=hψ
  subst hv'
  have hk:=k H a w S
  unfold wpListIn at hk ⊢
  rw [if_pos (show Region.wanted { o with guard:=none } _=true from rfl)] at hk
  rw [if_pos (by simp [Region.wanted,hg,yielded_of hj hv])]
  exact hk
end
end Go.Proofs.YtljbbajelkkafaaDoor.L
/-
  Rules of the logic: machine words,arrays that are owned,slices of them.
-/
set_option linter.unusedVariables false
set_option linter.unusedSimpArgs false
namespace Go.Proofs.YtljbbajelkkafaaDoor.L
open Go
set_option linter.unusedSectionVars false
variable [Globs]

/-! ### Words of 32 bits -/
def w32 (x:UInt32):Value := .int .u32 (x.toNat:Int)
def u32W:Td UInt32 where
  sz:=1
  cells x:=[is (w32 x)]
  len _:=rfl
  ag:=false
  one _:=rfl
  sc x H v _ h:=by have:v=w32 x:=h;subst this;rfl
  pos:=by decide
def shl32 (x:UInt32) (m:Nat):UInt32:=UInt32.ofNat (x.toNat*2 ^ m)
def shr32 (x:UInt32) (m:Nat):UInt32:=UInt32.ofNat (x.toNat / 2 ^ m)
theorem wrapw (n:Nat):IntKind.u32.wrap (n:Int)=((UInt32.ofNat n).toNat:Int):=by
  rw [UInt32.toNat_ofNat']
  simp [IntKind.wrap,IntKind.bits,IntKind.signed]
theorem wrapb (n:Nat):IntKind.u8.wrap (n:Int)=((UInt8.ofNat n).toNat:Int):=by
  rw [UInt8.toNat_ofNat']
  simp [IntKind.wrap,IntKind.bits,IntKind.signed]
theorem ofInt_w (x:UInt32):BitVec.ofInt 32 (x.toNat:Int)=x.toBitVec:=by
  rw [BitVec.ofInt_natCast]
  apply BitVec.eq_of_toNat_eq
  rw [BitVec.toNat_ofNat]
  exact Nat.mod_eq_of_lt x.toBitVec.isLt
theorem ofInt_b (x:UInt8):BitVec.ofInt 8 (x.toNat:Int)=x.toBitVec:=by
  rw [BitVec.ofInt_natCast]
  apply BitVec.eq_of_toNat_eq
  rw [BitVec.toNat_ofNat]
  exact Nat.mod_eq_of_lt x.toBitVec.isLt
theorem wrap_bv (r:BitVec 32):IntKind.u32.wrap (r.toNat:Int)=(((⟨r⟩:UInt32)).toNat:Int):=by
  rw [wrapw,UInt32.toNat_ofNat']
  congr 1
  exact Nat.mod_eq_of_lt r.isLt
theorem wrap_bb (r:BitVec 8):IntKind.u8.wrap (r.toNat:Int)=(((⟨r⟩:UInt8)).toNat:Int):=by
  rw [wrapb,UInt8.toNat_ofNat']
  congr 1
  exact Nat.mod_eq_of_lt r.isLt

section
variable {P:Program} {Γ:Env} {Δ:List Res} {d:Option Nat} {ty:Nat} {pos:String} {af:Array Edge} {g:Option (Nat × Bool)} {x y:Operand} {t yt:Nat}
theorem op_addw {m n:UInt32} (h1:opd Γ x=some (is (w32 m))) (h2:opd Γ y=some (is (w32 n))):OpP P Γ Δ ⟨d, .binOp .add t x y yt,ty,pos,af,g⟩ (is (w32 (m+n))) :=
  op_add h1 h2 (by rw [← Int.natCast_add,wrapw];congr 1)
theorem op_mulw {m n:UInt32} (h1:opd Γ x=some (is (w32 m))) (h2:opd Γ y=some (is (w32 n))):OpP P Γ Δ ⟨d, .binOp .mul t x y yt,ty,pos,af,g⟩ (is (w32 (m*n))) :=
  op_mul h1 h2 (by rw [← Int.natCast_mul,wrapw];congr 1)
theorem op_andw {m n:UInt32} (h1:opd Γ x=some (is (w32 m))) (h2:opd Γ y=some (is (w32 n))):OpP P Γ Δ ⟨d, .binOp .and t x y yt,ty,pos,af,g⟩ (is (w32 (m &&& n))) :=
  op_int h1 h2 fun w=>by
    simp only [binOp,ne_eq,not_true_eq_false,if_false,Op.intBits]
    show Result.ok (Value.int .u32 (IntKind.u32.wrap ((BitVec.ofInt 32 (m.toNat:Int) &&& BitVec.ofInt 32 (n.toNat:Int)).toNat:Int))) w=_
    rw [ofInt_w,ofInt_w,wrap_bv];rfl
theorem op_orw {m n:UInt32} (h1:opd Γ x=some (is (w32 m))) (h2:opd Γ y=some (is (w32 n))):OpP P Γ Δ ⟨d, .binOp .or t x y yt,ty,pos,af,g⟩ (is (w32 (m ||| n))) :=
  op_int h1 h2 fun w=>by
    simp only [binOp,ne_eq,not_true_eq_false,if_false,Op.intBits]
    show Result.ok (Value.int .u32 (IntKind.u32.wrap ((BitVec.ofInt 32 (m.toNat:Int) ||| BitVec.ofInt 32 (n.toNat:Int)).toNat:Int))) w=_
    rw [ofInt_w,ofInt_w,wrap_bv];rfl
theorem op_xorw {m n:UInt32} (h1:opd Γ x=some (is (w32 m))) (h2:opd Γ y=some (is (w32 n))):OpP P Γ Δ ⟨d, .binOp .xor t x y yt,ty,pos,af,g⟩ (is (w32 (m ^^^ n))) :=
  op_int h1 h2 fun w=>by
    simp only [binOp,ne_eq,not_true_eq_false,if_false,Op.intBits]
    show Result.ok (Value.int .u32 (IntKind.u32.wrap ((BitVec.ofInt 32 (m.toNat:Int) ^^^ BitVec.ofInt 32 (n.toNat:Int)).toNat:Int))) w=_
    rw [ofInt_w,ofInt_w,wrap_bv];rfl
theorem op_notw {m:UInt32} (h1:opd Γ x=some (is (w32 m))):OpP P Γ Δ ⟨d, .unOp .xor t x,ty,pos,af,g⟩ (is (w32 (~~~m))) :=
  OpP.same fun H a w hx hs=>by
    have hv:a.eval x=w32 m:=hx x (by simp [Op.operands]) _ h1
    refine ⟨_,?_,rfl⟩
    simp only [execOp,hv]
    refine run_value ?_
    show Result.ok (Value.int .u32 (IntKind.u32.wrap ((BitVec.ofInt 32 IntKind.u32.max ^^^ BitVec.ofInt 32 (m.toNat:Int)).toNat:Int))) w=_
    rw [ofInt_w,wrap_bv]
    have e:BitVec.ofInt 32 IntKind.u32.max=BitVec.allOnes 32:=by decide
    have e2:(⟨BitVec.ofInt 32 IntKind.u32.max ^^^ m.toBitVec⟩:UInt32) = ~~~m:=by
      rw [e]
      apply UInt32.toBitVec_inj.1
      show BitVec.allOnes 32 ^^^ m.toBitVec = ~~~m.toBitVec
      exact BitVec.allOnes_xor
    rw [e2];rfl
theorem op_shlw {m:UInt32} {k:IntKind} {n:Nat} (h1:opd Γ x=some (is (w32 m))) (h2:opd Γ y=some (is (.int k (n:Int)))) (hn:n≤32):OpP P Γ Δ ⟨d, .binOp .shl t x y yt,ty,pos,af,g⟩ (is (w32 (shl32 m n))) :=
  op_bin h1 h2 fun w=>by
    refine (run_bind _ _ w (show (eqGuard .shl t x y (w32 m) (.int k (n:Int))).run P w = .ok () w from rfl)).trans ?_
    show (Op.shift .shl .u32 (m.toNat:Int) k (n:Int)).run P w=_
    unfold Op.shift
    rw [if_neg (by omega)]
    have e:min (n:Int).toNat IntKind.u32.bits=n:=by show min n 32=n;omega
    simp only [e]
    show Result.ok (Value.int .u32 (IntKind.u32.wrap ((m.toNat:Int)*2 ^ n))) w=_
    have e2:((m.toNat:Int)*2 ^ n)=((m.toNat*2 ^ n:Nat):Int):=by push_cast;rfl
    rw [e2,wrapw];rfl
theorem op_shrw {m:UInt32} {k:IntKind} {n:Nat} (h1:opd Γ x=some (is (w32 m))) (h2:opd Γ y=some (is (.int k (n:Int)))) (hn:n≤32):OpP P Γ Δ ⟨d, .binOp .shr t x y yt,ty,pos,af,g⟩ (is (w32 (shr32 m n))) :=
  op_bin h1 h2 fun w=>by
    refine (run_bind _ _ w (show (eqGuard .shr t x y (w32 m) (.int k (n:Int))).run P w = .ok () w from rfl)).trans ?_
    show (Op.shift .shr .u32 (m.toNat:Int) k (n:Int)).run P w=_
    unfold Op.shift
    rw [if_neg (by omega)]
    have e:min (n:Int).toNat IntKind.u32.bits=n:=by show min n 32=n;omega
    simp only [e]
    show Result.ok (Value.int .u32 ((m.toNat:Int).fdiv (2 ^ n))) w=_
    have e2:((m.toNat:Int).fdiv (2 ^ n))=((m.toNat / 2 ^ n:Nat):Int):=by
      have:((2:Int) ^ n)=((2 ^ n:Nat):Int):=by push_cast;rfl
      rw [this,Int.fdiv_eq_ediv_of_nonneg _ (Int.natCast_nonneg _)];rfl
    rw [e2]
    unfold w32 shr32
    rw [UInt32.toNat_ofNat']
    have hlt:m.toNat / 2 ^ n < 2 ^ 32:=Nat.lt_of_le_of_lt (Nat.div_le_self _ _) m.toBitVec.isLt
    rw [Nat.mod_eq_of_lt hlt]
theorem op_shrn {m n:Nat} {k k2:IntKind} (h1:opd Γ x=some (is (.int k (m:Int)))) (h2:opd Γ y=some (is (.int k2 (n:Int)))) (hn:n≤k.bits):OpP P Γ Δ ⟨d, .binOp .shr t x y yt,ty,pos,af,g⟩ (is (.int k ((m / 2 ^ n:Nat):Int))) :=
  op_bin h1 h2 fun w=>by
    refine (run_bind _ _ w (show (eqGuard .shr t x y (.int k (m:Int)) (.int k2 (n:Int))).run P w = .ok () w from rfl)).trans ?_
    show (Op.shift .shr k (m:Int) k2 (n:Int)).run P w=_
    unfold Op.shift
    rw [if_neg (by omega)]
    have e:min (n:Int).toNat k.bits=n:=by show min n k.bits=n;omega
    simp only [e]
    show Result.ok (Value.int k ((m:Int).fdiv (2 ^ n))) w=_
    have e2:((m:Int).fdiv (2 ^ n))=((m / 2 ^ n:Nat):Int):=by
      have:((2:Int) ^ n)=((2 ^ n:Nat):Int):=by push_cast;rfl
      rw [this,Int.fdiv_eq_ediv_of_nonneg _ (Int.natCast_nonneg _)];rfl
    rw [e2]
theorem op_convbw {c:UInt8} [h1:TInt P t .u8] [h2:TInt P yt .u32] (h:opd Γ x=some (is (.int .u8 (c.toNat:Int)))):OpP P Γ Δ ⟨d, .convert t yt x,ty,pos,af,g⟩ (is (w32 (UInt32.ofNat c.toNat))) :=
  op_conv h (wrapw _)
theorem op_convwi {c:UInt32} [h1:TInt P t .u32] [h2:TInt P yt .i64] (h:opd Γ x=some (is (w32 c))):OpP P Γ Δ ⟨d, .convert t yt x,ty,pos,af,g⟩ (is (.int .i64 (c.toNat:Int))) :=
  op_conv h (by have:=c.toBitVec.isLt;have e:c.toNat=c.toBitVec.toNat:=rfl;exact wrapi _ (by omega) (by omega))
theorem op_convib {n:Nat} {k:IntKind} [h1:TInt P t k] [h2:TInt P yt .u8] (h:opd Γ x=some (is (.int k (n:Int)))):OpP P Γ Δ ⟨d, .convert t yt x,ty,pos,af,g⟩ (is (.int .u8 ((UInt8.ofNat n).toNat:Int))) :=
  op_conv h (wrapb _)
theorem op_convwb {n:UInt32} [h1:TInt P t .u32] [h2:TInt P yt .u8] (h:opd Γ x=some (is (w32 n))):OpP P Γ Δ ⟨d, .convert t yt x,ty,pos,af,g⟩ (is (.int .u8 ((UInt8.ofNat n.toNat).toNat:Int))) :=
  op_conv h (wrapb _)

/-! ### Arrays -/
theorem at_flat {α:Type} (T:Ty α) {xs:List α} {post:List Pr} {k:Nat} {v:α} (h:xs[k]?=some v):((flat T xs++post).drop (0+k*T.sz)).take T.sz=T.cells v:=by
  have hk:=(List.getElem?_eq_some_iff.1 h).1
  have hle:(k+1)*T.sz≤xs.length*T.sz:=Nat.mul_le_mul_right _ hk
  rw [Nat.succ_mul] at hle
  apply List.ext_getElem?
  intro j
  rw [List.getElem?_take]
  split
  · rename_i hj
    rw [List.getElem?_drop,Nat.zero_add,List.getElem?_append_left (by rw [flat_len];omega),flat_get T xs k j v h hj]
  · rename_i hj
    rw [List.getElem?_eq_none (by rw [T.len];omega)]
theorem at_flat0 {α:Type} (T:Ty α) {xs:List α} {k:Nat} {v:α} (h:xs[k]?=some v):((flat T xs).drop (0+k*T.sz)).take T.sz=T.cells v:=by
  have:=at_flat T (post:=[]) h
  rwa [List.append_nil] at this
theorem flat_app {α:Type} (T:Ty α) (xs ys:List α):flat T (xs++ys)=flat T xs++flat T ys:=by simp [flat]
theorem set_flat {α:Type} (T:Ty α) {xs:List α} {post:List Pr} {k:Nat} {v:α} (h:k < xs.length):splice (flat T xs++post) (0+k*T.sz) (T.cells v)=flat T (xs.set k v)++post:=by
  have e1:xs=xs.take k++xs[k]::xs.drop (k+1):=by rw [← List.drop_eq_getElem_cons h,List.take_append_drop]
  have e2:xs.set k v=xs.take k++v::xs.drop (k+1):=by rw [List.set_eq_take_append_cons_drop,if_pos h]
  have hl:(flat T (xs.take k)).length=k*T.sz:=by rw [flat_len,List.length_take,Nat.min_eq_left (Nat.le_of_lt h)]
  have fc : ∀ (a:α) (r:List α),flat T (a::r)=T.cells a++flat T r:=fun a r=>rfl
  have c1:flat T xs=flat T (xs.take k)++(T.cells xs[k]++flat T (xs.drop (k+1))):=(congrArg (flat T) e1).trans (by rw [flat_app,fc])
  have c2:flat T (xs.set k v)=flat T (xs.take k)++(T.cells v++flat T (xs.drop (k+1))):=by rw [e2,flat_app];rfl
  unfold splice
  rw [c1,c2,Nat.zero_add, ← hl]
  have t1:(flat T (xs.take k)++(T.cells xs[k]++flat T (xs.drop (k+1)))++post).take (flat T (xs.take k)).length=flat T (xs.take k):=by
    rw [List.append_assoc,List.take_left'];rfl
  have t2:(flat T (xs.take k)++(T.cells xs[k]++flat T (xs.drop (k+1)))++post).drop ((flat T (xs.take k)).length+(T.cells v).length)=flat T (xs.drop (k+1))++post:=by
    rw [T.len, ← List.drop_drop,List.append_assoc,List.drop_left,List.append_assoc, ← T.len xs[k],List.drop_left]
  rw [t1,t2]
  simp
theorem set_flat0 {α:Type} (T:Ty α) {xs:List α} {k:Nat} {v:α} (h:k < xs.length):splice (flat T xs) (0+k*T.sz) (T.cells v)=flat T (xs.set k v):=by
  have:=set_flat T (post:=[]) (v:=v) h
  rwa [List.append_nil,List.append_nil] at this
/-- An element of an array's value. -/
theorem op_index {α:Type} (T:Td α) {n:Nat} {hn:0 < n} {xs:Arr α n} {v:α} {i:Int} {k:IntKind} {e:Nat} (h:opd Γ x=some ((arrT n T hn).val xs)) (hz:opd Γ y=some (is (.int k i))) [ht:TArr P t n e] [TSz P e T.sz] [TAg P e T.ag] (h0:0≤i) (hx:xs.1[i.toNat]?=some v):OpP P Γ Δ ⟨d, .index t x y,ty,pos,af,g⟩ (T.val v) :=
  OpP.same fun H a w hxx hs=>by
    obtain ⟨cs,hv,hcs⟩:=(show ((arrT n T hn).val xs).h H (a.eval x) from hxx x (by simp [Op.operands]) _ h)
    have hi:a.eval y = .int k i:=hxx y (by simp [Op.operands]) _ hz
    have hlt:=(List.getElem?_eq_some_iff.1 hx).1
    rw [xs.2] at hlt
    have hc:All2 (fun φ c=>φ.c H c) (T.cells v) ((cs.drop (i.toNat*T.sz)).take T.sz):=by
      have h1:=(hcs.drop (0+i.toNat*T.sz)).take T.sz
      have h2:((arrT n T hn).cells xs)=flat T.toTy xs.1:=rfl
      rw [h2,at_flat0 T.toTy hx] at h1
      rwa [Nat.zero_add] at h1
    refine ⟨_,?_,T.inn hc⟩
    simp only [execOp,hv,hi]
    refine run_value ?_
    unfold Instr.index
    simp only [asIntOf,Sem.run_bind,Sem.run_pure,Result.andThen_ok,run_underlying' ht.h]
    rw [if_pos (by omega)]
    simp only [Sem.run_bind,run_sizeOf (t:=e) (n:=T.sz),Result.andThen_ok]
    unfold part
    refine (run_bind (isAgg e) _ w (run_isAgg (t:=e) (b:=T.ag))).trans ?_
    generalize i.toNat*T.sz=q at hc ⊢
    cases hag:T.ag with
    | true =>
      simp only [if_true]
      refine (run_bind (sizeOf e) _ w (run_sizeOf (t:=e) (n:=T.sz))).trans ?_
      show Result.ok (Value.agg (cs.toArray.extract q (q+T.sz))) w=_
      simp [List.extract_eq_take_drop]
    | false =>
      simp only [Bool.false_eq_true,if_false]
      have h1:=T.one hag
      have hl:=hc.length
      have hl2:=T.len v
      rw [hl2] at hl
      rw [h1] at hl ⊢
      rw [List.length_take,List.length_drop] at hl
      have hq:q < cs.length:=by omega
      have e1:((cs.drop q).take 1).headD undef=cs[q]:=by rw [List.drop_eq_getElem_cons hq];rfl
      rw [e1]
      simp [hq]
end
end Go.Proofs.YtljbbajelkkafaaDoor.L
/-
  Rules of the logic: slices of owned memory,rows that grow,texts,package variables,equality of arrays.
-/
set_option linter.unusedVariables false
set_option linter.unusedSimpArgs false
namespace Go.Proofs.YtljbbajelkkafaaDoor.L
open Go
set_option linter.unusedSectionVars false
variable [Globs]

section
variable {P:Program} {Γ:Env} {Δ:List Res} {d:Option Nat} {ty:Nat} {pos:String} {af:Array Edge} {g:Option (Nat × Bool)} {x y:Operand} {t yt:Nat}

/-! ### Pointers -/
theorem op_nilCheck {a:Addr} (h:opd Γ x=some (is (.pointer (some a)))):OpP P Γ Δ ⟨d, .nilCheck x,ty,pos,af,g⟩ (is (.pointer (some a))) :=
  OpP.same fun H A w hx hs=>by
    have hv:A.eval x = .pointer (some a):=hx x (by simp [Op.operands]) _ h
    refine ⟨_,?_,rfl⟩
    simp only [execOp,hv]
    rfl
theorem op_peq {a:Addr} {e:Nat} [hp:TPtr P t e] (h:opd Γ x=some (is (.pointer (some a)))) (h2:opd Γ y=some (is (.pointer none))):OpP P Γ Δ ⟨d, .binOp .eql t x y yt,ty,pos,af,g⟩ (is (.bool false)) :=
  OpP.same fun H A w hx hs=>by
    have hv:A.eval x = .pointer (some a):=hx x (by simp [Op.operands]) _ h
    have hv2:A.eval y = .pointer none:=hx y (by simp [Op.operands]) _ h2
    refine ⟨_,?_,rfl⟩
    simp only [execOp,hv,hv2]
    refine run_value ?_
    refine (run_bind _ _ w (show (eqGuard .eql t x y (.pointer (some a)) (.pointer none)).run P w = .ok () w from rfl)).trans ?_
    have:(Op.equal t (.pointer (some a)) (.pointer none)).run P w = .ok false w:=by
      unfold Op.equal Op.maxDepth Op.equalIn
      exact (run_bind (underlying t) _ w (run_underlying' hp.h)).trans rfl
    exact (run_bind (Op.equal t (.pointer (some a)) (.pointer none)) (fun r=>pure (Value.bool r)) w this).trans rfl

/-! ### Package variables -/
theorem op_gload {α:Type} (T:Td α) {v:α} {G:Nat} {cs:List Value} {o:Nat} (hg:(G,cs) ∈ globs) (h:opd Γ x=some (is (.pointer (some ⟨G,o,none⟩)))) (h1:cs.all (fun c=>c.oneCell')=true) [TSz P t T.sz] [TAg P t T.ag] (hx:T.cells v=((cs.drop o).take T.sz).map is):OpP P Γ Δ ⟨d, .load t x,ty,pos,af,g⟩ (T.val v) :=
  OpP.same fun H A w hxx hs=>by
    have hv:A.eval x = .pointer (some ⟨G,o,none⟩):=hxx x (by simp [Op.operands]) _ h
    have hl:((cs.drop o).take T.sz).length=T.sz:=by have:=congrArg List.length hx;rw [T.len,List.length_map] at this;exact this.symm
    have hcs:All2 (fun φ c=>φ.c H c) (T.cells v) ((cs.drop o).take T.sz):=by
      rw [hx]
      refine All2.of_get (by simp) fun i φ c hi hc=>?_
      rw [List.getElem?_map,hc] at hi
      injection hi with hi;subst hi
      exact ⟨rfl,List.all_eq_true.1 h1 c (List.mem_of_mem_drop (List.mem_of_mem_take (List.mem_of_getElem? hc)))⟩
    refine ⟨_,?_,T.inn hcs⟩
    simp only [execOp,hv]
    refine run_value ?_
    refine run_loadVar (ag:=T.ag) (n:=T.sz) w G o _ hl T.one fun j c hj=>?_
    rw [List.getElem?_take] at hj
    split at hj
    · rw [List.getElem?_drop] at hj
      exact hs.cell _ _ _ (hs.gk G cs hg (o+j) c hj)
    · cases hj

/-! ### Slices of memory that is owned -/
theorem op_siaddr {b o n cap e sz:Nat} {k:IntKind} {i:Int} (h:opd Γ x=some (is (.slice (some ⟨b,o,none⟩) n cap))) (hz:opd Γ y=some (is (.int k i))) [ht:TSl P t e] [TSz P e sz] (h0:0≤i) (h1:i < n):OpP P Γ Δ ⟨d, .indexAddr t x y,ty,pos,af,g⟩ (is (.pointer (some ⟨b,o+i.toNat*sz,none⟩))) :=
  OpP.same fun H A w hxx hs=>by
    have hv:A.eval x = .slice (some ⟨b,o,none⟩) n cap:=hxx x (by simp [Op.operands]) _ h
    have hi:A.eval y = .int k i:=hxx y (by simp [Op.operands]) _ hz
    refine ⟨_,?_,rfl⟩
    simp only [execOp,hv,hi]
    refine run_value ?_
    simp only [Instr.indexAt,asIntOf,Sem.run_bind,Sem.run_pure,Result.andThen_ok,run_underlying' ht.h]
    rw [if_pos (by omega)]
    simp only [Sem.run_bind,run_sizeOf (t:=e) (n:=sz),Result.andThen_ok,add_at]
    rfl
def boundV (Γ:Env) (x:Option Operand) (n:Nat):Prop:=match x with|none=>False|some x => ∃ k,opd Γ x=some (is (.int k (n:Int)))
theorem run_bound {k:IntKind} {i y:Nat} {code:BoundsCode} {w:World} (h:i≤y):(Instr.sliceBound (.int k (i:Int)) y code).run P w = .ok i w:=by
  have:=run_sliceBound (P:=P) w k (i:Int) y code (by omega) (by omega)
  simpa using this
theorem run_sliceAt_sl {e:Nat} (ht:P.underlying t=some (.slice e)) {v:Value} {lo hi mx:Option Value} {w:World}:(Instr.sliceAt t v lo hi mx).run P w=(Instr.slice t v lo hi mx).run P w:=by
  unfold Instr.sliceAt
  exact (run_bind (underlying t) _ w (run_underlying' ht))
/-- s[:hi] -/
theorem op_sl_hi {b o n cap e sz hi:Nat} {k:IntKind} (h:opd Γ x=some (is (.slice (some ⟨b,o,none⟩) n cap))) (hh:opd Γ y=some (is (.int k (hi:Int)))) [ht:TSl P t e] [TSz P e sz] (h1:hi≤cap):OpP P Γ Δ ⟨d, .slice t x none (some y) none,ty,pos,af,g⟩ (is (.slice (some ⟨b,o,none⟩) hi cap)) :=
  OpP.same fun H A w hxx hs=>by
    have hv:A.eval x = .slice (some ⟨b,o,none⟩) n cap:=hxx x (by simp [Op.operands]) _ h
    have hi':A.eval y = .int k (hi:Int):=hxx y (by simp [Op.operands]) _ hh
    refine ⟨_,?_,rfl⟩
    simp only [execOp,hv]
    refine run_value ?_
    rw [run_sliceAt_sl ht.h]
    unfold Instr.slice
    refine (run_bind (underlying t) _ w (run_underlying' ht.h)).trans ?_
    simp only [Option.map_some,Option.map_none,hi']
    refine (run_bind (Instr.sliceBounds true n cap none (some (.int k (hi:Int))) none) _ w (a:=(0,hi,cap)) (w':=w) ?_).trans ?_
    · unfold Instr.sliceBounds
      simp only [Sem.run_bind,Sem.run_pure,Result.andThen_ok,run_bound h1]
    · refine (run_bind (sizeOf e) _ w (run_sizeOf (t:=e) (n:=sz))).trans ?_
      by_cases h0:cap=0
      · subst h0;simp
      · simp [h0,Addr.add]
/-- s[lo:] -/
theorem op_sl_lo {b o n cap e sz lo:Nat} {k:IntKind} (h:opd Γ x=some (is (.slice (some ⟨b,o,none⟩) n cap))) (hh:opd Γ y=some (is (.int k (lo:Int)))) [ht:TSl P t e] [TSz P e sz] (h1:lo≤n):OpP P Γ Δ ⟨d, .slice t x (some y) none none,ty,pos,af,g⟩ (is (.slice (some ⟨b,if cap=lo then o else o+lo*sz,none⟩) (n - lo) (cap - lo))) :=
  OpP.same fun H A w hxx hs=>by
    have hv:A.eval x = .slice (some ⟨b,o,none⟩) n cap:=hxx x (by simp [Op.operands]) _ h
    have hi':A.eval y = .int k (lo:Int):=hxx y (by simp [Op.operands]) _ hh
    refine ⟨_,?_,rfl⟩
    simp only [execOp,hv]
    refine run_value ?_
    rw [run_sliceAt_sl ht.h]
    unfold Instr.slice
    refine (run_bind (underlying t) _ w (run_underlying' ht.h)).trans ?_
    simp only [Option.map_some,Option.map_none,hi']
    refine (run_bind (Instr.sliceBounds true n cap (some (.int k (lo:Int))) none none) _ w (a:=(lo,n,cap)) (w':=w) ?_).trans ?_
    · unfold Instr.sliceBounds
      simp only [Sem.run_bind,Sem.run_pure,Result.andThen_ok,run_bound h1]
    · refine (run_bind (sizeOf e) _ w (run_sizeOf (t:=e) (n:=sz))).trans ?_
      by_cases h0:cap=lo
      · subst h0;simp
      · simp [h0,add_at]

/-! ### Texts -/
theorem op_sadd {a b:List UInt8} (h1:opd Γ x=some (is (str a))) (h2:opd Γ y=some (is (str b))) (hl:a.length+b.length≤9223372036854775807):OpP P Γ Δ ⟨d, .binOp .add t x y yt,ty,pos,af,g⟩ (is (str (a++b))) :=
  op_bin h1 h2 fun w=>by
    refine (run_bind _ _ w (show (eqGuard .add t x y (str a) (str b)).run P w = .ok () w from rfl)).trans ?_
    show (Op.stringOp .add ⟨a.toArray⟩ ⟨b.toArray⟩).run P w=_
    unfold Op.stringOp
    have e : ¬ ((((⟨a.toArray⟩:ByteArray).size+(⟨b.toArray⟩:ByteArray).size:Nat):Int) > IntKind.i64.max):=by
      show ¬ (((a.toArray.size+b.toArray.size:Nat):Int) > 9223372036854775807)
      simp;omega
    simp only [e,if_false]
    rw [ByteArray.mk_append_mk]
    rfl
theorem op_seql {a b:List UInt8} (h1:opd Γ x=some (is (str a))) (h2:opd Γ y=some (is (str b))):OpP P Γ Δ ⟨d, .binOp .eql t x y yt,ty,pos,af,g⟩ (is (.bool (decide (a=b)))) :=
  op_bin h1 h2 fun w=>by
    refine (run_bind _ _ w (show (eqGuard .eql t x y (str a) (str b)).run P w = .ok () w from rfl)).trans ?_
    show (Op.stringOp .eql ⟨a.toArray⟩ ⟨b.toArray⟩).run P w=_
    unfold Op.stringOp
    show Result.ok (Value.bool ((⟨a.toArray⟩:ByteArray).toList == (⟨b.toArray⟩:ByteArray).toList)) w=_
    rw [ByteArray.toList_mk,ByteArray.toList_mk]
    congr 2
    exact Bool.eq_iff_iff.2 (by simp)
theorem op_sidx {s:List UInt8} {k:IntKind} {i:Int} {b:UInt8} [ht:TStr P t] (h1:opd Γ x=some (is (str s))) (h2:opd Γ y=some (is (.int k i))) (h0:0≤i) (hb:s[i.toNat]?=some b):OpP P Γ Δ ⟨d, .index t x y,ty,pos,af,g⟩ (is (.int .u8 (b.toNat:Int))) :=
  OpP.same fun H A w hxx hs=>by
    have hv:A.eval x=str s:=hxx x (by simp [Op.operands]) _ h1
    have hi:A.eval y = .int k i:=hxx y (by simp [Op.operands]) _ h2
    refine ⟨_,?_,rfl⟩
    simp only [execOp,hv,hi]
    refine run_value ?_
    have hlt:=(List.getElem?_eq_some_iff.1 hb).1
    have hg:(⟨s.toArray⟩:ByteArray)[i.toNat]?=some b:=by
      rw [getElem?_pos (⟨s.toArray⟩:ByteArray) i.toNat (show i.toNat < s.toArray.size by simpa using hlt)]
      congr 1
      exact (List.getElem?_eq_some_iff.1 hb).2
    simp only [Instr.index,asIntOf,str,Sem.run_bind,Sem.run_pure,Result.andThen_ok,run_underlying' ht.h,if_pos h0,hg]
theorem op_sslice {s:List UInt8} {k k2:IntKind} {lo hi:Nat} {z:Operand} [ht:TStr P t] (h:opd Γ x=some (is (str s))) (h1:opd Γ y=some (is (.int k (lo:Int)))) (h2:opd Γ z=some (is (.int k2 (hi:Int)))) (hlh:lo≤hi) (hhl:hi≤s.length):OpP P Γ Δ ⟨d, .slice t x (some y) (some z) none,ty,pos,af,g⟩ (is (str ((s.drop lo).take (hi - lo)))) :=
  OpP.same fun H A w hxx hs=>by
    have hv:A.eval x=str s:=hxx x (by simp [Op.operands]) _ h
    have h1':A.eval y = .int k (lo:Int):=hxx y (by simp [Op.operands]) _ h1
    have h2':A.eval z = .int k2 (hi:Int):=hxx z (by simp [Op.operands]) _ h2
    refine ⟨_,?_,rfl⟩
    simp only [execOp,hv]
    refine run_value ?_
    have e0:(Instr.sliceAt t (str s) (some (A.eval y)) (some (A.eval z)) none).run P w=(Instr.slice t (str s) (some (A.eval y)) (some (A.eval z)) none).run P w:=by
      unfold Instr.sliceAt
      exact run_bind (underlying t) _ w (run_underlying' ht.h)
    simp only [Option.map_some,Option.map_none]
    rw [e0,h1',h2']
    unfold Instr.slice
    refine (run_bind (underlying t) _ w (run_underlying' ht.h)).trans ?_
    have hsz:(⟨s.toArray⟩:ByteArray).size=s.length:=by show s.toArray.size=_;simp
    refine (run_bind (Instr.sliceBounds false (⟨s.toArray⟩:ByteArray).size (⟨s.toArray⟩:ByteArray).size (some (.int k (lo:Int))) (some (.int k2 (hi:Int))) none) _ w (a:=(lo,hi,s.length)) (w':=w) ?_).trans ?_
    · unfold Instr.sliceBounds
      simp only [Sem.run_bind,Sem.run_pure,Result.andThen_ok,hsz,run_bound hhl,run_bound hlh]
    · show Result.ok (Value.string ((⟨s.toArray⟩:ByteArray).extract lo hi)) w=Result.ok (str ((s.drop lo).take (hi - lo))) w
      congr 2
      apply ByteArray.ext
      rw [ByteArray.data_extract]
      simp [List.extract_eq_take_drop]
end
end Go.Proofs.YtljbbajelkkafaaDoor.L
/-
  Rules of the logic: rows that grow,made rows,bytes and texts,copies,equality of arrays.
-/
set_option linter.unusedVariables false
set_option linter.unusedSimpArgs false
namespace Go.Proofs.YtljbbajelkkafaaDoor.L
open Go
set_option linter.unusedSectionVars false
variable [Globs]

/-! ### Stores -/
section
variable {C:Cx} {Γ:Env} {Δ:List Res} {ops:Array Oper} {rest:List Oper} {Q:Exit→Act→World→Prop} {ty:Nat} {pos:String} {af:Array Edge}
/-- A store, what is behind it named by an equation. -/
theorem Lq.storeE {b o e t n:Nat} {φs φs' seg:List Pr} {φ:Pr} {Δ':List Res} {p x:Operand} (h:opd Γ p=some (is (.pointer (some ⟨b,o,none⟩)))) (hv:opd Γ x=some φ) (hp:Δ.Perm (own b e φs::Δ')) (hseg:Seg φ seg) [TSz C.P t n] (hl:seg.length=n)
    (hle:o+n≤φs.length) (he:splice φs o seg=φs') (k:Lq C Γ (own b e φs'::Δ') ops rest Q):Lq C Γ Δ ops (⟨none, .store t p x,ty,pos,af,none⟩::rest) Q:=by
  subst he
  exact Lq.store h hv hp hseg hl (Nat.ble_eq_true_of_le hle) k
end

/-! ### Rows -/
theorem St.swap {C:Cx} {Γ:Env} {Δ Δ':List Res} {r r':Res} {H:IH} {a:Act} {w:World} (S:St C Γ Δ H a w) (hp:Δ.Perm (r::Δ')) (hb:r'.blk=r.blk) (hok:r'.ok H w):St C Γ (r'::Δ') H a w:=by
  have hf:=hp.filterMap Res.blk
  have e1:(r'::Δ').filterMap Res.blk=(r::Δ').filterMap Res.blk:=by rw [List.filterMap_cons,List.filterMap_cons,hb]
  refine ⟨S.dfr,S.siz,S.env,S.sat,fun x hx=>?_,by rw [e1];exact hf.nodup_iff.1 S.dis,fun b hb=>?_,S.le,S.fr,S.hk⟩
  · rcases List.mem_cons.1 hx with rfl|hx
    · exact hok
    · exact S.res x (hp.mem_iff.2 (by simp [hx]))
  · rw [e1] at hb
    exact S.own b (hf.mem_iff.2 hb)
theorem St.perm {C:Cx} {Γ:Env} {Δ Δ':List Res} {H:IH} {a:Act} {w:World} (S:St C Γ Δ H a w) (hp:Δ.Perm Δ'):St C Γ Δ' H a w :=
  ⟨S.dfr,S.siz,S.env,S.sat,fun x hx=>S.res x (hp.mem_iff.2 hx),(hp.filterMap Res.blk).nodup_iff.1 S.dis,fun b hb=>S.own b ((hp.filterMap Res.blk).mem_iff.2 hb),S.le,S.fr,S.hk⟩
/-- What is no longer owned is lost. -/
theorem St.lose {C:Cx} {Γ:Env} {Δ Δ':List Res} {r:Res} {H:IH} {a:Act} {w:World} (S:St C Γ Δ H a w) (hp:Δ.Perm (r::Δ')):St C Γ Δ' H a w:=by
  have S2:=S.perm hp
  refine ⟨S2.dfr,S2.siz,S2.env,S2.sat,fun x hx=>S2.res x (by simp [hx]),?_,fun b hb=>S2.own b ?_,S2.le,S2.fr,S2.hk⟩
  · have:=S2.dis
    rw [List.filterMap_cons] at this
    cases h:r.blk with
    | none=>rw [h] at this;exact this
    | some b=>rw [h] at this;exact (List.nodup_cons.1 this).2
  · rw [List.filterMap_cons]
    cases h:r.blk with
    | none=>exact hb
    | some b'=>exact List.mem_cons_of_mem _ hb
/-- Something new is owned. -/
theorem St.gain {C:Cx} {Γ:Env} {Δ:List Res} {r:Res} {H:IH} {a:Act} {w:World} (S:St C Γ Δ H a w) (hok:r.ok H w) (hb : ∀ b,r.blk=some b→b < w.heap.size∧(b ∈ C.X ∨ C.w0.heap.size≤b)∧b ∉ Δ.filterMap Res.blk):St C Γ (r::Δ) H a w:=by
  refine ⟨S.dfr,S.siz,S.env,S.sat,fun x hx=>?_,?_,fun x hx=>?_,S.le,S.fr,S.hk⟩
  · rcases List.mem_cons.1 hx with rfl|hx
    · exact hok
    · exact S.res x hx
  · rw [List.filterMap_cons]
    cases h:r.blk with
    | none=>exact S.dis
    | some b=>exact List.nodup_cons.2 ⟨(hb b h).2.2,S.dis⟩
  · rw [List.filterMap_cons] at hx
    cases h:r.blk with
    | none=>rw [h] at hx;exact S.own x hx
    | some b =>
      rw [h] at hx
      rcases List.mem_cons.1 hx with rfl|hx
      · exact ⟨(hb _ h).1,(hb _ h).2.1⟩
      · exact S.own x hx

/-- A row that is owned, spare room and all: by the slice's value. -/
def row {α:Type} (v:Value) (e:TypeId) (T:Ty α) (xs:List α):Res where
  blk:=match v with | .slice (some a) _ _=>some a.block|_=>none
  ok:=fun H w=>(v = .slice none 0 0∧xs=[]) ∨ ∃ b o cap cs,v = .slice (some ⟨b,o,none⟩) xs.length cap∧w.heap[b]?=some (.cells (List.toArray cs) e (0,0))∧o+cap*T.sz≤cs.length∧xs.length≤cap∧cap≤maxLen ∧
    All2 (fun φ c=>φ.c H c) (flat T xs) ((cs.drop o).take (xs.length*T.sz))∧(∀ c ∈ cs,c.oneCell'=true) ∧ ∀ i,H b i=none
  st:=fun hle h hk=>by
    rcases hk with hk|⟨b,o,cap,cs,hv,h1,h2,h3,h4,h5,h6,h7⟩
    · exact .inl hk
    · obtain ⟨k1,k2⟩:=h b (by rw [hv])
      exact .inr ⟨b,o,cap,cs,hv,by rw [k1];exact h1,h2,h3,h4,h5.imp fun _ _ k=>Pr.c_mono hle k,h6,fun i=>by rw [k2 i];exact h7 i⟩
theorem row_nil {α:Type} {e:TypeId} {T:Ty α} {H:IH} {w:World}:(row (.slice none 0 0) e T []).ok H w := .inl ⟨rfl,rfl⟩
structure RowAt {α:Type} (T:Ty α) (v:Value) (xs:List α) (b o cap:Nat) (pre post:List Pr):Prop where
  hv:v = .slice (some ⟨b,o,none⟩) xs.length cap
  hpre:pre.length=o
  le:xs.length≤cap
  hcap:cap≤maxLen
  room:o+cap*T.sz≤(pre++flat T xs++post).length
  one : ∀ φ ∈ pre++post, ∃ c:Value,φ=is c∧c.oneCell'=true
theorem St.open {α:Type} {C:Cx} {Γ:Env} {Δ Δ':List Res} {v:Value} {e:TypeId} {T:Ty α} {xs:List α} {H:IH} {a:Act} {w:World} (S:St C Γ Δ H a w) (hp:Δ.Perm (row v e T xs::Δ')) (hne:xs ≠ []) :
    ∃ b o cap pre post,RowAt T v xs b o cap pre post∧St C Γ (L.own b e (pre++flat T xs++post)::Δ') H a w:=by
  rcases S.res _ (hp.mem_iff.2 List.mem_cons_self) with ⟨_,h⟩|⟨b,o,cap,cs,hv,h1,h2,h3,h4,h5,h6,h7⟩
  · exact absurd h hne
  · have hm:xs.length*T.sz≤cap*T.sz:=Nat.mul_le_mul_right _ h3
    refine ⟨b,o,cap,(cs.take o).map is,(cs.drop (o+xs.length*T.sz)).map is,⟨hv,?_,h3,h4,?_,?_⟩,S.swap hp (by rw [hv];rfl) ⟨⟨cs,h1,?_⟩,h7⟩⟩
    · rw [List.length_map,List.length_take];omega
    · simp only [List.length_append,List.length_map,List.length_take,List.length_drop,flat_len];omega
    · intro φ hφ
      rcases List.mem_append.1 hφ with hφ|hφ
      · obtain ⟨c,hc,rfl⟩:=List.mem_map.1 hφ
        exact ⟨c,rfl,h6 c (List.mem_of_mem_take hc)⟩
      · obtain ⟨c,hc,rfl⟩:=List.mem_map.1 hφ
        exact ⟨c,rfl,h6 c (List.mem_of_mem_drop hc)⟩
    · have hall : ∀ l:List Value,(∀ c ∈ l,c.oneCell'=true)→All2 (fun (φ:Pr) c=>φ.c H c) (l.map is) l:=fun l hl =>
        All2.of_get (by simp) fun i φ c hi hc=>by
          rw [List.getElem?_map,hc] at hi
          injection hi with hi;subst hi
          exact ⟨rfl,hl c (List.mem_of_getElem? hc)⟩
      have:=((hall (cs.take o) fun c hc=>h6 c (List.mem_of_mem_take hc)).append h5).append (hall (cs.drop (o+xs.length*T.sz)) fun c hc=>h6 c (List.mem_of_mem_drop hc))
      have e1:cs.take o++(cs.drop o).take (xs.length*T.sz)++cs.drop (o+xs.length*T.sz)=cs:=by
        rw [List.append_assoc, ← List.drop_drop,List.take_append_drop,List.take_append_drop]
      rwa [e1] at this
theorem row_of {α:Type} {e:TypeId} {T:Ty α} {xs:List α} {H:IH} {w:World} {b o cap:Nat} {φs:List Pr} (ho:(own b e φs).ok H w) (h1:o+cap*T.sz≤φs.length) (h2:xs.length≤cap) (h3:cap≤maxLen) (h4:(φs.drop o).take (xs.length*T.sz)=flat T xs):(row (.slice (some ⟨b,o,none⟩) xs.length cap) e T xs).ok H w:=by
  obtain ⟨⟨cs,hh,hcs⟩,hn⟩:=ho
  refine .inr ⟨b,o,cap,cs,rfl,hh,by rw [← hcs.length];exact h1,h2,h3,?_,fun c hc=>?_,hn⟩
  · rw [← h4];exact (hcs.drop o).take _
  · obtain ⟨i,hi,rfl⟩:=List.mem_iff_getElem.1 hc
    have hi2:i < φs.length:=by rw [hcs.length];exact hi
    obtain ⟨c',hc',hφ⟩:=hcs.get i φs[i] (List.getElem?_eq_getElem hi2)
    rw [List.getElem?_eq_getElem hi] at hc'
    injection hc' with hc';subst hc'
    exact hφ.2
theorem St.close {α:Type} {C:Cx} {Γ:Env} {Δ Δ':List Res} {e:TypeId} (T:Ty α) (xs:List α) {b o cap:Nat} {φs:List Pr} {H:IH} {a:Act} {w:World} (S:St C Γ Δ H a w) (hp:Δ.Perm (L.own b e φs::Δ')) (h1:o+cap*T.sz≤φs.length) (h2:xs.length≤cap) (h3:cap≤maxLen) (h4:(φs.drop o).take (xs.length*T.sz)=flat T xs) :
    St C Γ (row (.slice (some ⟨b,o,none⟩) xs.length cap) e T xs::Δ') H a w :=
  S.swap hp rfl (row_of (S.res _ (hp.mem_iff.2 List.mem_cons_self)) h1 h2 h3 h4)

/-! What an append takes. -/
structure Src (P:Program) (H:IH) (w:World) (u:TypeId) (x:Value) (sz m:Nat) (φs:List Pr):Prop where
  ty : ∃ d,P.underlying u=some d ∧ ∀ k,d ≠ .int k
  len : ∀ w,(Builtin.lenOf x).run P w = .ok m w
  cells : ∃ news:List Value,news.length=m*sz∧All2 (fun φ c=>φ.c H c) φs news ∧ ∀ w',w'.heap=w.heap→(Builtin.firstCells sz m x).run P w' = .ok news.toArray w'
theorem cell_heap {w w':World} (h:w'.heap=w.heap) (a:Addr):w'.cell? a=w.cell? a:=by
  unfold World.cell?;rw [h]
theorem src_sl {P:Program} {α:Type} {T:Ty α} {ys:List α} {H:IH} {w:World} {u e:Nat} {x:Value} [hu:TSl P u e] (hs:Sat H w) (h:(sl T ys).h H x):Src P H w u x T.sz ys.length (flat T ys):=by
  obtain ⟨ad,cap,rfl,h1,h2,h3,h4⟩:=h
  refine ⟨⟨_,hu.h,fun k h=>by cases h⟩,fun w=>rfl,?_⟩
  by_cases h0:ys=[]
  · subst h0
    refine ⟨[],by simp,trivial,fun w' hw=>?_⟩
    cases ad with
    | none=>rfl
    | some a =>
      show (loadCells a (0*T.sz)).run P w'=_
      have:=run_loadCells_list (P:=P) w' a [] (by simp)
      simpa using this
  · obtain ⟨b,o,rfl,hc⟩:=h4 (List.length_pos_iff.2 h0)
    obtain ⟨cs,hcs,hcell⟩:=known_cells hs hc
    have hl:cs.length=ys.length*T.sz:=by rw [← hcs.length,flat_len]
    refine ⟨cs,hl,hcs,fun w' hw=>?_⟩
    show (loadCells ⟨b,o,none⟩ (ys.length*T.sz)).run P w'=_
    rw [← hl]
    exact run_loadCells_list w' ⟨b,o,none⟩ cs fun j v hj=>by rw [add_at,cell_heap hw];exact hcell j v hj
theorem src_str {P:Program} {s:List UInt8} {H:IH} {w:World} {u:Nat} [hu:TStr P u]:Src P H w u (str s) 1 s.length (flat u8T.toTy s):=by
  refine ⟨⟨_,hu.h,fun k h=>by cases h⟩,fun w=>?_,s.map (fun b => .int .u8 (b.toNat:Int)),by simp,?_,fun w' hw=>?_⟩
  · show Result.ok (s.toArray.size) w=_
    simp
  · refine All2.of_get (by simp [flat_len,u8T]) fun i φ c hi hc=>?_
    rw [List.getElem?_map] at hc
    obtain ⟨b,hb,rfl⟩:=Option.map_eq_some_iff.1 hc
    have:=flat_get u8T.toTy s i 0 b hb (by decide)
    simp only [u8T,Nat.mul_one,Nat.add_zero] at this
    have h2:φ=is (.int .u8 (b.toNat:Int)):=by
      have h3:=hi.symm.trans this
      simpa using h3
    subst h2
    exact ⟨rfl,rfl⟩
  · show Result.ok (((⟨s.toArray⟩:ByteArray).extract 0 s.length).data.map fun b=>Value.int .u8 (b.toNat:Int)) w'=_
    congr 1
    rw [ByteArray.data_extract]
    simp
theorem src_row {P:Program} {α:Type} {T:Ty α} {ys:List α} {H:IH} {w:World} {u e e':Nat} {v:Value} [hu:TSl P u e] (h:(row v e' T ys).ok H w):Src P H w u v T.sz ys.length (flat T ys):=by
  rcases h with ⟨rfl,rfl⟩|⟨b,o,cap,cs,rfl,h1,h2,h3,h4,h5,h6,h7⟩
  · exact ⟨⟨_,hu.h,fun k h=>by cases h⟩,fun w=>rfl,[],by simp,trivial,fun w' hw=>rfl⟩
  · have hm:ys.length*T.sz≤cap*T.sz:=Nat.mul_le_mul_right _ h3
    have hl:((cs.drop o).take (ys.length*T.sz)).length=ys.length*T.sz:=by rw [List.length_take,List.length_drop];omega
    refine ⟨⟨_,hu.h,fun k h=>by cases h⟩,fun w=>rfl,_,hl,h5,fun w' hw=>?_⟩
    show (loadCells ⟨b,o,none⟩ (ys.length*T.sz)).run P w'=_
    conv=>lhs;rw [← hl]
    refine run_loadCells_list w' ⟨b,o,none⟩ _ fun j v hj=>?_
    rw [add_at,cell_heap hw,cell_at h1]
    rw [List.getElem?_take] at hj
    split at hj
    · rwa [List.getElem?_drop] at hj
    · cases hj
end Go.Proofs.YtljbbajelkkafaaDoor.L
/-
  Rules of the logic: append,made rows,bytes and texts,copies,equality of arrays.
-/
set_option linter.unusedVariables false
set_option linter.unusedSimpArgs false
namespace Go.Proofs.YtljbbajelkkafaaDoor.L
open Go
set_option linter.unusedSectionVars false
variable [Globs]

theorem zeroCells_one {z:Array Value} {n:Nat} (h:z.toList.all (fun c=>c.oneCell')=true) : ∀ c ∈ (Builtin.zeroCells z n).toList,c.oneCell'=true:=by
  intro c hc
  obtain ⟨i,hi,rfl⟩:=List.mem_iff_getElem.1 hc
  have hi2:i < n*z.size:=by simpa [Builtin.zeroCells] using hi
  have hzs:0 < z.size:=by
    rcases Nat.eq_zero_or_pos z.size with h0|h0
    · rw [h0] at hi2;omega
    · exact h0
  have hlt:i % z.size < z.size:=Nat.mod_lt _ hzs
  have e:(Builtin.zeroCells z n).toList[i]=z[i % z.size]'hlt:=by
    simp [Builtin.zeroCells,getElem!_pos,hlt]
  rw [e]
  exact List.all_eq_true.1 h _ (by simp)
theorem notInt {d:TypeDesc} (h : ∀ k,d ≠ .int k):(match d with | .int _=>true|_=>false)=false:=by
  cases d <;> first|rfl|exact absurd rfl (h _)

section
variable {P:Program} {α:Type} {T:Td α} {t u e by_:Nat} {z x v:Value} {xs ys:List α} {H:IH} {w:World} {ty:Nat}
/-- Both ways of an append. -/
inductive Apd (P:Program) (T:Td α) (e:Nat) (v:Value) (xs zs:List α) (H:IH) (w:World) (v':Value) (w':World):Prop
  | at (hb:(row v' e T.toTy zs).blk=(row v e T.toTy xs).blk) (hk : ∀ k,(row v e T.toTy xs).blk ≠ some k→w'.heap[k]?=w.heap[k]?) (hs:w'.heap.size=w.heap.size) (h1:w'.os=w.os) (h2:w'.tape=w.tape) (h3:w'.output=w.output)
      (hc:(∀ b,(row v e T.toTy xs).blk=some b → ∀ i,H b i=none)) (ok:(row v' e T.toTy zs).ok H w')
  | new (hb:(row v' e T.toTy zs).blk=some w.heap.size) (E:Ext H w H w') (hs:w'.heap.size=w.heap.size+1) (ok:(row v' e T.toTy zs).ok H w')

theorem run_append [ht:TSl P t e] [h1:TSz P e T.sz] [h2:TBy P e by_] [h3:TZero P e z] (hz:z.cells.size=T.sz) (hz1:z.cells.toList.all (fun c=>c.oneCell')=true) (hsat:Sat H w) (hr:(row v e T.toTy xs).ok H w) (hs:Src P H w u x T.sz ys.length (flat T.toTy ys))
    (hm:xs.length+ys.length≤maxLen) (hby:(xs.length+ys.length)*by_≤140737488355328) : ∃ v' w',(Builtin.append_ #[t,u] ty #[v,x]).run P w = .ok v' w'∧Apd P T e v xs (xs++ys) H w v' w':=by
  obtain ⟨i,hi,hsz⟩:=Option.map_eq_some_iff.1 h1.h
  obtain ⟨i',hi',hbz⟩:=Option.map_eq_some_iff.1 h2.h
  obtain ⟨i'',hi'',hzz⟩:=Option.map_eq_some_iff.1 h3.h
  obtain rfl:i=i':=Option.some.inj (hi.symm.trans hi')
  obtain rfl:i=i'':=Option.some.inj (hi.symm.trans hi'')
  obtain ⟨⟨du,hu,hnu⟩,hlen,news,hnl,hn,hcells⟩:=hs
  have hmi : ¬ (9223372036854775807 < (xs.length:Int)+(ys.length:Int)):=by unfold maxLen at hm;omega
  have hlf:(flat T.toTy (xs++ys))=flat T.toTy xs++flat T.toTy ys:=flat_app _ _ _
  have hnw:(Builtin.firstCells T.sz ys.length x).run P w = .ok news.toArray w:=hcells w rfl
  have hnd:(Builtin.firstCells T.sz ys.length x).run P w.drew = .ok news.toArray w.drew:=hcells w.drew rfl
  -- a new row
  have grown : ∀ (old:Nat) (olds:List Value),old < xs.length+ys.length→olds.length=xs.length*T.sz→All2 (fun φ c=>φ.c H c) (flat T.toTy xs) olds →
      (row (.slice (some ⟨w.heap.size,0,none⟩) (xs.length+ys.length) (grownCap w (xs.length+ys.length) old e)) e T.toTy (xs++ys)).ok H (w.drew.alloc (.cells (olds.toArray++news.toArray++Builtin.zeroCells z.cells (grownCap w (xs.length+ys.length) old e - (xs.length+ys.length))) e)):=by
    intro old olds ho hol hoa
    have hge:=grownCap_ge w (xs.length+ys.length) old e
    have hcm:=grownCap_le_maxLen w (xs.length+ys.length) old e hm
    have hmul:(xs.length+ys.length)*T.sz+(grownCap w (xs.length+ys.length) old e - (xs.length+ys.length))*T.sz=grownCap w (xs.length+ys.length) old e*T.sz:=by rw [← Nat.add_mul];congr 1;omega
    refine .inr ⟨w.heap.size,0,grownCap w (xs.length+ys.length) old e,olds++news++(Builtin.zeroCells z.cells (grownCap w (xs.length+ys.length) old e - (xs.length+ys.length))).toList,by simp,?_,?_,by simp;omega,hcm,?_,?_,?_⟩
    · have:=heap_alloc_self w.drew (.cells (olds.toArray++news.toArray++Builtin.zeroCells z.cells (grownCap w (xs.length+ys.length) old e - (xs.length+ys.length))) e)
      refine this.trans ?_
      congr 2
      apply Array.ext'
      simp [List.append_assoc]
    · simp only [List.length_append,Array.length_toList,size_zeroCells,hz,hol,hnl]
      rw [Nat.add_mul] at hmul
      omega
    · have hl:(olds++news).length=(xs++ys).length*T.sz:=by rw [List.length_append,List.length_append,hol,hnl,Nat.add_mul]
      rw [List.drop_zero, ← hl,List.take_left,hlf]
      exact hoa.append hn
    · intro c hc
      have one_of : ∀ {ps:List Pr} {cs:List Value},All2 (fun φ c=>φ.c H c) ps cs → ∀ c ∈ cs,c.oneCell'=true:=by
        intro ps cs hp c hc
        obtain ⟨j,hj,rfl⟩:=List.mem_iff_getElem.1 hc
        have hj2:j < ps.length:=by rw [hp.length];exact hj
        obtain ⟨c',hc',hφ⟩:=hp.get j ps[j] (List.getElem?_eq_getElem hj2)
        rw [List.getElem?_eq_getElem hj] at hc'
        injection hc' with hc';rw [hc'];exact hφ.2
      rcases List.mem_append.1 hc with hc|hc
      · rcases List.mem_append.1 hc with hc|hc
        · exact one_of hoa c hc
        · exact one_of hn c hc
      · exact zeroCells_one hz1 c hc
    · intro o
      cases hH:H w.heap.size o with
      | none=>rfl
      | some u=>exact absurd (hsat.lt hH) (Nat.lt_irrefl _)
  have ext : ∀ o:Obj,Ext H w H (w.drew.alloc o):=fun o=>by
    have E:=ext_alloc hsat o
    exact ⟨E.le,E.old,⟨E.sat.gk,E.sat.cell⟩,⟨E.fr.os,E.fr.tape,E.fr.output,E.fr.size,E.fr.block⟩⟩
  rcases hr with ⟨rfl,rfl⟩|⟨b,o,cap,cs,rfl,k1,k2,k3,k4,k5,k6,k7⟩
  · by_cases h0:ys=[]
    · subst h0
      refine ⟨.slice none 0 0,w,?_, .at rfl (fun _ _=>rfl) rfl rfl rfl rfl (fun b hb=>by cases hb) row_nil⟩
      simp only [List.length_nil] at hlen hnw
      simp [Builtin.append_,run_underlying ht.h,run_underlying hu,sizeOf,typeInfo,hi,hsz,hlen,notInt hnu,hnw]
    · have hp:=List.length_pos_iff.2 h0
      have hcap : ¬ (281474976710656 < Builtin.nextslicecap ys.length 0*i.bytes):=by
        have:=growslice_fits (need:=ys.length) (old:=0) (bytes:=by_) hp (by simpa using hby)
        rw [hbz];omega
      have hg:=grown 0 [] (by simpa using hp) (by simp) trivial
      simp only [List.length_nil,Nat.zero_add,List.nil_append] at hg
      have hy : ¬ ys.length=0:=by omega
      have hmi2 : ¬ (9223372036854775807 < (ys.length:Int)):=by simpa using hmi
      refine ⟨_,_,?_, .new ?_ (ext _) ?_ hg⟩
      · simp [Builtin.append_,run_underlying ht.h,run_underlying hu,sizeOf,typeInfo,zeroValue,hi,hsz,hzz,hlen,notInt hnu,hnd,hy,hmi2,hcap,Question.forced,run_firstCells_none,newRow,grownCap]
      · rfl
      · simp
  · have hold:(cs.drop o).take (xs.length*T.sz)=(cs.drop o).take (xs.length*T.sz):=rfl
    have hmul:xs.length*T.sz≤cap*T.sz:=Nat.mul_le_mul_right _ k3
    have hol:((cs.drop o).take (xs.length*T.sz)).length=xs.length*T.sz:=by rw [List.length_take,List.length_drop];omega
    by_cases hfit:xs.length+ys.length≤cap
    · have hmul2:(xs.length+ys.length)*T.sz≤cap*T.sz:=Nat.mul_le_mul_right _ hfit
      rw [Nat.add_mul] at hmul2
      have hone : ∀ c ∈ news,c.oneCell'=true:=by
        intro c hc
        obtain ⟨j,hj,rfl⟩:=List.mem_iff_getElem.1 hc
        have hj2:j < (flat T.toTy ys).length:=by rw [hn.length];exact hj
        obtain ⟨c',hc',hφ⟩:=hn.get j _ (List.getElem?_eq_getElem hj2)
        rw [List.getElem?_eq_getElem hj] at hc'
        injection hc' with hc';rw [hc'];exact hφ.2
      obtain ⟨w',hrun,hh,hk,hs',e1,e2,e3⟩:=run_storeCells (P:=P) (b:=b) (o:=o+xs.length*T.sz) (e:=e) news 0 w cs k1 (by rw [hnl];omega) hone
      refine ⟨.slice (some ⟨b,o,none⟩) (xs.length+ys.length) cap,w',?_, .at rfl (fun k hkk=>hk k fun he=>hkk (by rw [he];rfl)) hs' e1 e2 e3 (fun b' hb'=>by injection hb' with hb';subst hb';exact k7) ?_⟩
      · simp [Builtin.append_,run_underlying ht.h,run_underlying hu,sizeOf,typeInfo,hi,hsz,hlen,notInt hnu,hnw,hfit,add_at,hrun]
      · refine .inr ⟨b,o,cap,_,by simp,hh,?_,by simpa using hfit,k4,?_,?_,k7⟩
        · simp only [List.length_append,List.length_take,List.length_drop,hnl];omega
        · have e1:((cs.take (o+xs.length*T.sz+0)++news++cs.drop (o+xs.length*T.sz+0+news.length)).drop o).take ((xs++ys).length*T.sz)=(cs.drop o).take (xs.length*T.sz)++news:=by
            rw [Nat.add_zero,List.append_assoc,List.drop_append_of_le_length (by rw [List.length_take];omega),List.drop_take,show o+xs.length*T.sz - o=xs.length*T.sz by omega, ← List.append_assoc]
            have:((cs.drop o).take (xs.length*T.sz)++news).length=(xs++ys).length*T.sz:=by rw [List.length_append,hol,hnl,List.length_append,Nat.add_mul]
            rw [← this,List.take_left]
          rw [e1,hlf]
          exact k5.append hn
        · intro c hc
          rcases List.mem_append.1 hc with hc|hc
          · rcases List.mem_append.1 hc with hc|hc
            · exact k6 c (List.mem_of_mem_take hc)
            · exact hone c hc
          · exact k6 c (List.mem_of_mem_drop hc)
    · have hcap : ¬ (281474976710656 < Builtin.nextslicecap (xs.length+ys.length) cap*i.bytes):=by
        have:=growslice_fits (need:=xs.length+ys.length) (old:=cap) (bytes:=by_) (by omega) hby
        rw [hbz];omega
      have hg:=grown cap _ (by omega) hol k5
      have hfo:=run_firstCells_some (P:=P) w.drew T.sz xs.length ⟨b,o,none⟩ xs.length cap _ hol (fun j c hj=>by
        rw [add_at]
        refine (cell_heap (w:=w) (w':=w.drew) rfl _).trans ?_
        rw [cell_at k1]
        rw [List.getElem?_take] at hj
        split at hj
        · rwa [List.getElem?_drop] at hj
        · cases hj)
      refine ⟨_,_,?_, .new ?_ (ext _) ?_ hg⟩
      · simp [Builtin.append_,run_underlying ht.h,run_underlying hu,sizeOf,typeInfo,zeroValue,hi,hsz,hzz,hlen,notInt hnu,hnd,hfo,hfit,hmi,hcap,Question.forced,newRow,grownCap]
        congr 2
        apply Array.ext'
        simp [List.append_assoc]
      · rfl
      · simp
end
end Go.Proofs.YtljbbajelkkafaaDoor.L
/-
  Rules of the logic: append as a step,made rows,bytes and texts,copies,equality of arrays.
-/
set_option linter.unusedVariables false
set_option linter.unusedSimpArgs false
namespace Go.Proofs.YtljbbajelkkafaaDoor.L
open Go
set_option linter.unusedSectionVars false
variable [Globs]

section
variable {C:Cx} {Γ:Env} {Δ Δ':List Res} {ops:Array Oper} {rest:List Oper} {Q:Exit→Act→World→Prop} {ty:Nat} {pos:String} {af:Array Edge} {α:Type}
/-- What is behind an append. -/
theorem St.append {T:Td α} {e d:Nat} {v v':Value} {xs zs:List α} {H:IH} {a:Act} {w w':World} (S:St C Γ Δ H a w) (hp:Δ.Perm (row v e T.toTy xs::Δ')) (hd:d < C.n) (h:Apd C.P T e v xs zs H w v' w'):St C ((d,is v')::Γ) (row v' e T.toTy zs::Δ') H (a.put (some d) v') w':=by
  cases h with
  | «at» hb hk hs h1 h2 h3 hc ok =>
    cases hbb:(row v e T.toTy xs).blk with
    | none =>
      have E:Ext H w H w':=⟨IH.le_refl _,fun _ _ _=>rfl,⟨S.sat.gk,fun b o u hu=>(World.cell?_of_block (w:=w) (a:=⟨b,o,none⟩) (hk b (by rw [hbb];simp))).trans (S.sat.cell b o u hu)⟩,⟨h1,h2,h3,by omega,fun k hkk _=>hk k (by rw [hbb];simp)⟩⟩
      have S1:=(S.lose hp).put E d hd v' (is v') rfl
      exact S1.gain ok (fun b hb'=>by rw [hb,hbb] at hb';cases hb')
    | some b =>
      have S1:St C Γ (row v' e T.toTy zs::Δ') H a w':=St.write (r:=row v e T.toTy xs) (b:=b) S hp hbb (hb.trans hbb) ⟨S.sat.gk,fun b2 o2 u hu=>by
        have hne:b2 ≠ b:=fun he=>by subst he;rw [hc b2 hbb] at hu;cases hu
        exact (World.cell?_of_block (w:=w) (a:=⟨b2,o2,none⟩) (hk b2 (by rw [hbb];simpa using fun h=>hne h.symm))).trans (S.sat.cell b2 o2 u hu)⟩ ok (fun k hkb=>hk k (by rw [hbb];simpa using fun h=>hkb h.symm)) hs h1 h2 h3
      exact S1.put (Ext.refl S1.sat) d hd v' (is v') rfl
  | new hb E hs ok =>
    have S1:=(S.lose hp).put E d hd v' (is v') rfl
    refine S1.gain ok (fun b hb'=>?_)
    rw [hb] at hb'
    injection hb' with hb';subst hb'
    exact ⟨by omega, .inr S.fr.size,fun hm=>absurd ((S.lose hp).own _ hm).1 (Nat.lt_irrefl _)⟩
/-- Where the elements come from. -/
inductive From (Γ:Env) (Δ:List Res) (P:Program) (T:Td α) (u:Nat) (y:Operand) (ys:List α):Prop
  | mk (h : ∀ (H:IH) (w:World) (ρ:Operand→Value),Sat H w→(∀ r ∈ Δ,r.ok H w)→(∀ ψ,opd Γ y=some ψ→ψ.h H (ρ y))→Src P H w u (ρ y) T.sz ys.length (flat T.toTy ys))
theorem From.sl {P:Program} {T:Td α} {u e:Nat} {y:Operand} {ys:List α} [TSl P u e] (h:opd Γ y=some (L.sl T.toTy ys)):From Γ Δ P T u y ys:=⟨fun H w ρ hs _ hx=>src_sl hs (hx _ h)⟩
theorem From.str {P:Program} {u:Nat} {y:Operand} {s:List UInt8} [TStr P u] (h:opd Γ y=some (is (L.str s))):From Γ Δ P u8T u y s:=⟨fun H w ρ hs _ hx=>by
  have hv:ρ y=L.str s:=hx _ h
  rw [hv];exact src_str⟩
theorem From.row {P:Program} {T:Td α} {u e e':Nat} {y:Operand} {v:Value} {ys:List α} [TSl P u e] (h:opd Γ y=some (is v)) (hm:L.row v e' T.toTy ys ∈ Δ):From Γ Δ P T u y ys:=⟨fun H w ρ hs hr hx=>by
  have hv:ρ y=v:=hx _ h
  rw [hv];exact src_row (hr _ hm)⟩
theorem row_slice {T:Ty α} {v:Value} {e:Nat} {xs:List α} {H:IH} {w:World} (h:(L.row v e T xs).ok H w) : ∃ A c,v = .slice A xs.length c:=by
  rcases h with ⟨rfl,rfl⟩|⟨b,o,cap,cs,rfl,_⟩
  · exact ⟨none,0,rfl⟩
  · exact ⟨_,_,rfl⟩
theorem Lq.append {T:Td α} {d t u e by_:Nat} {z v:Value} {xs ys:List α} {s y:Operand} (h:opd Γ s=some (is v)) (hp:Δ.Perm (row v e T.toTy xs::Δ')) (hf:From Γ Δ C.P T u y ys) (hd:Nat.blt d C.n=true) [TSl C.P t e] [TSz C.P e T.sz] [TBy C.P e by_] [TZero C.P e z] (hz:z.cells.size=T.sz) (hz1:z.cells.toList.all (fun c=>c.oneCell')=true)
    (hm:xs.length+ys.length≤maxLen) (hby:(xs.length+ys.length)*by_≤140737488355328) (k : ∀ A c,Lq C ((d,is (.slice A (xs++ys).length c))::Γ) (row (.slice A (xs++ys).length c) e T.toTy (xs++ys)::Δ') ops rest Q):Lq C Γ Δ ops (⟨some d, .call ⟨.builtin .append, #[s,y], #[t,u]⟩,ty,pos,af,none⟩::rest) Q:=by
  intro H a w S
  refine wpL_plain rfl (fun c hc=>by cases hc) fun K hK=>?_
  have hv:a.eval s=v:=S.opd h
  cases hf with
  | mk hf =>
    have hsrc:=hf H w a.eval S.sat S.res (fun ψ hψ=>S.opd hψ)
    obtain ⟨v',w',hrun,hA⟩:=run_append (P:=C.P) (t:=t) (ty:=ty) (T:=T) (e:=e) hz hz1 S.sat (S.res _ (hp.mem_iff.2 List.mem_cons_self)) hsrc hm hby
    have hexec:(execOp a.eval ⟨some d, .call ⟨.builtin .append, #[s,y], #[t,u]⟩,ty,pos,af,none⟩).run C.P w = .ok (.value v') w' :=
      run_builtin (as:=[s,y]) fun c=>run_value (x:=Builtin.append_ #[t,u] ty #[a.eval s,a.eval y]) (by rw [hv];exact hrun)
    unfold Oper.wp
    rw [hexec]
    have hok:(row v' e T.toTy (xs++ys)).ok H w':=by
      cases hA with
      | «at» _ _ _ _ _ _ _ ok=>exact ok
      | new _ _ _ ok=>exact ok
    obtain ⟨A,c,rfl⟩:=row_slice hok
    exact hK _ _ (k A c H _ w' (S.append hp (blt hd) hA))
variable {P:Program} {g:Option (Nat × Bool)} {d:Option Nat} {x:Operand}
/-- A copy made by an append to nothing. -/
theorem opR_append {T:Td α} {t u e by_:Nat} {z:Value} {ys:List α} {s y:Operand} (h:opd Γ s=some (is (.slice none 0 0))) (hf:From Γ Δ P T u y ys) [TSl P t e] [TSz P e T.sz] [TBy P e by_] [TZero P e z] (hz:z.cells.size=T.sz) (hz1:z.cells.toList.all (fun c=>c.oneCell')=true)
    (hm:ys.length≤maxLen) (hby:ys.length*by_≤140737488355328):OpR P Γ Δ ⟨d, .call ⟨.builtin .append, #[s,y], #[t,u]⟩,ty,pos,af,none⟩ (fun v=>row v e T.toTy ys):=by
  intro H a w Q K hx hs hr hb hK
  have hv:a.eval s = .slice none 0 0:=hx s (by simp [Op.operands,Call.operands]) _ h
  cases hf with
  | mk hf =>
    have hsrc:=hf H w a.eval hs hr (fun ψ hψ=>hx y (by simp [Op.operands,Call.operands]) ψ hψ)
    obtain ⟨v',w',hrun,hA⟩:=run_append (P:=P) (t:=t) (ty:=ty) (T:=T) (e:=e) (xs:=[]) hz hz1 hs row_nil hsrc (by simpa using hm) (by simpa using hby)
    have hexec:(execOp a.eval ⟨d, .call ⟨.builtin .append, #[s,y], #[t,u]⟩,ty,pos,af,none⟩).run P w = .ok (.value v') w' :=
      run_builtin (as:=[s,y]) fun c=>run_value (x:=Builtin.append_ #[t,u] ty #[a.eval s,a.eval y]) (by rw [hv];exact hrun)
    unfold Oper.wp
    rw [hexec]
    cases hA with
    | «at» hbb hk hsz h1 h2 h3 hc ok =>
      refine hK v' H w' ⟨IH.le_refl _,fun _ _ _=>rfl,⟨hs.gk,fun b o u hu=>(World.cell?_of_block (w:=w) (a:=⟨b,o,none⟩) (hk b (by intro h;cases h))).trans (hs.cell b o u hu)⟩,⟨h1,h2,h3,by omega,fun k hkk _=>hk k (by intro h;cases h)⟩⟩ ok (fun b hb'=>?_)
      have:(row v' e T.toTy ys).blk=none:=hbb
      rw [this] at hb';cases hb'
    | new hbb E hsz ok =>
      refine hK v' H w' E ok (fun b hb'=>?_)
      have hbb:(row v' e T.toTy ys).blk=some w.heap.size:=hbb
      rw [hbb] at hb'
      injection hb' with hb';subst hb'
      exact ⟨Nat.le_refl _,by omega⟩

/-! ### Bytes and texts -/
theorem op_rowlen {T:Ty α} {v:Value} {e e' t:Nat} {xs:List α} (h:opd Γ x=some (is v)) (hm:row v e T xs ∈ Δ) [ht:TSl P t e']:OpP P Γ Δ ⟨d, .call ⟨.builtin .len, #[x], #[t]⟩,ty,pos,af,g⟩ (is (.int .i64 (xs.length:Int))) :=
  OpP.val fun H a w hx hs hr=>by
    have hv:a.eval x=v:=hx x (by simp [Op.operands,Call.operands]) _ h
    refine ⟨_,H,w,run_builtin (as:=[x]) fun c=>?_,Ext.refl hs,rfl⟩
    refine run_value (x:=Builtin.len_ #[t] ty #[a.eval x]) ?_
    rw [hv]
    rcases hr _ hm with ⟨rfl,rfl⟩|⟨b,o,cap,cs,rfl,_⟩
    · exact (run_bind (underlying t) _ w (run_underlying' ht.h)).trans rfl
    · exact (run_bind (underlying t) _ w (run_underlying' ht.h)).trans rfl
theorem run_toStr {src dst e:Nat} {v:Value} {l:List UInt8} {w:World} {H:IH} [h1:TSl P src e] [h2:TInt P e .u8] [h3:TStr P dst] (h : ∃ a cap,v = .slice a l.length cap∧(0 < l.length → ∃ b o,a=some ⟨b,o,none⟩ ∧ ∀ j c,(flat u8T.toTy l)[j]?=some c → ∃ u,w.cell? ⟨b,o+j,none⟩=some u∧c.h H u)) :
    (convert src dst v).run P w = .ok (str l) w:=by
  obtain ⟨a,cap,rfl,hc⟩:=h
  by_cases h0:l=[]
  · subst h0
    cases a with
    | none =>
      refine (run_convert_bytes_string w src dst e none 0 cap h1.h h2.h h3.h).trans ?_
      rfl
    | some a =>
      have:=run_convert_bytes_back (P:=P) w src dst e a cap [] h1.h h2.h h3.h (fun j hj=>by simp at hj)
      exact this
  · obtain ⟨b,o,rfl,hcell⟩:=hc (List.length_pos_iff.2 h0)
    refine run_convert_bytes_back (P:=P) w src dst e ⟨b,o,none⟩ cap l h1.h h2.h h3.h (fun j hj=>?_)
    have hf:=flat_get u8T.toTy l j 0 l[j] (List.getElem?_eq_getElem hj) (by decide)
    have hf:(flat u8T.toTy l)[j*1+0]?=some (is (.int .u8 (l[j].toNat:Int))):=hf
    rw [Nat.mul_one,Nat.add_zero] at hf
    obtain ⟨u,hu,hcu⟩:=hcell j (is (.int .u8 (l[j].toNat:Int))) hf
    rw [add_at,hu]
    exact congrArg some hcu
theorem op_str_sl {l:List UInt8} {src dst e:Nat} [h1:TSl P src e] [h2:TInt P e .u8] [h3:TStr P dst] (h:opd Γ x=some (sl u8T.toTy l)):OpP P Γ Δ ⟨d, .convert src dst x,ty,pos,af,g⟩ (is (str l)) :=
  OpP.same fun H a w hx hs=>by
    obtain ⟨ad,cap,hv,_,_,_,hc⟩:=hx x (by simp [Op.operands]) _ h
    refine ⟨_,?_,rfl⟩
    simp only [execOp,hv]
    refine run_value (run_toStr (H:=H) (e:=e) ⟨ad,cap,rfl,fun h0=>?_⟩)
    obtain ⟨b,o,ha,hcell⟩:=hc h0
    exact ⟨b,o,ha,fun j c hj=>by obtain ⟨u,hu,hcu⟩:=hcell j c hj;exact ⟨u,hs.cell _ _ _ hu,hcu.1⟩⟩
theorem op_str_own {l:List UInt8} {b o cap e' src dst e:Nat} {φs:List Pr} [h1:TSl P src e] [h2:TInt P e .u8] [h3:TStr P dst] (h:opd Γ x=some (is (.slice (some ⟨b,o,none⟩) l.length cap))) (hm:own b e' φs ∈ Δ) (hl:(φs.drop o).take l.length=flat u8T.toTy l):OpP P Γ Δ ⟨d, .convert src dst x,ty,pos,af,g⟩ (is (str l)) :=
  OpP.val fun H a w hx hs hr=>by
    have hv:a.eval x = .slice (some ⟨b,o,none⟩) l.length cap:=hx x (by simp [Op.operands]) _ h
    obtain ⟨cs,hh,hcs⟩:=own_cells (hr _ hm)
    refine ⟨_,H,w,?_,Ext.refl hs,rfl⟩
    simp only [execOp,hv]
    refine run_value (run_toStr (H:=H) (e:=e) ⟨_,cap,rfl,fun h0=>⟨b,o,rfl,fun j c hj=>?_⟩⟩)
    have hcs2:=(hcs.drop o).take l.length
    rw [hl] at hcs2
    obtain ⟨u,hu,hcu⟩:=hcs2.get j c hj
    rw [List.getElem?_take] at hu
    split at hu
    · rw [List.getElem?_drop] at hu
      exact ⟨u,by rw [cell_at hh];exact hu,hcu.1⟩
    · cases hu

/-! ### Made rows -/
theorem madeOne {z:Value} {c:Value} {T:Td α} {z0:α} (h1:T.sz=1) (hz:z.cells = #[c]) (hc:T.cells z0=[is c]) (n:Nat):(madeCells z.cells n).toList=List.replicate n c∧flat T.toTy (List.replicate n z0)=List.replicate n (is c):=by
  constructor
  · rw [hz]
    apply List.ext_getElem
    · simp [madeCells]
    · intro i h1 h2
      simp [madeCells,Nat.mod_one]
  · unfold flat
    rw [List.map_replicate,hc]
    induction n with
    | zero=>rfl
    | succ n ih=>rw [List.replicate_succ,List.flatten_cons,ih,List.replicate_succ];rfl
theorem run_makeN {t e by_:Nat} {z:Value} {n:Nat} {k k2:IntKind} {w:World} [ht:TSl P t e] [h1:TSz P e 1] [h2:TBy P e by_] [h3:TZero P e z] (hb:by_*n≤281474976710656) (hn:n≤maxLen) :
    (Instr.makeSlice t (.int k (n:Int)) (.int k2 (n:Int))).run P w = .ok (.slice (some ⟨w.heap.size,0,none⟩) n n) (w.alloc (.cells (madeCells z.cells n) e)):=by
  obtain ⟨i,hi,hsz⟩:=Option.map_eq_some_iff.1 h1.h
  obtain ⟨i',hi',hbz⟩:=Option.map_eq_some_iff.1 h2.h
  obtain ⟨i'',hi'',hzz⟩:=Option.map_eq_some_iff.1 h3.h
  obtain rfl:i=i':=Option.some.inj (hi.symm.trans hi')
  obtain rfl:i=i'':=Option.some.inj (hi.symm.trans hi'')
  have h63:(n:Int)≤9223372036854775807:=by unfold maxLen at hn;omega
  have hb':(i.bytes:Int)*(n:Int)≤281474976710656:=by
    rw [hbz]
    have h:((by_*n:Nat):Int)≤281474976710656:=by omega
    rwa [Int.natCast_mul] at h
  have:=run_make (P:=P) w t e i z ht.h hi hzz k k2 (n:Int) (n:Int) (by omega) (Int.le_refl _) hb' h63
  rw [hsz] at this
  simpa using this
theorem Lq.make {T:Td α} {z0:α} {d t e by_ n:Nat} {z c:Value} {k k2:IntKind} {x y:Operand} (hd:Nat.blt d C.n=true) (h:opd Γ x=some (is (.int k (n:Int)))) (h':opd Γ y=some (is (.int k2 (n:Int)))) [TSl C.P t e] [TSz C.P e 1] [TBy C.P e by_] [TZero C.P e z] (hs:T.sz=1) (hz:z.cells = #[c]) (hc:T.cells z0=[is c]) (h1:c.oneCell'=true) (hb:by_*n≤281474976710656) (hn:n≤maxLen)
    (k' : ∀ b,Lq C ((d,is (.slice (some ⟨b,0,none⟩) n n))::Γ) (own b e (flat T.toTy (List.replicate n z0))::Δ) ops rest Q):Lq C Γ Δ ops (⟨some d, .makeSlice t x y,ty,pos,af,none⟩::rest) Q:=by
  intro H a w S
  refine wpL_plain rfl (fun c hc=>by cases hc) fun K hK=>?_
  have hv:a.eval x = .int k (n:Int):=S.opd h
  have hv':a.eval y = .int k2 (n:Int):=S.opd h'
  have hrun:(execOp a.eval ⟨some d, .makeSlice t x y,ty,pos,af,none⟩).run C.P w = .ok (.value (.slice (some ⟨w.heap.size,0,none⟩) n n)) (w.alloc (.cells (madeCells z.cells n) e)):=by
    simp only [execOp,hv,hv']
    exact run_value (run_makeN hb hn)
  obtain ⟨m1,m2⟩:=madeOne hs hz hc n
  unfold Oper.wp
  rw [hrun]
  have S1:=S.put (ext_alloc S.sat (.cells (madeCells z.cells n) e)) d (blt hd) (.slice (some ⟨w.heap.size,0,none⟩) n n) (is (.slice (some ⟨w.heap.size,0,none⟩) n n)) rfl
  refine hK _ _ (k' w.heap.size H _ _ (S1.gain ⟨⟨List.replicate n c,?_,?_⟩,fun o=>?_⟩ (fun b hb'=>?_)))
  · rw [← m1,Array.toArray_toList]
    exact heap_alloc_self w _
  · rw [m2]
    refine All2.of_get (by simp) fun i φ u hi hu=>?_
    rw [List.getElem?_replicate] at hi hu
    split at hi
    · rename_i hin
      rw [if_pos hin] at hu
      injection hi with hi;injection hu with hu;subst hi;subst hu
      exact ⟨rfl,h1⟩
    · cases hi
  · cases hH:H w.heap.size o with
    | none=>rfl
    | some u=>exact absurd (S.sat.lt hH) (Nat.lt_irrefl _)
  · have hb':some w.heap.size=some b:=hb'
    injection hb' with hb';subst hb'
    exact ⟨by simp, .inr S.fr.size,fun hm=>absurd (S.own _ hm).1 (Nat.lt_irrefl _)⟩
/-- A made row that is never written. -/
theorem op_make {T:Td α} {z0:α} {t e by_ n:Nat} {z c:Value} {k k2:IntKind} {x y:Operand} (h:opd Γ x=some (is (.int k (n:Int)))) (h':opd Γ y=some (is (.int k2 (n:Int)))) [TSl P t e] [TSz P e 1] [TBy P e by_] [TZero P e z] (hs:T.sz=1) (hz:z.cells = #[c]) (hc:T.cells z0=[is c]) (h1:c.oneCell'=true) (hb:by_*n≤281474976710656) (hn:n≤maxLen) :
    OpP P Γ Δ ⟨d, .makeSlice t x y,ty,pos,af,g⟩ (sl T.toTy (List.replicate n z0)) :=
  OpP.val fun H a w hx hsat _=>by
    have hv:a.eval x = .int k (n:Int):=hx x (by simp [Op.operands]) _ h
    have hv':a.eval y = .int k2 (n:Int):=hx y (by simp [Op.operands]) _ h'
    obtain ⟨m1,m2⟩:=madeOne hs hz hc n
    have E:=ext_new hsat (madeCells z.cells n).toList e
    refine ⟨.slice (some ⟨w.heap.size,0,none⟩) n n,_,_,?_,E,?_⟩
    · simp only [execOp,hv,hv']
      refine run_value ?_
      rw [Array.toArray_toList]
      exact run_makeN hb hn
    · have hcs:All2 (fun φ c=>φ.c H c) (flat T.toTy (List.replicate n z0)) (madeCells z.cells n).toList:=by
        rw [m1,m2]
        refine All2.of_get (by simp) fun i φ u hi hu=>?_
        rw [List.getElem?_replicate] at hi hu
        split at hi
        · rename_i hin
          rw [if_pos hin] at hu
          injection hi with hi;injection hu with hu;subst hi;subst hu
          exact ⟨rfl,h1⟩
        · cases hi
      have:=sl_new T.toTy (w:=w) (List.replicate n z0) hcs E.le (by simpa using hn)
      simpa using this

/-! ### Copies -/
theorem src_own {T:Td α} {ys:List α} {H:IH} {w:World} {u e e' b o cap:Nat} {φs:List Pr} [hu:TSl P u e] (h:(own b e' φs).ok H w) (hl:(φs.drop o).take (ys.length*T.sz)=flat T.toTy ys):Src P H w u (.slice (some ⟨b,o,none⟩) ys.length cap) T.sz ys.length (flat T.toTy ys):=by
  obtain ⟨cs,hh,hcs⟩:=own_cells h
  have h5:=(hcs.drop o).take (ys.length*T.sz)
  rw [hl] at h5
  have hlen:((cs.drop o).take (ys.length*T.sz)).length=ys.length*T.sz:=by rw [← h5.length,flat_len]
  refine ⟨⟨_,hu.h,fun k h=>by cases h⟩,fun w=>rfl,_,hlen,h5,fun w' hw=>?_⟩
  show (loadCells ⟨b,o,none⟩ (ys.length*T.sz)).run P w'=_
  conv=>lhs;rw [← hlen]
  refine run_loadCells_list w' ⟨b,o,none⟩ _ fun j v hj=>?_
  rw [add_at,cell_heap hw,cell_at hh]
  rw [List.getElem?_take] at hj
  split at hj
  · rwa [List.getElem?_drop] at hj
  · cases hj
theorem From.own {T:Td α} {u e e' b o cap:Nat} {φs:List Pr} {y:Operand} {ys:List α} [TSl P u e] (h:opd Γ y=some (is (.slice (some ⟨b,o,none⟩) ys.length cap))) (hm:L.own b e' φs ∈ Δ) (hl:(φs.drop o).take (ys.length*T.sz)=flat T.toTy ys):From Γ Δ P T u y ys:=⟨fun H w ρ hs hr hx=>by
  have hv:=hx _ h
  have hv:ρ y = .slice (some ⟨b,o,none⟩) ys.length cap:=hv
  rw [hv];exact src_own (hr _ hm) hl⟩
theorem Lq.copy {T:Td α} {d t u e e' b o n cap:Nat} {φs φs':List Pr} {ys:List α} {s y:Operand} (h:opd Γ s=some (is (.slice (some ⟨b,o,none⟩) n cap))) (hp:Δ.Perm (L.own b e' φs::Δ')) (hf:From Γ Δ C.P T u y ys) (hd:Nat.blt d C.n=true) [TSl C.P t e] [TSz C.P e T.sz] (hn:ys.length≤n)
    (hfit:o+ys.length*T.sz≤φs.length) (he:splice φs o (flat T.toTy ys)=φs') (k:Lq C ((d,is (.int .i64 (ys.length:Int)))::Γ) (L.own b e' φs'::Δ') ops rest Q):Lq C Γ Δ ops (⟨some d, .call ⟨.builtin .copy, #[s,y], #[t,u]⟩,ty,pos,af,none⟩::rest) Q:=by
  subst he
  intro H a w S
  refine wpL_plain rfl (fun c hc=>by cases hc) fun K hK=>?_
  have hv:a.eval s = .slice (some ⟨b,o,none⟩) n cap:=S.opd h
  cases hf with
  | mk hf =>
    obtain ⟨⟨du,hu,hnu⟩,hlen,news,hnl,hn2,hcells⟩:=hf H w a.eval S.sat S.res (fun ψ hψ=>S.opd hψ)
    obtain ⟨⟨cs,hh,hcs⟩,hnone⟩:=S.res _ (hp.mem_iff.2 List.mem_cons_self)
    have hclen:=hcs.length
    obtain ⟨w',hrun,hb',hk',hs',e1,e2,e3⟩:=run_storeCells (P:=C.P) (b:=b) (o:=o) (e:=e') news 0 w cs hh (by rw [hnl];omega) (fun v hv=>by
      obtain ⟨j,hj,rfl⟩:=List.mem_iff_getElem.1 hv
      have hj2:j < (flat T.toTy ys).length:=by rw [hn2.length];exact hj
      obtain ⟨c',hc',hφ⟩:=hn2.get j _ (List.getElem?_eq_getElem hj2)
      rw [List.getElem?_eq_getElem hj] at hc'
      injection hc' with hc';rw [hc'];exact hφ.2)
    have hcopy:(Builtin.copy_ #[t,u] ty #[.slice (some ⟨b,o,none⟩) n cap,a.eval y]).run C.P w = .ok (.int .i64 (ys.length:Int)) w':=by
      have ht:C.P.underlying t=some (.slice e):=(inferInstance:TSl C.P t e).h
      have hmin:Nat.min ys.length n=ys.length:=Nat.min_eq_left hn
      simp [Builtin.copy_,run_underlying ht,hlen,hmin,run_sizeOf (P:=C.P) (t:=e) (n:=T.sz),hcells w rfl,hrun,goInt]
    have hexec:(execOp a.eval ⟨some d, .call ⟨.builtin .copy, #[s,y], #[t,u]⟩,ty,pos,af,none⟩).run C.P w = .ok (.value (.int .i64 (ys.length:Int))) w' :=
      run_builtin (as:=[s,y]) fun c=>run_value (x:=Builtin.copy_ #[t,u] ty #[a.eval s,a.eval y]) (by rw [hv];exact hcopy)
    unfold Oper.wp
    rw [hexec]
    have S':St C Γ (L.own b e' (splice φs o (flat T.toTy ys))::Δ') H a w':=by
      refine St.write (r:=L.own b e' φs) (b:=b) S hp rfl rfl ⟨S.sat.gk,fun b2 o2 v2 hv2=>?_⟩ ⟨⟨_,hb',?_⟩,hnone⟩ hk' hs' e1 e2 e3
      · have hne:b2 ≠ b:=fun e=>by subst e;rw [hnone] at hv2;cases hv2
        exact (World.cell?_of_block (w:=w) (a:=⟨b2,o2,none⟩) (hk' b2 hne)).trans (S.sat.cell b2 o2 v2 hv2)
      · unfold splice
        simp only [Nat.add_zero]
        rw [flat_len, ← hnl]
        exact ((hcs.take o).append hn2).append (hcs.drop (o+news.length))
    exact hK _ _ (k H _ _ (S'.put (Ext.refl S'.sat) d (blt hd) _ _ rfl))

/-! ### Equality of arrays -/
theorem run_part {T:Td α} {e q:Nat} {v:α} {cs:List Value} {H:IH} {w:World} [TSz P e T.sz] [TAg P e T.ag] (hc:All2 (fun φ c=>φ.c H c) (T.cells v) ((cs.drop q).take T.sz)) : ∃ u,(part e cs.toArray q).run P w = .ok u w∧(T.val v).h H u:=by
  refine ⟨_,?_,T.inn hc⟩
  unfold part
  refine (run_bind (isAgg e) _ w (run_isAgg (t:=e) (b:=T.ag))).trans ?_
  cases hag:T.ag with
  | true =>
    simp only [if_true]
    refine (run_bind (sizeOf e) _ w (run_sizeOf (t:=e) (n:=T.sz))).trans ?_
    show Result.ok (Value.agg (cs.toArray.extract q (q+T.sz))) w=_
    simp [List.extract_eq_take_drop]
  | false =>
    simp only [Bool.false_eq_true,if_false]
    have h1:=T.one hag
    have hl:=hc.length
    have hl2:=T.len v
    rw [hl2] at hl
    rw [h1] at hl ⊢
    rw [List.length_take,List.length_drop] at hl
    have hq:q < cs.length:=by omega
    have e1:((cs.drop q).take 1).headD undef=cs[q]:=by rw [List.drop_eq_getElem_cons hq];rfl
    rw [e1]
    simp [hq]
/-- Values of a type that == compares. -/
structure Eqd (P:Program) (t:Nat) (T:Td α) [DecidableEq α] (m:Nat):Prop where
  eq : ∀ {H:IH} {x y:α} {u v:Value} {w:World} (d:Nat),m≤d→(T.val x).h H u→(T.val y).h H v→(Op.equalIn d t u v).run P w = .ok (decide (x=y)) w
theorem eqd_u8 {t:Nat} [h:TInt P t .u8]:Eqd P t u8T 1:=⟨fun {H x y u v w} d hd hu hv=>by
  obtain ⟨d,rfl⟩ : ∃ k,d=k+1:=⟨d - 1,by omega⟩
  have hu:u = .int .u8 (x.toNat:Int):=hu
  have hv:v = .int .u8 (y.toNat:Int):=hv
  subst hu;subst hv
  refine (run_equalIn_int (P:=P) w d t .u8 .u8 _ _ h.h).trans ?_
  congr 1
  rw [Bool.eq_iff_iff,beq_iff_eq,decide_eq_true_iff]
  constructor
  · intro h;exact UInt8.toNat_inj.1 (by omega)
  · intro h;rw [h]⟩
theorem eqd_items [DecidableEq α] {T:Td α} {e m c:Nat} (he:Eqd P e T m) [TSz P e T.sz] [TAg P e T.ag] (hc:c=T.sz) {H:IH} {w:World} {xs ys:List α} {cx cy:List Value} (hx:All2 (fun φ c=>φ.c H c) (flat T.toTy xs) cx) (hy:All2 (fun φ c=>φ.c H c) (flat T.toTy ys) cy) {d:Nat} (hd:m≤d) :
    ∀ (n k:Nat),k+n=xs.length→xs.length=ys.length→(Op.eqItems d e c cx.toArray cy.toArray (List.range' k n)).run P w = .ok (decide (xs.drop k=ys.drop k)) w
  | 0,k,h,hl=>by
    rw [List.drop_eq_nil_of_le (by omega),List.drop_eq_nil_of_le (by omega)]
    simp [Op.eqItems]
  | n+1,k,h,hl=>by
    have hkx:k < xs.length:=by omega
    have hky:k < ys.length:=by omega
    have seg : ∀ {zs:List α} {cz:List Value} (hz:All2 (fun φ c=>φ.c H c) (flat T.toTy zs) cz) (hk:k < zs.length),All2 (fun φ c=>φ.c H c) (T.cells zs[k]) ((cz.drop (k*T.sz)).take T.sz):=by
      intro zs cz hz hk
      have h1:=(hz.drop (0+k*T.sz)).take T.sz
      rw [at_flat0 T.toTy (List.getElem?_eq_getElem hk)] at h1
      rwa [Nat.zero_add] at h1
    obtain ⟨u,hu,hu'⟩:=run_part (P:=P) (T:=T) (e:=e) (w:=w) (seg hx hkx)
    obtain ⟨v,hv,hv'⟩:=run_part (P:=P) (T:=T) (e:=e) (w:=w) (seg hy hky)
    have heq:=he.eq (w:=w) d hd hu' hv'
    subst hc
    rw [List.range'_succ]
    simp only [Op.eqItems,Sem.run_bind,hu,hv,heq,Result.andThen_ok]
    rw [List.drop_eq_getElem_cons hkx,List.drop_eq_getElem_cons hky]
    by_cases hxy:xs[k]=ys[k]
    · rw [decide_eq_true hxy]
      simp only [Bool.not_true,Bool.false_eq_true,if_false]
      rw [eqd_items he rfl hx hy hd n (k+1) (by omega) hl]
      refine congrArg (fun b=>Result.ok b w) (decide_eq_decide.2 ?_)
      rw [List.cons.injEq]
      simp only [hxy,true_and]
    · rw [decide_eq_false hxy]
      simp only [Bool.not_false,if_true]
      have:decide (xs[k]::xs.drop (k+1)=ys[k]::ys.drop (k+1))=false:=decide_eq_false (by rw [List.cons.injEq];exact fun h=>hxy h.1)
      rw [this];rfl
instance {α:Type} [DecidableEq α] {n:Nat}:DecidableEq (Arr α n):=inferInstance
theorem eqd_arr [DecidableEq α] {T:Td α} {t e m n:Nat} {hn:0 < n} [ht:TArr P t n e] [h1:TSz P e T.sz] [TAg P e T.ag] (he:Eqd P e T m):Eqd P t (arrT n T hn) (m+1):=⟨fun {H x y u v w} d hd hu hv=>by
  obtain ⟨d,rfl⟩ : ∃ k,d=k+1:=⟨d - 1,by omega⟩
  obtain ⟨i,hi,hsz⟩:=Option.map_eq_some_iff.1 h1.h
  obtain ⟨cx,rfl,hcx⟩:=hu
  obtain ⟨cy,rfl,hcy⟩:=hv
  have hc:P.cellsOf e=T.sz:=by simp [Program.cellsOf,hi,hsz]
  refine (run_equalIn_array (P:=P) w d cx.toArray cy.toArray ht.h hi).trans ?_
  rw [List.range_eq_range']
  refine (eqd_items he hc hcx hcy (show m≤d by omega) n 0 (by rw [x.2];omega) (by rw [x.2,y.2])).trans ?_
  congr 1
  simp [Subtype.ext_iff]⟩
class TNg (P:Program) (t:Nat):Prop where h:P.eqGuardType P.depth t=false
theorem op_eqA {t yt m:Nat} [DecidableEq α] {T:Td α} (he:Eqd P t T m) (hag:T.ag=true) [hg:TNg P t] {u v:α} {x y:Operand} (hm:Nat.ble m 10000=true) (h1:opd Γ x=some (T.val u)) (h2:opd Γ y=some (T.val v)):OpP P Γ Δ ⟨d, .binOp .eql t x y yt,ty,pos,af,g⟩ (is (.bool (decide (u=v)))) :=
  OpP.same fun H a w hx hs=>by
    have hu:=hx x (by simp [Op.operands]) _ h1
    have hv:=hx y (by simp [Op.operands]) _ h2
    have heq:=he.eq (w:=w) 10000 (Nat.le_of_ble_eq_true hm) hu hv
    have : ∃ cx cy,a.eval x = .agg cx∧a.eval y = .agg cy:=by
      unfold Td.val at hu hv
      rw [hag] at hu hv
      obtain ⟨cx,hcx,_⟩:=hu
      obtain ⟨cy,hcy,_⟩:=hv
      exact ⟨_,_,hcx,hcy⟩
    obtain ⟨cx,cy,ex,ey⟩:=this
    rw [ex,ey] at heq
    refine ⟨_,?_,rfl⟩
    simp only [execOp,ex,ey]
    refine run_value ?_
    refine (run_bind _ _ w (a:=()) (w':=w) ?_).trans ?_
    · unfold eqGuard
      simp [program,bind,Sem.bind,pure,Sem.run,hg.h]
    · exact (run_bind (Op.equal t (.agg cx) (.agg cy)) (fun r=>pure (Value.bool r)) w heq).trans rfl
end
end Go.Proofs.YtljbbajelkkafaaDoor.L
