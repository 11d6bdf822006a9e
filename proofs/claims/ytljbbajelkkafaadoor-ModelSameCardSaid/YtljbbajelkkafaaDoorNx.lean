/-
  Rules: calls that are lent what is owned,and yield a row of their own.
-/
import Derived.Test.YtljbbajelkkafaaDoorLo
namespace Go.Proofs.YtljbbajelkkafaaDoor.L
open Go
set_option linter.unusedSectionVars false
variable [Globs]
set_option linter.unusedVariables false
/-- Cells that are values. -/
def plainT {α:Type} (T:Ty α):Prop := ∀ x, ∀ φ ∈ T.cells x, ∃ v,φ=is v
theorem plain_hash:plainT hashT.toTy:=fun x φ h=>by
  have h:φ ∈ flat u8T.toTy x.1:=h
  unfold flat at h
  obtain ⟨l,hl,hφ⟩:=List.mem_flatten.1 h
  obtain ⟨c,_,rfl⟩:=List.mem_map.1 hl
  have hφ:φ ∈ [is (.int .u8 (c.toNat:Int))]:=hφ
  rw [List.mem_singleton] at hφ
  exact ⟨_,hφ⟩
section
variable {P:Program} {Γ:Env} {Δ:List Res} {ty:Nat} {pos:String} {af:Array Edge}
/-- A call that reads a row, which it is lent, and yields another one. -/
theorem opR_lendG {β:Type} {U:Ty β} {ys:List β} {e' f:Nat} {φs ξs:List Pr} {xs:List Operand} {ats:Array Nat} {d:Option Nat} (hU:plainT U)
    (F:FnR P f ξs [] (fun ψ Δ => ∃ A c,ψ=is (.slice A ys.length c)∧Δ=[row (.slice A ys.length c) e' U ys])) (h:opds Γ xs φs)
    (hg : ∀ H w,Sat H w→(∀ r ∈ Δ,r.ok H w) → ∃ (H2:IH) (B:Nat→Prop),IH.le H H2∧Sat H2 w∧(∀ b o, ¬ B b→H2 b o=H b o)∧(∀ b,B b→b ∈ Δ.filterMap Res.blk) ∧ ∀ vs,All2 (fun (φ:Pr) v=>φ.h H v) φs vs→All2 (fun (φ:Pr) v=>φ.h H2 v) ξs vs) :
    OpR P Γ Δ ⟨d, .call ⟨.value (.func f),xs.toArray,ats⟩,ty,pos,af,none⟩ (fun u=>row u e' U ys):=by
  intro H a w Q K hx hs hr hb hK
  have hargs:=opds.all (ρ:=a.eval) (H:=H) h (fun x hxx ψ hψ=>hx x (by simp [Op.operands,Call.operands,hxx]) ψ hψ)
  obtain ⟨Hp,B,k1,k2,k4,k5,k3⟩:=hg H w hs hr
  have hrun:(execOp a.eval ⟨d, .call ⟨.value (.func f),xs.toArray,ats⟩,ty,pos,af,none⟩).run P w = .ok (.enter f (xs.map a.eval).toArray) w:=by
    have h1:(callFunc f ((#[]++xs.toArray.map a.eval) ++ #[])).run P w = .ok (.enter f (xs.map a.eval).toArray) w:=by
      rw [Array.empty_append,Array.append_empty,List.map_toArray]
      exact F.ent.h _ w
    exact h1
  unfold Oper.wp
  rw [hrun]
  rw [Oper.upon_enter]
  refine (F.run Hp w _ k2 (k3 _ hargs) (fun r hr=>by cases hr) List.nodup_nil (fun b hb=>by cases hb)).mono fun e2 w' hR=>?_
  obtain ⟨u,H1,ψ,Δ',rfl,⟨A,c,rfl,rfl⟩,hψ,hsat,hok,hnd',hblk,hle,hfr,hkk⟩:=hR
  have hψ:u = .slice A ys.length c:=hψ
  subst hψ
  haveI : ∀ b,Decidable (B b):=fun b=>Classical.propDecidable _
  let H2:IH:=fun b o=>if B b then H b o else H1 b o
  have hle2:IH.le H H2:=fun b o z hz=>by
    show (if _ then H b o else H1 b o)=some z
    split
    · exact hz
    · exact hle _ _ _ (k1 _ _ _ hz)
  have hle1:IH.le H2 H1:=fun b o z hz=>by
    replace hz:(if B b then H b o else H1 b o)=some z:=hz
    split at hz
    · exact hle _ _ _ (k1 _ _ _ hz)
    · exact hz
  have hblkw : ∀ b,B b→b < w.heap.size:=fun b hb2=>hb b (k5 b hb2)
  have hnew : ∀ b,(row (.slice A ys.length c) e' U ys).blk=some b→w.heap.size≤b∧b < w'.heap.size:=fun b hb2=>by
    have:=hblk b (by unfold blks;rw [List.filterMap_cons,hb2];exact List.mem_cons_self)
    refine ⟨?_,this.1⟩
    rcases this.2 with h|h
    · cases h
    · exact h
  refine hK _ H2 w' ⟨hle2,fun b o hlt=>?_,⟨Gk.mono hle2 hs.gk,fun b o z hz=>hsat.cell b o z (hle1 _ _ _ hz)⟩,hfr⟩ ?_ hnew
  · show (if _ then H b o else H1 b o)=H b o
    split
    · rfl
    · rename_i hne
      rw [hkk b o hlt (by simp [blks]),k4 b o hne]
  · rcases hok _ List.mem_cons_self with h|⟨b,o,cap,cs,hv2,h1,h2,h3,h4,h5,h6,h7⟩
    · exact .inl h
    · refine .inr ⟨b,o,cap,cs,hv2,h1,h2,h3,h4,?_,h6,fun i=>?_⟩
      · refine All2.of_get h5.length fun j φ z hj hz=>?_
        obtain ⟨z',hz',hc⟩:=h5.get j φ hj
        rw [hz] at hz';injection hz' with hz';subst hz'
        have:φ ∈ flat U ys:=List.mem_of_getElem? hj
        unfold flat at this
        obtain ⟨l,hl,hφ⟩:=List.mem_flatten.1 this
        obtain ⟨y,_,rfl⟩:=List.mem_map.1 hl
        obtain ⟨q,rfl⟩:=hU y φ hφ
        exact hc
      · show (if B b then H b i else H1 b i)=none
        have hge:=(hnew b (by rw [hv2];rfl)).1
        rw [if_neg (fun h=>by have:=hblkw b h;omega)]
        exact h7 i
/-- A call that reads a row, which it is lent, and yields another one. -/
theorem opR_lend {α β:Type} {T:Ty α} {U:Ty β} {xs:List α} {ys:List β} {e e' f:Nat} {v:Value} {x:Operand} {ats:Array Nat} {d:Option Nat} (hU:plainT U)
    (F:FnR P f [sl T xs] [] (fun ψ Δ => ∃ A c,ψ=is (.slice A ys.length c)∧Δ=[row (.slice A ys.length c) e' U ys])) (h:opd Γ x=some (is v)) (hm:row v e T xs ∈ Δ) :
    OpR P Γ Δ ⟨d, .call ⟨.value (.func f), #[x],ats⟩,ty,pos,af,none⟩ (fun u=>row u e' U ys) :=
  opR_lendG (xs:=[x]) (φs:=[is v]) hU F ⟨h,trivial⟩ fun H w hs hr=>by
    obtain ⟨Hp,k1,k2,k3,k4⟩:=row_freeze hs (hr _ hm)
    refine ⟨Hp,fun b=>(row v e T xs).blk=some b,k1,k2,k4,fun b hb=>List.mem_filterMap.2 ⟨_,hm,hb⟩,fun vs hvs=>?_⟩
    match vs,hvs with
    | [u],⟨h1,_⟩ =>
      have h1:u=v:=h1
      subst h1
      exact ⟨k3,trivial⟩
/-- A block that is lent. -/
theorem own_freeze {b e:Nat} {φs:List Pr} {H:IH} {w:World} (hs:Sat H w) (h:(own b e φs).ok H w) : ∃ H',IH.le H H'∧Sat H' w∧(ptr φs).h H' (.pointer (some ⟨b,0,none⟩)) ∧ ∀ b' o,b' ≠ b→H' b' o=H b' o:=by
  obtain ⟨cs,hh,hcs⟩:=own_cells h
  have hn:=h.2
  have hle:IH.le H (H.add b cs):=fun b' o v hz=>by
    show (if b'=b then cs[o]? else H b' o)=some v
    by_cases hbb:b'=b
    · subst hbb;rw [hn o] at hz;cases hz
    · rw [if_neg hbb];exact hz
  refine ⟨H.add b cs,hle,⟨Gk.mono hle hs.gk,fun b' o' v hz=>?_⟩,⟨b,0,rfl,fun i φ hi=>?_⟩,fun b' o' hb=>?_⟩
  · replace hz:(if b'=b then cs[o']? else H b' o')=some v:=hz
    split at hz
    · rename_i hbb
      subst hbb
      rw [cell_at hh];exact hz
    · exact hs.cell b' o' v hz
  · obtain ⟨c,hc,hφ⟩:=hcs.get i φ hi
    refine ⟨c,?_,Pr.c_mono hle hφ⟩
    show (if b=b then cs[0+i]? else H b (0+i))=some c
    rw [if_pos rfl,Nat.zero_add];exact hc
  · show (if b'=b then cs[o']? else H b' o')=_
    rw [if_neg hb]
end
theorem op_ptrEq {P:Program} {Γ:Env} {Δ:List Res} {d:Option Nat} {ty t yt:Nat} {pos:String} {af:Array Edge} {g:Option (Nat × Bool)} {x y:Operand} {e:Nat} [hp:TPtr P t e] {φs:List Pr} (h:opd Γ x=some (ptr φs)) (h2:opd Γ y=some (is (.pointer none))):OpP P Γ Δ ⟨d, .binOp .eql t x y yt,ty,pos,af,g⟩ (is (.bool false)) :=
  OpP.same fun H A w hx hs=>by
    obtain ⟨b,o,hv,_⟩:=hx x (by simp [Op.operands]) _ h
    have hv2:A.eval y = .pointer none:=hx y (by simp [Op.operands]) _ h2
    refine ⟨_,?_,rfl⟩
    simp only [execOp,hv,hv2]
    refine run_value ?_
    refine (run_bind _ _ w (show (eqGuard .eql t x y (.pointer (some ⟨b,o,none⟩)) (.pointer none)).run P w = .ok () w from rfl)).trans ?_
    have:(Op.equal t (.pointer (some ⟨b,o,none⟩)) (.pointer none)).run P w = .ok false w:=by
      unfold Op.equal Op.maxDepth Op.equalIn
      exact (run_bind (underlying t) _ w (run_underlying' hp.h)).trans rfl
    exact (run_bind (Op.equal t (.pointer (some ⟨b,o,none⟩)) (.pointer none)) (fun r=>pure (Value.bool r)) w this).trans rfl
theorem Lq.slOpn {C:Cx} {Γ:Env} {Δ:List Res} {Q:Exit→Act→World→Prop} {ops:Array Oper} {rest:List Oper} {α:Type} {T:Ty α} {l:List α} (s:Nat) (h:look Γ s=some (sl T l))
    (k : ∀ A c,(A=none→l=[])→Lq C ((s,is (.slice A l.length c))::Γ) Δ ops rest Q):Lq C Γ Δ ops rest Q:=by
  intro H a w S
  obtain ⟨v,hv,A,cap,hva,hle,hm,hn,hc⟩:=S.env s _ h
  refine k A cap (fun hA=>List.eq_nil_of_length_eq_zero (by have:=hn hA;omega)) H a w (S.weak fun t χ ht=>?_)
  unfold look at ht
  split at ht
  · rename_i hk
    have hk:=Nat.eq_of_beq_eq_true hk
    subst hk
    injection ht with ht;subst ht
    exact ⟨v,hv,hva⟩
  · exact S.env t χ ht
end Go.Proofs.YtljbbajelkkafaaDoor.L
