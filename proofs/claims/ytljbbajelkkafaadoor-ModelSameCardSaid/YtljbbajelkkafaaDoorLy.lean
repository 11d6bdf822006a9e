/-
  Package variables that a row lists as laid,known for good.
-/
import Derived.Test.YtljbbajelkkafaaDoorLr
import Derived.LaidMore
import Derived.LaidLaws
import Derived.LaidHandle
import Derived.MakeChecks
import Derived.Stop.Joined
set_option linter.unusedVariables false
set_option linter.unusedSimpArgs false
namespace Go.Proofs.YtljbbajelkkafaaDoor.L
open Go Go.RowKit Go.WideShapes Go.ChangeShapes Go.ChangeAt
/-- A listed variable: an array of whole numbers. -/
def Tied (P:Program) (x:String × DataW Unit) (y:Nat × List Value):Prop :=
  ∃ (t n e:Nat) (k:IntKind) (ns:List Nat),P.globalNamed x.1=some y.1∧(P.globals[y.1]?).map (·.type)=some t∧P.underlying t=some (.array n e)∧P.underlying e=some (.int k)∧P.cellsOf e=1 ∧
    x.2 = .agg (ns.map fun (m:Nat) => .lit (.int k (m:Int)))∧y.2=ns.map fun (m:Nat)=>Value.int k (m:Int)
theorem laid_cells {P:Program} {W:World} {t n e fuel:Nat} {k:IntKind} {cs:List Value} {ns:List Nat} {ps:List MemPlace} (ht:P.underlying t=some (.array n e)) (he:P.underlying e=some (.int k)) (h1:P.cellsOf e=1)
    (h:DataW.trod (fun _=>()) P W 0 (fun _=>true) false fuel t cs=some (.agg (ns.map fun (m:Nat) => .lit (.int k (m:Int))),ps)) (o:Nat) (v:Value) (hv:(ns.map fun (m:Nat)=>Value.int k (m:Int))[o]?=some v):cs[o]?=some v:=by
  obtain ⟨xs,m,rfl,hx,hlen,hn,hel⟩:=DataW.trod_array ht h
  simp only [Prod.mk.injEq,DataW.agg.injEq] at hx
  rw [List.getElem?_map] at hv
  obtain ⟨q,hq,rfl⟩:=Option.map_eq_some_iff.1 hv
  have hxs:(xs.map (·.1))[o]?=some (.lit (.int k (q:Int))):=by rw [← hx.1,List.getElem?_map,hq];rfl
  rw [List.getElem?_map] at hxs
  obtain ⟨x,hxo,hx1⟩:=Option.map_eq_some_iff.1 hxs
  have ho:=(List.getElem?_eq_some_iff.1 hxo).1
  have hh:=hel o (by omega)
  rw [h1,Nat.mul_one,hxo] at hh
  obtain ⟨z,e1,e2,_⟩:=DataW.trod_int he hh
  rw [e2] at hx1
  injection hx1 with hx1
  injection hx1 with _ hx1
  subst hx1
  have:((cs.drop o).take 1)[0]?=some (.int k (q:Int)):=by rw [e1];rfl
  rw [List.getElem?_take,if_pos (by decide),List.getElem?_drop] at this
  exact this
theorem gk_laid {P:Program} {W:World} : ∀ {l:List (String × DataW Unit)} {G:List (Nat × List Value)} {ps:List MemPlace},DataW.LaidVars P W l ps→All2 (Tied P) l G → ∀ g cs,(g,cs) ∈ G → ∀ o v,cs[o]?=some v→W.cell? ⟨g,o,none⟩=some v
  | [],[],_,_,_,g,cs,hm,_,_,_=>by cases hm
  | (n,d)::r,(g0,cs0)::G,_,⟨g1,t1,cs1,f1,p1,q1,hg1,ht1,hv1,hd1,hr,_⟩,⟨⟨t,n',e,k,ns,h1,h2,h3,h4,h5,h6,h7⟩,ha⟩,g,cs,hm,o,v,hv=>by
    rcases List.mem_cons.1 hm with hm|hm
    · injection hm with ha hb
      subst ha;subst hb
      obtain rfl:g1=g:=Option.some.inj (hg1.symm.trans h1)
      obtain rfl:t1=t:=Option.some.inj (ht1.symm.trans h2)
      have h6:d=_:=h6
      subst h6
      have h7:cs=_:=h7
      subst h7
      have:=World.var?_cell hg1 hv1 o
      rw [this, ← Array.getElem?_toList]
      exact laid_cells h3 h4 h5 hd1 o v hv
    · exact gk_laid hr ha g cs hm o v hv
  | [],_::_,_,_,h,_,_,_,_,_,_=>h.elim
  | _::_,[],_,_,h,_,_,_,_,_,_=>h.elim
theorem gk_met {P:Program} {W:World} {l:List (String × DataW Unit)} {G:List (Nat × List Value)} (hp:(l.all fun x=>x.2.handleName?.isNone)=true) (h:laidMetH P l W) (ha:All2 (Tied P) l G) : @Gk ⟨G⟩ (fullH W):=by
  rw [MakeChecks.laidMetH_plain _ _ _ hp] at h
  obtain ⟨ps,hl,_⟩:=h
  exact fun g cs hm o v hv=>gk_laid hl ha g cs hm o v hv
end Go.Proofs.YtljbbajelkkafaaDoor.L
