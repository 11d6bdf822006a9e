/-
  Rules for texts that are compared,values of structs that are compared,a text as runes,and an append to a slice without room.
-/
import Derived.Test.YtljbbajelkkafaaDoorNb
import Derived.Test.YtljbbajelkkafaaDoorLx
namespace Go.Proofs.YtljbbajelkkafaaDoor.L
open Go
set_option linter.unusedSectionVars false
variable [Globs]
set_option linter.unusedVariables false
section
variable {P:Program} {Γ:Env} {Δ:List Res} {d:Option Nat} {ty t yt:Nat} {pos:String} {af:Array Edge} {g:Option (Nat × Bool)} {x y:Operand}
theorem beq_dec (a b:Str):(a == b)=decide (a=b):=Bool.eq_iff_iff.2 (by simp)
theorem sle_eq (a b:Str):(slt a b || decide (a=b)) = !slt b a:=by
  rcases slt_tri a b with h|rfl|h
  · rw [h,slt_asym h];rfl
  · rw [slt_irr];simp
  · rw [h,slt_asym h]
    have:a ≠ b:=fun e=>slt_ne h e.symm
    simp [this]
theorem op_slss {a b:Str} (h1:opd Γ x=some (is (str a))) (h2:opd Γ y=some (is (str b))):OpP P Γ Δ ⟨d, .binOp .lss t x y yt,ty,pos,af,g⟩ (is (.bool (slt a b))) :=
  op_bin h1 h2 fun w=>by
    refine (run_bind _ _ w (show (eqGuard .lss t x y (str a) (str b)).run P w = .ok () w from rfl)).trans ?_
    show (Op.stringOp .lss ⟨a.toArray⟩ ⟨b.toArray⟩).run P w=_
    unfold Op.stringOp
    show Result.ok (Value.bool (Op.bytesLess (⟨a.toArray⟩:ByteArray).toList (⟨b.toArray⟩:ByteArray).toList)) w=_
    rw [ByteArray.toList_mk,ByteArray.toList_mk]
    rfl
theorem op_sgeq {a b:Str} (h1:opd Γ x=some (is (str a))) (h2:opd Γ y=some (is (str b))):OpP P Γ Δ ⟨d, .binOp .geq t x y yt,ty,pos,af,g⟩ (is (.bool (!slt a b))) :=
  op_bin h1 h2 fun w=>by
    refine (run_bind _ _ w (show (eqGuard .geq t x y (str a) (str b)).run P w = .ok () w from rfl)).trans ?_
    show (Op.stringOp .geq ⟨a.toArray⟩ ⟨b.toArray⟩).run P w=_
    unfold Op.stringOp
    show Result.ok (Value.bool (!Op.bytesLess (⟨a.toArray⟩:ByteArray).toList (⟨b.toArray⟩:ByteArray).toList)) w=_
    rw [ByteArray.toList_mk,ByteArray.toList_mk]
    rfl
theorem op_sneq {a b:Str} (h1:opd Γ x=some (is (str a))) (h2:opd Γ y=some (is (str b))):OpP P Γ Δ ⟨d, .binOp .neq t x y yt,ty,pos,af,g⟩ (is (.bool (!decide (a=b)))) :=
  op_bin h1 h2 fun w=>by
    refine (run_bind _ _ w (show (eqGuard .neq t x y (str a) (str b)).run P w = .ok () w from rfl)).trans ?_
    show (Op.stringOp .neq ⟨a.toArray⟩ ⟨b.toArray⟩).run P w=_
    unfold Op.stringOp
    show Result.ok (Value.bool (!((⟨a.toArray⟩:ByteArray).toList == (⟨b.toArray⟩:ByteArray).toList))) w=_
    rw [ByteArray.toList_mk,ByteArray.toList_mk]
    rw [beq_dec]
theorem op_sleq {a b:Str} (h1:opd Γ x=some (is (str a))) (h2:opd Γ y=some (is (str b))):OpP P Γ Δ ⟨d, .binOp .leq t x y yt,ty,pos,af,g⟩ (is (.bool (!slt b a))) :=
  op_bin h1 h2 fun w=>by
    refine (run_bind _ _ w (show (eqGuard .leq t x y (str a) (str b)).run P w = .ok () w from rfl)).trans ?_
    show (Op.stringOp .leq ⟨a.toArray⟩ ⟨b.toArray⟩).run P w=_
    unfold Op.stringOp
    show Result.ok (Value.bool (Op.bytesLess (⟨a.toArray⟩:ByteArray).toList (⟨b.toArray⟩:ByteArray).toList || ((⟨a.toArray⟩:ByteArray).toList == (⟨b.toArray⟩:ByteArray).toList))) w=_
    rw [ByteArray.toList_mk,ByteArray.toList_mk]
    rw [beq_dec]
    exact congrArg (fun z=>Result.ok (Value.bool z) w) (sle_eq a b)
theorem op_sgtr {a b:Str} (h1:opd Γ x=some (is (str a))) (h2:opd Γ y=some (is (str b))):OpP P Γ Δ ⟨d, .binOp .gtr t x y yt,ty,pos,af,g⟩ (is (.bool (slt b a))) :=
  op_bin h1 h2 fun w=>by
    refine (run_bind _ _ w (show (eqGuard .gtr t x y (str a) (str b)).run P w = .ok () w from rfl)).trans ?_
    show (Op.stringOp .gtr ⟨a.toArray⟩ ⟨b.toArray⟩).run P w=_
    unfold Op.stringOp
    show Result.ok (Value.bool (!(Op.bytesLess (⟨a.toArray⟩:ByteArray).toList (⟨b.toArray⟩:ByteArray).toList || ((⟨a.toArray⟩:ByteArray).toList == (⟨b.toArray⟩:ByteArray).toList)))) w=_
    rw [ByteArray.toList_mk,ByteArray.toList_mk]
    rw [beq_dec]
    refine congrArg (fun z=>Result.ok (Value.bool z) w) (?_:(!(slt a b || decide (a=b)))=_)
    rw [sle_eq,Bool.not_not]
theorem op_xorI {k:IntKind} {m n c:Int} (h1:opd Γ x=some (is (.int k m))) (h2:opd Γ y=some (is (.int k n))) (hc:k.wrap ((BitVec.ofInt k.bits m ^^^ BitVec.ofInt k.bits n).toNat:Int)=c):OpP P Γ Δ ⟨d, .binOp .xor t x y yt,ty,pos,af,g⟩ (is (.int k c)) :=
  op_int h1 h2 fun w=>by subst hc;simp [binOp,Op.intBits]
end
section
variable {P:Program} {α:Type}
theorem eqd_int {t:Nat} {k:IntKind} [h:TInt P t k]:Eqd P t (intT k) 1:=⟨fun {H x y u v w} d hd hu hv=>by
  obtain ⟨d,rfl⟩ : ∃ j,d=j+1:=⟨d - 1,by omega⟩
  have hu:u = .int k x:=hu
  have hv:v = .int k y:=hv
  subst hu;subst hv
  exact (run_equalIn_int (P:=P) w d t k k _ _ h.h).trans rfl⟩
theorem eqd_bool {t:Nat} [h:TBool P t]:Eqd P t boolT 1:=⟨fun {H x y u v w} d hd hu hv=>by
  obtain ⟨d,rfl⟩ : ∃ j,d=j+1:=⟨d - 1,by omega⟩
  have hu:u = .bool x:=hu
  have hv:v = .bool y:=hv
  subst hu;subst hv
  refine (run_equalIn_bool' (P:=P) w d t _ _ h.h).trans ?_
  cases x <;> cases y <;> rfl⟩
theorem eqd_str {t:Nat} [h:TStr P t]:Eqd P t strT 1:=⟨fun {H x y u v w} d hd hu hv=>by
  obtain ⟨d,rfl⟩ : ∃ j,d=j+1:=⟨d - 1,by omega⟩
  have hu:u=str x:=hu
  have hv:v=str y:=hv
  subst hu;subst hv
  refine (run_equalIn_string (P:=P) w d t _ _ h.h).trans ?_
  rw [ByteArray.toList_mk,ByteArray.toList_mk]
  congr 1
  exact Bool.eq_iff_iff.2 (by simp)⟩
/-- Fields that are compared, one behind the other. -/
inductive EqF (P:Program) (H:IH) (w:World) (d:Nat) (cx cy:List Value):List (Nat × Nat)→Bool→Prop
  | nil:EqF P H w d cx cy [] true
  | cons {α:Type} [DecidableEq α] (T:Td α) (x y:α) (m o t:Nat) (r:List (Nat × Nat)) (b:Bool) (he:Eqd P t T m) (hm:m≤d) [TSz P t T.sz] [TAg P t T.ag]
      (hx:All2 (fun φ c=>φ.c H c) (T.cells x) ((cx.drop o).take T.sz)) (hy:All2 (fun φ c=>φ.c H c) (T.cells y) ((cy.drop o).take T.sz)) (h:EqF P H w d cx cy r b):EqF P H w d cx cy ((o,t)::r) (decide (x=y) && b)
theorem EqF.run {H : IH} {w : World} {d : Nat} {cx cy : List Value} {l : List (Nat × Nat)} {b : Bool} (h : EqF P H w d cx cy l b) : ∀ fs : List Field, (fs.map fun f => (f.offset, f.type)) = l → fs.all (fun f => f.name != "_") = true → (Op.eqFields d cx.toArray cy.toArray fs).run P w = .ok b w := by
  induction h with
  | nil =>
    intro fs hf hn
    cases fs with
    | nil=>simp [Op.eqFields]
    | cons f fs=>cases hf
  | cons T x y m o t r b he hm hx hy h ih =>
    intro fs hf hn
    cases fs with
    | nil=>cases hf
    | cons f fs =>
      rw [List.map_cons,List.cons.injEq,Prod.mk.injEq] at hf
      obtain ⟨⟨rfl,rfl⟩,hf⟩:=hf
      rw [List.all_cons,Bool.and_eq_true,bne_iff_ne] at hn
      obtain ⟨u,hu,hu'⟩:=run_part (P:=P) (T:=T) (e:=f.type) (w:=w) hx
      obtain ⟨v,hv,hv'⟩:=run_part (P:=P) (T:=T) (e:=f.type) (w:=w) hy
      have heq:=he.eq (w:=w) d hm hu' hv'
      unfold Op.eqFields
      rw [if_pos hn.1]
      simp only [Sem.run_bind,hu,hv,heq,Result.andThen_ok]
      cases hxy:decide (x=y) with
      | true=>simpa using ih fs hf hn.2
      | false=>simp
theorem eqd_of {t:Nat} {l:List (Nat × Nat)} [h:TEq P t l] {H:IH} {w:World} {d:Nat} {cx cy:List Value} {b:Bool} (k:EqF P H w d cx cy l b):(Op.equalIn (d+1) t (.agg cx.toArray) (.agg cy.toArray)).run P w = .ok b w:=by
  have h1:=h.h
  unfold eqChk at h1
  rw [Bool.and_eq_true] at h1
  obtain ⟨h1,h2⟩:=h1
  cases hu:P.underlying t with
  | none=>rw [hu] at h2;cases h2
  | some dd =>
    rw [hu] at h2
    cases dd with
    | struct fs =>
      simp only [Bool.and_eq_true,decide_eq_true_eq] at h2
      have hf:P.fieldsOf t=fs:=by unfold Program.fieldsOf;rw [hu]
      refine (run_equalIn_struct (P:=P) w d t cx.toArray cy.toArray (by rw [hf];exact hu) (by simpa using h1)).trans ?_
      rw [hf]
      exact k.run fs.toList h2.1 h2.2
    | _=>cases h2
/-- A segment of known cells. -/
theorem seg_of {H:IH} {ps qs a b:List Pr} {cs:List Value} {o n:Nat} (h:All2 (fun φ c=>φ.c H c) ps cs) (e:ps=a++(qs++b)) (ho:a.length=o) (hn:qs.length=n):All2 (fun φ c=>φ.c H c) qs ((cs.drop o).take n):=by
  have h1:=(h.drop o).take n
  rw [e, ← ho,List.drop_left, ← hn,List.take_left] at h1
  rwa [ho,hn] at h1
theorem eqd_run {t ti:Nat} [TEq P t [(0,ti),(1,ti)]] [TInt P ti .i64] [TSz P ti 1] [TAg P ti false]:Eqd P t runT 2:=⟨fun {H x y u v w} d hd hu hv=>by
  obtain ⟨d,rfl⟩ : ∃ j,d=j+1:=⟨d - 1,by omega⟩
  obtain ⟨cx,rfl,hx⟩:=hu
  obtain ⟨cy,rfl,hy⟩:=hv
  haveI:TSz P ti (intT .i64).sz:=(inferInstance:TSz P ti 1)
  haveI:TAg P ti (intT .i64).ag:=(inferInstance:TAg P ti false)
  refine (eqd_of (H:=H) (l:=[(0,ti),(1,ti)]) (b:=decide (x.start=y.start) && (decide (x.count=y.count) && true)) ?_).trans ?_
  · refine .cons (intT .i64) x.start y.start 1 0 ti _ _ eqd_int (by omega) (seg_of (a:=[]) hx rfl rfl rfl) (seg_of (a:=[]) hy rfl rfl rfl) ?_
    exact .cons (intT .i64) x.count y.count 1 1 ti _ _ eqd_int (by omega) (seg_of (a:=[is (.int .i64 x.start)]) (b:=[]) hx rfl rfl rfl) (seg_of (a:=[is (.int .i64 y.start)]) (b:=[]) hy rfl rfl rfl) .nil
  · congr 1
    cases x;cases y
    simp⟩
theorem rec_split (r:Rec):recT.cells r=[is (.int .i64 r.time),is (.int .i64 r.len)]++(hashT.cells r.hash++[is (.int .i64 r.run.start),is (.int .i64 r.run.count),is (.bool r.shredded)]):=by
  simp [recT]
theorem rec_split2 (r:Rec):recT.cells r=([is (.int .i64 r.time),is (.int .i64 r.len)]++hashT.cells r.hash)++(runT.cells r.run++[is (.bool r.shredded)]):=by
  simp [recT,runT]
theorem rec_split3 (r:Rec):recT.cells r=([is (.int .i64 r.time),is (.int .i64 r.len)]++hashT.cells r.hash++runT.cells r.run)++(boolT.cells r.shredded++[]):=by
  simp [recT,runT,boolT]
theorem eqd_rec {t ti th tu tb te:Nat} [TEq P t [(0,ti),(1,ti),(2,th),(34,tu),(36,tb)]] [TInt P ti .i64] [TSz P ti 1] [TAg P ti false] [TArr P th 32 te] [TSz P th 32] [TAg P th true] [TInt P te .u8] [TSz P te 1] [TAg P te false]
    [TEq P tu [(0,ti),(1,ti)]] [TSz P tu 2] [TAg P tu true] [TBool P tb] [TSz P tb 1] [TAg P tb false]:Eqd P t recT 3:=⟨fun {H x y u v w} d hd hu hv=>by
  obtain ⟨d,rfl⟩ : ∃ j,d=j+1:=⟨d - 1,by omega⟩
  obtain ⟨cx,rfl,hx⟩:=hu
  obtain ⟨cy,rfl,hy⟩:=hv
  haveI:TSz P ti (intT .i64).sz:=(inferInstance:TSz P ti 1)
  haveI:TAg P ti (intT .i64).ag:=(inferInstance:TAg P ti false)
  haveI:TSz P te u8T.sz:=(inferInstance:TSz P te 1)
  haveI:TAg P te u8T.ag:=(inferInstance:TAg P te false)
  haveI:TSz P th hashT.sz:=(inferInstance:TSz P th 32)
  haveI:TAg P th hashT.ag:=(inferInstance:TAg P th true)
  haveI:TSz P tu runT.sz:=(inferInstance:TSz P tu 2)
  haveI:TAg P tu runT.ag:=(inferInstance:TAg P tu true)
  haveI:TSz P tb boolT.sz:=(inferInstance:TSz P tb 1)
  haveI:TAg P tb boolT.ag:=(inferInstance:TAg P tb false)
  have hh:Eqd P th hashT 2:=eqd_arr eqd_u8
  refine (eqd_of (H:=H) (l:=[(0,ti),(1,ti),(2,th),(34,tu),(36,tb)]) (b:=decide (x.time=y.time) && (decide (x.len=y.len) && (decide (x.hash=y.hash) && (decide (x.run=y.run) && (decide (x.shredded=y.shredded) && true))))) ?_).trans ?_
  · refine .cons (intT .i64) x.time y.time 1 0 ti _ _ eqd_int (by omega) (seg_of (a:=[]) hx rfl rfl rfl) (seg_of (a:=[]) hy rfl rfl rfl) ?_
    refine .cons (intT .i64) x.len y.len 1 1 ti _ _ eqd_int (by omega) (seg_of (a:=[is (.int .i64 x.time)]) hx rfl rfl rfl) (seg_of (a:=[is (.int .i64 y.time)]) hy rfl rfl rfl) ?_
    refine .cons hashT x.hash y.hash 2 2 th _ _ hh (by omega) (seg_of hx (rec_split x) rfl (hashT.len _)) (seg_of hy (rec_split y) rfl (hashT.len _)) ?_
    refine .cons runT x.run y.run 2 34 tu _ _ (eqd_run (ti:=ti)) (by omega) (seg_of hx (rec_split2 x) (by rw [List.length_append,hashT.len];rfl) (runT.len _)) (seg_of hy (rec_split2 y) (by rw [List.length_append,hashT.len];rfl) (runT.len _)) ?_
    exact .cons boolT x.shredded y.shredded 1 36 tb _ _ eqd_bool (by omega) (seg_of hx (rec_split3 x) (by rw [List.length_append,List.length_append,hashT.len,runT.len];rfl) (boolT.len _)) (seg_of hy (rec_split3 y) (by rw [List.length_append,List.length_append,hashT.len,runT.len];rfl) (boolT.len _)) .nil
  · refine congrArg (fun z=>Result.ok z w) ?_
    obtain ⟨a1,a2,a3,a4,a5⟩:=x
    obtain ⟨b1,b2,b3,b4,b5⟩:=y
    rw [Bool.and_true,show decide (Rec.mk a1 a2 a3 a4 a5=Rec.mk b1 b2 b3 b4 b5)=decide (a1=b1∧a2=b2∧a3=b3∧a4=b4∧a5=b5) from decide_eq_decide.2 (by rw [Rec.mk.injEq])]
    simp only [Bool.decide_and]⟩
end
/-! ### A text as runes -/
def runesL (s:ByteArray):Nat→Nat→List Nat
  | 0,_=>[]
  | b+1,i=>if i < s.size then (Utf8.decode s i).1::runesL s b (i+(Utf8.decode s i).2) else []
theorem runesFrom_eq (s:ByteArray) : ∀ (b i:Nat) (acc:Array Value),Conv.runesFrom s b i acc=acc++((runesL s b i).map fun r=>Value.int .i32 (Int.ofNat r)).toArray
  | 0,i,acc=>by simp [Conv.runesFrom,runesL]
  | b+1,i,acc=>by
    unfold Conv.runesFrom runesL
    split
    · simp only []
      rw [runesFrom_eq s b]
      simp
    · simp
theorem runesL_len (s:ByteArray) : ∀ (b i:Nat),(runesL s b i).length≤b
  | 0,_=>Nat.le_refl _
  | b+1,i=>by
    unfold runesL
    split
    · have:=runesL_len s b (i+(Utf8.decode s i).2)
      simp;omega
    · simp
/-- The code points of a text. -/
def runesM (s:Str):List Int:=(runesL ⟨s.toArray⟩ s.length 0).map Int.ofNat
theorem runes_len (s:Str):(runesM s).length≤s.length:=by
  unfold runesM
  rw [List.length_map]
  exact runesL_len _ _ _
def oddR (r:Int):Bool := !(((decide (97≤r) && decide (r≤122)) || (decide (48≤r) && decide (r≤57))) || decide (r=45) || decide (r=46))
theorem decode_odd (s:ByteArray) (i:Nat) (h : ¬ (s.get! i).toNat < 128):128≤(Utf8.decode s i).1:=by
  unfold Utf8.decode
  simp only [Nat.add_zero]
  rw [if_neg h]
  repeat' split
  all_goals first|(rename_i hh;simp only [Bool.and_eq_true,decide_eq_true_eq,ge_iff_le] at hh;simp only [];omega)|(simp only [];decide)|omega
theorem oddR_big {r:Nat} (h:128≤r):oddR (Int.ofNat r)=true:=by
  unfold oddR
  have h1:decide ((Int.ofNat r)≤122)=false:=decide_eq_false (by show ¬ ((r:Int)≤122);omega)
  have h2:decide ((Int.ofNat r)≤57)=false:=decide_eq_false (by show ¬ ((r:Int)≤57);omega)
  have h3:decide ((Int.ofNat r)=45)=false:=decide_eq_false (by show ¬ ((r:Int)=45);omega)
  have h4:decide ((Int.ofNat r)=46)=false:=decide_eq_false (by show ¬ ((r:Int)=46);omega)
  rw [h1,h2,h3,h4];simp
theorem oddR_ch (c:UInt8):oddR (Int.ofNat c.toNat) = !chOk c:=by
  unfold oddR chOk
  have h1:decide ((97:Int)≤Int.ofNat c.toNat)=decide (97≤c.toNat):=decide_eq_decide.2 (by show (97:Int)≤((c.toNat:Nat):Int) ↔ _;omega)
  have h2:decide (Int.ofNat c.toNat≤(122:Int))=decide (c.toNat≤122):=decide_eq_decide.2 (by show ((c.toNat:Nat):Int)≤122 ↔ _;omega)
  have h3:decide ((48:Int)≤Int.ofNat c.toNat)=decide (48≤c.toNat):=decide_eq_decide.2 (by show (48:Int)≤((c.toNat:Nat):Int) ↔ _;omega)
  have h4:decide (Int.ofNat c.toNat≤(57:Int))=decide (c.toNat≤57):=decide_eq_decide.2 (by show ((c.toNat:Nat):Int)≤57 ↔ _;omega)
  have h5:decide (Int.ofNat c.toNat=(45:Int))=decide (c.toNat=45):=decide_eq_decide.2 (by show ((c.toNat:Nat):Int)=45 ↔ _;omega)
  have h6:decide (Int.ofNat c.toNat=(46:Int))=decide (c.toNat=46):=decide_eq_decide.2 (by show ((c.toNat:Nat):Int)=46 ↔ _;omega)
  rw [h1,h2,h3,h4,h5,h6]
theorem chOk_big {c:UInt8} (h:128≤c.toNat):chOk c=false:=by
  have:=oddR_ch c
  rw [oddR_big h] at this
  cases k:chOk c with
  | false=>rfl
  | true=>rw [k] at this;cases this
theorem runes_odd (s:Str) : ∀ (b i:Nat),s.length≤i+b→((runesL ⟨s.toArray⟩ b i).any fun r=>oddR (Int.ofNat r)) = !((s.drop i).all chOk)
  | 0,i,h=>by
    rw [List.drop_eq_nil_of_le (by omega)]
    rfl
  | b+1,i,h=>by
    unfold runesL
    have hsz:(⟨s.toArray⟩:ByteArray).size=s.length:=by show s.toArray.size=_;simp
    rw [hsz]
    by_cases hi:i < s.length
    · rw [if_pos hi,List.drop_eq_getElem_cons hi,List.all_cons,List.any_cons]
      have hg:(⟨s.toArray⟩:ByteArray).get! i=s[i]:=by
        show s.toArray[i]! = _
        simp [hi]
      by_cases hc:s[i].toNat < 128
      · have hd:Utf8.decode ⟨s.toArray⟩ i=(s[i].toNat,1):=by
          unfold Utf8.decode
          simp only [Nat.add_zero,hg]
          rw [if_pos hc]
        rw [hd]
        simp only []
        rw [runes_odd s b (i+1) (by omega),oddR_ch,Bool.not_and]
      · have h1:=decode_odd ⟨s.toArray⟩ i (by rw [hg];exact hc)
        rw [oddR_big h1,chOk_big (by omega)]
        rfl
    · rw [if_neg hi,List.drop_eq_nil_of_le (by omega)]
      rfl
theorem runesM_odd (s:Str):(runesM s).any oddR = !(s.all chOk):=by
  unfold runesM
  rw [List.any_map]
  have:=runes_odd s s.length 0 (by omega)
  rw [List.drop_zero] at this
  exact this
section
variable {P:Program} {Γ:Env} {Δ:List Res} {d:Option Nat} {ty t yt:Nat} {pos:String} {af:Array Edge} {g:Option (Nat × Bool)} {x y:Operand}
theorem flat_int {k:IntKind} : ∀ l:List Int,flat (intT k).toTy l=l.map fun n=>is (.int k n)
  | []=>rfl
  | a::l=>by
    show [is (.int k a)]++flat (intT k).toTy l=_
    rw [flat_int l];rfl
theorem op_runes {s:Str} {src dst e:Nat} [h1:TStr P src] [h2:TSl P dst e] [h3:TInt P e .i32] (h:opd Γ x=some (is (str s))) (hl:s.length≤maxLen):OpP P Γ Δ ⟨d, .convert src dst x,ty,pos,af,g⟩ (sl (intT .i32).toTy (runesM s)) :=
  OpP.val fun H a w hx hsat _=>by
    have hv:a.eval x=str s:=hx x (by simp [Op.operands]) _ h
    have hrl:=runes_len s
    have hge:=grownCap_ge w (runesM s).length 0 e
    have hcm:=grownCap_le_maxLen w (runesM s).length 0 e (by omega)
    have E0:=ext_new (w:=w.drew) (H:=H) ⟨hsat.gk,hsat.cell⟩ ((runesM s).map (fun n=>Value.int .i32 n)++List.replicate (grownCap w (runesM s).length 0 e - (runesM s).length) (.int .i32 0)) e
    have E:Ext H w _ _:=⟨E0.le,E0.old,⟨E0.sat.gk,E0.sat.cell⟩,⟨E0.fr.os,E0.fr.tape,E0.fr.output,E0.fr.size,E0.fr.block⟩⟩
    refine ⟨.slice (some ⟨w.heap.size,0,none⟩) (runesM s).length (grownCap w (runesM s).length 0 e),_,_,?_,E,?_⟩
    · simp only [execOp,hv]
      refine run_value ?_
      have hsz:(⟨s.toArray⟩:ByteArray).size=s.length:=by show s.toArray.size=_;simp
      have hrm:(runesL ⟨s.toArray⟩ s.length 0).length=(runesM s).length:=by unfold runesM;rw [List.length_map]
      have hmap:(runesM s).map (fun n=>Value.int .i32 n)=(runesL ⟨s.toArray⟩ s.length 0).map fun r=>Value.int .i32 (Int.ofNat r):=by unfold runesM;rw [List.map_map];rfl
      rw [hmap, ← hrm]
      simp [convert,str,run_underlying h1.h,run_underlying h2.h,run_underlying h3.h,Conv.stringToRunes,runesFrom_eq,hsz,newRow,Question.forced,grownCap]
      congr 2
      apply Array.ext'
      simp
    · refine ⟨_,_,rfl,hge,hcm,(fun h=>by cases h),fun hn=>⟨w.heap.size,0,rfl,fun i φ hi=>?_⟩⟩
      rw [flat_int,List.getElem?_map] at hi
      obtain ⟨n,hn',rfl⟩:=Option.map_eq_some_iff.1 hi
      refine ⟨.int .i32 n,?_,rfl,rfl⟩
      show (if w.heap.size=w.heap.size then _ else _)=_
      rw [if_pos rfl,Nat.zero_add,List.getElem?_append_left (by rw [List.length_map];exact (List.getElem?_eq_some_iff.1 hn').1),List.getElem?_map,hn']
      rfl
theorem op_min {k:IntKind} {m n c:Int} {t1 t2:Nat} (h1:opd Γ x=some (is (.int k m))) (h2:opd Γ y=some (is (.int k n))) (hc:(if n < m then n else m)=c):OpP P Γ Δ ⟨d, .call ⟨.builtin .min, #[x,y], #[t1,t2]⟩,ty,pos,af,g⟩ (is (.int k c)) :=
  OpP.same fun H a w hx hs=>by
    have hv:a.eval x = .int k m:=hx x (by simp [Op.operands,Call.operands]) _ h1
    have hv2:a.eval y = .int k n:=hx y (by simp [Op.operands,Call.operands]) _ h2
    refine ⟨_,run_builtin («as» := [x,y]) fun c=>?_,rfl⟩
    refine run_value (x:=Builtin.min_ #[t1,t2] ty #[a.eval x,a.eval y]) ?_
    rw [hv,hv2, ← hc]
    rfl
theorem op_max {k:IntKind} {m n c:Int} {t1 t2:Nat} (h1:opd Γ x=some (is (.int k m))) (h2:opd Γ y=some (is (.int k n))) (hc:(if m < n then n else m)=c):OpP P Γ Δ ⟨d, .call ⟨.builtin .max, #[x,y], #[t1,t2]⟩,ty,pos,af,g⟩ (is (.int k c)) :=
  OpP.same fun H a w hx hs=>by
    have hv:a.eval x = .int k m:=hx x (by simp [Op.operands,Call.operands]) _ h1
    have hv2:a.eval y = .int k n:=hx y (by simp [Op.operands,Call.operands]) _ h2
    refine ⟨_,run_builtin («as» := [x,y]) fun c=>?_,rfl⟩
    refine run_value (x:=Builtin.max_ #[t1,t2] ty #[a.eval x,a.eval y]) ?_
    rw [hv,hv2, ← hc]
    rfl
/-- A function value: its first arguments, and what it captured. -/
def cloT (f:Nat) (ψs χs:List Pr):Pr:=⟨fun H v => ∃ fs cs:List Value,v = .func (.func f) fs.toArray cs.toArray∧All2 (fun φ u=>φ.h H u) ψs fs∧All2 (fun φ u=>φ.h H u) χs cs,
  fun hle ⟨fs,cs,hv,h1,h2⟩=>⟨fs,cs,hv,h1.imp fun φ _ k=>φ.mono hle k,h2.imp fun φ _ k=>φ.mono hle k⟩⟩
theorem op_makeC {f:Nat} {xs ys:List Operand} {ψs χs:List Pr} (h1:opds Γ xs ψs) (h2:opds Γ ys χs):OpP P Γ Δ ⟨d, .makeFunc (.func f) xs.toArray ys.toArray,ty,pos,af,g⟩ (cloT f ψs χs) :=
  OpP.same fun H a w hx hs=>by
    have hv1:=opds.all (ρ:=a.eval) (H:=H) h1 (fun x hxx ψ hψ=>hx x (by simp [Op.operands,hxx]) ψ hψ)
    have hv2:=opds.all (ρ:=a.eval) (H:=H) h2 (fun x hxx ψ hψ=>hx x (by simp [Op.operands,hxx]) ψ hψ)
    refine ⟨.func (.func f) (xs.map a.eval).toArray (ys.map a.eval).toArray,?_,⟨_,_,rfl,hv1,hv2⟩⟩
    have e:(execOp a.eval ⟨d, .makeFunc (.func f) xs.toArray ys.toArray,ty,pos,af,g⟩).run P w=((do pure (Next.value (← Instr.makeFunc (.func f) (xs.toArray.map a.eval) (ys.toArray.map a.eval))):Sem Next)).run P w:=rfl
    rw [e]
    refine run_value ?_
    rw [List.map_toArray,List.map_toArray]
    rfl
theorem op_callC {f:Nat} {ψs χs ξs:List Pr} {ψ:Pr} (F:Fn P f (ψs++ξs++χs) ψ) {xs:List Operand} {ats:Array Nat} (hy:opd Γ y=some (cloT f ψs χs)) (h:opds Γ xs ξs):OpP P Γ Δ ⟨d, .call ⟨.value y,xs.toArray,ats⟩,ty,pos,af,g⟩ ψ:=by
  intro H a w Q K hx hs hr hb hK
  have hargs:=opds.all (ρ:=a.eval) h (fun x hxx ψ hψ=>hx x (by simp [Op.operands,Call.operands,hxx]) ψ hψ)
  obtain ⟨first,captured,hv,h1,h2⟩:=hx y (by simp [Op.operands,Call.operands]) _ hy
  have hrun:(execOp a.eval ⟨d, .call ⟨.value y,xs.toArray,ats⟩,ty,pos,af,g⟩).run P w = .ok (.enter f (first++xs.map a.eval++captured).toArray) w:=by
    have h1:(callFunc f ((first.toArray++xs.toArray.map a.eval)++captured.toArray)).run P w = .ok (.enter f (first++xs.map a.eval++captured).toArray) w:=by
      rw [List.map_toArray,List.append_toArray,List.append_toArray]
      exact F.ent.h _ w
    have h2:(execOp a.eval ⟨d, .call ⟨.value y,xs.toArray,ats⟩,ty,pos,af,g⟩).run P w=((do let dd ← Deferred.ofValue (a.eval y) (xs.toArray.map a.eval);invoke dd.target dd.args:Sem Next)).run P w:=rfl
    rw [h2,hv]
    exact h1
  unfold Oper.wp
  rw [hrun]
  rw [Oper.upon_enter]
  refine (F.run H w _ hs ((h1.append hargs).append h2)).mono fun e w' hR=>?_
  obtain ⟨v,H',rfl,E,hv⟩:=hR
  exact hK v H' w' E hv
/-- A slice that is known, by its value. -/
theorem Lq.slOpen {C:Cx} {Q:Exit→Act→World→Prop} {ops:Array Oper} {rest:List Oper} {α:Type} {T:Ty α} {l:List α} (s:Nat) (h:look Γ s=some (sl T l))
    (k : ∀ A c,(A=none→l=[])→Lq C ((s,is (.slice A l.length c))::Γ) Δ ops rest Q):Lq C Γ Δ ops rest Q:=by
  intro H a w S
  obtain ⟨v,hv,A,cap,hva,hle,hm,hn,hc⟩:=S.env s _ h
  refine k A cap (fun hA=>List.eq_nil_of_length_eq_zero (by have:=hn hA;omega)) H a w (S.weak fun t χ ht=>?_)
  unfold look at ht
  split at ht
  · rename_i hk
    have hk:=Nat.eq_of_beq_eq_true hk
    subst hk
    injection ht with ht;subst ht
    exact ⟨v,hv,hva⟩
  · exact S.env t χ ht
end
end Go.Proofs.YtljbbajelkkafaaDoor.L
