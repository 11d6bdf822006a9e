/-
  Which streams may be,walked;clones.
-/
import Derived.Test.YtljbbajelkkafaaDoorNe
namespace Go.Proofs.YtljbbajelkkafaaDoor.L
open Go
set_option linter.unusedSectionVars false
variable [Globs]
set_option linter.unusedVariables false
theorem tdiv_nat (n:Nat):(n:Int).tdiv 112=((n / 112:Nat):Int):=rfl
theorem cnt_nat (n:Nat):cntM (n:Int)=((max 1 (n / 112+min 1 (n % 112)):Nat):Int):=by
  unfold cntM
  rw [if_neg (by omega)]
  omega
theorem recOk_f {r:Rec} (h : ¬ (0≤r.time∧r.time≤1073741824∧0≤r.len∧r.len≤300∧0≤r.run.start∧r.run.start < 512)):recOk r=false:=by
  cases k:recOk r with
  | false=>rfl
  | true =>
    unfold recOk tB at k
    simp only [Bool.and_eq_true,decide_eq_true_eq] at k
    exact absurd ⟨k.1.1.1.1.1.1,k.1.1.1.1.1.2,k.1.1.1.1.2,k.1.1.1.2,k.1.1.2,k.1.2⟩ h
theorem recOk_t {r:Rec} (h1:0≤r.time) (h2:r.time≤1073741824) (h3:0≤r.len) (h4:r.len≤300) (h5:0≤r.run.start) (h6:r.run.start < 512):recOk r=decide (r.run.count=cntM r.len):=by
  unfold recOk tB
  rw [decide_eq_true h1,decide_eq_true h2,decide_eq_true h3,decide_eq_true h4,decide_eq_true h5,decide_eq_true h6]
  rfl
set_option linter.unusedVariables false
set_option linter.unusedSimpArgs false
attribute [local irreducible] J Lq E OpP PRun is any agg tup ptr sl PRunW OpE
attribute [local irreducible] slt nameE lowerN cloT cntM recOk
theorem holdsOk_name {l:List Str} (i:Nat) (a:Str) (ha:l[i]?=some a) (h:nameOk a=false):holdsOk l=false:=by
  unfold holdsOk
  rw [all_f i a ha h];rfl
theorem holdsOk_asc {l:List Str} (i:Nat) (a b:Str) (ha:l[i]?=some a) (hb:l[i+1]?=some b) (h:slt a b=false):holdsOk l=false:=by
  unfold holdsOk
  rw [adj_f i a b ha hb h];simp
def leT (a b:Rec):Bool:=decide (a.time≤b.time)
theorem recsOk_rec {l:List Rec} (i:Nat) (a:Rec) (ha:l[i]?=some a) (h:recOk a=false):recsOk l=false:=by
  unfold recsOk
  rw [all_f i a ha h];rfl
theorem recsOk_asc {l:List Rec} (i:Nat) (a b:Rec) (ha:l[i]?=some a) (hb:l[i+1]?=some b) (h:b.time < a.time):recsOk l=false:=by
  unfold recsOk
  rw [adj_f i a b ha hb (decide_eq_false (by omega))];simp
theorem checkM_name {s:StreamS} (h:nameOk s.name=false):checkM s=false:=by unfold checkM;rw [h];rfl
theorem checkM_ret {s:StreamS} (h : ¬ (0≤s.retain∧s.retain≤1073741824)):checkM s=false:=by
  unfold checkM tB
  have:(decide (0≤s.retain) && decide (s.retain≤1073741824))=false:=by
    rw [Bool.and_eq_false_iff,decide_eq_false_iff_not,decide_eq_false_iff_not];omega
  rw [this];simp
theorem checkM_holds {s:StreamS} (h:holdsOk s.holds=false):checkM s=false:=by unfold checkM;rw [h];simp
theorem checkM_recs {s:StreamS} (h:recsOk s.recs=false):checkM s=false:=by unfold checkM;rw [h];simp
theorem checkM_t {s:StreamS} (h1:nameOk s.name=true) (h2:0≤s.retain∧s.retain≤1073741824) (h3:holdsOk s.holds=true) (h4:recsOk s.recs=true):checkM s=true:=by
  unfold checkM tB
  rw [h1,h3,h4,decide_eq_true h2.1,decide_eq_true h2.2];rfl
theorem sclone_fn (l:List Str) (hl:l.length≤1000000):Fn Tryd.prog 47 [sl strT.toTy l] (sl strT.toTy l):=by
  refine Fn.mk' 8 Tryd.func47 rfl rfl rfl rfl fun w0 H0=>?_
  repeat (first|((first|(apply Lq.s;rfl)|apply PRun.s|(apply Lq.run;rfl;rfl;rfl;exact bsB)|(apply PRun.run;rfl;rfl;exact bsB));first|(exact bsO))|refine bsA ?_|(apply Lq.al;rfl;rfl;intro b)|(apply Open.cons;intro b)|(apply J.drawN;exact mixed;kernel_rfl)|refine bsC ?_)
  refine Lq.slOpen 3 rfl fun A c hA=>?_
  cases A with
  | none =>
    obtain rfl:=hA rfl
    repeat (first|((first|(apply Lq.s;rfl)|apply PRun.s|(apply Lq.run;rfl;rfl;rfl;exact bsB)|(apply PRun.run;rfl;rfl;exact bsB));first|(apply op_slnil;rfl;rfl)|(exact bsO))|refine bsA ?_|(apply Lq.al;rfl;rfl;intro b)|(apply Open.cons;intro b)|(apply J.drawN;exact mixed;kernel_rfl)|refine bsC ?_)
    (refine J.ret ?_;(repeat (first|refine E.then_ret ?_|refine E.in_ret ?_)))
    exact E.conv 2 rfl sl_nil (E.ret1 rfl rfl)
  | some A =>
    (apply Lq.s;rfl;(apply op_slnil;rfl;rfl))
    (repeat (first|apply J.seq|apply E.next|apply J.lq|apply Lq.nil|apply J.block|apply E.in_normal|apply J.skip|(apply J.cond_t;rfl)|(apply J.cond_f;rfl)))
    (apply Lq.bsl (T:=strT) (xs:=[]);rfl;(repeat (first|exact PO.nil _|(apply PO.cons;rfl)));rfl;rfl;rfl)
    intro A1 c1
    repeat (first|((first|(apply Lq.s;rfl)|apply PRun.s|(apply Lq.run;rfl;rfl;rfl;exact bsB)|(apply PRun.run;rfl;rfl;exact bsB));first|(exact bsO))|refine bsA ?_|(apply Lq.al;rfl;rfl;intro b)|(apply Open.cons;intro b)|(apply J.drawN;exact mixed;kernel_rfl)|refine bsC ?_)
    (apply Lq.append (T:=strT) (xs:=[]) (ys:=l);rfl;exact List.Perm.refl _;(apply From.sl;rfl);rfl;rfl;rfl;(show 0+_≤maxLen;unfold maxLen;omega);(show (0+_)*16≤_;omega))
    intro A2 c2
    rw [List.nil_append]
    repeat (first|((first|(apply Lq.s;rfl)|apply PRun.s|(apply Lq.run;rfl;rfl;rfl;exact bsB)|(apply PRun.run;rfl;rfl;exact bsB));first|(exact bsO))|refine bsA ?_|(apply Lq.al;rfl;rfl;intro b)|(apply Open.cons;intro b)|(apply J.drawN;exact mixed;kernel_rfl)|refine bsC ?_)
    (refine J.ret ?_;(repeat (first|refine E.then_ret ?_|refine E.in_ret ?_)))
    refine E.freeze 2 rfl (List.Perm.refl _) ?_
    exact E.ret1 rfl rfl
end Go.Proofs.YtljbbajelkkafaaDoor.L
