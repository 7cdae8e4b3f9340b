/- FnExactRepair (its second form): for every input of bulk at most 1048576 the law returns true and its arguments read as they did. -/
import Derived.Test.YtpfgedlimdeffaaGreatQ34
import Derived.Test.YtpfgedlimdeffaaGreatRd
import Derived.Test.YtpfgedlimdeffaaGreatF1
import Derived.Test.YtpfgedlimdeffaaGreatF2
import Derived.Test.YtpfgedlimdeffaaGreatF3
import Derived.Test.YtpfgedlimdeffaaGreatFf
import Derived.Test.YtpfgedlimdeffaaGreatGRepair1
import Derived.Test.YtpfgedlimdeffaaGreatGRepair2
import Derived.Test.YtpfgedlimdeffaaGreatGRepair3
import Derived.Test.YtpfgedlimdeffaaGreatGRepair4
import Derived.Test.YtpfgedlimdeffaaGreatRows
import Derived.JoinedCond
set_option linter.all false
namespace Go.Proofs.YtpfgedlimdeffaaGreat
open Go.Proofs.YtpfgedlimdeffaaGreat.Abs Go.ChangeShapes Go.WideShapes Go.ChangeAt Go.RowKit
namespace fnExactRepair
theorem one_le {H:Type} (d:DataW H):1≤Rows.uptoBulk d:=by
 cases d with
 |lit l=>cases l<;>simp [Rows.uptoBulk]
 |nil=>simp [Rows.uptoBulk]
 |ptr d=>simp [Rows.uptoBulk]
 |slice elems spare=>simp [Rows.uptoBulk]
 |agg parts=>simp [Rows.uptoBulk]
 |iface t d=>simp [Rows.uptoBulk]
 |map entries=>simp [Rows.uptoBulk]
 |held h=>simp [Rows.uptoBulk]
theorem Aw {H:Type} {d:DataW H} {l:List (DataW H)} (h:d∈l):Rows.uptoBulk d≤Rows.uptoBulkAll l:=by
 induction l with
 |nil=>cases h
 |cons x r ih=>
  simp only [Rows.uptoBulkAll]
  cases List.mem_cons.1 h with
  |inl e=>subst e;omega
  |inr e=>have:=ih e;omega
theorem length_le {H:Type} (l:List (DataW H)):l.length≤Rows.uptoBulkAll l:=by
 induction l with
 |nil=>simp [Rows.uptoBulkAll]
 |cons x r ih=>have:=one_le x;simp only [Rows.uptoBulkAll,List.length_cons];omega
theorem hbk {H:Type}:Tv (H:=H) Rows.uptoBulk where
 sl elems spare:=by have:=length_le elems;simp only [Rows.uptoBulk];omega
 slE elems spare x h:=by have:=Aw h;simp only [Rows.uptoBulk];omega
 agg parts x h:=by have:=Aw h;simp only [Rows.uptoBulk];omega
 str s:=by simp [Rows.uptoBulk]
theorem own:ownKnob Tryz.prog.godebug=none:=by kernel_rfl
theorem laidOut:laidOutB Tryz.prog=true:=Jh
theorem gq {a b:Bool} (h:a=true) (k:b=true):(a&&b)=true:=by rw [h,k];rfl
theorem closed:joinedFacts Tryz.pinned.checked.prog 3 Tryz.f3 (Rows.OpenSpec.upto Rows.fnExactRepairSpec).bare Rows.fnExactRepairUptoRow=true:=
 (gq (gq (gq (gq (gq (gq (gq (gq (gq (gq (gq (gq (gq (gq (gq (gq (gq (gq (gq (gq (gq (gq (gq (gq (gq (gq (gq (gq (gq (gq (gq (by kernel_rfl) Jh) RJ) (by kernel_rfl)) (by kernel_rfl)) (by kernel_rfl)) (by kernel_rfl)) (by kernel_rfl)) (by kernel_rfl)) qL) nW) pI) rW) (by kernel_rfl)) (by kernel_rfl)) (by kernel_rfl)) (by kernel_rfl)) (by kernel_rfl)) (by kernel_rfl)) (by kernel_rfl)) (by kernel_rfl)) (by kernel_rfl)) RL) (by kernel_rfl)) PL) PN) Og) RN) (by kernel_rfl)) (by kernel_rfl)) (by kernel_rfl)) (by kernel_rfl))
set_option maxRecDepth 100000 in
theorem contract (H:Type) (enc:TypeId×Value→H) (W:World) (base:Nat) (args:Array Value) (ds gs:List (DataW H)) (before:List MemPlace)
  (hval:∀(j:Nat) t v,Tryz.f3.params[j]? =some t→args[j]? =some v→Value.okWide Tryz.prog W .any base t v)
  (hW:DataW.Whole enc Tryz.prog Tryz.f3.params.toList Rows.fnExactRepairSpec.vars false W args.toList ds gs before) (hk:Rows.uptoSmall H (ds++gs)=true):
  Calls Tryz.prog 3 args W fun e W'=>∃v,e= .returned v∧Rows.fnExactRepairSpec.post enc Tryz.prog Tryz.f3 false true false false W args v W':=by
 have hW':=hW
 obtain⟨p,q,hA0,hV,hbe,hfz,hnd⟩:=hW
 have hA:DataW.TrodAll enc Tryz.prog W 0 (fun _=>true) true Tryz.f3.params.toList args.toList ds p:=hA0
 rw [Tryz.params3] at hA hval
 obtain⟨v0,vs0,d0,ds0,p0,q0',ZX,hds0,hp0,h0,hA0⟩:=trodAll_cons hA
 obtain⟨v1,vs1,d1,ds1,p1,q1',ZY,aac,hp1,h1,hA1⟩:=trodAll_cons hA0
 obtain⟨v2,vs2,d2,ds2,p2,q2',aad,aae,hp2,h2,hA2⟩:=trodAll_cons hA1
 obtain⟨aaf,aag,hpn⟩:=trodAll_nil hA2
 obtain rfl:ds= [d0,d1,d2]:=by rw [hds0,aac,aae,aag]
 obtain rfl:args= #[v0,v1,v2]:=by
  have e:args.toList= [v0,v1,v2]:=by rw [ZX,ZY,aad,aaf]
  cases args;simp_all
 obtain⟨rfl,rfl⟩:=trodVars_none hV
 rw [List.append_nil] at hk
 have hk':Rows.uptoBulkAll [d0,d1,d2]≤1048576:=of_decide_eq_true hk
 have YG:Rows.uptoBulk d0≤Rows.uptoBulkAll [d0,d1,d2]:=Aw (by simp)
 have YH:Rows.uptoBulk d1≤Rows.uptoBulkAll [d0,d1,d2]:=Aw (by simp)
 have YI:Rows.uptoBulk d2≤Rows.uptoBulkAll [d0,d1,d2]:=Aw (by simp)
 have hI:∀b o v,W.cell? ⟨b,o,none⟩=some v→b < W.heap.size:=fun b o v h=>Vm (a:=⟨b,o,none⟩) h
 obtain⟨x0,q0,r0⟩:=yu (I:=fun b=>b < W.heap.size) (J:=fun _=>False) (O:=fun _=>False) (mt:=false) (L:=lim) Tryz.underlying27 (hval 0 27 v0 rfl rfl) h0 (μ:=Rows.uptoBulk) (N:=1048576) (by have:=YG;omega) (PK hbk (by decide) hI) (fun _=>⟨_,rfl⟩)
 obtain⟨x1,q1,r1⟩:=yu (I:=fun b=>b < W.heap.size) (J:=fun _=>False) (O:=fun _=>False) (mt:=false) (L:=lim) Tryz.underlying29 (hval 1 29 v1 rfl rfl) h1 (μ:=Rows.uptoBulk) (N:=1048576) (by have:=YH;omega) (Oe hbk (by decide) hI) (fun _=>⟨_,rfl⟩)
 obtain⟨x2,q2,r2⟩:=yu (I:=fun b=>b < W.heap.size) (J:=fun _=>False) (O:=fun _=>False) (mt:=false) (L:=lim) Tryz.underlying31 (hval 2 31 v2 rfl rfl) h2 (μ:=Rows.uptoBulk) (N:=1048576) (by have:=YI;omega) (Ux hbk (by decide) hI) (fun _=>⟨_,rfl⟩)
 have Fu:=BS x0 x1 x2 (fun a ha=>Nat.le_trans (q0 a ha) (by decide)) (w:=W) (vs:=[v0,v1,v2]) ⟨r0,r1,r2,trivial⟩
 refine Fu.mono fun e W' hP=>?_
 obtain⟨he,hb⟩:=hP
 refine⟨.bool true,he,Rk laidOut rfl Tryz.underlying4 rfl ?_ hW' rfl hb⟩
 have hp:(Tryz.f3.params.toList.all fun t=>Tryz.prog.readableRec t&&decide (t < Tryz.prog.types.size))=true:=by kernel_rfl
 intro t ht
 have:=List.all_eq_true.1 hp t ht
 simpa using this
set_option maxRecDepth 100000 in
theorem lifted (os:Os) (started:os.Started) (H:Type) (enc:TypeId×Value→H) (F:Stop.Interp):
  ReturnsInHanded {} Tryz.checked os 3 .any ((Rows.OpenSpec.upto Rows.fnExactRepairSpec).pre6 enc Tryz.prog Tryz.f3 Rows.fnExactRepairUptoRow.domain false) (((Rows.OpenSpec.upto Rows.fnExactRepairSpec).at F).post enc Tryz.prog Tryz.f3 false true false false):=by
 refine returnsInHanded_of_cond (C:=Tryz.checked) (s:=Rows.OpenSpec.upto Rows.fnExactRepairSpec) (k:=Rows.uptoSmall) rfl own started (by kernel_rfl) Tryz.func3
  (OpenSpec.witness (enc:=enc) (C:=Tryz.checked) (s:=Rows.OpenSpec.upto Rows.fnExactRepairSpec) (k:=Rows.uptoSmall) rfl false ⟨#[], #[.agg #[.int .i64 0,.slice none 0 0,.slice none 0 0,.slice none 0 0,.slice none 0 0],.agg #[.slice none 0 0,.slice none 0 0],.agg #[.int .i64 0,.int .i64 0,.int .i64 0,.int .i64 0]],[]⟩ 8 (by kernel_rfl) (by kernel_rfl) (by kernel_rfl)
   (x:=([.agg [.lit (.int .i64 0),.nil,.nil,.nil,.nil],.agg [.nil,.nil],.agg [.lit (.int .i64 0),.lit (.int .i64 0),.lit (.int .i64 0),.lit (.int .i64 0)]],[],[])) (by kernel_rfl) rfl (by kernel_rfl)) ?_
 intro W base args ds gs before hval hW _ hk _
 exact contract H enc W base args ds gs before hval hW hk
theorem over:Rows.fnExactRepairUptoRow.holds Tryz.pinned (Rows.OpenSpec.upto Rows.fnExactRepairSpec):=
 OpenClaim.holds_of_cond 3 Tryz.f3 rfl rfl rfl rfl rfl rfl rfl ⟨rfl,rfl,rfl,rfl,rfl⟩ rfl rfl rfl rfl rfl (by kernel_rfl) Tryz.func3 closed
  (of_decide_eq_true (by kernel_rfl)) (by unfold Func.isWrapper;first|(rw [if_pos (by decide+kernel)];kernel_rfl)|(rw [if_neg (by decide+kernel)];exact⟨rfl,rfl⟩))
  (fun os started H enc _ F=>lifted os started H enc F)
end fnExactRepair
theorem fnExactRepair_upto:Rows.FnExactRepairUptoSaid:=
 fnExactRepair.over
#print axioms fnExactRepair_upto
end Go.Proofs.YtpfgedlimdeffaaGreat
