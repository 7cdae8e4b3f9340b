/- FnExactLogPropagate (its second form): for every input of bulk at most 1048576 the law returns true and its arguments read as they did. -/
import Derived.Test.YtglikcnmgnlejaaGreatQ20
import Derived.Test.YtglikcnmgnlejaaGreatRd
import Derived.Test.YtglikcnmgnlejaaGreatF1
import Derived.Test.YtglikcnmgnlejaaGreatF2
import Derived.Test.YtglikcnmgnlejaaGreatF3
import Derived.Test.YtglikcnmgnlejaaGreatF4
import Derived.Test.YtglikcnmgnlejaaGreatF5
import Derived.Test.YtglikcnmgnlejaaGreatGLogPropagate1
import Derived.Test.YtglikcnmgnlejaaGreatGLogPropagate2
import Derived.Test.YtglikcnmgnlejaaGreatGLogPropagate3
import Derived.Test.YtglikcnmgnlejaaGreatGLogPropagate4
import Derived.Test.YtglikcnmgnlejaaGreatRows
import Derived.JoinedCond
set_option linter.all false
namespace Go.Proofs.YtglikcnmgnlejaaGreat
open Go.Proofs.YtglikcnmgnlejaaGreat.Abs Go.ChangeShapes Go.WideShapes Go.ChangeAt Go.RowKit
namespace fnExactLogPropagate
theorem one_le {H:Type} (d:DataW H):1≤Rows.uptoBulk d:=by
 cases d with
 |lit l=>cases l<;>simp [Rows.uptoBulk]
 |nil=>simp [Rows.uptoBulk]
 |ptr d=>simp [Rows.uptoBulk]
 |slice elems spare=>simp [Rows.uptoBulk]
 |agg parts=>simp [Rows.uptoBulk]
 |iface t d=>simp [Rows.uptoBulk]
 |map entries=>simp [Rows.uptoBulk]
 |held h=>simp [Rows.uptoBulk]
theorem JM {H:Type} {d:DataW H} {l:List (DataW H)} (h:d∈l):Rows.uptoBulk d≤Rows.uptoBulkAll l:=by
 induction l with
 |nil=>cases h
 |cons x r ih=>
  simp only [Rows.uptoBulkAll]
  cases List.mem_cons.1 h with
  |inl e=>subst e;omega
  |inr e=>have:=ih e;omega
theorem length_le {H:Type} (l:List (DataW H)):l.length≤Rows.uptoBulkAll l:=by
 induction l with
 |nil=>simp [Rows.uptoBulkAll]
 |cons x r ih=>have:=one_le x;simp only [Rows.uptoBulkAll,List.length_cons];omega
theorem hbk {H:Type}:ZE (H:=H) Rows.uptoBulk where
 sl elems spare:=by have:=length_le elems;simp only [Rows.uptoBulk];omega
 slE elems spare x h:=by have:=JM h;simp only [Rows.uptoBulk];omega
 agg parts x h:=by have:=JM h;simp only [Rows.uptoBulk];omega
 str s:=by simp [Rows.uptoBulk]
theorem own:ownKnob Tryz.prog.godebug=none:=by kernel_rfl
theorem laidOut:laidOutB Tryz.prog=true:=Px
theorem gT {a b:Bool} (h:a=true) (k:b=true):(a&&b)=true:=by rw [h,k];rfl
theorem closed:joinedFacts Tryz.pinned.checked.prog 6 Tryz.f6 (Rows.OpenSpec.upto Rows.fnExactLogPropagateSpec).bare Rows.fnExactLogPropagateUptoRow=true:=
 (gT (gT (gT (gT (gT (gT (gT (gT (gT (gT (gT (gT (gT (gT (gT (gT (gT (gT (gT (gT (gT (gT (gT (gT (gT (gT (gT (gT (gT (gT (gT (by kernel_rfl) Px) YH) (by kernel_rfl)) (by kernel_rfl)) (by kernel_rfl)) (by kernel_rfl)) (by kernel_rfl)) (by kernel_rfl)) pX) nQ) oM) qK) (by kernel_rfl)) (by kernel_rfl)) (by kernel_rfl)) (by kernel_rfl)) (by kernel_rfl)) (by kernel_rfl)) (by kernel_rfl)) (by kernel_rfl)) (by kernel_rfl)) YI) (by kernel_rfl)) WA) WB) UY) YJ) (by kernel_rfl)) (by kernel_rfl)) (by kernel_rfl)) (by kernel_rfl))
set_option maxRecDepth 100000 in
theorem contract (H:Type) (enc:TypeId×Value→H) (W:World) (base:Nat) (args:Array Value) (ds gs:List (DataW H)) (before:List MemPlace)
  (hval:∀(j:Nat) t v,Tryz.f6.params[j]? =some t→args[j]? =some v→Value.okWide Tryz.prog W .any base t v)
  (hW:DataW.Whole enc Tryz.prog Tryz.f6.params.toList Rows.fnExactLogPropagateSpec.vars false W args.toList ds gs before) (hk:Rows.uptoSmall H (ds++gs)=true):
  Calls Tryz.prog 6 args W fun e W'=>∃v,e= .returned v∧Rows.fnExactLogPropagateSpec.post enc Tryz.prog Tryz.f6 false true false false W args v W':=by
 have hW':=hW
 obtain⟨p,q,hA0,hV,hbe,hfz,hnd⟩:=hW
 have hA:DataW.TrodAll enc Tryz.prog W 0 (fun _=>true) true Tryz.f6.params.toList args.toList ds p:=hA0
 rw [Tryz.params6] at hA hval
 obtain⟨v0,vs0,d0,ds0,p0,q0',agh,hds0,hp0,h0,hA0⟩:=trodAll_cons hA
 obtain⟨v1,vs1,d1,ds1,p1,q1',agi,agj,hp1,h1,hA1⟩:=trodAll_cons hA0
 obtain⟨agk,agl,hpn⟩:=trodAll_nil hA1
 obtain rfl:ds= [d0,d1]:=by rw [hds0,agj,agl]
 obtain rfl:args= #[v0,v1]:=by
  have e:args.toList= [v0,v1]:=by rw [agh,agi,agk]
  cases args;simp_all
 obtain⟨rfl,rfl⟩:=trodVars_none hV
 rw [List.append_nil] at hk
 have hk':Rows.uptoBulkAll [d0,d1]≤1048576:=of_decide_eq_true hk
 have aeT:Rows.uptoBulk d0≤Rows.uptoBulkAll [d0,d1]:=JM (by simp)
 have agp:Rows.uptoBulk d1≤Rows.uptoBulkAll [d0,d1]:=JM (by simp)
 have hI:∀b o v,W.cell? ⟨b,o,none⟩=some v→b < W.heap.size:=fun b o v h=>aaR (a:=⟨b,o,none⟩) h
 obtain⟨x0,q0,r0⟩:=Vx (I:=fun b=>b < W.heap.size) (J:=fun _=>False) (O:=fun _=>False) (mt:=false) (L:=lim) Tryz.underlying59 (hval 0 59 v0 rfl rfl) h0 (μ:=Rows.uptoBulk) (N:=1048576) (by have:=aeT;omega) (adj hbk (by decide) hI) (fun _=>⟨_,rfl⟩)
 obtain⟨x1,q1,r1⟩:=aaQ (I:=fun b=>b < W.heap.size) (J:=fun _=>False) (O:=fun _=>False) (mt:=false) (L:=lim) Tryz.underlying3 (hval 1 3 v1 rfl rfl) h1
 have Lj:=yJ x0 x1 (fun a ha=>Nat.le_trans (q0 a ha) (by decide)) (w:=W) (vs:=[v0,v1]) ⟨r0,r1,trivial⟩
 refine Lj.mono fun e W' hP=>?_
 obtain⟨he,hb⟩:=hP
 refine⟨.bool true,he,Yh laidOut rfl Tryz.underlying4 rfl ?_ hW' rfl hb⟩
 have hp:(Tryz.f6.params.toList.all fun t=>Tryz.prog.readableRec t&&decide (t < Tryz.prog.types.size))=true:=by kernel_rfl
 intro t ht
 have:=List.all_eq_true.1 hp t ht
 simpa using this
set_option maxRecDepth 100000 in
theorem lifted (os:Os) (started:os.Started) (H:Type) (enc:TypeId×Value→H) (F:Stop.Interp):
  ReturnsInHanded {} Tryz.checked os 6 .any ((Rows.OpenSpec.upto Rows.fnExactLogPropagateSpec).pre6 enc Tryz.prog Tryz.f6 Rows.fnExactLogPropagateUptoRow.domain false) (((Rows.OpenSpec.upto Rows.fnExactLogPropagateSpec).at F).post enc Tryz.prog Tryz.f6 false true false false):=by
 refine returnsInHanded_of_cond (C:=Tryz.checked) (s:=Rows.OpenSpec.upto Rows.fnExactLogPropagateSpec) (k:=Rows.uptoSmall) rfl own started (by kernel_rfl) Tryz.func6
  (OpenSpec.witness (enc:=enc) (C:=Tryz.checked) (s:=Rows.OpenSpec.upto Rows.fnExactLogPropagateSpec) (k:=Rows.uptoSmall) rfl false ⟨#[], #[.agg #[.int .i64 0,.slice none 0 0,.slice none 0 0,.slice none 0 0,.slice none 0 0,.slice none 0 0,.slice none 0 0,.slice none 0 0,.slice none 0 0,.slice none 0 0],.int .i64 0],[]⟩ 8 (by kernel_rfl) (by kernel_rfl) (by kernel_rfl)
   (x:=([.agg [.agg [.lit (.int .i64 0),.nil,.nil,.nil,.nil],.agg [.nil,.nil,.nil],.nil,.nil],.lit (.int .i64 0)],[],[])) (by kernel_rfl) rfl (by kernel_rfl)) ?_
 intro W base args ds gs before hval hW _ hk _
 exact contract H enc W base args ds gs before hval hW hk
theorem over:Rows.fnExactLogPropagateUptoRow.holds Tryz.pinned (Rows.OpenSpec.upto Rows.fnExactLogPropagateSpec):=
 OpenClaim.holds_of_cond 6 Tryz.f6 rfl rfl rfl rfl rfl rfl rfl ⟨rfl,rfl,rfl,rfl,rfl⟩ rfl rfl rfl rfl rfl (by kernel_rfl) Tryz.func6 closed
  (of_decide_eq_true (by kernel_rfl)) (by unfold Func.isWrapper;first|(rw [if_pos (by decide+kernel)];kernel_rfl)|(rw [if_neg (by decide+kernel)];exact⟨rfl,rfl⟩))
  (fun os started H enc _ F=>lifted os started H enc F)
end fnExactLogPropagate
theorem fnExactLogPropagate_upto:Rows.FnExactLogPropagateUptoSaid:=
 fnExactLogPropagate.over
#print axioms fnExactLogPropagate_upto
end Go.Proofs.YtglikcnmgnlejaaGreat
