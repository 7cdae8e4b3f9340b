/- FnLog (its second form): for every input of bulk at most 1048576 the law returns true and its arguments read as they did. -/
import Derived.Test.YtgkfifiobmklcaaGreatQ32
import Derived.Test.YtgkfifiobmklcaaGreatBud
import Derived.Test.YtgkfifiobmklcaaGreatF1
import Derived.Test.YtgkfifiobmklcaaGreatF2
import Derived.Test.YtgkfifiobmklcaaGreatF3
import Derived.Test.YtgkfifiobmklcaaGreatFf
import Derived.Test.YtgkfifiobmklcaaGreatGFnLog1
import Derived.Test.YtgkfifiobmklcaaGreatGFnLog2
import Derived.Test.YtgkfifiobmklcaaGreatGFnLog3
import Derived.Test.YtgkfifiobmklcaaGreatGFnLog4
import Derived.Test.YtgkfifiobmklcaaGreatRows
import Derived.JoinedCond
set_option linter.all false
namespace Go.Proofs.YtgkfifiobmklcaaGreat
open Go.Proofs.YtgkfifiobmklcaaGreat.Abs Go.ChangeShapes Go.WideShapes Go.ChangeAt Go.RowKit
namespace fnLog
theorem one_le {H:Type} (d:DataW H):1≤Rows.uptoBulk d:=by
 cases d with
 |lit l=>cases l<;>simp [Rows.uptoBulk]
 |nil=>simp [Rows.uptoBulk]
 |ptr d=>simp [Rows.uptoBulk]
 |slice elems spare=>simp [Rows.uptoBulk]
 |agg parts=>simp [Rows.uptoBulk]
 |iface t d=>simp [Rows.uptoBulk]
 |map entries=>simp [Rows.uptoBulk]
 |held h=>simp [Rows.uptoBulk]
theorem pJ {H:Type} {d:DataW H} {l:List (DataW H)} (h:d∈l):Rows.uptoBulk d≤Rows.uptoBulkAll l:=by
 induction l with
 |nil=>cases h
 |cons x r ih=>
  simp only [Rows.uptoBulkAll]
  cases List.mem_cons.1 h with
  |inl e=>subst e;omega
  |inr e=>have:=ih e;omega
theorem length_le {H:Type} (l:List (DataW H)):l.length≤Rows.uptoBulkAll l:=by
 induction l with
 |nil=>simp [Rows.uptoBulkAll]
 |cons x r ih=>have:=one_le x;simp only [Rows.uptoBulkAll,List.length_cons];omega
theorem hbk {H:Type}:aaX (H:=H) Rows.uptoBulk where
 sl elems spare:=by have:=length_le elems;simp only [Rows.uptoBulk];omega
 slE elems spare x h:=by have:=pJ h;simp only [Rows.uptoBulk];omega
 agg parts x h:=by have:=pJ h;simp only [Rows.uptoBulk];omega
 str s:=by simp [Rows.uptoBulk]
theorem own:ownKnob Tryz.prog.godebug=none:=by kernel_rfl
theorem laidOut:laidOutB Tryz.prog=true:=rY
theorem bS {a b:Bool} (h:a=true) (k:b=true):(a&&b)=true:=by rw [h,k];rfl
theorem closed:joinedFacts Tryz.pinned.checked.prog 5 Tryz.f5 (Rows.OpenSpec.upto Rows.fnLogSpec).bare Rows.fnLogUptoRow=true:=
 (bS (bS (bS (bS (bS (bS (bS (bS (bS (bS (bS (bS (bS (bS (bS (bS (bS (bS (bS (bS (bS (bS (bS (bS (bS (bS (bS (bS (bS (bS (bS (by kernel_rfl) rY) Iq) (by kernel_rfl)) (by kernel_rfl)) (by kernel_rfl)) (by kernel_rfl)) (by kernel_rfl)) (by kernel_rfl)) Ed) zi) Bz) Iy) (by kernel_rfl)) (by kernel_rfl)) (by kernel_rfl)) (by kernel_rfl)) (by kernel_rfl)) (by kernel_rfl)) (by kernel_rfl)) (by kernel_rfl)) (by kernel_rfl)) Ir) (by kernel_rfl)) Ea) Eb) Av) Iu) (by kernel_rfl)) (by kernel_rfl)) (by kernel_rfl)) (by kernel_rfl))
set_option maxRecDepth 100000 in
theorem contract (H:Type) (enc:TypeId×Value→H) (W:World) (base:Nat) (args:Array Value) (ds gs:List (DataW H)) (before:List MemPlace)
  (hval:∀(j:Nat) t v,Tryz.f5.params[j]? =some t→args[j]? =some v→Value.okWide Tryz.prog W .any base t v)
  (hW:DataW.Whole enc Tryz.prog Tryz.f5.params.toList Rows.fnLogSpec.vars false W args.toList ds gs before) (hk:Rows.uptoSmall H (ds++gs)=true):
  Calls Tryz.prog 5 args W fun e W'=>∃v,e= .returned v∧Rows.fnLogSpec.post enc Tryz.prog Tryz.f5 false true false false W args v W':=by
 have hW':=hW
 obtain⟨p,q,hA0,hV,hbe,hfz,hnd⟩:=hW
 have hA:DataW.TrodAll enc Tryz.prog W 0 (fun _=>true) true Tryz.f5.params.toList args.toList ds p:=hA0
 rw [Tryz.params5] at hA hval
 obtain⟨v0,vs0,d0,ds0,p0,q0',aao,hds0,hp0,h0,hA0⟩:=trodAll_cons hA
 obtain⟨aap,aaq,hpn⟩:=trodAll_nil hA0
 obtain rfl:ds= [d0]:=by rw [hds0,aaq]
 obtain rfl:args= #[v0]:=by
  have e:args.toList= [v0]:=by rw [aao,aap]
  cases args;simp_all
 obtain⟨rfl,rfl⟩:=trodVars_none hV
 rw [List.append_nil] at hk
 have hk':Rows.uptoBulkAll [d0]≤1048576:=of_decide_eq_true hk
 have Vl:Rows.uptoBulk d0≤Rows.uptoBulkAll [d0]:=pJ (by simp)
 have hI:∀b o v,W.cell? ⟨b,o,none⟩=some v→b < W.heap.size:=fun b o v h=>Rj (a:=⟨b,o,none⟩) h
 obtain⟨x0,q0,r0⟩:=Hl (I:=fun b=>b < W.heap.size) (J:=fun _=>False) (O:=fun _=>False) (mt:=false) (L:=lim) Tryz.underlying22 (hval 0 22 v0 rfl rfl) h0 (μ:=Rows.uptoBulk) (N:=1048576) (by have:=Vl;omega) (LQ hbk (by decide) hI Tryz.underlying22 (e:=5) (sz:=1) (by kernel_rfl) (by decide) (f:=(AV.int .u8)) (fun _=>rfl) (aag Tryz.underlying5))
 refine ((abD x0).2 (fun b=>b < W.heap.size) (fun _=>False) (fun _=>False) false W [v0] (fun b h=>h) (fun b h=>h.elim) (fun b h=>h.elim) nofun nofun ⟨r0,trivial⟩).mono fun e W' hP=>?_
 obtain⟨v,he,hb,_,_,_,_,_,_,hr⟩:=hP
 simp only [fC,aM] at hr
 obtain⟨_,rfl⟩:=hr
 refine⟨.bool true,he,Ho laidOut rfl Tryz.underlying4 rfl ?_ hW' rfl hb.Vs⟩
 have hp:(Tryz.f5.params.toList.all fun t=>Tryz.prog.readableRec t&&decide (t < Tryz.prog.types.size))=true:=by kernel_rfl
 intro t ht
 have:=List.all_eq_true.1 hp t ht
 simpa using this
set_option maxRecDepth 100000 in
theorem lifted (os:Os) (started:os.Started) (H:Type) (enc:TypeId×Value→H) (F:Stop.Interp):
  ReturnsInHanded {} Tryz.checked os 5 .any ((Rows.OpenSpec.upto Rows.fnLogSpec).pre6 enc Tryz.prog Tryz.f5 Rows.fnLogUptoRow.domain false) (((Rows.OpenSpec.upto Rows.fnLogSpec).at F).post enc Tryz.prog Tryz.f5 false true false false):=by
 refine returnsInHanded_of_cond (C:=Tryz.checked) (s:=Rows.OpenSpec.upto Rows.fnLogSpec) (k:=Rows.uptoSmall) rfl own started (by kernel_rfl) Tryz.func5
  (OpenSpec.witness (enc:=enc) (C:=Tryz.checked) (s:=Rows.OpenSpec.upto Rows.fnLogSpec) (k:=Rows.uptoSmall) rfl false ⟨#[], #[.slice none 0 0],[]⟩ 8 (by kernel_rfl) (by kernel_rfl) (by kernel_rfl)
   (x:=([.nil],[],[])) (by kernel_rfl) rfl (by kernel_rfl)) ?_
 intro W base args ds gs before hval hW _ hk _
 exact contract H enc W base args ds gs before hval hW hk
theorem over:Rows.fnLogUptoRow.holds Tryz.pinned (Rows.OpenSpec.upto Rows.fnLogSpec):=
 OpenClaim.holds_of_cond 5 Tryz.f5 rfl rfl rfl rfl rfl rfl rfl ⟨rfl,rfl,rfl,rfl,rfl⟩ rfl rfl rfl rfl rfl (by kernel_rfl) Tryz.func5 closed
  (of_decide_eq_true (by kernel_rfl)) (by unfold Func.isWrapper;first|(rw [if_pos (by decide+kernel)];kernel_rfl)|(rw [if_neg (by decide+kernel)];exact⟨rfl,rfl⟩))
  (fun os started H enc _ F=>lifted os started H enc F)
end fnLog
theorem fnLog_upto:Rows.FnLogUptoSaid:=
 fnLog.over
#print axioms fnLog_upto
end Go.Proofs.YtgkfifiobmklcaaGreat
