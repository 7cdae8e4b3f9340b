/- FnSearch (its second form): for every input of bulk at most 1048576 the law returns true and its arguments read as they did. -/
import Derived.Test.YtmenphiahgkjkaaGreatDoorQ33
import Derived.Test.YtmenphiahgkjkaaGreatDoorBud
import Derived.Test.YtmenphiahgkjkaaGreatDoorF1
import Derived.Test.YtmenphiahgkjkaaGreatDoorF2
import Derived.Test.YtmenphiahgkjkaaGreatDoorF3
import Derived.Test.YtmenphiahgkjkaaGreatDoorFf
import Derived.Test.YtmenphiahgkjkaaGreatDoorGFnSearch1
import Derived.Test.YtmenphiahgkjkaaGreatDoorGFnSearch2
import Derived.Test.YtmenphiahgkjkaaGreatDoorGFnSearch3
import Derived.Test.YtmenphiahgkjkaaGreatDoorGFnSearch4
import Derived.Test.YtmenphiahgkjkaaGreatDoorRows
import Derived.JoinedCond
import Derived.Test.YtmenphiahgkjkaaGreatDoorCards
import Derived.Test.YtmenphiahgkjkaaGreatDoorTie
import Derived.LaidMore
import Derived.Stop.Joined
import Derived.SevenTiedAt
set_option linter.all false
namespace Go.Proofs.YtmenphiahgkjkaaGreatDoor
open Go.Proofs.YtmenphiahgkjkaaGreatDoor.Abs Go.ChangeShapes Go.WideShapes Go.ChangeAt Go.RowKit
namespace fnSearch
theorem one_le {H:Type} (d:DataW H):1≤Rows.uptoBulk d:=by
 cases d with
 |lit l=>cases l<;>simp [Rows.uptoBulk]
 |nil=>simp [Rows.uptoBulk]
 |ptr d=>simp [Rows.uptoBulk]
 |slice elems spare=>simp [Rows.uptoBulk]
 |agg parts=>simp [Rows.uptoBulk]
 |iface t d=>simp [Rows.uptoBulk]
 |map entries=>simp [Rows.uptoBulk]
 |held h=>simp [Rows.uptoBulk]
theorem Rx {H:Type} {d:DataW H} {l:List (DataW H)} (h:d∈l):Rows.uptoBulk d≤Rows.uptoBulkAll l:=by
 induction l with
 |nil=>cases h
 |cons x r ih=>
  simp only [Rows.uptoBulkAll]
  cases List.mem_cons.1 h with
  |inl e=>subst e;omega
  |inr e=>have:=ih e;omega
theorem length_le {H:Type} (l:List (DataW H)):l.length≤Rows.uptoBulkAll l:=by
 induction l with
 |nil=>simp [Rows.uptoBulkAll]
 |cons x r ih=>have:=one_le x;simp only [Rows.uptoBulkAll,List.length_cons];omega
theorem hbk {H:Type}:acH (H:=H) Rows.uptoBulk where
 sl elems spare:=by have:=length_le elems;simp only [Rows.uptoBulk];omega
 slE elems spare x h:=by have:=Rx h;simp only [Rows.uptoBulk];omega
 agg parts x h:=by have:=Rx h;simp only [Rows.uptoBulk];omega
 str s:=by simp [Rows.uptoBulk]
theorem own:ownKnob Tryz.prog.godebug=none:=by kernel_rfl
theorem laidOut:laidOutB Tryz.prog=true:=Pe
theorem nP {a b:Bool} (h:a=true) (k:b=true):(a&&b)=true:=by rw [h,k];rfl
theorem closed:joinedFacts Tryz.pinned.checked.prog 3 Tryz.f3 (Rows.OpenSpec.upto Rows.fnSearchSpec).bare Rows.fnSearchUptoRow=true:=
 (nP (nP (nP (nP (nP (nP (nP (nP (nP (nP (nP (nP (nP (nP (nP (nP (nP (nP (nP (nP (nP (nP (nP (nP (nP (nP (nP (nP (nP (nP (nP (by kernel_rfl) Pe) Ya) (by kernel_rfl)) (by kernel_rfl)) (by kernel_rfl)) (by kernel_rfl)) (by kernel_rfl)) (by kernel_rfl)) yU) vO) yB) Bj) (by kernel_rfl)) (by kernel_rfl)) (by kernel_rfl)) (by kernel_rfl)) (by kernel_rfl)) (by kernel_rfl)) (by kernel_rfl)) (by kernel_rfl)) (by kernel_rfl)) Yb) (by kernel_rfl)) VW) VX) Ux) Yc) (by kernel_rfl)) (by kernel_rfl)) (by kernel_rfl)) (by kernel_rfl))
set_option maxRecDepth 100000 in
theorem contract (H:Type) (enc:TypeId×Value→H) (W:World) (base:Nat) (args:Array Value) (ds gs:List (DataW H)) (before:List MemPlace)
  (hval:∀(j:Nat) t v,Tryz.f3.params[j]? =some t→args[j]? =some v→Value.okWide Tryz.prog W .any base t v)
  (hW:DataW.Whole enc Tryz.prog Tryz.f3.params.toList Rows.fnSearchSpec.vars false W args.toList ds gs before) (hk:Rows.uptoSmall H (ds++gs)=true):
  Calls Tryz.prog 3 args W fun e W'=>∃v,e= .returned v∧Rows.fnSearchSpec.post enc Tryz.prog Tryz.f3 false true false false W args v W':=by
 have hW':=hW
 obtain⟨p,q,hA0,hV,hbe,hfz,hnd⟩:=hW
 have hA:DataW.TrodAll enc Tryz.prog W 0 (fun _=>true) true Tryz.f3.params.toList args.toList ds p:=hA0
 rw [Tryz.params3] at hA hval
 obtain⟨v0,vs0,d0,ds0,p0,q0',aep,hds0,hp0,h0,hA0⟩:=trodAll_cons hA
 obtain⟨aer,aes,hpn⟩:=trodAll_nil hA0
 obtain rfl:ds= [d0]:=by rw [hds0,aes]
 obtain rfl:args= #[v0]:=by
  have e:args.toList= [v0]:=by rw [aep,aer]
  cases args;simp_all
 obtain⟨rfl,rfl⟩:=trodVars_none hV
 rw [List.append_nil] at hk
 have hk':Rows.uptoBulkAll [d0]≤1048576:=of_decide_eq_true hk
 have adg:Rows.uptoBulk d0≤Rows.uptoBulkAll [d0]:=Rx (by simp)
 have hI:∀b o v,W.cell? ⟨b,o,none⟩=some v→b < W.heap.size:=fun b o v h=>aad (a:=⟨b,o,none⟩) h
 obtain⟨x0,q0,r0⟩:=XA (I:=fun b=>b < W.heap.size) (J:=fun _=>False) (O:=fun _=>False) (mt:=false) (L:=lim) Tryz.underlying22 (hval 0 22 v0 rfl rfl) h0 (μ:=Rows.uptoBulk) (N:=1048576) (by have:=adg;omega) (YU hbk (by decide) hI Tryz.underlying22 (e:=5) (sz:=1) (by kernel_rfl) (by decide) (f:=(AV.int .u8)) (fun _=>rfl) (ada Tryz.underlying5))
 refine ((VU x0).2 (fun b=>b < W.heap.size) (fun _=>False) (fun _=>False) false W [v0] (fun b h=>h) (fun b h=>h.elim) (fun b h=>h.elim) nofun nofun ⟨r0,trivial⟩).mono fun e W' hP=>?_
 obtain⟨v,he,hb,_,_,_,_,_,_,hr⟩:=hP
 simp only [fF,aI] at hr
 obtain⟨_,rfl⟩:=hr
 refine⟨.bool true,he,XB laidOut rfl Tryz.underlying4 rfl ?_ hW' rfl hb.aaV⟩
 have hp:(Tryz.f3.params.toList.all fun t=>Tryz.prog.readableRec t&&decide (t < Tryz.prog.types.size))=true:=by kernel_rfl
 intro t ht
 have:=List.all_eq_true.1 hp t ht
 simpa using this
theorem Zw (os:Os) (args:Array Value):laidMetH Tryz.prog Rows.fnSearchUptoRow.laid ((World.doorLaid Tryz.prog 400 os).forCall (fun _ _=>0) ⟨#[],args,[]⟩).memory:=
 laidMetH_of_parts3 (fuel:=8) (laidMet_of_run' 8 (by kernel_rfl) (by kernel_rfl)) (by kernel_rfl) (by kernel_rfl)
set_option maxRecDepth 100000 in
theorem witness (os:Os) (H:Type) (enc:TypeId×Value→H):∃(w:World) (tape:Tape) (i:Input),w.os=os∧(w.forCall tape i).Shaped Tryz.prog∧i.vars= []∧Input.okWide Tryz.prog (w.forCall tape i) .any w.heap.size 3 i∧
   Rows.fnSearchUptoRow.pre enc Tryz.prog Tryz.f3 (Rows.OpenSpec.upto Rows.fnSearchSpec) (w.forCall tape i).memory i.args∧({}:Assume).holds Tryz.prog (lone (Frame.enter Tryz.prog 3 i.args .normal) [] (w.forCall tape i)):=by
 have hok:Input.okWideB Tryz.prog ((World.doorLaid Tryz.prog 400 os).forCall (fun _ _=>0) ⟨#[], #[.slice none 0 0],[]⟩) 3 ⟨#[], #[.slice none 0 0],[]⟩=true:=by kernel_rfl
 have hx:DataW.whole enc Tryz.prog ((World.doorLaid Tryz.prog 400 os).forCall (fun _ _=>0) ⟨#[], #[.slice none 0 0],[]⟩).memory Tryz.f3.params.toList (Rows.OpenSpec.upto Rows.fnSearchSpec).vars false (#[.slice none 0 0]:Array Value).toList 8=some ([.nil],[],[]):=by kernel_rfl
 exact⟨World.doorLaid Tryz.prog 400 os,fun _ _=>0,⟨#[], #[.slice none 0 0],[]⟩,rfl,World.shaped_of_RefB (by kernel_rfl) (by kernel_rfl),(Input.okWide_of_okWideB (base:=0) hok).1,(Input.okWide_of_okWideB hok).2,
  ⟨⟨(OpenSpec.pre_some (k:=Rows.uptoSmall) rfl [] false _ _).2 ⟨_,_,_,DataW.Whole_of_whole hx,rfl,by kernel_rfl⟩,Zw os _⟩,sizedMet_of_sizedB (fuel:=8) (by kernel_rfl)⟩,by
  simp only [Assume.holds]
  exact⟨by simp,by simp,by simp,by simp,by simp⟩⟩
set_option maxRecDepth 100000 in
theorem lifted (os:Os) (started:os.Started) (H:Type) (enc:TypeId×Value→H) (F:Stop.Interp):
  ReturnsInHanded {} Tryz.checked os 3 .any (Rows.fnSearchUptoRow.pre enc Tryz.prog Tryz.f3 (Rows.OpenSpec.upto Rows.fnSearchSpec)) (((Rows.OpenSpec.upto Rows.fnSearchSpec).at F).post enc Tryz.prog Tryz.f3 false true false false):=by
 refine returnsInHanded_of_calls (C:=Tryz.checked) own started (by kernel_rfl) (witness os H enc) ?_
 intro w tape i _ _ _ hok hpre hholds
 obtain⟨_,_,_,fn',hfn',_,_,_,_,hval⟩:=hok
 have e:fn'=Tryz.f3:=Option.some.inj (hfn'.symm.trans Tryz.func3)
 subst e
 obtain⟨ds,gs,before,hw,hc,hkk⟩:=(OpenSpec.pre_some (k:=Rows.uptoSmall) rfl [] false _ _).1 hpre.1.1
 have hw':=DataW.Whole.of_heap (w':=w.forCall tape i) (by rfl) hw
 refine (contract H enc (w.forCall tape i) w.heap.size i.args ds gs before hval hw' hkk).mono fun e W' ⟨v,he,hp⟩=>?_
 subst he
 exact ChangeSpec.post_blind hp
theorem over:Rows.fnSearchUptoRow.holds Tryz.pinned (Rows.OpenSpec.upto Rows.fnSearchSpec):=
 OpenClaim.holds_of_cond 3 Tryz.f3 rfl rfl rfl rfl rfl rfl rfl ⟨rfl,rfl,rfl,rfl,rfl⟩ rfl rfl rfl rfl rfl (by kernel_rfl) Tryz.func3 closed
  (of_decide_eq_true (by kernel_rfl)) (by unfold Func.isWrapper;first|(rw [if_pos (by decide+kernel)];kernel_rfl)|(rw [if_neg (by decide+kernel)];exact⟨rfl,rfl⟩))
  (fun os started H enc _ F=>lifted os started H enc F)
end fnSearch
theorem fnSearch_row:Rows.FnSearchUptoSaid:=fnSearch.over
theorem fnSearch_upto:Rows.FnSearchUptoCardSaid:=
 Claim7.holds_tied_plain_at .later [] [.data,.data,.data] true (true, "58f58ec3b35257571ee214327e222df4b15d93a0a64893222472a9f1730df5f4") false
  fnSearch_row (fun _ h=>by cases h) (by kernel_rfl) (fun _ h=>by cases h) fnSearchUpto_row_tie rfl ⟨rfl,rfl⟩ (by kernel_rfl) rfl
  (fun f fn hf hfn=>by
   obtain rfl:f=3:=Option.some.inj ((show Tryz.prog.funcNamed "loop.example/g00806/laws.FnSearch" =some 3 by kernel_rfl).symm.trans hf) |>.symm
   obtain rfl:fn=Tryz.f3:=(Option.some.inj (Tryz.func3.symm.trans hfn)).symm
   exact⟨by kernel_rfl,fun j t ht=>by
    rw [Tryz.params3] at ht
    have hm:t∈[22]:=by simpa using Array.mem_of_getElem? ht
    have hall:([22].all fun u=> !Tryz.prog.wantsStandIn u)=true:=by kernel_rfl
    exact (show Tryz.prog.wantsStandIn t=false by simpa using List.all_eq_true.1 hall t hm)⟩)
  (by kernel_rfl)
#print axioms fnSearch_upto
end Go.Proofs.YtmenphiahgkjkaaGreatDoor
