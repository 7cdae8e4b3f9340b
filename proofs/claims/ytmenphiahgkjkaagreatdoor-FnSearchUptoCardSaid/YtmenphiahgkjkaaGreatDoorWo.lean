/- slices.DeleteFunc over literals; the clause without one of its literals. -/
import Derived.WalkKit
import Derived.Deep.LoopGhost
import Derived.Lib.Hide
import Derived.Sort.WalkB12
import Derived.Lib.SliceRun
import Derived.Test.YtmenphiahgkjkaaGreatDoorLayC
import Derived.Test.YtmenphiahgkjkaaGreatDoorLex
import Derived.Test.YtmenphiahgkjkaaGreatDoorC11
set_option linter.all false
set_option maxRecDepth 1000000
set_option maxHeartbeats 4000000
namespace Go.Proofs.YtmenphiahgkjkaaGreatDoor.Abs
open Go.Proofs Go.RowKit Go.Sort
theorem Lf {α:Type} (p:α→Bool):∀(l:List α) (n:Nat),(aQ p l n= -1∧∀x∈l,p x=false)∨∃k x,aQ p l n=((n+k:Nat):Int)∧l[k]? =some x∧p x=true∧∀y∈l.take k,p y=false
 |[],n=>.inl ⟨rfl,by simp⟩
 |x::l,n=>by
  cases hp:p x with
  |true=>exact .inr ⟨0,x,by simp [aQ,hp],by simp,hp,by simp⟩
  |false=>
   rcases Lf p l (n+1) with⟨h1,h2⟩|⟨k,y,h1,h2,h3,h4⟩
   ·exact .inl ⟨by simp [aQ,hp,h1],fun y hy=>by
     rcases List.mem_cons.1 hy with rfl|hy
     ·exact hp
     ·exact h2 y hy⟩
   ·refine .inr ⟨k+1,y,by simp only [aQ,hp];rw [if_neg (by simp),h1];congr 1;omega,by simpa using h2,h3,fun z hz=>?_⟩
    simp only [List.take_succ_cons,List.mem_cons] at hz
    rcases hz with rfl|hz
    ·exact hp
    ·exact h4 z hz
structure uN (p:Lit→Bool) (l:List Lit) (i j:Nat) (dk:List Lit):Prop where
 ij:i < j
 jl:j≤l.length
 len:dk.length=l.length
 kept:dk.take i=(l.take j).filter fun x=> !p x
 rest:dk.drop j=l.drop j
theorem uN.start {p:Lit→Bool} {l:List Lit} {k:Nat} {x:Lit} (hx:l[k]? =some x) (hp:p x=true) (ha:∀y∈l.take k,p y=false):uN p l k (k+1) l:=by
 obtain⟨hk,rfl⟩:=List.getElem?_eq_some_iff.1 hx
 refine⟨by omega,by omega,rfl,?_,rfl⟩
 rw [List.take_succ_eq_append_getElem hk,List.filter_append,List.filter_eq_self.2 (fun y hy=>by simp [ha y hy])]
 simp [hp]
theorem uN.at {p:Lit→Bool} {l dk:List Lit} {i j:Nat} (h:uN p l i j dk) {x:Lit} (hx:l[j]? =some x):dk[j]? =some x:=by
 have:(dk.drop j)[0]? =(l.drop j)[0]? :=by rw [h.rest]
 simpa [hx] using this
theorem uN.skip {p:Lit→Bool} {l dk:List Lit} {i j:Nat} (h:uN p l i j dk) {x:Lit} (hx:l[j]? =some x) (hp:p x=true):uN p l i (j+1) dk:=by
 obtain⟨hj,rfl⟩:=List.getElem?_eq_some_iff.1 hx
 refine⟨by have:=h.ij;omega,by omega,h.len,?_,?_⟩
 ·rw [List.take_succ_eq_append_getElem hj,List.filter_append,h.kept];simp [hp]
 ·rw [← List.drop_drop, ← List.drop_drop,h.rest]
theorem uN.keep {p:Lit→Bool} {l dk:List Lit} {i j:Nat} (h:uN p l i j dk) {x:Lit} (hx:l[j]? =some x) (hp:p x=false):uN p l (i+1) (j+1) (dk.set i x):=by
 obtain⟨hj,rfl⟩:=List.getElem?_eq_some_iff.1 hx
 have hi:=h.ij
 have hlen:=h.len
 refine⟨by omega,by omega,by simpa using h.len,?_,?_⟩
 ·rw [List.take_succ_eq_append_getElem hj,List.filter_append,List.take_succ_eq_append_getElem (by simp;omega),List.take_set_of_le (Nat.le_refl _),h.kept]
  simp [hp]
 ·rw [List.drop_set_of_lt (by omega), ← List.drop_drop, ← List.drop_drop,h.rest]
theorem Lh:∀(l:List Lit) (i:Nat),dJ (l.take i)=(dJ l).take (3*i)
 |[],i=>by simp [dJ]
 |x::l,0=>by simp [dJ]
 |x::l,i+1=>by
  rw [show 3*(i+1)=3*i+1+1+1 by omega]
  simp only [List.take_succ_cons,dJ,Lh l i]
theorem Ov:∀(l:List Lit) (i:Nat) (x:Lit),dJ (l.set i x)=(((dJ l).set (3*i) x.kind).set (3*i+1) x.act).set (3*i+2) x.val
 |[],i,x=>by simp [dJ]
 |y::l,0,x=>by simp [dJ]
 |y::l,i+1,x=>by
  rw [show 3*(i+1)=3*i+1+1+1 by omega,show 3*i+1+1+1+1=(3*i+1)+1+1+1 by omega,show 3*i+1+1+1+2=(3*i+2)+1+1+1 by omega]
  simp only [List.set_cons_succ,dJ,Ov l i x]
theorem Li (W:World) (o:Obj):(W.alloc o).heap[W.heap.size]? =some o:=by simp only [World.alloc,Array.getElem?_push_size]
theorem Tv (W:World) (o:Obj):W.heap.size < (W.alloc o).heap.size:=by simp only [World.alloc,Array.size_push];omega
theorem DW.acV {E sz:Nat} {w W:World} {b cap:Nat} {l:List Lit} {i:Nat} {x:Lit} (h:DW E sz w W b cap (dJ l)) (hi:i < l.length):
  DW E sz w (((W.setCell ⟨b,i*3,none⟩ (.int .i64 x.kind)).setCell ⟨b,i*3+1,none⟩ (.int .i64 x.act)).setCell ⟨b,i*3+2,none⟩ (.int .i64 x.val)) b cap (dJ (l.set i x)):=by
 have hl:=gX l
 rw [Ov,Nat.mul_comm 3 i]
 exact ((h.set (by omega)).set (by simp;omega)).set (by simp;omega)
theorem tL {P:Program} (w:World) (t e ty:TypeId) (z:Value) (k:Nat) (ht:P.underlying t=some (.slice e)) (hv:∀w,(zeroValue e).run P w= .ok z w) (hz:z.cells=Array.replicate k (.int .i64 0)) (b o n c:Nat) (hn:0 < n)
  (hc:∀j,j < n*k→(w.cell? ⟨b,o+j,none⟩).isSome=true) (hf:∀j,j < n*k→w.frozen? ⟨b,o+j,none⟩=false):
  (Builtin.clear_ #[t] ty #[.slice (some ⟨b,o,none⟩) n c]).run P w= .ok (.tuple #[]) (w.setCells b o ((List.replicate (n*k) (0:Int)).map (Value.int .i64))):=by
 have hst:=run_storeCells_cells (P:=P) b o ((List.replicate (n*k) (0:Int)).map (Value.int .i64)) 0 w (by simpa using hc) (by simpa using hf) (by intro v hv';rw [List.map_replicate] at hv';rw [List.eq_of_mem_replicate hv'];rfl)
 simp only [Nat.add_zero] at hst
 obtain⟨m,rfl⟩:∃m,n=m+1:=⟨n - 1,by omega⟩
 simp [Builtin.clear_,run_underlying ht,hv,hz,Vu,hst, -List.map_replicate]
theorem DW.cleared {E:Nat} {w W:World} {b cap:Nat} {l:List Lit} {i n:Nat} (h:DW E 3 w W b cap (dJ l)) (hi:i+n=l.length):
  DW E 3 w (W.setCells b (i*3) ((List.replicate (n*3) (0:Int)).map (Value.int .i64))) b cap (dJ (l.take i)):=by
 have hl:=gX l
 refine (h.sets (vs:=List.replicate (n*3) (0:Int)) (j:=i*3) (by simp;omega)).pfx ⟨List.replicate (n*3) 0++(dJ l).drop (i*3+(List.replicate (n*3) (0:Int)).length),?_⟩
 rw [Lh,Nat.mul_comm 3 i,List.append_assoc]
theorem DW.there {E:Nat} {w W:World} {b cap:Nat} {l:List Lit} (h:DW E 3 w W b cap (dJ l)) {j:Nat} (hj:j < l.length*3):(W.cell? ⟨b,j,none⟩).isSome=true:=by
 have hl:=gX l
 rw [h.cell (x:=(dJ l)[j]'(by omega)) (by simp)];rfl
theorem uN.whole {p:Lit→Bool} {l dk:List Lit} {i:Nat} (h:uN p l i l.length dk):dk.take i=(l.filter fun x=> !p x)∧(l.filter fun x=> !p x).length=i:=by
 have h1:=h.kept
 rw [List.take_length] at h1
 refine⟨h1,?_⟩
 have:=congrArg List.length h1
 rw [← this,List.length_take,h.len]
 have:=h.ij
 omega
theorem WM (w:World):(zeroValue 79).run Tryz.prog w= .ok (.agg #[.int .i64 0,.int .i64 0,.int .i64 0]) w:=by kernel_rfl
theorem aaN:Tryz.prog.underlying 33=some (.slice 79):=by kernel_rfl
abbrev Ba (x:Lit):Value:=.agg #[.int .i64 x.kind,.int .i64 x.act,.int .i64 x.val]
def aam (w:World) (b cap:Nat) (r:List Lit) (e:Ending) (w':World):Prop:=e= .returned (.slice (some ⟨b,0,none⟩) r.length cap)∧DW 79 3 w w' b cap (dJ r)
theorem Lj {l:List Lit} {g:Nat} {lb:Array Value} {p:Lit→Bool} {b cap:Nat} {w:World} (eg:∀args w,(callFunc g args).run Tryz.prog w= .ok (.enter g args) w)
  (hD:DW 79 3 w w b cap (dJ l)) (hcap:l.length≤cap) (hl:l.length≤274877906944)
  (hIF:Calls Tryz.prog 209 #[.slice (some ⟨b,0,none⟩) l.length cap,.func (.func g) #[] lb] w fun e w'=>e= .returned (.int .i64 (aQ p l 0))∧Quiet w w')
  (hp:∀(W:World) (x:Lit) (F:List Int),DW 79 3 w W b cap F→Calls Tryz.prog g (#[Ba x]++lb) W fun e W'=>e= .returned (.bool (p x))∧Quiet W W'):
  Calls Tryz.prog 186 #[.slice (some ⟨b,0,none⟩) l.length cap,.func (.func g) #[] lb] w (aam w b cap (l.filter fun x=> !p x)):=by
 rcases Lf p l 0 with⟨e1,hall⟩|⟨k,x,e1,hx,hpx,hall⟩
 ·rw [e1] at hIF
  have ef:(l.filter fun x=> !p x)=l:=List.filter_eq_self.2 fun y hy=>by simp [hall y hy]
  rw [ef]
  have HD:=Lib.hid hD
  clear hD hp hall ef e1
  go_enter Tryz.func186,Tryz.ntmps186
  go_wp2_with fail
  refine hIF.mono ?_
  rintro e w' ⟨rfl,hb⟩
  have HB:=Lib.hid hb
  clear hb hIF
  go_wp2_with fail
  go_ret
  exact⟨rfl,HD.out.below HB.out⟩
 ·rw [e1,Nat.zero_add] at hIF
  have hk:=(List.getElem?_eq_some_iff.1 hx).1
  have hne1:((k:Int) == -1)=false:=beq_eq_false_iff_ne.2 (by omega)
  have HP:=Lib.hid hp
  have HS:=Lib.hid (uN.start hx hpx hall)
  have HD:=Lib.hid hD
  clear hD hp hall e1 hx hpx
  go_enter Tryz.func186,Tryz.ntmps186
  go_wp2_with fail
  refine hIF.mono ?_
  rintro e w' ⟨rfl,hb0⟩
  have HB:=Lib.hid hb0
  clear hb0 hIF
  go_wp2_with fail
  go_loopg [5,6,7] l.length (fun gg s5 s6 _ wr=>∃(i j:Nat) (dk:List Lit),s5= .int .i64 i∧s6= .int .i64 j∧j≤l.length∧l.length - j≤gg∧Aside (uN p l i j dk∧DW 79 3 w wr b cap (dJ dk)))
  case atStart=>exact⟨k,k+1,l,rfl,by go_num,by omega,by omega,HS.out,HD.out.below HB.out⟩
  case round=>
   obtain⟨i,j,dk,rfl,rfl,hjd,hgg,hq⟩:=hrel
   have hij:=hq.out.1.ij
   by_cases hlt:j < l.length
   ·obtain⟨x,hx⟩:∃x,l[j]? =some x:=⟨l[j],by simp [hlt]⟩
    have hdx:=hq.out.1.at hx
    obtain⟨f1,f2,f3⟩:=rZ hdx
    have c1:=hq.out.2.cell f1
    have c2:=hq.out.2.cell f2
    have c3:=hq.out.2.cell f3
    rw [Nat.mul_comm 3 j] at c1 c2 c3
    have HX:=Lib.hid hx
    clear hx hdx f1 f2 f3
    go_wp2_with fail
    have D0:=hq.out.2.alloc (Obj.cells #[Value.int IntKind.i64 x.kind,Value.int IntKind.i64 x.act,Value.int IntKind.i64 x.val] 79)
    have k1:(wr.alloc (Obj.cells #[Value.int IntKind.i64 x.kind,Value.int IntKind.i64 x.act,Value.int IntKind.i64 x.val] 79)).heap[wr.heap.size]? =some (Obj.cells #[Value.int IntKind.i64 x.kind,Value.int IntKind.i64 x.act,Value.int IntKind.i64 x.val] 79):=Li _ _
    have k0:wr.heap.size < (wr.alloc (Obj.cells #[Value.int IntKind.i64 x.kind,Value.int IntKind.i64 x.act,Value.int IntKind.i64 x.val] 79)).heap.size:=Tv _ _
    refine (HP.out _ x _ D0).mono ?_
    rintro e W' ⟨rfl,hb⟩
    have D1:=D0.below hb
    have k2:=(hb.block _ k0 id).trans k1
    have m1:W'.cell? ⟨wr.heap.size,0,none⟩=some (.int .i64 x.kind):=by rw [cell_of_row W' _ _ _ _ _ k2];rfl
    have m2:W'.cell? ⟨wr.heap.size,1,none⟩=some (.int .i64 x.act):=by rw [cell_of_row W' _ _ _ _ _ k2];rfl
    have m3:W'.cell? ⟨wr.heap.size,2,none⟩=some (.int .i64 x.val):=by rw [cell_of_row W' _ _ _ _ _ k2];rfl
    obtain⟨y,hy⟩:∃y,dk[i]? =some y:=⟨dk[i]'(by have:=hq.out.1.len;omega),by simp⟩
    obtain⟨g1,g2,g3⟩:=rZ hy
    have o1:=D1.cell g1
    have o2:=D1.cell g2
    have o3:=D1.cell g3
    have z1:=D1.frozen (i*3)
    have z2:=D1.frozen (i*3+1)
    have z3:=D1.frozen (i*3+2)
    rw [Nat.mul_comm 3 i] at o1 o2 o3
    have HD1:=Lib.hid D1
    clear D1 D0 hb k0 k1 k2 hy g1 g2 g3 c1 c2 c3
    cases hpx:p x with
    |true=>
     go_wp2_with fail
     go_roundg (l.length - (j+1))
     case measure=>omega
     case rel=>exact⟨i,j+1,dk,rfl,by go_num,by omega,by omega,hq.out.1.skip HX.out hpx,HD1.out⟩
    |false=>
     go_wp2_with fail
     go_roundg (l.length - (j+1))
     case measure=>omega
     case rel=>exact⟨i+1,j+1,dk.set i x,by go_num,by go_num,by omega,by omega,hq.out.1.keep HX.out hpx,HD1.out.acV (by have:=hq.out.1.len;omega)⟩
   ·obtain rfl:j=l.length:=by omega
    have hil:i < l.length:=hij
    obtain⟨hw1,hw2⟩:=hq.out.1.whole
    have hcl:=hq.out.2.cleared (i:=i) (n:=l.length - i) (by rw [hq.out.1.len];omega)
    have hcs:∀j,j < (l.length - i)*3→(wr.cell? ⟨b,i*3+j,none⟩).isSome=true:=fun j hj=>hq.out.2.there (by rw [hq.out.1.len];omega)
    have hcf:∀j,j < (l.length - i)*3→wr.frozen? ⟨b,i*3+j,none⟩=false:=fun j _=>hq.out.2.frozen _
    rw [hw1] at hcl
    have HC:=Lib.hid hcl
    have HS1:=Lib.hid hcs
    have HF1:=Lib.hid hcf
    have HW2:=Lib.hid hw2
    clear hcl hcs hcf hw2 hw1
    go_wp2_with fail
    rw [tL (k:=3) wr _ _ _ _ aaN WM rfl b (i*3) (l.length - i) (cap - i) (by omega) HS1.out HF1.out]
    go_wp2_with fail
    go_ret
    have hcl:=HC.out
    rw [List.map_replicate] at hcl
    exact⟨congrArg (fun n:Nat=>Ending.returned (.slice (some ⟨b,0,none⟩) n cap)) HW2.out.symm,hcl⟩
set_option maxRecDepth 100000
open Go.Proofs Go.RowKit Go.Sort
theorem zP (l:List Lit) (fc:Nat) (caps:List AV) (p:Lit→Bool) (hc:∀x:Lit,Con fc ([.d x.av]++caps.map .ref) (.d (.bool (p x)))):
  Con 209 [.d (lits l),.fn fc caps] (.d (i64 (aQ p l 0))):=by
 refine con Tryz.func209 rfl rfl Tryz.call209 rfl fun hwf=>?_
 simp only [ARs.wf,AR.wf,AV.wf,AV.wfs,lm,lim] at hwf
 (conv=>whnf)
 refine aB [0,1,7] [] [] ?_
 (conv=>whnf)
 refine aA.go ((Nat)) (fun k=>(k≤l.length)∧(aQ p (l.drop k) k=aQ p l 0)) (fun k=>[(8,.data (i64 k))]) (fun _=>[]) (fun _=>[]) (fun k=>l.length - k) (0) ?_ ?_
 ·exact⟨by omega,rfl⟩
 rintro k ⟨hk,hi⟩
 (repeat' ((conv=>whnf);first|refine gA ?_|(refine gB ?_ ?_<;>intro h)|(refine gI ?_;intro x hx)|(refine gJ ?_;intro j x hj hx)|refine gV ?_|refine gC (hc x) ?_|intro _))<;>try (conv=>whnf)
 all_goals first
  |exact trivial
  |(refine⟨?_,rfl,trivial⟩;rw [bC (l:=l) (by assumption)] at hi;first|(simp_all [aQ];done)|(simp only [aQ, ← hi];clear hi;simp_all [aQ];done))
  |(refine⟨?_,rfl,trivial⟩;rw [aF (l:=l) (by assumption)] at hi;first|(simp_all [aQ];done)|(simp only [aQ, ← hi];clear hi;simp_all [aQ];done))
  |(refine nx (k+1) ?_
    rw [aF (l:=l) (by assumption)] at hi;refine⟨by omega,?_⟩;simp_all [aQ];done)
theorem yK (y x:Lit):Con 187 [.d y.av,.ref x.av] (.d (.bool (bH y x))):=by
 refine con Tryz.func187 rfl rfl Tryz.call187 rfl fun hwf=>?_
 (repeat' ((conv=>whnf);first|refine gA ?_|(refine gB ?_ ?_<;>intro h)|intro _))<;>try (conv=>whnf)
 all_goals exact⟨by simp [bH],rfl,trivial⟩
theorem GI (l:List Lit):Con 64 [.d (lits l)] (.own 79 (l.map Lit.av)):=by
 refine con Tryz.func64 rfl rfl Tryz.call64 rfl fun hwf=>?_
 simp only [ARs.wf,AR.wf,AV.wf,AV.wfs,lm,lim] at hwf
 (repeat' ((conv=>whnf);first|refine gA ?_|refine Xa.mk (fun h=>?_) ?_|(refine gB ?_ ?_<;>intro h)|refine gP ?_|intro _))<;>try (conv=>whnf)
 ·exact⟨h,rfl,trivial⟩
 ·exact⟨by simp,rfl,trivial⟩
def nk (l:List Lit) (x:Lit):List Lit:=l.filter fun y=> !bH y x
theorem Df {I:Nat→Prop} {w:World} {L:Nat}:∀{l:List Lit} {xs:List Value},bE I w L 3 (l.map Lit.av) xs→xs=(dJ l).map (Value.int .i64)
 |[],xs,h=>h
 |x::l,xs,h=>by
  obtain⟨_,ys,zs,rfl,h1,h2⟩:=h
  rw [Df h2]
  match ys,h1 with
  |[a,b,c],h1=>
   obtain⟨rfl,rfl,rfl,_⟩:=h1
   rfl
  |[],h1=>exact h1.elim
  |[_],h1=>exact h1.2.elim
  |[_,_],h1=>exact h1.2.2.elim
  |_::_::_::_::_,h1=>exact h1.2.2.2.elim
theorem aan {I:Nat→Prop} {w:World} {L:Nat} {x:Lit} {v:Value} (h:aI I w L x.av v):v=Ba x:=by
 obtain⟨cs,rfl,h⟩:=h
 match cs,h with
 |[a,b,c],h=>
  obtain⟨rfl,rfl,rfl,_⟩:=h
  rfl
 |[],h=>exact h.elim
 |[_],h=>exact h.2.elim
 |[_,_],h=>exact h.2.2.elim
 |_::_::_::_::_,h=>exact h.2.2.2.elim
theorem QF {I:Nat→Prop} {w:World} {L:Nat} (x:Lit):aI I w L x.av (Ba x):=⟨[.int .i64 x.kind,.int .i64 x.act,.int .i64 x.val],rfl,rfl,rfl,rfl,trivial⟩
theorem Vv {P:Program} {T:Nat→Ty} {L f:Nat} {args:List AR} {c:Bool} (h:Contract P T L f args (.d (.bool c))) {w:World} {vs:List Value}
  (ha:aR (nY (fun b=>b < w.heap.size) (fun _=>False) (fun _=>False) false w L) args vs):Calls P f vs.toArray w fun e w'=>e= .returned (.bool c)∧Quiet w w':=by
 refine (h.2 _ _ _ false w vs (fun b h=>h) (fun b h=>h.elim) (fun b h=>h.elim) nofun nofun ha).mono ?_
 rintro e w' ⟨v,rfl,hb,_,_,_,_,_,_,hr⟩
 obtain⟨_,rfl⟩:=hr
 exact⟨rfl,hb.quiet⟩
theorem Ow {P:Program} {T:Nat→Ty} {L f:Nat} {args:List AR} {c:Int} (h:Contract P T L f args (.d (i64 c))) {w:World} {vs:List Value}
  (ha:aR (nY (fun b=>b < w.heap.size) (fun _=>False) (fun _=>False) false w L) args vs):Calls P f vs.toArray w fun e w'=>e= .returned (.int .i64 c)∧Quiet w w':=by
 refine (h.2 _ _ _ false w vs (fun b h=>h) (fun b h=>h.elim) (fun b h=>h.elim) nofun nofun ha).mono ?_
 rintro e w' ⟨v,rfl,hb,_,_,_,_,_,_,hr⟩
 obtain⟨_,rfl⟩:=hr
 exact⟨rfl,hb.quiet⟩
theorem aao {E:Nat} {w W:World} {b cap n L:Nat} {l:List Lit} {I:Nat→Prop} (h:DW E 3 w W b cap (dJ l)) (hI:I b) (hl:l.length≤L) (hn:n=l.length):aI I W L (lits l) (.slice (some ⟨b,0,none⟩) n cap):=by
 subst hn
 have hcap:l.length≤cap:=by
  obtain⟨cur,h1,h2,h3,h4⟩:=h.row
  have:=gX l
  omega
 simp only [lits,aI,aG]
 refine⟨_,cap,by rw [List.length_map],by rw [List.length_map];exact hl,by rw [List.length_map];exact hcap,.inr ⟨b,0,3,rfl,hI,Ou.2 fun j x hj=>?_⟩⟩
 obtain⟨f1,f2,f3⟩:=rZ hj
 rw [Nat.zero_add]
 exact⟨h.cell f1,h.cell f2,h.cell f3⟩
abbrev Tw (x:Lit):Obj:=.cells #[.int .i64 x.kind,.int .i64 x.act,.int .i64 x.val] 79
theorem WO {W:World} {x:Lit} {b:Nat} {I J:Nat→Prop} {L:Nat} (h:W.heap[b]? =some (Tw x)) (hI:I b∨J b):uj I J W L x.av (.pointer (some ⟨b,0,none⟩)):=by
 refine⟨b,0,rfl,hI,?_⟩
 refine⟨⟨_,by rw [cell_of_row W b _ _ _ _ h];rfl,rfl⟩,⟨_,by rw [cell_of_row W b _ _ _ _ h];rfl,rfl⟩,⟨_,by rw [cell_of_row W b _ _ _ _ h];rfl,rfl⟩,trivial⟩
theorem Ll {g:Nat} {lb:Array Value} {w:World}
  (hIF:Calls Tryz.prog 209 #[.slice none 0 0,.func (.func g) #[] lb] w fun e w'=>e= .returned (.int .i64 (-1))∧Quiet w w'):
  Calls Tryz.prog 186 #[.slice none 0 0,.func (.func g) #[] lb] w fun e w'=>e= .returned (.slice none 0 0)∧Quiet w w':=by
 go_enter Tryz.func186,Tryz.ntmps186
 go_wp2_with fail
 refine hIF.mono ?_
 rintro e w' ⟨rfl,hb⟩
 have HB:=Lib.hid hb
 clear hb hIF
 go_wp2_with fail
 go_ret
 exact⟨rfl,HB.out⟩
theorem Dh {I:Nat→Prop} {w:World} {L:Nat}:∀(l:List Lit),bE I w L 3 (l.map Lit.av) ((dJ l).map (Value.int .i64))
 |[]=>rfl
 |x::l=>⟨rfl,[.int .i64 x.kind,.int .i64 x.act,.int .i64 x.val],(dJ l).map (Value.int .i64),rfl,⟨rfl,rfl,rfl,trivial⟩,Dh l⟩
theorem AL {l:List Lit}:∀x∈l.map Lit.av,bR (tab 79).zero x.cells=true:=fun x hx=>by
 obtain⟨n,_,rfl⟩:=List.mem_map.1 hx;rfl
theorem abE {us:List Value} {l:List Lit} {x:Lit} {w w2:World} {v:Value} {I O:Nat→Prop} {mt:Bool} (hb:Quiet w w2) (hbx:w2.heap[w.heap.size]? =some (Tw x))
  (hown:w2.ownsRow (w.heap.size+1) 79 3 v l.length ((dJ l).map (Value.int .i64))) (hl:l.length≤lim) (hI:∀b,I b→b < w.heap.size) (hO:∀b,O b→b < w.heap.size):
  Calls Tryz.prog 186 #[v,.func (.func 187) #[] #[.pointer (some ⟨w.heap.size,0,none⟩)]] w2 (Post tab lim I (fun b=>O b∧mt=true) w us (.own 79 ((nk l x).map Lit.av))):=by
 have hsz:w.heap.size < w2.heap.size:=(Array.getElem?_eq_some_iff.1 hbx).1
 have hcl:∀(W:World) (y:Lit),W.heap[w.heap.size]? =some (Tw x)→Calls Tryz.prog 187 (#[Ba y]++ #[.pointer (some ⟨w.heap.size,0,none⟩)]) W fun e W'=>e= .returned (.bool (bH y x))∧Quiet W W':=fun W y hW=>
  Vv (yK y x) (w:=W) (vs:=[Ba y,.pointer (some ⟨w.heap.size,0,none⟩)]) ⟨QF y,WO hW (.inl (Array.getElem?_eq_some_iff.1 hW).1),trivial⟩
 have hix:∀v:Value,aI (fun b=>b < w2.heap.size) w2 lim (lits l) v→Calls Tryz.prog 209 #[v,.func (.func 187) #[] #[.pointer (some ⟨w.heap.size,0,none⟩)]] w2 fun e w'=>e= .returned (.int .i64 (aQ (fun y=>bH y x) l 0))∧Quiet w2 w':=fun v hv=>
  Ow (zP l 187 [x.av] (fun y=>bH y x) fun y=>yK y x) (w:=w2) (vs:=[v,_]) ⟨hv,⟨_,rfl,WO hbx (.inl hsz),trivial⟩,trivial⟩
 rcases hown.2 with⟨rfl,hn⟩|⟨b,cap,cur,rfl,hbb,_⟩
 ·obtain rfl:=List.eq_nil_of_length_eq_zero hn
  refine (Ll (hix _ (by simp only [lits,aI,aG,List.map_nil];exact⟨none,0,rfl,Nat.zero_le _,Nat.le_refl _,.inl rfl⟩))).mono ?_
  rintro e w' ⟨rfl,hb'⟩
  exact⟨_,rfl,Turn.ofQ (fun k hk=>hO k hk.1) (hb.trans hb'),I,[],fun k hk=>hk,fun k hk=>.inl hk,List.nodup_nil,fun _ h=>by simp at h,rfl,by simp [nk],rfl,AL,[],⟨rfl,.inl ⟨rfl,rfl⟩⟩,rfl⟩
 ·obtain⟨hD,hnc,hcm,hfl,_⟩:=Le hown
  have hcall:=Lj (g:=187) (lb:= #[.pointer (some ⟨w.heap.size,0,none⟩)]) (p:=fun y=>bH y x) (by intro args w;rfl) hD hnc hl (hix _ (aao hD hD.lt hl rfl)) fun W y F hW=>hcl W y (by rw [hW.other _ hsz (by omega)];exact hbx)
  refine hcall.mono ?_
  rintro e w' ⟨rfl,hD'⟩
  have hbw:Quiet w w':=hD'.quiet hb (by omega)
  have hsl:(nk l x).length≤l.length:=List.length_filter_le _ _
  refine⟨_,rfl,Turn.ofQ (fun k hk=>hO k hk.1) hbw,I,[b],fun k hk=>hk,fun k hk=>.inl hk,by simp,?_,rfl,by rw [List.length_map];exact Nat.le_trans hsl hl,rfl,AL,(dJ (nk l x)).map (Value.int .i64),?_,Dh _⟩
  ·intro k hk
   obtain rfl:=List.mem_singleton.1 hk
   exact⟨fun hi=>by have:=hI _ hi;omega,by omega,hD'.ltW⟩
  ·rw [List.length_map]
   exact hD'.owns (n:=(nk l x).length) (base:=w.heap.size) (by show (dJ (nk l x)).length=_;rw [gX];omega) (by omega) (Nat.le_trans hsl hnc) hcm
theorem Di (l:List Lit) (x:Lit):Con 154 [.d (lits l),.d x.av] (.own 79 ((nk l x).map Lit.av)):=by
 refine⟨Tryz.call154,fun I J O mt w vs hI _ hO _ _ ha=>?_⟩
 have hwf:=nY.wfs ha
 simp only [ARs.wf,AR.wf,AV.wf,AV.wfs,List.length_map] at hwf
 match vs,ha with
 |[v0,v1],ha=>
  obtain⟨h0,h1,_⟩:=ha
  obtain rfl:=aan h1
  have hb1:Quiet w (w.alloc (Tw x)):=Quiet.alloc _ _
  have h0':aI I (w.alloc (Tw x)) lim (lits l) v0:=aI.mono (fun _ h=>h) (fun b o hb=>World.cell?_of_block (hb1.block b (hI b hb) id)) h0
  have hlt:=Tv w (Tw x)
  have hCl:=(GI l).2 I (fun _=>False) (fun _=>False) false (w.alloc (Tw x)) [v0] (fun b hb=>Nat.lt_trans (hI b hb) hlt) (fun b h=>h.elim) (fun b h=>h.elim) nofun nofun ⟨h0',trivial⟩
  have HI:=Lib.hid hI
  have HO:=Lib.hid hO
  have HW:=Lib.hid hwf
  have HB1:=Lib.hid hb1
  have HL:=Lib.hid hlt
  clear hI hO hwf hb1 h0 h0' h1 hlt
  go_enter Tryz.func154,Tryz.ntmps154
  go_wp2_with fail
  refine hCl.mono ?_
  rintro e w2 ⟨v,rfl,hT,I',bs,k1,k2,k3,k4,k5⟩
  obtain⟨_,_,_,_,xs,m1,m2⟩:=k5
  obtain rfl:=Df m2
  rw [List.length_map] at m1
  have hb2:=hT.quiet
  have hdel:=abE (us:=[]) (l:=l) (x:=x) (w:=w) (w2:=w2) (v:=v) (I:=I) (O:=O) (mt:=mt) (HB1.out.trans hb2) ((hb2.block _ HL.out id).trans (Li w (Tw x))) (by
   have:=m1
   simp only [World.alloc,Array.size_push] at this
   exact this) HW.out.1.1 HI.out HO.out
  clear hCl m1 m2 hb2 hT k1 k2 k3 k4
  go_wp2_with fail
  refine hdel.mono ?_
  rintro e w3 ⟨v',rfl,hr⟩
  have HR:=Lib.hid hr
  clear hr hdel
  go_wp2_with fail
  go_ret
  exact⟨_,rfl,HR.out⟩
 |[],ha=>exact ha.elim
 |[_],ha=>exact ha.2.elim
 |_::_::_::_,ha=>exact ha.2.2.elim
theorem Dj (l:List Lit) (x:Lit):Con 154 [.d (lits l),.d x.av] (.lin 79 ((nk l x).map Lit.av)):=(Di l x).xO rfl
theorem Na (l:List Lit):Con 64 [.d (lits l)] (.lin 79 (l.map Lit.av)):=(GI l).xO rfl
end Go.Proofs.YtmenphiahgkjkaaGreatDoor.Abs
