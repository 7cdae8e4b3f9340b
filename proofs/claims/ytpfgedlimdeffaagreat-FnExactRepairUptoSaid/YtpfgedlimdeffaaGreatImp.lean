/- Contracts: activities by their starts: the program's stable sort. -/
import Derived.WalkKit
import Derived.Deep.LoopGhost
import Derived.Lib.Hide
import Derived.Handy
import Derived.Shelf.SlSortCmp.Insertion1
import Derived.Test.YtpfgedlimdeffaaGreatShI
import Derived.Test.YtpfgedlimdeffaaGreatSet
import Derived.Test.YtpfgedlimdeffaaGreatC45
set_option linter.all false
set_option maxRecDepth 100000
set_option maxHeartbeats 1000000
namespace Go.Proofs.YtpfgedlimdeffaaGreat.Abs
open Go Go.Proofs Go.RowKit Go.Sort
theorem Bw (s:aA) (x y:Nat) (hx:x < s.starts.length) (hy:y < s.starts.length):Con 77 [.d (i64 x),.d (i64 y),.ref s.av] (.d (i64 (uS s.starts x y))):=by
 refine con Tryz.func77 rfl rfl Tryz.call77 rfl fun hwf=>?_
 obtain⟨u,hu⟩:∃u,s.starts[x]? =some u:=⟨s.starts[x]'hx,by simp⟩
 obtain⟨v,hv⟩:∃u,s.starts[y]? =some u:=⟨s.starts[y]'hy,by simp⟩
 have e:uS s.starts x y=ML u v:=by
  rw [uS,jc,jc,Nat.min_eq_left (by omega),Nat.min_eq_left (by omega),List.getD_eq_getElem?_getD,List.getD_eq_getElem?_getD,hu,hv];rfl
 rw [e]
 (repeat' ((conv=>whnf);first|with_reducible refine Idx.got hu rfl ?_|with_reducible refine Idx.got hv rfl ?_|refine gA ?_|(refine gB ?_ ?_<;>intro h)|(refine gI ?_;intro x hx)|(refine gJ ?_;intro j x hj hx)|refine gC (MW u v) ?_|intro _))<;>try (conv=>whnf)
 exact⟨rfl,rfl,trivial⟩
abbrev Bz (n:Nat) (x:Nat):Value:=.int .i64 ((min x (n - 1):Nat):Int)
def inN (n:Nat) (x:Nat):Int:=((min x (n - 1):Nat):Int)
theorem Py (n:Nat) (w:World) (b o:Nat) (F:Array Nat):putRow (Bz n) w b o F=putRow (Value.int .i64) w b o (F.map (inN n)):=by
 have:putCells (Bz n) o F=putCells (Value.int .i64) o (F.map (inN n)):=by
  funext c
  simp only [putCells]
  congr 1
  funext k x
  simp only [Array.size_map]
  split
  ·rename_i h
   rw [getElem!_pos _ _ (by omega),getElem!_pos _ _ (by simp;omega)];simp [Bz,inN]
  ·rfl
 simp only [putRow,this]
theorem DW.Wm {n b cap m:Nat} {w:World} {F:List Int} {os:Array Obj} {dk:Array Nat} (hD:DW 3 1 w w b cap F) (hs:dk.size=F.length):DW 3 1 w (sortWorld (Bz n) w b 0 m dk os) b cap (dk.map (inN n)).toList:=by
 unfold sortWorld
 rw [Py]
 have:=hD.sorted (n:=m) (os:=os) (G:=(dk.map (inN n)).toList) (by simp [hs])
 rwa [Array.toArray_toList] at this
theorem Ja (l:List Int) (x:Nat):jc l (min x (l.length - 1))=jc l x:=by
 rw [jc,jc,Nat.min_assoc,Nat.min_self]
theorem Rv (l:List Int) (x y:Nat):uS l (min x (l.length - 1)) (min y (l.length - 1))=uS l x y:=by rw [uS,uS,Ja,Ja]
theorem NI {W w':World} (q:Quiet W w'):∃n os,w'=grow (W.drewN n) os:=by
 refine⟨w'.drawn - W.drawn,w'.heap.extract W.heap.size w'.heap.size,?_⟩
 have hh:w'.heap=W.heap++w'.heap.extract W.heap.size w'.heap.size:=by
  apply Array.ext_getElem?
  intro k
  by_cases hk:k < W.heap.size
  ·rw [Array.getElem?_append_left hk];exact q.block k hk id
  ·rw [Array.getElem?_append_right (by omega),Array.getElem?_extract]
   split
   ·congr 1;omega
   ·rw [Array.getElem?_eq_none (by omega)]
 have h1:=q.os
 have h2:=q.tape
 have h3:=q.output
 have h4:=q.drawn
 cases w'
 cases W
 simp only at h1 h2 h3 h4 hh
 subst h1 h2 h3
 simp only [grow,World.drewN,World.mk.injEq,and_true,true_and]
 exact⟨hh,by omega⟩
theorem Uf {s:aA} (hn:1≤s.starts.length) {b cap bs:Nat} {w:World} {F:List Int} (hD:DW 3 1 w w b cap F) (hF:F.length=s.starts.length) (hne:bs≠b) (hlt:bs < w.heap.size)
  {I:Nat→Prop} (hI:∀k,I k→k < w.heap.size∧k≠b) (hc:aX I w lim bs s.av.cells 0):
  CmpLays1 Tryz.prog 77 #[.pointer (some ⟨bs,0,none⟩)] (Bz s.starts.length) (uS s.starts) b 0 s.starts.length w:=by
 intro m os dk hdk x y
 have hW:=hD.Wm (n:=s.starts.length) (m:=m) (os:=os) (dk:=dk) (by omega)
 generalize sortWorld (Bz s.starts.length) w b 0 m dk os=W at hW ⊢
 have hcell:∀k o,k < w.heap.size→k≠b→W.cell? ⟨k,o,none⟩=w.cell? ⟨k,o,none⟩:=fun k o hk hkb=>World.cell?_of_block (hW.other k hk hkb)
 have hr:aX (fun k=>k < W.heap.size) W lim bs s.av.cells 0:=aX.mono (fun k hk=>Nat.lt_of_lt_of_le (hI k hk).1 hW.size) (fun k o hk=>hcell k o (hI k hk).1 (hI k hk).2) bs (fun o=>hcell bs o hlt hne) _ _ hc
 have h:=Rs (Bw s (min x (s.starts.length - 1)) (min y (s.starts.length - 1)) (by omega) (by omega)) (w:=W)
  (vs:=[Bz s.starts.length x,Bz s.starts.length y,.pointer (some ⟨bs,0,none⟩)]) ⟨rfl,rfl,⟨bs,0,rfl,.inl (Nat.lt_of_lt_of_le hlt hW.size),hr⟩,trivial⟩
 rw [Rv] at h
 refine Calls.mono (args:= #[Bz s.starts.length x,Bz s.starts.length y,.pointer (some ⟨bs,0,none⟩)]) h ?_
 rintro e w' ⟨rfl,hq⟩
 exact⟨rfl,NI hq⟩
theorem Rw (l:List Int):(dL l l.length).map (inN l.length)=eG l:=by
 rw [eG]
 refine List.map_congr_left fun x hx=>?_
 have:=pJ l l.length x hx
 rw [inN,Nat.min_eq_left (by omega)];rfl
theorem Dv {s:aA} (hn:1≤s.starts.length∧s.starts.length≤60) {b cap bs:Nat} {w:World} (hD:DW 3 1 w w b cap (upTo s.starts.length)) (hne:bs≠b) (hlt:bs < w.heap.size)
  {I:Nat→Prop} (hI:∀k,I k→k < w.heap.size∧k≠b) (hc:aX I w lim bs s.av.cells 0):
  Calls Tryz.prog 165 #[.slice (some ⟨b,0,none⟩) s.starts.length cap,.int .i64 0,.int .i64 s.starts.length,.func (.func 77) #[] #[.pointer (some ⟨bs,0,none⟩)]] w
   fun e w'=>e= .returned (.tuple #[])∧DW 3 1 w w' b cap (eG s.starts):=by
 have hF:(upTo s.starts.length).length=s.starts.length:=sI _
 have hH:Holds (Bz s.starts.length) w b 0 (List.range s.starts.length).toArray:=by
  intro i hi
  have hi':i < s.starts.length:=by simpa using hi
  refine⟨?_,hD.frozen _⟩
  rw [Nat.zero_add,hD.cell (x:=(i:Int)) (by simp [upTo,hi']),getElem!_pos _ i hi]
  simp [Bz];omega
 have hS:=Any.insertionSortCmpFunc_s Tryz.insInt (Bz s.starts.length) (uS s.starts) 77 #[.pointer (some ⟨bs,0,none⟩)] b 0 cap 0 s.starts.length (List.range s.starts.length).toArray (List.range s.starts.length).toArray w w
  (fun _ _=>rfl) (by have:=Uf hn.1 hD hF hne hlt hI hc;simpa using this) ⟨fun x=>rfl,hH,hD.lt⟩ rfl (SW.start hH) (Nat.zero_le _) (by simp) (by simp;omega)
 have hlt2:ltOf (uS s.starts)=IZ s.starts:=rfl
 rw [hlt2,Px s.starts s.starts.length hn.1] at hS
 have e20:Tryz.insInt_ren.f 20=165:=rfl
 simp only [e20,List.size_toArray,List.length_range,Int.natCast_zero,Int.cast_ofNat_Int] at hS
 refine hS.mono ?_
 rintro e w' ⟨rfl,m,os,rfl⟩
 refine⟨rfl,?_⟩
 have:=hD.Wm (n:=s.starts.length) (m:=m) (os:=os) (dk:=(dL s.starts s.starts.length).toArray) (by simp [jR,sI])
 simpa [Rw] using this
theorem KL {A:Option Addr} {n cap g:Nat} {cb:Array Value} {w:World} {Q:World→Prop} (hn:n≤19)
  (h:Calls Tryz.prog 165 #[.slice A n cap,.int .i64 0,.int .i64 n,.func (.func g) #[] cb] w fun e w'=>e= .returned (.tuple #[])∧Q w'):
  Calls Tryz.prog 127 #[.slice A n cap,.int .i64 n,.func (.func g) #[] cb] w fun e w'=>e= .returned (.tuple #[])∧Q w':=by
 have hz:¬(20:Int)≤(n:Int):=by omega
 have hz2:¬(20:Int) < (n:Int):=by omega
 go_enter Tryz.func127,Tryz.ntmps127
 go_wp2_with fail
 refine wp_loop_rounds 1 ?_
 rw [rounds_succ]
 go_wp2_with fail
 refine h.mono ?_
 rintro e w' ⟨rfl,hq⟩
 have HQ:=Lib.hid hq
 clear hq h
 go_wp2_with fail
 refine wp_loop_rounds 1 ?_
 rw [rounds_succ]
 go_wp2_with fail
 all_goals first
  |exact bodyPost_end (results_none rfl _ _ _) rfl ⟨rfl,HQ.out⟩
  |(exfalso;omega)
theorem BA {A:Option Addr} {n cap g:Nat} {cb:Array Value} {w:World} {Q:World→Prop} (hn:n≤19)
  (h:Calls Tryz.prog 165 #[.slice A n cap,.int .i64 0,.int .i64 n,.func (.func g) #[] cb] w fun e w'=>e= .returned (.tuple #[])∧Q w'):
  Calls Tryz.prog 76 #[.slice A n cap,.func (.func g) #[] cb] w fun e w'=>e= .returned (.tuple #[])∧Q w':=by
 have hs:=KL hn h
 clear h
 go_enter Tryz.func76,Tryz.ntmps76
 go_wp2_with fail
 refine hs.mono ?_
 rintro e w' ⟨rfl,hq⟩
 have HQ:=Lib.hid hq
 clear hq hs
 go_wp2_with fail
 all_goals exact bodyPost_end (results_none rfl _ _ _) rfl ⟨rfl,HQ.out⟩
structure YB (code:Code) (f g:Nat):Prop where
 l:∃i1 i2 oO oP o1 o2 o3 o4 o5 c,code= .seq (.region i1 oO false) (.seq (.region i2 oP false) .ret)∧oO.toList= [o1,o2,o3]∧oP.toList= [o4,o5]∧
  o1.guard=none∧o2.guard=none∧o3.guard=none∧o4.guard=none∧o5.guard=none∧
  o1.op= .move (.tmp 3)∧o1.dst=some 17∧o2.op= .makeFunc (.func g) #[] #[.tmp 1]∧o2.dst=some 18∧o3.op= .call c∧c.callee= .value (.func f)∧c.args= #[.tmp 17,.tmp 18]∧o3.dst=some 19∧
  o4.op= .move (.tmp 3)∧o4.dst=some 20∧o5.op= .assign (.tmp 20)∧o5.dst=some 2
theorem VD {P:Program} {fn:Func} {code:Code} {f g:Nat} {R:Ending→World→Prop} {Q:World→Prop} (h:YB code f g) {a1:Act} {w:World} {vl p:Value} (hsz:20 < a1.tmps.size) (hdf:a1.defers= [])
  (v1:a1.tmps.getD 1 undef=p) (v3:a1.tmps.getD 3 undef=vl) (hcf:∀(vs:Array Value) (w:World),(callFunc f vs).run P w= .ok (.enter f vs) w)
  (hcall:Calls P f #[vl,.func (.func g) #[] #[p]] w fun e w'=>e= .returned (.tuple #[])∧Q w') (hres:fn.results= #[.tmp 2]) (hN:∀w',Q w'→R (.returned vl) w'):code.wp P (bodyPost P fn R) a1 w:=by
 obtain⟨i1,i2,oO,oP,o1,o2,o3,o4,o5,c,rfl,e1,e2,g1,g2,g3,g4,g5,p1,d1,p2,d2,p3,pc,pa,d3,p4,d4,p5,d5⟩:=h
 refine wp_seq (wp_region_list ?_)
 rw [e1]
 simp only [wpList]
 rw [if_pos (by simp [Region.wanted,g1])]
 refine .inl (aM (v:=vl) (w':=w) (by simp [execOp,p1,Act.eval,v3]) ?_)
 rw [d1]
 generalize ha2:a1.put (some 17) vl=a2
 have s2:a2.tmps.size=a1.tmps.size:=by rw [← ha2,mh]
 have f2:a2.defers= []:=by rw [← ha2,put_defers,hdf]
 have u17:a2.tmps.getD 17 undef=vl:=by rw [← ha2,eT,if_pos ⟨rfl,by omega⟩]
 have u1:a2.tmps.getD 1 undef=p:=by rw [← ha2,eT,if_neg (fun e=>absurd e.1 (by decide)),v1]
 have u3:a2.tmps.getD 3 undef=vl:=by rw [← ha2,eT,if_neg (fun e=>absurd e.1 (by decide)),v3]
 rw [if_pos (by simp [Region.wanted,g2])]
 refine .inl (aM (v:=.func (.func g) #[] #[p]) (w':=w) (by simp [execOp,p2,Instr.makeFunc,Act.eval,u1]) ?_)
 rw [d2]
 generalize ha3:a2.put (some 18) (.func (.func g) #[] #[p])=a3
 have s3:a3.tmps.size=a1.tmps.size:=by rw [← ha3,mh,s2]
 have f3:a3.defers= []:=by rw [← ha3,put_defers,f2]
 have x17:a3.tmps.getD 17 undef=vl:=by rw [← ha3,eT,if_neg (fun e=>absurd e.1 (by decide)),u17]
 have x18:a3.tmps.getD 18 undef= .func (.func g) #[] #[p]:=by rw [← ha3,eT,if_pos ⟨rfl,by omega⟩]
 have x3:a3.tmps.getD 3 undef=vl:=by rw [← ha3,eT,if_neg (fun e=>absurd e.1 (by decide)),u3]
 rw [if_pos (by simp [Region.wanted,g3])]
 refine .inl ?_
 unfold Oper.wp
 have hrun:(execOp a3.eval o3).run P w= .ok (.enter f #[vl,.func (.func g) #[] #[p]]) w:=by
  have:(execOp a3.eval o3).run P w=(callFunc f #[vl,.func (.func g) #[] #[p]]).run P w:=by
   have hm:c.args.map a3.eval= #[vl,.func (.func g) #[] #[p]]:=by
    rw [pa,show (#[Operand.tmp 17,.tmp 18]).map a3.eval= #[a3.tmps.getD 17 undef,a3.tmps.getD 18 undef] from by simp [Act.eval],x17,x18]
   rw [← hm]
   simp only [execOp,p3]
   simp [resolve,pc,Deferred.ofValue,Act.eval,invoke]
  rw [this,hcf]
 rw [hrun]
 simp only [Oper.upon]
 refine hcall.mono ?_
 rintro e w' ⟨rfl,hQ⟩
 simp only
 rw [d3]
 generalize ha4:a3.put (some 19) (.tuple #[])=a4
 have s4:a4.tmps.size=a1.tmps.size:=by rw [← ha4,mh,s3]
 have f4:a4.defers= []:=by rw [← ha4,put_defers,f3]
 have y3:a4.tmps.getD 3 undef=vl:=by rw [← ha4,eT,if_neg (fun e=>absurd e.1 (by decide)),x3]
 simp only [Exit.then]
 refine wp_seq (wp_region_list ?_)
 rw [e2]
 simp only [wpList]
 rw [if_pos (by simp [Region.wanted,g4])]
 refine .inl (aM (v:=vl) (w':=w') (by simp [execOp,p4,Act.eval,y3]) ?_)
 rw [d4]
 generalize ha5:a4.put (some 20) vl=a5
 have s5:a5.tmps.size=a1.tmps.size:=by rw [← ha5,mh,s4]
 have f5:a5.defers= []:=by rw [← ha5,put_defers,f4]
 have z20:a5.tmps.getD 20 undef=vl:=by rw [← ha5,eT,if_pos ⟨rfl,by omega⟩]
 rw [if_pos (by simp [Region.wanted,g5])]
 refine .inl (aM (v:=vl) (w':=w') (by simp [execOp,p5,Act.eval,z20]) ?_)
 rw [d5]
 generalize ha6:a5.put (some 2) vl=a6
 have f6:a6.defers= []:=by rw [← ha6,put_defers,f5]
 have z2:a6.tmps.getD 2 undef=vl:=by rw [← ha6,eT,if_pos ⟨rfl,by omega⟩]
 simp only [Exit.then]
 have hr:(results fn a6.tmps).run P w'= .ok vl w':=by rw [← z2];exact results_tmp hres _ _ _
 exact wp_ret (bodyPost_ret hr f6 (hN w' hQ))
section
variable {P:Program} {T:Nat→Ty} {L:Nat} {w0:World} {I0:Bs}
theorem FY (hT:aW P T) (hL1:1000≤L) (hL2:L≤2 ^ 38) (hm:P.follows .mixedOrders=true):∀(n:Nat) (code:Code) (Qa:AX→St→Prop) (Q:Exit→Act→World→Prop) (s:St) (a:Act) (w:World) (c:Cx),bW (bT n code)=true→Gam T L w0 I0 s a w c→awp T (dO P T L) L (bT n code) Qa s→
  (∀s' a' w' c',Gam T L w0 I0 s' a' w' c'→Qa .normal s'→(bN n code).wp P Q a' w')→(∀e s' a' w' c',e≠.normal→Gam T L w0 I0 s' a' w' c'→Qa e s'→Q e.ex a' w')→code.wp P Q a w
 |0,code,Qa,Q,s,a,w,c,_,h,hw,hN,_=>hN _ _ _ _ h hw
 |n+1,.seq x y,Qa,Q,s,a,w,c,hp,h,hw,hN,hE=>by
  simp only [bT,bW,Bool.and_eq_true] at hp
  refine wp_seq (iQ hT hL1 hL2 hm x _ _ s a w c hp.1 h hw ?_)
  intro e s' a' w' c' h' hq
  cases e with
  |normal=>exact FY hT hL1 hL2 hm n y Qa Q s' a' w' c' hp.2 h' hq hN hE
  |ret=>exact hE .ret _ _ _ _ nofun h' hq
  |exit id=>exact hE (.exit id) _ _ _ _ nofun h' hq
 |_+1,.skip,_,_,_,_,_,_,_,_,hw,_,_=>hw.elim
 |_+1,.region _ _ _,_,_,_,_,_,_,_,_,hw,_,_=>hw.elim
 |_+1,.cond _ _ _,_,_,_,_,_,_,_,_,hw,_,_=>hw.elim
 |_+1,.block _ _,_,_,_,_,_,_,_,_,hw,_,_=>hw.elim
 |_+1,.loop _,_,_,_,_,_,_,_,_,hw,_,_=>hw.elim
 |_+1,.rangeFunc _ _ _ _,_,_,_,_,_,_,_,_,hw,_,_=>hw.elim
 |_+1,.exit _,_,_,_,_,_,_,_,_,hw,_,_=>hw.elim
 |_+1,.scope _,_,_,_,_,_,_,_,_,hw,_,_=>hw.elim
 |_+1,.label _,_,_,_,_,_,_,_,_,hw,_,_=>hw.elim
 |_+1,.goto _,_,_,_,_,_,_,_,_,hw,_,_=>hw.elim
 |_+1,.ret,_,_,_,_,_,_,_,_,hw,_,_=>hw.elim
 |_+1,.refuse _,_,_,_,_,_,_,_,_,hw,_,_=>hw.elim
end
def SoQ (nt:Nat) (s:aA) (e:AX) (st:St):Prop:=
 match e with
 | .normal=>st.n=nt∧Weak tab st ⟨[(1,.box 1 0 0),(3,.own 900001 0)],[(1,s.av.cells.map SV.data)],[(900001,3,(upTo s.starts.length).map i64,1)]⟩
 |_=>False
theorem wU (s:aA) (hn:1≤s.starts.length∧s.starts.length≤19):Con 38 [.d s.av] (.own 3 ((eG s.starts).map i64)):=by
 refine⟨Tryz.call38,fun I J O mt w vs hI hJ hO hz hd ha=>?_⟩
 obtain⟨v0,rfl,h0⟩:∃v0,vs= [v0]∧aF I w lim s.av v0:=by
  match vs,ha with
  |[v0],ha=>exact⟨v0,rfl,ha.1⟩
  |[],ha=>exact ha.elim
  |_::_::_,ha=>exact ha.2.elim
 refine calls_of_wp (fn:=Tryz.f38) (c:=Tryz.f38.body.getD .skip) Tryz.func38 rfl ?_
 have hnt:Tryz.f38.ntmps=21:=by kernel_rfl
 rw [hnt]
 generalize ha0:({ tmps:=[v0].toArray++Array.replicate (21 - [v0].toArray.size) undef,defers:=[] }:Act)=a0
 have Xj:a0.tmps.size=21:=by rw [← ha0];simp
 have Xk:a0.defers= []:=by rw [← ha0]
 have hs0:zV tab I J O mt w lim a0 (aV 0 [.d s.av]):=by
  refine⟨?_,trivial⟩
  simp only [ah,cx0]
  have:a0.tmps.getD 0 undef=v0:=by rw [← ha0,Array.getD_eq_getD_getElem?,Array.getElem?_append_left (by simp)];simp
  rw [this];exact h0
 have G0:=Gam.begin (T:=tab) (L:=lim) Xj Xk hI hJ hO hz hd hs0
 have hw:mK tab (dO Tryz.prog tab lim) lim (bT 3 (Tryz.f38.body.getD .skip)) (SoQ 21 s) ((Fr.mk (aV 0 [.d s.av]) [] []).st 21):=by
  (repeat' ((conv=>whnf);first|refine gA ?_|(refine gB ?_ ?_<;>intro h)|refine gP ?_|refine gV ?_|intro _))<;>try (conv=>whnf)
  refine aG [1,8] [1] [5] ?_
  (conv=>whnf)
  refine aC.go ((Nat)) (fun k=>(k≤s.starts.length)) (fun k=>[(9,.data (i64 k)),(3,.own 5 0)]) (fun _=>[]) (fun k=>[(5,3,(upTo k).map i64,1)]) (fun k=>s.starts.length - k) (0) ?_ ?_
  ·exact Nat.zero_le _
  rintro k hk
  by_cases hlt:k < s.starts.length
  ·(repeat' ((conv=>whnf);first|(exfalso;omega)|refine gA ?_|(refine gB ?_ ?_<;>intro h)|refine gP ?_|refine gV ?_|intro _))<;>try (conv=>whnf)
   refine nw (k+1) ?_ ?_
   ·(repeat' ((conv=>whnf)<;>(first|exact trivial|exact rfl|with_reducible refine And.intro ?_ ?_)))<;>((conv=>whnf)<;>(exact Fe k))
   exact (by omega:k+1≤s.starts.length)
  ·obtain rfl:k=s.starts.length:=by omega
   (repeat' ((conv=>whnf);first|(exfalso;omega)|refine gA ?_|(refine gB ?_ ?_<;>intro h)|refine gP ?_|refine gV ?_|intro _))<;>try (conv=>whnf)
   (refine And.intro rfl ?_<;>(repeat' ((conv=>whnf)<;>(first|exact trivial|exact rfl|with_reducible refine And.intro ?_ ?_))))
 rw [nE] at hw
 refine FY (L:=lim) MN (by decide) (by decide) mixed 3 _ (SoQ 21 s) _ _ a0 w _ (by kernel_rfl) G0 hw ?_ (fun e s' a' w' c' he _ hq=>by cases e<;>first|exact absurd rfl he|exact hq.elim)
 rintro s' a1 w1 c1 h1 ⟨hst,hwk⟩
 obtain⟨c2,g⟩:=tO h1 hwk
 rw [hst] at g
 clear hwk h1 hw G0
 have hsz:a1.tmps.size=21:=g.size
 have hdf:=g.defers
 obtain⟨bs,cs,E,k1,k2,k3,k4,k5⟩:=g.jB 1 0 (s.av.cells.map SV.data) rfl
 obtain⟨bs',hb1,hb2,hb3,hb4,hb5⟩:=g.TA (d:=1) (l:=s.av.cells) rfl rfl
 have hsl1:=g.slots 1
 rw [show ((Fr.mk [(1,SV.box 1 0 0),(3,SV.own 900001 0)] [(1,s.av.cells.map SV.data)] [(900001,3,(upTo s.starts.length).map i64,1)]).st 21).get 1= .box 1 0 0 from rfl] at hsl1
 simp only [ah] at hsl1
 obtain⟨_,_,m1,_,m3⟩:=hsl1
 cases m1
 obtain⟨b',n1,n2⟩:=m3 rfl
 rw [k1] at n1;cases n1
 obtain rfl:bs=bs':=by rw [hb1] at n2;simpa using n2.symm
 have Xl:=g.slots 3
 rw [show ((Fr.mk [(1,SV.box 1 0 0),(3,SV.own 900001 0)] [(1,s.av.cells.map SV.data)] [(900001,3,(upTo s.starts.length).map i64,1)]).st 21).get 3= .own 900001 0 from rfl] at Xl
 simp only [ah] at Xl
 obtain⟨t,p1,_,p3⟩:=Xl
 cases p1
 obtain⟨u,r1,_,r3⟩:=g.toks 900001 _ rfl
 rw [p3 rfl] at r1
 obtain rfl:=Option.some.inj r1
 obtain⟨q1,q2,xs,q3,q4,q5,_,_⟩:=r3 rfl
 dsimp only at q1 q3 q4 q5
 generalize hvl:a1.tmps.getD 3 undef=vl at*
 obtain rfl:=mY.1 q4
 rw [List.length_map,sI] at q3
 rcases q3.2 with⟨_,h0'⟩|⟨b,cap,cur,hv,hbb,_⟩
 ·omega
 subst hv
 have q3':w1.ownsRow w.heap.size 3 1 (.slice (some ⟨b,0,none⟩) s.starts.length cap) s.starts.length ((upTo s.starts.length).map (Value.int .i64)):=q3
 obtain⟨hD,hnc,hcm,hfl,hbs⟩:=Nc q3'
 have hwho:=q5 b rfl
 have hne:bs≠b:=fun e=>by rw [e,hwho] at k2;cases k2
 have hII:∀k,c2.I k→k < w1.heap.size∧k≠b:=fun k hk=>⟨g.ilt k hk,fun e=>by have:=g.jV k hk;rw [e,hwho] at this;cases this⟩
 have hcall:=BA hn.2 (Dv ⟨hn.1,by omega⟩ hD hne hb3 hII hb5)
 have hT1:Turn (fun b=>O b∧mt=true) w w1:=by
  have h:=g.below
  rw [show c2.M=(fun b=>O b∧mt=true) from g.om] at h
  exact h
 refine VD (f:=76) (g:=77) (Q:=fun w'=>DW 3 1 w1 w' b cap (eG s.starts))
  ⟨_,_,_,_,_,_,_,_,_,_,rfl,rfl,rfl,rfl,rfl,rfl,rfl,rfl,rfl,rfl,rfl,rfl,rfl,rfl,rfl,rfl,rfl,rfl,rfl,rfl⟩ (by omega) hdf hb1 hvl Tryz.call76 hcall rfl fun w' hD'=>?_
 have hlen:(eG s.starts).length=s.starts.length:=by rw [eG,List.length_map,jR]
 have hlim:s.starts.length≤lim:=by unfold lim;omega
 refine⟨_,rfl,hT1.keep (fun k hk=>hO k hk.1) ⟨hD'.os,hD'.tape,hD'.output,hD'.size,fun k hk=>hD'.other k (Nat.lt_of_lt_of_le hk hT1.size) (by omega)⟩ hD'.drawn,I,[b],fun k hk=>hk,fun k hk=>.inl hk,by simp,?_,rfl,by rw [List.length_map,hlen];exact hlim,rfl,Bg,(eG s.starts).map (Value.int .i64),?_,mY.2 rfl⟩
 ·intro k hk
  obtain rfl:=List.mem_singleton.1 hk
  exact⟨fun hi=>by have:=hI _ hi;omega,hbs,hD'.ltW⟩
 ·rw [List.length_map]
  have ho:=hD'.owns (n:=s.starts.length) (base:=w.heap.size) (by rw [hlen,Nat.mul_one]) hbs hnc hcm
  rw [hlen]
  exact ho
theorem wV (s:aA) (hn:1≤s.starts.length∧s.starts.length≤19):Con 38 [.d s.av] (.lin 3 ((eG s.starts).map i64)):=(wU s hn).wL rfl
end Go.Proofs.YtpfgedlimdeffaaGreat.Abs
