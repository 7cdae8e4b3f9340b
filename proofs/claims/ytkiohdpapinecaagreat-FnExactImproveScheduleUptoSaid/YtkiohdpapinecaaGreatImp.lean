/- Contracts: activities by their starts: the program's stable sort. No statement of a claim. -/
import Derived.WalkKit
import Derived.Deep.LoopGhost
import Derived.Lib.Hide
import Derived.Handy
import Derived.Shelf.SlSortCmp.Insertion1
import Derived.Test.YtkiohdpapinecaaGreatShI
import Derived.Test.YtkiohdpapinecaaGreatSet
import Derived.Test.YtkiohdpapinecaaGreatC45
set_option linter.all false
set_option linter.unusedVariables false
set_option linter.unusedSimpArgs false
set_option maxRecDepth 100000
set_option maxHeartbeats 1000000
namespace Go.Proofs.YtkiohdpapinecaaGreat.Abs
open Go Go.Proofs Go.RowKit Go.Sort
theorem impl_StartOrder1 (s:Sched) (x y:Nat) (hx:x < s.starts.length) (hy:y < s.starts.length):Con 155 [.d (i64 x),.d (i64 y),.ref s.av] (.d (i64 (cfKey s.starts x y))):=by
 refine con Tryz.func155 rfl rfl Tryz.call155 rfl fun hwf=>?_
 obtain⟨u,hu⟩:∃u,s.starts[x]? =some u:=⟨s.starts[x]'hx,by simp⟩
 obtain⟨v,hv⟩:∃u,s.starts[y]? =some u:=⟨s.starts[y]'hy,by simp⟩
 have e:cfKey s.starts x y=cmpI u v:=by
  rw [cfKey,keyAt,keyAt,Nat.min_eq_left (by omega),Nat.min_eq_left (by omega),List.getD_eq_getElem?_getD,List.getD_eq_getElem?_getD,hu,hv];rfl
 rw [e]
 (repeat' ((conv=>whnf);first | with_reducible refine Idx.got hu rfl ?_ | with_reducible refine Idx.got hv rfl ?_ | refine gA ?_ | ((with_reducible first | refine gD (fun h=>?_) (fun h=>?_) | refine gE (fun h=>?_) (fun h=>?_)) <;> (try simp only [lm] at h) <;> try have hw:=wn h) | with_reducible refine gI (fun x hx=>?_) | with_reducible refine gJ (fun j x hj hx=>?_) | refine gC (cmp_Compare u v) ?_ | intro _)) <;> (try (conv=>whnf))
 exact⟨rfl,rfl,trivial⟩
abbrev encN (n:Nat) (x:Nat):Value:=.int .i64 ((min x (n - 1):Nat):Int)
def inN (n:Nat) (x:Nat):Int:=((min x (n - 1):Nat):Int)
theorem putRow_nat (n:Nat) (w:World) (b o:Nat) (F:Array Nat):putRow (encN n) w b o F=putRow (Value.int .i64) w b o (F.map (inN n)):=by
 have:putCells (encN n) o F=putCells (Value.int .i64) o (F.map (inN n)):=by
  funext c
  simp only [putCells]
  congr 1
  funext k x
  simp only [Array.size_map]
  split
  ·rename_i h
   rw [getElem!_pos _ _ (by omega),getElem!_pos _ _ (by simp;omega)];simp [encN,inN]
  ·rfl
 simp only [putRow,this]
theorem DW.sortW {n b cap m:Nat} {w:World} {F:List Int} {os:Array Obj} {dk:Array Nat} (hD:DW 3 1 w w b cap F) (hs:dk.size=F.length):DW 3 1 w (sortWorld (encN n) w b 0 m dk os) b cap (dk.map (inN n)).toList:=by
 unfold sortWorld
 rw [putRow_nat]
 have:=hD.sorted (n:=m) (os:=os) (G:=(dk.map (inN n)).toList) (by simp [hs])
 rwa [Array.toArray_toList] at this
theorem keyAt_min (l:List Int) (x:Nat):keyAt l (min x (l.length - 1))=keyAt l x:=by
 rw [keyAt,keyAt,Nat.min_assoc,Nat.min_self]
theorem cfKey_min (l:List Int) (x y:Nat):cfKey l (min x (l.length - 1)) (min y (l.length - 1))=cfKey l x y:=by rw [cfKey,cfKey,keyAt_min,keyAt_min]
theorem quiet_grown {W w':World} (q:Quiet W w'):∃n os,w'=grow (W.drewN n) os:=by
 refine⟨w'.drawn - W.drawn,w'.heap.extract W.heap.size w'.heap.size,?_⟩
 have hh:w'.heap=W.heap++w'.heap.extract W.heap.size w'.heap.size:=by
  apply Array.ext_getElem?
  intro k
  by_cases hk:k < W.heap.size
  ·rw [Array.getElem?_append_left hk];exact q.block k hk id
  ·rw [Array.getElem?_append_right (by omega),Array.getElem?_extract]
   split
   ·congr 1;omega
   ·rw [Array.getElem?_eq_none (by omega)]
 have h1:=q.os
 have h2:=q.tape
 have h3:=q.output
 have h4:=q.drawn
 cases w'
 cases W
 simp only at h1 h2 h3 h4 hh
 subst h1 h2 h3
 simp only [grow,World.drewN,World.mk.injEq,and_true,true_and]
 exact⟨hh,by omega⟩
theorem cmp_lays {s:Sched} (hn:1≤s.starts.length) {b cap bs:Nat} {w:World} {F:List Int} (hD:DW 3 1 w w b cap F) (hF:F.length=s.starts.length) (hne:bs≠b) (hlt:bs < w.heap.size)
  {I:Nat→Prop} (hI:∀k,I k→k < w.heap.size∧k≠b) (hc:RepC I w lim bs s.av.cells 0):
  CmpLays1 Tryz.prog 155 #[.pointer (some ⟨bs,0,none⟩)] (encN s.starts.length) (cfKey s.starts) b 0 s.starts.length w:=by
 intro m os dk hdk x y
 have hW:=hD.sortW (n:=s.starts.length) (m:=m) (os:=os) (dk:=dk) (by omega)
 generalize sortWorld (encN s.starts.length) w b 0 m dk os=W at hW ⊢
 have hcell:∀k o,k < w.heap.size→k≠b→W.cell? ⟨k,o,none⟩=w.cell? ⟨k,o,none⟩:=fun k o hk hkb=>World.cell?_of_block (hW.other k hk hkb)
 have hr:RepC (fun k=>k < W.heap.size) W lim bs s.av.cells 0:=RepC.mono (fun k hk=>Nat.lt_of_lt_of_le (hI k hk).1 hW.size) (fun k o hk=>hcell k o (hI k hk).1 (hI k hk).2) bs (fun o=>hcell bs o hlt hne) _ _ hc
 have h:=int_calls (impl_StartOrder1 s (min x (s.starts.length - 1)) (min y (s.starts.length - 1)) (by omega) (by omega)) (w:=W)
  (vs:=[encN s.starts.length x,encN s.starts.length y,.pointer (some ⟨bs,0,none⟩)]) ⟨rfl,rfl,⟨bs,0,rfl,.inl (Nat.lt_of_lt_of_le hlt hW.size),hr⟩,trivial⟩
 rw [cfKey_min] at h
 refine Calls.mono (args:= #[encN s.starts.length x,encN s.starts.length y,.pointer (some ⟨bs,0,none⟩)]) h ?_
 rintro e w' ⟨rfl,hq⟩
 exact⟨rfl,quiet_grown hq⟩
theorem orderN_in (l:List Int):(orderN l l.length).map (inN l.length)=startOrder l:=by
 rw [startOrder]
 refine List.map_congr_left fun x hx=>?_
 have:=orderN_lt l l.length x hx
 rw [inN,Nat.min_eq_left (by omega)];rfl
theorem insertion_calls {s:Sched} (hn:1≤s.starts.length∧s.starts.length≤60) {b cap bs:Nat} {w:World} (hD:DW 3 1 w w b cap (upTo s.starts.length)) (hne:bs≠b) (hlt:bs < w.heap.size)
  {I:Nat→Prop} (hI:∀k,I k→k < w.heap.size∧k≠b) (hc:RepC I w lim bs s.av.cells 0):
  Calls Tryz.prog 315 #[.slice (some ⟨b,0,none⟩) s.starts.length cap,.int .i64 0,.int .i64 s.starts.length,.func (.func 155) #[] #[.pointer (some ⟨bs,0,none⟩)]] w
   fun e w'=>e= .returned (.tuple #[])∧DW 3 1 w w' b cap (startOrder s.starts):=by
 have hF:(upTo s.starts.length).length=s.starts.length:=upTo_len _
 have hH:Holds (encN s.starts.length) w b 0 (List.range s.starts.length).toArray:=by
  intro i hi
  have hi':i < s.starts.length:=by simpa using hi
  refine⟨?_,hD.frozen _⟩
  rw [Nat.zero_add,hD.cell (x:=(i:Int)) (by simp [upTo,hi']),getElem!_pos _ i hi]
  simp [encN];omega
 have hS:=Any.insertionSortCmpFunc_s Tryz.insInt (encN s.starts.length) (cfKey s.starts) 155 #[.pointer (some ⟨bs,0,none⟩)] b 0 cap 0 s.starts.length (List.range s.starts.length).toArray (List.range s.starts.length).toArray w w
  (fun _ _=>rfl) (by have:=cmp_lays hn.1 hD hF hne hlt hI hc;simpa using this) ⟨fun x=>rfl,hH,hD.lt⟩ rfl (SW.start hH) (Nat.zero_le _) (by simp) (by simp;omega)
 have hlt2:ltOf (cfKey s.starts)=ltKey s.starts:=rfl
 rw [hlt2,sort_order s.starts s.starts.length hn.1] at hS
 have e20:Tryz.insInt_ren.f 20=315:=rfl
 simp only [e20,List.size_toArray,List.length_range,Int.natCast_zero,Int.cast_ofNat_Int] at hS
 refine hS.mono ?_
 rintro e w' ⟨rfl,m,os,rfl⟩
 refine⟨rfl,?_⟩
 have:=hD.sortW (n:=s.starts.length) (m:=m) (os:=os) (dk:=(orderN s.starts s.starts.length).toArray) (by simp [orderN_len,upTo_len])
 simpa [orderN_in] using this
theorem stable_calls {A:Option Addr} {n cap g:Nat} {cb:Array Value} {w:World} {Q:World→Prop} (hn:n≤19)
  (h:Calls Tryz.prog 315 #[.slice A n cap,.int .i64 0,.int .i64 n,.func (.func g) #[] cb] w fun e w'=>e= .returned (.tuple #[])∧Q w'):
  Calls Tryz.prog 232 #[.slice A n cap,.int .i64 n,.func (.func g) #[] cb] w fun e w'=>e= .returned (.tuple #[])∧Q w':=by
 have hz:¬(20:Int)≤(n:Int):=by omega
 have hz2:¬(20:Int) < (n:Int):=by omega
 go_enter Tryz.func232,Tryz.ntmps232
 go_wp2_with fail
 refine wp_loop_rounds 1 ?_
 rw [rounds_succ]
 go_wp2_with fail
 refine h.mono ?_
 rintro e w' ⟨rfl,hq⟩
 have HQ:=Lib.hid hq
 clear hq h
 go_wp2_with fail
 refine wp_loop_rounds 1 ?_
 rw [rounds_succ]
 go_wp2_with fail
 all_goals first
  | exact bodyPost_end (results_none rfl _ _ _) rfl ⟨rfl,HQ.out⟩
  | (exfalso;omega)
theorem sortStable_calls {A:Option Addr} {n cap g:Nat} {cb:Array Value} {w:World} {Q:World→Prop} (hn:n≤19)
  (h:Calls Tryz.prog 315 #[.slice A n cap,.int .i64 0,.int .i64 n,.func (.func g) #[] cb] w fun e w'=>e= .returned (.tuple #[])∧Q w'):
  Calls Tryz.prog 154 #[.slice A n cap,.func (.func g) #[] cb] w fun e w'=>e= .returned (.tuple #[])∧Q w':=by
 have hs:=stable_calls hn h
 clear h
 go_enter Tryz.func154,Tryz.ntmps154
 go_wp2_with fail
 refine hs.mono ?_
 rintro e w' ⟨rfl,hq⟩
 have HQ:=Lib.hid hq
 clear hq hs
 go_wp2_with fail
 all_goals exact bodyPost_end (results_none rfl _ _ _) rfl ⟨rfl,HQ.out⟩
structure SoOps (code:Code) (f g:Nat):Prop where
 l:∃i1 i2 ops1 ops2 o1 o2 o3 o4 o5 c,code= .seq (.region i1 ops1 false) (.seq (.region i2 ops2 false) .ret)∧ops1.toList= [o1,o2,o3]∧ops2.toList= [o4,o5]∧
  o1.guard=none∧o2.guard=none∧o3.guard=none∧o4.guard=none∧o5.guard=none∧
  o1.op= .move (.tmp 3)∧o1.dst=some 17∧o2.op= .makeFunc (.func g) #[] #[.tmp 1]∧o2.dst=some 18∧o3.op= .call c∧c.callee= .value (.func f)∧c.args= #[.tmp 17,.tmp 18]∧o3.dst=some 19∧
  o4.op= .move (.tmp 3)∧o4.dst=some 20∧o5.op= .assign (.tmp 20)∧o5.dst=some 2
theorem so_tail {P:Program} {fn:Func} {code:Code} {f g:Nat} {R:Ending→World→Prop} {Q:World→Prop} (h:SoOps code f g) {a1:Act} {w:World} {vl p:Value} (hsz:20 < a1.tmps.size) (hdf:a1.defers= [])
  (v1:a1.tmps.getD 1 undef=p) (v3:a1.tmps.getD 3 undef=vl) (hcf:∀(vs:Array Value) (w:World),(callFunc f vs).run P w= .ok (.enter f vs) w)
  (hcall:Calls P f #[vl,.func (.func g) #[] #[p]] w fun e w'=>e= .returned (.tuple #[])∧Q w') (hres:fn.results= #[.tmp 2]) (hN:∀w',Q w'→R (.returned vl) w'):code.wp P (bodyPost P fn R) a1 w:=by
 obtain⟨i1,i2,ops1,ops2,o1,o2,o3,o4,o5,c,rfl,e1,e2,g1,g2,g3,g4,g5,p1,d1,p2,d2,p3,pc,pa,d3,p4,d4,p5,d5⟩:=h
 refine wp_seq (wp_region_list ?_)
 rw [e1]
 simp only [wpList]
 rw [if_pos (by simp [Region.wanted,g1])]
 refine .inl (wp_val (v:=vl) (w':=w) (by simp [execOp,p1,Act.eval,v3]) ?_)
 rw [d1]
 generalize ha2:a1.put (some 17) vl=a2
 have s2:a2.tmps.size=a1.tmps.size:=by rw [← ha2,put_size]
 have f2:a2.defers= []:=by rw [← ha2,put_defers,hdf]
 have u17:a2.tmps.getD 17 undef=vl:=by rw [← ha2,put_get,if_pos ⟨rfl,by omega⟩]
 have u1:a2.tmps.getD 1 undef=p:=by rw [← ha2,put_get,if_neg (fun e=>absurd e.1 (by decide)),v1]
 have u3:a2.tmps.getD 3 undef=vl:=by rw [← ha2,put_get,if_neg (fun e=>absurd e.1 (by decide)),v3]
 rw [if_pos (by simp [Region.wanted,g2])]
 refine .inl (wp_val (v:=.func (.func g) #[] #[p]) (w':=w) (by simp [execOp,p2,Instr.makeFunc,Act.eval,u1]) ?_)
 rw [d2]
 generalize ha3:a2.put (some 18) (.func (.func g) #[] #[p])=a3
 have s3:a3.tmps.size=a1.tmps.size:=by rw [← ha3,put_size,s2]
 have f3:a3.defers= []:=by rw [← ha3,put_defers,f2]
 have x17:a3.tmps.getD 17 undef=vl:=by rw [← ha3,put_get,if_neg (fun e=>absurd e.1 (by decide)),u17]
 have x18:a3.tmps.getD 18 undef= .func (.func g) #[] #[p]:=by rw [← ha3,put_get,if_pos ⟨rfl,by omega⟩]
 have x3:a3.tmps.getD 3 undef=vl:=by rw [← ha3,put_get,if_neg (fun e=>absurd e.1 (by decide)),u3]
 rw [if_pos (by simp [Region.wanted,g3])]
 refine .inl ?_
 unfold Oper.wp
 have hrun:(execOp a3.eval o3).run P w= .ok (.enter f #[vl,.func (.func g) #[] #[p]]) w:=by
  have:(execOp a3.eval o3).run P w=(callFunc f #[vl,.func (.func g) #[] #[p]]).run P w:=by
   have hm:c.args.map a3.eval= #[vl,.func (.func g) #[] #[p]]:=by
    rw [pa,show (#[Operand.tmp 17,.tmp 18]).map a3.eval= #[a3.tmps.getD 17 undef,a3.tmps.getD 18 undef] from by simp [Act.eval],x17,x18]
   rw [← hm]
   simp only [execOp,p3]
   simp [resolve,pc,Deferred.ofValue,Act.eval,invoke]
  rw [this,hcf]
 rw [hrun]
 simp only [Oper.upon]
 refine hcall.mono ?_
 rintro e w' ⟨rfl,hQ⟩
 simp only
 rw [d3]
 generalize ha4:a3.put (some 19) (.tuple #[])=a4
 have s4:a4.tmps.size=a1.tmps.size:=by rw [← ha4,put_size,s3]
 have f4:a4.defers= []:=by rw [← ha4,put_defers,f3]
 have y3:a4.tmps.getD 3 undef=vl:=by rw [← ha4,put_get,if_neg (fun e=>absurd e.1 (by decide)),x3]
 simp only [Exit.then]
 refine wp_seq (wp_region_list ?_)
 rw [e2]
 simp only [wpList]
 rw [if_pos (by simp [Region.wanted,g4])]
 refine .inl (wp_val (v:=vl) (w':=w') (by simp [execOp,p4,Act.eval,y3]) ?_)
 rw [d4]
 generalize ha5:a4.put (some 20) vl=a5
 have s5:a5.tmps.size=a1.tmps.size:=by rw [← ha5,put_size,s4]
 have f5:a5.defers= []:=by rw [← ha5,put_defers,f4]
 have z20:a5.tmps.getD 20 undef=vl:=by rw [← ha5,put_get,if_pos ⟨rfl,by omega⟩]
 rw [if_pos (by simp [Region.wanted,g5])]
 refine .inl (wp_val (v:=vl) (w':=w') (by simp [execOp,p5,Act.eval,z20]) ?_)
 rw [d5]
 generalize ha6:a5.put (some 2) vl=a6
 have f6:a6.defers= []:=by rw [← ha6,put_defers,f5]
 have z2:a6.tmps.getD 2 undef=vl:=by rw [← ha6,put_get,if_pos ⟨rfl,by omega⟩]
 simp only [Exit.then]
 have hr:(results fn a6.tmps).run P w'= .ok vl w':=by rw [← z2];exact results_tmp hres _ _ _
 exact wp_ret (bodyPost_ret hr f6 (hN w' hQ))
section
variable {P:Program} {T:Nat→Ty} {L:Nat} {w0:World} {I0:Bs}
theorem phase_free (hT:TabOk P T) (hL1:1000≤L) (hL2:L≤2 ^ 38) (hm:P.follows .mixedOrders=true):∀(n:Nat) (code:Code) (Qa:AX→St→Prop) (Q:Exit→Act→World→Prop) (s:St) (a:Act) (w:World) (c:Cx),plainCode (headC n code)=true→Gam T L w0 I0 s a w c→awp T (CallK P T L) L (headC n code) Qa s→
  (∀s' a' w' c',Gam T L w0 I0 s' a' w' c'→Qa .normal s'→(tailC n code).wp P Q a' w')→(∀e s' a' w' c',e≠.normal→Gam T L w0 I0 s' a' w' c'→Qa e s'→Q e.ex a' w')→code.wp P Q a w
 | 0,code,Qa,Q,s,a,w,c,_,h,hw,hN,_=>hN _ _ _ _ h hw
 | n+1,.seq x y,Qa,Q,s,a,w,c,hp,h,hw,hN,hE=>by
  simp only [headC,plainCode,Bool.and_eq_true] at hp
  refine wp_seq (awp_sound hT hL1 hL2 hm x _ _ s a w c hp.1 h hw ?_)
  intro e s' a' w' c' h' hq
  cases e with
  | normal=>exact phase_free hT hL1 hL2 hm n y Qa Q s' a' w' c' hp.2 h' hq hN hE
  | ret=>exact hE .ret _ _ _ _ nofun h' hq
  | exit id=>exact hE (.exit id) _ _ _ _ nofun h' hq
 | _+1,.skip,_,_,_,_,_,_,_,_,hw,_,_=>hw.elim
 | _+1,.region _ _ _,_,_,_,_,_,_,_,_,hw,_,_=>hw.elim
 | _+1,.cond _ _ _,_,_,_,_,_,_,_,_,hw,_,_=>hw.elim
 | _+1,.block _ _,_,_,_,_,_,_,_,_,hw,_,_=>hw.elim
 | _+1,.loop _,_,_,_,_,_,_,_,_,hw,_,_=>hw.elim
 | _+1,.rangeFunc _ _ _ _,_,_,_,_,_,_,_,_,hw,_,_=>hw.elim
 | _+1,.exit _,_,_,_,_,_,_,_,_,hw,_,_=>hw.elim
 | _+1,.scope _,_,_,_,_,_,_,_,_,hw,_,_=>hw.elim
 | _+1,.label _,_,_,_,_,_,_,_,_,hw,_,_=>hw.elim
 | _+1,.goto _,_,_,_,_,_,_,_,_,hw,_,_=>hw.elim
 | _+1,.ret,_,_,_,_,_,_,_,_,hw,_,_=>hw.elim
 | _+1,.refuse _,_,_,_,_,_,_,_,_,hw,_,_=>hw.elim
end
def SoQ (nt:Nat) (s:Sched) (e:AX) (st:St):Prop:=
 match e with
 | .normal=>st.n=nt∧Weak tab st ⟨[(1,.box 1 0 0),(3,.own 900001 0)],[(1,s.av.cells.map SV.data)],[(900001,3,(upTo s.starts.length).map i64,1)]⟩
 | _=>False
theorem impl_StartOrder_own (s:Sched) (hn:1≤s.starts.length∧s.starts.length≤19):Con 86 [.d s.av] (.own 3 ((startOrder s.starts).map i64)):=by
 refine⟨Tryz.call86,fun I J O mt w vs hI hJ hO hz hd ha=>?_⟩
 obtain⟨v0,rfl,h0⟩:∃v0,vs= [v0]∧RepV I w lim s.av v0:=by
  match vs,ha with
  | [v0],ha=>exact⟨v0,rfl,ha.1⟩
  | [],ha=>exact ha.elim
  | _::_::_,ha=>exact ha.2.elim
 refine calls_of_wp (fn:=Tryz.f86) (c:=Tryz.f86.body.getD .skip) Tryz.func86 rfl ?_
 have hnt:Tryz.f86.ntmps=21:=by kernel_rfl
 rw [hnt]
 generalize ha0:({ tmps:=[v0].toArray++Array.replicate (21 - [v0].toArray.size) undef,defers:=[] }:Act)=a0
 have ha0s:a0.tmps.size=21:=by rw [← ha0];simp
 have ha0d:a0.defers= []:=by rw [← ha0]
 have hs0:RepF tab I J O mt w lim a0 (entrySlots 0 [.d s.av]):=by
  refine⟨?_,trivial⟩
  simp only [RepS,cx0]
  have:a0.tmps.getD 0 undef=v0:=by rw [← ha0,Array.getD_eq_getD_getElem?,Array.getElem?_append_left (by simp)];simp
  rw [this];exact h0
 have G0:=Gam.begin (T:=tab) (L:=lim) ha0s ha0d hI hJ hO hz hd hs0
 have hw:awpR tab (CallK Tryz.prog tab lim) lim (headC 3 (Tryz.f86.body.getD .skip)) (SoQ 21 s) ((Fr.mk (entrySlots 0 [.d s.av]) [] []).st 21):=by
  (repeat' ((conv=>whnf);first | refine gA ?_ | ((with_reducible first | refine gD (fun h=>?_) (fun h=>?_) | refine gE (fun h=>?_) (fun h=>?_)) <;> (try simp only [lm] at h) <;> try have hw:=wn h) | refine gP ?_ | refine gV ?_ | intro _)) <;> (try (conv=>whnf))
  refine loopF [1,8] [1] [5] ?_
  (conv=>whnf)
  refine LoopC.go ((Nat)) (fun k=>(k≤s.starts.length)) (fun k=>[(9,.data (i64 k)),(3,.own 5 0)]) (fun _=>[]) (fun k=>[(5,3,(upTo k).map i64,1)]) (fun k=>s.starts.length - k) (0) ?_ ?_
  ·exact Nat.zero_le _
  rintro k hk
  by_cases hlt:k < s.starts.length
  ·(repeat' ((conv=>whnf);first | (exfalso;omega) | refine gA ?_ | ((with_reducible first | refine gD (fun h=>?_) (fun h=>?_) | refine gE (fun h=>?_) (fun h=>?_)) <;> (try simp only [lm] at h) <;> try have hw:=wn h) | refine gP ?_ | refine gV ?_ | intro _)) <;> (try (conv=>whnf))
   refine nw (k+1) ?_ ?_
   ·(repeat' ((conv=>whnf) <;> (first | exact trivial | exact rfl | with_reducible refine And.intro ?_ ?_))) <;> ((conv=>whnf) <;> (exact upTo_map k))
   exact (by omega:k+1≤s.starts.length)
  ·obtain rfl:k=s.starts.length:=by omega
   (repeat' ((conv=>whnf);first | (exfalso;omega) | refine gA ?_ | ((with_reducible first | refine gD (fun h=>?_) (fun h=>?_) | refine gE (fun h=>?_) (fun h=>?_)) <;> (try simp only [lm] at h) <;> try have hw:=wn h) | refine gP ?_ | refine gV ?_ | intro _)) <;> (try (conv=>whnf))
   (refine And.intro rfl ?_ <;> (repeat' ((conv=>whnf) <;> (first | exact trivial | exact rfl | with_reducible refine And.intro ?_ ?_))))
 rw [awpR_eq] at hw
 refine phase_free (L:=lim) tabOk (by decide) (by decide) mixed 3 _ (SoQ 21 s) _ _ a0 w _ (by kernel_rfl) G0 hw ?_ (fun e s' a' w' c' he _ hq=>by cases e <;> first | exact absurd rfl he | exact hq.elim)
 rintro s' a1 w1 c1 h1 ⟨hst,hwk⟩
 obtain⟨c2,g⟩:=weak_sound h1 hwk
 rw [hst] at g
 clear hwk h1 hw G0
 have hsz:a1.tmps.size=21:=g.size
 have hdf:=g.defers
 obtain⟨bs,cs,E,k1,k2,k3,k4,k5⟩:=g.mems 1 0 (s.av.cells.map SV.data) rfl
 obtain⟨bs',hb1,hb2,hb3,hb4,hb5⟩:=g.box_of (d:=1) (l:=s.av.cells) rfl rfl
 have hsl1:=g.slots 1
 rw [show ((Fr.mk [(1,SV.box 1 0 0),(3,SV.own 900001 0)] [(1,s.av.cells.map SV.data)] [(900001,3,(upTo s.starts.length).map i64,1)]).st 21).get 1= .box 1 0 0 from rfl] at hsl1
 simp only [RepS] at hsl1
 obtain⟨_,_,m1,_,m3⟩:=hsl1
 cases m1
 obtain⟨b',n1,n2⟩:=m3 rfl
 rw [k1] at n1;cases n1
 obtain rfl:bs=bs':=by rw [hb1] at n2;simpa using n2.symm
 have hsl3:=g.slots 3
 rw [show ((Fr.mk [(1,SV.box 1 0 0),(3,SV.own 900001 0)] [(1,s.av.cells.map SV.data)] [(900001,3,(upTo s.starts.length).map i64,1)]).st 21).get 3= .own 900001 0 from rfl] at hsl3
 simp only [RepS] at hsl3
 obtain⟨t,p1,_,p3⟩:=hsl3
 cases p1
 obtain⟨u,r1,_,r3⟩:=g.toks 900001 _ rfl
 rw [p3 rfl] at r1
 obtain rfl:=Option.some.inj r1
 obtain⟨q1,q2,xs,q3,q4,q5,_,_⟩:=r3 rfl
 dsimp only at q1 q3 q4 q5
 generalize hvl:a1.tmps.getD 3 undef=vl at*
 obtain rfl:=rowIs_ints.1 q4
 rw [List.length_map,upTo_len] at q3
 rcases q3.2 with⟨_,h0'⟩ | ⟨b,cap,cur,hv,hbb,_⟩
 ·omega
 subst hv
 have q3':w1.ownsRow w.heap.size 3 1 (.slice (some ⟨b,0,none⟩) s.starts.length cap) s.starts.length ((upTo s.starts.length).map (Value.int .i64)):=q3
 obtain⟨hD,hnc,hcm,hfl,hbs⟩:=dw_start q3'
 have hwho:=q5 b rfl
 have hne:bs≠b:=fun e=>by rw [e,hwho] at k2;cases k2
 have hII:∀k,c2.I k→k < w1.heap.size∧k≠b:=fun k hk=>⟨g.ilt k hk,fun e=>by have:=g.iwho k hk;rw [e,hwho] at this;cases this⟩
 have hcall:=sortStable_calls hn.2 (insertion_calls ⟨hn.1,by omega⟩ hD hne hb3 hII hb5)
 have hT1:Turn (fun b=>O b∧mt=true) w w1:=by
  have h:=g.below
  rw [show c2.M=(fun b=>O b∧mt=true) from g.om] at h
  exact h
 refine so_tail (f:=154) (g:=155) (Q:=fun w'=>DW 3 1 w1 w' b cap (startOrder s.starts))
  ⟨_,_,_,_,_,_,_,_,_,_,rfl,rfl,rfl,rfl,rfl,rfl,rfl,rfl,rfl,rfl,rfl,rfl,rfl,rfl,rfl,rfl,rfl,rfl,rfl,rfl⟩ (by omega) hdf hb1 hvl Tryz.call154 hcall rfl fun w' hD'=>?_
 have hlen:(startOrder s.starts).length=s.starts.length:=by rw [startOrder,List.length_map,orderN_len]
 have hlim:s.starts.length≤lim:=by unfold lim;omega
 refine⟨_,rfl,hT1.keep (fun k hk=>hO k hk.1) ⟨hD'.os,hD'.tape,hD'.output,hD'.size,fun k hk=>hD'.other k (Nat.lt_of_lt_of_le hk hT1.size) (by omega)⟩ hD'.drawn,I,[b],fun k hk=>hk,fun k hk=>.inl hk,by simp,?_,rfl,by rw [List.length_map,hlen];exact hlim,rfl,fits_ints,(startOrder s.starts).map (Value.int .i64),?_,rowIs_ints.2 rfl⟩
 ·intro k hk
  obtain rfl:=List.mem_singleton.1 hk
  exact⟨fun hi=>by have:=hI _ hi;omega,hbs,hD'.ltW⟩
 ·rw [List.length_map]
  have ho:=hD'.owns (n:=s.starts.length) (base:=w.heap.size) (by rw [hlen,Nat.mul_one]) hbs hnc hcm
  rw [hlen]
  exact ho
theorem impl_StartOrder_lin (s:Sched) (hn:1≤s.starts.length∧s.starts.length≤19):Con 86 [.d s.av] (.lin 3 ((startOrder s.starts).map i64)):=(impl_StartOrder_own s hn).own_lin rfl
end Go.Proofs.YtkiohdpapinecaaGreat.Abs
set_option linter.unusedVariables false
set_option linter.unusedSimpArgs false
set_option maxRecDepth 20000
set_option maxHeartbeats 8000000
namespace Go.Proofs.YtkiohdpapinecaaGreat.Abs
open Go.Proofs Go.RowKit
def swapped (o:List Int) (j:Nat):List Int:=(o.set j (o.getD (j+1) 0)).set (j+1) (o.getD j 0)
def tryLow (p:Proj) (s:Sched) (l:List Int) (low:Bool):Option Sched:=match serial p l low with | none=>none | some x=>if makespan p x < makespan p s then some x else none
def trySwap (p:Proj) (s:Sched) (l:List Int):Option Sched:=match tryLow p s l false with | some x=>some x | none=>tryLow p s l true
def swapFrom (p:Proj) (s:Sched) (o:List Int):Nat→Nat→Option Sched
 | 0,_=>none
 | n+1,j=>match trySwap p s (swapped o j) with | some x=>some x | none=>swapFrom p s o n (j+1)
def swapImprove (p:Proj) (s:Sched):Option Sched:=if schedOk p s=true then swapFrom p s (startOrder s.starts) (s.starts.length - 1) 0 else none
theorem tryLow_none {p:Proj} {s:Sched} {l:List Int} {low:Bool} (h:serial p l low=none):tryLow p s l low=none:=by rw [tryLow,h]
theorem tryLow_some {p:Proj} {s:Sched} {l:List Int} {low:Bool} {x:Sched} (h:serial p l low=some x):tryLow p s l low=if makespan p x < makespan p s then some x else none:=by rw [tryLow,h]
theorem trySwap_eq (p:Proj) (s:Sched) (l:List Int):trySwap p s l=(match tryLow p s l false with | some x=>some x | none=>tryLow p s l true):=rfl
theorem swapFrom_zero (p:Proj) (s:Sched) (o:List Int) (j:Nat):swapFrom p s o 0 j=none:=rfl
theorem swapFrom_succ (p:Proj) (s:Sched) (o:List Int) (n j:Nat):swapFrom p s o (n+1) j=(match trySwap p s (swapped o j) with | some x=>some x | none=>swapFrom p s o n (j+1)):=rfl
theorem startOrder_len (l:List Int):(startOrder l).length=l.length:=by rw [startOrder,List.length_map,orderN_len]
theorem schedOk_parts {p:Proj} {s:Sched} (h:schedOk p s=true):schedForm p s=true∧projOk p=true∧1≤s.starts.length∧s.starts.length≤6∧s.starts.length=p.acts.length∧s.modes.length=p.acts.length:=by
 rw [schedOk,Bool.and_eq_true] at h
 have h1:=schedForm_parts h.1
 have h2:=proj_small h1.1
 exact⟨h.1,h1.1,by omega,by omega,h1.2.1,h1.2.2.1⟩
theorem Idx.raw {l:List AV} {i:Int} {k:Nat} {x:AV} {K:Nat→AV→Prop} (hx:l[k]? =some x) (h:i=k) (hk:K k x):Idx l i K:=by
 have:=Idx.got (l:=l) (f:=id) (K:=K) hx h hk
 rwa [List.map_id] at this
def tryFrom (p:Proj) (s:Sched) (l:List Int):Nat→Option Sched
 | 0=>trySwap p s l
 | 1=>tryLow p s l true
 | _=>none
theorem tryFrom_zero (p:Proj) (s:Sched) (l:List Int):tryFrom p s l 0=trySwap p s l:=rfl
theorem tryFrom_two (p:Proj) (s:Sched) (l:List Int):tryFrom p s l 2=none:=rfl
def lowAt (k:Nat):Bool:=match k with | 0=>false | _=>true
def orNext (a b:Option Sched):Option Sched:=match a with | some x=>some x | none=>b
theorem try_step (p:Proj) (s:Sched) (l:List Int) (k:Nat) (hk:k < 2):tryFrom p s l k=orNext (tryLow p s l (lowAt k)) (tryFrom p s l (k+1)):=by
 rcases k with _ | _ | k
 ·rfl
 ·show tryLow p s l true=orNext (tryLow p s l true) none
  unfold orNext;split <;> simp_all
 ·omega
attribute [local irreducible] serial makespan schedOk startOrder
theorem impl_SwapImprove (p:Proj) (s:Sched) (hp:p.fine):Con 30 [.d p.av,.d s.av] (RSchL (swapImprove p s)):=by
 refine con Tryz.func30 rfl rfl Tryz.call30 rfl fun hwf=>?_
 have hP:=impl_ScheduleOk p s hp
 generalize hR:swapImprove p s=R
 cases ho:schedOk p s with
 | false=>
  rw [swapImprove,if_neg (by simp [ho])] at hR
  subst hR
  rw [ho] at hP
  rw [RSchL_none]
  (repeat' ((conv=>whnf);first | refine gA ?_ | ((with_reducible first | refine gD (fun h=>?_) (fun h=>?_) | refine gE (fun h=>?_) (fun h=>?_)) <;> (try simp only [lm] at h) <;> try have hw:=wn h) | with_reducible refine gI (fun x hx=>?_) | with_reducible refine gJ (fun j x hj hx=>?_) | refine gV ?_ | refine gC (hP) ?_ | intro _)) <;> (try (conv=>whnf))
  (repeat' ((conv=>whnf) <;> (first | exact trivial | exact VC.nod (by kernel_rfl) | refine VC.mk rfl ?_)))
 | true=>
 rw [swapImprove,if_pos ho] at hR
 rw [ho] at hP
 obtain⟨hf,hok,hn1,hn6,hn,hm⟩:=schedOk_parts ho
 have hSO:=impl_StartOrder_lin s ⟨hn1,by omega⟩
 have hol:=startOrder_len s.starts
 have hb:=makespan_bound p s
 have hM:=impl_Makespan p s hp
 generalize startOrder s.starts=O at hSO hol hR
 (repeat' ((conv=>whnf);first | refine gA ?_ | ((with_reducible first | refine gD (fun h=>?_) (fun h=>?_) | refine gE (fun h=>?_) (fun h=>?_)) <;> (try simp only [lm] at h) <;> try have hw:=wn h) | with_reducible refine gI (fun x hx=>?_) | with_reducible refine gJ (fun j x hj hx=>?_) | refine gV ?_ | refine gC (hP) ?_ | intro _)) <;> (try (conv=>whnf))
 refine loopF [2,3,4] [2,3,4] [] ?_
 (conv=>whnf)
 refine LoopC.go ((Nat)) (fun j=>(j+1≤s.starts.length)∧(swapFrom p s O (s.starts.length - 1 - j) j=R)) (fun j=>[(6,.data (i64 ((j+1:Nat):Int)))]) (fun _=>[]) (fun _=>[]) (fun j=>s.starts.length - 1 - j) (0) ?_ ?_
 ·exact⟨by omega,hR⟩
 rintro j ⟨hj,he⟩
 by_cases hlt:j+1 < s.starts.length
 rotate_left
 ·rw [show s.starts.length - 1 - j=0 by omega,swapFrom_zero] at he
  subst he
  rw [RSchL_none]
  (repeat' ((conv=>whnf);first | (exfalso;omega) | refine gA ?_ | ((with_reducible first | refine gD (fun h=>?_) (fun h=>?_) | refine gE (fun h=>?_) (fun h=>?_)) <;> (try simp only [lm] at h) <;> try have hw:=wn h) | with_reducible refine gI (fun x hx=>?_) | with_reducible refine gJ (fun j x hj hx=>?_) | refine gV ?_ | intro _)) <;> (try (conv=>whnf))
  (repeat' ((conv=>whnf) <;> (first | exact trivial | exact VC.nod (by kernel_rfl) | refine VC.mk rfl ?_)))
 rw [show s.starts.length - 1 - j=(s.starts.length - 1 - (j+1))+1 by omega,swapFrom_succ] at he
 obtain⟨x,hx⟩:∃x,O[j]? =some x:=⟨O[j]'(by omega),by simp⟩
 obtain⟨y,hy⟩:∃x,O[j+1]? =some x:=⟨O[j+1]'(by omega),by simp⟩
 have ej:(((j+1:Nat):Int) - 1)=(j:Nat):=by omega
 have hsw:(swapped O j).map i64=((O.map i64).set j (setPart (i64 x) 0 (i64 y))).set (j+1) (setPart (i64 y) 0 (i64 x)):=by
  simp [swapped,List.map_set,setPart,List.getD_eq_getElem?_getD,hx,hy]
 have hsl:((O.map i64).set j (setPart (i64 x) 0 (i64 y)))[j+1]? =some (i64 y):=by
  rw [List.getElem?_set_ne (by omega),List.getElem?_map,hy];rfl
 generalize hL:swapped O j=L at he hsw
 (repeat' ((conv=>whnf);first | (exfalso;omega) | with_reducible refine Idx.got hx ej ?_ | with_reducible refine Idx.got hx rfl ?_ | with_reducible refine Idx.got hy rfl ?_ | with_reducible refine Idx.raw hsl rfl ?_ | refine gA ?_ | ((with_reducible first | refine gD (fun h=>?_) (fun h=>?_) | refine gE (fun h=>?_) (fun h=>?_)) <;> (try simp only [lm] at h) <;> try have hw:=wn h) | with_reducible refine gI (fun x hx=>?_) | with_reducible refine gJ (fun j x hj hx=>?_) | refine gV ?_ | refine gC (hSO) ?_ | intro _)) <;> (try (conv=>whnf))
 refine loopF [2,3,4,6,7,42,43] [2,3,4] [26000] ?_
 (conv=>whnf)
 refine LoopC.mk ((Nat)) (fun k=>(k≤2)∧(orNext (tryFrom p s L k) (swapFrom p s O (s.starts.length - 1 - (j+1)) (j+1))=R)) (fun k=>[(44,.data (i64 k))]) (fun _=>[]) (fun k=>[(26000,3,L.map i64,2)]) (fun k=>2 - k) (0) ?_ ?_ ?_
 rotate_left
 ·(repeat' ((conv=>whnf) <;> (first | exact trivial | exact rfl | with_reducible refine And.intro ?_ ?_))) <;> ((conv=>whnf) <;> (exact hsw.symm))
 rotate_left
 ·exact⟨by omega,by rw [tryFrom_zero];exact he⟩
 rintro k ⟨hk,hz⟩
 by_cases hk2:k < 2
 rotate_left
 ·obtain rfl:k=2:=by omega
  rw [tryFrom_two] at hz
  (repeat' ((conv=>whnf);first | (exfalso;first | omega | (simp only [List.length_cons,List.length_nil] at h;omega)) | refine gA ?_ | ((with_reducible first | refine gD (fun h=>?_) (fun h=>?_) | refine gE (fun h=>?_) (fun h=>?_)) <;> (try simp only [lm] at h) <;> try have hw:=wn h) | with_reducible refine gI (fun x hx=>?_) | with_reducible refine gJ (fun j x hj hx=>?_) | refine gV ?_ | intro _)) <;> (try (conv=>whnf))
  refine nx (j+1) ?_
  exact⟨by omega,hz⟩
 rw [try_step p s L k hk2] at hz
 have hS:=impl_SerialSchedule p L (lowAt k) hp
 have hI: [AV.bool false,AV.bool true][k]? =some (.bool (lowAt k)):=by
  rcases k with _ | _ | k
  ·rfl
  ·rfl
  ·omega
 cases hser:serial p L (lowAt k) with
 | none=>
  rw [tryLow_none hser] at hz
  have hz:orNext (tryFrom p s L (k+1)) (swapFrom p s O (s.starts.length - 1 - (j+1)) (j+1))=R:=hz
  rw [hser,RSchL_none] at hS
  (repeat' ((conv=>whnf);first | (exfalso;first | omega | (simp only [List.length_cons,List.length_nil] at h;omega)) | refine Idx.raw hI rfl ?_ | refine gA ?_ | ((with_reducible first | refine gD (fun h=>?_) (fun h=>?_) | refine gE (fun h=>?_) (fun h=>?_)) <;> (try simp only [lm] at h) <;> try have hw:=wn h) | with_reducible refine gI (fun x hx=>?_) | with_reducible refine gJ (fun j x hj hx=>?_) | refine gV ?_ | refine gC (hS) ?_ | intro _)) <;> (try (conv=>whnf))
  all_goals first
   | (exfalso;exact absurd trivial (by assumption))
   | (refine nx (k+1) ?_
      exact⟨by omega,hz⟩)
 | some z=>
  rw [hser,RSchL_some] at hS
  have hMz:=impl_Makespan p z hp
  rw [tryLow_some hser] at hz
  by_cases hc:makespan p z < makespan p s
  ·rw [if_pos hc] at hz
   have hz:some z=R:=hz
   subst hz
   rw [RSchL_some]
   (repeat' ((conv=>whnf);first | (exfalso;first | omega | (simp only [List.length_cons,List.length_nil] at h;omega)) | refine Idx.raw hI rfl ?_ | refine gA ?_ | ((with_reducible first | refine gD (fun h=>?_) (fun h=>?_) | refine gE (fun h=>?_) (fun h=>?_)) <;> (try simp only [lm] at h) <;> try have hw:=wn h) | with_reducible refine gI (fun x hx=>?_) | with_reducible refine gJ (fun j x hj hx=>?_) | refine gV ?_ | refine gC (hS) ?_ | refine gC (hMz) ?_ | refine gC (hM) ?_ | intro _)) <;> (try (conv=>whnf))
   all_goals first
    | (exfalso;omega)
    | (repeat' ((conv=>whnf) <;> (first | exact trivial | exact VC.nod (by kernel_rfl) | refine VC.mk rfl ?_)))
  ·rw [if_neg hc] at hz
   have hz:orNext (tryFrom p s L (k+1)) (swapFrom p s O (s.starts.length - 1 - (j+1)) (j+1))=R:=hz
   (repeat' ((conv=>whnf);first | (exfalso;first | omega | (simp only [List.length_cons,List.length_nil] at h;omega)) | refine Idx.raw hI rfl ?_ | refine gA ?_ | ((with_reducible first | refine gD (fun h=>?_) (fun h=>?_) | refine gE (fun h=>?_) (fun h=>?_)) <;> (try simp only [lm] at h) <;> try have hw:=wn h) | with_reducible refine gI (fun x hx=>?_) | with_reducible refine gJ (fun j x hj hx=>?_) | refine gV ?_ | refine gC (hS) ?_ | refine gC (hMz) ?_ | refine gC (hM) ?_ | intro _)) <;> (try (conv=>whnf))
   all_goals first
    | (exfalso;omega)
    | (refine nx (k+1) ?_
       exact⟨by omega,hz⟩)
end Go.Proofs.YtkiohdpapinecaaGreat.Abs
set_option linter.unusedVariables false
set_option linter.unusedSimpArgs false
set_option maxRecDepth 20000
set_option maxHeartbeats 8000000
namespace Go.Proofs.YtkiohdpapinecaaGreat.Abs
open Go.Proofs Go.RowKit
theorem serial_ok {p:Proj} {order:List Int} {low:Bool} {s:Sched} (h:serial p order low=some s):schedOk p s=true:=by
 have hf:∀{x:Pln},finishedS p x=some s→schedOk p s=true:=fun {x} h=>by
  unfold finishedS at h
  split at h
  ·rename_i hh;cases h;exact hh.2
  ·cases h
 have he:∀(n:Nat) (x:Pln),serialEnd p order low n x=some s→schedOk p s=true:=by
  intro n
  induction n with
  | zero=>intro x h;exact hf h
  | succ n ih=>
   intro x h
   rw [serialEnd_succ] at h
   cases hs:serialStep p order low x with
   | none=>rw [hs] at h;cases h
   | some y=>rw [hs] at h;exact ih y h
 unfold serial at h
 split at h
 ·exact he _ _ h
 ·cases h
theorem tryLow_ok {p:Proj} {s x:Sched} {l:List Int} {low:Bool} (h:tryLow p s l low=some x):schedOk p x=true:=by
 unfold tryLow at h
 split at h
 ·cases h
 ·rename_i y hy
  split at h
  ·cases h;exact serial_ok hy
  ·cases h
theorem swapFrom_ok {p:Proj} {s x:Sched} {o:List Int}:∀{n j:Nat},swapFrom p s o n j=some x→schedOk p x=true
 | 0,_,h=>by cases h
 | n+1,j,h=>by
  rw [swapFrom_succ] at h
  cases ht:trySwap p s (swapped o j) with
  | some y=>
   rw [ht] at h
   cases h
   rw [trySwap_eq] at ht
   cases h1:tryLow p s (swapped o j) false with
   | some z=>rw [h1] at ht;cases ht;exact tryLow_ok h1
   | none=>rw [h1] at ht;exact tryLow_ok ht
  | none=>rw [ht] at h;exact swapFrom_ok h
theorem swapImprove_ok {p:Proj} {s x:Sched} (h:swapImprove p s=some x):schedOk p x=true:=by
 unfold swapImprove at h
 split at h
 ·exact swapFrom_ok h
 ·cases h
def earlyFrom (p:Proj) (o:Sched) (a:Nat):Nat→Nat→Sched
 | 0,_=>o
 | n+1,t=>if schedOk p ⟨o.starts.set a t,o.modes⟩=true then⟨o.starts.set a t,o.modes⟩ else earlyFrom p o a n (t+1)
theorem earlyFrom_zero (p:Proj) (o:Sched) (a t:Nat):earlyFrom p o a 0 t=o:=rfl
theorem earlyFrom_succ (p:Proj) (o:Sched) (a n t:Nat):earlyFrom p o a (n+1) t=if schedOk p ⟨o.starts.set a t,o.modes⟩=true then⟨o.starts.set a t,o.modes⟩ else earlyFrom p o a n (t+1):=rfl
def early (p:Proj) (s o:Sched) (a:Nat):Sched:=earlyFrom p o a (s.starts.getD a 0).toNat 0
def shifted (p:Proj) (s:Sched):Sched:=(orderN s.starts s.starts.length).foldl (early p s) s
theorem earlyFrom_keeps {p:Proj} {o:Sched} {a:Nat}:∀{n t:Nat},(schedOk p o=true→schedOk p (earlyFrom p o a n t)=true)∧(earlyFrom p o a n t).starts.length=o.starts.length∧∀i,i≠a→(earlyFrom p o a n t).starts[i]? =o.starts[i]?
 | 0,_=>⟨fun h=>h,rfl,fun _ _=>rfl⟩
 | n+1,t=>by
  rw [earlyFrom_succ]
  split
  ·rename_i h
   exact⟨fun _=>h,by simp,fun i hi=>by rw [List.getElem?_set_ne (Ne.symm hi)]⟩
  ·exact earlyFrom_keeps
theorem insKey_nodup {f:Nat→Int} {out:List Nat} {a:Nat} (h:out.Nodup) (ha:a∉out):(insKey f out a).Nodup:=by
 rw [insKey]
 have h1:=List.take_append_drop (insAt f out a out.length) out
 generalize out.take (insAt f out a out.length)=u at h1 ⊢
 generalize out.drop (insAt f out a out.length)=v at h1 ⊢
 subst h1
 rw [List.nodup_append] at h ⊢
 simp only [List.mem_append,not_or] at ha
 refine⟨h.1,List.nodup_cons.2 ⟨ha.2,h.2.1⟩,fun x hx y hy e=>?_⟩
 subst e
 rcases List.mem_cons.1 hy with rfl | hy
 ·exact ha.1 hx
 ·exact h.2.2 x hx x hy rfl
theorem orderN_nodup (l:List Int):∀k,(orderN l k).Nodup
 | 0=>by simp [orderN]
 | k+1=>by
  rw [orderN_succ]
  exact insKey_nodup (orderN_nodup l k) fun h=>by have:=orderN_lt l k k h;omega
theorem shifted_ok {p:Proj} {s:Sched} (h:schedOk p s=true):schedOk p (shifted p s)=true:=by
 have:∀(l:List Nat) (o:Sched),schedOk p o=true→schedOk p (l.foldl (early p s) o)=true:=by
  intro l
  induction l with
  | nil=>intro o ho;exact ho
  | cons a l ih=>intro o ho;rw [List.foldl_cons];exact ih _ (earlyFrom_keeps.1 ho)
 exact this _ _ h
def RSchW (s:Sched):RV:=.agg [.lin 3 (s.starts.map i64),.lin 3 (s.modes.map i64)]
theorem impl_copiedSch (s:Sched):Con 85 [.d s.av] (RSchW s):=by
 refine con Tryz.func85 rfl rfl Tryz.call85 rfl fun hwf=>?_
 (repeat' ((conv=>whnf);first | refine gA ?_ | ((with_reducible first | refine gD (fun h=>?_) (fun h=>?_) | refine gE (fun h=>?_) (fun h=>?_)) <;> (try simp only [lm] at h) <;> try have hw:=wn h) | refine gC (plnInt_lin _) ?_ | intro _)) <;> (try (conv=>whnf))
 (repeat' ((conv=>whnf) <;> (first | exact trivial | exact VC.nod (by kernel_rfl) | refine VC.mk rfl ?_)))
def shiftE (p:Proj) (s:Sched):Option Sched:=if schedOk p s=true then some (shifted p s) else none
attribute [local irreducible] schedOk makespan serial startOrder orderN
theorem impl_ShiftEarlier (p:Proj) (s:Sched) (hp:p.fine):Con 91 [.d p.av,.d s.av] (RSchL (shiftE p s)):=by
 refine con Tryz.func91 rfl rfl Tryz.call91 rfl fun hwf=>?_
 have hP:=impl_ScheduleOk p s hp
 cases ho:schedOk p s with
 | false=>
  rw [shiftE,if_neg (by simp [ho]),RSchL_none]
  rw [ho] at hP
  (repeat' ((conv=>whnf);first | refine gA ?_ | ((with_reducible first | refine gD (fun h=>?_) (fun h=>?_) | refine gE (fun h=>?_) (fun h=>?_)) <;> (try simp only [lm] at h) <;> try have hw:=wn h) | with_reducible refine gI (fun x hx=>?_) | with_reducible refine gJ (fun j x hj hx=>?_) | refine gV ?_ | refine gC (hP) ?_ | intro _)) <;> (try (conv=>whnf))
  (repeat' ((conv=>whnf) <;> (first | exact trivial | exact VC.nod (by kernel_rfl) | refine VC.mk rfl ?_)))
 | true=>
 rw [shiftE,if_pos ho,RSchL_some]
 rw [ho] at hP
 obtain⟨hf,hok,hn1,hn6,hn,hm⟩:=schedOk_parts ho
 have hSO:=impl_StartOrder_lin s ⟨hn1,by omega⟩
 rw [show startOrder s.starts=(orderN s.starts s.starts.length).map Int.ofNat by unfold startOrder;rfl] at hSO
 have hol:=orderN_len s.starts s.starts.length
 have hoi:=orderN_lt s.starts s.starts.length
 have hnd:=orderN_nodup s.starts s.starts.length
 generalize hR:shifted p s=R
 rw [shifted] at hR
 generalize orderN s.starts s.starts.length=O at hSO hol hoi hnd hR
 (repeat' ((conv=>whnf);first | refine gA ?_ | ((with_reducible first | refine gD (fun h=>?_) (fun h=>?_) | refine gE (fun h=>?_) (fun h=>?_)) <;> (try simp only [lm] at h) <;> try have hw:=wn h) | with_reducible refine gI (fun x hx=>?_) | with_reducible refine gJ (fun j x hj hx=>?_) | refine gV ?_ | refine gC (hP) ?_ | refine gC (impl_copiedSch s) ?_ | refine gC (hSO) ?_ | intro _)) <;> (try (conv=>whnf))
 refine loopF [2,3,4,6,18,19] [2,3,4] [900001,900002] ?_
 (conv=>whnf)
 refine LoopC.go ((Nat)×(Sched)) (fun⟨m,o⟩=>(m≤O.length)∧(schedOk p o=true)∧(o.starts.length=s.starts.length)∧(∀i x,m≤i→O[i]? =some x→o.starts[x]? =s.starts[x]?)∧((O.drop m).foldl (early p s) o=R)) (fun⟨m,o⟩=>[(20,.data (i64 m))]) (fun⟨m,o⟩=>[(6,[.own 900001 0,.own 900002 0])]) (fun⟨m,o⟩=>[(900001,3,o.starts.map i64,1),(900002,3,o.modes.map i64,1)]) (fun⟨m,o⟩=>O.length - m) ⟨0,s⟩ ?_ ?_
 ·exact⟨Nat.zero_le _,ho,rfl,fun _ _ _ _=>rfl,hR⟩
 rintro⟨m,o⟩ ⟨hm',hk,hl,hu,he⟩
 by_cases hlt:m < O.length
 rotate_left
 ·rw [drop_end' (by omega),List.foldl_nil] at he
  subst he
  (repeat' ((conv=>whnf);first | (exfalso;omega) | refine gA ?_ | ((with_reducible first | refine gD (fun h=>?_) (fun h=>?_) | refine gE (fun h=>?_) (fun h=>?_)) <;> (try simp only [lm] at h) <;> try have hw:=wn h) | with_reducible refine gI (fun x hx=>?_) | with_reducible refine gJ (fun j x hj hx=>?_) | refine gV ?_ | intro _)) <;> (try (conv=>whnf))
  (repeat' ((conv=>whnf) <;> (first | exact trivial | exact VC.nod (by kernel_rfl) | refine VC.mk rfl ?_)))
 obtain⟨a,ha⟩:∃a,O[m]? =some a:=⟨O[m]'hlt,by simp⟩
 have hal:=hoi a (List.mem_of_getElem? ha)
 have ha':(O.map Int.ofNat)[m]? =some (a:Int):=by rw [List.getElem?_map,ha];rfl
 obtain⟨a0,t0,m0,q0,mo0,g0⟩:=s_get hf (show a < p.acts.length by omega)
 have htb:=g0.tb
 have hoa:o.starts[a]? =some t0:=by rw [hu m a (Nat.le_refl _) ha];exact g0.start
 obtain⟨T,rfl⟩:∃T:Nat,t0=T:=⟨t0.toNat,by omega⟩
 have hu':∀i x,m+1≤i→O[i]? =some x→x≠a:=fun i x hi hx e=>by
  subst e
  have h1:=(List.getElem?_eq_some_iff.1 hx)
  have h2:=(List.getElem?_eq_some_iff.1 ha)
  have:=List.pairwise_iff_getElem.1 hnd m i h2.1 h1.1 (by omega)
  exact this (h2.2.trans h1.2.symm)
 rw [drop_get ha,List.foldl_cons,early,show (s.starts.getD a 0).toNat=T by rw [List.getD_eq_getElem?_getD,g0.start];rfl] at he
 have hself:(⟨o.starts.set a (T:Int),o.modes⟩:Sched)=o:=by
  have:o.starts.set a (T:Int)=o.starts:=by
   apply List.ext_getElem?
   intro i
   by_cases e:a=i
   ·subst e;rw [List.getElem?_set_self (by omega),hoa]
   ·rw [List.getElem?_set_ne e]
  rw [this]
 (repeat' ((conv=>whnf);first | with_reducible refine Idx.got ha' rfl ?_ | with_reducible refine Idx.got g0.start rfl ?_ | (exfalso;omega) | refine gA ?_ | ((with_reducible first | refine gD (fun h=>?_) (fun h=>?_) | refine gE (fun h=>?_) (fun h=>?_)) <;> (try simp only [lm] at h) <;> try have hw:=wn h) | with_reducible refine gI (fun x hx=>?_) | with_reducible refine gJ (fun j x hj hx=>?_) | refine gV ?_ | intro _)) <;> (try (conv=>whnf))
 refine loopF [2,3,4,6,8,18,19,20,29] [2,3,4] [900001,900002] ?_
 (conv=>whnf)
 refine LoopC.mk ((Nat)×(Int)) (fun⟨t,v⟩=>(t≤T)∧((O.drop (m+1)).foldl (early p s) (earlyFrom p o a (T - t) t)=R)) (fun⟨t,v⟩=>[(30,.data (i64 t))]) (fun⟨t,v⟩=>[(6,[.own 900001 0,.own 900002 0])]) (fun⟨t,v⟩=>[(900001,3,(o.starts.set a v).map i64,1),(900002,3,o.modes.map i64,1)]) (fun⟨t,v⟩=>T+1 - t) ⟨0,(T:Int)⟩ ?_ ?_ ?_
 rotate_left
 ·(repeat' ((conv=>whnf) <;> (first | exact trivial | exact rfl | with_reducible refine And.intro ?_ ?_))) <;> ((conv=>whnf) <;> (rw [show o.starts.set a (T:Int)=o.starts from congrArg Sched.starts hself]))
 rotate_left
 ·exact⟨Nat.zero_le _,he⟩
 rintro⟨t,v⟩ ⟨ht,hE⟩
 have hS:=impl_ScheduleOk p ⟨o.starts.set a t,o.modes⟩ hp
 have hsl:∃w,(o.starts.set a v)[a]? =some w:=⟨v,by rw [List.getElem?_set_self (by omega)]⟩
 obtain⟨w,hw⟩:=hsl
 have eav:(⟨o.starts.set a t,o.modes⟩:Sched).av= .agg [.sl (((o.starts.set a v).map i64).set a (setPart (i64 w) 0 (i64 t))),ints o.modes]:=by
  simp [Sched.av,List.map_set,setPart]
 have eS:((o.starts.set a v).map i64).set a (setPart (i64 w) 0 (i64 t))=(o.starts.set a (t:Int)).map i64:=by simp [List.map_set,setPart]
 rw [eav] at hS
 cases hok2:schedOk p ⟨o.starts.set a t,o.modes⟩ with
 | true=>
  rw [hok2] at hS
  have hE2:(O.drop (m+1)).foldl (early p s) ⟨o.starts.set a t,o.modes⟩=R:=by
   by_cases htT:t < T
   ·rw [show T - t=(T - (t+1))+1 by omega,earlyFrom_succ,if_pos hok2] at hE
    exact hE
   ·obtain rfl:t=T:=by omega
    rw [Nat.sub_self,earlyFrom_zero] at hE
    rw [hself];exact hE
  (repeat' ((conv=>whnf);first | with_reducible refine Idx.got hw rfl ?_ | (exfalso;omega) | refine gA ?_ | ((with_reducible first | refine gD (fun h=>?_) (fun h=>?_) | refine gE (fun h=>?_) (fun h=>?_)) <;> (try simp only [lm] at h) <;> try have hw:=wn h) | with_reducible refine gI (fun x hx=>?_) | with_reducible refine gJ (fun j x hj hx=>?_) | refine gV ?_ | refine gC (hS) ?_ | intro _)) <;> (try (conv=>whnf))
  refine nw ⟨m+1,⟨o.starts.set a t,o.modes⟩⟩ ?_ ?_
  ·(repeat' ((conv=>whnf) <;> (first | exact trivial | exact rfl | with_reducible refine And.intro ?_ ?_))) <;> ((conv=>whnf) <;> (exact eS))
  refine⟨by omega,hok2,by simp [hl],fun i x hi hx=>?_,hE2⟩
  rw [List.getElem?_set_ne (Ne.symm (hu' i x hi hx))]
  exact hu i x (by omega) hx
 | false=>
  rw [hok2] at hS
  have htT:t < T:=by
   by_cases htT:t < T
   ·exact htT
   ·obtain rfl:t=T:=by omega
    rw [hself,hk] at hok2;cases hok2
  rw [show T - t=(T - (t+1))+1 by omega,earlyFrom_succ,if_neg (by simp [hok2])] at hE
  (repeat' ((conv=>whnf);first | with_reducible refine Idx.got hw rfl ?_ | (exfalso;omega) | refine gA ?_ | ((with_reducible first | refine gD (fun h=>?_) (fun h=>?_) | refine gE (fun h=>?_) (fun h=>?_)) <;> (try simp only [lm] at h) <;> try have hw:=wn h) | with_reducible refine gI (fun x hx=>?_) | with_reducible refine gJ (fun j x hj hx=>?_) | refine gV ?_ | refine gC (hS) ?_ | intro _)) <;> (try (conv=>whnf))
  refine nw ⟨t+1,(t:Int)⟩ ?_ ?_
  ·(repeat' ((conv=>whnf) <;> (first | exact trivial | exact rfl | with_reducible refine And.intro ?_ ?_))) <;> ((conv=>whnf) <;> (exact eS))
  exact⟨by omega,hE⟩
end Go.Proofs.YtkiohdpapinecaaGreat.Abs
