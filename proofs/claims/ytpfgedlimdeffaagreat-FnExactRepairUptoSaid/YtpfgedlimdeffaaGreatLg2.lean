/- Kit level: the program's ApplyDelay where an activity becomes longer. -/
import Derived.Deep.RegionHeld3
import Derived.Deep.LoopGhost
import Derived.Lib.Hide
import Derived.Handy
import Derived.WalkKit
import Derived.Test.YtpfgedlimdeffaaGreatLayC
import Derived.Test.YtpfgedlimdeffaaGreatC35
import Derived.Test.YtpfgedlimdeffaaGreatDl
import Derived.Test.YtpfgedlimdeffaaGreatC43
set_option linter.all false
set_option maxRecDepth 20000
set_option maxHeartbeats 0
namespace Go.Proofs.YtpfgedlimdeffaaGreat.Abs
open Go.Proofs Go.RowKit
def Da (n:Int) (m:Mode):Mode:={ m with dur:=min (m.dur+n) 12 }
def nu (n:Int) (l:List Mode) (i:Nat):List Mode:=(l.take i).map (Da n)++l.drop i
theorem Db (n:Int) (l:List Mode):nu n l 0=l:=by simp [nu]
theorem PD (n:Int) (l:List Mode):nu n l l.length=l.map (Da n):=by simp [nu]
theorem yN {n:Int} {l:List Mode} {i:Nat} {m:Mode} (h:l[i]? =some m):(nu n l i)[i]? =some m:=by
 have hi:=(List.getElem?_eq_some_iff.1 h).1
 rw [nu,List.getElem?_append_right (by simp;omega)]
 simp only [List.length_map,List.length_take,List.getElem?_drop]
 rw [show i+(i - min i l.length)=i by omega];exact h
theorem NK {n:Int} {l:List Mode} {i:Nat} {m:Mode} (h:l[i]? =some m):nu n l (i+1)=(nu n l i).set i (Da n m):=by
 have hi:=(List.getElem?_eq_some_iff.1 h).1
 have hl:((l.take i).map (Da n)).length=i:=by simp;omega
 rw [nu,nu,List.set_append_right _ _ (by omega),hl,Nat.sub_self]
 rw [ay h,List.take_add_one,h]
 simp
theorem bG.mode {w:World} {L b sz o j:Nat} {l:List Mode} {bs:List Nat} {m:Mode} (h:bG w L b sz (l.map Mode.av) o bs) (hj:l[j]? =some m):
  ∃a1 c1 a2 c2,sz=3∧w.cell? ⟨b,o+j*sz,none⟩=some (.int .i64 m.dur)∧w.cell? ⟨b,o+j*sz+1,none⟩=some (.slice a1 m.use.length c1)∧w.cell? ⟨b,o+j*sz+2,none⟩=some (.slice a2 m.con.length c2):=by
 have hm:(l.map Mode.av)[j]? =some m.av:=by rw [List.getElem?_map,hj];rfl
 have h3:=h.OY hm
 obtain⟨h0,_⟩:=h.TP (k:=0) (n:=m.dur) hm rfl
 obtain⟨_,_,_,u,_,_,h1,g1,_⟩:=h.set (k:=1) (c:=ints m.use) hm rfl
 obtain⟨_,_,_,v,_,_,h2,g2,_⟩:=h.set (k:=2) (c:=ints m.con) hm rfl
 simp only [bL,List.length_map] at g1 g2
 obtain⟨a1,c1,rfl,_⟩:=g1
 obtain⟨a2,c2,rfl,_⟩:=g2
 exact⟨a1,c1,a2,c2,h3.symm,h0,h1,h2⟩
structure mH (w w3:World) (bm om:Nat) (bsm:List Nat) (n:Int) (l:List Mode) (i:Nat) (wr:World):Prop where
 sep:bG wr lim bm 3 ((nu n l i).map Mode.av) om bsm
 far:∀k,k < w3.heap.size→k≠bm→wr.heap[k]? =w3.heap[k]?
 size:w3.heap.size≤wr.heap.size
 os:wr.os=w3.os
 tape:wr.tape=w3.tape
 output:wr.output=w3.output
 drawn:w3.drawn≤wr.drawn
 thaw:eX wr bm
theorem mH.next {w w3 wr w4:World} {bm om:Nat} {bsm:List Nat} {n v:Int} {l:List Mode} {i:Nat} {m:Mode} (hI:mH w w3 bm om bsm n l i wr) (hm:l[i]? =some m) (q4:Quiet wr w4) (hb:bm < w3.heap.size) (hsub:∀y∈bsm,y < w3.heap.size∧y≠bm)
  (yt:w4.cell? ⟨bm,om+i*3,none⟩=some (.int .i64 m.dur)) (hv:v=min (m.dur+n) 12):mH w w3 bm om bsm n l (i+1) ((w4.setCell ⟨bm,om+i*3,none⟩ (.int .i64 v)).drew):=by
 have hsz:=hI.size
 have hmi:=yN (n:=n) hm
 have hs4:bG w4 lim bm 3 ((nu n l i).map Mode.av) om bsm:=bG.mono _ _ _ _ _ (fun o=>World.cell?_of_block (q4.block bm (by omega) id)) (fun y hy o=>World.cell?_of_block (q4.block y (by have:=hsub y hy;omega) id)) hI.sep
 have hmv:((nu n l i).map Mode.av)[i]? =some m.av:=by rw [List.getElem?_map,hmi];rfl
 obtain⟨_,hT⟩:=hs4.TP (k:=0) (n:=m.dur) hmv rfl
 have hc5:∀b o,¬(b=bm∧o=om+i*3)→((w4.setCell ⟨bm,om+i*3,none⟩ (.int .i64 v)).drew).cell? ⟨b,o,none⟩=w4.cell? ⟨b,o,none⟩:=fun b o hno=>
  World.cell?_setCell_other _ _ _ _ (fun e=>hno (by cases e;exact⟨rfl,rfl⟩))
 have hv5:((w4.setCell ⟨bm,om+i*3,none⟩ (.int .i64 v)).drew).cell? ⟨bm,om+i*3,none⟩=some (.int .i64 (min (m.dur+n) 12)):=by
  rw [← hv];exact World.cell?_setCell_same _ _ _ yt
 refine⟨?_,fun k hk hkm=>?_,?_,?_,?_,?_,?_,?_⟩
 ·rw [NK hm,List.map_set]
  exact hT _ (Da n m).av (min (m.dur+n) 12) rfl (fun o ho=>hc5 _ _ (fun e=>ho e.2)) (fun y hy o=>hc5 _ _ (fun e=>(hsub y hy).2 e.1)) hv5
 ·refine Eq.trans ?_ ((q4.block k (by omega) id).trans (hI.far k hk hkm))
  exact Below.heap_setCell _ _ _ _ (fun e=>hkm e)
 ·show w3.heap.size≤(w4.setCell _ _).heap.size
  rw [World.size_setCell];exact Nat.le_trans hsz q4.size
 ·exact q4.os.trans hI.os
 ·exact q4.tape.trans hI.tape
 ·exact q4.output.trans hI.output
 ·show w3.drawn≤w4.drawn+1
  have:=q4.drawn;have:=hI.drawn;omega
 ·intro o
  show (w4.setCell _ _).frozen? _=false
  rw [World.frozen?_setCell]
  exact hI.thaw.same (q4.block bm (by omega) id) o
structure Uj (bsm:List Nat) (w:World) (n0 na:Nat) (c:Value) (e1:Int) (a3 a4 a5:Option Addr) (n3 n4 n5 q3 q4 q5 ba oa jg a bm om nm mI:Nat):Prop where
 val:c= .agg #[.int .i64 e1,.slice (some ⟨ba,oa,none⟩) na jg,.slice a3 n3 q3,.slice a4 n4 q4,.slice a5 n5 q5]
 alt:a < na
 cap:na≤jg
 Jb:w.cell? ⟨ba,oa+a*3+2,none⟩=some (.slice (some ⟨bm,om,none⟩) nm mI)
 nmc:nm≤mI
 hba:n0≤ba∧ba < w.heap.size
 hbm:n0≤bm∧bm < w.heap.size
 ne:ba≠bm
 thaw:eX w bm
 sub:∀y∈bsm,n0≤y∧y < w.heap.size∧y≠bm
structure mM (N:Nat) (d1 d2 d3 d4 d5:Value) (a n at':Int) (W:World):Prop where
 r2:W.heap[N]? =some (.cells #[d1,d2,d3,d4,d5] 41)
 r3:W.heap[N+1]? =some (.cells #[.int .i64 2,.int .i64 a,.int .i64 n,.int .i64 at'] 44)
 r4:W.heap[N+2]? =some (.cells #[.int .i64 0,.slice none 0 0,.slice none 0 0,.slice none 0 0,.slice none 0 0] 41)
theorem mM.same {N:Nat} {d1 d2 d3 d4 d5:Value} {a n at':Int} {W W':World} (h:mM N d1 d2 d3 d4 d5 a n at' W) (hw:∀k,k < N+3→W'.heap[k]? =W.heap[k]?):mM N d1 d2 d3 d4 d5 a n at' W':=
 ⟨by rw [hw _ (by omega)];exact h.r2,by rw [hw _ (by omega)];exact h.r3,by rw [hw _ (by omega)];exact h.r4⟩
theorem mM.lt {N:Nat} {d1 d2 d3 d4 d5:Value} {a n at':Int} {W:World} (h:mM N d1 d2 d3 d4 d5 a n at' W):N+3≤W.heap.size:=by
 have:=(Array.getElem?_eq_some_iff.1 h.r4).1;omega
theorem mM.quiet {N:Nat} {d1 d2 d3 d4 d5:Value} {a n at':Int} {W W':World} (h:mM N d1 d2 d3 d4 d5 a n at' W) (q:Quiet W W'):mM N d1 d2 d3 d4 d5 a n at' W':=
 h.same fun k hk=>q.block k (by have:=h.lt;omega) id
theorem mM.p {N:Nat} {d1 d2 d3 d4 d5:Value} {a n at':Int} {W:World} (h:mM N d1 d2 d3 d4 d5 a n at' W):
  W.cell? ⟨N,0,none⟩=some d1∧W.cell? ⟨N,1,none⟩=some d2∧W.cell? ⟨N,2,none⟩=some d3∧W.cell? ⟨N,3,none⟩=some d4∧W.cell? ⟨N,4,none⟩=some d5:=by
 refine⟨?_,?_,?_,?_,?_⟩<;>(rw [cell_of_row W _ _ _ _ _ h.r2];rfl)
theorem mM.d {N:Nat} {d1 d2 d3 d4 d5:Value} {a n at':Int} {W:World} (h:mM N d1 d2 d3 d4 d5 a n at' W):
  W.cell? ⟨N+1,0,none⟩=some (.int .i64 2)∧W.cell? ⟨N+1,1,none⟩=some (.int .i64 a)∧W.cell? ⟨N+1,2,none⟩=some (.int .i64 n)∧W.cell? ⟨N+1,3,none⟩=some (.int .i64 at'):=by
 refine⟨?_,?_,?_,?_⟩<;>(rw [cell_of_row W _ _ _ _ _ h.r3];rfl)
theorem mM.start {w W:World} {d1 d2 d3 d4 d5:Value} {a n at':Int} (hW:((w.alloc (.cells #[d1,d2,d3,d4,d5] 41)).alloc (.cells #[.int .i64 2,.int .i64 a,.int .i64 n,.int .i64 at'] 44)).alloc (.cells #[.int .i64 0,.slice none 0 0,.slice none 0 0,.slice none 0 0,.slice none 0 0] 41)=W):
  mM w.heap.size d1 d2 d3 d4 d5 a n at' W∧Quiet w W:=by
 subst hW
 refine⟨⟨?_,?_,?_⟩,(((Quiet.alloc _ _).trans (Quiet.alloc _ _)).trans (Quiet.alloc _ _))⟩<;>
  simp only [World.alloc,Array.getElem?_push,Array.size_push]
 ·rw [if_neg (by omega),if_neg (by omega),if_pos trivial]
 ·rw [if_neg (by omega),if_pos trivial]
 ·rw [if_pos trivial]
structure uF (w w2:World) (bm om:Nat) (bsm:List Nat) (n:Int) (l:List Mode) (wr:World):Prop where
 q:Quiet w w2
 sep:bG wr lim bm 3 ((l.map (Da n)).map Mode.av) om bsm
 far:∀k,k < w2.heap.size→k≠bm→wr.heap[k]? =w2.heap[k]?
 size:w2.heap.size≤wr.heap.size
 os:wr.os=w2.os
 tape:wr.tape=w2.tape
 output:wr.output=w2.output
 drawn:w2.drawn≤wr.drawn
 thaw:eX wr bm
theorem mH.fin {w w2 w3 wr:World} {bm om:Nat} {bsm:List Nat} {n:Int} {l:List Mode} (q:Quiet w w2) (q3:Quiet w2 w3) (h:mH w w3 bm om bsm n l l.length wr):uF w w2 bm om bsm n l wr:=
 ⟨q,by have:=h.sep;rwa [PD] at this,fun k hk hm=>(h.far k (Nat.lt_of_lt_of_le hk q3.size) hm).trans (q3.block k hk id),Nat.le_trans q3.size h.size,h.os.trans q3.os,h.tape.trans q3.tape,h.output.trans q3.output,Nat.le_trans q3.drawn h.drawn,h.thaw⟩
structure jT (N:Nat) (wr w':World):Prop where
 far:∀k,k < wr.heap.size→k≠N→w'.heap[k]? =wr.heap[k]?
 size:wr.heap.size≤w'.heap.size
 os:w'.os=wr.os
 tape:w'.tape=wr.tape
 output:w'.output=wr.output
 drawn:wr.drawn≤w'.drawn
theorem jT.refl (N:Nat) (w:World):jT N w w:=⟨fun _ _ _=>rfl,Nat.le_refl _,rfl,rfl,rfl,Nat.le_refl _⟩
theorem jT.set {N:Nat} {a w:World} (h:jT N a w) (o:Nat) (v:Value):jT N a (w.setCell ⟨N,o,none⟩ v):=
 ⟨fun k hk hn=>(Below.heap_setCell _ _ _ _ (fun e=>hn e)).trans (h.far k hk hn),by rw [World.size_setCell];exact h.size,h.os,h.tape,h.output,h.drawn⟩
theorem jT.quiet {N:Nat} {a b c:World} (q:Quiet a b) (h:jT N b c):jT N a c:=
 ⟨fun k hk hn=>(h.far k (Nat.lt_of_lt_of_le hk q.size) hn).trans (q.block k hk id),Nat.le_trans q.size h.size,h.os.trans q.os,h.tape.trans q.tape,h.output.trans q.output,Nat.le_trans q.drawn h.drawn⟩
theorem Gf {w:World} {b o:Nat} {u v:Value} (h:w.cell? ⟨b,o,none⟩=some u):(w.setCell ⟨b,o,none⟩ v).cell? ⟨b,o,none⟩=some v:=World.cell?_setCell_same _ _ _ h
theorem fI {w:World} {b i j:Nat} {v:Value} {x:Option Value} (hij:i≠j) (h:w.cell? ⟨b,j,none⟩=x):(w.setCell ⟨b,i,none⟩ v).cell? ⟨b,j,none⟩=x:=
 (World.cell?_setCell_other _ _ _ _ (fun e=>hij (by cases e;rfl))).trans h
abbrev Rx (w:World) (b:Nat) (v0 v1 v2 v3 v4:Value):World:=(((((w.setCell ⟨b,0,none⟩ v0).setCell ⟨b,1,none⟩ v1).setCell ⟨b,2,none⟩ v2).setCell ⟨b,3,none⟩ v3).setCell ⟨b,4,none⟩ v4)
theorem uG {w:World} {b:Nat} {u0 u1 u2 u3 u4 v0 v1 v2 v3 v4:Value} (h0:w.cell? ⟨b,0,none⟩=some u0) (h1:w.cell? ⟨b,1,none⟩=some u1) (h2:w.cell? ⟨b,2,none⟩=some u2) (h3:w.cell? ⟨b,3,none⟩=some u3) (h4:w.cell? ⟨b,4,none⟩=some u4):
  (Rx w b v0 v1 v2 v3 v4).cell? ⟨b,0,none⟩=some v0∧(Rx w b v0 v1 v2 v3 v4).cell? ⟨b,1,none⟩=some v1∧(Rx w b v0 v1 v2 v3 v4).cell? ⟨b,2,none⟩=some v2∧(Rx w b v0 v1 v2 v3 v4).cell? ⟨b,3,none⟩=some v3∧(Rx w b v0 v1 v2 v3 v4).cell? ⟨b,4,none⟩=some v4∧jT b w (Rx w b v0 v1 v2 v3 v4):=by
 refine⟨?_,?_,?_,?_,?_,(((((jT.refl b w).set 0 v0).set 1 v1).set 2 v2).set 3 v3).set 4 v4⟩
 ·exact fI (by decide) (fI (by decide) (fI (by decide) (fI (by decide) (Gf h0))))
 ·exact fI (by decide) (fI (by decide) (fI (by decide) (Gf (fI (by decide) h1))))
 ·exact fI (by decide) (fI (by decide) (Gf (fI (by decide) (fI (by decide) h2))))
 ·exact fI (by decide) (Gf (fI (by decide) (fI (by decide) (fI (by decide) h3))))
 ·exact Gf (fI (by decide) (fI (by decide) (fI (by decide) (fI (by decide) h4))))
def Uk:Value:=.agg #[.int .i64 0,.slice none 0 0,.slice none 0 0,.slice none 0 0,.slice none 0 0]
theorem PE {d1 d2 d3 d4 d5:Value} {a na:Nat} {n at':Int} {l:List Mode} {ok:Bool} {Z:World→Value→Nat→Nat→List Nat→Prop} {w:World} (hn:1≤n∧n≤12) (KO:∀m∈l,0≤m.dur∧m.dur≤12) (hlen:l.length < 4611686018427387904)
  (hD:∀W,Quiet w W→Calls Tryz.prog 68 #[.agg #[d1,d2,d3,d4,d5],.agg #[.int .i64 2,.int .i64 a,.int .i64 n,.int .i64 at']] W fun e w'=>e= .returned (.bool true)∧Quiet W w')
  (hC:∀W,Quiet w W→w.heap.size+3≤W.heap.size→Calls Tryz.prog 69 #[.agg #[d1,d2,d3,d4,d5]] W fun e w'=>∃c e1 a3 a4 a5 n3 n4 n5 q3 q4 q5 ba oa jg bm om mI bsm,e= .returned c∧Quiet W w'∧Uj bsm w' W.heap.size na c e1 a3 a4 a5 n3 n4 n5 q3 q4 q5 ba oa jg a bm om l.length mI∧bG w' lim bm 3 (l.map Mode.av) om bsm∧Z w' c bm om bsm)
  (hP:∀w2 wr c bm om bsm,Z w2 c bm om bsm→uF w w2 bm om bsm n l wr→Calls Tryz.prog 71 #[c] wr fun e w'=>e= .returned (.bool ok)∧Quiet wr w'):
  Calls Tryz.prog 33 #[.agg #[d1,d2,d3,d4,d5],.agg #[.int .i64 2,.int .i64 a,.int .i64 n,.int .i64 at']] w fun e w'=>
   ∃w2 wr c bm om bsm,Z w2 c bm om bsm∧uF w w2 bm om bsm n l wr∧jT (w.heap.size+2) wr w'∧e= .returned (.tuple #[if ok then c else Uk,.bool ok]):=by
 have HU:=Lib.hid KO
 have HL:=Lib.hid hlen
 have HD:=Lib.hid hD
 have HC:=Lib.hid hC
 have HP:=Lib.hid hP
 clear hD hC hP KO hlen
 go_enter Tryz.func33,Tryz.ntmps33
 go_wp2_with fail
 generalize hW:((w.alloc _).alloc _).alloc _=W
 obtain⟨hB0,hq0⟩:=mM.start hW
 clear hW
 refine (HD.out W hq0).mono ?_
 rintro e w1 ⟨rfl,hq1⟩
 have Ul:=hq0.trans hq1
 obtain⟨p0,p1,p2,p3,p4⟩:=(hB0.quiet hq1).p
 have HB:=Lib.hid (hB0.quiet hq1)
 have HQ:=Lib.hid Ul
 clear hB0 hq0 hq1 Ul HD
 go_wp2_with fail
 refine (HC.out _ HQ.out HB.out.lt).mono ?_
 rintro e w2 ⟨c,e1,a3,a4,a5,n3,n4,n5,q3,q4,q5,ba,oa,jg,bm,om,mI,bsm,rfl,hq2,hco,hse,hz⟩
 obtain⟨hv,alt,hcap,Jb,nmc,hba,hbm,hne,hth,hsub⟩:=hco
 subst hv
 have HZ:=Lib.hid hz
 clear hz
 have hB2:=HB.out.quiet hq2
 have hN:w.heap.size+3≤w1.heap.size∧w1.heap.size≤w2.heap.size:=⟨HB.out.lt,hq2.size⟩
 have q02:=HQ.out.trans hq2
 have old:∀(o:Obj) (b i:Nat),b < w2.heap.size→(w2.alloc o).cell? ⟨b,i,none⟩=w2.cell? ⟨b,i,none⟩:=fun o b i hb=>World.cell?_of_block ((Quiet.alloc w2 o).block b hb id)
 obtain⟨c0,c1,c2,c3⟩:=hB2.d
 have k0:∀o,(w2.alloc o).cell? ⟨w.heap.size+1,0,none⟩=some (.int .i64 2):=fun o=>by rw [old _ _ _ (by omega)];exact c0
 have k1:∀o,(w2.alloc o).cell? ⟨w.heap.size+1,1,none⟩=some (.int .i64 a):=fun o=>by rw [old _ _ _ (by omega)];exact c1
 have km:∀o,(w2.alloc o).cell? ⟨ba,oa+a*3+2,none⟩=some (.slice (some ⟨bm,om,none⟩) l.length mI):=fun o=>by rw [old _ _ _ hba.2];exact Jb
 have i1:(0:Int)≤a:=by omega
 have i2:(a:Int) < na:=by omega
 have HB2:=Lib.hid hB2
 have HQ2:=Lib.hid q02
 have HS:=Lib.hid hse
 have HX:=Lib.hid (And.intro hcap (And.intro nmc (And.intro hba (And.intro hbm (And.intro hne (And.intro hN (And.intro hth (And.intro hsub hn))))))))
 clear hB2 q02 hq2 hth hsub HB HQ HC c0 c1 c2 c3 p0 p1 p2 p3 p4 hse hcap nmc hba hbm hne hn hN Jb old
 have hpost:True:=trivial
 go_wp2_with fail
 generalize hw3:w2.alloc _=w3
 obtain⟨hcap,nmc,hba,hbm,hne,hN,hth,hsub,hn⟩:=HX.out
 have q23:Quiet w2 w3:=hw3 ▸ Quiet.alloc _ _
 have h6:w3.heap[w2.heap.size]? =some (.cells #[.int .i64 e1,.slice (some ⟨ba,oa,none⟩) na jg,.slice a3 n3 q3,.slice a4 n4 q4,.slice a5 n5 q5] 41):=by
  rw [← hw3];simp only [World.alloc,Array.getElem?_push];rw [if_pos trivial]
 have hs3:w3.heap.size=w2.heap.size+1:=by rw [← hw3];simp only [World.alloc,Array.size_push]
 have km3:w3.cell? ⟨ba,oa+a*3+2,none⟩=some (.slice (some ⟨bm,om,none⟩) l.length mI):=by rw [← hw3];exact km _
 clear hw3 k0 k1
 have HB3:=Lib.hid (HB2.out.quiet q23)
 have HQ3:=Lib.hid (And.intro HQ2.out q23)
 have HS3:Hid (bG w3 lim bm 3 (l.map Mode.av) om bsm):=Lib.hid (bG.mono _ _ _ _ _ (fun o=>World.cell?_of_block (q23.block _ hbm.2 id)) (fun y hy o=>World.cell?_of_block (q23.block _ (hsub y hy).2.1 id)) HS.out)
 have HT3:Hid (eX w3 bm):=Lib.hid (hth.same (q23.block _ hbm.2 id))
 have H6:=Lib.hid h6
 have HX3:=Lib.hid (And.intro hcap (And.intro nmc (And.intro hba (And.intro hbm (And.intro hne (And.intro hN (And.intro hn (And.intro hs3 (And.intro km3 hsub)))))))))
 clear HB2 HQ2 HS HX h6 q23 hcap nmc hba hbm hne hN hn hs3 km3 km hth hsub
 go_loopg [28] (l.length) (fun k v wr=>∃i:Nat,i≤l.length∧k=l.length - i∧v= .int .i64 i∧Aside (mH w w3 bm om bsm n l i wr))
 case atStart=>exact⟨0,Nat.zero_le _,by omega,rfl,by rw [Db];exact HS3.out,fun _ _ _=>rfl,Nat.le_refl _,rfl,rfl,rfl,Nat.le_refl _,HT3.out⟩
 case round=>
 obtain⟨i,hil,hgk,rfl,HI⟩:=hrel
 by_cases hlt:i < l.length
 ·have j1:(0:Int)≤i:=by omega
  have j2:(i:Int) < l.length:=by omega
  obtain⟨m,hm⟩:∃m,l[i]? =some m:=⟨l[i]'hlt,by simp⟩
  obtain⟨b1,c1,b2,c2,_,x0,x1,x2⟩:=(bG.mode HI.out.sep (yN hm))
  go_wp2_with fail
  generalize hw4:wr.alloc _=w4
  have q4:Quiet wr w4:=hw4 ▸ Quiet.alloc _ _
  obtain⟨hcap,nmc,hba,hbm,hne,hN,hn,hs3,km3,hsub⟩:=HX3.out
  have hI:=HI.out
  have hsz:=hI.size
  have Gg:∀b o,b < w3.heap.size→b≠bm→w4.cell? ⟨b,o,none⟩=w3.cell? ⟨b,o,none⟩:=fun b o h1 h2=>(World.cell?_of_block (q4.block b (by omega) id)).trans (World.cell?_of_block (hI.far b h1 h2))
  have y6:w4.cell? ⟨w2.heap.size,1,none⟩=some (.slice (some ⟨ba,oa,none⟩) na jg):=by
   refine (Gg _ _ (by omega) (by omega)).trans ?_;rw [cell_of_row w3 _ _ _ _ _ H6.out];rfl
  have y3:w4.cell? ⟨w.heap.size+1,1,none⟩=some (.int .i64 a):=by
   refine (Gg _ _ (by omega) (by omega)).trans ?_;exact HB3.out.d.2.1
  have y4:w4.cell? ⟨w.heap.size+1,2,none⟩=some (.int .i64 n):=by
   refine (Gg _ _ (by omega) (by omega)).trans ?_;exact HB3.out.d.2.2.1
  have ym:w4.cell? ⟨ba,oa+a*3+2,none⟩=some (.slice (some ⟨bm,om,none⟩) l.length mI):=by
   refine (Gg _ _ (by omega) hne).trans ?_;exact km3
  have y8:w4.cell? ⟨wr.heap.size,0,none⟩=some (.int .i64 m.dur):=by
   have:w4.heap[wr.heap.size]? =some (.cells #[.int .i64 m.dur,.slice b1 m.use.length c1,.slice b2 m.con.length c2] 98):=by
    rw [← hw4];simp only [World.alloc,Array.getElem?_push];rw [if_pos trivial]
   rw [cell_of_row w4 _ _ _ _ _ this];rfl
  have yt:w4.cell? ⟨bm,om+i*3,none⟩=some (.int .i64 m.dur):=by
   exact (World.cell?_of_block (q4.block bm (by omega) id)).trans x0
  have yf:w4.frozen? ⟨bm,om+i*3,none⟩=false:=hI.thaw.same (q4.block bm (by omega) id) _
  have z1:¬ bm=w2.heap.size:=by omega
  have z2:¬ bm=w.heap.size+1:=by omega
  have z3:¬ bm=ba:=fun e=>hne e.symm
  have z4:¬ bm=wr.heap.size:=by omega
  have hwr:IntKind.i64.wrap (m.dur+n)=m.dur+n:=by
   have:=HU.out m (List.mem_of_getElem? hm)
   exact IntWalk.i64_in _ (by omega)
  have HG:=Lib.hid hgk
  have H4:=Lib.hid (And.intro hw4 (And.intro q4 (And.intro hI (And.intro hm hsz))))
  clear hw4 q4 hI hm hsz Gg hcap nmc hba hbm hne hN hn hs3 km3 hsub x0 x1 x2 hgk hil
  go_region_held3 (fun W=>W.cell? ⟨w2.heap.size,1,none⟩=some (.slice (some ⟨ba,oa,none⟩) na jg)∧W.cell? ⟨w.heap.size+1,1,none⟩=some (.int .i64 a)∧W.cell? ⟨w.heap.size+1,2,none⟩=some (.int .i64 n)∧W.cell? ⟨ba,oa+a*3+2,none⟩=some (.slice (some ⟨bm,om,none⟩) l.length mI)∧W.cell? ⟨wr.heap.size,0,none⟩=some (.int .i64 m.dur)) (go_keep) (fail)
  generalize hw5:(w4.setCell _ _).drew=w5
  obtain⟨hw4,q4,hI,hm,hsz⟩:=H4.out
  obtain⟨hcap,nmc,hba,hbm,hne,hN,hn,hs3,km3,hsub⟩:=HX3.out
  have hI5:Hid (mH w w3 bm om bsm n l (i+1) w5):=Lib.hid (hw5 ▸ hI.next hm q4 (by omega) (fun y hy=>by have:=hsub y hy;omega) yt (by first|omega|(split<;>omega)))
  clear hw5 hw4 q4 hI hm hsz hcap nmc hba hbm hne hN hn hs3 km3 hsub y6 y3 y4 ym y8 yt yf z1 z2 z3 z4 HI H4
  have hwi:wrap64 ((i:Int)+1)=((i+1:Nat):Int):=by rw [IntWalk.wrap64_in _ (by have:l.length < 4611686018427387904:=HL.out;omega)];omega
  go_wp2_with fail
  all_goals
   go_roundg (l.length - (i+1))
   case measure=>have:=HG.out;omega
   case rel=>exact⟨i+1,by omega,rfl,by first|(rw [hwi];done)|(rw [Int.natCast_succ];done),hI5.out⟩
 ·have j2:¬(i:Int) < l.length:=by omega
  obtain rfl:i=l.length:=by omega
  clear hgk hil hlt
  have hF:=mH.fin HQ3.out.1 HQ3.out.2 HI.out
  obtain⟨hcap,nmc,hba,hbm,hne,hN,hn,hs3,km3,hsub⟩:=HX3.out
  have hsz:=HI.out.size
  have h6r:wr.heap[w2.heap.size]? =some (.cells #[.int .i64 e1,.slice (some ⟨ba,oa,none⟩) na jg,.slice a3 n3 q3,.slice a4 n4 q4,.slice a5 n5 q5] 41):=(HI.out.far _ (by omega) (by omega)).trans H6.out
  have hBr:mM w.heap.size d1 d2 d3 d4 d5 a n at' wr:=HB3.out.same fun k hk=>HI.out.far k (by omega) (by omega)
  obtain⟨t0,t1,t2,t3,t4⟩:wr.cell? ⟨w2.heap.size,0,none⟩=some (.int .i64 e1)∧wr.cell? ⟨w2.heap.size,1,none⟩=some (.slice (some ⟨ba,oa,none⟩) na jg)∧wr.cell? ⟨w2.heap.size,2,none⟩=some (.slice a3 n3 q3)∧wr.cell? ⟨w2.heap.size,3,none⟩=some (.slice a4 n4 q4)∧wr.cell? ⟨w2.heap.size,4,none⟩=some (.slice a5 n5 q5):=by
   refine⟨?_,?_,?_,?_,?_⟩<;>(rw [cell_of_row wr _ _ _ _ _ h6r];rfl)
  have HF:=Lib.hid (And.intro hF (And.intro h6r (And.intro hBr (And.intro hN (Nat.le_trans (by omega:w2.heap.size+1≤w3.heap.size) hsz)))))
  clear hF h6r hBr hcap nmc hba hbm hne hN hn hs3 km3 hsub hsz HI HB3 HQ3 HS3 HT3 H6 HX3
  go_wp2_with fail
  refine (HP.out _ _ _ _ _ _ HZ.out HF.out.1).mono ?_
  rintro e w6 ⟨rfl,hq6⟩
  obtain⟨hF,h6r,hBr,hN,hsz⟩:=HF.out
  have h6q:w6.heap[w2.heap.size]? =some (.cells #[.int .i64 e1,.slice (some ⟨ba,oa,none⟩) na jg,.slice a3 n3 q3,.slice a4 n4 q4,.slice a5 n5 q5] 41):=(hq6.block _ (by omega) id).trans h6r
  have hB6:=hBr.quiet hq6
  obtain⟨s0,s1,s2,s3,s4⟩:w6.cell? ⟨w2.heap.size,0,none⟩=some (.int .i64 e1)∧w6.cell? ⟨w2.heap.size,1,none⟩=some (.slice (some ⟨ba,oa,none⟩) na jg)∧w6.cell? ⟨w2.heap.size,2,none⟩=some (.slice a3 n3 q3)∧w6.cell? ⟨w2.heap.size,3,none⟩=some (.slice a4 n4 q4)∧w6.cell? ⟨w2.heap.size,4,none⟩=some (.slice a5 n5 q5):=by
   refine⟨?_,?_,?_,?_,?_⟩<;>(rw [cell_of_row w6 _ _ _ _ _ h6q];rfl)
  obtain⟨r0,r1,r2,r3,r4⟩:w6.cell? ⟨w.heap.size+1+1,0,none⟩=some (.int .i64 0)∧w6.cell? ⟨w.heap.size+1+1,1,none⟩=some (.slice none 0 0)∧w6.cell? ⟨w.heap.size+1+1,2,none⟩=some (.slice none 0 0)∧w6.cell? ⟨w.heap.size+1+1,3,none⟩=some (.slice none 0 0)∧w6.cell? ⟨w.heap.size+1+1,4,none⟩=some (.slice none 0 0):=by
   refine⟨?_,?_,?_,?_,?_⟩<;>(rw [cell_of_row w6 _ _ _ _ _ hB6.r4];rfl)
  obtain⟨f0,f1,f2,f3,f4⟩:w6.frozen? ⟨w.heap.size+1+1,0,none⟩=false∧w6.frozen? ⟨w.heap.size+1+1,1,none⟩=false∧w6.frozen? ⟨w.heap.size+1+1,2,none⟩=false∧w6.frozen? ⟨w.heap.size+1+1,3,none⟩=false∧w6.frozen? ⟨w.heap.size+1+1,4,none⟩=false:=by
   refine⟨?_,?_,?_,?_,?_⟩<;>simp [World.frozen?,hB6.r4]
  have HL6:=Lib.hid (And.intro hF (And.intro hq6 hsz))
  clear hF h6r hBr hN hsz hq6 h6q hB6 t0 t1 t2 t3 t4 HF HP
  have ers:Tryz.f33.results= #[.cell 4 41,.tmp 5]:=rfl
  cases ok with
  |true=>
   go_wp2_with fail
   obtain⟨o0,o1,o2,o3,o4,hlast⟩:=uG (v0:=.int .i64 e1) (v1:=.slice (some ⟨ba,oa,none⟩) na jg) (v2:=.slice a3 n3 q3) (v3:=.slice a4 n4 q4) (v4:=.slice a5 n5 q5) r0 r1 r2 r3 r4
   refine bodyPost_ret (v:=.tuple #[.agg #[.int .i64 e1,.slice (some ⟨ba,oa,none⟩) na jg,.slice a3 n3 q3,.slice a4 n4 q4,.slice a5 n5 q5],.bool true]) (by simp [results,ers,go_sem,o0,o1,o2,o3,o4]) rfl ?_
   exact⟨w2,wr,_,bm,om,bsm,HZ.out,HL6.out.1,jT.quiet HL6.out.2.1 hlast,rfl⟩
  |false=>
   go_wp2_with fail
   obtain⟨o0,o1,o2,o3,o4,hlast⟩:=uG (v0:=.int .i64 0) (v1:=.slice none 0 0) (v2:=.slice none 0 0) (v3:=.slice none 0 0) (v4:=.slice none 0 0) r0 r1 r2 r3 r4
   refine bodyPost_ret (v:=.tuple #[.agg #[.int .i64 0,.slice none 0 0,.slice none 0 0,.slice none 0 0,.slice none 0 0],.bool false]) (by simp [results,ers,go_sem,o0,o1,o2,o3,o4]) rfl ?_
   exact⟨w2,wr,_,bm,om,bsm,HZ.out,HL6.out.1,jT.quiet HL6.out.2.1 hlast,rfl⟩
open Go.Proofs Go.RowKit
theorem Ry {T:Nat→Ty} {L base:Nat} {us:List Value} {I:Nat→Prop} {w:World} {p:Proj} {v:Value} {bs:List Nat} (h:dD T L base us I w (KA p) v bs):
  ∃u2 u3 u4 u5 b2 b3 b4 b5,v= .agg #[.int .i64 p.dead,u2,u3,u4,u5]∧bs=b2++(b3++(b4++b5))∧bL w L (.sl (p.acts.map au.av)) u2 b2∧bL w L (.sl (p.links.map Link.av)) u3 b3∧bL w L (.sl (p.aU.map aP.av)) u4 b4∧bL w L (.sl (p.aL.map i64)) u5 b5∧∀b∈bs,eX w b:=by
 obtain⟨vs,rfl,h,_⟩:=h
 obtain⟨u1,r1,c1,t1,rfl,rfl,⟨rfl,g1⟩,h⟩:=h
 obtain⟨u2,r2,c2,t2,rfl,rfl,g2,h⟩:=h
 obtain⟨u3,r3,c3,t3,rfl,rfl,g3,h⟩:=h
 obtain⟨u4,r4,c4,t4,rfl,rfl,g4,h⟩:=h
 obtain⟨u5,r5,c5,t5,rfl,rfl,g5,h⟩:=h
 obtain⟨rfl,rfl⟩:=h
 obtain⟨k2,m2⟩:=ug g2
 obtain⟨k3,m3⟩:=ug g3
 obtain⟨k4,m4⟩:=ug g4
 obtain⟨k5,m5⟩:=ug g5
 have e1:u1= .int .i64 p.dead:=g1
 subst e1
 refine⟨u2,u3,u4,u5,c2,c3,c4,c5,rfl,by simp,k2,k3,k4,k5,fun b hb=>?_⟩
 simp only [List.nil_append,List.append_nil,List.mem_append] at hb
 rcases hb with hb|hb|hb|hb
 ·exact m2 b hb
 ·exact m3 b hb
 ·exact m4 b hb
 ·exact m5 b hb
theorem Um {w:World} {p:Proj} {a:Nat} {x:au} {u:Value} {bs:List Nat} (h:bL w lim (.sl (p.acts.map au.av)) u bs) (hx:p.acts[a]? =some x) (hne:x.modes≠[]):
  ∃ba oa jg bm om mI b1 bsm b3,u= .slice (some ⟨ba,oa,none⟩) p.acts.length jg∧p.acts.length≤jg∧bs=ba::(b1++bm::(bsm++b3))∧w.cell? ⟨ba,oa+a*3+2,none⟩=some (.slice (some ⟨bm,om,none⟩) x.modes.length mI)∧x.modes.length≤lim∧x.modes.length≤mI∧bG w lim bm 3 (x.modes.map Mode.av) om bsm∧
   ∀(wr:World) (n:Int),(∀y∈ba::(b1++b3),∀i,wr.cell? ⟨y,i,none⟩=w.cell? ⟨y,i,none⟩)→bG wr lim bm 3 ((x.modes.map (Da n)).map Mode.av) om bsm→bL wr lim (.sl ((p.acts.modify a (nM n)).map au.av)) u bs:=by
 have hm:(p.acts.map au.av)[a]? =some x.av:=by rw [List.getElem?_map,hx];rfl
 have hal:p.acts≠[]:=fun e=>by rw [e] at hx;cases hx
 obtain⟨ba,oa,sz,bs',jg,rfl,g1,g2,rfl,g3⟩:=OZ h (by simpa using hal)
 have hsz:3=sz:=g3.OY hm
 subst hsz
 obtain⟨b1,bm,bsm,b3,om,rsz,mI,rfl,hc,k1,k2,k3,k4⟩:=g3.row (k:=2) (row:=x.modes.map Mode.av) hm rfl (by simpa using hne)
 obtain⟨m,hm0⟩:∃m,x.modes[0]? =some m:=by
  cases hmm:x.modes with
  |nil=>exact absurd hmm hne
  |cons m r=>exact⟨m,rfl⟩
 have hr:3=rsz:=k3.OY (j:=0) (x:=m.av) (by rw [List.getElem?_map,hm0];rfl)
 subst hr
 rw [List.length_map] at g1 g2 k1 k2 hc ⊢
 refine⟨ba,oa,jg,bm,om,mI,b1,bsm,b3,rfl,g2,rfl,hc,k1,k2,k3,fun wr n hw hs=>?_⟩
 have hmod:(p.acts.modify a (nM n)).map au.av=(p.acts.map au.av).set a (nM n x).av:=qF hx
 rw [hmod]
 refine Pb (by simp) g1 g2 (k4 wr _ ((x.modes.map (Da n)).map Mode.av) rfl (by simp) (fun i=>hw ba (by simp) i) (fun y hy i=>hw y (List.mem_cons_of_mem _ hy) i) hs)
theorem Rz {A B:List Nat} {m:Nat} (h:(A++m::B).Nodup):∀y,y∈A∨y∈B→y≠m:=by
 rw [List.nodup_append] at h
 obtain⟨_,h2,h3⟩:=h
 rw [List.nodup_cons] at h2
 intro y hy e
 subst e
 rcases hy with hy|hy
 ·exact h3 y hy y (by simp) rfl
 ·exact h2.1 hy
theorem yO {w:World} {L:Nat} {l:List AV} {v:Value} {bs:List Nat} (h:bL w L (.sl l) v bs):∃a cap,v= .slice a l.length cap:=by
 simp only [bL] at h
 obtain⟨a,cap,e,_⟩:=h
 exact⟨a,cap,e⟩
abbrev Jc (q:Proj):List AV:=[i64 q.dead,.sl (q.acts.map au.av),.sl (q.links.map Link.av),.sl (q.aU.map aP.av),.sl (q.aL.map i64)]
def QG (w:World) (q:Proj) (n:Int) (l:List Mode) (w2:World) (c:Value) (bm om:Nat) (bsm:List Nat):Prop:=
 ∃bs cs,c= .agg (List.toArray cs)∧w.heap.size+3≤bm∧(∀b∈bs,w.heap.size+3≤b∧b < w2.heap.size∧eX w2 b)∧∀wr,uF w w2 bm om bsm n l wr→mW wr lim (Jc q) cs bs
theorem Aq {p:Proj} {d:Dly} (h:d.kind=2):delayed p d= { p with acts:=p.acts.modify d.a.toNat (nM d.n) }:=by
 unfold delayed;rw [if_pos h]
theorem Jd {w W w':World} {p:Proj} {a:Nat} {n:Int} {x:au} {I:Nat→Prop} {us:List Value} {v:Value} {bs:List Nat} (hW:w.heap.size+3≤W.heap.size) (hx:p.acts[a]? =some x) (hne:x.modes≠[])
  (hr:dD tab lim W.heap.size us I w' (KA p) v bs) (hnd:bs.Nodup) (hbs:∀b∈bs,W.heap.size≤b∧b < w'.heap.size):
  ∃c e1 a3 a4 a5 n3 n4 n5 q3 q4 q5 ba oa jg bm om mI bsm,v=c∧Uj bsm w' W.heap.size p.acts.length c e1 a3 a4 a5 n3 n4 n5 q3 q4 q5 ba oa jg a bm om x.modes.length mI∧bG w' lim bm 3 (x.modes.map Mode.av) om bsm∧QG w { p with acts:=p.acts.modify a (nM n) } n x.modes w' c bm om bsm:=by
 obtain⟨u2,u3,u4,u5,b2,b3,b4,b5,rfl,rfl,s2,s3,s4,s5,hth⟩:=Ry hr
 obtain⟨a3,q3,rfl⟩:=yO s3
 obtain⟨a4,q4,rfl⟩:=yO s4
 obtain⟨a5,q5,rfl⟩:=yO s5
 obtain⟨ba,oa,jg,bm,om,mI,b1,bsm,b6,rfl,hcap,rfl,hc,k1,k2,k3,k4⟩:=Um s2 hx hne
 have hnd':((ba::b1)++bm::((bsm++b6)++(b3++(b4++b5)))).Nodup:=by
  have:(ba::b1)++bm::((bsm++b6)++(b3++(b4++b5)))=(ba::(b1++bm::(bsm++b6)))++(b3++(b4++b5)):=by simp
  rw [this];exact hnd
 have hmid:=Rz hnd'
 have hmem:∀y,y=ba∨y∈b1∨y=bm∨y∈bsm∨y∈b6∨y∈b3∨y∈b4∨y∈b5→y∈(ba::(b1++bm::(bsm++b6)))++(b3++(b4++b5)):=by
  intro y hy;simp only [List.mem_append,List.mem_cons];rcases hy with h|h|h|h|h|h|h|h<;>simp [h]
 refine⟨_,_,_,_,_,_,_,_,_,_,_,ba,oa,jg,bm,om,mI,bsm,rfl,⟨rfl,(List.getElem?_eq_some_iff.1 hx).1,hcap,hc,k2,hbs _ (hmem ba (by simp)),hbs _ (hmem bm (by simp)),hmid ba (by simp),hth _ (hmem bm (by simp)),fun y hy=>?_⟩,k3,(ba::(b1++bm::(bsm++b6)))++(b3++(b4++b5)),[_,_,_,_,_],rfl,?_,fun b hb=>?_,fun wr hF=>?_⟩
 ·have:=hbs y (hmem y (by simp [hy]))
  exact⟨this.1,this.2,hmid y (by simp [hy])⟩
 ·have:=hbs bm (hmem bm (by simp));omega
 ·have:=hbs b hb
  exact⟨by omega,this.2,hth b hb⟩
 ·have far:∀y,(y=ba∨y∈b1∨y∈b6∨y∈b3∨y∈b4∨y∈b5)→∀i,wr.cell? ⟨y,i,none⟩=w'.cell? ⟨y,i,none⟩:=fun y hy i=>
   World.cell?_of_block (hF.far y (hbs y (hmem y (by rcases hy with h|h|h|h|h|h<;>simp [h]))).2 (hmid y (by rcases hy with h|h|h|h|h|h<;>simp [h])))
  have h2:=k4 wr n (fun y hy=>far y (by simp only [List.mem_cons,List.mem_append] at hy;rcases hy with h|h|h<;>simp [h])) hF.sep
  exact⟨_,_,[],_,rfl,rfl,⟨rfl,rfl⟩,_,_,_,_,rfl,rfl,h2,_,_,_,_,rfl,rfl,bL.mono _ _ _ (fun y hy=>far y (by simp [hy])) s3,_,_,_,_,rfl,rfl,bL.mono _ _ _ (fun y hy=>far y (by simp [hy])) s4,_,_,_,[],rfl,by simp,bL.mono _ _ _ (fun y hy=>far y (by simp [hy])) s5,rfl,rfl⟩
theorem Je {w w' w2 wr:World} {M I:Nat→Prop} {us:List Value} {p:Proj} {d:Dly} {n:Int} {l:List Mode} {ok:Bool} {c:Value} {bm om:Nat} {bsm:List Nat} (hM:∀k,M k→k < w.heap.size) (hd:iN p d=true) (hok:aY (delayed p d)=ok)
  (hz:QG w (delayed p d) n l w2 c bm om bsm) (hF:uF w w2 bm om bsm n l wr) (hL:jT (w.heap.size+2) wr w'):
  Post tab lim I M w us (qw (bg p d)) (.returned (.tuple #[if ok then c else Uk,.bool ok])) w':=by
 obtain⟨bs,cs,rfl,hbm,hbs,hs⟩:=hz
 have q:=hF.q
 have hT:Turn M w w':=Turn.of hM ⟨hL.os.trans (hF.os.trans q.os),hL.tape.trans (hF.tape.trans q.tape),hL.output.trans (hF.output.trans q.output),Nat.le_trans q.size (Nat.le_trans hF.size hL.size),fun k hk=>by
  have h1:=q.size
  have h2:=hF.size
  exact (hL.far k (by omega) (by omega)).trans ((hF.far k (by omega) (by omega)).trans (q.block k hk id))⟩ (Nat.le_trans q.drawn (Nat.le_trans hF.drawn hL.drawn))
 rw [rR hd]
 cases ok with
 |false=>
  rw [if_neg (by simp [hok]),FV]
  refine⟨_,rfl,hT,I,[],fun _ h=>h,fun _ h=>.inl h,List.nodup_nil,fun _ h=>by simp at h,[_,_],rfl,_,_,[],[],rfl,rfl,⟨rfl,?_⟩,_,_,[],[],rfl,rfl,⟨rfl,by simp [aF,aD]⟩,rfl,rfl⟩
  refine⟨[_,_,_,_,_],rfl,rfl,?_,?_,?_,?_,trivial⟩<;>exact⟨none,0,rfl,Nat.zero_le _,Nat.le_refl _,.inl rfl⟩
 |true=>
  rw [if_pos hok,Bt rfl]
  refine⟨_,rfl,hT,fun b=>I b∨b∈bs,[],fun _ h=>.inl h,fun b h=>h.imp id fun h=>?_,List.nodup_nil,fun _ h=>by simp at h,[_,_],rfl,_,_,[],[],rfl,rfl,⟨rfl,?_⟩,_,_,[],[],rfl,rfl,⟨rfl,by simp [aF,aD]⟩,rfl,rfl⟩
  ·obtain⟨h1,h2,h3⟩:=hbs b h
   have h4:=hF.size
   have h5:=hL.size
   refine⟨by omega,by omega,eX.same ?_ (hL.far b (by omega) (by omega))⟩
   by_cases e:b=bm
   ·subst e;exact hF.thaw
   ·exact h3.same (hF.far b h2 e)
  ·have h6:mW w' lim (Jc (delayed p d)) cs bs:=(hs wr hF).mono fun b hb o=>by
    obtain⟨h1,h2,_⟩:=hbs b hb
    have h4:=hF.size
    exact World.cell?_of_block (hL.far b (by omega) (by omega))
   exact⟨cs,rfl,h6.rep fun b hb=>.inr hb⟩
theorem Jf {p:Proj} {a:Nat} {x:au} (hok:aY p=true) (hx:p.acts[a]? =some x):x.modes≠[]∧x.modes.length≤3∧∀m∈x.modes,0≤m.dur∧m.dur≤12:=by
 have h:=(fE hok).act a x hx
 simp only [dH,Bool.and_eq_true,List.all_eq_true,within_iff] at h
 obtain⟨h1,h2,h3⟩:=h
 refine⟨fun e=>by rw [e] at h3;simp at h3,by omega,fun m hm=>?_⟩
 have:=h1 m hm
 simp only [qj,Bool.and_eq_true,within_iff] at this
 omega
theorem BD (p:Proj) (d:Dly) (hp:p.fine) (h2:d.kind=2):Con 33 [.d p.av,.d d.av] (qw (bg p d)):=by
 have hD:=Ai p d hp
 cases hd:iN p d with
 |false=>
  refine con Tryz.func33 rfl rfl Tryz.call33 rfl fun hwf=>?_
  rw [hd] at hD
  rw [nO hd]
  (repeat' ((conv=>whnf);first|refine gA ?_|(refine gB ?_ ?_<;>intro h)|(refine gI ?_;intro x hx)|(refine gJ ?_;intro j x hj hx)|refine gV ?_|refine gC (hD) ?_|intro _))<;>try (conv=>whnf)
  exact fv
 |true=>
 rw [hd] at hD
 obtain⟨hok,ht,hk⟩:=nN hd
 obtain⟨ha,hn⟩:bH p d.a=true∧within d.n 1 12=true:=by
  rcases hk with⟨k,_⟩|⟨_,k⟩|⟨k,_⟩
  ·omega
  ·exact k
  ·omega
 obtain⟨a,x,haa,hx⟩:=iI ha
 have hn:=within_iff.1 hn
 obtain⟨hne,hl3,KO⟩:=Jf hok hx
 have hP:=jJ (delayed p d) (kH hp)
 have hC:=kM p
 have hq:delayed p d= { p with acts:=p.acts.modify a (nM d.n) }:=by rw [Aq h2,haa];rfl
 refine⟨Tryz.call33,fun I J O mt w vs hI _ hO _ _ ha=>?_⟩
 obtain⟨v0,v1,rfl,h0,h1⟩:=FL ha
 have h0:aF I w lim p.av v0:=h0
 have h1:aF I w lim d.av v1:=h1
 have hp0:=h0
 have hd0:=h1
 obtain⟨ds,rfl,hd1⟩:=h0
 obtain⟨es,rfl,he1⟩:=h1
 obtain⟨d1,d2,d3,d4,d5,rfl,_,_,_,_,_⟩:=Bn hd1
 obtain⟨e1,e2,e3,e4,rfl,g1,g2,g3,g4⟩:∃e1 e2 e3 e4,es= [e1,e2,e3,e4]∧e1= .int .i64 2∧e2= .int .i64 a∧e3= .int .i64 d.n∧e4= .int .i64 d.at':=by
  match es,he1 with
  |[e1,e2,e3,e4],⟨g1,g2,g3,g4,_⟩=>
   have g1:e1= .int .i64 d.kind:=g1
   have g2:e2= .int .i64 d.a:=g2
   exact⟨e1,e2,e3,e4,rfl,by rw [g1,h2],by rw [g2,haa],g3,g4⟩
 subst g1 g2 g3 g4
 have hrep:∀W,Quiet w W→aF (fun b=>b < W.heap.size) W lim p.av (.agg #[d1,d2,d3,d4,d5])∧aF (fun b=>b < W.heap.size) W lim d.av (.agg #[.int .i64 2,.int .i64 a,.int .i64 d.n,.int .i64 d.at']):=fun W hq=>
  ⟨aF.mono (fun b hb=>Nat.lt_of_lt_of_le (hI b hb) hq.size) (fun b o hb=>World.cell?_of_block (hq.block b (hI b hb) id)) hp0,aF.mono (fun b hb=>Nat.lt_of_lt_of_le (hI b hb) hq.size) (fun b o hb=>World.cell?_of_block (hq.block b (hI b hb) id)) hd0⟩
 refine (PE (Z:=QG w (delayed p d) d.n x.modes) (l:=x.modes) (na:=p.acts.length) (ok:=aY (delayed p d)) hn KO (by omega) (fun W hW=>qD hD (w:=W) (vs:=[_,_]) ⟨(hrep W hW).1,(hrep W hW).2,trivial⟩) (fun W hW hs=>?_) (fun w2 wr c bm om bsm hz hF=>?_)).mono ?_
 ·refine (hC.2 (fun b=>b < W.heap.size) (fun _=>False) (fun _=>False) false W [_] (fun b h=>h) (fun b h=>h.elim) (fun b h=>h.elim) nofun nofun ⟨(hrep W hW).1,trivial⟩).mono ?_
  rintro e w' ⟨v,rfl,hT,I',bs,_,_,hnd,hbs,hr⟩
  obtain⟨c,e1,a3,a4,a5,n3,n4,n5,q3,q4,q5,ba,oa,jg,bm,om,mI,bsm,rfl,k1,k2,k3⟩:=Jd (n:=d.n) hs hx hne hr hnd (fun b hb=>(hbs b hb).2)
  rw [← hq] at k3
  exact⟨v,e1,a3,a4,a5,n3,n4,n5,q3,q4,q5,ba,oa,jg,bm,om,mI,bsm,rfl,hT.quiet,k1,k2,k3⟩
 ·obtain⟨bs,cs,rfl,hbm,hbs,hs⟩:=hz
  refine qD hP (w:=wr) (vs:=[_]) ⟨?_,trivial⟩
  exact⟨cs,rfl,(hs wr hF).rep fun b hb=>Nat.lt_of_lt_of_le (hbs b hb).2.1 hF.size⟩
 ·rintro e w' ⟨w2,wr,c,bm,om,bsm,hz,hF,hL,rfl⟩
  exact Je (fun k hk=>hO k hk.1) hd rfl hz hF hL
end Go.Proofs.YtpfgedlimdeffaaGreat.Abs
namespace Go.Proofs.YtpfgedlimdeffaaGreat.Abs
open Go.Proofs Go.RowKit
theorem RA (x y:Int) (w:World):Calls Tryz.prog 55 #[.int .i64 x,.int .i64 y] w fun e w'=>e= .returned (.int .i64 (min x y))∧w'=w:=by
 go_enter Tryz.func55,Tryz.ntmps55
 go_wp2_with fail
 all_goals
  go_ret
  simp
  omega
theorem NM {d1 d3 d4 d5:Value} {pb po Gh qb qo PG:Nat} {a na:Nat} {n at':Int} {l:List Mode} {ok:Bool} {Z:World→Value→Nat→Nat→List Nat→Prop} {w:World} (hn:1≤n∧n≤12) (KO:∀m∈l,0≤m.dur∧m.dur≤12) (hlen:l.length < 4611686018427387904) (hpb:pb < w.heap.size∧qb < w.heap.size∧na≤Gh∧l.length≤PG) (hpc:w.cell? ⟨pb,po+a*3+2,none⟩=some (.slice (some ⟨qb,qo,none⟩) l.length PG))
  (hrow:∀(i:Nat) (m:Mode),l[i]? =some m→∃a1 c1 a2 c2,w.cell? ⟨qb,qo+i*3,none⟩=some (.int .i64 m.dur)∧w.cell? ⟨qb,qo+i*3+1,none⟩=some (.slice a1 m.use.length c1)∧w.cell? ⟨qb,qo+i*3+2,none⟩=some (.slice a2 m.con.length c2))
  (hD:∀W,Quiet w W→Calls Tryz.prog 53 #[.agg #[d1,.slice (some ⟨pb,po,none⟩) na Gh,d3,d4,d5],.agg #[.int .i64 2,.int .i64 a,.int .i64 n,.int .i64 at']] W fun e w'=>e= .returned (.bool true)∧Quiet W w')
  (hC:∀W,Quiet w W→w.heap.size+3≤W.heap.size→Calls Tryz.prog 54 #[.agg #[d1,.slice (some ⟨pb,po,none⟩) na Gh,d3,d4,d5]] W fun e w'=>∃c e1 a3 a4 a5 n3 n4 n5 q3 q4 q5 ba oa jg bm om mI bsm,e= .returned c∧Quiet W w'∧Uj bsm w' W.heap.size na c e1 a3 a4 a5 n3 n4 n5 q3 q4 q5 ba oa jg a bm om l.length mI∧bG w' lim bm 3 (l.map Mode.av) om bsm∧Z w' c bm om bsm)
  (hP:∀w2 wr c bm om bsm,Z w2 c bm om bsm→uF w w2 bm om bsm n l wr→Calls Tryz.prog 57 #[c] wr fun e w'=>e= .returned (.bool ok)∧Quiet wr w'):
  Calls Tryz.prog 20 #[.agg #[d1,.slice (some ⟨pb,po,none⟩) na Gh,d3,d4,d5],.agg #[.int .i64 2,.int .i64 a,.int .i64 n,.int .i64 at']] w fun e w'=>
   ∃w2 wr c bm om bsm,Z w2 c bm om bsm∧uF w w2 bm om bsm n l wr∧jT (w.heap.size+2) wr w'∧e= .returned (.tuple #[if ok then c else Uk,.bool ok]):=by
 have HU:=Lib.hid KO
 have HL:=Lib.hid hlen
 have HD:=Lib.hid hD
 have HC:=Lib.hid hC
 have HR:=Lib.hid (And.intro hpb (And.intro hpc hrow))
 have HP:=Lib.hid hP
 clear hD hC hP KO hlen hpb hpc hrow
 go_enter Tryz.func20,Tryz.ntmps20
 go_wp2_with fail
 generalize hW:((w.alloc _).alloc _).alloc _=W
 obtain⟨hB0,hq0⟩:=mM.start hW
 clear hW
 refine (HD.out W hq0).mono ?_
 rintro e w1 ⟨rfl,hq1⟩
 have Ul:=hq0.trans hq1
 obtain⟨p0,p1,p2,p3,p4⟩:=(hB0.quiet hq1).p
 have HB:=Lib.hid (hB0.quiet hq1)
 have HQ:=Lib.hid Ul
 clear hB0 hq0 hq1 Ul HD
 go_wp2_with fail
 refine (HC.out _ HQ.out HB.out.lt).mono ?_
 rintro e w2 ⟨c,e1,a3,a4,a5,n3,n4,n5,q3,q4,q5,ba,oa,jg,bm,om,mI,bsm,rfl,hq2,hco,hse,hz⟩
 obtain⟨hv,alt,hcap,Jb,nmc,hba,hbm,hne,hth,hsub⟩:=hco
 subst hv
 have HZ:=Lib.hid hz
 clear hz
 have hB2:=HB.out.quiet hq2
 have hN:w.heap.size+3≤w1.heap.size∧w1.heap.size≤w2.heap.size:=⟨HB.out.lt,hq2.size⟩
 have q02:=HQ.out.trans hq2
 have old:∀(o:Obj) (b i:Nat),b < w2.heap.size→(w2.alloc o).cell? ⟨b,i,none⟩=w2.cell? ⟨b,i,none⟩:=fun o b i hb=>World.cell?_of_block ((Quiet.alloc w2 o).block b hb id)
 obtain⟨c0,c1,c2,c3⟩:=hB2.d
 have k0:∀o,(w2.alloc o).cell? ⟨w.heap.size+1,0,none⟩=some (.int .i64 2):=fun o=>by rw [old _ _ _ (by omega)];exact c0
 have k1:∀o,(w2.alloc o).cell? ⟨w.heap.size+1,1,none⟩=some (.int .i64 a):=fun o=>by rw [old _ _ _ (by omega)];exact c1
 have kp:∀o,(w2.alloc o).cell? ⟨w.heap.size,1,none⟩=some (.slice (some ⟨pb,po,none⟩) na Gh):=fun o=>by rw [old _ _ _ (by omega)];exact hB2.p.2.1
 have kq:∀o,(w2.alloc o).cell? ⟨pb,po+a*3+2,none⟩=some (.slice (some ⟨qb,qo,none⟩) l.length PG):=fun o=>by
  have h0:=HR.out.1
  have h1:=q02.size
  rw [old _ _ _ (by omega),World.cell?_of_block (q02.block _ h0.1 id)];exact HR.out.2.1
 have km:∀o,(w2.alloc o).cell? ⟨ba,oa+a*3+2,none⟩=some (.slice (some ⟨bm,om,none⟩) l.length mI):=fun o=>by rw [old _ _ _ hba.2];exact Jb
 have i1:(0:Int)≤a:=by omega
 have i2:(a:Int) < na:=by omega
 have HB2:=Lib.hid hB2
 have HQ2:=Lib.hid q02
 have HS:=Lib.hid hse
 have HX:=Lib.hid (And.intro hcap (And.intro nmc (And.intro hba (And.intro hbm (And.intro hne (And.intro hN (And.intro hth (And.intro hsub hn))))))))
 clear hB2 q02 hq2 hth hsub HB HQ HC c0 c1 c2 c3 p0 p1 p2 p3 p4 hse hcap nmc hba hbm hne hn hN Jb old
 have hpost:True:=trivial
 go_wp2_with fail
 generalize hw3:w2.alloc _=w3
 obtain⟨hcap,nmc,hba,hbm,hne,hN,hth,hsub,hn⟩:=HX.out
 have q23:Quiet w2 w3:=hw3 ▸ Quiet.alloc _ _
 have h6:w3.heap[w2.heap.size]? =some (.cells #[.int .i64 e1,.slice (some ⟨ba,oa,none⟩) na jg,.slice a3 n3 q3,.slice a4 n4 q4,.slice a5 n5 q5] 41):=by
  rw [← hw3];simp only [World.alloc,Array.getElem?_push];rw [if_pos trivial]
 have hs3:w3.heap.size=w2.heap.size+1:=by rw [← hw3];simp only [World.alloc,Array.size_push]
 have km3:w3.cell? ⟨ba,oa+a*3+2,none⟩=some (.slice (some ⟨bm,om,none⟩) l.length mI):=by rw [← hw3];exact km _
 clear hw3 k0 k1 kp kq
 have HB3:=Lib.hid (HB2.out.quiet q23)
 have HQ3:=Lib.hid (And.intro HQ2.out q23)
 have HS3:Hid (bG w3 lim bm 3 (l.map Mode.av) om bsm):=Lib.hid (bG.mono _ _ _ _ _ (fun o=>World.cell?_of_block (q23.block _ hbm.2 id)) (fun y hy o=>World.cell?_of_block (q23.block _ (hsub y hy).2.1 id)) HS.out)
 have HT3:Hid (eX w3 bm):=Lib.hid (hth.same (q23.block _ hbm.2 id))
 have H6:=Lib.hid h6
 have HX3:=Lib.hid (And.intro hcap (And.intro nmc (And.intro hba (And.intro hbm (And.intro hne (And.intro hN (And.intro hn (And.intro hs3 (And.intro km3 hsub)))))))))
 clear HB2 HQ2 HS HX h6 q23 hcap nmc hba hbm hne hN hn hs3 km3 km hth hsub
 go_loopg [27] (l.length) (fun k v wr=>∃i:Nat,i≤l.length∧k=l.length - i∧v= .int .i64 i∧Aside (mH w w3 bm om bsm n l i wr))
 case atStart=>exact⟨0,Nat.zero_le _,by omega,rfl,by rw [Db];exact HS3.out,fun _ _ _=>rfl,Nat.le_refl _,rfl,rfl,rfl,Nat.le_refl _,HT3.out⟩
 case round=>
 obtain⟨i,hil,hgk,rfl,HI⟩:=hrel
 by_cases hlt:i < l.length
 ·have j1:(0:Int)≤i:=by omega
  have j2:(i:Int) < l.length:=by omega
  obtain⟨m,hm⟩:∃m,l[i]? =some m:=⟨l[i]'hlt,by simp⟩
  obtain⟨b1,c1,b2,c2,x0,x1,x2⟩:=HR.out.2.2 i m hm
  have YC:∀o,wr.cell? ⟨qb,o,none⟩=w.cell? ⟨qb,o,none⟩:=fun o=>by
   obtain⟨hcap,nmc,hba,hbm,hne,hN,hn,hs3,km3,hsub⟩:=HX3.out
   have h0:=HR.out.1
   refine (World.cell?_of_block (HI.out.far qb (by omega) (by omega))).trans ((World.cell?_of_block (HQ3.out.2.block qb (by omega) id)).trans (World.cell?_of_block (HQ3.out.1.block qb h0.2.1 id)))
  rw [← YC] at x0 x1 x2
  clear YC
  obtain⟨_,_,_,_,_,x3,_,_⟩:=bG.mode HI.out.sep (yN hm)
  go_wp2_with fail
  generalize hw4:wr.alloc _=w4
  have q4:Quiet wr w4:=hw4 ▸ Quiet.alloc _ _
  obtain⟨hcap,nmc,hba,hbm,hne,hN,hn,hs3,km3,hsub⟩:=HX3.out
  have hI:=HI.out
  have hsz:=hI.size
  have Gg:∀b o,b < w3.heap.size→b≠bm→w4.cell? ⟨b,o,none⟩=w3.cell? ⟨b,o,none⟩:=fun b o h1 h2=>(World.cell?_of_block (q4.block b (by omega) id)).trans (World.cell?_of_block (hI.far b h1 h2))
  have y6:w4.cell? ⟨w2.heap.size,1,none⟩=some (.slice (some ⟨ba,oa,none⟩) na jg):=by
   refine (Gg _ _ (by omega) (by omega)).trans ?_;rw [cell_of_row w3 _ _ _ _ _ H6.out];rfl
  have y3:w4.cell? ⟨w.heap.size+1,1,none⟩=some (.int .i64 a):=by
   refine (Gg _ _ (by omega) (by omega)).trans ?_;exact HB3.out.d.2.1
  have y4:w4.cell? ⟨w.heap.size+1,2,none⟩=some (.int .i64 n):=by
   refine (Gg _ _ (by omega) (by omega)).trans ?_;exact HB3.out.d.2.2.1
  have ym:w4.cell? ⟨ba,oa+a*3+2,none⟩=some (.slice (some ⟨bm,om,none⟩) l.length mI):=by
   refine (Gg _ _ (by omega) hne).trans ?_;exact km3
  have y8:w4.cell? ⟨wr.heap.size,0,none⟩=some (.int .i64 m.dur):=by
   have:w4.heap[wr.heap.size]? =some (.cells #[.int .i64 m.dur,.slice b1 m.use.length c1,.slice b2 m.con.length c2] 98):=by
    rw [← hw4];simp only [World.alloc,Array.getElem?_push];rw [if_pos trivial]
   rw [cell_of_row w4 _ _ _ _ _ this];rfl
  have yt:w4.cell? ⟨bm,om+i*3,none⟩=some (.int .i64 m.dur):=by
   exact (World.cell?_of_block (q4.block bm (by omega) id)).trans x3
  have yf:w4.frozen? ⟨bm,om+i*3,none⟩=false:=hI.thaw.same (q4.block bm (by omega) id) _
  have z1:¬ bm=w2.heap.size:=by omega
  have z2:¬ bm=w.heap.size+1:=by omega
  have z3:¬ bm=ba:=fun e=>hne e.symm
  have z4:¬ bm=wr.heap.size:=by omega
  have hwr:IntKind.i64.wrap (m.dur+n)=m.dur+n:=by
   have:=HU.out m (List.mem_of_getElem? hm)
   exact IntWalk.i64_in _ (by omega)
  have HG:=Lib.hid hgk
  have H4:=Lib.hid (And.intro hw4 (And.intro q4 (And.intro hI (And.intro hm hsz))))
  clear hw4 q4 hI hm hsz Gg hcap nmc hba hbm hne hN hn hs3 km3 hsub x0 x1 x2 x3 hgk hil
  go_region_held3 (fun W=>W.cell? ⟨w2.heap.size,1,none⟩=some (.slice (some ⟨ba,oa,none⟩) na jg)∧W.cell? ⟨w.heap.size+1,1,none⟩=some (.int .i64 a)∧W.cell? ⟨w.heap.size+1,2,none⟩=some (.int .i64 n)∧W.cell? ⟨ba,oa+a*3+2,none⟩=some (.slice (some ⟨bm,om,none⟩) l.length mI)∧W.cell? ⟨wr.heap.size,0,none⟩=some (.int .i64 m.dur)) (go_keep) ((go_at_call 55;refine (RA 12 (m.dur+n) _).mono ?_;rintro e w' ⟨rfl,rfl⟩))
  generalize hw5:(w4.setCell _ _).drew=w5
  obtain⟨hw4,q4,hI,hm,hsz⟩:=H4.out
  obtain⟨hcap,nmc,hba,hbm,hne,hN,hn,hs3,km3,hsub⟩:=HX3.out
  have hI5:Hid (mH w w3 bm om bsm n l (i+1) w5):=Lib.hid (hw5 ▸ hI.next hm q4 (by omega) (fun y hy=>by have:=hsub y hy;omega) yt (by first|omega|(split<;>omega)))
  clear hw5 hw4 q4 hI hm hsz hcap nmc hba hbm hne hN hn hs3 km3 hsub y6 y3 y4 ym y8 yt yf z1 z2 z3 z4 HI H4
  have hwi:wrap64 ((i:Int)+1)=((i+1:Nat):Int):=by rw [IntWalk.wrap64_in _ (by have:l.length < 4611686018427387904:=HL.out;omega)];omega
  go_wp2_with fail
  all_goals
   go_roundg (l.length - (i+1))
   case measure=>have:=HG.out;omega
   case rel=>exact⟨i+1,by omega,rfl,by first|(rw [hwi];done)|(rw [Int.natCast_succ];done),hI5.out⟩
 ·have j2:¬(i:Int) < l.length:=by omega
  obtain rfl:i=l.length:=by omega
  clear hgk hil hlt
  have hF:=mH.fin HQ3.out.1 HQ3.out.2 HI.out
  obtain⟨hcap,nmc,hba,hbm,hne,hN,hn,hs3,km3,hsub⟩:=HX3.out
  have hsz:=HI.out.size
  have h6r:wr.heap[w2.heap.size]? =some (.cells #[.int .i64 e1,.slice (some ⟨ba,oa,none⟩) na jg,.slice a3 n3 q3,.slice a4 n4 q4,.slice a5 n5 q5] 41):=(HI.out.far _ (by omega) (by omega)).trans H6.out
  have hBr:mM w.heap.size d1 (.slice (some ⟨pb,po,none⟩) na Gh) d3 d4 d5 a n at' wr:=HB3.out.same fun k hk=>HI.out.far k (by omega) (by omega)
  obtain⟨t0,t1,t2,t3,t4⟩:wr.cell? ⟨w2.heap.size,0,none⟩=some (.int .i64 e1)∧wr.cell? ⟨w2.heap.size,1,none⟩=some (.slice (some ⟨ba,oa,none⟩) na jg)∧wr.cell? ⟨w2.heap.size,2,none⟩=some (.slice a3 n3 q3)∧wr.cell? ⟨w2.heap.size,3,none⟩=some (.slice a4 n4 q4)∧wr.cell? ⟨w2.heap.size,4,none⟩=some (.slice a5 n5 q5):=by
   refine⟨?_,?_,?_,?_,?_⟩<;>(rw [cell_of_row wr _ _ _ _ _ h6r];rfl)
  have k0r:=hBr.d.1
  have HF:=Lib.hid (And.intro hF (And.intro h6r (And.intro hBr (And.intro hN (Nat.le_trans (by omega:w2.heap.size+1≤w3.heap.size) hsz)))))
  clear hF h6r hBr hcap nmc hba hbm hne hN hn hs3 km3 hsub hsz HI HB3 HQ3 HS3 HT3 H6 HX3
  go_wp2_with fail
  refine (HP.out _ _ _ _ _ _ HZ.out HF.out.1).mono ?_
  rintro e w6 ⟨rfl,hq6⟩
  obtain⟨hF,h6r,hBr,hN,hsz⟩:=HF.out
  have h6q:w6.heap[w2.heap.size]? =some (.cells #[.int .i64 e1,.slice (some ⟨ba,oa,none⟩) na jg,.slice a3 n3 q3,.slice a4 n4 q4,.slice a5 n5 q5] 41):=(hq6.block _ (by omega) id).trans h6r
  have hB6:=hBr.quiet hq6
  obtain⟨s0,s1,s2,s3,s4⟩:w6.cell? ⟨w2.heap.size,0,none⟩=some (.int .i64 e1)∧w6.cell? ⟨w2.heap.size,1,none⟩=some (.slice (some ⟨ba,oa,none⟩) na jg)∧w6.cell? ⟨w2.heap.size,2,none⟩=some (.slice a3 n3 q3)∧w6.cell? ⟨w2.heap.size,3,none⟩=some (.slice a4 n4 q4)∧w6.cell? ⟨w2.heap.size,4,none⟩=some (.slice a5 n5 q5):=by
   refine⟨?_,?_,?_,?_,?_⟩<;>(rw [cell_of_row w6 _ _ _ _ _ h6q];rfl)
  obtain⟨r0,r1,r2,r3,r4⟩:w6.cell? ⟨w.heap.size+1+1,0,none⟩=some (.int .i64 0)∧w6.cell? ⟨w.heap.size+1+1,1,none⟩=some (.slice none 0 0)∧w6.cell? ⟨w.heap.size+1+1,2,none⟩=some (.slice none 0 0)∧w6.cell? ⟨w.heap.size+1+1,3,none⟩=some (.slice none 0 0)∧w6.cell? ⟨w.heap.size+1+1,4,none⟩=some (.slice none 0 0):=by
   refine⟨?_,?_,?_,?_,?_⟩<;>(rw [cell_of_row w6 _ _ _ _ _ hB6.r4];rfl)
  obtain⟨f0,f1,f2,f3,f4⟩:w6.frozen? ⟨w.heap.size+1+1,0,none⟩=false∧w6.frozen? ⟨w.heap.size+1+1,1,none⟩=false∧w6.frozen? ⟨w.heap.size+1+1,2,none⟩=false∧w6.frozen? ⟨w.heap.size+1+1,3,none⟩=false∧w6.frozen? ⟨w.heap.size+1+1,4,none⟩=false:=by
   refine⟨?_,?_,?_,?_,?_⟩<;>simp [World.frozen?,hB6.r4]
  have HL6:=Lib.hid (And.intro hF (And.intro hq6 hsz))
  clear hF h6r hBr hN hsz hq6 h6q hB6 t0 t1 t2 t3 t4 HF HP
  have ers:Tryz.f20.results= #[.cell 4 41,.tmp 5]:=rfl
  cases ok with
  |true=>
   go_wp2_with fail
   obtain⟨o0,o1,o2,o3,o4,hlast⟩:=uG (v0:=.int .i64 e1) (v1:=.slice (some ⟨ba,oa,none⟩) na jg) (v2:=.slice a3 n3 q3) (v3:=.slice a4 n4 q4) (v4:=.slice a5 n5 q5) r0 r1 r2 r3 r4
   refine bodyPost_ret (v:=.tuple #[.agg #[.int .i64 e1,.slice (some ⟨ba,oa,none⟩) na jg,.slice a3 n3 q3,.slice a4 n4 q4,.slice a5 n5 q5],.bool true]) (by simp [results,ers,go_sem,o0,o1,o2,o3,o4]) rfl ?_
   exact⟨w2,wr,_,bm,om,bsm,HZ.out,HL6.out.1,jT.quiet HL6.out.2.1 hlast,rfl⟩
  |false=>
   go_wp2_with fail
   obtain⟨o0,o1,o2,o3,o4,hlast⟩:=uG (v0:=.int .i64 0) (v1:=.slice none 0 0) (v2:=.slice none 0 0) (v3:=.slice none 0 0) (v4:=.slice none 0 0) r0 r1 r2 r3 r4
   refine bodyPost_ret (v:=.tuple #[.agg #[.int .i64 0,.slice none 0 0,.slice none 0 0,.slice none 0 0,.slice none 0 0],.bool false]) (by simp [results,ers,go_sem,o0,o1,o2,o3,o4]) rfl ?_
   exact⟨w2,wr,_,bm,om,bsm,HZ.out,HL6.out.1,jT.quiet HL6.out.2.1 hlast,rfl⟩
open Go.Proofs Go.RowKit
theorem RB {I:Nat→Prop} {w:World} {p:Proj} {a:Nat} {x:au} {u:Value} (h:aD I w lim (.sl (p.acts.map au.av)) u) (hx:p.acts[a]? =some x) (hne:x.modes≠[]):
  ∃pb po Gh qb qo PG,u= .slice (some ⟨pb,po,none⟩) p.acts.length Gh∧I pb∧I qb∧p.acts.length≤Gh∧x.modes.length≤PG∧w.cell? ⟨pb,po+a*3+2,none⟩=some (.slice (some ⟨qb,qo,none⟩) x.modes.length PG)∧
   ∀(i:Nat) (m:Mode),x.modes[i]? =some m→∃a1 c1 a2 c2,w.cell? ⟨qb,qo+i*3,none⟩=some (.int .i64 m.dur)∧w.cell? ⟨qb,qo+i*3+1,none⟩=some (.slice a1 m.use.length c1)∧w.cell? ⟨qb,qo+i*3+2,none⟩=some (.slice a2 m.con.length c2):=by
 have hm:(p.acts.map au.av)[a]? =some x.av:=by rw [List.getElem?_map,hx];rfl
 simp only [aD] at h
 obtain⟨ad,cap,rfl,h1,h2,h3⟩:=h
 rcases h3 with h3|⟨pb,po,sz,rfl,hpb,he⟩
 ·have:=(List.getElem?_eq_some_iff.1 hx).1
  rw [List.length_map] at h3;omega
 obtain⟨hsz,hc⟩:=jh.1 (he.get hm)
 have hsz:3=sz:=hsz
 subst hsz
 obtain⟨v,hv,hr⟩:=hc.get (k:=2) (x:=.sl (x.modes.map Mode.av)) rfl
 simp only [aD] at hr
 obtain⟨ad2,cap2,rfl,g1,g2,g3⟩:=hr
 rcases g3 with g3|⟨qb,qo,rz,rfl,hqb,ge⟩
 ·rw [List.length_map] at g3
  exact absurd (List.eq_nil_of_length_eq_zero g3) hne
 rw [List.length_map] at h2 g2 hv ⊢
 refine⟨pb,po,cap,qb,qo,cap2,rfl,hpb,hqb,h2,g2,hv,fun i m hi=>?_⟩
 have hmi:(x.modes.map Mode.av)[i]? =some m.av:=by rw [List.getElem?_map,hi];rfl
 obtain⟨hrz,hmc⟩:=jh.1 (ge.get hmi)
 have hrz:3=rz:=hrz
 subst hrz
 obtain⟨v0,k0,r0⟩:=hmc.get (k:=0) (x:=i64 m.dur) rfl
 obtain⟨v1,k1,r1⟩:=hmc.get (k:=1) (x:=ints m.use) rfl
 obtain⟨v2,k2,r2⟩:=hmc.get (k:=2) (x:=ints m.con) rfl
 simp only [aD] at r0 r1 r2
 obtain⟨a1,c1,rfl,_⟩:=r1
 obtain⟨a2,c2,rfl,_⟩:=r2
 subst r0
 rw [List.length_map] at k1 k2
 exact⟨a1,c1,a2,c2,k0,k1,k2⟩
theorem BF (p:Proj) (d:Dly) (hp:p.fine) (h2:d.kind=2):Con 20 [.d p.av,.d d.av] (qw (bg p d)):=by
 have hD:=Aj p d hp
 cases hd:iN p d with
 |false=>
  refine con Tryz.func20 rfl rfl Tryz.call20 rfl fun hwf=>?_
  rw [hd] at hD
  rw [nO hd]
  (repeat' ((conv=>whnf);first|refine gA ?_|(refine gB ?_ ?_<;>intro h)|(refine gI ?_;intro x hx)|(refine gJ ?_;intro j x hj hx)|refine gV ?_|refine gC (hD) ?_|intro _))<;>try (conv=>whnf)
  exact fv
 |true=>
 rw [hd] at hD
 obtain⟨hok,ht,hk⟩:=nN hd
 obtain⟨ha,hn⟩:bH p d.a=true∧within d.n 1 12=true:=by
  rcases hk with⟨k,_⟩|⟨_,k⟩|⟨k,_⟩
  ·omega
  ·exact k
  ·omega
 obtain⟨a,x,haa,hx⟩:=iI ha
 have hn:=within_iff.1 hn
 obtain⟨hne,hl3,KO⟩:=Jf hok hx
 have hP:=mg (delayed p d) (kH hp)
 have hC:=nk p
 have hq:delayed p d= { p with acts:=p.acts.modify a (nM d.n) }:=by rw [Aq h2,haa];rfl
 refine⟨Tryz.call20,fun I J O mt w vs hI _ hO _ _ ha=>?_⟩
 obtain⟨v0,v1,rfl,h0,h1⟩:=FL ha
 have h0:aF I w lim p.av v0:=h0
 have h1:aF I w lim d.av v1:=h1
 have hp0:=h0
 have hd0:=h1
 obtain⟨ds,rfl,hd1⟩:=h0
 obtain⟨es,rfl,he1⟩:=h1
 obtain⟨d1,d2,d3,d4,d5,rfl,_,YD,_,_,_⟩:=Bn hd1
 obtain⟨pb,po,Gh,qb,qo,PG,rfl,hpb,hqb,YE,YF,hpc,hrow⟩:=RB YD hx hne
 obtain⟨e1,e2,e3,e4,rfl,g1,g2,g3,g4⟩:∃e1 e2 e3 e4,es= [e1,e2,e3,e4]∧e1= .int .i64 2∧e2= .int .i64 a∧e3= .int .i64 d.n∧e4= .int .i64 d.at':=by
  match es,he1 with
  |[e1,e2,e3,e4],⟨g1,g2,g3,g4,_⟩=>
   have g1:e1= .int .i64 d.kind:=g1
   have g2:e2= .int .i64 d.a:=g2
   exact⟨e1,e2,e3,e4,rfl,by rw [g1,h2],by rw [g2,haa],g3,g4⟩
 subst g1 g2 g3 g4
 have hrep:∀W,Quiet w W→aF (fun b=>b < W.heap.size) W lim p.av (.agg #[d1,.slice (some ⟨pb,po,none⟩) p.acts.length Gh,d3,d4,d5])∧aF (fun b=>b < W.heap.size) W lim d.av (.agg #[.int .i64 2,.int .i64 a,.int .i64 d.n,.int .i64 d.at']):=fun W hq=>
  ⟨aF.mono (fun b hb=>Nat.lt_of_lt_of_le (hI b hb) hq.size) (fun b o hb=>World.cell?_of_block (hq.block b (hI b hb) id)) hp0,aF.mono (fun b hb=>Nat.lt_of_lt_of_le (hI b hb) hq.size) (fun b o hb=>World.cell?_of_block (hq.block b (hI b hb) id)) hd0⟩
 refine (NM (Z:=QG w (delayed p d) d.n x.modes) (l:=x.modes) (na:=p.acts.length) (ok:=aY (delayed p d)) hn KO (by omega) ⟨hI _ hpb,hI _ hqb,YE,YF⟩ hpc hrow (fun W hW=>qD hD (w:=W) (vs:=[_,_]) ⟨(hrep W hW).1,(hrep W hW).2,trivial⟩) (fun W hW hs=>?_) (fun w2 wr c bm om bsm hz hF=>?_)).mono ?_
 ·refine (hC.2 (fun b=>b < W.heap.size) (fun _=>False) (fun _=>False) false W [_] (fun b h=>h) (fun b h=>h.elim) (fun b h=>h.elim) nofun nofun ⟨(hrep W hW).1,trivial⟩).mono ?_
  rintro e w' ⟨v,rfl,hT,I',bs,_,_,hnd,hbs,hr⟩
  obtain⟨c,e1,a3,a4,a5,n3,n4,n5,q3,q4,q5,ba,oa,jg,bm,om,mI,bsm,rfl,k1,k2,k3⟩:=Jd (n:=d.n) hs hx hne hr hnd (fun b hb=>(hbs b hb).2)
  rw [← hq] at k3
  exact⟨v,e1,a3,a4,a5,n3,n4,n5,q3,q4,q5,ba,oa,jg,bm,om,mI,bsm,rfl,hT.quiet,k1,k2,k3⟩
 ·obtain⟨bs,cs,rfl,hbm,hbs,hs⟩:=hz
  refine qD hP (w:=wr) (vs:=[_]) ⟨?_,trivial⟩
  exact⟨cs,rfl,(hs wr hF).rep fun b hb=>Nat.lt_of_lt_of_le (hbs b hb).2.1 hF.size⟩
 ·rintro e w' ⟨w2,wr,c,bm,om,bsm,hz,hF,hL,rfl⟩
  exact Je (fun k hk=>hO k hk.1) hd rfl hz hF hL
theorem Dw (p:Proj) (d:Dly) (hp:p.fine):Con 33 [.d p.av,.d d.av] (qw (bg p d)):=by
 by_cases h:d.kind=2
 ·exact BD p d hp h
 ·exact Bu p d hp h
theorem Dx (p:Proj) (d:Dly) (hp:p.fine):Con 20 [.d p.av,.d d.av] (qw (bg p d)):=by
 by_cases h:d.kind=2
 ·exact BF p d hp h
 ·exact Bv p d hp h
end Go.Proofs.YtpfgedlimdeffaaGreat.Abs
