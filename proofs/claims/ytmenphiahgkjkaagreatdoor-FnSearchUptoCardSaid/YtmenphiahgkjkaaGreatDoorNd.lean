/- Clauses: sorted, each literal once. -/
import Derived.WalkKit
import Derived.Deep.LoopGhost
import Derived.Lib.Hide
import Derived.Shelf.SlSortCmp.NoneTotal
import Derived.Test.YtmenphiahgkjkaaGreatDoorSh
import Derived.Test.YtmenphiahgkjkaaGreatDoorSet
import Derived.Test.YtmenphiahgkjkaaGreatDoorC25
import Derived.Sort.WalkB12
import Derived.Lib.SliceRun
import Derived.Deep.Draws
import Derived.Lib.Walk
import Derived.Shelf.RegionOpenPlain
import Derived.Test.YtmenphiahgkjkaaGreatDoorCmp
import Derived.Test.YtmenphiahgkjkaaGreatDoorWo
set_option linter.all false
set_option maxRecDepth 100000
set_option maxHeartbeats 4000000
namespace Go.Proofs.YtmenphiahgkjkaaGreatDoor.Abs
open Go.Proofs Go.RowKit Go.Sort
instance:Inhabited Lit:=⟨bU⟩
theorem Vw {W w':World} (q:Quiet W w'):∃n os,w'=grow (W.drewN n) os:=by
 refine⟨w'.drawn - W.drawn,w'.heap.extract W.heap.size w'.heap.size,?_⟩
 have hh:w'.heap=W.heap++w'.heap.extract W.heap.size w'.heap.size:=by
  apply Array.ext_getElem?
  intro k
  by_cases hk:k < W.heap.size
  ·rw [Array.getElem?_append_left hk];exact q.block k hk id
  ·rw [Array.getElem?_append_right (by omega),Array.getElem?_extract]
   split
   ·congr 1;omega
   ·rw [Array.getElem?_eq_none (by omega)]
 have h1:=q.os
 have h2:=q.tape
 have h3:=q.output
 have h4:=q.drawn
 cases w'
 cases W
 simp only at h1 h2 h3 h4 hh
 subst h1 h2 h3
 simp only [grow,World.drewN,World.mk.injEq,and_true,true_and]
 exact⟨hh,by omega⟩
abbrev XH (x:Lit):List Value:=[.int .i64 x.kind,.int .i64 x.act,.int .i64 x.val]
theorem Lu (l:List Lit):flatK XH 3 l.toArray=((dJ l).map (Value.int .i64)).toArray:=by
 apply Array.ext
 ·simp [gX];omega
 ·intro i h1 h2
  have hi:i < l.length*3:=by simpa using h1
  rw [← getElem!_pos _ i h1,get_flatK _ _ _ _ (by simpa using hi)]
  have hj:i / 3 < l.length:=by omega
  rw [getElem!_pos l.toArray (i / 3) (by simpa using hj)]
  obtain⟨f1,f2,f3⟩:=rZ (l:=l) (j:=i / 3) (x:=l[i / 3]) (by simp [hj])
  have e:∀(k:Nat) (y:Int),i=k→(dJ l)[k]? =some y→((dJ l).map (Value.int .i64)).toArray[i]= .int .i64 y:=by
   rintro k y rfl hy
   obtain⟨_,rfl⟩:=List.getElem?_eq_some_iff.1 hy
   simp
  rcases (by omega:i % 3=0∨i % 3=1∨i % 3=2) with h|h|h
  ·rw [e _ _ (by omega) f1,h];simp
  ·rw [e _ _ (by omega) f2,h];simp
  ·rw [e _ _ (by omega) f3,h];simp
theorem TA (w:World) (b o:Nat) (F:List Int):putRow id w b o (F.map (Value.int .i64)).toArray=putRow (Value.int .i64) w b o F.toArray:=by
 have:putCells id o (F.map (Value.int .i64)).toArray=putCells (Value.int .i64) o F.toArray:=by
  funext c
  simp only [putCells]
  congr 1
  funext k x
  simp only [List.size_toArray,List.length_map,id]
  split
  ·rename_i h
   rw [getElem!_pos _ _ (by simp;omega),getElem!_pos _ _ (by simp;omega)];simp
  ·rfl
 simp only [putRow,this]
theorem aaO (x y:Lit):ltOf kg x y=true↔x.act < y.act∨(x.act=y.act∧(x.kind < y.kind∨(x.kind=y.kind∧x.val < y.val))):=by
 rw [ltOf,decide_eq_true_eq,XG]
theorem Lv (x y:Lit):ltOf kg x y=false↔¬(x.act < y.act∨(x.act=y.act∧(x.kind < y.kind∨(x.kind=y.kind∧x.val < y.val)))):=by
 rw [← aaO];simp
theorem abG:SWO (ltOf kg) where
 irrefl x:=by rw [Lv];omega
 trans x y z h k:=by rw [aaO] at*;omega
 ntrans x y z h k:=by rw [Lv] at*;omega
theorem abH (x y:Lit) (h:ltOf kg x y=false) (k:ltOf kg y x=false):x=y:=by
 rw [Lv] at h k
 cases x;cases y
 simp only at h k
 simp only [Lit.mk.injEq];omega
def WR (l:List Lit):List Lit:=l.mergeSort fun x y=> !(ltOf kg) y x
theorem Zc {l:List Lit} {b cap:Nat} {w:World} (hD:DW 79 3 w w b cap (dJ l)) (hl:l.length≤274877906944):
  Calls Tryz.prog 99 #[.slice (some ⟨b,0,none⟩) l.length cap,.func (.func 100) #[] #[]] w fun e w'=>e= .returned (.tuple #[])∧DW 79 3 w w' b cap (dJ (WR l)):=by
 have hH:HoldsK XH 3 w b 0 l.toArray:=by
  rw [HoldsK,Lu]
  intro i hi
  have hi':i < (dJ l).length:=by simpa using hi
  refine⟨?_,hD.frozen _⟩
  rw [Nat.zero_add,hD.cell (x:=(dJ l)[i]) (by simp [hi']),getElem!_pos _ i hi];simp
 have hcmp:CmpLays Tryz.prog 100 #[] XH 3 kg b 0 l.toArray.size w:=fun m os dk hdk x y=>by
  have h:=Ow (qF x y) (w:=sortWorldK XH 3 w b 0 m dk os) (vs:=[Ba x,Ba y]) ⟨QF x,QF y,trivial⟩
  refine Calls.mono (args:= #[Ba x,Ba y]) h ?_
  rintro e w' ⟨rfl,hq⟩
  exact⟨rfl,Vw hq⟩
 refine (AnyQ.slices_SortFunc_total Tryz.sortLit 3 (fun w=>by kernel_rfl) (fun w=>by kernel_rfl) XH (fun _=>rfl) (fun x v hv=>by simp [XH] at hv;rcases hv with rfl|rfl|rfl<;>rfl) kg abG 100 #[] b 0 cap l.toArray w (fun _ _=>rfl) hcmp hH hD.lt (by simp;omega) abH).mono ?_
 rintro e w' ⟨rfl,n,os,rfl⟩
 refine⟨rfl,?_⟩
 rw [sortWorldK,putRowK,show l.toArray.toList=l by simp,Lu,TA]
 exact hD.sorted (by rw [gX,gX,List.length_mergeSort])
set_option maxRecDepth 1000000
open Go.Proofs Go.RowKit Go.Sort
structure acX (W:World) (b o:Nat) (x:Lit):Prop where
 k:W.cell? ⟨b,o,none⟩=some (.int .i64 x.kind)
 a:W.cell? ⟨b,o+1,none⟩=some (.int .i64 x.act)
 v:W.cell? ⟨b,o+2,none⟩=some (.int .i64 x.val)
theorem DW.lit {E:Nat} {w W:World} {b cap:Nat} {l:List Lit} (h:DW E 3 w W b cap (dJ l)) {j:Nat} {x:Lit} (hx:l[j]? =some x):acX W b (j*3) x:=by
 obtain⟨f1,f2,f3⟩:=rZ hx
 rw [Nat.mul_comm 3 j] at f1 f2 f3
 exact⟨h.cell f1,h.cell f2,h.cell f3⟩
theorem QG {P:Program} {T:Nat→Ty} {L:Nat} (hT:bN P T) {t:Nat} {l m:List AV} {b:Bool} {I:Nat→Prop} {w:World} {cs ds:List Value} (hfl:FZ T t l=true) (hb:lK l m=some b)
  (hx2:aR (aG I w L) l cs) (hy2:aR (aG I w L) m ds):(Op.equal t (.agg cs.toArray) (.agg ds.toArray)).run P w= .ok b w:=by
 unfold FZ at hfl
 simp only [Bool.and_eq_true] at hfl
 obtain⟨heq,hfl⟩:=hfl
 split at hfl
 ·rename_i fs hk
  have hg:(T t).good=true:=by simp [Ty.good,hk]
  obtain⟨d,hd,hkk⟩:=(hT t hg).und
  rw [hk] at hkk
  obtain⟨fields,rfl,hfs,_⟩:=hkk
  obtain⟨e1,e2,e3⟩:=(hT t hg).abV heq
  have hfo:P.fieldsOf t=fields:=by simp [Program.fieldsOf,hd]
  rw [hfo] at e3
  unfold Op.equal
  show (Op.equalIn (9999+1) t _ _).run P w=_
  rw [run_equalIn_struct w 9999 t _ _ (by rw [hfo];exact hd) e1,hfo]
  exact xq hT 9998 fields.toList 0 l m b (fun f hf=>e3 f (by simpa using hf)) (by rw [hfs];exact hfl) hb (by simpa using hx2) (by simpa using hy2)
 ·cases hfl
theorem Oy (x y:Lit) (w:World):(Op.equal 79 (Ba x) (Ba y)).run Tryz.prog w= .ok (bH x y) w:=by
 have h:=QG (P:=Tryz.prog) (T:=tab) (L:=lim) aaK (t:=79) (l:=[i64 x.kind,i64 x.act,i64 x.val]) (m:=[i64 y.kind,i64 y.act,i64 y.val]) (b:=bH x y) (I:=fun _=>False) (w:=w) (cs:=[.int .i64 x.kind,.int .i64 x.act,.int .i64 x.val]) (ds:=[.int .i64 y.kind,.int .i64 y.act,.int .i64 y.val]) (by kernel_rfl) (by simp [lK,Yd,bH]) ⟨rfl,rfl,rfl,trivial⟩ ⟨rfl,rfl,rfl,trivial⟩
 exact h
theorem abI (x y:Lit) (w:World):Sem.run Tryz.prog (binOp .eql 79 (Ba x) (Ba y)) w= .ok (.bool (bH x y)) w:=by
 simp [Go.binOp,Oy]
theorem abJ (x y:Lit) (w:World):Sem.run Tryz.prog (binOp .neq 79 (Ba x) (Ba y)) w= .ok (.bool (!bH x y)) w:=by
 simp [Go.binOp,Oy]
def Zd (w:World) (b cap:Nat) (r:List Lit) (e:Ending) (w':World):Prop:=e= .returned (.slice (some ⟨b,0,none⟩) r.length cap)∧DW 79 3 w w' b cap (dJ r)
theorem TB {l:List Lit} {b cap:Nat} {w:World} (hD:DW 79 3 w w b cap (dJ l)) (hcap:l.length≤cap) (hl:l.length≤274877906944):
  Calls Tryz.prog 101 #[.slice (some ⟨b,0,none⟩) l.length cap] w (Zd w b cap (dM l)):=by
 by_cases h2:l.length < 2
 ·have e:=zA h2
  rw [e]
  have HD:=Lib.hid hD
  clear hD e
  go_enter Tryz.func101,Tryz.ntmps101
  go_wp2_with fail
  go_ret
  exact⟨rfl,HD.out⟩
 ·have HD:=Lib.hid hD
  have heq:=abI
  have hne:=abJ
  simp only [Ba] at heq hne
  clear hD
  go_enter Tryz.func101,Tryz.ntmps101
  go_wp2_with fail
  go_loopg [3,4,5] l.length (fun gg s3 s4 s5 wr=>∃(k:Nat),s3= .int .i64 (k+1)∧k+1≤l.length∧l.length - k≤gg∧Aside (DW 79 3 w wr b cap (dJ l)∧dM (l.take (k+1))=l.take (k+1)))
  case atStart=>exact⟨0,rfl,by omega,by omega,HD.out,by
   obtain⟨x,hx⟩:∃x,l[0]? =some x:=⟨l[0]'(by omega),by simp⟩
   rw [mZ hx];cases l with
   |nil=>simp at hx
   |cons y l=>simp at hx;subst hx;rfl⟩
  case round=>
   obtain⟨k,rfl,hkl,hgg,hq⟩:=hrel
   by_cases hlt:k+1 < l.length
   ·obtain⟨x,hx⟩:∃x,l[k]? =some x:=⟨l[k]'(by omega),by simp⟩
    obtain⟨y,hy⟩:∃y,l[k+1]? =some y:=⟨l[k+1]'(by omega),by simp⟩
    obtain⟨x1,x2,x3⟩:=hq.out.1.lit hx
    obtain⟨y1,y2,y3⟩:=hq.out.1.lit hy
    have HX:=Lib.hid hx
    have HY:=Lib.hid hy
    clear hx hy
    have hmx:Tryz.prog.follows .mixedOrders=true:=mixed
    have n1:(0:Int)≤(k:Int)+1:=by omega
    by_cases hxy:y=x
    ·have hs:bH y x=true:=iN.2 hxy
     have CS:=Lib.hid (uF.start hq.out.2 (hxy ▸ HX.out) HY.out)
     have D0:=Lib.hid hq.out.1.drew
     clear hq HX HY hxy
     go_wp2_with fail
     go_region_o
     go_wp2_with fail
     clear x1 x2 x3 y1 y2 y3 hs
     go_loopg [3,5] l.length (fun gg s3 s5 wr2=>∃(K j:Nat) (dk:List Lit),s3= .int .i64 K∧s5= .int .i64 (j+1)∧k+j+2≤l.length∧l.length - (k+j+2)≤gg∧Aside (uF l K (k+j+2) dk∧DW 79 3 w wr2 b cap (dJ dk)))
     case atStart=>exact⟨k+1,0,l,by go_num,rfl,by omega,by omega,CS.out,D0.out⟩
     case round=>
      obtain⟨K,j,dk,rfl,rfl,hkj,hg2,hq2⟩:=hrel
      have hKm:=hq2.out.1.km
      by_cases hlt2:k+j+2 < l.length
      ·obtain⟨x,hx⟩:∃x,l[k+j+1]? =some x:=⟨l[k+j+1]'(by omega),by simp⟩
       obtain⟨z,hz⟩:∃z,l[k+j+2]? =some z:=⟨l[k+j+2]'(by omega),by simp⟩
       obtain⟨x1,x2,x3⟩:=hq2.out.2.lit (hq2.out.1.at (by omega) hx)
       obtain⟨z1,z2,z3⟩:=hq2.out.2.lit (hq2.out.1.at (by omega) hz)
       have n2:(0:Int)≤(j:Int)+1:=by omega
       rw [show (k+j+1)*3=(k+1)*3+j*3 by omega] at x1 x2 x3
       rw [show (k+j+2)*3=(k+1)*3+(j+1)*3 by omega] at z1 z2 z3
       by_cases hzx:z=x
       ·have hs:bH z x=true:=iN.2 hzx
        have CS2:=Lib.hid (hq2.out.1.same (by rw [show k+j+2 - 1=k+j+1 by omega];exact hx) (hzx ▸ hz))
        have D2:=Lib.hid hq2.out.2.drew
        clear hq2 hx hz hzx
        go_wp2_with fail
        go_region_o
        go_wp2_with fail
        go_roundg (l.length - (k+j+1+2))
        case measure=>omega
        case rel=>exact⟨K,j+1,dk,rfl,by go_num,by omega,by omega,CS2.out,D2.out⟩
       ·have hs:bH z x=false:=by
         cases h:bH z x with
         |false=>rfl
         |true=>exact absurd (iN.1 h) hzx
        have CS2:=Lib.hid (hq2.out.1.new (by rw [show k+j+2 - 1=k+j+1 by omega];exact hx) hz hzx)
        have hKl:K < dk.length:=by have:=hq2.out.1.len;omega
        obtain⟨y2,hy2⟩:∃y2,dk[K]? =some y2:=⟨dk[K],by simp [hKl]⟩
        obtain⟨c1,c2,c3⟩:=hq2.out.2.lit hy2
        have f1:=hq2.out.2.frozen (K*3)
        have f2:=hq2.out.2.frozen (K*3+1)
        have f3:=hq2.out.2.frozen (K*3+2)
        have D2:=Lib.hid (hq2.out.2.acV (x:=z) hKl).drew
        clear hq2 hx hz hy2 hzx
        go_wp2_with fail
        go_region_o
        go_wp2_with fail
        go_roundg (l.length - (k+j+1+2))
        case measure=>omega
        case rel=>exact⟨K+1,j+1,dk.set K z,by go_num,by go_num,by omega,by omega,CS2.out,D2.out⟩
      ·have hK1:K < l.length:=by omega
       have hlen:=hq2.out.1.len
       have hkept:=hq2.out.1.kept
       have e0:l.take (k+j+2)=l:=List.take_of_length_le (by omega)
       rw [e0] at hkept
       have hlk:(dM l).length=K:=by rw [← hkept,List.length_take];omega
       have hcl:=hq2.out.2.cleared (i:=K) (n:=l.length - K) (by omega)
       rw [hkept,List.map_replicate] at hcl
       have HC:=Lib.hid hcl
       have HK:=Lib.hid hlk
       have HS1:=Lib.hid (show ∀i,i < (l.length - K)*3→(wr.cell? ⟨b,K*3+i,none⟩).isSome=true from fun i hi=>hq2.out.2.there (by omega))
       have HF1:=Lib.hid (show ∀i,i < (l.length - K)*3→wr.frozen? ⟨b,K*3+i,none⟩=false from fun i _=>hq2.out.2.frozen _)
       clear hq2 hkept hlk hcl hlen
       go_wp2_with fail
       rw [tL (k:=3) _ _ _ _ _ aaN WM rfl b (K*3) (l.length - K) (cap - K) (by omega) HS1.out HF1.out]
       go_wp2_with fail
       go_ret
       have hcl:=HC.out
       refine⟨congrArg (fun n:Nat=>Ending.returned (.slice (some ⟨b,0,none⟩) n cap)) HK.out.symm,?_⟩
       simpa using hcl
    ·have hs:bH y x=false:=by
      cases h:bH y x with
      |false=>rfl
      |true=>exact absurd (iN.1 h) hxy
     have CS:=Lib.hid (show dM (l.take (k+1+1))=l.take (k+1+1) by
      rw [xG (m:=k) HX.out HY.out hxy,hq.out.2]
      obtain⟨hk1,e⟩:=List.getElem?_eq_some_iff.1 HY.out
      rw [List.take_succ_eq_append_getElem hk1,e])
     have D0:=Lib.hid hq.out.1.drew
     clear hq HX HY hxy
     go_wp2_with fail
     go_region_o
     go_wp2_with fail
     go_roundg (l.length - (k+1))
     case measure=>omega
     case rel=>exact⟨k+1,by go_num,by omega,by omega,D0.out,CS.out⟩
   ·obtain⟨e1,e2⟩:=hq.out
    rw [List.take_of_length_le (by omega)] at e2
    have HQ:=Lib.hid e1
    have HE:=Lib.hid e2
    clear hq e1 e2
    go_wp2_with fail
    go_ret
    exact⟨congrArg (fun n:Nat=>Ending.returned (.slice (some ⟨b,0,none⟩) n cap)) (congrArg List.length HE.out).symm,by rw [HE.out];exact HQ.out⟩
theorem QH (w:World):Calls Tryz.prog 101 #[.slice none 0 0] w fun e w'=>e= .returned (.slice none 0 0)∧w'=w:=by
 go_enter Tryz.func101,Tryz.ntmps101
 go_wp2_with fail
 go_ret
 exact⟨rfl,rfl⟩
end Go.Proofs.YtmenphiahgkjkaaGreatDoor.Abs
namespace Go.Proofs.YtmenphiahgkjkaaGreatDoor.Abs
open Go.Proofs Go.RowKit Go.Sort
theorem EU (l:List Lit):dM (WR l)=dh l:=KH l
theorem iW (l:List Lit):Con 62 [.d (lits l)] (.own 79 ((dh l).map Lit.av)):=by
 refine⟨Tryz.call62,fun I J O mt w vs hI _ hO _ _ ha=>?_⟩
 have hwf:=nY.wfs ha
 simp only [ARs.wf,AR.wf,AV.wf,AV.wfs,List.length_map] at hwf
 match vs,ha with
 |[v0],ha=>
  obtain⟨h0,_⟩:=ha
  have hCl:=(GI l).2 I (fun _=>False) (fun _=>False) false w [v0] hI (fun b h=>h.elim) (fun b h=>h.elim) nofun nofun ⟨h0,trivial⟩
  have HI:=Lib.hid hI
  have HO:=Lib.hid hO
  have HW:=Lib.hid hwf
  clear hI hO hwf h0
  go_enter Tryz.func62,Tryz.ntmps62
  go_wp2_with fail
  refine hCl.mono ?_
  rintro e w2 ⟨v,rfl,hT,I',bs,k1,k2,k3,k4,k5⟩
  obtain⟨_,_,_,_,xs,m1,m2⟩:=k5
  obtain rfl:=Df m2
  rw [List.length_map] at m1
  have hb2:=hT.quiet
  clear hCl hT k1 k2 k3 k4 m2
  rcases m1.2 with⟨rfl,hn⟩|⟨b,cap,cur,rfl,hbb,_⟩
  ·obtain rfl:=List.eq_nil_of_length_eq_zero hn
   have hs:=AnyF.slices_SortFunc_none Tryz.sortLit none 0 (.func (.func 100) #[] #[]) w2
   have hc:=QH w2
   have HB:=Lib.hid hb2
   clear hb2 m1 hn
   go_wp2_with fail
   refine hs.mono ?_
   rintro e w3 ⟨rfl,rfl⟩
   clear hs
   go_wp2_with fail
   refine hc.mono ?_
   rintro e w4 ⟨rfl,rfl⟩
   clear hc
   go_wp2_with fail
   go_ret
   refine⟨_,rfl,Turn.ofQ (fun k hk=>HO.out k hk.1) HB.out,I,[],fun k hk=>hk,fun k hk=>.inl hk,List.nodup_nil,fun _ h=>by simp at h,rfl,by simp [dh],rfl,AL,[],⟨rfl,.inl ⟨rfl,rfl⟩⟩,rfl⟩
  ·obtain⟨hD,hnc,hcm,hfl,hbs⟩:=Le m1
   have hlt:=hD.lt
   have hs:=Zc hD HW.out.1.1
   have HB:=Lib.hid hb2
   have HE:=Lib.hid hnc
   clear hb2 m1 hnc hfl
   have hl0:b < w2.heap.size:=hD.lt
   go_wp2_with fail
   refine hs.mono ?_
   rintro e w3 ⟨rfl,hD3⟩
   clear hs
   have hlen:(WR l).length=l.length:=List.length_mergeSort _
   obtain⟨abF,r1,r2,r3,r4⟩:=hD3.row
   have hc:=TB (l:=WR l) (b:=b) (cap:=cap) (w:=w3) ⟨rfl,rfl,rfl,Nat.le_refl _,Nat.le_refl _,hD3.ltW,fun _ _ _=>rfl,abF,r1,r2,r3,r4⟩ (by rw [hlen];exact HE.out) (by rw [hlen];exact HW.out.1.1)
   rw [hlen] at hc
   have H3:=Lib.hid hD3
   clear hD3 hlen r1 r2 r3 r4
   go_wp2_with fail
   refine hc.mono ?_
   rintro e w4 ⟨rfl,hD4⟩
   clear hc
   rw [EU] at hD4
   have H4:=Lib.hid hD4
   clear hD4
   go_wp2_with fail
   go_ret
   have hD4:=H4.out
   have hD3:=H3.out
   have hbw:Quiet w w4:=hD4.quiet (hD3.quiet HB.out hbb) hbb
   have hsl:=Bz l
   have hlim:=HW.out.1.1
   refine⟨_,rfl,Turn.ofQ (fun k hk=>HO.out k hk.1) hbw,I,[b],fun k hk=>hk,fun k hk=>.inl hk,by simp,?_,rfl,by rw [List.length_map];exact Nat.le_trans hsl hlim,rfl,AL,(dJ (dh l)).map (Value.int .i64),?_,Dh _⟩
   ·intro k hk
    obtain rfl:=List.mem_singleton.1 hk
    exact⟨fun hi=>by have:=HI.out _ hi;omega,hbb,hD4.ltW⟩
   ·rw [List.length_map]
    have ho:=hD4.owns (n:=(dh l).length) (base:=w.heap.size) (by rw [gX];omega) hbb (Nat.le_trans hsl HE.out) hcm
    rw [EU]
    exact ho
 |[],ha=>exact ha.elim
 |_::_::_,ha=>exact ha.2.elim
end Go.Proofs.YtmenphiahgkjkaaGreatDoor.Abs
