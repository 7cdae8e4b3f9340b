/- Sets of numbers: sorted, each once. -/
import Derived.Shelf.SortM.Plain
import Derived.Shelf.SortM.SortNone
import Derived.Test.YtpfgedlimdeffaaGreatSh
import Derived.Test.YtpfgedlimdeffaaGreatCmp
import Derived.Test.YtpfgedlimdeffaaGreatWo
set_option linter.all false
set_option maxRecDepth 100000
set_option maxHeartbeats 4000000
namespace Go.Proofs.YtpfgedlimdeffaaGreat.Abs
open Go.Proofs Go.RowKit Go.Sort
theorem DW.sorted {E sz:Nat} {w W:World} {b cap n:Nat} {F G:List Int} {os:Array Obj} (h:DW E sz w W b cap F) (hl:G.length=F.length):DW E sz w (grow (putRow (Value.int .i64) (Sort.ahead W n) b 0 G.toArray) os) b cap G:=by
 obtain⟨cur,h1,h2,h3,h4⟩:=h.row
 have hsz:(putRow (Value.int .i64) (Sort.ahead W n) b 0 G.toArray).heap.size=W.heap.size:=by simp [putRow,mapBlock,Sort.ahead]
 have hget:∀k,k < W.heap.size→(grow (putRow (Value.int .i64) (Sort.ahead W n) b 0 G.toArray) os).heap[k]? =(putRow (Value.int .i64) (Sort.ahead W n) b 0 G.toArray).heap[k]? :=fun k hk=>by
  simp only [grow]
  rw [Array.getElem?_append_left (by rw [hsz];exact hk)]
 refine⟨h.os,h.tape,h.output,?_,Nat.le_trans h.drawn (Nat.le_add_right _ _),h.lt,fun k hk hb=>?_,?_⟩
 ·have:=h.size
  simp only [grow,Array.size_append,hsz];omega
 ·rw [hget k (Nat.lt_of_lt_of_le hk h.size),Nq _ _ _ _ _ hb]
  exact h.other k hk hb
 ·refine⟨putCells (Value.int .i64) 0 G.toArray cur,?_,?_,by omega,fun j x hj=>?_⟩
  ·rw [hget b h.ltW]
   simp only [putRow,mapBlock,Sort.ahead,Array.getElem?_modify,if_true,h1,Option.map_some]
   rfl
  ·simp only [putCells,Array.size_mapIdx];exact h2
  ·have hjl:=(List.getElem?_eq_some_iff.1 hj).1
   have hc:cur[j]? =some (cur[j]'(by omega)):=by simp
   simp only [putCells,Array.getElem?_mapIdx,hc,Option.map_some]
   rw [if_pos (by simp;omega)]
   obtain⟨hj',rfl⟩:=List.getElem?_eq_some_iff.1 hj
   simp [hj']
theorem mY {I:Nat→Prop} {w:World} {L:Nat}:∀{l:List Int} {xs:List Value},aZ I w L 1 (l.map i64) xs↔xs=l.map (Value.int .i64)
 |[],xs=>Iff.rfl
 |x::l,xs=>by
  constructor
  ·rintro⟨_,ys,zs,rfl,h1,h2⟩
   rw [mY.1 h2]
   match ys,h1 with
   |[a],h1=>obtain⟨rfl,_⟩:=h1;rfl
   |[],h1=>exact h1.elim
   |_::_::_,h1=>exact h1.2.elim
  ·rintro rfl
   exact⟨rfl,[.int .i64 x],l.map (Value.int .i64),rfl,⟨rfl,trivial⟩,mY.2 rfl⟩
theorem Bg {l:List Int}:∀x∈l.map i64,bF (tab 3).zero x.cells=true:=fun x hx=>by
 obtain⟨n,_,rfl⟩:=List.mem_map.1 hx;rfl
theorem vU:∀{l m:List Int},l.Pairwise (· < ·)→m.Pairwise (· < ·)→(∀x,x∈l↔x∈m)→l=m
 |[],[],_,_,_=>rfl
 |[],y::m,_,_,h=>by have:=(h y).2 (by simp);simp at this
 |x::l,[],_,_,h=>by have:=(h x).1 (by simp);simp at this
 |x::l,y::m,hl,hm,h=>by
  rw [List.pairwise_cons] at hl hm
  have hxy:x=y:=by
   rcases List.mem_cons.1 ((h x).1 (by simp)) with e|e
   ·exact e
   ·rcases List.mem_cons.1 ((h y).2 (by simp)) with e'|e'
    ·exact e'.symm
    ·have h1:=hm.1 x e;have h2:=hl.1 y e';omega
  subst hxy
  rw [vU hl.2 hm.2 fun z=>⟨fun hz=>?_,fun hz=>?_⟩]
  ·rcases List.mem_cons.1 ((h z).1 (by simp [hz])) with e|e
   ·have:=hl.1 z hz;omega
   ·exact e
  ·rcases List.mem_cons.1 ((h z).2 (by simp [hz])) with e|e
   ·have:=hm.1 z hz;omega
   ·exact e
theorem FC:∀{l:List Int} {n:Int},l.Pairwise (· < ·)→n∉l→(l.take (kN l n)++[n]++l.drop (kN l n)).Pairwise (· < ·)∧∀x,x∈l.take (kN l n)++[n]++l.drop (kN l n)↔x∈l∨x=n
 |[],n,_,_=>by simp [kN]
 |y::r,n,h,hn=>by
  rw [List.pairwise_cons] at h
  simp only [List.mem_cons,not_or] at hn
  by_cases hy:y < n
  ·have e:kN (y::r) n=kN r n+1:=by rw [kN,List.takeWhile_cons,if_pos (by simpa using hy)];rfl
   obtain⟨h1,h2⟩:=FC h.2 hn.2
   rw [e,List.take_succ_cons,List.drop_succ_cons,List.cons_append,List.cons_append]
   refine⟨List.pairwise_cons.2 ⟨fun z hz=>?_,h1⟩,fun x=>?_⟩
   ·rcases (h2 z).1 hz with e'|rfl
    ·exact h.1 z e'
    ·exact hy
   ·rw [List.mem_cons,h2 x,List.mem_cons]
    constructor
    ·rintro (h|h|h)<;>simp [h]
    ·rintro ((h|h)|h)<;>simp [h]
  ·have e:kN (y::r) n=0:=by rw [kN,List.takeWhile_cons,if_neg (by simpa using hy)];rfl
   rw [e,List.take_zero,List.drop_zero,List.nil_append,List.singleton_append]
   refine⟨List.pairwise_cons.2 ⟨fun z hz=>?_,List.pairwise_cons.2 h⟩,fun x=>by rw [List.mem_cons];exact or_comm⟩
   rcases List.mem_cons.1 hz with rfl|hz
   ·omega
   ·have:=h.1 z hz;omega
theorem GV {l:List Int} {n:Int} (h:l.Pairwise (· < ·)):(jK l n).Pairwise (· < ·)∧∀x,x∈jK l n↔x∈l∨x=n:=by
 unfold jK
 split
 ·rename_i hc
  have hc':n∈l:=by simpa using hc
  exact⟨h,fun x=>⟨.inl,by rintro (hx|rfl)<;>assumption⟩⟩
 ·rename_i hc
  exact FC h (by simpa using hc)
theorem oW:∀{l o:List Int},o.Pairwise (· < ·)→(l.foldl jK o).Pairwise (· < ·)∧∀x,x∈l.foldl jK o↔x∈o∨x∈l
 |[],o,h=>⟨h,by simp⟩
 |y::l,o,h=>by
  rw [List.foldl_cons]
  obtain⟨h1,h2⟩:=GV (n:=y) h
  obtain⟨h3,h4⟩:=oW (l:=l) h1
  refine⟨h3,fun x=>?_⟩
  rw [h4,h2,List.mem_cons,or_assoc]
theorem FD {acc:List Int} {x:Int} (h:acc.Pairwise (· < ·)) (ha:∀a∈acc,a≤x):(lZ acc x).Pairwise (· < ·)∧∀y,y∈lZ acc x↔y∈acc∨y=x:=by
 unfold lZ
 split
 ·rename_i hl
  have hm:x∈acc:=List.mem_of_getLast? hl
  exact⟨h,fun y=>⟨.inl,by rintro (hy|rfl)<;>assumption⟩⟩
 ·rename_i hl
  refine⟨List.pairwise_append.2 ⟨h,by simp,fun a hax b hb=>?_⟩,by simp⟩
  obtain rfl:=List.mem_singleton.1 hb
  have h1:=ha a hax
  rcases List.eq_nil_or_concat acc with rfl|⟨i,m,rfl⟩
  ·simp at hax
  ·rw [List.concat_eq_append] at*
   simp only [List.getLast?_append,List.getLast?_singleton,Option.some_or,Option.some.injEq] at hl
   have hm:=ha m (by simp)
   rcases List.mem_append.1 hax with hi|hi
   ·have:=(List.pairwise_append.1 h).2.2 a hi m (by simp);omega
   ·obtain rfl:=List.mem_singleton.1 hi;omega
theorem uO:∀{l acc:List Int},acc.Pairwise (· < ·)→l.Pairwise (· ≤ ·)→(∀a∈acc,∀x∈l,a≤x)→(l.foldl lZ acc).Pairwise (· < ·)∧∀x,x∈l.foldl lZ acc↔x∈acc∨x∈l
 |[],acc,h,_,_=>⟨h,by simp⟩
 |y::l,acc,h,hl,ha=>by
  rw [List.pairwise_cons] at hl
  rw [List.foldl_cons]
  obtain⟨h1,h2⟩:=FD (x:=y) h fun a hx=>ha a hx y (by simp)
  obtain⟨h3,h4⟩:=uO (l:=l) h1 hl.2 fun a hx z hz=>by
   rcases (h2 a).1 hx with hx|rfl
   ·exact ha a hx z (by simp [hz])
   ·exact hl.1 z hz
  refine⟨h3,fun x=>?_⟩
  rw [h4,h2,List.mem_cons,or_assoc]
def QA (l:List Int):List Int:=fD (l.mergeSort fun x y=>decide (x≤y))
theorem FE (l:List Int):QA l=setOf l:=by
 have hs:(l.mergeSort fun x y=>decide (x≤y)).Pairwise (· ≤ ·):=by
  have:=List.pairwise_mergeSort (le:=fun x y:Int=>decide (x≤y)) (fun a b c=>by simp;omega) (fun a b=>by simp;omega) l
  exact this.imp (by simp)
 obtain⟨h1,h2⟩:=uO (acc:=[]) List.Pairwise.nil hs (by simp)
 obtain⟨h3,h4⟩:=oW (l:=l) (o:=[]) List.Pairwise.nil
 refine vU h1 h3 fun x=>?_
 have e2:=h2 x
 have e4:=h4 x
 rw [List.mem_mergeSort] at e2
 exact e2.trans e4.symm
theorem IW (l:List Int):(setOf l).length≤l.length:=by
 have:∀(l o:List Int),(l.foldl jK o).length≤o.length+l.length:=by
  intro l
  induction l with
  |nil=>simp
  |cons x l ih=>
   intro o
   rw [List.foldl_cons]
   have h1:=ih (jK o x)
   have h2:=Fg o x
   simp only [List.length_cons];omega
 have:=this l []
 simpa [setOf] using this
theorem TV {l:List Int} {b cap:Nat} {w:World} (hD:DW 3 1 w w b cap l) (hl:l.length≤274877906944):
  Calls Tryz.prog 172 #[.slice (some ⟨b,0,none⟩) l.length cap] w fun e w'=>e= .returned (.tuple #[])∧DW 3 1 w w' b cap (l.mergeSort fun x y=>decide (x≤y)):=by
 have hH:Holds (Value.int .i64) w b 0 l.toArray:=fun i hi=>by
  have hi':i < l.length:=by simpa using hi
  refine⟨?_,hD.frozen _⟩
  rw [Nat.zero_add,hD.cell (x:=l[i]) (by simp [hi']),getElem!_pos _ i hi];simp
 refine (AnyM.slices_Sort_int Tryz.sortInt b 0 cap l w hH hD.lt (by omega)).mono ?_
 rintro e w' ⟨rfl,n,os,rfl⟩
 exact⟨rfl,hD.sorted (by simp)⟩
theorem Ns (w:World):Calls Tryz.prog 173 #[.slice none 0 0] w fun e w'=>e= .returned (.slice none 0 0)∧w'=w:=by
 go_enter Tryz.func173,Tryz.ntmps173
 go_wp2_with fail
 go_ret
 exact⟨rfl,rfl⟩
theorem Pk (l:List Int):Con 131 [.d (ints l)] (.own 3 ((setOf l).map i64)):=by
 refine⟨Tryz.call131,fun I J O mt w vs hI _ hO _ _ ha=>?_⟩
 have hwf:=lN.wfs ha
 simp only [ARs.wf,AR.wf,AV.wf,AV.wfs,List.length_map] at hwf
 match vs,ha with
 |[v0],ha=>
  obtain⟨h0,_⟩:=ha
  have hCl:=(slices_Clone_int l).2 I (fun _=>False) (fun _=>False) false w [v0] hI (fun b h=>h.elim) (fun b h=>h.elim) nofun nofun ⟨h0,trivial⟩
  have HI:=Lib.hid hI
  have HO:=Lib.hid hO
  have HW:=Lib.hid hwf
  clear hI hO hwf h0
  go_enter Tryz.func131,Tryz.ntmps131
  go_wp2_with fail
  refine hCl.mono ?_
  rintro e w2 ⟨v,rfl,hT,I',bs,k1,k2,k3,k4,k5⟩
  obtain⟨_,_,_,_,xs,m1,m2⟩:=k5
  obtain rfl:=mY.1 m2
  rw [List.length_map] at m1
  have hb2:=hT.quiet
  clear hCl hT k1 k2 k3 k4 m2
  rcases m1.2 with⟨rfl,hn⟩|⟨b,cap,cur,rfl,hbb,_⟩
  ·obtain rfl:=List.eq_nil_of_length_eq_zero hn
   have hs:=AnyM.slices_Sort_int_none Tryz.sortInt none 0 w2
   have hc:=Ns w2
   have HB:=Lib.hid hb2
   clear hb2 m1 hn
   go_wp2_with fail
   refine hs.mono ?_
   rintro e w3 ⟨rfl,rfl⟩
   clear hs
   go_wp2_with fail
   refine hc.mono ?_
   rintro e w4 ⟨rfl,rfl⟩
   clear hc
   go_wp2_with fail
   go_ret
   refine⟨_,rfl,Turn.ofQ (fun k hk=>HO.out k hk.1) HB.out,I,[],fun k hk=>hk,fun k hk=>.inl hk,List.nodup_nil,fun _ h=>by simp at h,rfl,by simp [setOf],rfl,Bg,[],⟨rfl,.inl ⟨rfl,rfl⟩⟩,rfl⟩
  ·obtain⟨hD,hnc,hcm,hfl,hbs⟩:=Nc m1
   have hlt:=hD.lt
   have hs:=TV hD HW.out.1.1
   have HB:=Lib.hid hb2
   have HE:=Lib.hid hnc
   clear hb2 m1 hnc hfl
   have hl0:b < w2.heap.size:=hD.lt
   go_wp2_with fail
   refine hs.mono ?_
   rintro e w3 ⟨rfl,hD3⟩
   clear hs
   have hlen:(l.mergeSort fun x y=>decide (x≤y)).length=l.length:=List.length_mergeSort _
   obtain⟨ZW,r1,r2,r3,r4⟩:=hD3.row
   have hc:=Nr (l:=l.mergeSort fun x y=>decide (x≤y)) (b:=b) (cap:=cap) (w:=w3) ⟨rfl,rfl,rfl,Nat.le_refl _,Nat.le_refl _,hD3.ltW,fun _ _ _=>rfl,ZW,r1,r2,r3,r4⟩ (by rw [hlen];exact HE.out) (by rw [hlen];exact HW.out.1.1)
   rw [hlen] at hc
   have H3:=Lib.hid hD3
   clear hD3 hlen r1 r2 r3 r4
   go_wp2_with fail
   refine hc.mono ?_
   rintro e w4 ⟨rfl,hD4⟩
   clear hc
   change DW 3 1 w3 w4 b cap (QA l) at hD4
   have H4:=Lib.hid hD4
   clear hD4
   go_wp2_with fail
   go_ret
   have hD4:=H4.out
   have hD3:=H3.out
   have hbw:Quiet w w4:=hD4.quiet (hD3.quiet HB.out hbb) hbb
   have hsl:=IW l
   have hlim:=HW.out.1.1
   refine⟨_,rfl,Turn.ofQ (fun k hk=>HO.out k hk.1) hbw,I,[b],fun k hk=>hk,fun k hk=>.inl hk,by simp,?_,rfl,by rw [List.length_map];exact Nat.le_trans hsl hlim,rfl,Bg,(setOf l).map (Value.int .i64),?_,mY.2 rfl⟩
   ·intro k hk
    obtain rfl:=List.mem_singleton.1 hk
    exact⟨fun hi=>by have:=HI.out _ hi;omega,hbb,hD4.ltW⟩
   ·have e:fD (l.mergeSort fun x y=>decide (x≤y))=setOf l:=FE l
    have hD5:DW 3 1 w3 w4 b cap (setOf l):=by rw [← FE];exact hD4
    rw [List.length_map]
    have ho:=hD5.owns (n:=(setOf l).length) (base:=w.heap.size) (by rw [Nat.mul_one]) hbb (Nat.le_trans hsl HE.out) hcm
    rw [← e] at ho ⊢
    exact ho
 |[],ha=>exact ha.elim
 |_::_::_,ha=>exact ha.2.elim
end Go.Proofs.YtpfgedlimdeffaaGreat.Abs
