/- Clauses: sorted, each literal once. -/
import Derived.WalkKit
import Derived.Deep.LoopGhost
import Derived.Lib.Hide
import Derived.Shelf.SlSortCmp.NoneTotal
import Derived.Test.YtefgamefajmdkaaGreatSh
import Derived.Test.YtefgamefajmdkaaGreatSet
import Derived.Test.YtefgamefajmdkaaGreatC25
import Derived.Sort.WalkB12
import Derived.Lib.SliceRun
import Derived.Deep.Draws
import Derived.Lib.Walk
import Derived.Shelf.RegionOpenPlain
import Derived.Test.YtefgamefajmdkaaGreatCmp
import Derived.Test.YtefgamefajmdkaaGreatWo
set_option linter.all false
set_option maxRecDepth 100000
set_option maxHeartbeats 4000000
namespace Go.Proofs.YtefgamefajmdkaaGreat.Abs
open Go.Proofs Go.RowKit Go.Sort
instance:Inhabited Lit:=⟨bq⟩
set_option maxRecDepth 1000000
open Go.Proofs Go.RowKit Go.Sort
structure aaT (W:World) (b o:Nat) (x:Lit):Prop where
 k:W.cell? ⟨b,o,none⟩=some (.int .i64 x.kind)
 a:W.cell? ⟨b,o+1,none⟩=some (.int .i64 x.act)
 v:W.cell? ⟨b,o+2,none⟩=some (.int .i64 x.val)
theorem DW.lit {E:Nat} {w W:World} {b cap:Nat} {l:List Lit} (h:DW E 3 w W b cap (KE l)) {j:Nat} {x:Lit} (hx:l[j]? =some x):aaT W b (j*3) x:=by
 obtain⟨f1,f2,f3⟩:=Nb hx
 rw [Nat.mul_comm 3 j] at f1 f2 f3
 exact⟨h.cell f1,h.cell f2,h.cell f3⟩
end Go.Proofs.YtefgamefajmdkaaGreat.Abs
namespace Go.Proofs.YtefgamefajmdkaaGreat.Abs
open Go.Proofs Go.RowKit Go.Sort
theorem nU (l:List Lit):Con 109 [.d (lits l)] (.d (lits (cB l))):=by
 refine con Tryz.func109 rfl rfl Tryz.call109 rfl fun hwf=>?_
 simp only [ARs.wf,AR.wf,AV.wf,AV.wfs,lm,lim] at hwf
 (repeat' ((conv=>whnf);first|refine gA ?_|(refine gB ?_ ?_<;>intro h)|(refine gI ?_;intro x hx)|(refine gJ ?_;intro j x hj hx)|refine gP ?_|refine gQ ?_|refine gV ?_|refine gK ?_|intro _))<;>try (conv=>whnf)
 refine aB [9,10] [] [] ?_
 (conv=>whnf)
 refine aA.go ((Nat)×(List Lit)) (fun⟨k,o⟩=>(k≤l.length)∧(o.length≤k)∧((l.drop k).foldl fH o=cB l)) (fun⟨k,o⟩=>[(11,.data (i64 k)),(3,.data (lits o))]) (fun _=>[]) (fun _=>[]) (fun⟨k,o⟩=>l.length - k) ⟨0,[]⟩ ?_ ?_
 ·exact⟨by omega,by simp,rfl⟩
 rintro⟨k,o⟩ ⟨hk,ho,hi⟩
 (repeat' ((conv=>whnf);first|refine gA ?_|(refine gB ?_ ?_<;>intro h)|(refine gI ?_;intro x hx)|(refine gJ ?_;intro j x hj hx)|refine gP ?_|refine gQ ?_|refine gV ?_|refine gK ?_|intro _))<;>try (conv=>whnf)
 ·obtain⟨z,rfl⟩:∃z,z=x:=⟨x,rfl⟩
  rw [au hx,List.foldl_cons] at hi
  have hkl:=(List.getElem?_eq_some_iff.1 hx).1
  clear hx
  refine aB [3,5,9,10,11] [5] [] ?_
  (conv=>whnf)
  refine aA.go ((Nat)) (fun j=>(j≤o.length)∧(o.take j++fH (o.drop j) z=fH o z)) (fun j=>[(6,.data (i64 j))]) (fun _=>[]) (fun _=>[]) (fun j=>o.length - j) (0) ?_ ?_
  ·exact⟨Nat.zero_le _,rfl⟩
  rintro j ⟨hj,hq⟩
  (repeat' ((conv=>whnf);first|refine gA ?_|(refine gB ?_ ?_<;>intro h)|(refine gI ?_;intro x hx)|(refine gJ ?_;intro j x hj hx)|refine gP ?_|refine gQ ?_|refine gV ?_|refine gK ?_|refine gC (pF _ _) ?_|intro _))<;>try (conv=>whnf)
  ·refine nx (j+1) ?_
   exact⟨by omega,(yY hq hx).1 h⟩
  ·refine nx ⟨k+1,o⟩ ?_
   have e:x=z:=jm.1 (iA h)
   rename_i x' hx' _ _ hn _ _
   obtain rfl:x'=x:=by rw [hx] at hx';cases hx';rfl
   rw [(yY hq hx).2.1 hn e] at hi
   exact⟨by omega,by omega,hi⟩
  ·rename_i x' hx' _ _ hn _ _
   obtain rfl:x'=x:=by rw [hx] at hx';cases hx';rfl
   have hput:=(yY hq hx).2.2 hn (fun e=>by have h':=iA h;rw [jm.2 e] at h';cases h')
   refine nw ⟨k+1,fH o z⟩ ?_ ?_
   ·(repeat' ((conv=>whnf)<;>(first|exact trivial|exact rfl|with_reducible refine And.intro ?_ ?_)))<;>((conv=>whnf)<;>((rw [hput];(try dsimp only);rw [nM,qC];simp)))
   have:=CJ o z
   exact⟨by omega,by omega,hi⟩
  ·exfalso;omega
  ·exfalso;omega
  ·exfalso;omega
  ·have hput:=TD hq (by omega)
   refine nw ⟨k+1,fH o z⟩ ?_ ?_
   ·(repeat' ((conv=>whnf)<;>(first|exact trivial|exact rfl|with_reducible refine And.intro ?_ ?_)))<;>((conv=>whnf)<;>((rw [hput];(try dsimp only);rw [nM,qC];simp)))
   have:=CJ o z
   exact⟨by omega,by omega,hi⟩
 ·refine⟨?_,rfl,trivial⟩
  rw [← hi,aG (by assumption)];rfl
end Go.Proofs.YtefgamefajmdkaaGreat.Abs
