/- The law of conflicts. -/
import Derived.Test.YtgkfifiobmklcaaGreatLr
set_option linter.all false
set_option maxRecDepth 20000
set_option maxHeartbeats 0
namespace Go.Proofs.YtgkfifiobmklcaaGreat.Abs
open Go.Proofs
attribute [local irreducible] bZ yU bq dQ jM ni restrict iR jW bN bH explain
theorem aar (code:List Int):Con 4 [.d (u8s code)] (.d (.bool true)):=by
 refine con Tryz.func4 rfl rfl Tryz.call4 rfl fun hwf=>?_
 simp only [ARs.wf,AR.wf,AV.wf,AV.wfs,lm,lim] at hwf
 by_cases hbig:((code.map (AV.int .u8)).length:Int) > 1048576
 ·(repeat' ((conv=>whnf);first|with_reducible refine Br.yes (decide_eq_true hbig) ?_|refine gA ?_|(refine gB ?_ ?_<;>intro h)|(refine gI ?_;intro x hx)|(refine gJ ?_;intro j x hj hx)|refine gP ?_|refine gV ?_|intro _))<;>try (conv=>whnf)
  exact fv
 have hbig2:decide (((code.map (AV.int .u8)).length:Int) > 1048576)=false:=decide_eq_false hbig
 have hf:=rC code
 have hok:=rO code
 have hs:=rA code
 have h3:(bZ code).acts.length≤3:=by have:=(kT code).1.acts;omega
 have BS:=uf code
 have BM:=yH (bZ code) hok hf code
 have hF:=Nt hok code
 have hg:=hF.aal hok (by decide)
 have hl0:(yU (bZ code) code).lines.length=0:=by obtain⟨l,e,_⟩:=hF;rw [e];rfl
 generalize bZ code=p at hf hok hs h3 BS BM hg hl0
 generalize yU p code=g at BM hg hl0
 have hgf:g.proj.fine:=by rw [hg.proj];exact hf
 have hgo:=hg.ok hok
 have BP:=nQ g 20 hgf hgo (by decide)
 obtain⟨h,k,er,hr,hk⟩:=Im hs 20 0 g hg (by omega)
 rw [er,Yx] at BP
 dsimp only at BP
 have hhl:=hr.len
 have hhd:=hr.decs
 have hh:=hr.ok
 have hhf:h.proj.fine:=by rw [hh.proj];exact hf
 have hho:=hh.ok hok
 have BO:=iB h hhf
 rw [hho] at BO
 have BC:=Gz h hhf hho
 have BF:=mV p h.dom hf
 cases hi:dQ p h.dom with
 |none=>
  have es:jM h=none:=by rw [yh,hh.proj,hi]
  rw [es,oW] at BC
  dsimp only [Option.getD,Option.isSome] at BC
  rw [hi,Ww] at BF
  dsimp only [Option.getD,Option.isSome] at BF
  (repeat' ((conv=>whnf);first|with_reducible refine Br.no hbig2 ?_|refine gA ?_|(refine gB ?_ ?_<;>intro h)|(refine gI ?_;intro x hx)|(refine gJ ?_;intro j x hj hx)|refine gP ?_|refine gV ?_|refine gC (BS) ?_|refine gC (BM) ?_|refine gC (BP) ?_|refine gC (BO) ?_|refine gC (BC) ?_|refine gC (BF) ?_|intro _))<;>try (conv=>whnf)
  exact fv
 |some r=>
  obtain⟨es,hy⟩:=hh.conf hs (by omega) hi
  rw [es,oW] at BC
  dsimp only [Option.getD,Option.isSome] at BC
  rw [hi,Ww] at BF
  dsimp only [Option.getD,Option.isSome] at BF
  have BY:=iB _ (show (Lg.mk h.proj h.dom h.decs (h.lines++[bF h r]++[bA h])).proj.fine from hhf)
  rw [hy.ok hok] at BY
  have hR:=hy.right
  dsimp only at hR
  have hlen:(h.lines++[bF h r]++[bA h]).length=h.lines.length+2:=by simp
  have hlast:(h.lines++[bF h r]++[bA h])[h.lines.length+1]? =some (bA h):=by
   rw [List.getElem?_append_right (by simp)];simp
  generalize h.lines++[bF h r]++[bA h]=L at BC BY hR hlen hlast
  have hLe:(L.map Lin.av)[h.lines.length+1]? =some (bA h).av:=by rw [List.getElem?_map,hlast];rfl
  have hei:((L.map Lin.av).length:Int) - 1=((h.lines.length+1:Nat):Int):=by rw [List.length_map];omega
  have BA:=vv p hf hok h3 5 (by decide)
  have hS:∀s∈jW p 5,dF p s=true:=Gj
  have hSl:=Au hok h3 (m:=5) (by decide)
  generalize jW p 5=S at BA hS hSl
  have hcl:∀s∈S,bN (bH (g.decs.map negate)) s=true:=fun s hs2=>by
   have:=(WI hR (hS s hs2) (bH (h.decs.map negate)) (List.mem_map.2 ⟨bA h,List.mem_of_getElem? hlast,rfl⟩)).2
   rw [hhd] at this;exact this
  have hu:(bA h).av=Lin.av ⟨2,Rf,bH (g.decs.map negate)⟩:=by unfold bA;rw [hhd]
  rw [hu] at hLe
  have BN:=oO (g.decs.map negate)
  generalize bH (g.decs.map negate)=c at BN hLe hcl
  have BE:=wS c
  have hgl:g.decs.length≤20:=hg.few
  clear hlast hu hy
  (repeat' ((conv=>whnf);first|with_reducible refine Br.no hbig2 ?_|refine Idx.abA hLe hei ?_|refine gA ?_|(refine gB ?_ ?_<;>intro h)|(refine gI ?_;intro x hx)|(refine gJ ?_;intro j x hj hx)|refine gP ?_|refine gV ?_|refine gC (BS) ?_|refine gC (BM) ?_|refine gC (BP) ?_|refine gC (BO) ?_|refine gC (BC) ?_|refine gC (BF) ?_|refine gC (BA) ?_|intro _))<;>try (conv=>whnf)
  all_goals first
   |(exfalso;omega)
   |skip
  refine aB [4,5,7,11,74,75] [4,5,7] [] ?_
  (conv=>whnf)
  refine aA.go ((Nat)) (fun i=>(i≤S.length)) (fun i=>[(76,.data (i64 i))]) (fun _=>[]) (fun _=>[]) (fun i=>S.length - i) (0) ?_ ?_
  ·exact Nat.zero_le _
  rintro i hi
  by_cases hil:i < S.length
  ·obtain⟨s,hsi⟩:∃x,S[i]? =some x:=⟨S[i]'hil,by simp⟩
   have BH:=Io c s
   rw [hcl s (List.mem_of_getElem? hsi)] at BH
   (repeat' ((conv=>whnf);first|with_reducible refine Idx.got hsi rfl ?_|(exfalso;omega)|refine gA ?_|(refine gB ?_ ?_<;>intro h)|(refine gI ?_;intro x hx)|(refine gJ ?_;intro j x hj hx)|refine gP ?_|refine gV ?_|refine gC (BH) ?_|intro _))<;>try (conv=>whnf)
   refine nx (i+1) ?_
   exact (by omega:i+1≤S.length)
  (repeat' ((conv=>whnf);first|(exfalso;omega)|refine gA ?_|(refine gB ?_ ?_<;>intro h)|(refine gI ?_;intro x hx)|(refine gJ ?_;intro j x hj hx)|refine gP ?_|refine gV ?_|intro _))<;>try (conv=>whnf)
  refine aB [5,7,11,87,88] [5,7] [85] ?_
  (conv=>whnf)
  refine aA.go ((Nat)) (fun j=>(j≤g.decs.length)) (fun j=>[(89,.data (i64 j)),(14,.own 85 0)]) (fun _=>[]) (fun j=>[(85,39,((g.decs.take j).map negate).map Lit.av,0)]) (fun j=>g.decs.length - j) (0) ?_ ?_
  ·exact Nat.zero_le _
  rintro j hj
  have hjl:((g.decs.take j).map negate).length=j:=by rw [List.length_map,List.length_take];omega
  by_cases hlt:j < g.decs.length
  ·obtain⟨x,hx⟩:∃x,g.decs[j]? =some x:=⟨g.decs[j]'hlt,by simp⟩
   have hst:(g.decs.take (j+1)).map negate=(g.decs.take j).map negate++[negate x]:=by
    rw [List.take_add_one,hx];simp
   have BG:=qI x
   generalize (g.decs.take j).map negate=o at hst hjl ⊢
   (repeat' ((conv=>whnf);first|with_reducible refine Idx.got hx rfl ?_|(exfalso;omega)|refine gA ?_|(refine gB ?_ ?_<;>intro h)|(refine gI ?_;intro x hx)|(refine gJ ?_;intro j x hj hx)|refine gP ?_|refine gV ?_|refine gC (BG) ?_|intro _))<;>try (conv=>whnf)
   refine nw (j+1) ?_ ?_
   ·(repeat' ((conv=>whnf)<;>(first|exact trivial|exact rfl|with_reducible refine And.intro ?_ ?_)))<;>((conv=>whnf)<;>((simp only [hst,List.map_append,List.map_cons,List.map_nil];done)))
   omega
  ·have hst:(g.decs.take j).map negate=g.decs.map negate:=by rw [List.take_of_length_le (by omega)]
   rw [hst]
   have BN2:Con 22 [.d (.sl ((g.decs.map negate).map Lit.av))] (.own 39 (c.map Lit.av)):=BN
   (repeat' ((conv=>whnf);first|(exfalso;omega)|refine gA ?_|(refine gB ?_ ?_<;>intro h)|(refine gI ?_;intro x hx)|(refine gJ ?_;intro j x hj hx)|refine gP ?_|refine gV ?_|refine gC (BY) ?_|refine gC (BN2) ?_|refine gC (BE) ?_|intro _))<;>try (conv=>whnf)
   exact fv
end Go.Proofs.YtgkfifiobmklcaaGreat.Abs
