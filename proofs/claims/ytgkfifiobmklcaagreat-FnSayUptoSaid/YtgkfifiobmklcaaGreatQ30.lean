/- The law of what a log is told. -/
import Derived.Test.YtgkfifiobmklcaaGreatLr
set_option linter.all false
set_option maxRecDepth 20000
set_option maxHeartbeats 0
namespace Go.Proofs.YtgkfifiobmklcaaGreat.Abs
open Go.Proofs
theorem YP {g:Lg} {s:Infer} (h:(nP g ⟨s.lit,s.rule,[]⟩).isSome=true):follows g.proj s.rule []=true:=by
 unfold nP at h
 split at h
 ·rename_i hi
  rw [kG,Bool.and_eq_true] at hi
  have hc:=of_decide_eq_true hi.1
  unfold aH at hc
  split at hc
  ·rw [show (oV ⟨s.lit,s.rule,[]⟩).kind=1 from rfl,if_pos rfl] at hc
   split at hc
   ·assumption
   ·cases hc
  ·cases hc
 ·cases h
attribute [local irreducible] bZ yU bq nP follows ni restrict iR
theorem abB (code:List Int):Con 3 [.d (u8s code)] (.d (.bool true)):=by
 refine con Tryz.func3 rfl rfl Tryz.call3 rfl fun hwf=>?_
 simp only [ARs.wf,AR.wf,AV.wf,AV.wfs,lm,lim] at hwf
 by_cases hbig:((code.map (AV.int .u8)).length:Int) > 1048576
 ·(repeat' ((conv=>whnf);first|with_reducible refine Br.yes (decide_eq_true hbig) ?_|refine gA ?_|(refine gB ?_ ?_<;>intro h)|refine gV ?_|intro _))<;>try (conv=>whnf)
  exact fv
 have hbig2:decide (((code.map (AV.int .u8)).length:Int) > 1048576)=false:=decide_eq_false hbig
 have hf:=rC code
 have hok:=rO code
 have hs:=rA code
 have BS:=uf code
 have BM:=yH (bZ code) hok hf code
 have hF:=Nt hok code
 have hg:=hF.aal hok (by decide)
 have hl0:(yU (bZ code) code).lines.length=0:=by obtain⟨l,e,_⟩:=hF;rw [e];rfl
 generalize bZ code=p at hf hok hs BS BM hg hl0
 generalize yU p code=g at BM hg hl0
 have hgf:g.proj.fine:=by rw [hg.proj];exact hf
 have hgo:=hg.ok hok
 have BF:=rF p g.dom hf
 have BO:=iB g hgf
 rw [hgo] at BO
 cases hi:bq p g.dom with
 |none=>
  rw [hi,ZX] at BF
  dsimp only [Option.getD,Option.isSome] at BF
  have BP:=nQ g 9 hgf hgo (by decide)
  have hr:iR 9 0 g=(g,0):=by rw [Ag,yg,hg.proj,hi]
  rw [hr,Yx] at BP
  dsimp only at BP
  have BE:=CP g
  (repeat' ((conv=>whnf);first|with_reducible refine Br.no hbig2 ?_|refine gA ?_|(refine gB ?_ ?_<;>intro h)|refine gV ?_|refine gC (BS) ?_|refine gC (BM) ?_|refine gC (BF) ?_|refine gC (BP) ?_|refine gC (BE) ?_|refine gC (BO) ?_|intro _))<;>try (conv=>whnf)
  exact fv
 |some s=>
  rw [hi,ZX] at BF
  dsimp only [Option.getD,Option.isSome] at BF
  obtain⟨e1,h1⟩:=hg.say hs (by omega) hi
  have BI:=ug g s hgf hgo
  rw [e1,oW] at BI
  dsimp only [Option.getD,Option.isSome] at BI
  have BW:=ug g ⟨s.lit,s.rule,[]⟩ hgf hgo
  have hb:=YP (g:=g) (s:=s)
  rw [hg.proj] at hb
  rw [oW] at BW
  generalize nP g ⟨s.lit,s.rule,[]⟩=W at BW hb
  have BK:=tJ p s.rule [] hf
  generalize follows p s.rule []=k at BK hb
  have BO2:=iB (jL g s) (by unfold jL;exact hgf)
  rw [h1.ok hok] at BO2
  have hHl:(jL g s).lines.length=g.lines.length+1:=by unfold jL;simp
  have hHd:(jL g s).dom=restrict g.dom s.lit:=rfl
  have BR:=fB g.dom s.lit
  have BD:=wR (restrict g.dom s.lit)
  rw [← hHd] at BR BD
  generalize jL g s=H at BI BO2 hHl BR BD
  generalize W.getD TM=w1 at BW
  generalize W.isSome=bad at BW hb
  cases bad with
  |false=>
   (repeat' ((conv=>whnf);first|with_reducible refine Br.no hbig2 ?_|(exfalso;omega)|refine gA ?_|(refine gB ?_ ?_<;>intro h)|refine gV ?_|refine gC (BS) ?_|refine gC (BM) ?_|refine gC (BF) ?_|refine gC (BI) ?_|refine gC (BW) ?_|refine gC (BK) ?_|refine gC (BO2) ?_|refine gC (BR) ?_|refine gC (BD) ?_|intro _))<;>try (conv=>whnf)
   exact fv
  |true=>
   obtain rfl:=hb rfl
   (repeat' ((conv=>whnf);first|with_reducible refine Br.no hbig2 ?_|(exfalso;omega)|refine gA ?_|(refine gB ?_ ?_<;>intro h)|refine gV ?_|refine gC (BS) ?_|refine gC (BM) ?_|refine gC (BF) ?_|refine gC (BI) ?_|refine gC (BW) ?_|refine gC (BK) ?_|refine gC (BO2) ?_|refine gC (BR) ?_|refine gC (BD) ?_|intro _))<;>try (conv=>whnf)
   exact fv
end Go.Proofs.YtgkfifiobmklcaaGreat.Abs
