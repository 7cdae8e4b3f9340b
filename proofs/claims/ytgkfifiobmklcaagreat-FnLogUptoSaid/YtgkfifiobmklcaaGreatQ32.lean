/- The law of logs. -/
import Derived.Test.YtgkfifiobmklcaaGreatLr
set_option linter.all false
set_option maxRecDepth 20000
set_option maxHeartbeats 0
namespace Go.Proofs.YtgkfifiobmklcaaGreat.Abs
open Go.Proofs
theorem abC {p:Proj} (hp:aG p=true) {l:List Lit} (hl:l.length≤20) (hd:∀x∈l,bJ p x=true):ni ⟨p,dI p l,l,[]⟩=true:=by
 have hb:sZ ⟨p,dI p l,l,[]⟩=dI p l:=by unfold sZ dI aW;rw [if_pos hp]
 have hbf:=wP hp l
 have he:(eO [] (dI p l)).1=dI p l:=by
  by_cases hE:aL (dI p l)=true
  ·have hu:iP ([]:List (List Lit)) (dI p l)= .inl (dI p l,true):=by unfold iP;rw [if_pos hE]
   rw [lV hbf,hu]
  ·have hu:iP ([]:List (List Lit)) (dI p l)= .inl (dI p l,false):=by unfold iP;rw [if_neg hE];rfl
   rw [lV hbf,hu]
 unfold ni
 dsimp only
 rw [hb,List.map_nil,Ap hbf,hp,hbf,vQ (Right.nil p),decide_eq_false (by omega),List.all_eq_true.2 hd]
 simp only [Bool.not_false,Bool.true_and,Bool.or_eq_true]
 rw [he]
 exact .inr (DT hbf hbf (bn.refl _ _))
theorem aat {p:Proj} (hp:aG p=true) (code:List Int) (turn:Int):bJ p (Qe p code turn)=true:=(yw hp (xL (pX code) turn)).1
attribute [local irreducible] bZ yU bq dQ ni restrict iR DU Qe aW jS
theorem abD (code:List Int):Con 5 [.d (u8s code)] (.d (.bool true)):=by
 refine con Tryz.func5 rfl rfl Tryz.call5 rfl fun hwf=>?_
 simp only [ARs.wf,AR.wf,AV.wf,AV.wfs,lm,lim] at hwf
 by_cases hbig:((code.map (AV.int .u8)).length:Int) > 1048576
 ·(repeat' ((conv=>whnf);first|with_reducible refine Br.yes (decide_eq_true hbig) ?_|refine gA ?_|(refine gB ?_ ?_<;>intro h)|refine gV ?_|intro _))<;>try (conv=>whnf)
  exact fv
 have hbig2:decide (((code.map (AV.int .u8)).length:Int) > 1048576)=false:=decide_eq_false hbig
 have hf:=rC code
 have hok:=rO code
 have hs:=rA code
 have h2:(bZ code).acts.length≤2:=by have:=(kT code).1.acts;omega
 have hd:=(kT code).2.2
 have BS:=uf code
 have BM:=yH (bZ code) hok hf code
 have BT:=Sk (bZ code) hok code 7 (by decide)
 have hT:bJ (bZ code) (Qe (bZ code) code 7)=true:=aat hok code 7
 have hF:=Nt hok code
 have hg:=hF.aal hok (by decide)
 generalize bZ code=p at hf hok hs h2 hd BS BM BT hT hg hF
 generalize yU p code=g at BM hg hF
 generalize Qe p code 7=t at BT hT
 obtain⟨l,eg,hll,hld,hle⟩:=hF
 have hgf:g.proj.fine:=by rw [hg.proj];exact hf
 have hgo:=hg.ok hok
 have hl0:g.lines.length=0:=by rw [eg];rfl
 have hgd:g.decs.length≤3:=by rw [eg];exact hll
 have BO:=iB g hgf
 rw [hgo] at BO
 have BP:=nQ g 20 hgf hgo (by decide)
 obtain⟨h,k,er,hr,hk⟩:=Im hs 20 0 g hg (by omega)
 rw [er,Yx] at BP
 dsimp only at BP
 have afn:=YH hg hr hd hs.two h2
 have hcount:=YJ hg hr 5
 have hh:=hr.ok
 have hhf:h.proj.fine:=by rw [hh.proj];exact hf
 have BO2:=iB h hhf
 rw [hh.ok hok] at BO2
 have BD:=Kj g t hgf hgo (by rw [hg.proj];exact hT) (by omega)
 have hx:ni ⟨g.proj,restrict g.dom t,g.decs++[t],g.lines⟩=true:=by
  rw [eg]
  dsimp only
  have e:restrict (dI p l) t=dI p (l++[t]):=by unfold dI;rw [List.foldl_append];rfl
  rw [e]
  refine abC hok (by simp;omega) fun y hy=>?_
  rcases List.mem_append.1 hy with hy|hy
  ·exact (hld y hy).1
  ·rw [List.mem_singleton.1 hy];exact hT
 have BX:=iB ⟨g.proj,restrict g.dom t,g.decs++[t],g.lines⟩ hgf
 rw [hx] at BX
 have hxd:(⟨g.proj,restrict g.dom t,g.decs++[t],g.lines⟩:Lg).decs.length=g.decs.length+1:=by simp
 generalize (⟨g.proj,restrict g.dom t,g.decs++[t],g.lines⟩:Lg)=x at BD BX hxd
 have BN:=Uy p hf
 rw [Ae,if_pos hok,oW] at BN
 dsimp only [Option.getD,Option.isSome] at BN
 have BN2:=iB ⟨p,aW p,[],[]⟩ hf
 rw [((JD hok).aal hok (by decide)).ok hok] at BN2
 have BU:=uV h.dom g.dom
 rw [DT hh.form hg.form hr.sub] at BU
 have BK:=wS g.decs
 have hdd:=hr.decs
 have BC1:=rG p h.dom hf hok (by omega) 5 (by decide)
 have BC2:=rG p g.dom hf hok (by omega) 5 (by decide)
 rw [hcount] at BC1
 generalize DU p g.dom 5=cnt at BC1 BC2
 have BE:=CP h
 have hlen:=hr.len
 by_cases hk0:k=0
 ·obtain rfl:=hr.same hk0
  subst hk0
  (repeat' ((conv=>whnf);first|with_reducible refine Br.no hbig2 ?_|refine gA ?_|(refine gB ?_ ?_<;>intro h)|refine gV ?_|refine gC (BS) ?_|refine gC (BM) ?_|refine gC (BT) ?_|refine gC (BP) ?_|refine gC (BO) ?_|refine gC (BD) ?_|refine gC (BX) ?_|refine gC (BN) ?_|refine gC (BN2) ?_|refine gC (BU) ?_|refine gC (BK) ?_|refine gC (BC1) ?_|refine gC (BE) ?_|intro _))<;>try (conv=>whnf)
  all_goals first
   |(exfalso;omega)
   |exact fv
 ·have BE2:=Ip g h (by rw [hh.proj,hg.proj]) hdd (by omega)
  obtain⟨hp',hd',hc',hl'⟩:=h
  dsimp only at hdd hlen
  subst hdd
  have hkk:decide (((0+k:Nat):Int)=0)=false:=decide_eq_false (by omega)
  (repeat' ((conv=>whnf);first|with_reducible refine Br.no hbig2 ?_|with_reducible refine Br.no hkk ?_|refine gA ?_|(refine gB ?_ ?_<;>intro h)|refine gV ?_|refine gC (BS) ?_|refine gC (BM) ?_|refine gC (BT) ?_|refine gC (BP) ?_|refine gC (BO) ?_|refine gC (BO2) ?_|refine gC (BD) ?_|refine gC (BX) ?_|refine gC (BN) ?_|refine gC (BN2) ?_|refine gC (BU) ?_|refine gC (BK) ?_|refine gC (BC1) ?_|refine gC (BC2) ?_|refine gC (BE) ?_|refine gC (BE2) ?_|intro _))<;>try (conv=>whnf)
  all_goals first
   |(exfalso;omega)
   |(repeat' ((conv=>whnf)<;>(first|exact trivial|exact VC.nod (by kernel_rfl)|refine VC.mk rfl ?_|refine VC.mk (by (rw [hkk];rfl)) ?_)))
end Go.Proofs.YtgkfifiobmklcaaGreat.Abs
