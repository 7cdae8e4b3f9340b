/- The law of what the checker accepts. -/
import Derived.Test.YtefgamefajmdkaaGreatPf
set_option linter.all false
set_option maxRecDepth 20000
set_option maxHeartbeats 0
namespace Go.Proofs.YtefgamefajmdkaaGreat.Abs
open Go.Proofs
attribute [local irreducible] dQ nV iL aM mH rF bI zq PX jU
def sG:Lin:=⟨2,⟨0,0,0,0⟩,[]⟩
theorem VR (p:Proj):rF p sG=true:=by
 with_unfolding_all rfl
theorem Me (p:Proj) (l:List Lin):jU p (l++[sG])=decide ((mH p (l++[sG])).1=0):=by
 unfold jU kG
 have:(l++[sG]).any (fun l=>decide ((l.clause.length:Int)=0))=true:=by
  rw [List.any_append];simp [sG]
 rw [this,Bool.and_true]
theorem VT (code:List Int):Con 4 [.d (u8s code)] (.d (.bool true)):=by
 refine con Tryz.func4 rfl rfl Tryz.call4 rfl fun hwf=>?_
 simp only [ARs.wf,AR.wf,AV.wf,AV.wfs,lm,lim] at hwf
 by_cases hbig:((code.map (AV.int .u8)).length:Int) > 1048576
 ·(repeat' ((conv=>whnf);first|with_reducible refine Br.yes (decide_eq_true hbig) ?_|refine gA ?_|(refine gB ?_ ?_<;>intro h)|(refine gI ?_;intro x hx)|(refine gJ ?_;intro j x hj hx)|refine gP ?_|refine gV ?_|intro _))<;>try (conv=>whnf)
  exact fv
 have hbig2:decide (((code.map (AV.int .u8)).length:Int) > 1048576)=false:=decide_eq_false hbig
 have hf:=xC code
 have hok:=vX code
 have hs:=xB code
 have h3:(dQ code).acts.length≤3:=by have:=(mJ code).1.acts;omega
 have BS:=zA code
 have BM:=zD (dQ code) hs hf code
 obtain⟨hR,hRl⟩:=BG hs code
 generalize dQ code=p at hf hok hs h3 BS BM hR hRl
 generalize nV p code=l at BM hR hRl
 have BX:=xD p hok code 5 (by decide)
 have BY:=xD p hok code 6 (by decide)
 have BR:=Md p hok code
 generalize zq p code 5=cx at BX
 generalize zq p code 6=cy at BY
 generalize PX p code=ry at BR
 obtain⟨X,hX⟩:∃X:Lin,X=⟨2,⟨0,0,0,0⟩,cx⟩:=⟨_,rfl⟩
 obtain⟨Y,hY⟩:∃Y:Lin,Y=⟨1,ry,cy⟩:=⟨_,rfl⟩
 have KX:=rV p l X hf
 have KY:=rV p l Y hf
 have BA:=tV p hf hok h3 5 (by decide)
 have hS:∀s∈iL p 5,dA p s=true:=Fw
 have hSl:=zB hok h3 (m:=5) (by decide)
 generalize iL p 5=S at BA hS hSl
 have BC:=Bd p (l++[sG]) hf
 have BP:=xK p (l++[sG]) hf
 have BL:=Hu p sG hf
 rw [VR] at BL
 have hP:=Me p l
 have hno:jU p (l++[sG])=true→S= []:=fun h=>by
  cases hSS:S with
  |nil=>rfl
  |cons s r=>
   have:=Gx (s:=s) h
   rw [hS s (by rw [hSS];exact List.mem_cons_self ..)] at this
   cases this
 rw [YP] at BC
 generalize mH p (l++[sG])=at' at BC hP
 obtain⟨at1,at2⟩:=at'
 dsimp only at BC hP
 generalize jU p (l++[sG])=two at BP hP hno
 rw [List.map_append] at BC BP
 (repeat' ((conv=>whnf);first|with_reducible refine Br.no hbig2 ?_|refine gA ?_|(refine gB ?_ ?_<;>intro h)|(refine gI ?_;intro x hx)|(refine gJ ?_;intro j x hj hx)|refine gP ?_|refine gV ?_|refine gC (BS) ?_|refine gC (BM) ?_|refine gC (BX) ?_|refine gC (BY) ?_|refine gC (BR) ?_|refine gC (BA) ?_|intro _))<;>try (conv=>whnf)
 refine aB [3,4,5,6,35,36] [3,5,6] [] ?_
 (conv=>whnf)
 refine aA.go ((Nat)) (fun i=>(i≤S.length)) (fun i=>[(37,.data (i64 i))]) (fun _=>[]) (fun _=>[]) (fun i=>S.length - i) (0) ?_ ?_
 ·exact Nat.zero_le _
 rintro i hi
 by_cases hil:i < S.length
 ·obtain⟨s,hsi⟩:∃x,S[i]? =some x:=⟨S[i]'hil,by simp⟩
  have hso:=hS s (List.mem_of_getElem? hsi)
  have hh:=Lc hR hso
  (repeat' ((conv=>whnf);first|with_reducible refine Idx.got hsi rfl ?_|(exfalso;omega)|refine gA ?_|(refine gB ?_ ?_<;>intro h)|(refine gI ?_;intro x hx)|(refine gJ ?_;intro j x hj hx)|refine gP ?_|refine gV ?_|intro _))<;>try (conv=>whnf)
  refine aB [3,4,5,6,8,35,36,37,43,44] [3,5,6,8,43] [] ?_
  (conv=>whnf)
  refine aA.go Nat (fun j=>j≤2) (fun j=>[(45,.data (i64 j))]) (fun _=>[]) (fun _=>[]) (fun j=>2 - j) 0 ?_ ?_
  ·exact Nat.zero_le _
  rintro j hj
  rcases j with _|_|j
  ·by_cases hc:aM p l X=0
   ·have hv:=(qp hc hso hh).1
    have BH:=vB X.clause s
    rw [hv] at BH
    rw [hc] at KX
    rw [hX] at KX BH
    (repeat' ((conv=>whnf);first|(exfalso;omega)|refine gA ?_|(refine gB ?_ ?_<;>intro h)|(refine gI ?_;intro x hx)|(refine gJ ?_;intro j x hj hx)|refine gP ?_|refine gV ?_|refine gC (KX) ?_|refine gC (BH) ?_|intro _))<;>try (conv=>whnf)
    all_goals first
     |(exfalso;exact absurd trivial (by assumption))
     |(refine nx ((1)) ?_
       exact (by omega:(1:Nat)≤2))
   ·rw [hX] at KX hc
    (repeat' ((conv=>whnf);first|with_reducible refine Br.no (decide_eq_false hc) ?_|(exfalso;omega)|refine gA ?_|(refine gB ?_ ?_<;>intro h)|(refine gI ?_;intro x hx)|(refine gJ ?_;intro j x hj hx)|refine gP ?_|refine gV ?_|refine gC (KX) ?_|intro _))<;>try (conv=>whnf)
    refine nx ((1)) ?_
    exact (by omega:(1:Nat)≤2)
  ·by_cases hc:aM p l Y=0
   ·have hv:=(qp hc hso hh).1
    have BH:=vB Y.clause s
    rw [hv] at BH
    rw [hc] at KY
    rw [hY] at KY BH
    (repeat' ((conv=>whnf);first|(exfalso;omega)|refine gA ?_|(refine gB ?_ ?_<;>intro h)|(refine gI ?_;intro x hx)|(refine gJ ?_;intro j x hj hx)|refine gP ?_|refine gV ?_|refine gC (KY) ?_|refine gC (BH) ?_|intro _))<;>try (conv=>whnf)
    all_goals first
     |(exfalso;exact absurd trivial (by assumption))
     |(refine nx ((2)) ?_
       exact (by omega:(2:Nat)≤2))
   ·rw [hY] at KY hc
    (repeat' ((conv=>whnf);first|with_reducible refine Br.no (decide_eq_false hc) ?_|(exfalso;omega)|refine gA ?_|(refine gB ?_ ?_<;>intro h)|(refine gI ?_;intro x hx)|(refine gJ ?_;intro j x hj hx)|refine gP ?_|refine gV ?_|refine gC (KY) ?_|intro _))<;>try (conv=>whnf)
    refine nx ((2)) ?_
    exact (by omega:(2:Nat)≤2)
  ·obtain rfl:j=0:=by omega
   (repeat' ((conv=>whnf);first|(exfalso;omega)|refine gA ?_|(refine gB ?_ ?_<;>intro h)|(refine gI ?_;intro x hx)|(refine gJ ?_;intro j x hj hx)|refine gP ?_|refine gV ?_|intro _))<;>try (conv=>whnf)
   refine nx (i+1) ?_
   exact (by omega:i+1≤S.length)
 clear KX KY BX BY BR BM BS
 have hSn:((S.map aJ.av).length:Int)=S.length:=by rw [List.length_map]
 cases two with
 |true=>
  obtain rfl:=hno rfl
  have e0:at1=0:=of_decide_eq_true hP.symm
  subst e0
  (repeat' ((conv=>whnf);first|(exfalso;omega)|refine gA ?_|(refine gB ?_ ?_<;>intro h)|(refine gI ?_;intro x hx)|(refine gJ ?_;intro j x hj hx)|refine gP ?_|refine gV ?_|refine gC (BC) ?_|refine gC (BP) ?_|refine gC (BL) ?_|refine gC (BA) ?_|intro _))<;>try (conv=>whnf)
  exact fv
 |false=>
  have e0:¬ at1=0:=of_decide_eq_false hP.symm
  have hq:(false == decide (at1=0))=true:=by rw [decide_eq_false e0];rfl
  (repeat' ((conv=>whnf);first|with_reducible refine Br.yes hq ?_|(exfalso;omega)|refine gA ?_|(refine gB ?_ ?_<;>intro h)|(refine gI ?_;intro x hx)|(refine gJ ?_;intro j x hj hx)|refine gP ?_|refine gV ?_|refine gC (BC) ?_|refine gC (BP) ?_|refine gC (BL) ?_|refine gC (BA) ?_|intro _))<;>try (conv=>whnf)
  exact fv
end Go.Proofs.YtefgamefajmdkaaGreat.Abs
