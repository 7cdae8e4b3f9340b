/- Part of a proof. -/
import Derived.Test.YthegbfgeochckaaGreatC51
import Derived.Test.YthegbfgeochckaaGreatC22
import Derived.Test.YthegbfgeochckaaGreatLg
set_option linter.all false
set_option maxRecDepth 20000
set_option maxHeartbeats 0
namespace Go.Proofs.YthegbfgeochckaaGreat.Abs
open Go.Proofs Go.RowKit
def Np (b:Dom) (i:Nat):Bool:=decide (((b.modes.getD i []).length:Int) > 1)||decide (b.lo.getD i 0 < b.hi.getD i 0)
def rW (b:Dom):Nat->Nat->Int->Int
 |0,_,k=>k
 |r+1,i,k=>rW b r (i+1) (if Np b i=true/\(k < 0\/b.lo.getD i 0 < b.lo.getD k.toNat 0) then i else k)
theorem FL (b:Dom) (i:Nat) (k:Int):rW b 0 i k=k:=rfl
theorem FM (b:Dom) (r i:Nat) (k:Int):rW b (r+1) i k=rW b r (i+1) (if Np b i=true/\(k < 0\/b.lo.getD i 0 < b.lo.getD k.toNat 0) then i else k):=rfl
def Tp (a:aB) (m:Int):Int:=(a.modes.getD m.toNat ⟨0,[],[]⟩).dur
def rX (a:aB):List Int->Int->Int
 |[],k=>k
 |m::r,k=>rX a r (if Tp a m < Tp a k then m else k)
theorem JA (a:aB) (k:Int):rX a [] k=k:=rfl
theorem FN (a:aB) (m:Int) (r:List Int) (k:Int):rX a (m::r) k=rX a r (if Tp a m < Tp a k then m else k):=rfl
def Dp (p:Proj) (b:Dom) (k:Int):Option Lit:=
 if k < 0 then none
 else if ((b.modes.getD k.toNat []).length:Int) < 2 then some ⟨2,k,b.lo.getD k.toNat 0⟩
 else some ⟨3,k,rX (nQ p k.toNat) (b.modes.getD k.toNat []) ((b.modes.getD k.toNat []).headD 0)⟩
def choice (p:Proj) (b:Dom):Option Lit:=if usable p b=true then Dp p b (rW b p.acts.length 0 (-1)) else none
theorem Ej {p:Proj} {b:Dom} (hu:usable p b=true) {k:Nat} {x y:Int} {m:List Int} (hx:b.lo[k]? =some x) (hy:b.hi[k]? =some y) (hm:b.modes[k]? =some m):x<=y/\0 < m.length:=by
 have h:=(jH hu).2
 simp only [jB,Bool.or_eq_false_iff,List.any_eq_false,List.mem_range] at h
 have h1:=h.1 k (List.getElem?_eq_some_iff.1 hx).1
 have h2:=h.2 m (List.mem_of_getElem? hm)
 simp only [rC,hx,hy,decide_eq_true_eq] at h1
 simp only [decide_eq_true_eq] at h2
 omega
def Yf (o:Option Lit):RV:=.tup [.d (o.getD bL).av,.d (.bool o.isSome)]
theorem Tq {p:Proj} {b:Dom} (h:usable p b=false):choice p b=none:=by rw [choice,if_neg (by rw [h];nofun)]
theorem qy {α:Type} {l:List α} {k:Nat} {x d:α} (h:l[k]? =some x):l.getD k d=x:=by rw [List.getD_eq_getElem?_getD,h];rfl
theorem Qd {p:Proj} {b:Dom} {i:Nat} {a:aB} {x y:Int} {m:List Int} (g:eG p b i a x y m):Np b i=true↔((m.length:Int) > 1\/x < y):=by
 simp only [Np,qy g.modes,qy g.lo,qy g.hi,Bool.or_eq_true,decide_eq_true_eq]
theorem El {p:Proj} {b:Dom} {i:Nat} {a:aB} {x y:Int} {m:List Int} (g:eG p b i a x y m) {n:Int} (hn:n∈m):∃(j:Nat) (o:Mode),n=j/\a.modes[j]? =some o/\Tp a n=o.dur:=by
 obtain⟨j,rfl,hj⟩:=g.aeP n hn
 refine⟨j,a.modes[j],rfl,by simp,?_⟩
 unfold Tp
 rw [Int.toNat_natCast,qy (show a.modes[j]? =some a.modes[j] by simp)]
def Qe (b:Dom) (i:Nat):Bool:=
 match b.lo[i]?,b.hi[i]?,b.modes[i]? with
 |some x,some y,some m=>decide (x=y)&&decide ((m.length:Int)=1)
 |_,_,_=>true
def single (b:Dom):Option bB:=if b.lo.length=b.hi.length/\b.lo.length=b.modes.length/\Es b.lo.length (Qe b)=true then some ⟨b.lo,b.modes.map (·.headD 0)⟩ else none
def aea (o:Option bB):RV:=.tup [.agg [.lin 3 ((o.getD ⟨[],[]⟩).starts.map i64),.lin 3 ((o.getD ⟨[],[]⟩).modes.map i64)],.d (.bool o.isSome)]
def afF (o:Option bB):RV:=.tup [.d (o.getD ⟨[],[]⟩).av,.d (.bool o.isSome)]
theorem vC (p:Proj) (b:Dom) (hp:p.fine):Con 86 [.d p.av,.d b.av] (Yf (choice p b)):=by
 refine con Tryz.func86 rfl rfl Tryz.call86 rfl fun hwf=>?_
 have hU:=jM p b hp
 cases hu:usable p b with
 |false=>
  rw [hu] at hU
  rw [Tq hu]
  (repeat' ((conv=>whnf);first|refine gA ?_|refine gC hU ?_|intro _))
  exact fv
 |true=>
 rw [hu] at hU
 have hf:=uH hu
 have hna:=(bX (bA hf).1).Cy
 generalize hR:choice p b=R
 rw [choice,if_pos hu] at hR
 generalize hQ:rW b p.acts.length 0 (-1)=Q at hR
 (repeat' ((conv=>whnf);first|refine gA ?_|refine gC hU ?_|intro _))
 refine ay [2,3,4,19] [2,3,4] [] ?_
 (conv=>whnf)
 refine au.go ((Nat)×(Int)) (fun⟨i,k⟩=>(i<=p.acts.length)/\(-1<=k/\k < i)/\(rW b (p.acts.length - i) i k=Q)) (fun⟨i,k⟩=>[(20,.data (i64 i)),(6,.data (i64 k))]) lE lE (fun⟨i,k⟩=>p.acts.length - i) ⟨0, -1⟩ ?_ ?_
 ·exact⟨Nat.zero_le _,⟨by omega,by omega⟩,hQ⟩
 rintro⟨i,k⟩ ⟨hi,hk,he⟩
 by_cases hlt:i < p.acts.length
 ·obtain⟨a,x,y,m,g⟩:=dN hf hlt
  have hxy:=Ej hu g.lo g.hi g.modes
  have ho:=Qd g
  rw [show p.acts.length - i=(p.acts.length - (i+1))+1 by omega,FM,qy g.lo] at he
  by_cases hk0:k < 0
  ·by_cases hc:(m.length:Int) > 1\/x < y
   ·rw [if_pos ⟨ho.2 hc,.inl hk0⟩] at he
    (repeat' ((conv=>whnf);first|(with_reducible first|refine Idx.got g.modes rfl ?_|refine Idx.got g.lo rfl ?_|refine Idx.got g.hi rfl ?_)|(exfalso;first|omega|(simp only [lm] at h;omega))|refine gA ?_|(refine gB ?_ ?_<;>intro h)|intro _))
    all_goals
     refine nx ⟨i+1,i⟩ ?_
     exact⟨by omega,by omega,he⟩
   ·rw [if_neg (fun h=>hc (ho.1 h.1))] at he
    (repeat' ((conv=>whnf);first|(with_reducible first|refine Idx.got g.modes rfl ?_|refine Idx.got g.lo rfl ?_|refine Idx.got g.hi rfl ?_)|(exfalso;first|omega|(simp only [lm] at h;omega))|refine gA ?_|(refine gB ?_ ?_<;>intro h)|intro _))
    all_goals
     refine nx ⟨i+1,k⟩ ?_
     exact⟨by omega,by omega,he⟩
  ·obtain⟨j,rfl⟩:∃j:Nat,k=j:=⟨k.toNat,by omega⟩
   obtain⟨a',x',y',m',g'⟩:=dN hf (show j < p.acts.length by omega)
   rw [Int.toNat_natCast,qy g'.lo] at he
   by_cases hc:((m.length:Int) > 1\/x < y)/\x < x'
   ·rw [if_pos ⟨ho.2 hc.1,.inr hc.2⟩] at he
    (repeat' ((conv=>whnf);first|(with_reducible first|refine Idx.got g.modes rfl ?_|refine Idx.got g.lo rfl ?_|refine Idx.got g.hi rfl ?_|refine Idx.got g'.lo rfl ?_)|(exfalso;first|omega|(simp only [lm] at h;omega))|refine gA ?_|(refine gB ?_ ?_<;>intro h)|intro _))
    all_goals
     refine nx ⟨i+1,i⟩ ?_
     exact⟨by omega,by omega,he⟩
   ·rw [if_neg (fun h=>hc ⟨ho.1 h.1,by have:=h.2;omega⟩)] at he
    (repeat' ((conv=>whnf);first|(with_reducible first|refine Idx.got g.modes rfl ?_|refine Idx.got g.lo rfl ?_|refine Idx.got g.hi rfl ?_|refine Idx.got g'.lo rfl ?_)|(exfalso;first|omega|(simp only [lm] at h;omega))|refine gA ?_|(refine gB ?_ ?_<;>intro h)|intro _))
    all_goals
     refine nx ⟨i+1,j⟩ ?_
     exact⟨by omega,by omega,he⟩
 ·rw [show p.acts.length - i=0 by omega,FL] at he
  subst he
  by_cases hk0:k < 0
  ·rw [Dp,if_pos hk0] at hR
   subst hR
   (repeat' ((conv=>whnf);first|(exfalso;omega)|(refine gB ?_ ?_<;>intro h)))
   exact fv
  ·obtain⟨j,rfl⟩:∃j:Nat,k=j:=⟨k.toNat,by omega⟩
   obtain⟨a,x,y,m,g⟩:=dN hf (show j < p.acts.length by omega)
   have hxy:=Ej hu g.lo g.hi g.modes
   rw [Dp,if_neg hk0,Int.toNat_natCast,qy g.modes,qy g.lo,Ee g.act] at hR
   by_cases h2:(m.length:Int) < 2
   ·rw [if_pos h2] at hR
    subst hR
    (repeat' ((conv=>whnf);first|(with_reducible first|refine Idx.got g.modes rfl ?_|refine Idx.got g.lo rfl ?_)|(exfalso;first|omega|(simp only [lm] at h;omega))|(refine gB ?_ ?_<;>intro h)))
    all_goals exact fv
   ·rw [if_neg h2] at hR
    have hmw:m.length<=274877906944:=by have:=jD hwf.2.1.2.2.1.2 g.modes;simp only [AV.wf,lm] at this;exact this.1
    obtain⟨m0,hm0⟩:∃m0,m[0]? =some m0:=⟨m[0]'(by omega),by simp⟩
    have hhd:m.headD 0=m0:=by cases m with|nil=>simp at hm0|cons z zs=>simpa using hm0
    rw [hhd] at hR
    generalize hZ:rX a m m0=Z at hR
    (repeat' ((conv=>whnf);first|(with_reducible first|refine Idx.got g.modes rfl ?_|refine Idx.got hm0 rfl ?_)|(exfalso;first|omega|(simp only [lm] at h;omega))|(refine gB ?_ ?_<;>intro h)))
    refine ay [2,4,6,83,84] [2,4] [] ?_
    (conv=>whnf)
    refine au.go ((Nat)×(Int)) (fun⟨r,q⟩=>(r<=m.length)/\(q∈m)/\(rX a (m.drop r) q=Z)) (fun⟨r,q⟩=>[(85,.data (i64 r)),(9,.data (i64 q))]) lE lE (fun⟨r,q⟩=>m.length - r) ⟨0,m0⟩ ?_ ?_
    ·exact⟨Nat.zero_le _,List.mem_of_getElem? hm0,hZ⟩
    rintro⟨r,q⟩ ⟨hr,hq,hz⟩
    by_cases hlr:r < m.length
    ·obtain⟨z,hz0⟩:∃z,m[r]? =some z:=⟨m[r]'hlr,by simp⟩
     obtain⟨jz,oz,ez,gz,dz⟩:=El g (List.mem_of_getElem? hz0)
     obtain⟨jq,oq,eq,gq,dq⟩:=El g hq
     rw [aA hz0,FN,dz,dq] at hz
     by_cases hc:oz.dur < oq.dur
     ·rw [if_pos hc] at hz
      (repeat' ((conv=>whnf);first|(with_reducible first|refine Idx.got hz0 rfl ?_|refine Idx.got g.act rfl ?_|refine Idx.got gz ez ?_|refine Idx.got gq eq ?_)|(exfalso;omega)|refine gA ?_|(refine gB ?_ ?_<;>intro h)))
      all_goals
       refine nx ⟨r+1,z⟩ ?_
       exact⟨by omega,List.mem_of_getElem? hz0,hz⟩
     ·rw [if_neg hc] at hz
      (repeat' ((conv=>whnf);first|(with_reducible first|refine Idx.got hz0 rfl ?_|refine Idx.got g.act rfl ?_|refine Idx.got gz ez ?_|refine Idx.got gq eq ?_)|(exfalso;omega)|refine gA ?_|(refine gB ?_ ?_<;>intro h)))
      all_goals
       refine nx ⟨r+1,q⟩ ?_
       exact⟨by omega,hq,hz⟩
    ·rw [aG (by omega),JA] at hz
     subst hz
     subst hR
     (repeat' ((conv=>whnf);first|(exfalso;omega)|(refine gB ?_ ?_<;>intro h)))
     exact fv
theorem EJ (p:Proj) (b:Dom) (hp:p.fine):Con 132 [.d p.av,.d b.av] (Yf (choice p b)):=by
 refine con Tryz.func132 rfl rfl Tryz.call132 rfl fun hwf=>?_
 have hU:=qH p b hp
 cases hu:usable p b with
 |false=>
  rw [hu] at hU
  rw [Tq hu]
  (repeat' ((conv=>whnf);first|refine gA ?_|refine gC hU ?_|intro _))
  exact fv
 |true=>
 rw [hu] at hU
 have hf:=uH hu
 have hna:=(bX (bA hf).1).Cy
 generalize hR:choice p b=R
 rw [choice,if_pos hu] at hR
 generalize hQ:rW b p.acts.length 0 (-1)=Q at hR
 (repeat' ((conv=>whnf);first|refine gA ?_|refine gC hU ?_|intro _))
 refine ay [2,3,4,18] [2,3,4] [] ?_
 (conv=>whnf)
 refine au.go ((Nat)×(Int)) (fun⟨i,k⟩=>(i<=p.acts.length)/\(-1<=k/\k < i)/\(rW b (p.acts.length - i) i k=Q)) (fun⟨i,k⟩=>[(19,.data (i64 i)),(6,.data (i64 k))]) lE lE (fun⟨i,k⟩=>p.acts.length - i) ⟨0, -1⟩ ?_ ?_
 ·exact⟨Nat.zero_le _,⟨by omega,by omega⟩,hQ⟩
 rintro⟨i,k⟩ ⟨hi,hk,he⟩
 by_cases hlt:i < p.acts.length
 ·obtain⟨a,x,y,m,g⟩:=dN hf hlt
  have hxy:=Ej hu g.lo g.hi g.modes
  have ho:=Qd g
  rw [show p.acts.length - i=(p.acts.length - (i+1))+1 by omega,FM,qy g.lo] at he
  by_cases hk0:k < 0
  ·by_cases hc:(m.length:Int) > 1\/x < y
   ·rw [if_pos ⟨ho.2 hc,.inl hk0⟩] at he
    (repeat' ((conv=>whnf);first|(with_reducible first|refine Idx.got g.modes rfl ?_|refine Idx.got g.lo rfl ?_|refine Idx.got g.hi rfl ?_)|(exfalso;first|omega|(simp only [lm] at h;omega))|refine gA ?_|(refine gB ?_ ?_<;>intro h)|intro _))
    all_goals
     refine nx ⟨i+1,i⟩ ?_
     exact⟨by omega,by omega,he⟩
   ·rw [if_neg (fun h=>hc (ho.1 h.1))] at he
    (repeat' ((conv=>whnf);first|(with_reducible first|refine Idx.got g.modes rfl ?_|refine Idx.got g.lo rfl ?_|refine Idx.got g.hi rfl ?_)|(exfalso;first|omega|(simp only [lm] at h;omega))|refine gA ?_|(refine gB ?_ ?_<;>intro h)|intro _))
    all_goals
     refine nx ⟨i+1,k⟩ ?_
     exact⟨by omega,by omega,he⟩
  ·obtain⟨j,rfl⟩:∃j:Nat,k=j:=⟨k.toNat,by omega⟩
   obtain⟨a',x',y',m',g'⟩:=dN hf (show j < p.acts.length by omega)
   rw [Int.toNat_natCast,qy g'.lo] at he
   by_cases hc:((m.length:Int) > 1\/x < y)/\x < x'
   ·rw [if_pos ⟨ho.2 hc.1,.inr hc.2⟩] at he
    (repeat' ((conv=>whnf);first|(with_reducible first|refine Idx.got g.modes rfl ?_|refine Idx.got g.lo rfl ?_|refine Idx.got g.hi rfl ?_|refine Idx.got g'.lo rfl ?_)|(exfalso;first|omega|(simp only [lm] at h;omega))|refine gA ?_|(refine gB ?_ ?_<;>intro h)|intro _))
    all_goals
     refine nx ⟨i+1,i⟩ ?_
     exact⟨by omega,by omega,he⟩
   ·rw [if_neg (fun h=>hc ⟨ho.1 h.1,by have:=h.2;omega⟩)] at he
    (repeat' ((conv=>whnf);first|(with_reducible first|refine Idx.got g.modes rfl ?_|refine Idx.got g.lo rfl ?_|refine Idx.got g.hi rfl ?_|refine Idx.got g'.lo rfl ?_)|(exfalso;first|omega|(simp only [lm] at h;omega))|refine gA ?_|(refine gB ?_ ?_<;>intro h)|intro _))
    all_goals
     refine nx ⟨i+1,j⟩ ?_
     exact⟨by omega,by omega,he⟩
 ·rw [show p.acts.length - i=0 by omega,FL] at he
  subst he
  by_cases hk0:k < 0
  ·rw [Dp,if_pos hk0] at hR
   subst hR
   (repeat' ((conv=>whnf);first|(exfalso;omega)|(refine gB ?_ ?_<;>intro h)))
   exact fv
  ·obtain⟨j,rfl⟩:∃j:Nat,k=j:=⟨k.toNat,by omega⟩
   obtain⟨a,x,y,m,g⟩:=dN hf (show j < p.acts.length by omega)
   have hxy:=Ej hu g.lo g.hi g.modes
   rw [Dp,if_neg hk0,Int.toNat_natCast,qy g.modes,qy g.lo,Ee g.act] at hR
   by_cases h2:(m.length:Int) < 2
   ·rw [if_pos h2] at hR
    subst hR
    (repeat' ((conv=>whnf);first|(with_reducible first|refine Idx.got g.modes rfl ?_|refine Idx.got g.lo rfl ?_)|(exfalso;first|omega|(simp only [lm] at h;omega))|(refine gB ?_ ?_<;>intro h)))
    all_goals exact fv
   ·rw [if_neg h2] at hR
    have hmw:m.length<=274877906944:=by have:=jD hwf.2.1.2.2.1.2 g.modes;simp only [AV.wf,lm] at this;exact this.1
    obtain⟨m0,hm0⟩:∃m0,m[0]? =some m0:=⟨m[0]'(by omega),by simp⟩
    have hhd:m.headD 0=m0:=by cases m with|nil=>simp at hm0|cons z zs=>simpa using hm0
    rw [hhd] at hR
    generalize hZ:rX a m m0=Z at hR
    (repeat' ((conv=>whnf);first|(with_reducible first|refine Idx.got g.modes rfl ?_|refine Idx.got hm0 rfl ?_)|(exfalso;first|omega|(simp only [lm] at h;omega))|(refine gB ?_ ?_<;>intro h)))
    refine ay [2,4,6,87,88] [2,4] [] ?_
    (conv=>whnf)
    refine au.go ((Nat)×(Int)) (fun⟨r,q⟩=>(r<=m.length)/\(q∈m)/\(rX a (m.drop r) q=Z)) (fun⟨r,q⟩=>[(89,.data (i64 r)),(8,.data (i64 q))]) lE lE (fun⟨r,q⟩=>m.length - r) ⟨0,m0⟩ ?_ ?_
    ·exact⟨Nat.zero_le _,List.mem_of_getElem? hm0,hZ⟩
    rintro⟨r,q⟩ ⟨hr,hq,hz⟩
    by_cases hlr:r < m.length
    ·obtain⟨z,hz0⟩:∃z,m[r]? =some z:=⟨m[r]'hlr,by simp⟩
     obtain⟨jz,oz,ez,gz,dz⟩:=El g (List.mem_of_getElem? hz0)
     obtain⟨jq,oq,eq,gq,dq⟩:=El g hq
     rw [aA hz0,FN,dz,dq] at hz
     by_cases hc:oz.dur < oq.dur
     ·rw [if_pos hc] at hz
      (repeat' ((conv=>whnf);first|(with_reducible first|refine Idx.got hz0 rfl ?_|refine Idx.got g.act rfl ?_|refine Idx.got gz ez ?_|refine Idx.got gq eq ?_)|(exfalso;omega)|refine gA ?_|(refine gB ?_ ?_<;>intro h)))
      all_goals
       refine nx ⟨r+1,z⟩ ?_
       exact⟨by omega,List.mem_of_getElem? hz0,hz⟩
     ·rw [if_neg hc] at hz
      (repeat' ((conv=>whnf);first|(with_reducible first|refine Idx.got hz0 rfl ?_|refine Idx.got g.act rfl ?_|refine Idx.got gz ez ?_|refine Idx.got gq eq ?_)|(exfalso;omega)|refine gA ?_|(refine gB ?_ ?_<;>intro h)))
      all_goals
       refine nx ⟨r+1,q⟩ ?_
       exact⟨by omega,hq,hz⟩
    ·rw [aG (by omega),JA] at hz
     subst hz
     subst hR
     (repeat' ((conv=>whnf);first|(exfalso;omega)|(refine gB ?_ ?_<;>intro h)))
     exact fv
theorem vD (b:Dom):Con 84 [.d b.av] (aea (single b)):=by
 refine con Tryz.func84 rfl rfl Tryz.call84 rfl fun hwf=>?_
 simp only [ARs.wf,AR.wf,AV.wf,AV.wfs,lm,lim] at hwf
 by_cases hl:b.lo.length=b.hi.length/\b.lo.length=b.modes.length
 rotate_left
 ·rw [show single b=none by rw [single,if_neg (fun h=>hl ⟨h.1,h.2.1⟩)]]
  (repeat' ((conv=>whnf);first|(exfalso;first|omega|(simp only [lm] at*;omega))|refine gA ?_|(refine gB ?_ ?_<;>intro h)))
  all_goals exact fv
 obtain⟨hl1,hl2⟩:=hl
 generalize hR:single b=R
 (repeat' ((conv=>whnf);first|(exfalso;first|omega|(simp only [lm] at*;omega))|refine gA ?_|(refine gB ?_ ?_<;>intro h)))<;>try (conv=>whnf)
 refine ay [1,2,4,26,27] [1,2] [54,65] ?_
 (conv=>whnf)
 refine au.go ((Nat)) (fun k=>(k<=b.lo.length)/\(∀i,i < k->Qe b i=true)) (fun k=>[(28,.data (i64 k))]) (fun k=>[(4,[.own 54 0,.own 65 0])]) (fun k=>[(54,3,(b.lo.take k).map i64,1),(65,3,((b.modes.take k).map (·.headD 0)).map i64,1)]) (fun k=>b.lo.length - k) (0) ?_ ?_
 ·exact⟨Nat.zero_le _,fun i h=>absurd h (Nat.not_lt_zero i)⟩
 rintro k ⟨hk,hi⟩
 by_cases hlt:k < b.lo.length
 ·obtain⟨x,hx⟩:∃x,b.lo[k]? =some x:=⟨b.lo[k]'hlt,by simp⟩
  obtain⟨y,hy⟩:∃y,b.hi[k]? =some y:=⟨b.hi[k]'(by omega),by simp⟩
  obtain⟨m,hm⟩:∃m,b.modes[k]? =some m:=⟨b.modes[k]'(by omega),by simp⟩
  have ho:Qe b k=(decide (x=y)&&decide ((m.length:Int)=1)):=by simp only [Qe,hx,hy,hm]
  have hlk:(b.lo.take k).length<=k:=by rw [List.length_take];omega
  have hmk:(b.modes.take k).length<=k:=by rw [List.length_take];omega
  by_cases hc:x=y/\(m.length:Int)=1
  ·obtain⟨z,hz⟩:∃z,m[0]? =some z:=⟨m[0]'(by omega),by simp⟩
   have hzd:m.headD 0=z:=by cases m with|nil=>simp at hz|cons z1 zs=>simpa using hz
   have e1:(b.lo.take k).map i64++[i64 x]=(b.lo.take (k+1)).map i64:=(lF i64 hx).symm
   have e2:((b.modes.take k).map (·.headD 0)).map i64++[i64 z]=((b.modes.take (k+1)).map (·.headD 0)).map i64:=by rw [List.map_map,List.map_map,lF (i64 ∘ fun l:List Int=>l.headD 0) hm];simp only [Function.comp,hzd]
   (repeat' ((conv=>whnf);first|(with_reducible first|refine Idx.got hx rfl ?_|refine Idx.got hy rfl ?_|refine Idx.got hm rfl ?_|refine Idx.got hz rfl ?_)|(exfalso;first|omega|(simp only [lm] at h;omega))|refine gAX ?_|(refine gB ?_ ?_<;>intro h)))<;>try (conv=>whnf)
   all_goals
    refine nw ((k+1)) ?_ ?_
    ·(repeat' ((conv=>whnf)<;>(first|exact trivial|exact rfl|with_reducible refine And.intro ?_ ?_)))<;>((conv=>whnf)<;>(first|exact e1|exact e2))
    exact⟨by omega,eY hi (by rw [ho,hc.1];simp [hc.2])⟩
  ·have e:R=none:=by
    rw [<- hR,single,if_neg]
    rintro⟨_,_,h⟩
    rw [fT k hlt (by rw [ho];simp only [Bool.and_eq_false_iff,decide_eq_false_iff_not];omega)] at h
    cases h
   subst e
   (repeat' ((conv=>whnf);first|(with_reducible first|refine Idx.got hx rfl ?_|refine Idx.got hy rfl ?_|refine Idx.got hm rfl ?_)|(exfalso;first|omega|(simp only [lm] at h;omega))|refine gA ?_|(refine gB ?_ ?_<;>intro h)))
   all_goals exact fv
 ·obtain rfl:k=b.lo.length:=by omega
  have e:R=some ⟨b.lo,b.modes.map (·.headD 0)⟩:=by rw [<- hR,single,if_pos ⟨hl1,hl2,dB.2 hi⟩]
  subst e
  rw [List.take_of_length_le (Nat.le_refl _),hl2,List.take_of_length_le (Nat.le_refl _)]
  (repeat' ((conv=>whnf);first|(exfalso;omega)|(refine gB ?_ ?_<;>intro h)))
  exact fv
theorem EK (b:Dom):Con 59 [.d b.av] (afF (single b)):=by
 refine con Tryz.func59 rfl rfl Tryz.call59 rfl fun hwf=>?_
 simp only [ARs.wf,AR.wf,AV.wf,AV.wfs,lm,lim] at hwf
 by_cases hl:b.lo.length=b.hi.length/\b.lo.length=b.modes.length
 rotate_left
 ·rw [show single b=none by rw [single,if_neg (fun h=>hl ⟨h.1,h.2.1⟩)]]
  (repeat' ((conv=>whnf);first|(exfalso;first|omega|(simp only [lm] at*;omega))|refine gA ?_|(refine gB ?_ ?_<;>intro h)))
  all_goals exact fv
 obtain⟨hl1,hl2⟩:=hl
 generalize hR:single b=R
 (repeat' ((conv=>whnf);first|(exfalso;first|omega|(simp only [lm] at*;omega))|refine gA ?_|(refine gB ?_ ?_<;>intro h)))<;>try (conv=>whnf)
 refine ay [1,2,4,26,27] [1,2] [54,66] ?_
 (conv=>whnf)
 refine au.go ((Nat)) (fun k=>(k<=b.lo.length)/\(∀i,i < k->Qe b i=true)) (fun k=>[(28,.data (i64 k))]) (fun k=>[(4,[.own 54 0,.own 66 0])]) (fun k=>[(54,3,(b.lo.take k).map i64,1),(66,3,((b.modes.take k).map (·.headD 0)).map i64,1)]) (fun k=>b.lo.length - k) (0) ?_ ?_
 ·exact⟨Nat.zero_le _,fun i h=>absurd h (Nat.not_lt_zero i)⟩
 rintro k ⟨hk,hi⟩
 by_cases hlt:k < b.lo.length
 ·obtain⟨x,hx⟩:∃x,b.lo[k]? =some x:=⟨b.lo[k]'hlt,by simp⟩
  obtain⟨y,hy⟩:∃y,b.hi[k]? =some y:=⟨b.hi[k]'(by omega),by simp⟩
  obtain⟨m,hm⟩:∃m,b.modes[k]? =some m:=⟨b.modes[k]'(by omega),by simp⟩
  have ho:Qe b k=(decide (x=y)&&decide ((m.length:Int)=1)):=by simp only [Qe,hx,hy,hm]
  have hlk:(b.lo.take k).length<=k:=by rw [List.length_take];omega
  have hmk:(b.modes.take k).length<=k:=by rw [List.length_take];omega
  by_cases hc:x=y/\(m.length:Int)=1
  ·obtain⟨z,hz⟩:∃z,m[0]? =some z:=⟨m[0]'(by omega),by simp⟩
   have hzd:m.headD 0=z:=by cases m with|nil=>simp at hz|cons z1 zs=>simpa using hz
   have e1:(b.lo.take k).map i64++[i64 x]=(b.lo.take (k+1)).map i64:=(lF i64 hx).symm
   have e2:((b.modes.take k).map (·.headD 0)).map i64++[i64 z]=((b.modes.take (k+1)).map (·.headD 0)).map i64:=by rw [List.map_map,List.map_map,lF (i64 ∘ fun l:List Int=>l.headD 0) hm];simp only [Function.comp,hzd]
   (repeat' ((conv=>whnf);first|(with_reducible first|refine Idx.got hx rfl ?_|refine Idx.got hy rfl ?_|refine Idx.got hm rfl ?_|refine Idx.got hz rfl ?_)|(exfalso;first|omega|(simp only [lm] at h;omega))|refine gAX ?_|(refine gB ?_ ?_<;>intro h)))<;>try (conv=>whnf)
   all_goals
    refine nw ((k+1)) ?_ ?_
    ·(repeat' ((conv=>whnf)<;>(first|exact trivial|exact rfl|with_reducible refine And.intro ?_ ?_)))<;>((conv=>whnf)<;>(first|exact e1|exact e2))
    exact⟨by omega,eY hi (by rw [ho,hc.1];simp [hc.2])⟩
  ·have e:R=none:=by
    rw [<- hR,single,if_neg]
    rintro⟨_,_,h⟩
    rw [fT k hlt (by rw [ho];simp only [Bool.and_eq_false_iff,decide_eq_false_iff_not];omega)] at h
    cases h
   subst e
   (repeat' ((conv=>whnf);first|(with_reducible first|refine Idx.got hx rfl ?_|refine Idx.got hy rfl ?_|refine Idx.got hm rfl ?_)|(exfalso;first|omega|(simp only [lm] at h;omega))|refine gA ?_|(refine gB ?_ ?_<;>intro h)))
   all_goals exact fv
 ·obtain rfl:k=b.lo.length:=by omega
  have e:R=some ⟨b.lo,b.modes.map (·.headD 0)⟩:=by rw [<- hR,single,if_pos ⟨hl1,hl2,dB.2 hi⟩]
  subst e
  rw [List.take_of_length_le (Nat.le_refl _),hl2,List.take_of_length_le (Nat.le_refl _)]
  (repeat' ((conv=>whnf);first|(exfalso;omega)|(refine gB ?_ ?_<;>intro h)))
  exact fv
open Go.Proofs Go.RowKit
attribute [local irreducible] dS eu aO status litValue single choice iX dU
theorem Idx.lit {l:List AV} {i:Int} {k:Nat} {x:AV} {K:Nat->AV->Prop} (hx:l[k]? =some x) (h:i=k) (hk:K k x):Idx l i K:=⟨k,x,h,hx,hk⟩
structure Way where
 lines:List Lin
 visits:Int
 found:Option bB
 stopped:Bool
def takeLog (g:Lg) (l:Lit):Option Lg:=if (qZ g.proj l&& !decide ((g.decs.length:Int)=20))=true then some ⟨g.proj,restrict g.dom l,g.decs++[l],g.lines⟩ else none
theorem nK {g n:Lg} {l:Lit} (h:takeLog g l=some n):n.proj=g.proj/\n.decs=g.decs++[l]/\¬(g.decs.length:Int)=20/\n.lines=g.lines:=by
 unfold takeLog at h
 split at h
 ·rename_i hc
  cases h
  simp only [Bool.and_eq_true,Bool.not_eq_true',decide_eq_false_iff_not] at hc
  exact⟨rfl,rfl,hc.2,rfl⟩
 ·cases h
def bC (g:Lg) (ls:List Lin):Lg:=⟨g.proj,g.dom,g.decs,ls⟩
def qz (h:Lg):Option bB:=match single h.dom with
 |none=>none
 |some s=>if tT h.proj s=true then some s else none
def jZ (h:Lg) (ls:List Lin) (v:Int):Way:=if aO h.proj ls (bH h)=0 then⟨ls++[bH h],v,none,false⟩ else⟨ls,v,none,true⟩
def eB (h:Lg) (rec:Int->Lg->Way) (x:Lit) (ls:List Lin) (v:Int):Way:=match takeLog (bC h ls) x with
 |none=>⟨ls,v,none,true⟩
 |some n=>rec v n
def fU (h:Lg) (rec:Int->Lg->Way):List Lit->List Lin->Int->Way
 |[],ls,v=>jZ h ls v
 |x::xs,ls,v=>match eB h rec x ls v with
  |⟨ls',v',none,false⟩=>fU h rec xs ls' v'
  |w=>w
def kr (h:Lg) (rec:Int->Lg->Way) (v:Int):Way:=match iX h with
 |some k=>⟨k.lines,v,none,false⟩
 |none=>match qz h with
  |some s=>⟨h.lines,v,some s,false⟩
  |none=>match choice h.proj h.dom with
   |none=>⟨h.lines,v,none,true⟩
   |some l=>fU h rec [l,negate l] h.lines v
def vis (most:Int):Nat->Int->Lg->Way
 |0,v,g=>⟨g.lines,v,none,true⟩
 |f+1,v,g=>if v=most then⟨g.lines,v,none,true⟩ else kr (dU 40 0 g).1 (fun v g=>vis most f v g) (v+1)
theorem Dq (most:Int) (f:Nat) (g:Lg):vis most (f+1) most g=⟨g.lines,most,none,true⟩:=by rw [vis,if_pos rfl]
theorem zL (most:Int) (f:Nat) (v:Int) (g:Lg) (h:v≠most):vis most (f+1) v g=kr (dU 40 0 g).1 (fun v g=>vis most f v g) (v+1):=by rw [vis,if_neg h]
theorem mY {h:Lg} {rec:Int->Lg->Way} {x:Lit} {ls:List Lin} {v:Int} (e:takeLog (bC h ls) x=none):eB h rec x ls v=⟨ls,v,none,true⟩:=by simp only [eB,e]
theorem mZ {h n:Lg} {rec:Int->Lg->Way} {x:Lit} {ls:List Lin} {v:Int} (e:takeLog (bC h ls) x=some n):eB h rec x ls v=rec v n:=by simp only [eB,e]
theorem Ma (h:Lg) (rec:Int->Lg->Way) (ls:List Lin) (v:Int):fU h rec [] ls v=jZ h ls v:=rfl
theorem oJ {h:Lg} {rec:Int->Lg->Way} {x:Lit} {xs:List Lit} {ls ls':List Lin} {v v':Int} (e:eB h rec x ls v=⟨ls',v',none,false⟩):fU h rec (x::xs) ls v=fU h rec xs ls' v':=by simp only [fU,e]
theorem iL {h:Lg} {rec:Int->Lg->Way} {x:Lit} {xs:List Lit} {ls:List Lin} {v:Int} {w:Way} (e:eB h rec x ls v=w) (hw:w.found.isSome=true\/w.stopped=true):fU h rec (x::xs) ls v=w:=by
 simp only [fU,e]
 rcases w with⟨a,b,_|c,_|_⟩
 ·simp at hw
 ·rfl
 ·rfl
 ·rfl
theorem JB (h:Lg) (ls:List Lin) (v most:Int) (hv:v<=most):v<=(jZ h ls v).visits/\(jZ h ls v).visits<=most:=by
 unfold jZ;split<;>exact⟨Int.le_refl _,hv⟩
theorem uj {h:Lg} {rec:Int->Lg->Way} {most:Int} (hr:∀v g,v<=most->v<=(rec v g).visits/\(rec v g).visits<=most):∀(xs:List Lit) (ls:List Lin) (v:Int),v<=most->v<=(fU h rec xs ls v).visits/\(fU h rec xs ls v).visits<=most
 |[],ls,v,hv=>JB h ls v most hv
 |x::xs,ls,v,hv=>by
  have hs:v<=(eB h rec x ls v).visits/\(eB h rec x ls v).visits<=most:=by
   unfold eB
   split
   ·exact⟨Int.le_refl _,hv⟩
   ·exact hr _ _ hv
  rcases hw:eB h rec x ls v with⟨a,b,_|c,_|_⟩
  ·rw [hw] at hs
   rw [oJ hw]
   have:=uj (h:=h) hr xs a b hs.2
   exact⟨by have:=hs.1;dsimp only at this;omega,this.2⟩
  all_goals
   rw [iL hw (by simp)]
   rw [hw] at hs;exact hs
theorem mF (most:Int):∀(f:Nat) (v:Int) (g:Lg),v<=most->v<=(vis most f v g).visits/\(vis most f v g).visits<=most
 |0,v,g,hv=>⟨Int.le_refl _,hv⟩
 |f+1,v,g,hv=>by
  by_cases h:v=most
  ·subst h;rw [Dq];exact⟨Int.le_refl _,Int.le_refl _⟩
  ·rw [zL _ _ _ _ h]
   have hv1:v+1<=most:=by omega
   suffices hh:v+1<=(kr (dU 40 0 g).1 (fun v g=>vis most f v g) (v+1)).visits/\(kr (dU 40 0 g).1 (fun v g=>vis most f v g) (v+1)).visits<=most from ⟨by omega,hh.2⟩
   unfold kr
   split
   ·exact⟨Int.le_refl _,hv1⟩
   ·split
    ·exact⟨Int.le_refl _,hv1⟩
    ·split
     ·exact⟨Int.le_refl _,hv1⟩
     ·exact uj (fun v g hv=>mF most f v g hv) _ _ _ hv1
theorem AZ {h k:Lg} {rec:Int->Lg->Way} {v:Int} (e:iX h=some k):kr h rec v=⟨k.lines,v,none,false⟩:=by unfold kr;rw [e]
theorem Ba {h:Lg} {s:bB} {rec:Int->Lg->Way} {v:Int} (e:iX h=none) (e2:qz h=some s):kr h rec v=⟨h.lines,v,some s,false⟩:=by unfold kr;rw [e];dsimp only;rw [e2]
theorem Bb {h:Lg} {rec:Int->Lg->Way} {v:Int} (e:iX h=none) (e2:qz h=none):kr h rec v=(match choice h.proj h.dom with|none=>⟨h.lines,v,none,true⟩|some l=>fU h rec [l,negate l] h.lines v):=by unfold kr;rw [e];dsimp only;rw [e2]
end Go.Proofs.YthegbfgeochckaaGreat.Abs
namespace Go.Proofs.YthegbfgeochckaaGreat.Abs
open Go.Proofs Go.RowKit
attribute [local irreducible] dS eu aO status litValue single choice iX dU
def EL (most v:Int) (b:Lg):List SV:=[.data (i64 most),.data (i64 v),.data (i64 b.proj.dead),.data (.sl (b.proj.acts.map aB.av)),.data (.sl (b.proj.links.map Link.av)),.data (.sl (b.proj.aS.map aK.av)),.data (ints b.proj.aH),.data (ints b.dom.lo),.data (ints b.dom.hi),.data (.sl (b.dom.modes.map ints)),.data (lits b.decs),.data (.sl (b.lines.map Lin.av)),.data (.bool false),.data (.bool false),.aj,.aj]
def lgC (b:Lg) (ls:List Lin):List SV:=[.data (i64 b.proj.dead),.data (.sl (b.proj.acts.map aB.av)),.data (.sl (b.proj.links.map Link.av)),.data (.sl (b.proj.aS.map aK.av)),.data (ints b.proj.aH),.data (ints b.dom.lo),.data (ints b.dom.hi),.data (.sl (b.dom.modes.map ints)),.data (lits b.decs),.data (.sl (ls.map Lin.av))]
def aeb (most:Int):List SV:=[.data (i64 most),.data (i64 0),.data (i64 0),.aj,.aj,.aj,.aj,.aj,.aj,.aj,.aj,.aj,.data (.bool false),.data (.bool false),.aj,.aj]
def afG (most v:Int) (b:Lg) (found stopped:Bool) (s m:RV):List RV:=[.d (i64 most),.d (i64 v),.d (i64 b.proj.dead),.d (.sl (b.proj.acts.map aB.av)),.d (.sl (b.proj.links.map Link.av)),.d (.sl (b.proj.aS.map aK.av)),.d (ints b.proj.aH),.d (ints b.dom.lo),.d (ints b.dom.hi),.d (.sl (b.dom.modes.map ints)),.d (lits b.decs),.d (.sl (b.lines.map Lin.av)),.d (.bool found),.d (.bool stopped),s,m]
def Bc (most:Int) (b:Lg):Way->RV
 |⟨ls,v,none,st⟩=>.eff 0 (.d (.sl (ls.map Lin.av))) (afG most v b false st .aj .aj)
 |⟨ls,v,some s,st⟩=>.eff 0 (.d (.sl (ls.map Lin.av))) (afG most v b true st (.lin 3 (s.starts.map i64)) (.lin 3 (s.modes.map i64)))
theorem abh {most:Int} {n:Nat} {b:Lg} {W:Way} {args:List AR} (h:(Nat.ble args.length n&&Sd args)=true):(Nat.ble args.length n&&Xb args (Bc most b W))=true:=by
 have e:(Bc most b W).yZ=true:=by rcases W with⟨_,_,_|_,_⟩<;>rfl
 simp only [Bool.and_eq_true] at h
 simp only [Xb,e,h.1,h.2,Bool.and_true,Bool.or_true]
theorem jT (most v:Int) (b:Lg) (ls:List Lin):Con 81 [.bx (EL most v b),.d (.sl (ls.map Lin.av))] (Bc most b ⟨ls,v,none,true⟩):=by
 refine con Tryz.func81 rfl rfl Tryz.call81 rfl fun hwf=>?_
 try (conv=>whnf)
 exact fv
theorem yu (g:Lg) (l:Lit) (hp:g.proj.fine) (hd:g.decs.length<=20):Con 88 [.d g.av,.d l.av] (nH (takeLog g l)):=by
 refine con Tryz.func88 rfl rfl Tryz.call88 rfl fun hwf=>?_
 have hT:=rF g.proj l hp
 by_cases hk:(qZ g.proj l&& !decide ((g.decs.length:Int)=20))=true
 ·rw [takeLog,if_pos hk,mX]
  simp only [Bool.and_eq_true,Bool.not_eq_true',decide_eq_false_iff_not] at hk
  rw [hk.1] at hT
  have h3:=hk.2
  (repeat' ((conv=>whnf);first|with_reducible refine Br.no (decide_eq_false (by simp only [lm];omega)) ?_|refine gAP ?_|refine gC hT ?_|refine gC (yS g) ?_|refine gC (fP g.dom l) ?_|intro _))
  (repeat' ((conv=>whnf)<;>(first|exact trivial|exact VC.nod (by kernel_rfl)|refine VC.mk (by first|with_reducible rfl|(simp;done)|rfl) ?_)))
 ·rw [takeLog,if_neg hk]
  (repeat' ((conv=>whnf);first|refine gA ?_|(refine gB ?_ ?_<;>intro h)|refine gC hT ?_|intro _))
  all_goals first
   |(exfalso;simp_all;done)
   |exact fv
theorem yw:∀(f n:Nat) (g:Lg),(dU f n g).1.decs=g.decs
 |0,_,_=>by rw [yh]
 |f+1,n,g=>by
  rw [uK]
  cases h:ug g with
  |none=>rfl
  |some x=>
   dsimp only
   rw [yw f]
   rw [xg] at h
   split at h
   ·cases h
   ·unfold qI at h
    split at h
    ·cases h;rfl
    ·cases h
theorem Rn {p:Proj} {b:Dom} {l:Lit} (h:choice p b=some l):usable p b=true:=by
 unfold choice at h
 split at h
 ·assumption
 ·cases h
theorem vP {h:Lg} {s:bB} (e:qz h=some s):single h.dom=some s/\tT h.proj s=true:=by
 unfold qz at e
 split at e
 ·cases e
 ·rename_i x hx
  split at e
  ·rename_i hk;cases e;exact⟨hx,hk⟩
  ·cases e
theorem Dr {h:Lg} {s:bB} (e:qz h=none) (hs:single h.dom=some s):tT h.proj s=false:=by
 unfold qz at e
 rw [hs] at e
 dsimp only at e
 split at e
 ·cases e
 ·rename_i hk
  cases hh:tT h.proj s with
  |false=>rfl
  |true=>exact absurd hh hk
theorem MK (v:Int) (b:Lg) (g:Lg):Con 27 [.bx (EL v v b),.d g.av] (Bc v b ⟨g.lines,v,none,true⟩):=by
 refine con Tryz.func27 rfl rfl Tryz.call27 rfl fun hwf=>?_
 have hS:=jT v v b g.lines
 rw [Bc] at hS ⊢
 (repeat' ((conv=>whnf);first|with_reducible refine Br.yes (decide_eq_true rfl) ?_|refine gA ?_|refine gC hS ?_|intro _))
 exact fv
end Go.Proofs.YthegbfgeochckaaGreat.Abs
namespace Go.Proofs.YthegbfgeochckaaGreat.Abs
open Go.Proofs Go.RowKit
attribute [local irreducible] dS eu aO status litValue single choice iX dU
def ZX (most v:Int):List SV:=[.data (i64 most),.data (i64 v),.aj,.aj,.data (.bool false),.data (.bool false)]
def pR (most:Int) (g:Lg):Way->RV
 |⟨ls,v,none,st⟩=>.eff 0 (.d (bC g ls).av) [.d (i64 most),.d (i64 v),.aj,.aj,.d (.bool false),.d (.bool st)]
 |⟨ls,v,some s,st⟩=>.eff 0 (.d (bC g ls).av) [.d (i64 most),.d (i64 v),.d (ints s.starts),.d (ints s.modes),.d (.bool true),.d (.bool st)]
theorem Qf {most:Int} {n:Nat} {b:Lg} {W:Way} {args:List AR} (h:(Nat.ble args.length n&&Sd args)=true):(Nat.ble args.length n&&Xb args (pR most b W))=true:=by
 have e:(pR most b W).yZ=true:=by rcases W with⟨_,_,_|_,_⟩<;>rfl
 simp only [Bool.and_eq_true] at h
 simp only [Xb,e,h.1,h.2,Bool.and_true,Bool.or_true]
theorem acj (g:Lg) (l:Lit) (hp:g.proj.fine) (hd:g.decs.length<=20) (hs:∀m∈g.dom.modes,jU m=true):Con 219 [.d g.av,.d l.av] (nH (takeLog g l)):=by
 refine con Tryz.func219 rfl rfl Tryz.call219 rfl fun hwf=>?_
 have hT:=oh g.proj l hp
 have hX:=jL g.dom l (fun m h=>hs m (List.mem_of_getElem? h))
 by_cases hk:(qZ g.proj l&& !decide ((g.decs.length:Int)=20))=true
 ·rw [takeLog,if_pos hk,mX]
  simp only [Bool.and_eq_true,Bool.not_eq_true',decide_eq_false_iff_not] at hk
  rw [hk.1] at hT
  have h3:=hk.2
  (repeat' ((conv=>whnf);first|with_reducible refine Br.no (decide_eq_false (by simp only [lm];omega)) ?_|refine gAP ?_|refine gC hT ?_|refine gC (Rj g) ?_|refine gC hX ?_|intro _))
  (repeat' ((conv=>whnf)<;>(first|exact trivial|exact VC.nod (by kernel_rfl)|refine VC.mk (by first|with_reducible rfl|(simp;done)|rfl) ?_)))
 ·rw [takeLog,if_neg hk]
  (repeat' ((conv=>whnf);first|refine gA ?_|(refine gB ?_ ?_<;>intro h)|refine gC hT ?_|intro _))
  all_goals first
   |(exfalso;simp_all;done)
   |exact fv
def Bd (most v:Int) (g:Lg):Lg:=if v=most then g else (dU 40 0 g).1
def JC (most:Int) (g:Lg) (l:Lit) (v:Int):Lg:=match takeLog g l with|none=>g|some n=>Bd most v n
theorem Dt (g:Lg):bC g g.lines=g:=rfl
theorem acn (most:Int) (f:Nat) (ih:∀(v:Int) (g:Lg),g.proj.fine->g.decs.length<=20->most < v+f->0<=v->v<=most->Con 19 [.bx (ZX most v),.d g.av] (pR most (Bd most v g) (vis most f v g)))
  (v:Int) (g:Lg) (l:Lit) (hp:g.proj.fine) (hd:g.decs.length<=20) (hs:∀m∈g.dom.modes,jU m=true) (hf:most < v+f) (hv0:0<=v) (hv:v<=most):
  Con 134 [.bx (ZX most v),.d g.av,.d l.av] (pR most (JC most g l v) (eB g (fun v g=>vis most f v g) l g.lines v)):=by
 refine con Tryz.func134 rfl rfl Tryz.call134 (Qf rfl) fun hwf=>?_
 have hT:=acj g l hp hd hs
 cases ht:takeLog g l with
 |none=>
  rw [ht,nH] at hT
  dsimp only [Option.getD,Option.isSome] at hT
  rw [mY (by rw [Dt];exact ht),JC,ht,pR]
  (repeat' ((conv=>whnf);first|refine gA ?_|refine gC hT ?_|intro _))
  exact fv
 |some n=>
  rw [ht,mX] at hT
  obtain⟨q1,q2,q3,q4⟩:=nK ht
  have hI:=ih v n (by rw [q1];exact hp) (by rw [q2,List.length_append];simp only [List.length_cons,List.length_nil];omega) hf hv0 hv
  rw [mZ (by rw [Dt];exact ht),JC,ht]
  dsimp only
  rcases hw:vis most f v n with⟨l1,w1,_|s1,st⟩
  all_goals
   rw [hw,pR] at hI
   rw [pR]
   (repeat' ((conv=>whnf);first|refine gA ?_|refine gC hT ?_|refine gC hI ?_|intro _))
   exact fv
theorem aco (most:Int) (f:Nat) (hm:most<=60) (ih:∀(v:Int) (g:Lg),g.proj.fine->g.decs.length<=20->most < v+f->0<=v->v<=most->Con 19 [.bx (ZX most v),.d g.av] (pR most (Bd most v g) (vis most f v g)))
  (v:Int) (lg:Lg) (hp:lg.proj.fine) (hd:lg.decs.length<=20) (hf:most < v+f) (hv0:0<=v) (hv:v<=most):
  Con 61 [.bx (ZX most v),.d lg.av] (pR most lg (match choice lg.proj lg.dom with|none=>⟨lg.lines,v,none,true⟩|some l=>fU lg (fun v g=>vis most f v g) [l,negate l] lg.lines v)):=by
 refine con Tryz.func61 rfl rfl Tryz.call61 (Qf rfl) fun hwf=>?_
 simp only [ARs.wf,AR.wf,YU,ZX,AV.wf,AV.wfs,List.length_map,lim] at hwf
 have hC:=EJ lg.proj lg.dom hp
 rw [Yf] at hC
 cases hch:choice lg.proj lg.dom with
 |none=>
  rw [hch] at hC
  dsimp only [Option.getD,Option.isSome] at hC ⊢
  rw [pR]
  (repeat' ((conv=>whnf);first|refine gA ?_|refine gC hC ?_|intro _))
  exact fv
 |some l=>
 rw [hch] at hC
 dsimp only [Option.getD,Option.isSome] at hC ⊢
 have hset:∀m∈lg.dom.modes,jU m=true:=fun m hm=>by
  obtain⟨k,hk⟩:=List.mem_iff_getElem?.1 hm
  exact rP (uH (Rn hch)) hk
 generalize hW:fU lg (fun v g=>vis most f v g) [l,negate l] lg.lines v=W
 (repeat' ((conv=>whnf);first|refine gA ?_|refine gC hC ?_|refine gC (AU lg) ?_|refine gC (qL l) ?_|intro _))
 refine ay [0,3,4,7,31,32] [3,4] [] ?_
 (conv=>whnf)
 refine au.go ((Nat)×(List Lin)×(Int)) (fun⟨k,ls,w⟩=>(k<=2)/\(fU lg (fun v g=>vis most f v g) ([l,negate l].drop k) ls w=W)/\(v<=w/\w<=most)) (fun⟨k,ls,w⟩=>[(33,.data (i64 k))]) (fun⟨k,ls,w⟩=>[(7,(AV.cells (bC lg ls).av).map SV.data),(1000000,ZX most w)]) lE (fun⟨k,ls,w⟩=>2 - k) ⟨0,lg.lines,v⟩ ?_ ?_
 ·exact⟨by omega,hW,by omega,by omega⟩
 rintro⟨k,ls,w⟩ ⟨hk,he,hw⟩
 by_cases hlt:k < 2
 ·obtain⟨x,hx,hd2⟩:∃x,[l.av,(negate l).av][k]? =some x.av/\[l,negate l].drop k=x::[l,negate l].drop (k+1):=by
   rcases k with _|_|k
   ·exact⟨l,rfl,rfl⟩
   ·exact⟨negate l,rfl,rfl⟩
   ·omega
  rw [hd2] at he
  have hI:([l.av,(negate l).av]:List AV)[k]? =some x.av:=hx
  have hr:=acn most f ih w (bC lg ls) x hp hd hset (by omega) (by omega) hw.2
  have hb:=mF most f w
  have hsb:w<=(eB (bC lg ls) (fun v g=>vis most f v g) x ls w).visits/\(eB (bC lg ls) (fun v g=>vis most f v g) x ls w).visits<=most:=by
   unfold eB
   split
   ·exact⟨Int.le_refl _,hw.2⟩
   ·exact mF most f w _ hw.2
  have hsame:eB (bC lg ls) (fun v g=>vis most f v g) x ls w=eB lg (fun v g=>vis most f v g) x ls w:=rfl
  have agO:(bC lg ls).lines=ls:=rfl
  rw [agO] at hr
  generalize JC most (bC lg ls) x w=B at hr
  rw [hsame] at hr hsb
  rcases EM:eB lg (fun v g=>vis most f v g) x ls w with⟨l1,w1,_|s1,_|_⟩
  ·rw [EM] at hr hsb
   rw [oJ EM] at he
   dsimp only at hsb
   rw [pR] at hr
   (repeat' ((conv=>whnf);first|(exfalso;first|omega|(simp only [List.length_cons,List.length_nil] at h;omega))|refine Idx.lit hI rfl ?_|refine gA ?_|(refine gB ?_ ?_<;>intro h)|refine gC hr ?_|intro _))
   refine nx ⟨k+1,l1,w1⟩ ?_
   exact⟨by omega,he,by omega,by omega⟩
  all_goals
   rw [EM] at hr
   rw [iL EM (by simp)] at he
   subst he
   rw [pR] at hr
   rw [pR]
   (repeat' ((conv=>whnf);first|(exfalso;first|omega|(simp only [List.length_cons,List.length_nil] at h;omega))|refine Idx.lit hI rfl ?_|refine gA ?_|(refine gB ?_ ?_<;>intro h)|refine gC hr ?_|intro _))
   exact fv
 ·obtain rfl:k=2:=by omega
  have he:jZ lg ls w=W:=he
  have hL:=vM (bC lg ls) (bH lg) hp
  by_cases hck:aO lg.proj ls (bH lg)=0
  ·rw [jZ,if_pos hck] at he
   subst he
   rw [nH,show rU (bC lg ls) (bH lg)=some (bC lg (ls++[bH lg])) from if_pos hck] at hL
   dsimp only [Option.getD,Option.isSome] at hL
   rw [pR]
   (repeat' ((conv=>whnf);first|(exfalso;first|omega|(simp only [List.length_cons,List.length_nil] at h;omega))|refine gA ?_|(refine gB ?_ ?_<;>intro h)|refine gC (vN lg) ?_|refine gC hL ?_|intro _))
   exact fv
  ·rw [jZ,if_neg hck] at he
   subst he
   rw [nH,show rU (bC lg ls) (bH lg)=none from if_neg hck] at hL
   dsimp only [Option.getD,Option.isSome] at hL
   rw [pR]
   (repeat' ((conv=>whnf);first|(exfalso;first|omega|(simp only [List.length_cons,List.length_nil] at h;omega))|refine gA ?_|(refine gB ?_ ?_<;>intro h)|refine gC (vN lg) ?_|refine gC hL ?_|intro _))
   exact fv
theorem Vq {h k:Lg} (e:iX h=some k):k=bC h k.lines:=by
 rw [tF] at e
 split at e
 ·cases e
 ·split at e
  ·cases e;rfl
  ·cases e
theorem Qg (most:Int) (hm:most<=60):∀(f:Nat) (v:Int) (g:Lg),g.proj.fine->g.decs.length<=20->most < v+f->0<=v->v<=most->Con 19 [.bx (ZX most v),.d g.av] (pR most (Bd most v g) (vis most f v g))
 |0,v,g,_,_,hq,hq0,h2=>by omega
 |f+1,v,g,hp,hdl,hf,hv0,hv=>by
  by_cases h0:v=most
  ·subst h0
   rw [Dq,Bd,if_pos rfl,pR]
   refine con Tryz.func19 rfl rfl Tryz.call19 rfl fun hwf=>?_
   (repeat' ((conv=>whnf);first|with_reducible refine Br.yes (decide_eq_true rfl) ?_|refine gA ?_))
   exact fv
  rw [zL _ _ _ _ h0,Bd,if_neg h0]
  have hP:=XY g 40 hp (by omega)
  have hpr:=yj 40 0 g
  have hde:=yw 40 0 g
  rw [adY] at hP
  generalize dU 40 0 g=R0 at hP hpr hde ⊢
  obtain⟨lg,n0⟩:=R0
  dsimp only at hP hpr hde ⊢
  have hph:lg.proj.fine:=hpr ▸ hp
  have hdh:lg.decs.length<=20:=hde ▸ hdl
  have hS:=Vm lg hph
  rw [nH] at hS
  have hB:=aco most f hm (fun v g=>Qg most hm f v g) (v+1) lg hph hdh (by omega) (by omega) (by omega)
  refine con Tryz.func19 rfl rfl Tryz.call19 (Qf rfl) fun hwf=>?_
  cases hst:iX lg with
  |some k=>
   rw [hst] at hS
   dsimp only [Option.getD,Option.isSome] at hS
   rw [show kr lg (fun v g=>vis most f v g) (v+1)=⟨k.lines,v+1,none,false⟩ from AZ hst,pR, <- Vq hst]
   (repeat' ((conv=>whnf);first|(exfalso;omega)|refine gA ?_|(refine gB ?_ ?_<;>intro h)|refine gC hP ?_|refine gC hS ?_|intro _))
   exact fv
  |none=>
  rw [hst] at hS
  dsimp only [Option.getD,Option.isSome] at hS
  have hG:=EK lg.dom
  rw [afF] at hG
  cases hgo:qz lg with
  |some s=>
   obtain⟨hs1,hs2⟩:=vP hgo
   rw [hs1] at hG
   dsimp only [Option.getD,Option.isSome] at hG
   have hK:=BA lg.proj s hph
   rw [hs2] at hK
   rw [show kr lg (fun v g=>vis most f v g) (v+1)=⟨lg.lines,v+1,some s,false⟩ from Ba hst hgo,pR]
   (repeat' ((conv=>whnf);first|(exfalso;omega)|refine gA ?_|(refine gB ?_ ?_<;>intro h)|refine gC hP ?_|refine gC hS ?_|refine gC hG ?_|refine gC hK ?_|intro _))
   exact fv
  |none=>
  rw [show kr lg (fun v g=>vis most f v g) (v+1)=(match choice lg.proj lg.dom with|none=>(⟨lg.lines,v+1,none,true⟩:Way)|some l=>fU lg (fun v g=>vis most f v g) [l,negate l] lg.lines (v+1)) from Bb hst hgo]
  generalize (match choice lg.proj lg.dom with|none=>(⟨lg.lines,v+1,none,true⟩:Way)|some l=>fU lg (fun v g=>vis most f v g) [l,negate l] lg.lines (v+1))=W at hB ⊢
  cases hs:single lg.dom with
  |none=>
   rw [hs] at hG
   dsimp only [Option.getD,Option.isSome] at hG
   rcases W with⟨l1,w1,_|s1,st⟩
   all_goals
    rw [pR] at hB ⊢
    (repeat' ((conv=>whnf);first|(exfalso;omega)|refine gA ?_|(refine gB ?_ ?_<;>intro h)|refine gC hP ?_|refine gC hS ?_|refine gC hG ?_|refine gC hB ?_|intro _))
    exact fv
  |some s=>
   rw [hs] at hG
   dsimp only [Option.getD,Option.isSome] at hG
   have hK:=BA lg.proj s hph
   rw [Dr hgo hs] at hK
   rcases W with⟨l1,w1,_|s1,st⟩
   all_goals
    rw [pR] at hB ⊢
    (repeat' ((conv=>whnf);first|(exfalso;omega)|refine gA ?_|(refine gB ?_ ?_<;>intro h)|refine gC hP ?_|refine gC hS ?_|refine gC hG ?_|refine gC hK ?_|refine gC hB ?_|intro _))
    exact fv
end Go.Proofs.YthegbfgeochckaaGreat.Abs
namespace Go.Proofs.YthegbfgeochckaaGreat.Abs
open Go.Proofs Go.RowKit
attribute [local irreducible] dS eu aO status litValue single choice iX dU
theorem Ro (most:Int) (hm:most<=60) (b:Lg) (f:Nat) (ih:∀(b:Lg) (v:Int) (g:Lg),g.proj.fine->g.decs.length<=20->most < v+f->1<=v->v<=most->Con 27 [.bx (EL most v b),.d g.av] (Bc most b (vis most f v g))) (v:Int) (g:Lg) (hp:g.proj.fine) (hdl:g.decs.length<=20) (hf:most < v+(f+1)) (h1:1<=v) (h0:v≠most) (hv:v<=most):
  Con 27 [.bx (EL most v b),.d g.av] (Bc most b (vis most (f+1) v g)):=by
 rw [zL _ _ _ _ h0]
 have hP:=Dm g 40 hp (by omega)
 have hpr:=yj 40 0 g
 have hde:=yw 40 0 g
 rw [adY] at hP
 generalize dU 40 0 g=R0 at hP hpr hde ⊢
 obtain⟨lg,n0⟩:=R0
 dsimp only at hP hpr hde ⊢
 have hph:lg.proj.fine:=hpr ▸ hp
 have hdh:lg.decs.length<=20:=hde ▸ hdl
 have hS:=FI lg hph
 rw [ZR] at hS
 generalize hW:kr lg (fun v g=>vis most f v g) (v+1)=W
 refine con Tryz.func27 rfl rfl Tryz.call27 (abh rfl) fun hwf=>?_
 simp only [ARs.wf,AR.wf,YU,EL,aeb,AV.wf,AV.wfs,List.length_map,lim] at hwf
 cases hst:iX lg with
 |some k=>
  rw [hst] at hS
  dsimp only [Option.getD,Option.isSome] at hS
  obtain rfl:W=⟨k.lines,v+1,none,false⟩:=by rw [<- hW];exact AZ hst
  (repeat' ((conv=>whnf);first|(exfalso;omega)|refine gA ?_|(refine gB ?_ ?_<;>intro h)|refine gC hP ?_|refine gC hS ?_|intro _))
  exact fv
 |none=>
 rw [hst] at hS
 dsimp only [Option.getD,Option.isSome] at hS
 have hG:=vD lg.dom
 rw [aea] at hG
 have hC:=vC lg.proj lg.dom hph
 rw [Yf] at hC
 have keep:qz lg=none->(match choice lg.proj lg.dom with|none=>(⟨lg.lines,v+1,none,true⟩:Way)|some l=>fU lg (fun v g=>vis most f v g) [l,negate l] lg.lines (v+1))=W:=fun e=>(Bb hst e).symm.trans hW
 cases hgo:qz lg with
 |some s=>
  obtain⟨hs1,hs2⟩:=vP hgo
  rw [hs1] at hG
  dsimp only [Option.getD,Option.isSome] at hG
  have hK:=qw lg.proj s hph
  rw [hs2] at hK
  obtain rfl:W=⟨lg.lines,v+1,some s,false⟩:=by rw [<- hW];exact Ba hst hgo
  (repeat' ((conv=>whnf);first|(exfalso;omega)|refine gA ?_|(refine gB ?_ ?_<;>intro h)|refine gC hP ?_|refine gC hS ?_|refine gC hG ?_|refine gC hK ?_|intro _))
  exact fv
 |none=>
 have keep:=keep hgo
 have Yg:∀s,single lg.dom=some s->Con 85 [.d lg.proj.av,.d s.av] (.d (.bool false)):=fun s hs=>by
  have:=qw lg.proj s hph
  rwa [Dr hgo hs] at this
 cases hch:choice lg.proj lg.dom with
 |none=>
  rw [hch] at hC keep
  dsimp only [Option.getD,Option.isSome] at hC keep
  subst keep
  cases hs:single lg.dom with
  |none=>
   rw [hs] at hG
   dsimp only [Option.getD,Option.isSome] at hG
   (repeat' ((conv=>whnf);first|(exfalso;omega)|refine gA ?_|(refine gB ?_ ?_<;>intro h)|refine gC hP ?_|refine gC hS ?_|refine gC hG ?_|refine gC hC ?_|refine gC (jT most (v+1) b lg.lines) ?_|intro _))
   exact fv
  |some s=>
   rw [hs] at hG
   dsimp only [Option.getD,Option.isSome] at hG
   (repeat' ((conv=>whnf);first|(exfalso;omega)|refine gA ?_|(refine gB ?_ ?_<;>intro h)|refine gC hP ?_|refine gC hS ?_|refine gC hG ?_|refine gC hC ?_|refine gC (Yg s hs) ?_|refine gC (jT most (v+1) b lg.lines) ?_|intro _))
   exact fv
 |some l=>
 rw [hch] at hC keep
 dsimp only [Option.getD,Option.isSome] at hC keep
 have fin:True:=trivial
 cases hs:single lg.dom with
 |none=>
  rw [hs] at hG
  dsimp only [Option.getD,Option.isSome] at hG
  (repeat' ((conv=>whnf);first|(exfalso;omega)|refine gA ?_|(refine gB ?_ ?_<;>intro h)|refine gC hP ?_|refine gC hS ?_|refine gC hG ?_|refine gC hC ?_|refine gC (iK l) ?_|intro _))
  refine ay [0,3,100,101] [] [] ?_
  (conv=>whnf)
  refine au.go ((Nat)×(List Lin)×(Int)) (fun⟨k,ls,w⟩=>(k<=2)/\(fU lg (fun v g=>vis most f v g) ([l,negate l].drop k) ls w=W)/\(v+1<=w/\w<=most)) (fun⟨k,ls,w⟩=>[(102,.data (i64 k))]) (fun⟨k,ls,w⟩=>[(3,lgC lg ls),(1000000,EL most w b)]) lE (fun⟨k,ls,w⟩=>2 - k) ⟨0,lg.lines,v+1⟩ ?_ ?_
  ·exact⟨by omega,keep,by omega,by omega⟩
  rintro⟨k,ls,w⟩ ⟨hk,he,hw⟩
  by_cases hlt:k < 2
  ·obtain⟨x,hx,hd⟩:∃x,[l.av,(negate l).av][k]? =some x.av/\[l,negate l].drop k=x::[l,negate l].drop (k+1):=by
    rcases k with _|_|k
    ·exact⟨l,rfl,rfl⟩
    ·exact⟨negate l,rfl,rfl⟩
    ·omega
   rw [hd] at he
   have hT:=yu (bC lg ls) x hph hdh
   have hI:([l.av,(negate l).av]:List AV)[k]? =some x.av:=hx
   cases ht:takeLog (bC lg ls) x with
   |none=>
    rw [ht,nH] at hT
    dsimp only [Option.getD,Option.isSome] at hT
    rw [iL (mY ht) (.inr rfl)] at he
    subst he
    (repeat' ((conv=>whnf);first|(exfalso;first|omega|(simp only [List.length_cons,List.length_nil] at h;omega))|refine Idx.lit hI rfl ?_|refine gA ?_|(refine gB ?_ ?_<;>intro h)|refine gC hT ?_|refine gC (jT most w b ls) ?_|intro _))
    exact fv
   |some n=>
    rw [ht,mX] at hT
    obtain⟨q1,q2,q3,q4⟩:=nK ht
    have hr:=ih b w n (by rw [q1];exact hph) (by rw [q2,List.length_append];simp only [bC,List.length_cons,List.length_nil] at q3 ⊢;omega) (by omega) (by omega) hw.2
    have hb:=mF most f w n hw.2
    have hsw:eB lg (fun v g=>vis most f v g) x ls w=vis most f w n:=mZ ht
    rcases EM:vis most f w n with⟨l1,w1,_|s1,_|_⟩
    ·rw [EM] at hr hb hsw
     rw [oJ hsw] at he
     dsimp only at hb
     rw [Bc] at hr
     (repeat' ((conv=>whnf);first|(exfalso;first|omega|(simp only [List.length_cons,List.length_nil] at h;omega))|refine Idx.lit hI rfl ?_|refine gA ?_|(refine gB ?_ ?_<;>intro h)|refine gC hT ?_|refine gC hr ?_|intro _))
     refine nx ⟨k+1,l1,w1⟩ ?_
     exact⟨by omega,he,by omega,by omega⟩
    all_goals
     rw [EM] at hr hsw
     rw [iL hsw (by simp)] at he
     subst he
     rw [Bc] at hr
     (repeat' ((conv=>whnf);first|(exfalso;first|omega|(simp only [List.length_cons,List.length_nil] at h;omega))|refine Idx.lit hI rfl ?_|refine gA ?_|(refine gB ?_ ?_<;>intro h)|refine gC hT ?_|refine gC hr ?_|intro _))
     exact fv
  ·obtain rfl:k=2:=by omega
   have he:jZ lg ls w=W:=he
   (repeat' ((conv=>whnf);first|(exfalso;first|omega|(simp only [List.length_cons,List.length_nil] at h;omega))|(refine gB ?_ ?_<;>intro h)))
   refine ay [0,3,137,138] [3] [135] ?_
   (conv=>whnf)
   refine au.go ((Nat)×(List Lit)) (fun⟨j,o⟩=>(j<=lg.decs.length)/\(o=(lg.decs.take j).map negate)) (fun⟨j,o⟩=>[(139,.data (i64 j)),(15,.own 135 0)]) (fun⟨j,o⟩=>[(1000000,EL most w b)]) (fun⟨j,o⟩=>[(135,102,o.map Lit.av,0)]) (fun⟨j,o⟩=>lg.decs.length - j) ⟨0,[]⟩ ?_ ?_
   ·exact⟨Nat.zero_le _,rfl⟩
   rintro⟨j,o⟩ ⟨hj,ho⟩
   by_cases hlt2:j < lg.decs.length
   ·obtain⟨x,hx⟩:∃x,lg.decs[j]? =some x:=⟨lg.decs[j]'hlt2,by simp⟩
    have hol:o.length<=j:=by rw [ho];simp;omega
    (repeat' ((conv=>whnf);first|with_reducible refine Idx.got hx rfl ?_|(exfalso;omega)|refine gAX ?_|(refine gB ?_ ?_<;>intro h)|refine gC (iK x) ?_|intro _))
    refine nwS ⟨j+1,o++[negate x]⟩ ?_
    exact⟨by omega,by rw [ho, <- lF negate hx]⟩
   obtain rfl:o=lg.decs.map negate:=by rw [ho,List.take_of_length_le (by omega)]
   have hN:=jX (lg.decs.map negate)
   have hK2:=jg lg.proj ls (bH lg) hph
   by_cases hck:aO lg.proj ls (bH lg)=0
   ·rw [jZ,if_pos hck] at he
    subst he
    rw [hck] at hK2
    have adX:=pI hck
    have hLA:=gW ls (upTo ls.length) (fun i hi=>uI hi)
    rw [qN] at hLA
    (repeat' ((conv=>whnf);first|(exfalso;omega)|refine gAX ?_|(refine gB ?_ ?_<;>intro h)|refine gC hN ?_|refine gC hK2 ?_|refine gC (oI ls) ?_|refine gC hLA ?_|intro _))
    (repeat' ((conv=>whnf)<;>(first|exact trivial|exact VC.nod (by kernel_rfl)|refine VC.mk (by first|with_reducible rfl|(exact congrArg AV.sl (List.map_append (l₁:=ls) (l₂:=[bH lg]) (f:=Lin.av)).symm;done)|rfl) ?_)))
   ·rw [jZ,if_neg hck] at he
    subst he
    (repeat' ((conv=>whnf);first|(exfalso;omega)|refine gA ?_|(refine gB ?_ ?_<;>intro h)|refine gC hN ?_|refine gC hK2 ?_|refine gC (jT most w b ls) ?_|intro _))
    exact fv
 |some s=>
  rw [hs] at hG
  dsimp only [Option.getD,Option.isSome] at hG
  (repeat' ((conv=>whnf);first|(exfalso;omega)|refine gA ?_|(refine gB ?_ ?_<;>intro h)|refine gC hP ?_|refine gC hS ?_|refine gC hG ?_|refine gC hC ?_|refine gC (Yg s hs) ?_|refine gC (iK l) ?_|intro _))
  refine ay [0,3,100,101] [] [] ?_
  (conv=>whnf)
  refine au.go ((Nat)×(List Lin)×(Int)) (fun⟨k,ls,w⟩=>(k<=2)/\(fU lg (fun v g=>vis most f v g) ([l,negate l].drop k) ls w=W)/\(v+1<=w/\w<=most)) (fun⟨k,ls,w⟩=>[(102,.data (i64 k))]) (fun⟨k,ls,w⟩=>[(3,lgC lg ls),(1000000,EL most w b)]) lE (fun⟨k,ls,w⟩=>2 - k) ⟨0,lg.lines,v+1⟩ ?_ ?_
  ·exact⟨by omega,keep,by omega,by omega⟩
  rintro⟨k,ls,w⟩ ⟨hk,he,hw⟩
  by_cases hlt:k < 2
  ·obtain⟨x,hx,hd⟩:∃x,[l.av,(negate l).av][k]? =some x.av/\[l,negate l].drop k=x::[l,negate l].drop (k+1):=by
    rcases k with _|_|k
    ·exact⟨l,rfl,rfl⟩
    ·exact⟨negate l,rfl,rfl⟩
    ·omega
   rw [hd] at he
   have hT:=yu (bC lg ls) x hph hdh
   have hI:([l.av,(negate l).av]:List AV)[k]? =some x.av:=hx
   cases ht:takeLog (bC lg ls) x with
   |none=>
    rw [ht,nH] at hT
    dsimp only [Option.getD,Option.isSome] at hT
    rw [iL (mY ht) (.inr rfl)] at he
    subst he
    (repeat' ((conv=>whnf);first|(exfalso;first|omega|(simp only [List.length_cons,List.length_nil] at h;omega))|refine Idx.lit hI rfl ?_|refine gA ?_|(refine gB ?_ ?_<;>intro h)|refine gC hT ?_|refine gC (jT most w b ls) ?_|intro _))
    exact fv
   |some n=>
    rw [ht,mX] at hT
    obtain⟨q1,q2,q3,q4⟩:=nK ht
    have hr:=ih b w n (by rw [q1];exact hph) (by rw [q2,List.length_append];simp only [bC,List.length_cons,List.length_nil] at q3 ⊢;omega) (by omega) (by omega) hw.2
    have hb:=mF most f w n hw.2
    have hsw:eB lg (fun v g=>vis most f v g) x ls w=vis most f w n:=mZ ht
    rcases EM:vis most f w n with⟨l1,w1,_|s1,_|_⟩
    ·rw [EM] at hr hb hsw
     rw [oJ hsw] at he
     dsimp only at hb
     rw [Bc] at hr
     (repeat' ((conv=>whnf);first|(exfalso;first|omega|(simp only [List.length_cons,List.length_nil] at h;omega))|refine Idx.lit hI rfl ?_|refine gA ?_|(refine gB ?_ ?_<;>intro h)|refine gC hT ?_|refine gC hr ?_|intro _))
     refine nx ⟨k+1,l1,w1⟩ ?_
     exact⟨by omega,he,by omega,by omega⟩
    all_goals
     rw [EM] at hr hsw
     rw [iL hsw (by simp)] at he
     subst he
     rw [Bc] at hr
     (repeat' ((conv=>whnf);first|(exfalso;first|omega|(simp only [List.length_cons,List.length_nil] at h;omega))|refine Idx.lit hI rfl ?_|refine gA ?_|(refine gB ?_ ?_<;>intro h)|refine gC hT ?_|refine gC hr ?_|intro _))
     exact fv
  ·obtain rfl:k=2:=by omega
   have he:jZ lg ls w=W:=he
   (repeat' ((conv=>whnf);first|(exfalso;first|omega|(simp only [List.length_cons,List.length_nil] at h;omega))|(refine gB ?_ ?_<;>intro h)))
   refine ay [0,3,137,138] [3] [135] ?_
   (conv=>whnf)
   refine au.go ((Nat)×(List Lit)) (fun⟨j,o⟩=>(j<=lg.decs.length)/\(o=(lg.decs.take j).map negate)) (fun⟨j,o⟩=>[(139,.data (i64 j)),(15,.own 135 0)]) (fun⟨j,o⟩=>[(1000000,EL most w b)]) (fun⟨j,o⟩=>[(135,102,o.map Lit.av,0)]) (fun⟨j,o⟩=>lg.decs.length - j) ⟨0,[]⟩ ?_ ?_
   ·exact⟨Nat.zero_le _,rfl⟩
   rintro⟨j,o⟩ ⟨hj,ho⟩
   by_cases hlt2:j < lg.decs.length
   ·obtain⟨x,hx⟩:∃x,lg.decs[j]? =some x:=⟨lg.decs[j]'hlt2,by simp⟩
    have hol:o.length<=j:=by rw [ho];simp;omega
    (repeat' ((conv=>whnf);first|with_reducible refine Idx.got hx rfl ?_|(exfalso;omega)|refine gAX ?_|(refine gB ?_ ?_<;>intro h)|refine gC (iK x) ?_|intro _))
    refine nwS ⟨j+1,o++[negate x]⟩ ?_
    exact⟨by omega,by rw [ho, <- lF negate hx]⟩
   obtain rfl:o=lg.decs.map negate:=by rw [ho,List.take_of_length_le (by omega)]
   have hN:=jX (lg.decs.map negate)
   have hK2:=jg lg.proj ls (bH lg) hph
   by_cases hck:aO lg.proj ls (bH lg)=0
   ·rw [jZ,if_pos hck] at he
    subst he
    rw [hck] at hK2
    have adX:=pI hck
    have hLA:=gW ls (upTo ls.length) (fun i hi=>uI hi)
    rw [qN] at hLA
    (repeat' ((conv=>whnf);first|(exfalso;omega)|refine gAX ?_|(refine gB ?_ ?_<;>intro h)|refine gC hN ?_|refine gC hK2 ?_|refine gC (oI ls) ?_|refine gC hLA ?_|intro _))
    (repeat' ((conv=>whnf)<;>(first|exact trivial|exact VC.nod (by kernel_rfl)|refine VC.mk (by first|with_reducible rfl|(exact congrArg AV.sl (List.map_append (l₁:=ls) (l₂:=[bH lg]) (f:=Lin.av)).symm;done)|rfl) ?_)))
   ·rw [jZ,if_neg hck] at he
    subst he
    (repeat' ((conv=>whnf);first|(exfalso;omega)|refine gA ?_|(refine gB ?_ ?_<;>intro h)|refine gC hN ?_|refine gC hK2 ?_|refine gC (jT most w b ls) ?_|intro _))
    exact fv
end Go.Proofs.YthegbfgeochckaaGreat.Abs
namespace Go.Proofs.YthegbfgeochckaaGreat.Abs
open Go.Proofs Go.RowKit
attribute [local irreducible] dS eu aO status litValue single choice iX dU
theorem Qh (most:Int) (hm:most<=60) (f:Nat) (ih:∀(b:Lg) (v:Int) (g:Lg),g.proj.fine->g.decs.length<=20->most < v+f->1<=v->v<=most->Con 27 [.bx (EL most v b),.d g.av] (Bc most b (vis most f v g))) (v:Int) (g:Lg) (hp:g.proj.fine) (hdl:g.decs.length<=20) (hf:most < v+(f+1)) (h1:v=0) (h0:v≠most) (hv:v<=most):
  Con 27 [.bx (aeb most),.d g.av] (Bc most (dU 40 0 g).1 (vis most (f+1) v g)):=by
 subst h1
 rw [zL _ _ _ _ h0]
 have hP:=Dm g 40 hp (by omega)
 have hpr:=yj 40 0 g
 have hde:=yw 40 0 g
 rw [adY] at hP
 generalize dU 40 0 g=R0 at hP hpr hde ⊢
 obtain⟨lg,n0⟩:=R0
 dsimp only at hP hpr hde ⊢
 have hph:lg.proj.fine:=hpr ▸ hp
 have hdh:lg.decs.length<=20:=hde ▸ hdl
 have hS:=FI lg hph
 rw [ZR] at hS
 generalize hW:kr lg (fun v g=>vis most f v g) (0+1)=W
 refine con Tryz.func27 rfl rfl Tryz.call27 (abh rfl) fun hwf=>?_
 simp only [ARs.wf,AR.wf,YU,EL,aeb,AV.wf,AV.wfs,List.length_map,lim] at hwf
 cases hst:iX lg with
 |some k=>
  rw [hst] at hS
  dsimp only [Option.getD,Option.isSome] at hS
  obtain rfl:W=⟨k.lines,0+1,none,false⟩:=by rw [<- hW];exact AZ hst
  (repeat' ((conv=>whnf);first|(exfalso;omega)|refine gA ?_|(refine gB ?_ ?_<;>intro h)|refine gC hP ?_|refine gC hS ?_|intro _))
  exact fv
 |none=>
 rw [hst] at hS
 dsimp only [Option.getD,Option.isSome] at hS
 have hG:=vD lg.dom
 rw [aea] at hG
 have hC:=vC lg.proj lg.dom hph
 rw [Yf] at hC
 have keep:qz lg=none->(match choice lg.proj lg.dom with|none=>(⟨lg.lines,0+1,none,true⟩:Way)|some l=>fU lg (fun v g=>vis most f v g) [l,negate l] lg.lines (0+1))=W:=fun e=>(Bb hst e).symm.trans hW
 cases hgo:qz lg with
 |some s=>
  obtain⟨hs1,hs2⟩:=vP hgo
  rw [hs1] at hG
  dsimp only [Option.getD,Option.isSome] at hG
  have hK:=qw lg.proj s hph
  rw [hs2] at hK
  obtain rfl:W=⟨lg.lines,0+1,some s,false⟩:=by rw [<- hW];exact Ba hst hgo
  (repeat' ((conv=>whnf);first|(exfalso;omega)|refine gA ?_|(refine gB ?_ ?_<;>intro h)|refine gC hP ?_|refine gC hS ?_|refine gC hG ?_|refine gC hK ?_|intro _))
  exact fv
 |none=>
 have keep:=keep hgo
 have Yg:∀s,single lg.dom=some s->Con 85 [.d lg.proj.av,.d s.av] (.d (.bool false)):=fun s hs=>by
  have:=qw lg.proj s hph
  rwa [Dr hgo hs] at this
 cases hch:choice lg.proj lg.dom with
 |none=>
  rw [hch] at hC keep
  dsimp only [Option.getD,Option.isSome] at hC keep
  subst keep
  cases hs:single lg.dom with
  |none=>
   rw [hs] at hG
   dsimp only [Option.getD,Option.isSome] at hG
   (repeat' ((conv=>whnf);first|(exfalso;omega)|refine gA ?_|(refine gB ?_ ?_<;>intro h)|refine gC hP ?_|refine gC hS ?_|refine gC hG ?_|refine gC hC ?_|refine gC (jT most (0+1) lg lg.lines) ?_|intro _))
   exact fv
  |some s=>
   rw [hs] at hG
   dsimp only [Option.getD,Option.isSome] at hG
   (repeat' ((conv=>whnf);first|(exfalso;omega)|refine gA ?_|(refine gB ?_ ?_<;>intro h)|refine gC hP ?_|refine gC hS ?_|refine gC hG ?_|refine gC hC ?_|refine gC (Yg s hs) ?_|refine gC (jT most (0+1) lg lg.lines) ?_|intro _))
   exact fv
 |some l=>
 rw [hch] at hC keep
 dsimp only [Option.getD,Option.isSome] at hC keep
 have fin:True:=trivial
 cases hs:single lg.dom with
 |none=>
  rw [hs] at hG
  dsimp only [Option.getD,Option.isSome] at hG
  (repeat' ((conv=>whnf);first|(exfalso;omega)|refine gA ?_|(refine gB ?_ ?_<;>intro h)|refine gC hP ?_|refine gC hS ?_|refine gC hG ?_|refine gC hC ?_|refine gC (iK l) ?_|intro _))
  refine ay [0,3,100,101] [] [] ?_
  (conv=>whnf)
  refine au.go ((Nat)×(List Lin)×(Int)) (fun⟨k,ls,w⟩=>(k<=2)/\(fU lg (fun v g=>vis most f v g) ([l,negate l].drop k) ls w=W)/\(0+1<=w/\w<=most)) (fun⟨k,ls,w⟩=>[(102,.data (i64 k))]) (fun⟨k,ls,w⟩=>[(3,lgC lg ls),(1000000,EL most w lg)]) lE (fun⟨k,ls,w⟩=>2 - k) ⟨0,lg.lines,0+1⟩ ?_ ?_
  ·exact⟨by omega,keep,by omega,by omega⟩
  rintro⟨k,ls,w⟩ ⟨hk,he,hw⟩
  by_cases hlt:k < 2
  ·obtain⟨x,hx,hd⟩:∃x,[l.av,(negate l).av][k]? =some x.av/\[l,negate l].drop k=x::[l,negate l].drop (k+1):=by
    rcases k with _|_|k
    ·exact⟨l,rfl,rfl⟩
    ·exact⟨negate l,rfl,rfl⟩
    ·omega
   rw [hd] at he
   have hT:=yu (bC lg ls) x hph hdh
   have hI:([l.av,(negate l).av]:List AV)[k]? =some x.av:=hx
   cases ht:takeLog (bC lg ls) x with
   |none=>
    rw [ht,nH] at hT
    dsimp only [Option.getD,Option.isSome] at hT
    rw [iL (mY ht) (.inr rfl)] at he
    subst he
    (repeat' ((conv=>whnf);first|(exfalso;first|omega|(simp only [List.length_cons,List.length_nil] at h;omega))|refine Idx.lit hI rfl ?_|refine gA ?_|(refine gB ?_ ?_<;>intro h)|refine gC hT ?_|refine gC (jT most w lg ls) ?_|intro _))
    exact fv
   |some n=>
    rw [ht,mX] at hT
    obtain⟨q1,q2,q3,q4⟩:=nK ht
    have hr:=ih lg w n (by rw [q1];exact hph) (by rw [q2,List.length_append];simp only [bC,List.length_cons,List.length_nil] at q3 ⊢;omega) (by omega) (by omega) hw.2
    have hb:=mF most f w n hw.2
    have hsw:eB lg (fun v g=>vis most f v g) x ls w=vis most f w n:=mZ ht
    rcases EM:vis most f w n with⟨l1,w1,_|s1,_|_⟩
    ·rw [EM] at hr hb hsw
     rw [oJ hsw] at he
     dsimp only at hb
     rw [Bc] at hr
     (repeat' ((conv=>whnf);first|(exfalso;first|omega|(simp only [List.length_cons,List.length_nil] at h;omega))|refine Idx.lit hI rfl ?_|refine gA ?_|(refine gB ?_ ?_<;>intro h)|refine gC hT ?_|refine gC hr ?_|intro _))
     refine nx ⟨k+1,l1,w1⟩ ?_
     exact⟨by omega,he,by omega,by omega⟩
    all_goals
     rw [EM] at hr hsw
     rw [iL hsw (by simp)] at he
     subst he
     rw [Bc] at hr
     (repeat' ((conv=>whnf);first|(exfalso;first|omega|(simp only [List.length_cons,List.length_nil] at h;omega))|refine Idx.lit hI rfl ?_|refine gA ?_|(refine gB ?_ ?_<;>intro h)|refine gC hT ?_|refine gC hr ?_|intro _))
     exact fv
  ·obtain rfl:k=2:=by omega
   have he:jZ lg ls w=W:=he
   (repeat' ((conv=>whnf);first|(exfalso;first|omega|(simp only [List.length_cons,List.length_nil] at h;omega))|(refine gB ?_ ?_<;>intro h)))
   refine ay [0,3,137,138] [3] [135] ?_
   (conv=>whnf)
   refine au.go ((Nat)×(List Lit)) (fun⟨j,o⟩=>(j<=lg.decs.length)/\(o=(lg.decs.take j).map negate)) (fun⟨j,o⟩=>[(139,.data (i64 j)),(15,.own 135 0)]) (fun⟨j,o⟩=>[(1000000,EL most w lg)]) (fun⟨j,o⟩=>[(135,102,o.map Lit.av,0)]) (fun⟨j,o⟩=>lg.decs.length - j) ⟨0,[]⟩ ?_ ?_
   ·exact⟨Nat.zero_le _,rfl⟩
   rintro⟨j,o⟩ ⟨hj,ho⟩
   by_cases hlt2:j < lg.decs.length
   ·obtain⟨x,hx⟩:∃x,lg.decs[j]? =some x:=⟨lg.decs[j]'hlt2,by simp⟩
    have hol:o.length<=j:=by rw [ho];simp;omega
    (repeat' ((conv=>whnf);first|with_reducible refine Idx.got hx rfl ?_|(exfalso;omega)|refine gAX ?_|(refine gB ?_ ?_<;>intro h)|refine gC (iK x) ?_|intro _))
    refine nwS ⟨j+1,o++[negate x]⟩ ?_
    exact⟨by omega,by rw [ho, <- lF negate hx]⟩
   obtain rfl:o=lg.decs.map negate:=by rw [ho,List.take_of_length_le (by omega)]
   have hN:=jX (lg.decs.map negate)
   have hK2:=jg lg.proj ls (bH lg) hph
   by_cases hck:aO lg.proj ls (bH lg)=0
   ·rw [jZ,if_pos hck] at he
    subst he
    rw [hck] at hK2
    have adX:=pI hck
    have hLA:=gW ls (upTo ls.length) (fun i hi=>uI hi)
    rw [qN] at hLA
    (repeat' ((conv=>whnf);first|(exfalso;omega)|refine gAX ?_|(refine gB ?_ ?_<;>intro h)|refine gC hN ?_|refine gC hK2 ?_|refine gC (oI ls) ?_|refine gC hLA ?_|intro _))
    (repeat' ((conv=>whnf)<;>(first|exact trivial|exact VC.nod (by kernel_rfl)|refine VC.mk (by first|with_reducible rfl|(exact congrArg AV.sl (List.map_append (l₁:=ls) (l₂:=[bH lg]) (f:=Lin.av)).symm;done)|rfl) ?_)))
   ·rw [jZ,if_neg hck] at he
    subst he
    (repeat' ((conv=>whnf);first|(exfalso;omega)|refine gA ?_|(refine gB ?_ ?_<;>intro h)|refine gC hN ?_|refine gC hK2 ?_|refine gC (jT most w lg ls) ?_|intro _))
    exact fv
 |some s=>
  rw [hs] at hG
  dsimp only [Option.getD,Option.isSome] at hG
  (repeat' ((conv=>whnf);first|(exfalso;omega)|refine gA ?_|(refine gB ?_ ?_<;>intro h)|refine gC hP ?_|refine gC hS ?_|refine gC hG ?_|refine gC hC ?_|refine gC (Yg s hs) ?_|refine gC (iK l) ?_|intro _))
  refine ay [0,3,100,101] [] [] ?_
  (conv=>whnf)
  refine au.go ((Nat)×(List Lin)×(Int)) (fun⟨k,ls,w⟩=>(k<=2)/\(fU lg (fun v g=>vis most f v g) ([l,negate l].drop k) ls w=W)/\(0+1<=w/\w<=most)) (fun⟨k,ls,w⟩=>[(102,.data (i64 k))]) (fun⟨k,ls,w⟩=>[(3,lgC lg ls),(1000000,EL most w lg)]) lE (fun⟨k,ls,w⟩=>2 - k) ⟨0,lg.lines,0+1⟩ ?_ ?_
  ·exact⟨by omega,keep,by omega,by omega⟩
  rintro⟨k,ls,w⟩ ⟨hk,he,hw⟩
  by_cases hlt:k < 2
  ·obtain⟨x,hx,hd⟩:∃x,[l.av,(negate l).av][k]? =some x.av/\[l,negate l].drop k=x::[l,negate l].drop (k+1):=by
    rcases k with _|_|k
    ·exact⟨l,rfl,rfl⟩
    ·exact⟨negate l,rfl,rfl⟩
    ·omega
   rw [hd] at he
   have hT:=yu (bC lg ls) x hph hdh
   have hI:([l.av,(negate l).av]:List AV)[k]? =some x.av:=hx
   cases ht:takeLog (bC lg ls) x with
   |none=>
    rw [ht,nH] at hT
    dsimp only [Option.getD,Option.isSome] at hT
    rw [iL (mY ht) (.inr rfl)] at he
    subst he
    (repeat' ((conv=>whnf);first|(exfalso;first|omega|(simp only [List.length_cons,List.length_nil] at h;omega))|refine Idx.lit hI rfl ?_|refine gA ?_|(refine gB ?_ ?_<;>intro h)|refine gC hT ?_|refine gC (jT most w lg ls) ?_|intro _))
    exact fv
   |some n=>
    rw [ht,mX] at hT
    obtain⟨q1,q2,q3,q4⟩:=nK ht
    have hr:=ih lg w n (by rw [q1];exact hph) (by rw [q2,List.length_append];simp only [bC,List.length_cons,List.length_nil] at q3 ⊢;omega) (by omega) (by omega) hw.2
    have hb:=mF most f w n hw.2
    have hsw:eB lg (fun v g=>vis most f v g) x ls w=vis most f w n:=mZ ht
    rcases EM:vis most f w n with⟨l1,w1,_|s1,_|_⟩
    ·rw [EM] at hr hb hsw
     rw [oJ hsw] at he
     dsimp only at hb
     rw [Bc] at hr
     (repeat' ((conv=>whnf);first|(exfalso;first|omega|(simp only [List.length_cons,List.length_nil] at h;omega))|refine Idx.lit hI rfl ?_|refine gA ?_|(refine gB ?_ ?_<;>intro h)|refine gC hT ?_|refine gC hr ?_|intro _))
     refine nx ⟨k+1,l1,w1⟩ ?_
     exact⟨by omega,he,by omega,by omega⟩
    all_goals
     rw [EM] at hr hsw
     rw [iL hsw (by simp)] at he
     subst he
     rw [Bc] at hr
     (repeat' ((conv=>whnf);first|(exfalso;first|omega|(simp only [List.length_cons,List.length_nil] at h;omega))|refine Idx.lit hI rfl ?_|refine gA ?_|(refine gB ?_ ?_<;>intro h)|refine gC hT ?_|refine gC hr ?_|intro _))
     exact fv
  ·obtain rfl:k=2:=by omega
   have he:jZ lg ls w=W:=he
   (repeat' ((conv=>whnf);first|(exfalso;first|omega|(simp only [List.length_cons,List.length_nil] at h;omega))|(refine gB ?_ ?_<;>intro h)))
   refine ay [0,3,137,138] [3] [135] ?_
   (conv=>whnf)
   refine au.go ((Nat)×(List Lit)) (fun⟨j,o⟩=>(j<=lg.decs.length)/\(o=(lg.decs.take j).map negate)) (fun⟨j,o⟩=>[(139,.data (i64 j)),(15,.own 135 0)]) (fun⟨j,o⟩=>[(1000000,EL most w lg)]) (fun⟨j,o⟩=>[(135,102,o.map Lit.av,0)]) (fun⟨j,o⟩=>lg.decs.length - j) ⟨0,[]⟩ ?_ ?_
   ·exact⟨Nat.zero_le _,rfl⟩
   rintro⟨j,o⟩ ⟨hj,ho⟩
   by_cases hlt2:j < lg.decs.length
   ·obtain⟨x,hx⟩:∃x,lg.decs[j]? =some x:=⟨lg.decs[j]'hlt2,by simp⟩
    have hol:o.length<=j:=by rw [ho];simp;omega
    (repeat' ((conv=>whnf);first|with_reducible refine Idx.got hx rfl ?_|(exfalso;omega)|refine gAX ?_|(refine gB ?_ ?_<;>intro h)|refine gC (iK x) ?_|intro _))
    refine nwS ⟨j+1,o++[negate x]⟩ ?_
    exact⟨by omega,by rw [ho, <- lF negate hx]⟩
   obtain rfl:o=lg.decs.map negate:=by rw [ho,List.take_of_length_le (by omega)]
   have hN:=jX (lg.decs.map negate)
   have hK2:=jg lg.proj ls (bH lg) hph
   by_cases hck:aO lg.proj ls (bH lg)=0
   ·rw [jZ,if_pos hck] at he
    subst he
    rw [hck] at hK2
    have adX:=pI hck
    have hLA:=gW ls (upTo ls.length) (fun i hi=>uI hi)
    rw [qN] at hLA
    (repeat' ((conv=>whnf);first|(exfalso;omega)|refine gAX ?_|(refine gB ?_ ?_<;>intro h)|refine gC hN ?_|refine gC hK2 ?_|refine gC (oI ls) ?_|refine gC hLA ?_|intro _))
    (repeat' ((conv=>whnf)<;>(first|exact trivial|exact VC.nod (by kernel_rfl)|refine VC.mk (by first|with_reducible rfl|(exact congrArg AV.sl (List.map_append (l₁:=ls) (l₂:=[bH lg]) (f:=Lin.av)).symm;done)|rfl) ?_)))
   ·rw [jZ,if_neg hck] at he
    subst he
    (repeat' ((conv=>whnf);first|(exfalso;omega)|refine gA ?_|(refine gB ?_ ?_<;>intro h)|refine gC hN ?_|refine gC hK2 ?_|refine gC (jT most w lg ls) ?_|intro _))
    exact fv
end Go.Proofs.YthegbfgeochckaaGreat.Abs
namespace Go.Proofs.YthegbfgeochckaaGreat.Abs
open Go.Proofs Go.RowKit
attribute [local irreducible] dS eu aO status litValue single choice iX dU vis
structure yT where
 log:Lg
 sched:bB
 found:Bool
 visits:Int
 stopped:Bool
abbrev yT.cellsOf (x:yT):List AV:=[i64 x.log.proj.dead,.sl (x.log.proj.acts.map aB.av),.sl (x.log.proj.links.map Link.av),.sl (x.log.proj.aS.map aK.av),ints x.log.proj.aH,ints x.log.dom.lo,ints x.log.dom.hi,.sl (x.log.dom.modes.map ints),lits x.log.decs,.sl (x.log.lines.map Lin.av),ints x.sched.starts,ints x.sched.modes,.bool x.found,i64 x.visits,.bool x.stopped]
abbrev yT.av (x:yT):AV:=.agg x.cellsOf
def aec (x:yT):RV:=.agg [.d (i64 x.log.proj.dead),.lin 165 (x.log.proj.acts.map aB.av),.lin 173 (x.log.proj.links.map Link.av),.lin 170 (x.log.proj.aS.map aK.av),.lin 3 (x.log.proj.aH.map i64),.lin 3 (x.log.dom.lo.map i64),.lin 3 (x.log.dom.hi.map i64),.lin 25 (x.log.dom.modes.map ints),.lin 102 (x.log.decs.map Lit.av),.lin 130 (x.log.lines.map Lin.av),.lin 3 (x.sched.starts.map i64),.lin 3 (x.sched.modes.map i64),.d (.bool x.found),.d (i64 x.visits),.d (.bool x.stopped)]
def aed (h:Lg) (w:Way):yT:=⟨bC h w.lines,w.found.getD ⟨[],[]⟩,w.found.isSome,w.visits,w.stopped⟩
def rY (g:Lg) (most:Int):yT:=if wJ g=true/\within most 1 60=true then aed (dU 40 0 g).1 (vis most (most.toNat+1) 0 g) else⟨aaL,⟨[],[]⟩,false,0,false⟩
theorem Tt (most:Int) (hm:most<=60):∀(f:Nat) (b:Lg) (v:Int) (g:Lg),g.proj.fine->g.decs.length<=20->most < v+f->1<=v->v<=most->Con 27 [.bx (EL most v b),.d g.av] (Bc most b (vis most f v g))
 |0,b,v,g,_,_,h,_,h2=>by omega
 |f+1,b,v,g,hp,hd,hf,h1,hv=>by
  by_cases h0:v=most
  ·subst h0
   rw [Dq]
   exact MK v b g
  ·exact Ro most hm b f (Tt most hm f) v g hp hd hf h1 h0 hv
theorem Yh (g:Lg) (most:Int) (hp:g.proj.fine):Con 7 [.d g.av,.d (i64 most)] (aec (rY g most)):=by
 refine con Tryz.func7 rfl rfl Tryz.call7 rfl fun hwf=>?_
 have hO:=ZT g hp
 have hW:=bO most 1 60
 by_cases hk:wJ g=true/\within most 1 60=true
 ·obtain⟨h1,h2⟩:=hk
  have hb:=within_iff.1 h2
  rw [rY,if_pos ⟨h1,h2⟩]
  rw [h1] at hO
  rw [h2] at hW
  obtain⟨m,rfl⟩:∃m:Nat,most=m:=⟨most.toNat,by omega⟩
  rw [Int.toNat_natCast]
  have hV:=Qh m (by omega) m (Tt m (by omega) m) 0 g hp (PU h1) (by omega) rfl (by omega) (by omega)
  generalize (dU 40 0 g).1=h at hV ⊢
  generalize vis m (m+1) 0 g=W at hV ⊢
  rcases W with⟨ls,v,_|s,st⟩
  all_goals
   rw [Bc] at hV
   have hLA:=gW ls (upTo ls.length) (fun i hi=>uI hi)
   rw [qN] at hLA
   (repeat' ((conv=>whnf);first|refine gA ?_|refine gC hO ?_|refine gC hW ?_|refine gC (yS g) ?_|refine gC hV ?_|refine gC (yS h) ?_|refine gC (oI ls) ?_|refine gC hLA ?_|intro _))
   exact fv
 ·rw [rY,if_neg hk]
  (repeat' ((conv=>whnf);first|refine gA ?_|(refine gN ?_ ?_<;>intro h hw)|(refine gB ?_ ?_<;>intro h)|refine gC hO ?_|refine gC hW ?_|intro _))
  all_goals first
   |(exfalso;simp_all;done)
   |exact fv
theorem Yi (g:Lg) (most:Int) (hp:g.proj.fine):Con 5 [.d g.av,.d (i64 most)] (.d (rY g most).av):=by
 refine con Tryz.func5 rfl rfl Tryz.call5 rfl fun hwf=>?_
 have hO:=ZU g hp
 have hW:=dG most 1 60
 by_cases hk:wJ g=true/\within most 1 60=true
 ·obtain⟨h1,h2⟩:=hk
  have hb:=within_iff.1 h2
  rw [rY,if_pos ⟨h1,h2⟩]
  rw [h1] at hO
  rw [h2] at hW
  obtain⟨m,rfl⟩:∃m:Nat,most=m:=⟨most.toNat,by omega⟩
  rw [Int.toNat_natCast]
  have hV:=Qg m (by omega) (m+1) 0 g hp (PU h1) (by omega) (by omega) (by omega)
  rw [Bd,if_neg (by omega)] at hV
  generalize (dU 40 0 g).1=h at hV ⊢
  generalize vis m (m+1) 0 g=W at hV ⊢
  rcases W with⟨ls,v,_|s,st⟩
  all_goals
   rw [pR] at hV
   (repeat' ((conv=>whnf);first|refine gA ?_|refine gC hO ?_|refine gC hW ?_|refine gC (AU g) ?_|refine gC hV ?_|intro _))
   exact fv
 ·rw [rY,if_neg hk]
  (repeat' ((conv=>whnf);first|refine gA ?_|(refine gN ?_ ?_<;>intro h hw)|(refine gB ?_ ?_<;>intro h)|refine gC hO ?_|refine gC hW ?_|intro _))
  all_goals first
   |(exfalso;simp_all;done)
   |exact fv
end Go.Proofs.YthegbfgeochckaaGreat.Abs
