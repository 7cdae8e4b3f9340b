/- Contracts: what to decide next, the schedule of a domain of one. -/
import Derived.Test.YtefgamefajmdkaaGreatC51
import Derived.Test.YtefgamefajmdkaaGreatC22
import Derived.Test.YtefgamefajmdkaaGreatLg
set_option linter.all false
set_option maxRecDepth 20000
set_option maxHeartbeats 0
namespace Go.Proofs.YtefgamefajmdkaaGreat.Abs
open Go.Proofs Go.RowKit
def Ez (b:Dom) (i:Nat):Bool:=decide (((b.modes.getD i []).length:Int) > 1)||decide (b.lo.getD i 0 < b.hi.getD i 0)
def pY (b:Dom):Nat→Nat→Int→Int
 |0,_,k=>k
 |r+1,i,k=>pY b r (i+1) (if Ez b i=true∧(k < 0∨b.lo.getD i 0 < b.lo.getD k.toNat 0) then i else k)
theorem IQ (b:Dom) (i:Nat) (k:Int):pY b 0 i k=k:=rfl
theorem IU (b:Dom) (r i:Nat) (k:Int):pY b (r+1) i k=pY b r (i+1) (if Ez b i=true∧(k < 0∨b.lo.getD i 0 < b.lo.getD k.toNat 0) then i else k):=rfl
def Kc (a:aB) (m:Int):Int:=(a.modes.getD m.toNat ⟨0,[],[]⟩).dur
def qb (a:aB):List Int→Int→Int
 |[],k=>k
 |m::r,k=>qb a r (if Kc a m < Kc a k then m else k)
theorem Ml (a:aB) (k:Int):qb a [] k=k:=rfl
theorem IV (a:aB) (m:Int) (r:List Int) (k:Int):qb a (m::r) k=qb a r (if Kc a m < Kc a k then m else k):=rfl
def Hl (p:Proj) (b:Dom) (k:Int):Option Lit:=
 if k < 0 then none
 else if ((b.modes.getD k.toNat []).length:Int) < 2 then some ⟨2,k,b.lo.getD k.toNat 0⟩
 else some ⟨3,k,qb (iP p k.toNat) (b.modes.getD k.toNat []) ((b.modes.getD k.toNat []).headD 0)⟩
def choice (p:Proj) (b:Dom):Option Lit:=if usable p b=true then Hl p b (pY b p.acts.length 0 (-1)) else none
theorem Ke {p:Proj} {b:Dom} (hu:usable p b=true) {k:Nat} {x y:Int} {m:List Int} (hx:b.lo[k]? =some x) (hy:b.hi[k]? =some y) (hm:b.modes[k]? =some m):x≤y∧0 < m.length:=by
 have h:=(jV hu).2
 simp only [jB,Bool.or_eq_false_iff,List.any_eq_false,List.mem_range] at h
 have h1:=h.1 k (List.getElem?_eq_some_iff.1 hx).1
 have h2:=h.2 m (List.mem_of_getElem? hm)
 simp only [wO,hx,hy,decide_eq_true_eq] at h1
 simp only [decide_eq_true_eq] at h2
 omega
def Ue (o:Option Lit):RV:=.tup [.d (o.getD fB).av,.d (.bool o.isSome)]
theorem Sn {p:Proj} {b:Dom} (h:usable p b=false):choice p b=none:=by rw [choice,if_neg (by rw [h];nofun)]
theorem qM {α:Type} {l:List α} {k:Nat} {x d:α} (h:l[k]? =some x):l.getD k d=x:=by rw [List.getD_eq_getElem?_getD,h];rfl
theorem Qq {p:Proj} {b:Dom} {i:Nat} {a:aB} {x y:Int} {m:List Int} (g:dX p b i a x y m):Ez b i=true↔((m.length:Int) > 1∨x < y):=by
 simp only [Ez,qM g.modes,qM g.lo,qM g.hi,Bool.or_eq_true,decide_eq_true_eq]
theorem Kg {p:Proj} {b:Dom} {i:Nat} {a:aB} {x y:Int} {m:List Int} (g:dX p b i a x y m) {n:Int} (hn:n∈m):∃(j:Nat) (o:Mode),n=j∧a.modes[j]? =some o∧Kc a n=o.dur:=by
 obtain⟨j,rfl,hj⟩:=g.UO n hn
 refine⟨j,a.modes[j],rfl,by simp,?_⟩
 unfold Kc
 rw [Int.toNat_natCast,qM (show a.modes[j]? =some a.modes[j] by simp)]
def Rn (b:Dom) (i:Nat):Bool:=
 match b.lo[i]?,b.hi[i]?,b.modes[i]? with
 |some x,some y,some m=>decide (x=y)&&decide ((m.length:Int)=1)
 |_,_,_=>true
def single (b:Dom):Option bE:=if b.lo.length=b.hi.length∧b.lo.length=b.modes.length∧Ab b.lo.length (Rn b)=true then some ⟨b.lo,b.modes.map (·.headD 0)⟩ else none
def Uf (o:Option bE):RV:=.tup [.agg [.lin 3 ((o.getD ⟨[],[]⟩).starts.map i64),.lin 3 ((o.getD ⟨[],[]⟩).modes.map i64)],.d (.bool o.isSome)]
theorem nW (p:Proj) (b:Dom) (hp:p.fine):Con 148 [.d p.av,.d b.av] (Ue (choice p b)):=by
 refine con Tryz.func148 rfl rfl Tryz.call148 rfl fun hwf=>?_
 simp only [ARs.wf,AR.wf,AV.wf,AV.wfs,lm,lim] at hwf
 have hU:=fP p b hp
 cases hu:usable p b with
 |false=>
  rw [hu] at hU
  rw [Sn hu]
  (repeat' ((conv=>whnf);first|refine gA ?_|(refine gB ?_ ?_<;>intro h)|(refine gI ?_;intro x hx)|(refine gJ ?_;intro j x hj hx)|refine gV ?_|refine gC (hU) ?_|intro _))<;>try (conv=>whnf)
  exact fv
 |true=>
 rw [hu] at hU
 have hf:=vP hu
 have hna:=(dP (bF hf).1).FU
 generalize hR:choice p b=R
 rw [choice,if_pos hu] at hR
 generalize hQ:pY b p.acts.length 0 (-1)=Q at hR
 (repeat' ((conv=>whnf);first|refine gA ?_|(refine gB ?_ ?_<;>intro h)|(refine gI ?_;intro x hx)|(refine gJ ?_;intro j x hj hx)|refine gV ?_|refine gC (hU) ?_|intro _))<;>try (conv=>whnf)
 refine aA [2,3,4,19] [2,3,4] [] ?_
 (conv=>whnf)
 refine ay.go ((Nat)×(Int)) (fun⟨i,k⟩=>(i≤p.acts.length)∧(-1≤k∧k < i)∧(pY b (p.acts.length - i) i k=Q)) (fun⟨i,k⟩=>[(20,.data (i64 i)),(6,.data (i64 k))]) (fun _=>[]) (fun _=>[]) (fun⟨i,k⟩=>p.acts.length - i) ⟨0, -1⟩ ?_ ?_
 ·exact⟨Nat.zero_le _,⟨by omega,by omega⟩,hQ⟩
 rintro⟨i,k⟩ ⟨hi,hk,he⟩
 by_cases hlt:i < p.acts.length
 ·obtain⟨a,x,y,m,g⟩:=gY hf hlt
  have hxy:=Ke hu g.lo g.hi g.modes
  have ho:=Qq g
  rw [show p.acts.length - i=(p.acts.length - (i+1))+1 by omega,IU,qM g.lo] at he
  by_cases hk0:k < 0
  ·by_cases hc:(m.length:Int) > 1∨x < y
   ·rw [if_pos ⟨ho.2 hc,.inl hk0⟩] at he
    (repeat' ((conv=>whnf);first|with_reducible refine Idx.got g.modes rfl ?_|with_reducible refine Idx.got g.lo rfl ?_|with_reducible refine Idx.got g.hi rfl ?_|(exfalso;first|omega|(simp only [lm] at h;omega))|refine gA ?_|(refine gB ?_ ?_<;>intro h)|(refine gI ?_;intro x hx)|(refine gJ ?_;intro j x hj hx)|refine gV ?_|intro _))<;>try (conv=>whnf)
    all_goals
     refine nx ⟨i+1,i⟩ ?_
     exact⟨by omega,by omega,he⟩
   ·rw [if_neg (fun h=>hc (ho.1 h.1))] at he
    (repeat' ((conv=>whnf);first|with_reducible refine Idx.got g.modes rfl ?_|with_reducible refine Idx.got g.lo rfl ?_|with_reducible refine Idx.got g.hi rfl ?_|(exfalso;first|omega|(simp only [lm] at h;omega))|refine gA ?_|(refine gB ?_ ?_<;>intro h)|(refine gI ?_;intro x hx)|(refine gJ ?_;intro j x hj hx)|refine gV ?_|intro _))<;>try (conv=>whnf)
    all_goals
     refine nx ⟨i+1,k⟩ ?_
     exact⟨by omega,by omega,he⟩
  ·obtain⟨j,rfl⟩:∃j:Nat,k=j:=⟨k.toNat,by omega⟩
   obtain⟨a',x',y',m',g'⟩:=gY hf (show j < p.acts.length by omega)
   rw [Int.toNat_natCast,qM g'.lo] at he
   by_cases hc:((m.length:Int) > 1∨x < y)∧x < x'
   ·rw [if_pos ⟨ho.2 hc.1,.inr hc.2⟩] at he
    (repeat' ((conv=>whnf);first|with_reducible refine Idx.got g.modes rfl ?_|with_reducible refine Idx.got g.lo rfl ?_|with_reducible refine Idx.got g.hi rfl ?_|with_reducible refine Idx.got g'.lo rfl ?_|(exfalso;first|omega|(simp only [lm] at h;omega))|refine gA ?_|(refine gB ?_ ?_<;>intro h)|(refine gI ?_;intro x hx)|(refine gJ ?_;intro j x hj hx)|refine gV ?_|intro _))<;>try (conv=>whnf)
    all_goals
     refine nx ⟨i+1,i⟩ ?_
     exact⟨by omega,by omega,he⟩
   ·rw [if_neg (fun h=>hc ⟨ho.1 h.1,by have:=h.2;omega⟩)] at he
    (repeat' ((conv=>whnf);first|with_reducible refine Idx.got g.modes rfl ?_|with_reducible refine Idx.got g.lo rfl ?_|with_reducible refine Idx.got g.hi rfl ?_|with_reducible refine Idx.got g'.lo rfl ?_|(exfalso;first|omega|(simp only [lm] at h;omega))|refine gA ?_|(refine gB ?_ ?_<;>intro h)|(refine gI ?_;intro x hx)|(refine gJ ?_;intro j x hj hx)|refine gV ?_|intro _))<;>try (conv=>whnf)
    all_goals
     refine nx ⟨i+1,j⟩ ?_
     exact⟨by omega,by omega,he⟩
 ·rw [show p.acts.length - i=0 by omega,IQ] at he
  subst he
  by_cases hk0:k < 0
  ·rw [Hl,if_pos hk0] at hR
   subst hR
   (repeat' ((conv=>whnf);first|(exfalso;omega)|refine gA ?_|(refine gB ?_ ?_<;>intro h)|(refine gI ?_;intro x hx)|(refine gJ ?_;intro j x hj hx)|refine gV ?_|intro _))<;>try (conv=>whnf)
   exact fv
  ·obtain⟨j,rfl⟩:∃j:Nat,k=j:=⟨k.toNat,by omega⟩
   obtain⟨a,x,y,m,g⟩:=gY hf (show j < p.acts.length by omega)
   have hxy:=Ke hu g.lo g.hi g.modes
   rw [Hl,if_neg hk0,Int.toNat_natCast,qM g.modes,qM g.lo,JQ g.act] at hR
   by_cases h2:(m.length:Int) < 2
   ·rw [if_pos h2] at hR
    subst hR
    (repeat' ((conv=>whnf);first|with_reducible refine Idx.got g.modes rfl ?_|with_reducible refine Idx.got g.lo rfl ?_|(exfalso;first|omega|(simp only [lm] at h;omega))|refine gA ?_|(refine gB ?_ ?_<;>intro h)|(refine gI ?_;intro x hx)|(refine gJ ?_;intro j x hj hx)|refine gV ?_|intro _))<;>try (conv=>whnf)
    all_goals exact fv
   ·rw [if_neg h2] at hR
    have hmw:m.length≤274877906944:=by have:=ou hwf.2.1.2.2.1.2 g.modes;simp only [AV.wf,lm] at this;exact this.1
    obtain⟨m0,hm0⟩:∃m0,m[0]? =some m0:=⟨m[0]'(by omega),by simp⟩
    have hhd:m.headD 0=m0:=by cases m with|nil=>simp at hm0|cons z zs=>simpa using hm0
    rw [hhd] at hR
    generalize hZ:qb a m m0=Z at hR
    (repeat' ((conv=>whnf);first|with_reducible refine Idx.got g.modes rfl ?_|with_reducible refine Idx.got hm0 rfl ?_|(exfalso;first|omega|(simp only [lm] at h;omega))|refine gA ?_|(refine gB ?_ ?_<;>intro h)|(refine gI ?_;intro x hx)|(refine gJ ?_;intro j x hj hx)|refine gV ?_|intro _))<;>try (conv=>whnf)
    refine aA [2,4,6,83,84] [2,4] [] ?_
    (conv=>whnf)
    refine ay.go ((Nat)×(Int)) (fun⟨r,q⟩=>(r≤m.length)∧(q∈m)∧(qb a (m.drop r) q=Z)) (fun⟨r,q⟩=>[(85,.data (i64 r)),(9,.data (i64 q))]) (fun _=>[]) (fun _=>[]) (fun⟨r,q⟩=>m.length - r) ⟨0,m0⟩ ?_ ?_
    ·exact⟨Nat.zero_le _,List.mem_of_getElem? hm0,hZ⟩
    rintro⟨r,q⟩ ⟨hr,hq,hz⟩
    by_cases hlr:r < m.length
    ·obtain⟨z,hz0⟩:∃z,m[r]? =some z:=⟨m[r]'hlr,by simp⟩
     obtain⟨jz,oz,ez,gz,dz⟩:=Kg g (List.mem_of_getElem? hz0)
     obtain⟨jq,oq,eq,gq,dq⟩:=Kg g hq
     rw [aC hz0,IV,dz,dq] at hz
     by_cases hc:oz.dur < oq.dur
     ·rw [if_pos hc] at hz
      (repeat' ((conv=>whnf);first|with_reducible refine Idx.got hz0 rfl ?_|with_reducible refine Idx.got g.act rfl ?_|with_reducible refine Idx.got gz ez ?_|with_reducible refine Idx.got gq eq ?_|(exfalso;omega)|refine gA ?_|(refine gB ?_ ?_<;>intro h)|(refine gI ?_;intro x hx)|(refine gJ ?_;intro j x hj hx)|refine gV ?_|intro _))<;>try (conv=>whnf)
      all_goals
       refine nx ⟨r+1,z⟩ ?_
       exact⟨by omega,List.mem_of_getElem? hz0,hz⟩
     ·rw [if_neg hc] at hz
      (repeat' ((conv=>whnf);first|with_reducible refine Idx.got hz0 rfl ?_|with_reducible refine Idx.got g.act rfl ?_|with_reducible refine Idx.got gz ez ?_|with_reducible refine Idx.got gq eq ?_|(exfalso;omega)|refine gA ?_|(refine gB ?_ ?_<;>intro h)|(refine gI ?_;intro x hx)|(refine gJ ?_;intro j x hj hx)|refine gV ?_|intro _))<;>try (conv=>whnf)
      all_goals
       refine nx ⟨r+1,q⟩ ?_
       exact⟨by omega,hq,hz⟩
    ·rw [aU (by omega),Ml] at hz
     subst hz
     subst hR
     (repeat' ((conv=>whnf);first|(exfalso;omega)|refine gA ?_|(refine gB ?_ ?_<;>intro h)|(refine gI ?_;intro x hx)|(refine gJ ?_;intro j x hj hx)|refine gV ?_|intro _))<;>try (conv=>whnf)
     exact fv
theorem nX (b:Dom):Con 147 [.d b.av] (Uf (single b)):=by
 refine con Tryz.func147 rfl rfl Tryz.call147 rfl fun hwf=>?_
 simp only [ARs.wf,AR.wf,AV.wf,AV.wfs,lm,lim] at hwf
 by_cases hl:b.lo.length=b.hi.length∧b.lo.length=b.modes.length
 rotate_left
 ·rw [show single b=none by rw [single,if_neg (fun h=>hl ⟨h.1,h.2.1⟩)]]
  (repeat' ((conv=>whnf);first|(exfalso;first|omega|(simp only [lm] at*;omega))|refine gA ?_|(refine gB ?_ ?_<;>intro h)|(refine gI ?_;intro x hx)|(refine gJ ?_;intro j x hj hx)|refine gP ?_|refine gV ?_|intro _))<;>try (conv=>whnf)
  all_goals exact fv
 obtain⟨hl1,hl2⟩:=hl
 generalize hR:single b=R
 (repeat' ((conv=>whnf);first|(exfalso;first|omega|(simp only [lm] at*;omega))|refine gA ?_|(refine gB ?_ ?_<;>intro h)|(refine gI ?_;intro x hx)|(refine gJ ?_;intro j x hj hx)|refine gP ?_|refine gV ?_|intro _))<;>try (conv=>whnf)
 refine aA [1,2,4,26,27] [1,2] [54,65] ?_
 (conv=>whnf)
 refine ay.go ((Nat)) (fun k=>(k≤b.lo.length)∧(∀i,i < k→Rn b i=true)) (fun k=>[(28,.data (i64 k))]) (fun k=>[(4,[.own 54 0,.own 65 0])]) (fun k=>[(54,3,(b.lo.take k).map i64,1),(65,3,((b.modes.take k).map (·.headD 0)).map i64,1)]) (fun k=>b.lo.length - k) (0) ?_ ?_
 ·exact⟨Nat.zero_le _,fun i h=>absurd h (Nat.not_lt_zero i)⟩
 rintro k ⟨hk,hi⟩
 by_cases hlt:k < b.lo.length
 ·obtain⟨x,hx⟩:∃x,b.lo[k]? =some x:=⟨b.lo[k]'hlt,by simp⟩
  obtain⟨y,hy⟩:∃y,b.hi[k]? =some y:=⟨b.hi[k]'(by omega),by simp⟩
  obtain⟨m,hm⟩:∃m,b.modes[k]? =some m:=⟨b.modes[k]'(by omega),by simp⟩
  have ho:Rn b k=(decide (x=y)&&decide ((m.length:Int)=1)):=by simp only [Rn,hx,hy,hm]
  have hlk:(b.lo.take k).length≤k:=by rw [List.length_take];omega
  have hmk:(b.modes.take k).length≤k:=by rw [List.length_take];omega
  by_cases hc:x=y∧(m.length:Int)=1
  ·obtain⟨z,hz⟩:∃z,m[0]? =some z:=⟨m[0]'(by omega),by simp⟩
   have hzd:m.headD 0=z:=by cases m with|nil=>simp at hz|cons z1 zs=>simpa using hz
   have e1:(b.lo.take k).map i64++[i64 x]=(b.lo.take (k+1)).map i64:=(lU i64 hx).symm
   have e2:((b.modes.take k).map (·.headD 0)).map i64++[i64 z]=((b.modes.take (k+1)).map (·.headD 0)).map i64:=by rw [List.map_map,List.map_map,lU (i64 ∘ fun l:List Int=>l.headD 0) hm];simp only [Function.comp,hzd]
   (repeat' ((conv=>whnf);first|with_reducible refine Idx.got hx rfl ?_|with_reducible refine Idx.got hy rfl ?_|with_reducible refine Idx.got hm rfl ?_|with_reducible refine Idx.got hz rfl ?_|(exfalso;first|omega|(simp only [lm] at h;omega))|refine gA ?_|(refine gB ?_ ?_<;>intro h)|(refine gI ?_;intro x hx)|(refine gJ ?_;intro j x hj hx)|refine gP ?_|refine gV ?_|intro _))<;>try (conv=>whnf)
   all_goals
    refine nw ((k+1)) ?_ ?_
    ·(repeat' ((conv=>whnf)<;>(first|exact trivial|exact rfl|with_reducible refine And.intro ?_ ?_)))<;>((conv=>whnf)<;>(first|exact e1|exact e2))
    exact⟨by omega,jN hi (by rw [ho,hc.1];simp [hc.2])⟩
  ·have e:R=none:=by
    rw [← hR,single,if_neg]
    rintro⟨_,_,h⟩
    rw [jM k hlt (by rw [ho];simp only [Bool.and_eq_false_iff,decide_eq_false_iff_not];omega)] at h
    cases h
   subst e
   (repeat' ((conv=>whnf);first|with_reducible refine Idx.got hx rfl ?_|with_reducible refine Idx.got hy rfl ?_|with_reducible refine Idx.got hm rfl ?_|(exfalso;first|omega|(simp only [lm] at h;omega))|refine gA ?_|(refine gB ?_ ?_<;>intro h)|(refine gI ?_;intro x hx)|(refine gJ ?_;intro j x hj hx)|refine gP ?_|refine gV ?_|intro _))<;>try (conv=>whnf)
   all_goals exact fv
 ·obtain rfl:k=b.lo.length:=by omega
  have e:R=some ⟨b.lo,b.modes.map (·.headD 0)⟩:=by rw [← hR,single,if_pos ⟨hl1,hl2,dO.2 hi⟩]
  subst e
  rw [List.take_of_length_le (Nat.le_refl _),hl2,List.take_of_length_le (Nat.le_refl _)]
  (repeat' ((conv=>whnf);first|(exfalso;omega)|refine gA ?_|(refine gB ?_ ?_<;>intro h)|(refine gI ?_;intro x hx)|(refine gJ ?_;intro j x hj hx)|refine gP ?_|refine gV ?_|intro _))<;>try (conv=>whnf)
  exact fv
open Go.Proofs Go.RowKit
attribute [local irreducible] eZ fE aI status litValue single choice iH dW
theorem Idx.lit {l:List AV} {i:Int} {k:Nat} {x:AV} {K:Nat→AV→Prop} (hx:l[k]? =some x) (h:i=k) (hk:K k x):Idx l i K:=⟨k,x,h,hx,hk⟩
structure Way where
 lines:List Lin
 visits:Int
 found:Option bE
 stopped:Bool
def takeLog (g:Lg) (l:Lit):Option Lg:=if (vw g.proj l&& !decide ((g.decs.length:Int)=20))=true then some ⟨g.proj,restrict g.dom l,g.decs++[l],g.lines⟩ else none
theorem kF {g n:Lg} {l:Lit} (h:takeLog g l=some n):n.proj=g.proj∧n.decs=g.decs++[l]∧¬(g.decs.length:Int)=20∧n.lines=g.lines:=by
 unfold takeLog at h
 split at h
 ·rename_i hc
  cases h
  simp only [Bool.and_eq_true,Bool.not_eq_true',decide_eq_false_iff_not] at hc
  exact⟨rfl,rfl,hc.2,rfl⟩
 ·cases h
def dB (g:Lg) (ls:List Lin):Lg:=⟨g.proj,g.dom,g.decs,ls⟩
def lV (h:Lg):Option bE:=match single h.dom with
 |none=>none
 |some s=>if wR h.proj s=true then some s else none
def iN (h:Lg) (ls:List Lin) (v:Int):Way:=if aI h.proj ls (aY h)=0 then⟨ls++[aY h],v,none,false⟩ else⟨ls,v,none,true⟩
def dS (h:Lg) (rec:Int→Lg→Way) (x:Lit) (ls:List Lin) (v:Int):Way:=match takeLog (dB h ls) x with
 |none=>⟨ls,v,none,true⟩
 |some n=>rec v n
def fM (h:Lg) (rec:Int→Lg→Way):List Lit→List Lin→Int→Way
 |[],ls,v=>iN h ls v
 |x::xs,ls,v=>match dS h rec x ls v with
  |⟨ls',v',none,false⟩=>fM h rec xs ls' v'
  |w=>w
def iy (h:Lg) (rec:Int→Lg→Way) (v:Int):Way:=match iH h with
 |some k=>⟨k.lines,v,none,false⟩
 |none=>match lV h with
  |some s=>⟨h.lines,v,some s,false⟩
  |none=>match choice h.proj h.dom with
   |none=>⟨h.lines,v,none,true⟩
   |some l=>fM h rec [l,negate l] h.lines v
def vis (most:Int):Nat→Int→Lg→Way
 |0,v,g=>⟨g.lines,v,none,true⟩
 |f+1,v,g=>if v=most then⟨g.lines,v,none,true⟩ else iy (dW 40 0 g).1 (fun v g=>vis most f v g) (v+1)
theorem Bn (most:Int) (f:Nat) (g:Lg):vis most (f+1) most g=⟨g.lines,most,none,true⟩:=by rw [vis,if_pos rfl]
theorem sG (most:Int) (f:Nat) (v:Int) (g:Lg) (h:v≠most):vis most (f+1) v g=iy (dW 40 0 g).1 (fun v g=>vis most f v g) (v+1):=by rw [vis,if_neg h]
theorem iV {h:Lg} {rec:Int→Lg→Way} {x:Lit} {ls:List Lin} {v:Int} (e:takeLog (dB h ls) x=none):dS h rec x ls v=⟨ls,v,none,true⟩:=by simp only [dS,e]
theorem iW {h n:Lg} {rec:Int→Lg→Way} {x:Lit} {ls:List Lin} {v:Int} (e:takeLog (dB h ls) x=some n):dS h rec x ls v=rec v n:=by simp only [dS,e]
theorem iX {h:Lg} {rec:Int→Lg→Way} {x:Lit} {xs:List Lit} {ls ls':List Lin} {v v':Int} (e:dS h rec x ls v=⟨ls',v',none,false⟩):fM h rec (x::xs) ls v=fM h rec xs ls' v':=by simp only [fM,e]
theorem dh {h:Lg} {rec:Int→Lg→Way} {x:Lit} {xs:List Lit} {ls:List Lin} {v:Int} {w:Way} (e:dS h rec x ls v=w) (hw:w.found.isSome=true∨w.stopped=true):fM h rec (x::xs) ls v=w:=by
 simp only [fM,e]
 rcases w with⟨a,b,_|c,_|_⟩
 ·simp at hw
 ·rfl
 ·rfl
 ·rfl
theorem Mq (h:Lg) (ls:List Lin) (v most:Int) (hv:v≤most):v≤(iN h ls v).visits∧(iN h ls v).visits≤most:=by
 unfold iN;split<;>exact⟨Int.le_refl _,hv⟩
theorem rA {h:Lg} {rec:Int→Lg→Way} {most:Int} (hr:∀v g,v≤most→v≤(rec v g).visits∧(rec v g).visits≤most):∀(xs:List Lit) (ls:List Lin) (v:Int),v≤most→v≤(fM h rec xs ls v).visits∧(fM h rec xs ls v).visits≤most
 |[],ls,v,hv=>Mq h ls v most hv
 |x::xs,ls,v,hv=>by
  have hs:v≤(dS h rec x ls v).visits∧(dS h rec x ls v).visits≤most:=by
   unfold dS
   split
   ·exact⟨Int.le_refl _,hv⟩
   ·exact hr _ _ hv
  rcases hw:dS h rec x ls v with⟨a,b,_|c,_|_⟩
  ·rw [hw] at hs
   rw [iX hw]
   have:=rA (h:=h) hr xs a b hs.2
   exact⟨by have:=hs.1;dsimp only at this;omega,this.2⟩
  all_goals
   rw [dh hw (by simp)]
   rw [hw] at hs;exact hs
theorem jW (most:Int):∀(f:Nat) (v:Int) (g:Lg),v≤most→v≤(vis most f v g).visits∧(vis most f v g).visits≤most
 |0,v,g,hv=>⟨Int.le_refl _,hv⟩
 |f+1,v,g,hv=>by
  by_cases h:v=most
  ·subst h;rw [Bn];exact⟨Int.le_refl _,Int.le_refl _⟩
  ·rw [sG _ _ _ _ h]
   have hv1:v+1≤most:=by omega
   suffices hh:v+1≤(iy (dW 40 0 g).1 (fun v g=>vis most f v g) (v+1)).visits∧(iy (dW 40 0 g).1 (fun v g=>vis most f v g) (v+1)).visits≤most from ⟨by omega,hh.2⟩
   unfold iy
   split
   ·exact⟨Int.le_refl _,hv1⟩
   ·split
    ·exact⟨Int.le_refl _,hv1⟩
    ·split
     ·exact⟨Int.le_refl _,hv1⟩
     ·exact rA (fun v g hv=>jW most f v g hv) _ _ _ hv1
theorem Bo {h k:Lg} {rec:Int→Lg→Way} {v:Int} (e:iH h=some k):iy h rec v=⟨k.lines,v,none,false⟩:=by unfold iy;rw [e]
theorem Bp {h:Lg} {s:bE} {rec:Int→Lg→Way} {v:Int} (e:iH h=none) (e2:lV h=some s):iy h rec v=⟨h.lines,v,some s,false⟩:=by unfold iy;rw [e];dsimp only;rw [e2]
theorem Bq {h:Lg} {rec:Int→Lg→Way} {v:Int} (e:iH h=none) (e2:lV h=none):iy h rec v=(match choice h.proj h.dom with|none=>⟨h.lines,v,none,true⟩|some l=>fM h rec [l,negate l] h.lines v):=by unfold iy;rw [e];dsimp only;rw [e2]
end Go.Proofs.YtefgamefajmdkaaGreat.Abs
namespace Go.Proofs.YtefgamefajmdkaaGreat.Abs
open Go.Proofs Go.RowKit
attribute [local irreducible] eZ fE aI status litValue single choice iH dW
def xB (most v:Int) (b:Lg):List SV:=[.data (i64 most),.data (i64 v),.data (i64 b.proj.dead),.data (.sl (b.proj.acts.map aB.av)),.data (.sl (b.proj.links.map Link.av)),.data (.sl (b.proj.aW.map bI.av)),.data (ints b.proj.aR),.data (ints b.dom.lo),.data (ints b.dom.hi),.data (.sl (b.dom.modes.map ints)),.data (lits b.decs),.data (.sl (b.lines.map Lin.av)),.data (.bool false),.data (.bool false),.ah,.ah]
def lgC (b:Lg) (ls:List Lin):List SV:=[.data (i64 b.proj.dead),.data (.sl (b.proj.acts.map aB.av)),.data (.sl (b.proj.links.map Link.av)),.data (.sl (b.proj.aW.map bI.av)),.data (ints b.proj.aR),.data (ints b.dom.lo),.data (ints b.dom.hi),.data (.sl (b.dom.modes.map ints)),.data (lits b.decs),.data (.sl (ls.map Lin.av))]
def Ug (most:Int):List SV:=[.data (i64 most),.data (i64 0),.data (i64 0),.ah,.ah,.ah,.ah,.ah,.ah,.ah,.ah,.ah,.data (.bool false),.data (.bool false),.ah,.ah]
def Vz (most v:Int) (b:Lg) (found stopped:Bool) (s m:RV):List RV:=[.d (i64 most),.d (i64 v),.d (i64 b.proj.dead),.d (.sl (b.proj.acts.map aB.av)),.d (.sl (b.proj.links.map Link.av)),.d (.sl (b.proj.aW.map bI.av)),.d (ints b.proj.aR),.d (ints b.dom.lo),.d (ints b.dom.hi),.d (.sl (b.dom.modes.map ints)),.d (lits b.decs),.d (.sl (b.lines.map Lin.av)),.d (.bool found),.d (.bool stopped),s,m]
def sH (most:Int) (b:Lg):Way→RV
 |⟨ls,v,none,st⟩=>.eff 0 (.d (.sl (ls.map Lin.av))) (Vz most v b false st .ah .ah)
 |⟨ls,v,some s,st⟩=>.eff 0 (.d (.sl (ls.map Lin.av))) (Vz most v b true st (.lin 3 (s.starts.map i64)) (.lin 3 (s.modes.map i64)))
theorem Ro {most:Int} {n:Nat} {b:Lg} {W:Way} {args:List AR} (h:(Nat.ble args.length n&&Na args)=true):(Nat.ble args.length n&&RL args (sH most b W))=true:=by
 have e:(sH most b W).uj=true:=by rcases W with⟨_,_,_|_,_⟩<;>rfl
 have e2:(sH most b W).Qw=false:=by rcases W with⟨_,_,_|_,_⟩<;>rfl
 simp only [Bool.and_eq_true] at h
 simp only [RL,e,e2,h.1,h.2,Bool.and_true,Bool.or_true,Bool.not_false]
theorem fU (most v:Int) (b:Lg) (ls:List Lin):Con 144 [.bx (xB most v b),.d (.sl (ls.map Lin.av))] (sH most b ⟨ls,v,none,true⟩):=by
 refine con Tryz.func144 rfl rfl Tryz.call144 rfl fun hwf=>?_
 (repeat' ((conv=>whnf);first|refine gA ?_|(refine gB ?_ ?_<;>intro h)|intro _))<;>try (conv=>whnf)
 exact fv
theorem qN (g:Lg) (l:Lit) (hp:g.proj.fine) (hd:g.decs.length≤20):Con 149 [.d g.av,.d l.av] (vX (takeLog g l)):=by
 refine con Tryz.func149 rfl rfl Tryz.call149 rfl fun hwf=>?_
 simp only [ARs.wf,AR.wf,AV.wf,AV.wfs,lm,lim] at hwf
 have hT:=lN g.proj l hp
 by_cases hk:(vw g.proj l&& !decide ((g.decs.length:Int)=20))=true
 ·rw [takeLog,if_pos hk,kS]
  simp only [Bool.and_eq_true,Bool.not_eq_true',decide_eq_false_iff_not] at hk
  rw [hk.1] at hT
  have h3:=hk.2
  (repeat' ((conv=>whnf);first|with_reducible refine Br.no (decide_eq_false (by simp only [lm];omega)) ?_|refine gA ?_|(refine gB ?_ ?_<;>intro h)|refine gP ?_|refine gC (hT) ?_|refine gC (rz g) ?_|refine gC (dH g.dom l) ?_|intro _))<;>try (conv=>whnf)
  (repeat' ((conv=>whnf)<;>(first|exact trivial|exact VC.nod (by kernel_rfl)|refine VC.mk (by first|with_reducible rfl|(simp;done)|rfl) ?_)))
 ·rw [takeLog,if_neg hk]
  (repeat' ((conv=>whnf);first|refine gA ?_|(refine gB ?_ ?_<;>intro h)|refine gP ?_|refine gC (hT) ?_|intro _))<;>try (conv=>whnf)
  all_goals first
   |(exfalso;simp_all;done)
   |exact fv
theorem wz:∀(f n:Nat) (g:Lg),(dW f n g).1.decs=g.decs
 |0,_,_=>by rw [vZ]
 |f+1,n,g=>by
  rw [qL]
  cases h:oG g with
  |none=>rfl
  |some x=>
   dsimp only
   rw [wz f]
   rw [zk] at h
   split at h
   ·cases h
   ·unfold nR at h
    split at h
    ·cases h;rfl
    ·cases h
theorem Bt {h:Lg} {s:bE} (e:lV h=some s):single h.dom=some s∧wR h.proj s=true:=by
 unfold lV at e
 split at e
 ·cases e
 ·rename_i x hx
  split at e
  ·rename_i hk;cases e;exact⟨hx,hk⟩
  ·cases e
theorem DR {h:Lg} {s:bE} (e:lV h=none) (hs:single h.dom=some s):wR h.proj s=false:=by
 unfold lV at e
 rw [hs] at e
 dsimp only at e
 split at e
 ·cases e
 ·rename_i hk
  cases hh:wR h.proj s with
  |false=>rfl
  |true=>exact absurd hh hk
theorem Em (v:Int) (b:Lg) (g:Lg):Con 81 [.bx (xB v v b),.d g.av] (sH v b ⟨g.lines,v,none,true⟩):=by
 refine con Tryz.func81 rfl rfl Tryz.call81 rfl fun hwf=>?_
 have hS:=fU v v b g.lines
 rw [sH] at hS ⊢
 (repeat' ((conv=>whnf);first|with_reducible refine Br.yes (decide_eq_true rfl) ?_|refine gA ?_|(refine gB ?_ ?_<;>intro h)|(refine gI ?_;intro x hx)|(refine gJ ?_;intro j x hj hx)|refine gP ?_|refine gV ?_|refine gC (hS) ?_|intro _))<;>try (conv=>whnf)
 exact fv
end Go.Proofs.YtefgamefajmdkaaGreat.Abs
namespace Go.Proofs.YtefgamefajmdkaaGreat.Abs
open Go.Proofs Go.RowKit
attribute [local irreducible] eZ fE aI status litValue single choice iH dW
end Go.Proofs.YtefgamefajmdkaaGreat.Abs
namespace Go.Proofs.YtefgamefajmdkaaGreat.Abs
open Go.Proofs Go.RowKit
attribute [local irreducible] eZ fE aI status litValue single choice iH dW
theorem IW (most:Int) (hm:most≤60) (b:Lg) (f:Nat) (ih:∀(b:Lg) (v:Int) (g:Lg),g.proj.fine→g.decs.length≤20→most < v+f→1≤v→v≤most→Con 81 [.bx (xB most v b),.d g.av] (sH most b (vis most f v g))) (v:Int) (g:Lg) (hp:g.proj.fine) (hdl:g.decs.length≤20) (hf:most < v+(f+1)) (h1:1≤v) (h0:v≠most) (hv:v≤most):
  Con 81 [.bx (xB most v b),.d g.av] (sH most b (vis most (f+1) v g)):=by
 rw [sG _ _ _ _ h0]
 have hP:=wh g 40 hp (by omega)
 have hpr:=wo 40 0 g
 have hde:=wz 40 0 g
 rw [WI] at hP
 generalize dW 40 0 g=R0 at hP hpr hde ⊢
 obtain⟨lg,n0⟩:=R0
 dsimp only at hP hpr hde ⊢
 have hph:lg.proj.fine:=hpr ▸ hp
 have hdh:lg.decs.length≤20:=hde ▸ hdl
 have hS:=yw lg hph
 rw [Ql] at hS
 generalize hW:iy lg (fun v g=>vis most f v g) (v+1)=W
 refine con Tryz.func81 rfl rfl Tryz.call81 (Ro rfl) fun hwf=>?_
 simp only [ARs.wf,AR.wf,Pb,xB,Ug,AV.wf,AV.wfs,List.length_map,lim] at hwf
 cases hst:iH lg with
 |some k=>
  rw [hst] at hS
  dsimp only [Option.getD,Option.isSome] at hS
  obtain rfl:W=⟨k.lines,v+1,none,false⟩:=by rw [← hW];exact Bo hst
  (repeat' ((conv=>whnf);first|(exfalso;omega)|refine gA ?_|(refine gB ?_ ?_<;>intro h)|(refine gI ?_;intro x hx)|(refine gJ ?_;intro j x hj hx)|refine gP ?_|refine gV ?_|refine gC (hP) ?_|refine gC (hS) ?_|intro _))<;>try (conv=>whnf)
  exact fv
 |none=>
 rw [hst] at hS
 dsimp only [Option.getD,Option.isSome] at hS
 have hG:=nX lg.dom
 rw [Uf] at hG
 have hC:=nW lg.proj lg.dom hph
 rw [Ue] at hC
 have keep:lV lg=none→(match choice lg.proj lg.dom with|none=>(⟨lg.lines,v+1,none,true⟩:Way)|some l=>fM lg (fun v g=>vis most f v g) [l,negate l] lg.lines (v+1))=W:=fun e=>(Bq hst e).symm.trans hW
 cases hgo:lV lg with
 |some s=>
  obtain⟨hs1,hs2⟩:=Bt hgo
  rw [hs1] at hG
  dsimp only [Option.getD,Option.isSome] at hG
  have hK:=kH lg.proj s hph
  rw [hs2] at hK
  obtain rfl:W=⟨lg.lines,v+1,some s,false⟩:=by rw [← hW];exact Bp hst hgo
  (repeat' ((conv=>whnf);first|(exfalso;omega)|refine gA ?_|(refine gB ?_ ?_<;>intro h)|(refine gI ?_;intro x hx)|(refine gJ ?_;intro j x hj hx)|refine gP ?_|refine gV ?_|refine gC (hP) ?_|refine gC (hS) ?_|refine gC (hG) ?_|refine gC (hK) ?_|intro _))<;>try (conv=>whnf)
  exact fv
 |none=>
 have keep:=keep hgo
 have OL:∀s,single lg.dom=some s→Con 56 [.d lg.proj.av,.d s.av] (.d (.bool false)):=fun s hs=>by
  have:=kH lg.proj s hph
  rwa [DR hgo hs] at this
 cases hch:choice lg.proj lg.dom with
 |none=>
  rw [hch] at hC keep
  dsimp only [Option.getD,Option.isSome] at hC keep
  subst keep
  cases hs:single lg.dom with
  |none=>
   rw [hs] at hG
   dsimp only [Option.getD,Option.isSome] at hG
   (repeat' ((conv=>whnf);first|(exfalso;omega)|refine gA ?_|(refine gB ?_ ?_<;>intro h)|(refine gI ?_;intro x hx)|(refine gJ ?_;intro j x hj hx)|refine gP ?_|refine gV ?_|refine gC (hP) ?_|refine gC (hS) ?_|refine gC (hG) ?_|refine gC (hC) ?_|refine gC (fU most (v+1) b lg.lines) ?_|intro _))<;>try (conv=>whnf)
   exact fv
  |some s=>
   rw [hs] at hG
   dsimp only [Option.getD,Option.isSome] at hG
   (repeat' ((conv=>whnf);first|(exfalso;omega)|refine gA ?_|(refine gB ?_ ?_<;>intro h)|(refine gI ?_;intro x hx)|(refine gJ ?_;intro j x hj hx)|refine gP ?_|refine gV ?_|refine gC (hP) ?_|refine gC (hS) ?_|refine gC (hG) ?_|refine gC (hC) ?_|refine gC (OL s hs) ?_|refine gC (fU most (v+1) b lg.lines) ?_|intro _))<;>try (conv=>whnf)
   exact fv
 |some l=>
 rw [hch] at hC keep
 dsimp only [Option.getD,Option.isSome] at hC keep
 have fin:True:=trivial
 cases hs:single lg.dom with
 |none=>
  rw [hs] at hG
  dsimp only [Option.getD,Option.isSome] at hG
  (repeat' ((conv=>whnf);first|(exfalso;omega)|refine gA ?_|(refine gB ?_ ?_<;>intro h)|(refine gI ?_;intro x hx)|(refine gJ ?_;intro j x hj hx)|refine gP ?_|refine gV ?_|refine gC (hP) ?_|refine gC (hS) ?_|refine gC (hG) ?_|refine gC (hC) ?_|refine gC (dZ l) ?_|intro _))<;>try (conv=>whnf)
  refine aA [0,3,100,101] [] [] ?_
  (conv=>whnf)
  refine ay.go ((Nat)×(List Lin)×(Int)) (fun⟨k,ls,w⟩=>(k≤2)∧(fM lg (fun v g=>vis most f v g) ([l,negate l].drop k) ls w=W)∧(v+1≤w∧w≤most)) (fun⟨k,ls,w⟩=>[(102,.data (i64 k))]) (fun⟨k,ls,w⟩=>[(3,lgC lg ls),(1000000,xB most w b)]) (fun _=>[]) (fun⟨k,ls,w⟩=>2 - k) ⟨0,lg.lines,v+1⟩ ?_ ?_
  ·exact⟨by omega,keep,by omega,by omega⟩
  rintro⟨k,ls,w⟩ ⟨hk,he,hw⟩
  by_cases hlt:k < 2
  ·obtain⟨x,hx,hd⟩:∃x,[l.av,(negate l).av][k]? =some x.av∧[l,negate l].drop k=x::[l,negate l].drop (k+1):=by
    rcases k with _|_|k
    ·exact⟨l,rfl,rfl⟩
    ·exact⟨negate l,rfl,rfl⟩
    ·omega
   rw [hd] at he
   have hT:=qN (dB lg ls) x hph hdh
   have hI:([l.av,(negate l).av]:List AV)[k]? =some x.av:=hx
   cases ht:takeLog (dB lg ls) x with
   |none=>
    rw [ht,vX] at hT
    dsimp only [Option.getD,Option.isSome] at hT
    rw [dh (iV ht) (.inr rfl)] at he
    subst he
    (repeat' ((conv=>whnf);first|(exfalso;first|omega|(simp only [List.length_cons,List.length_nil] at h;omega))|refine Idx.lit hI rfl ?_|refine gA ?_|(refine gB ?_ ?_<;>intro h)|(refine gI ?_;intro x hx)|(refine gJ ?_;intro j x hj hx)|refine gP ?_|refine gV ?_|refine gC (hT) ?_|refine gC (fU most w b ls) ?_|intro _))<;>try (conv=>whnf)
    exact fv
   |some n=>
    rw [ht,kS] at hT
    obtain⟨q1,q2,q3,q4⟩:=kF ht
    have hr:=ih b w n (by rw [q1];exact hph) (by rw [q2,List.length_append];simp only [dB,List.length_cons,List.length_nil] at q3 ⊢;omega) (by omega) (by omega) hw.2
    have hb:=jW most f w n hw.2
    have hsw:dS lg (fun v g=>vis most f v g) x ls w=vis most f w n:=iW ht
    rcases Ho:vis most f w n with⟨l1,w1,_|s1,_|_⟩
    ·rw [Ho] at hr hb hsw
     rw [iX hsw] at he
     dsimp only at hb
     rw [sH] at hr
     (repeat' ((conv=>whnf);first|(exfalso;first|omega|(simp only [List.length_cons,List.length_nil] at h;omega))|refine Idx.lit hI rfl ?_|refine gA ?_|(refine gB ?_ ?_<;>intro h)|(refine gI ?_;intro x hx)|(refine gJ ?_;intro j x hj hx)|refine gP ?_|refine gV ?_|refine gC (hT) ?_|refine gC (hr) ?_|intro _))<;>try (conv=>whnf)
     refine nx ⟨k+1,l1,w1⟩ ?_
     exact⟨by omega,he,by omega,by omega⟩
    all_goals
     rw [Ho] at hr hsw
     rw [dh hsw (by simp)] at he
     subst he
     rw [sH] at hr
     (repeat' ((conv=>whnf);first|(exfalso;first|omega|(simp only [List.length_cons,List.length_nil] at h;omega))|refine Idx.lit hI rfl ?_|refine gA ?_|(refine gB ?_ ?_<;>intro h)|(refine gI ?_;intro x hx)|(refine gJ ?_;intro j x hj hx)|refine gP ?_|refine gV ?_|refine gC (hT) ?_|refine gC (hr) ?_|intro _))<;>try (conv=>whnf)
     exact fv
  ·obtain rfl:k=2:=by omega
   have he:iN lg ls w=W:=he
   (repeat' ((conv=>whnf);first|(exfalso;first|omega|(simp only [List.length_cons,List.length_nil] at h;omega))|refine gA ?_|(refine gB ?_ ?_<;>intro h)|(refine gI ?_;intro x hx)|(refine gJ ?_;intro j x hj hx)|refine gP ?_|refine gV ?_|intro _))<;>try (conv=>whnf)
   refine aA [0,3,137,138] [3] [135] ?_
   (conv=>whnf)
   refine ay.go ((Nat)×(List Lit)) (fun⟨j,o⟩=>(j≤lg.decs.length)∧(o=(lg.decs.take j).map negate)) (fun⟨j,o⟩=>[(139,.data (i64 j)),(15,.own 135 0)]) (fun⟨j,o⟩=>[(1000000,xB most w b)]) (fun⟨j,o⟩=>[(135,82,o.map Lit.av,0)]) (fun⟨j,o⟩=>lg.decs.length - j) ⟨0,[]⟩ ?_ ?_
   ·exact⟨Nat.zero_le _,rfl⟩
   rintro⟨j,o⟩ ⟨hj,ho⟩
   by_cases hlt2:j < lg.decs.length
   ·obtain⟨x,hx⟩:∃x,lg.decs[j]? =some x:=⟨lg.decs[j]'hlt2,by simp⟩
    have hol:o.length≤j:=by rw [ho];simp;omega
    (repeat' ((conv=>whnf);first|with_reducible refine Idx.got hx rfl ?_|(exfalso;omega)|refine gA ?_|(refine gB ?_ ?_<;>intro h)|(refine gI ?_;intro x hx)|(refine gJ ?_;intro j x hj hx)|refine gP ?_|refine gV ?_|refine gC (dZ x) ?_|intro _))<;>try (conv=>whnf)
    refine nw ⟨j+1,o++[negate x]⟩ ?_ ?_
    ·(repeat' ((conv=>whnf)<;>(first|exact trivial|exact rfl|with_reducible refine And.intro ?_ ?_)))<;>((conv=>whnf)<;>(simp))
    exact⟨by omega,by rw [ho, ← lU negate hx]⟩
   obtain rfl:o=lg.decs.map negate:=by rw [ho,List.take_of_length_le (by omega)]
   have hN:=gD (lg.decs.map negate)
   have hK2:=eX lg.proj ls (aY lg) hph
   by_cases hck:aI lg.proj ls (aY lg)=0
   ·rw [iN,if_pos hck] at he
    subst he
    rw [hck] at hK2
    have Vh:=mH hck
    have hLA:=dQ ls (upTo ls.length) (fun i hi=>nu hi)
    rw [kZ] at hLA
    (repeat' ((conv=>whnf);first|(exfalso;omega)|refine gA ?_|(refine gB ?_ ?_<;>intro h)|(refine gI ?_;intro x hx)|(refine gJ ?_;intro j x hj hx)|refine gP ?_|refine gV ?_|refine gC (hN) ?_|refine gC (hK2) ?_|refine gC (jH ls) ?_|refine gC (hLA) ?_|intro _))<;>try (conv=>whnf)
    (repeat' ((conv=>whnf)<;>(first|exact trivial|exact VC.nod (by kernel_rfl)|refine VC.mk (by first|with_reducible rfl|(exact congrArg AV.sl (List.map_append (l₁:=ls) (l₂:=[aY lg]) (f:=Lin.av)).symm;done)|rfl) ?_)))
   ·rw [iN,if_neg hck] at he
    subst he
    (repeat' ((conv=>whnf);first|(exfalso;omega)|refine gA ?_|(refine gB ?_ ?_<;>intro h)|(refine gI ?_;intro x hx)|(refine gJ ?_;intro j x hj hx)|refine gP ?_|refine gV ?_|refine gC (hN) ?_|refine gC (hK2) ?_|refine gC (fU most w b ls) ?_|intro _))<;>try (conv=>whnf)
    exact fv
 |some s=>
  rw [hs] at hG
  dsimp only [Option.getD,Option.isSome] at hG
  (repeat' ((conv=>whnf);first|(exfalso;omega)|refine gA ?_|(refine gB ?_ ?_<;>intro h)|(refine gI ?_;intro x hx)|(refine gJ ?_;intro j x hj hx)|refine gP ?_|refine gV ?_|refine gC (hP) ?_|refine gC (hS) ?_|refine gC (hG) ?_|refine gC (hC) ?_|refine gC (OL s hs) ?_|refine gC (dZ l) ?_|intro _))<;>try (conv=>whnf)
  refine aA [0,3,100,101] [] [] ?_
  (conv=>whnf)
  refine ay.go ((Nat)×(List Lin)×(Int)) (fun⟨k,ls,w⟩=>(k≤2)∧(fM lg (fun v g=>vis most f v g) ([l,negate l].drop k) ls w=W)∧(v+1≤w∧w≤most)) (fun⟨k,ls,w⟩=>[(102,.data (i64 k))]) (fun⟨k,ls,w⟩=>[(3,lgC lg ls),(1000000,xB most w b)]) (fun _=>[]) (fun⟨k,ls,w⟩=>2 - k) ⟨0,lg.lines,v+1⟩ ?_ ?_
  ·exact⟨by omega,keep,by omega,by omega⟩
  rintro⟨k,ls,w⟩ ⟨hk,he,hw⟩
  by_cases hlt:k < 2
  ·obtain⟨x,hx,hd⟩:∃x,[l.av,(negate l).av][k]? =some x.av∧[l,negate l].drop k=x::[l,negate l].drop (k+1):=by
    rcases k with _|_|k
    ·exact⟨l,rfl,rfl⟩
    ·exact⟨negate l,rfl,rfl⟩
    ·omega
   rw [hd] at he
   have hT:=qN (dB lg ls) x hph hdh
   have hI:([l.av,(negate l).av]:List AV)[k]? =some x.av:=hx
   cases ht:takeLog (dB lg ls) x with
   |none=>
    rw [ht,vX] at hT
    dsimp only [Option.getD,Option.isSome] at hT
    rw [dh (iV ht) (.inr rfl)] at he
    subst he
    (repeat' ((conv=>whnf);first|(exfalso;first|omega|(simp only [List.length_cons,List.length_nil] at h;omega))|refine Idx.lit hI rfl ?_|refine gA ?_|(refine gB ?_ ?_<;>intro h)|(refine gI ?_;intro x hx)|(refine gJ ?_;intro j x hj hx)|refine gP ?_|refine gV ?_|refine gC (hT) ?_|refine gC (fU most w b ls) ?_|intro _))<;>try (conv=>whnf)
    exact fv
   |some n=>
    rw [ht,kS] at hT
    obtain⟨q1,q2,q3,q4⟩:=kF ht
    have hr:=ih b w n (by rw [q1];exact hph) (by rw [q2,List.length_append];simp only [dB,List.length_cons,List.length_nil] at q3 ⊢;omega) (by omega) (by omega) hw.2
    have hb:=jW most f w n hw.2
    have hsw:dS lg (fun v g=>vis most f v g) x ls w=vis most f w n:=iW ht
    rcases Ho:vis most f w n with⟨l1,w1,_|s1,_|_⟩
    ·rw [Ho] at hr hb hsw
     rw [iX hsw] at he
     dsimp only at hb
     rw [sH] at hr
     (repeat' ((conv=>whnf);first|(exfalso;first|omega|(simp only [List.length_cons,List.length_nil] at h;omega))|refine Idx.lit hI rfl ?_|refine gA ?_|(refine gB ?_ ?_<;>intro h)|(refine gI ?_;intro x hx)|(refine gJ ?_;intro j x hj hx)|refine gP ?_|refine gV ?_|refine gC (hT) ?_|refine gC (hr) ?_|intro _))<;>try (conv=>whnf)
     refine nx ⟨k+1,l1,w1⟩ ?_
     exact⟨by omega,he,by omega,by omega⟩
    all_goals
     rw [Ho] at hr hsw
     rw [dh hsw (by simp)] at he
     subst he
     rw [sH] at hr
     (repeat' ((conv=>whnf);first|(exfalso;first|omega|(simp only [List.length_cons,List.length_nil] at h;omega))|refine Idx.lit hI rfl ?_|refine gA ?_|(refine gB ?_ ?_<;>intro h)|(refine gI ?_;intro x hx)|(refine gJ ?_;intro j x hj hx)|refine gP ?_|refine gV ?_|refine gC (hT) ?_|refine gC (hr) ?_|intro _))<;>try (conv=>whnf)
     exact fv
  ·obtain rfl:k=2:=by omega
   have he:iN lg ls w=W:=he
   (repeat' ((conv=>whnf);first|(exfalso;first|omega|(simp only [List.length_cons,List.length_nil] at h;omega))|refine gA ?_|(refine gB ?_ ?_<;>intro h)|(refine gI ?_;intro x hx)|(refine gJ ?_;intro j x hj hx)|refine gP ?_|refine gV ?_|intro _))<;>try (conv=>whnf)
   refine aA [0,3,137,138] [3] [135] ?_
   (conv=>whnf)
   refine ay.go ((Nat)×(List Lit)) (fun⟨j,o⟩=>(j≤lg.decs.length)∧(o=(lg.decs.take j).map negate)) (fun⟨j,o⟩=>[(139,.data (i64 j)),(15,.own 135 0)]) (fun⟨j,o⟩=>[(1000000,xB most w b)]) (fun⟨j,o⟩=>[(135,82,o.map Lit.av,0)]) (fun⟨j,o⟩=>lg.decs.length - j) ⟨0,[]⟩ ?_ ?_
   ·exact⟨Nat.zero_le _,rfl⟩
   rintro⟨j,o⟩ ⟨hj,ho⟩
   by_cases hlt2:j < lg.decs.length
   ·obtain⟨x,hx⟩:∃x,lg.decs[j]? =some x:=⟨lg.decs[j]'hlt2,by simp⟩
    have hol:o.length≤j:=by rw [ho];simp;omega
    (repeat' ((conv=>whnf);first|with_reducible refine Idx.got hx rfl ?_|(exfalso;omega)|refine gA ?_|(refine gB ?_ ?_<;>intro h)|(refine gI ?_;intro x hx)|(refine gJ ?_;intro j x hj hx)|refine gP ?_|refine gV ?_|refine gC (dZ x) ?_|intro _))<;>try (conv=>whnf)
    refine nw ⟨j+1,o++[negate x]⟩ ?_ ?_
    ·(repeat' ((conv=>whnf)<;>(first|exact trivial|exact rfl|with_reducible refine And.intro ?_ ?_)))<;>((conv=>whnf)<;>(simp))
    exact⟨by omega,by rw [ho, ← lU negate hx]⟩
   obtain rfl:o=lg.decs.map negate:=by rw [ho,List.take_of_length_le (by omega)]
   have hN:=gD (lg.decs.map negate)
   have hK2:=eX lg.proj ls (aY lg) hph
   by_cases hck:aI lg.proj ls (aY lg)=0
   ·rw [iN,if_pos hck] at he
    subst he
    rw [hck] at hK2
    have Vh:=mH hck
    have hLA:=dQ ls (upTo ls.length) (fun i hi=>nu hi)
    rw [kZ] at hLA
    (repeat' ((conv=>whnf);first|(exfalso;omega)|refine gA ?_|(refine gB ?_ ?_<;>intro h)|(refine gI ?_;intro x hx)|(refine gJ ?_;intro j x hj hx)|refine gP ?_|refine gV ?_|refine gC (hN) ?_|refine gC (hK2) ?_|refine gC (jH ls) ?_|refine gC (hLA) ?_|intro _))<;>try (conv=>whnf)
    (repeat' ((conv=>whnf)<;>(first|exact trivial|exact VC.nod (by kernel_rfl)|refine VC.mk (by first|with_reducible rfl|(exact congrArg AV.sl (List.map_append (l₁:=ls) (l₂:=[aY lg]) (f:=Lin.av)).symm;done)|rfl) ?_)))
   ·rw [iN,if_neg hck] at he
    subst he
    (repeat' ((conv=>whnf);first|(exfalso;omega)|refine gA ?_|(refine gB ?_ ?_<;>intro h)|(refine gI ?_;intro x hx)|(refine gJ ?_;intro j x hj hx)|refine gP ?_|refine gV ?_|refine gC (hN) ?_|refine gC (hK2) ?_|refine gC (fU most w b ls) ?_|intro _))<;>try (conv=>whnf)
    exact fv
end Go.Proofs.YtefgamefajmdkaaGreat.Abs
namespace Go.Proofs.YtefgamefajmdkaaGreat.Abs
open Go.Proofs Go.RowKit
attribute [local irreducible] eZ fE aI status litValue single choice iH dW
theorem Hq (most:Int) (hm:most≤60) (f:Nat) (ih:∀(b:Lg) (v:Int) (g:Lg),g.proj.fine→g.decs.length≤20→most < v+f→1≤v→v≤most→Con 81 [.bx (xB most v b),.d g.av] (sH most b (vis most f v g))) (v:Int) (g:Lg) (hp:g.proj.fine) (hdl:g.decs.length≤20) (hf:most < v+(f+1)) (h1:v=0) (h0:v≠most) (hv:v≤most):
  Con 81 [.bx (Ug most),.d g.av] (sH most (dW 40 0 g).1 (vis most (f+1) v g)):=by
 subst h1
 rw [sG _ _ _ _ h0]
 have hP:=wh g 40 hp (by omega)
 have hpr:=wo 40 0 g
 have hde:=wz 40 0 g
 rw [WI] at hP
 generalize dW 40 0 g=R0 at hP hpr hde ⊢
 obtain⟨lg,n0⟩:=R0
 dsimp only at hP hpr hde ⊢
 have hph:lg.proj.fine:=hpr ▸ hp
 have hdh:lg.decs.length≤20:=hde ▸ hdl
 have hS:=yw lg hph
 rw [Ql] at hS
 generalize hW:iy lg (fun v g=>vis most f v g) (0+1)=W
 refine con Tryz.func81 rfl rfl Tryz.call81 (Ro rfl) fun hwf=>?_
 simp only [ARs.wf,AR.wf,Pb,xB,Ug,AV.wf,AV.wfs,List.length_map,lim] at hwf
 cases hst:iH lg with
 |some k=>
  rw [hst] at hS
  dsimp only [Option.getD,Option.isSome] at hS
  obtain rfl:W=⟨k.lines,0+1,none,false⟩:=by rw [← hW];exact Bo hst
  (repeat' ((conv=>whnf);first|(exfalso;omega)|refine gA ?_|(refine gB ?_ ?_<;>intro h)|(refine gI ?_;intro x hx)|(refine gJ ?_;intro j x hj hx)|refine gP ?_|refine gV ?_|refine gC (hP) ?_|refine gC (hS) ?_|intro _))<;>try (conv=>whnf)
  exact fv
 |none=>
 rw [hst] at hS
 dsimp only [Option.getD,Option.isSome] at hS
 have hG:=nX lg.dom
 rw [Uf] at hG
 have hC:=nW lg.proj lg.dom hph
 rw [Ue] at hC
 have keep:lV lg=none→(match choice lg.proj lg.dom with|none=>(⟨lg.lines,0+1,none,true⟩:Way)|some l=>fM lg (fun v g=>vis most f v g) [l,negate l] lg.lines (0+1))=W:=fun e=>(Bq hst e).symm.trans hW
 cases hgo:lV lg with
 |some s=>
  obtain⟨hs1,hs2⟩:=Bt hgo
  rw [hs1] at hG
  dsimp only [Option.getD,Option.isSome] at hG
  have hK:=kH lg.proj s hph
  rw [hs2] at hK
  obtain rfl:W=⟨lg.lines,0+1,some s,false⟩:=by rw [← hW];exact Bp hst hgo
  (repeat' ((conv=>whnf);first|(exfalso;omega)|refine gA ?_|(refine gB ?_ ?_<;>intro h)|(refine gI ?_;intro x hx)|(refine gJ ?_;intro j x hj hx)|refine gP ?_|refine gV ?_|refine gC (hP) ?_|refine gC (hS) ?_|refine gC (hG) ?_|refine gC (hK) ?_|intro _))<;>try (conv=>whnf)
  exact fv
 |none=>
 have keep:=keep hgo
 have OL:∀s,single lg.dom=some s→Con 56 [.d lg.proj.av,.d s.av] (.d (.bool false)):=fun s hs=>by
  have:=kH lg.proj s hph
  rwa [DR hgo hs] at this
 cases hch:choice lg.proj lg.dom with
 |none=>
  rw [hch] at hC keep
  dsimp only [Option.getD,Option.isSome] at hC keep
  subst keep
  cases hs:single lg.dom with
  |none=>
   rw [hs] at hG
   dsimp only [Option.getD,Option.isSome] at hG
   (repeat' ((conv=>whnf);first|(exfalso;omega)|refine gA ?_|(refine gB ?_ ?_<;>intro h)|(refine gI ?_;intro x hx)|(refine gJ ?_;intro j x hj hx)|refine gP ?_|refine gV ?_|refine gC (hP) ?_|refine gC (hS) ?_|refine gC (hG) ?_|refine gC (hC) ?_|refine gC (fU most (0+1) lg lg.lines) ?_|intro _))<;>try (conv=>whnf)
   exact fv
  |some s=>
   rw [hs] at hG
   dsimp only [Option.getD,Option.isSome] at hG
   (repeat' ((conv=>whnf);first|(exfalso;omega)|refine gA ?_|(refine gB ?_ ?_<;>intro h)|(refine gI ?_;intro x hx)|(refine gJ ?_;intro j x hj hx)|refine gP ?_|refine gV ?_|refine gC (hP) ?_|refine gC (hS) ?_|refine gC (hG) ?_|refine gC (hC) ?_|refine gC (OL s hs) ?_|refine gC (fU most (0+1) lg lg.lines) ?_|intro _))<;>try (conv=>whnf)
   exact fv
 |some l=>
 rw [hch] at hC keep
 dsimp only [Option.getD,Option.isSome] at hC keep
 have fin:True:=trivial
 cases hs:single lg.dom with
 |none=>
  rw [hs] at hG
  dsimp only [Option.getD,Option.isSome] at hG
  (repeat' ((conv=>whnf);first|(exfalso;omega)|refine gA ?_|(refine gB ?_ ?_<;>intro h)|(refine gI ?_;intro x hx)|(refine gJ ?_;intro j x hj hx)|refine gP ?_|refine gV ?_|refine gC (hP) ?_|refine gC (hS) ?_|refine gC (hG) ?_|refine gC (hC) ?_|refine gC (dZ l) ?_|intro _))<;>try (conv=>whnf)
  refine aA [0,3,100,101] [] [] ?_
  (conv=>whnf)
  refine ay.go ((Nat)×(List Lin)×(Int)) (fun⟨k,ls,w⟩=>(k≤2)∧(fM lg (fun v g=>vis most f v g) ([l,negate l].drop k) ls w=W)∧(0+1≤w∧w≤most)) (fun⟨k,ls,w⟩=>[(102,.data (i64 k))]) (fun⟨k,ls,w⟩=>[(3,lgC lg ls),(1000000,xB most w lg)]) (fun _=>[]) (fun⟨k,ls,w⟩=>2 - k) ⟨0,lg.lines,0+1⟩ ?_ ?_
  ·exact⟨by omega,keep,by omega,by omega⟩
  rintro⟨k,ls,w⟩ ⟨hk,he,hw⟩
  by_cases hlt:k < 2
  ·obtain⟨x,hx,hd⟩:∃x,[l.av,(negate l).av][k]? =some x.av∧[l,negate l].drop k=x::[l,negate l].drop (k+1):=by
    rcases k with _|_|k
    ·exact⟨l,rfl,rfl⟩
    ·exact⟨negate l,rfl,rfl⟩
    ·omega
   rw [hd] at he
   have hT:=qN (dB lg ls) x hph hdh
   have hI:([l.av,(negate l).av]:List AV)[k]? =some x.av:=hx
   cases ht:takeLog (dB lg ls) x with
   |none=>
    rw [ht,vX] at hT
    dsimp only [Option.getD,Option.isSome] at hT
    rw [dh (iV ht) (.inr rfl)] at he
    subst he
    (repeat' ((conv=>whnf);first|(exfalso;first|omega|(simp only [List.length_cons,List.length_nil] at h;omega))|refine Idx.lit hI rfl ?_|refine gA ?_|(refine gB ?_ ?_<;>intro h)|(refine gI ?_;intro x hx)|(refine gJ ?_;intro j x hj hx)|refine gP ?_|refine gV ?_|refine gC (hT) ?_|refine gC (fU most w lg ls) ?_|intro _))<;>try (conv=>whnf)
    exact fv
   |some n=>
    rw [ht,kS] at hT
    obtain⟨q1,q2,q3,q4⟩:=kF ht
    have hr:=ih lg w n (by rw [q1];exact hph) (by rw [q2,List.length_append];simp only [dB,List.length_cons,List.length_nil] at q3 ⊢;omega) (by omega) (by omega) hw.2
    have hb:=jW most f w n hw.2
    have hsw:dS lg (fun v g=>vis most f v g) x ls w=vis most f w n:=iW ht
    rcases Ho:vis most f w n with⟨l1,w1,_|s1,_|_⟩
    ·rw [Ho] at hr hb hsw
     rw [iX hsw] at he
     dsimp only at hb
     rw [sH] at hr
     (repeat' ((conv=>whnf);first|(exfalso;first|omega|(simp only [List.length_cons,List.length_nil] at h;omega))|refine Idx.lit hI rfl ?_|refine gA ?_|(refine gB ?_ ?_<;>intro h)|(refine gI ?_;intro x hx)|(refine gJ ?_;intro j x hj hx)|refine gP ?_|refine gV ?_|refine gC (hT) ?_|refine gC (hr) ?_|intro _))<;>try (conv=>whnf)
     refine nx ⟨k+1,l1,w1⟩ ?_
     exact⟨by omega,he,by omega,by omega⟩
    all_goals
     rw [Ho] at hr hsw
     rw [dh hsw (by simp)] at he
     subst he
     rw [sH] at hr
     (repeat' ((conv=>whnf);first|(exfalso;first|omega|(simp only [List.length_cons,List.length_nil] at h;omega))|refine Idx.lit hI rfl ?_|refine gA ?_|(refine gB ?_ ?_<;>intro h)|(refine gI ?_;intro x hx)|(refine gJ ?_;intro j x hj hx)|refine gP ?_|refine gV ?_|refine gC (hT) ?_|refine gC (hr) ?_|intro _))<;>try (conv=>whnf)
     exact fv
  ·obtain rfl:k=2:=by omega
   have he:iN lg ls w=W:=he
   (repeat' ((conv=>whnf);first|(exfalso;first|omega|(simp only [List.length_cons,List.length_nil] at h;omega))|refine gA ?_|(refine gB ?_ ?_<;>intro h)|(refine gI ?_;intro x hx)|(refine gJ ?_;intro j x hj hx)|refine gP ?_|refine gV ?_|intro _))<;>try (conv=>whnf)
   refine aA [0,3,137,138] [3] [135] ?_
   (conv=>whnf)
   refine ay.go ((Nat)×(List Lit)) (fun⟨j,o⟩=>(j≤lg.decs.length)∧(o=(lg.decs.take j).map negate)) (fun⟨j,o⟩=>[(139,.data (i64 j)),(15,.own 135 0)]) (fun⟨j,o⟩=>[(1000000,xB most w lg)]) (fun⟨j,o⟩=>[(135,82,o.map Lit.av,0)]) (fun⟨j,o⟩=>lg.decs.length - j) ⟨0,[]⟩ ?_ ?_
   ·exact⟨Nat.zero_le _,rfl⟩
   rintro⟨j,o⟩ ⟨hj,ho⟩
   by_cases hlt2:j < lg.decs.length
   ·obtain⟨x,hx⟩:∃x,lg.decs[j]? =some x:=⟨lg.decs[j]'hlt2,by simp⟩
    have hol:o.length≤j:=by rw [ho];simp;omega
    (repeat' ((conv=>whnf);first|with_reducible refine Idx.got hx rfl ?_|(exfalso;omega)|refine gA ?_|(refine gB ?_ ?_<;>intro h)|(refine gI ?_;intro x hx)|(refine gJ ?_;intro j x hj hx)|refine gP ?_|refine gV ?_|refine gC (dZ x) ?_|intro _))<;>try (conv=>whnf)
    refine nw ⟨j+1,o++[negate x]⟩ ?_ ?_
    ·(repeat' ((conv=>whnf)<;>(first|exact trivial|exact rfl|with_reducible refine And.intro ?_ ?_)))<;>((conv=>whnf)<;>(simp))
    exact⟨by omega,by rw [ho, ← lU negate hx]⟩
   obtain rfl:o=lg.decs.map negate:=by rw [ho,List.take_of_length_le (by omega)]
   have hN:=gD (lg.decs.map negate)
   have hK2:=eX lg.proj ls (aY lg) hph
   by_cases hck:aI lg.proj ls (aY lg)=0
   ·rw [iN,if_pos hck] at he
    subst he
    rw [hck] at hK2
    have Vh:=mH hck
    have hLA:=dQ ls (upTo ls.length) (fun i hi=>nu hi)
    rw [kZ] at hLA
    (repeat' ((conv=>whnf);first|(exfalso;omega)|refine gA ?_|(refine gB ?_ ?_<;>intro h)|(refine gI ?_;intro x hx)|(refine gJ ?_;intro j x hj hx)|refine gP ?_|refine gV ?_|refine gC (hN) ?_|refine gC (hK2) ?_|refine gC (jH ls) ?_|refine gC (hLA) ?_|intro _))<;>try (conv=>whnf)
    (repeat' ((conv=>whnf)<;>(first|exact trivial|exact VC.nod (by kernel_rfl)|refine VC.mk (by first|with_reducible rfl|(exact congrArg AV.sl (List.map_append (l₁:=ls) (l₂:=[aY lg]) (f:=Lin.av)).symm;done)|rfl) ?_)))
   ·rw [iN,if_neg hck] at he
    subst he
    (repeat' ((conv=>whnf);first|(exfalso;omega)|refine gA ?_|(refine gB ?_ ?_<;>intro h)|(refine gI ?_;intro x hx)|(refine gJ ?_;intro j x hj hx)|refine gP ?_|refine gV ?_|refine gC (hN) ?_|refine gC (hK2) ?_|refine gC (fU most w lg ls) ?_|intro _))<;>try (conv=>whnf)
    exact fv
 |some s=>
  rw [hs] at hG
  dsimp only [Option.getD,Option.isSome] at hG
  (repeat' ((conv=>whnf);first|(exfalso;omega)|refine gA ?_|(refine gB ?_ ?_<;>intro h)|(refine gI ?_;intro x hx)|(refine gJ ?_;intro j x hj hx)|refine gP ?_|refine gV ?_|refine gC (hP) ?_|refine gC (hS) ?_|refine gC (hG) ?_|refine gC (hC) ?_|refine gC (OL s hs) ?_|refine gC (dZ l) ?_|intro _))<;>try (conv=>whnf)
  refine aA [0,3,100,101] [] [] ?_
  (conv=>whnf)
  refine ay.go ((Nat)×(List Lin)×(Int)) (fun⟨k,ls,w⟩=>(k≤2)∧(fM lg (fun v g=>vis most f v g) ([l,negate l].drop k) ls w=W)∧(0+1≤w∧w≤most)) (fun⟨k,ls,w⟩=>[(102,.data (i64 k))]) (fun⟨k,ls,w⟩=>[(3,lgC lg ls),(1000000,xB most w lg)]) (fun _=>[]) (fun⟨k,ls,w⟩=>2 - k) ⟨0,lg.lines,0+1⟩ ?_ ?_
  ·exact⟨by omega,keep,by omega,by omega⟩
  rintro⟨k,ls,w⟩ ⟨hk,he,hw⟩
  by_cases hlt:k < 2
  ·obtain⟨x,hx,hd⟩:∃x,[l.av,(negate l).av][k]? =some x.av∧[l,negate l].drop k=x::[l,negate l].drop (k+1):=by
    rcases k with _|_|k
    ·exact⟨l,rfl,rfl⟩
    ·exact⟨negate l,rfl,rfl⟩
    ·omega
   rw [hd] at he
   have hT:=qN (dB lg ls) x hph hdh
   have hI:([l.av,(negate l).av]:List AV)[k]? =some x.av:=hx
   cases ht:takeLog (dB lg ls) x with
   |none=>
    rw [ht,vX] at hT
    dsimp only [Option.getD,Option.isSome] at hT
    rw [dh (iV ht) (.inr rfl)] at he
    subst he
    (repeat' ((conv=>whnf);first|(exfalso;first|omega|(simp only [List.length_cons,List.length_nil] at h;omega))|refine Idx.lit hI rfl ?_|refine gA ?_|(refine gB ?_ ?_<;>intro h)|(refine gI ?_;intro x hx)|(refine gJ ?_;intro j x hj hx)|refine gP ?_|refine gV ?_|refine gC (hT) ?_|refine gC (fU most w lg ls) ?_|intro _))<;>try (conv=>whnf)
    exact fv
   |some n=>
    rw [ht,kS] at hT
    obtain⟨q1,q2,q3,q4⟩:=kF ht
    have hr:=ih lg w n (by rw [q1];exact hph) (by rw [q2,List.length_append];simp only [dB,List.length_cons,List.length_nil] at q3 ⊢;omega) (by omega) (by omega) hw.2
    have hb:=jW most f w n hw.2
    have hsw:dS lg (fun v g=>vis most f v g) x ls w=vis most f w n:=iW ht
    rcases Ho:vis most f w n with⟨l1,w1,_|s1,_|_⟩
    ·rw [Ho] at hr hb hsw
     rw [iX hsw] at he
     dsimp only at hb
     rw [sH] at hr
     (repeat' ((conv=>whnf);first|(exfalso;first|omega|(simp only [List.length_cons,List.length_nil] at h;omega))|refine Idx.lit hI rfl ?_|refine gA ?_|(refine gB ?_ ?_<;>intro h)|(refine gI ?_;intro x hx)|(refine gJ ?_;intro j x hj hx)|refine gP ?_|refine gV ?_|refine gC (hT) ?_|refine gC (hr) ?_|intro _))<;>try (conv=>whnf)
     refine nx ⟨k+1,l1,w1⟩ ?_
     exact⟨by omega,he,by omega,by omega⟩
    all_goals
     rw [Ho] at hr hsw
     rw [dh hsw (by simp)] at he
     subst he
     rw [sH] at hr
     (repeat' ((conv=>whnf);first|(exfalso;first|omega|(simp only [List.length_cons,List.length_nil] at h;omega))|refine Idx.lit hI rfl ?_|refine gA ?_|(refine gB ?_ ?_<;>intro h)|(refine gI ?_;intro x hx)|(refine gJ ?_;intro j x hj hx)|refine gP ?_|refine gV ?_|refine gC (hT) ?_|refine gC (hr) ?_|intro _))<;>try (conv=>whnf)
     exact fv
  ·obtain rfl:k=2:=by omega
   have he:iN lg ls w=W:=he
   (repeat' ((conv=>whnf);first|(exfalso;first|omega|(simp only [List.length_cons,List.length_nil] at h;omega))|refine gA ?_|(refine gB ?_ ?_<;>intro h)|(refine gI ?_;intro x hx)|(refine gJ ?_;intro j x hj hx)|refine gP ?_|refine gV ?_|intro _))<;>try (conv=>whnf)
   refine aA [0,3,137,138] [3] [135] ?_
   (conv=>whnf)
   refine ay.go ((Nat)×(List Lit)) (fun⟨j,o⟩=>(j≤lg.decs.length)∧(o=(lg.decs.take j).map negate)) (fun⟨j,o⟩=>[(139,.data (i64 j)),(15,.own 135 0)]) (fun⟨j,o⟩=>[(1000000,xB most w lg)]) (fun⟨j,o⟩=>[(135,82,o.map Lit.av,0)]) (fun⟨j,o⟩=>lg.decs.length - j) ⟨0,[]⟩ ?_ ?_
   ·exact⟨Nat.zero_le _,rfl⟩
   rintro⟨j,o⟩ ⟨hj,ho⟩
   by_cases hlt2:j < lg.decs.length
   ·obtain⟨x,hx⟩:∃x,lg.decs[j]? =some x:=⟨lg.decs[j]'hlt2,by simp⟩
    have hol:o.length≤j:=by rw [ho];simp;omega
    (repeat' ((conv=>whnf);first|with_reducible refine Idx.got hx rfl ?_|(exfalso;omega)|refine gA ?_|(refine gB ?_ ?_<;>intro h)|(refine gI ?_;intro x hx)|(refine gJ ?_;intro j x hj hx)|refine gP ?_|refine gV ?_|refine gC (dZ x) ?_|intro _))<;>try (conv=>whnf)
    refine nw ⟨j+1,o++[negate x]⟩ ?_ ?_
    ·(repeat' ((conv=>whnf)<;>(first|exact trivial|exact rfl|with_reducible refine And.intro ?_ ?_)))<;>((conv=>whnf)<;>(simp))
    exact⟨by omega,by rw [ho, ← lU negate hx]⟩
   obtain rfl:o=lg.decs.map negate:=by rw [ho,List.take_of_length_le (by omega)]
   have hN:=gD (lg.decs.map negate)
   have hK2:=eX lg.proj ls (aY lg) hph
   by_cases hck:aI lg.proj ls (aY lg)=0
   ·rw [iN,if_pos hck] at he
    subst he
    rw [hck] at hK2
    have Vh:=mH hck
    have hLA:=dQ ls (upTo ls.length) (fun i hi=>nu hi)
    rw [kZ] at hLA
    (repeat' ((conv=>whnf);first|(exfalso;omega)|refine gA ?_|(refine gB ?_ ?_<;>intro h)|(refine gI ?_;intro x hx)|(refine gJ ?_;intro j x hj hx)|refine gP ?_|refine gV ?_|refine gC (hN) ?_|refine gC (hK2) ?_|refine gC (jH ls) ?_|refine gC (hLA) ?_|intro _))<;>try (conv=>whnf)
    (repeat' ((conv=>whnf)<;>(first|exact trivial|exact VC.nod (by kernel_rfl)|refine VC.mk (by first|with_reducible rfl|(exact congrArg AV.sl (List.map_append (l₁:=ls) (l₂:=[aY lg]) (f:=Lin.av)).symm;done)|rfl) ?_)))
   ·rw [iN,if_neg hck] at he
    subst he
    (repeat' ((conv=>whnf);first|(exfalso;omega)|refine gA ?_|(refine gB ?_ ?_<;>intro h)|(refine gI ?_;intro x hx)|(refine gJ ?_;intro j x hj hx)|refine gP ?_|refine gV ?_|refine gC (hN) ?_|refine gC (hK2) ?_|refine gC (fU most w lg ls) ?_|intro _))<;>try (conv=>whnf)
    exact fv
end Go.Proofs.YtefgamefajmdkaaGreat.Abs
namespace Go.Proofs.YtefgamefajmdkaaGreat.Abs
open Go.Proofs Go.RowKit
attribute [local irreducible] eZ fE aI status litValue single choice iH dW vis
structure Qr where
 log:Lg
 sched:bE
 found:Bool
 visits:Int
 stopped:Bool
abbrev Qr.cellsOf (x:Qr):List AV:=[i64 x.log.proj.dead,.sl (x.log.proj.acts.map aB.av),.sl (x.log.proj.links.map Link.av),.sl (x.log.proj.aW.map bI.av),ints x.log.proj.aR,ints x.log.dom.lo,ints x.log.dom.hi,.sl (x.log.dom.modes.map ints),lits x.log.decs,.sl (x.log.lines.map Lin.av),ints x.sched.starts,ints x.sched.modes,.bool x.found,i64 x.visits,.bool x.stopped]
abbrev Qr.av (x:Qr):AV:=.agg x.cellsOf
def WJ (x:Qr):RV:=.agg [.d (i64 x.log.proj.dead),.lin 103 (x.log.proj.acts.map aB.av),.lin 130 (x.log.proj.links.map Link.av),.lin 126 (x.log.proj.aW.map bI.av),.lin 3 (x.log.proj.aR.map i64),.lin 3 (x.log.dom.lo.map i64),.lin 3 (x.log.dom.hi.map i64),.lin 26 (x.log.dom.modes.map ints),.lin 82 (x.log.decs.map Lit.av),.lin 53 (x.log.lines.map Lin.av),.lin 3 (x.sched.starts.map i64),.lin 3 (x.sched.modes.map i64),.d (.bool x.found),.d (i64 x.visits),.d (.bool x.stopped)]
def Qs (h:Lg) (w:Way):Qr:=⟨dB h w.lines,w.found.getD ⟨[],[]⟩,w.found.isSome,w.visits,w.stopped⟩
def bW (g:Lg) (most:Int):Qr:=if vG g=true∧within most 1 60=true then Qs (dW 40 0 g).1 (vis most (most.toNat+1) 0 g) else⟨QZ,⟨[],[]⟩,false,0,false⟩
theorem Kh (most:Int) (hm:most≤60):∀(f:Nat) (b:Lg) (v:Int) (g:Lg),g.proj.fine→g.decs.length≤20→most < v+f→1≤v→v≤most→Con 81 [.bx (xB most v b),.d g.av] (sH most b (vis most f v g))
 |0,b,v,g,_,_,h,_,h2=>by omega
 |f+1,b,v,g,hp,hd,hf,h1,hv=>by
  by_cases h0:v=most
  ·subst h0
   rw [Bn]
   exact Em v b g
  ·exact IW most hm b f (Kh most hm f) v g hp hd hf h1 h0 hv
theorem DT (g:Lg) (most:Int) (hp:g.proj.fine):Con 29 [.d g.av,.d (i64 most)] (WJ (bW g most)):=by
 refine con Tryz.func29 rfl rfl Tryz.call29 rfl fun hwf=>?_
 have hO:=Qm g hp
 have hW:=aO most 1 60
 by_cases hk:vG g=true∧within most 1 60=true
 ·obtain⟨h1,h2⟩:=hk
  have hb:=within_iff.1 h2
  rw [bW,if_pos ⟨h1,h2⟩]
  rw [h1] at hO
  rw [h2] at hW
  obtain⟨m,rfl⟩:∃m:Nat,most=m:=⟨most.toNat,by omega⟩
  rw [Int.toNat_natCast]
  have hV:=Hq m (by omega) m (Kh m (by omega) m) 0 g hp (Qn h1) (by omega) rfl (by omega) (by omega)
  generalize (dW 40 0 g).1=h at hV ⊢
  generalize vis m (m+1) 0 g=W at hV ⊢
  rcases W with⟨ls,v,_|s,st⟩
  all_goals
   rw [sH] at hV
   have hLA:=dQ ls (upTo ls.length) (fun i hi=>nu hi)
   rw [kZ] at hLA
   (repeat' ((conv=>whnf);first|refine gA ?_|(refine gN ?_ ?_<;>intro h hw)|(refine gB ?_ ?_<;>intro h)|refine gC (hO) ?_|refine gC (hW) ?_|refine gC (rz g) ?_|refine gC (hV) ?_|refine gC (rz h) ?_|refine gC (jH ls) ?_|refine gC (hLA) ?_|intro _))<;>try (conv=>whnf)
   exact fv
 ·rw [bW,if_neg hk]
  (repeat' ((conv=>whnf);first|refine gA ?_|(refine gN ?_ ?_<;>intro h hw)|(refine gB ?_ ?_<;>intro h)|refine gC (hO) ?_|refine gC (hW) ?_|intro _))<;>try (conv=>whnf)
  all_goals first
   |(exfalso;simp_all;done)
   |exact fv
end Go.Proofs.YtefgamefajmdkaaGreat.Abs
